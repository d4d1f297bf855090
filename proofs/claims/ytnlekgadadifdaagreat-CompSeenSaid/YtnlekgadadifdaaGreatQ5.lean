/- For two starts whose runs are Done, the runs of a program have equal events exactly if the runs of the code that comp.Compile makes have, and the code then has equal costs; programs of at most 600 nodes. -/
import Derived.Test.YtnlekgadadifdaaGreatQ4
import Derived.Test.YtnlekgadadifdaaGreatProg
set_option maxRecDepth 100000
set_option maxHeartbeats 16000000
set_option linter.unusedVariables false
set_option linter.unusedSimpArgs false
namespace Go.Proofs.YtnlekgadadifdaaGreat.Print
open Go.RowKit Go.Proofs.YtnlekgadadifdaaGreatW.PrintWords Go.Proofs.YtnlekgadadifdaaGreatW.PrintLast Go.Proofs.YtnlekgadadifdaaGreatW.PrintMore
attribute [local go_sem] zn zl zr zq zh zg zm zk 
mutual
def zL.l0 : Nat -> Int -> List (S76) -> List Int -> List (Z4) -> Int -> Int -> Int -> Int -> List (S62) -> Option ((List (Z4)))
 | 0, _, _, _, _, _, _, _, _, _ => none
 | k + 1, x0, x1, x2, x9, x10, x947000, x947001, x947002, x947003 => if x10 < (x947003.length : Int) then (if 0 <= x10 then ((zL.f k x0 x1 x2 ((zi x947003 x10).f0) ((zi x947003 x10).f1) ((zi x947003 x10).f2) ((zi x947003 x10).f3)).bind fun t948 => (if x9.length + t948.length < 5864062014805 then (zL.l0 k x0 x1 x2 (x9 ++ t948) (wrap64 (x10 + 1)) x947000 x947001 x947002 x947003) else (none))) else (none)) else (if x947000 = 1 then (if (x947003.length : Int) > 0 then (if 0 < (x947003.length : Int) then ((zR.f k x0 x1 (([x2] : List (List Int))) ((zi x947003 0).f0) ((zi x947003 0).f1) ((zi x947003 0).f2) ((zi x947003 0).f3)).bind fun t958 => (if 0 <= x947001 then (if x947001 < (x1.length : Int) then (if ((zp x1 x947001).f2) = 0 then (none) else (if x9.length < 5864062014805 then (some (x9 ++ [(⟨1, x947001, Int.tmod t958 ((zp x1 x947001).f2)⟩ : Z4)])) else (none))) else (none)) else (none))) else (none)) else (some x9)) else (some x9))
def zL.f : Nat -> Int -> List (S76) -> List Int -> Int -> Int -> Int -> List (S62) -> Option ((List (Z4)))
 | 0, _, _, _, _, _, _, _ => none
 | k + 1, a0, l1, l2, a3_0, a3_1, a3_2, l3_3 => zL.l0 k a0 l1 l2 ([] : List (Z4)) 0 a3_0 a3_1 a3_2 l3_3
end
def zL.T8 : Bool × List (List Nat × List Nat) := (true, [([], []), ([], []), ([1], [1]), ([], []), ([], []), ([], []), ([5], [5]), ([4, 6], [4, 6]), ([7], [7]), ([8], [8]), ([3, 9], [3, 9]), ([2, 10], [2, 10]), ([11], [11]), ([0, 12], [0, 12]), ([13, 13, 0, 1, 2, 3, 4, 5, 6, 7, 8, 9, 10, 11, 12, 13], [0, 13])])
def zL.B8 : List Nat := [0, 0, 2, 0, 0, 0, 32, 112, 240, 496, 1016, 2046, 4094, 8191, 16383]
theorem zL.tab8 : Yh .any (z5H Tryz.f72 8) = zL.T8 := by kernel_rfl
theorem zL.bits8 : z03 zL.T8.2 zL.B8 = true := by kernel_rfl
theorem zL.calls (k : Nat) : ∀ (a0 : Int) (A1 : Option Addr) (c1 : Nat) (l1 : List (S76)) (P2_ : Nat -> Prop) (A2 : Option Addr) (c2 : Nat) (l2 : List Int) (a3_0 : Int) (a3_1 : Int) (a3_2 : Int) (A3_3 : Option Addr) (c3_3 : Nat) (l3_3 : List (S62)) (r : List (Z4)) (w : World) (hr1 : Kd.C k76 w A1 l1.length l1) (hc1 : l1.length <= c1) (hs2 : Kd.V (Kd.int .i64) 3 w w.heap.size (fun k_ => P2_ k_) (.slice A2 l2.length c2) l2) (hr3_3 : Kd.C k62 w A3_3 l3_3.length l3_3) (hc3_3 : l3_3.length <= c3_3) (h : zL.f k a0 l1 l2 a3_0 a3_1 a3_2 l3_3 = some r),
  Calls Tryz.prog 72 #[.int .i64 a0, .slice A1 l1.length c1, .slice A2 l2.length c2, .agg (Ve a3_0 a3_1 a3_2 A3_3 l3_3 c3_3)] w fun e w' => ∃ v0_ : Value, e = .returned (v0_) /\ Kd.R Ye 144 w' w.heap.size (fun k_ => (w.heap.size <= k_)) v0_ r /\ Below w.heap.size w w' := by
 induction k using Nat.strongRecOn with
 | _ k ih =>
 intro a0 A1 c1 l1 P2_ A2 c2 l2 a3_0 a3_1 a3_2 A3_3 c3_3 l3_3 r w hr1 hc1 hs2 hr3_3 hc3_3 h
 cases k with
 | zero => exact jm h (by simp [zL.f])
 | succ k =>
 simp only [zL.f] at h
 have hu62 := Tryz.underlying62
 have hu144 := Tryz.underlying144
 have HR1 := am hr1
 have HC1 := am hc1
 clear hr1 hc1
 have HO2 := am (show Kd.V (Kd.int .i64) 3 w w.heap.size (fun k_ => (P2_ k_ \/ w.heap.size <= k_)) (.slice A2 l2.length c2) l2 from Kd.V_mono hs2 (fun k_ hk => .inl hk))
 have HR3_3 := am hr3_3
 have HC3_3 := am hc3_3
 clear hr3_3 hc3_3
 have HB := am (jc w.heap.size w)
 have H := h
 clear h
 have H' := am H
 clear H
 go_enter Tryz.func72, Tryz.ntmps72
 go_wp2_with (first | ((with_reducible refine zw (N := 7) rfl ?_); (try (refine zB (by rfl) ?_; dsimp only)); refine bx 7 rfl rfl (Ve a3_0 a3_1 a3_2 A3_3 l3_3 c3_3) 62 ?_; intro gb946 hg w5 hbox hb; have BK946 := am (hbox); have GE946 := ge HB hg; replace HO2 := am (Kd.V_below (Kd.V_elderB (iV HO2) gb946 (Nat.le_of_eq hg.symm)) hb); replace HB := sb HB hb; clear hb hbox hg))
 go_loopg [9, 10] k (fun kq v9 v10 w' => ∃ (x9_1 : List (Z4)) (x10_1 : Int), v10 = .int .i64 x10_1 /\ Aside0 (zL.l0 kq a0 l1 l2 x9_1 x10_1 a3_0 a3_1 a3_2 l3_3 = some r) /\ Aside0 (kq <= k) /\ Aside0 (Kd.V (Kd.int .i64) 3 w' w.heap.size (fun k_ => (P2_ k_ \/ w.heap.size <= k_) /\ some k_ ≠ (v9 : Value).ownBlock /\ k_ ≠ gb946) (.slice A2 l2.length c2) l2) /\ Aside0 (Kd.R Ye 144 w' w.heap.size (fun k_ => (w.heap.size <= k_)) v9 x9_1) /\ Aside0 (w'.heap[gb946]? = some (.cells #[.int .i64 a3_0, .int .i64 a3_1, .int .i64 a3_2, (.slice A3_3 l3_3.length c3_3)] 62 (0, 0))) /\ Aside0 (Below w.heap.size w w'))
 case atStart => exact ⟨(([] : List (Z4))), (0), rs, H', ⟨jk _⟩, ⟨by (with_reducible repeat (first | apply Kd.V_alloc | apply Kd.V_drewN | apply Kd.V_drew)); exact Kd.V_mono HO2.out (fun _ hk => ⟨hk.1, ⟨(by simp [Value.ownBlock]), hk.2⟩⟩)⟩, ⟨by first | exact Kd.R_nil _ _ _ _ _ | exact Kd.N_nil _ _ _ _ _ | exact Kd.V_nil _ _ _ _ _ | exact Kd.Q_nil _ _ _ _ _ | exact Kd.S_nil _ _ _ _ _⟩, ⟨kk BK946⟩, ⟨bb HB⟩⟩
 case round =>
  clear H'
  obtain ⟨x9_1, x10_1, rfl, HA, HK1, HO_2, HO_9, BK946, HB⟩ := hrel
  cases gk with
  | zero => exact jm HA.out (by simp [zL.l0])
  | succ k1 =>
   have H := HA.out
   clear HA
   simp only [zL.l0] at H
   obtain ⟨c6b0, H⟩ | ⟨c6b0, H⟩ := iE H
   ·obtain ⟨c7b0, H⟩ := pd H
    obtain ⟨t948, A8, H⟩ := be H
    by_cases c9 : x9_1.length + t948.length < 5864062014805
    rotate_left
    ·rw [ja c9] at H
     exact jm H (by simp)
    rw [jb c9] at H
    have LMc9 := am c9
    clear c9
    obtain ⟨y951, hy951⟩ : ∃ y_ : List (Z4), y_ = (x9_1 ++ t948) := ⟨_, rfl⟩
    replace H : (zL.l0 k1 a0 l1 l2 y951 (wrap64 (x10_1 + 1)) a3_0 a3_1 a3_2 l3_3) = some r := by first | (rw [hy951]; with_reducible exact H) | (have H2_ := (jv _ _).symm.trans H; rw [hy951]; with_reducible exact H2_) | (have H2_ := (jv _ _).symm.trans H; with_reducible exact H2_) | with_reducible exact H | (rw [hy951]; exact H) | exact H
    have Ny951 := am hy951
    clear hy951
    have H' := am H
    clear H
    have hz10 := cf4 BK946.out
    have p947 : 0 <= (x10_1 : Int) := od
    have q947 : x10_1 < (l3_3.length : Int) := od
    obtain ⟨ad947, A947_3, c947_3, e947, hx947_0, hx947_1, hx947_2, hx947_3, hl947_3, hi947_3⟩ := Zk HR3_3.out x10_1 p947 q947
    cases e947
    replace hx947_0 := zo HB.out hx947_0
    replace hx947_1 := zo HB.out hx947_1
    replace hx947_2 := zo HB.out hx947_2
    replace hx947_3 := zo HB.out hx947_3
    have HR947_3 := am hi947_3
    have HC947_3 := am hl947_3
    clear hi947_3 hl947_3
    replace p947 := eT p947
    replace q947 := eT q947
    go_wp2_with (first | (go_at_call 72; (with_reducible refine (ih k1 (by have := HK1.out; omega) a0 _ _ l1 (fun k_ => ((P2_ k_ \/ w.heap.size <= k_) /\ (some k_ ≠ (u9 : Value).ownBlock /\ k_ ≠ gb946))) _ _ l2 ((zi l3_3 x10_1).f0) ((zi l3_3 x10_1).f1) ((zi l3_3 x10_1).f2) _ _ ((zi l3_3 x10_1).f3) t948 _ (cb HR1 HB) HC1.out HO_2.out (cb HR947_3 HB) HC947_3.out A8.out).mono ?_); rintro e w11 ⟨v949, rfl, ho0, hb⟩; have HO950 := am (Kd.R_lower (Kd.R_new' (Kd.R_newM (M := fun k_ => (w.heap.size <= k_)) (jr (ok' := fun k_ => True) ho0 (fun _ hk_ => trivial)) (bsz (bb HB)) (fun k_ h_ => h_)) (Kd.R_lt (iR HO_9))) (bsz (bb HB))); replace HO_2 := am (Kd.V_elder' (iV HO_2) (Kd.R_base ho0) hb); replace HO_9 := am (Kd.R_elder' (iR HO_9) (Kd.R_base ho0) hb); replace BK946 := kb BK946 hb; replace HB := sb HB hb; obtain ⟨Ao13, co13, eo13⟩ := js HO950.out; subst eo13) | ((with_reducible refine Zq (b := .append) (xs := #[.tmp 19, .tmp 28]) rfl ?_); (try (refine zB (by rfl) ?_; dsimp only)); at_builtin; refine Kd.R_append_rows Ye (w0 := w) w.heap.size rfl (.tmp 19) (.tmp 28) 42 144 (.agg #[(.int .i64 0), (.int .i64 0), (.int .i64 0)]) 24 rfl Tryz.underlying42 z5Y rfl (by decide) (by omega) u9 x9_1 t948 _ _ _ (fun k_ => (w.heap.size <= k_) /\ some k_ ≠ (.slice Ao13 t948.length co13 : Value).ownBlock) (fun _ => False) rfl rfl ?aO ?aR (fun _ _ h => h) (fun _ h => h.elim) ?aF ?aB ?aS ?aL ?_; (case aR => repeat (first | exact (Kd.R_reads' HO950.out).2.2 | with_reducible first | apply Kd.C_alloc | apply Kd.C_drewN | apply Kd.C_drew)); (case aB => exact (bb HB)); (case aF => exact (fun k_ hk => ⟨(Nat.le_trans (bsz (bb HB)) hk), Kd.fresh' (Kd.R_lt (iR HO950)) k_ hk⟩)); (case aO => exact (iR HO_9)); (case aS => exact (bsz (bb HB))); (case aL => have := LMc9.out; omega); intro v952 w12 ho hb hg hat; rw [<- Ny951.out] at ho; have HO953 := am (ho); replace HO_2 := am (Kd.V_afterv (ok := (fun k_ => (P2_ k_ \/ w.heap.size <= k_) /\ some k_ ≠ (.slice Ao13 t948.length co13 : Value).ownBlock /\ k_ ≠ gb946)) (by (with_reducible repeat (first | apply Kd.V_alloc | apply Kd.V_drewN | apply Kd.V_drew)); exact Kd.V_mono HO_2.out (fun _ hk => ⟨⟨hk.1.1, ⟨hk.2, hk.1.2.2⟩⟩, hk.1.2.1⟩)) hg hat); replace BK946 := am (zO (kk BK946) hg (Kd.R_ne HO_9.out BK946.out (by decide))); replace HO950 := am (Kd.R_after (ok := (fun k_ => (w.heap.size <= k_))) (by (with_reducible repeat (first | apply Kd.R_alloc | apply Kd.R_drewN | apply Kd.R_drew)); exact jr HO950.out (fun _ hk => ⟨hk.1.1, hk.2⟩)) hg hat); replace HB := am (hb); clear HO_9; clear ho hb hg hat))
    go_roundg k1
    case measure => have := HK1.out; omega
    case rel => exact ⟨(y951), (wrap64 (x10_1 + 1)), rs, H', ⟨by have := HK1.out; omega⟩, ⟨by (with_reducible repeat (first | apply Kd.V_alloc | apply Kd.V_drewN | apply Kd.V_drew)); exact Kd.V_mono HO_2.out (fun _ hk => ⟨hk.1.1, ⟨hk.2, hk.1.2.2⟩⟩)⟩, ⟨by (with_reducible repeat (first | apply Kd.R_alloc | apply Kd.R_drewN | apply Kd.R_drew)); exact jr HO953.out (fun _ hk => hk.1)⟩, ⟨kk BK946⟩, ⟨bb HB⟩⟩
   obtain ⟨c14, c14b0, c14b1, H⟩ | ⟨c14b0, c14b1, H⟩ := qi H
   ·obtain rfl := sj H
    have hz31 := cf4 BK946.out
    go_wp2
    go_ret
    exact ⟨_, rr, iR HO_9, bb HB⟩
   obtain ⟨c15b0, H⟩ | ⟨c15b0, H⟩ := ei H
   ·have c15 := of_decide_eq_false c15b0
    have c15b1 : decide (0 < l3_3.length) = false := dF (by omega)
    clear c15
    obtain rfl := sj H
    have hz30 := cf4 BK946.out
    go_wp2
    go_ret
    exact ⟨_, rr, iR HO_9, bb HB⟩
   have c15 := of_decide_eq_true c15b0
   have c15b1 : decide (0 < l3_3.length) = true := dT (by omega)
   clear c15
   obtain ⟨y954, hy954⟩ : ∃ y_ : List (List Int), y_ = (([l2] : List (List Int))) := ⟨_, rfl⟩
   replace H : (if 0 < (l3_3.length : Int) then ((zR.f k1 a0 l1 y954 ((zi l3_3 0).f0) ((zi l3_3 0).f1) ((zi l3_3 0).f2) ((zi l3_3 0).f3)).bind fun t958 => (if 0 <= a3_1 then (if a3_1 < (l1.length : Int) then (if ((zp l1 a3_1).f2) = 0 then (none) else (if x9_1.length < 5864062014805 then (some (x9_1 ++ [(⟨1, a3_1, Int.tmod t958 ((zp l1 a3_1).f2)⟩ : Z4)])) else (none))) else (none)) else (none))) else (none)) = some r := by first | (rw [hy954]; with_reducible exact H) | (have H2_ := (jv _ _).symm.trans H; rw [hy954]; with_reducible exact H2_) | (have H2_ := (jv _ _).symm.trans H; with_reducible exact H2_) | with_reducible exact H | (rw [hy954]; exact H) | exact H
   have Ny954 := am hy954
   clear hy954
   obtain ⟨c16b0, H⟩ := pd H
   have c16 := of_decide_eq_true c16b0
   have c16b1 : decide (0 < l3_3.length) = true := dT (by omega)
   clear c16
   obtain ⟨t958, A17, H⟩ := be H
   obtain ⟨c18b0, H⟩ := pd H
   obtain ⟨c19b0, H⟩ := pd H
   obtain ⟨c20b9, _, H⟩ | ⟨c20, c20b0, c20b1, H⟩ := iq H
   ·have c20 := beq_iff_eq.mp c20b9
    exact jm H (by simp)
   by_cases c21 : x9_1.length < 5864062014805
   rotate_left
   ·rw [ja c21] at H
    exact jm H (by simp)
   rw [jb c21] at H
   have LMc21 := am c21
   clear c21
   obtain ⟨y960, hy960⟩ : ∃ y_ : List (Z4), y_ = (x9_1 ++ [(⟨1, a3_1, Int.tmod t958 ((zp l1 a3_1).f2)⟩ : Z4)]) := ⟨_, rfl⟩
   replace H : (some y960) = some r := by first | (rw [hy960]; with_reducible exact H) | (have H2_ := (jv _ _).symm.trans H; rw [hy960]; with_reducible exact H2_) | (have H2_ := (jv _ _).symm.trans H; with_reducible exact H2_) | with_reducible exact H | (rw [hy960]; exact H) | exact H
   have Ny960 := am hy960
   clear hy960
   obtain rfl := sj H
   have hz22 := cf4 BK946.out
   try go_wp2_with (first | ((with_reducible refine zw (N := 42) rfl ?_); (try (refine zB (by rfl) ?_; dsimp only)); refine Kd.N_lit (Kd.slice 3 (Kd.int .i64)) _ 26 ?hg (N' := 42) ?hd (xs := ([l2] : List (List Int))) (inner := [.slice A2 l2.length c2]) (ok := (fun k_ => (P2_ k_ \/ w.heap.size <= k_) /\ some k_ ≠ (u9 : Value).ownBlock /\ k_ ≠ gb946)) (okp := (fun k_ => (P2_ k_ \/ w.heap.size <= k_) /\ some k_ ≠ (u9 : Value).ownBlock /\ k_ ≠ gb946)) ?hr ?hp (fun _ hk => hk) ((show ∀ k_, wr.heap.size <= k_ -> (fun k_ => (P2_ k_ \/ w.heap.size <= k_) /\ some k_ ≠ (u9 : Value).ownBlock /\ k_ ≠ gb946) k_ from fun k_ hk => ⟨(.inr (Nat.le_trans (bsz (bb HB)) hk)), Kd.fresh' (Kd.R_lt (iR HO_9)) k_ hk, Kd.freshB (kk BK946) k_ hk⟩) _ (jk _)) (jc _ _) (jk _) (by simp) ?_; (case hd => rfl); (case hg => rfl); (case hr => first | (go_simp; done) | (go_simp; rfl)); (case hp => exact (Zg.one (show Kd.FK (Kd.slice 3 (Kd.int .i64)) _ _ l2 [.slice A2 l2.length c2] from (Kd.FK_slice_mk (Kd.V_reads' (Kd.V_mono (ok' := (fun k_ => (P2_ k_ \/ w.heap.size <= k_) /\ some k_ ≠ (u9 : Value).ownBlock /\ k_ ≠ gb946)) (HO_2.out) (fun k_ hk => ⟨hk.1, ⟨hk.2.1, hk.2.2⟩⟩))).2.1 (Kd.V_F (Kd.V_mono (ok' := (fun k_ => (P2_ k_ \/ w.heap.size <= k_) /\ some k_ ≠ (u9 : Value).ownBlock /\ k_ ≠ gb946)) (HO_2.out) (fun k_ hk => ⟨hk.1, ⟨hk.2.1, hk.2.2⟩⟩))))) (Zg.none _ _))); intro v955 w23 ho24 hb hg_ hnew_; clear hg_ hnew_; (first | rw [<- Ny954.out] at ho24 | (simp only [Int.reduceToNat] at ho24; rw [<- Ny954.out] at ho24)); have HO956 := am (Kd.N_lower ho24 (bsz (bb HB))); replace HO_2 := am (Kd.V_elder' (iV HO_2) (Kd.N_base ho24) hb); replace HO_9 := am (Kd.R_below (iR HO_9) hb); replace BK946 := kb BK946 hb; replace HB := sb HB hb; clear hb ho24; have hz25 := cf4 BK946.out; have p957 : 0 <= (0 : Int) := (by omega); have q957 : 0 < (l3_3.length : Int) := od; obtain ⟨ad957, A957_3, c957_3, e957, hx957_0, hx957_1, hx957_2, hx957_3, hl957_3, hi957_3⟩ := Zk HR3_3.out 0 p957 q957; cases e957; have qi957 : (0 < l3_3.length) = True := eT (by omega); (simp only [show ((0 : Int)).toNat = 0 from rfl, Nat.zero_mul, Addr.add_zero'] at hx957_0 hx957_1 hx957_2 hx957_3); replace hx957_0 := zo HB.out hx957_0; replace hx957_1 := zo HB.out hx957_1; replace hx957_2 := zo HB.out hx957_2; replace hx957_3 := zo HB.out hx957_3; have HR957_3 := am hi957_3; have HC957_3 := am hl957_3; clear hi957_3 hl957_3; replace p957 := eT p957; replace q957 := eT q957; obtain ⟨Ao26, co26, eo26⟩ := Kd.N_slice HO956.out; subst eo26) | (go_at_call 54; (with_reducible refine (zR.calls k1 a0 _ _ l1 _ _ y954 ((zi l3_3 0).f0) ((zi l3_3 0).f1) ((zi l3_3 0).f2) _ _ ((zi l3_3 0).f3) t958 _ (cb HR1 HB) HC1.out ?side3 ((Kd.N_reads' HO956.out).2.1) (cb HR957_3 HB) HC957_3.out A17.out).mono ?_); (case side3 => repeat (first | exact (Kd.N_reads' HO956.out).2.2 | with_reducible first | apply Kd.C_alloc | apply Kd.C_drewN | apply Kd.C_drew)); rintro e w27 ⟨rfl, hb⟩; replace HO_2 := am (Kd.V_below (iV HO_2) hb); replace HO_9 := am (Kd.R_below (iR HO_9) hb); replace HO956 := am (Kd.N_below (iN HO956) hb); replace BK946 := kb BK946 hb; replace HB := sb HB hb))
   replace HO_2 := am (Kd.V_drew HO_2.out)
   replace HO_9 := am (Kd.R_drew HO_9.out)
   replace HO956 := am (Kd.N_drew HO956.out)
   replace BK946 := am (kdr BK946.out)
   replace HB := am (bd1 HB.out)
   have p959 : 0 <= (a3_1 : Int) := od
   have q959 : a3_1 < (l1.length : Int) := od
   obtain ⟨ad959, e959, hx959_0, hx959_1, hx959_2⟩ := Zs HR1.out a3_1 p959 q959
   have hw959_2 := hx959_2
   have hw959_1 := hx959_1
   have hw959_0 := hx959_0
   cases e959
   replace hx959_0 := zo HB.out hx959_0
   replace hx959_1 := zo HB.out hx959_1
   replace hx959_2 := zo HB.out hx959_2
   replace p959 := eT p959
   replace q959 := eT q959
   refine z20 (n := 15) (S := fun w' => w'.cell? ⟨gb946, 0, none⟩ = some (.int .i64 a3_0) /\ w'.cell? ⟨gb946, 1, none⟩ = some (.int .i64 a3_1) /\ w'.cell? ⟨gb946, 2, none⟩ = some (.int .i64 a3_2) /\ w'.cell? ⟨gb946, 3, none⟩ = some (.slice (some ad957) l3_3.length c3_3) /\ w'.cell? (ad959.add ((a3_1).toNat * 3)) = some (.string ((zp l1 a3_1).f0)) /\ w'.cell? ⟨(ad959.add ((a3_1).toNat * 3)).block, (ad959.add ((a3_1).toNat * 3)).off + 1, none⟩ = some (.int .i64 ((zp l1 a3_1).f1)) /\ w'.cell? ⟨(ad959.add ((a3_1).toNat * 3)).block, (ad959.add ((a3_1).toNat * 3)).off + 2, none⟩ = some (.int .i64 ((zp l1 a3_1).f2))) (ds := []) #[false, false, false, false, false, false, false, false, false, false, false, false, false, false, false] (by kernel_rfl) rfl rfl ⟨(za BK946.out 0).trans rfl, (za BK946.out 1).trans rfl, (za BK946.out 2).trans rfl, (za BK946.out 3).trans rfl, (zo HB.out hw959_0), (zo HB.out hw959_1), (zo HB.out hw959_2)⟩ (fun hHeld => ?_); refine z3r zL.tab8 zL.bits8 (fun HT_ HW_ => ?_)
   generalize w27.drew = w28 at HO_2 HO_9 HO956 BK946 HB hx959_0 hx959_1 hx959_2 hHeld ⊢
   refine pT 0 48 (bl 15 1) HT_ rfl rfl ?_
   refine pT 1 49 (bl 15 3) HT_ rfl rfl ?_
   refine pT 3 51 (bl 15 11) HT_ rfl rfl ?_
   refine pT 4 52 (bl 15 27) HT_ rfl rfl ?_
   refine pT 5 53 (bl 15 59) HT_ rfl rfl ?_
   refine tk (i := 2) (N := some 50) (bl 15 63) rfl rfl (z1B HT_.out HW_.out (by kernel_rfl)) hHeld ?_
   refine tk (i := 6) (N := some 54) (bl 15 127) rfl rfl (z1B HT_.out HW_.out (by kernel_rfl)) hHeld ?_
   refine pT 7 55 (bl 15 255) HT_ rfl rfl ?_
   refine pT 8 56 (bl 15 511) HT_ rfl rfl ?_
   refine tk (i := 9) (N := some 57) (bl 15 1023) rfl rfl (z1B HT_.out HW_.out (by kernel_rfl)) hHeld ?_
   refine pT 10 58 (bl 15 2047) HT_ rfl rfl ?_
   refine pT 11 59 (bl 15 4095) HT_ rfl rfl ?_
   refine z2T (i := 12) (N := some 60) (bl 15 8191) rfl rfl (z2S HT_.out (by kernel_rfl)) (by decide) (fun K hK => ?_)
   refine z1m (w1 := ?_) (v := ?_) (by rfl) rfl ?_ ?_
   rotate_left 2
   ·go_simp
    constructor
    ·rfl
    ·rfl
   refine hK.out _ _ ⟨(za (kal BK946.out _) 0).trans rfl, (za (kal BK946.out _) 1).trans rfl, (za (kal BK946.out _) 2).trans rfl, (za (kal BK946.out _) 3).trans rfl, (World.cell?_alloc_lt _ _ _ (jd _ _ ((zo HB.out hw959_0)))).trans ((zo HB.out hw959_0)), (World.cell?_alloc_lt _ _ _ (jd _ _ ((zo HB.out hw959_1)))).trans ((zo HB.out hw959_1)), (World.cell?_alloc_lt _ _ _ (jd _ _ ((zo HB.out hw959_2)))).trans ((zo HB.out hw959_2))⟩ (fun hHeld => ?_)
   clear hK K
   refine nm 60 ?_
   refine z2T (i := 13) (N := some 61) (bl 15 16383) rfl rfl (z2S HT_.out (by kernel_rfl)) (by decide) (fun K hK => ?_)
   refine Kd.R_append_step Ye (w0 := w) w.heap.size (by rfl) (.tmp 48) (.tmp 60) 42 144 (.agg #[(.int .i64 0), (.int .i64 0), (.int .i64 0)]) 24 rfl Tryz.underlying42 z5Y rfl (by decide) (by omega) u9 x9_1 (⟨1, a3_1, Int.tmod t958 ((zp l1 a3_1).f2)⟩ : Z4) [.int .i64 1, .int .i64 a3_1, .int .i64 (Int.tmod t958 ((zp l1 a3_1).f2))] (fun k_ => (w.heap.size <= k_)) (fun _ => False) rfl rfl ?aP (fun _ hk => hk.elim) ?aF ?aO ?aB ?aS ?aL ?_
   (case aP => exact z1O _ _ _ (⟨1, a3_1, Int.tmod t958 ((zp l1 a3_1).f2)⟩ : Z4))
   (case aB => exact (bb HB))
   (case aF => exact (fun k_ hk => (Nat.le_trans (bsz (bb HB)) hk)))
   (case aO => exact (iR HO_9))
   (case aS => exact (bsz (bb HB)))
   (case aL => have := LMc21.out; omega)
   intro v961 w29 ho hb hg hat
   rw [<- Ny960.out] at ho
   have HO962 := am (ho)
   replace HO_2 := am (Kd.V_afterv (ok := (fun k_ => (P2_ k_ \/ w.heap.size <= k_) /\ some k_ ≠ (.slice Ao26 y954.length co26 : Value).ownBlock /\ k_ ≠ gb946)) (by (with_reducible repeat (first | apply Kd.V_alloc | apply Kd.V_drewN | apply Kd.V_drew)); exact Kd.V_mono HO_2.out (fun _ hk => ⟨⟨hk.1.1, ⟨hk.2, hk.1.2.2⟩⟩, hk.1.2.1⟩)) hg hat)
   replace BK946 := am (zO (kk BK946) hg (Kd.R_ne HO_9.out BK946.out (by decide)))
   replace HO956 := am (Kd.N_afterv (ok := (fun k_ => (P2_ k_ \/ w.heap.size <= k_) /\ k_ ≠ gb946)) (by (with_reducible repeat (first | apply Kd.N_alloc | apply Kd.N_drewN | apply Kd.N_drew)); exact Kd.N_mono HO956.out (fun _ hk => ⟨⟨hk.1, hk.2.2⟩, hk.2.1⟩)) hg hat)
   replace HB := am (hb)
   clear HO_9
   clear ho hb hg hat
   refine hK.out _ _ ⟨(za BK946.out 0).trans rfl, (za BK946.out 1).trans rfl, (za BK946.out 2).trans rfl, (za BK946.out 3).trans rfl, (zo HB.out hw959_0), (zo HB.out hw959_1), (zo HB.out hw959_2)⟩ (fun hHeld => ?_)
   clear hK K
   refine nm 61 ?_
   refine pT 14 9 (bl 15 32767) HT_ rfl rfl ?_
   refine z38 (z65 HT_.out (by kernel_rfl)) ?_
   try go_wp2
   go_ret
   exact ⟨_, rr, iR HO962, bb HB⟩
def Seg (ins : List S93) (p : Nat) (code : List S93) : Prop := ∀ i x, code[i]? = some x -> ins[p + i]? = some x
theorem Seg.left {ins : List S93} {p : Nat} {a b : List S93} (h : Seg ins p (a ++ b)) : Seg ins p a := fun i x hx => h i x (by rw [List.getElem?_append_left (by exact (List.getElem?_eq_some_iff.1 hx).1)]; exact hx)
theorem Seg.right {ins : List S93} {p : Nat} {a b : List S93} (h : Seg ins p (a ++ b)) : Seg ins (p + a.length) b := fun i x hx => by
 rw [Nat.add_assoc]
 exact h (a.length + i) x (by rw [List.getElem?_append_right (by omega), Nat.add_sub_cancel_left]; exact hx)
theorem Seg.head {ins : List S93} {p : Nat} {x : S93} {r : List S93} (h : Seg ins p (x :: r)) : ins[p]? = some x /\ Seg ins (p + 1) r :=
 ⟨h 0 x rfl, fun i y hy => by rw [show p + 1 + i = p + (i + 1) by omega]; exact h (i + 1) y (by simpa using hy)⟩
def bnd (c : VC) : Prop := 0 <= c.pc /\ c.pc < 1000000000 /\ c.tr.length < 1000000000 /\ c.ou.length < 1000000000 /\ 0 <= c.us /\ c.us < 1000000000
def stp (wd : Int) (l1 : List S76) (pk : List Int) (ins : List S93) (c c' : VC) : Prop :=
 c.ov = false /\ 0 <= c.pc /\ ∃ i, ins[c.pc.toNat]? = some i /\ zc (fun k => vDo k wd l1 pk (zV c) i) c' /\ (bnd (zV c) -> ∃ k0, ∀ k, k0 <= k -> vFit k l1 (zV c) i)
inductive yT (wd : Int) (l1 : List S76) (pk : List Int) (ins : List S93) : Nat -> VC -> VC -> Prop
 | refl (c : VC) : yT wd l1 pk ins 0 c c
 | step {n : Nat} {c c1 c2 : VC} : stp wd l1 pk ins c c1 -> yT wd l1 pk ins n c1 c2 -> yT wd l1 pk ins (n + 1) c c2
section
variable {wd : Int} {l1 : List S76} {pk : List Int} {ins : List S93}
theorem yT.trans {n m : Nat} {a b c : VC} (h : yT wd l1 pk ins n a b) (h2 : yT wd l1 pk ins m b c) : yT wd l1 pk ins (n + m) a c := by
 induction h with
 | refl c => rw [Nat.zero_add]; exact h2
 | step h1 _ ih => rw [Nat.add_right_comm]; exact .step h1 (ih h2)
theorem yT.one {a b : VC} (h : stp wd l1 pk ins a b) : yT wd l1 pk ins 1 a b := .step h (.refl _)
theorem yn {c : VC} {r : Nat} (h : c.re.length = 64) (hr : r < 64) : z01 c (r : Int) := ⟨by omega, by omega⟩
theorem stp_lit {c : VC} {r : Nat} {n : Int} (ho : c.ov = false) (hp : 0 <= c.pc) (hl : c.re.length = 64) (hr : r < 64) (hi : ins[c.pc.toNat]? = some ⟨0, r, n, 0, 0⟩) : stp wd l1 pk ins c (ZN r n (zV c)) := by
 refine ⟨ho, hp, _, hi, ?_, fun hb => ⟨0, fun k _ => ?_⟩⟩
 ·simp only [vDo, if_true]
  exact zc.pure _
 ·refine ⟨hb, ?_⟩
  simp
  exact yn hl hr
theorem stp_not {c : VC} {r : Nat} {v : Int} (ho : c.ov = false) (hp : 0 <= c.pc) (hl : c.re.length = 64) (hr : r < 64) (hi : ins[c.pc.toNat]? = some ⟨1, r, 12, r, 0⟩) (hv : zc (fun k => YE.f k wd (rg c.re r)) v) : stp wd l1 pk ins c (ZN r v (zV c)) := by
 refine ⟨ho, hp, _, hi, ?_, fun hb => ⟨0, fun k _ => ?_⟩⟩
 ·obtain ⟨k0, hk⟩ := hv
  refine ⟨k0, fun k h => ?_⟩
  have := hk k h
  dsimp only at this
  simp only [vDo, z6h, if_true, show ¬ ((1 : Int) = 0) by decide, if_false]
  rw [show (zV c).re = c.re from rfl, this]
  rfl
 ·refine ⟨hb, ?_⟩
  simp
  exact yn hl hr
theorem stp_do {c : VC} {r : Nat} {op v : Int} (ho : c.ov = false) (hp : 0 <= c.pc) (hl : c.re.length = 64) (hr : r + 1 < 64) (h12 : op ≠ 12) (hi : ins[c.pc.toNat]? = some ⟨1, r, op, r, (r : Int) + 1⟩) (hv : zc (fun k => yi.f k op wd (rg c.re r) (rg c.re ((r : Int) + 1))) v) : stp wd l1 pk ins c (ZN r v (zV c)) := by
 refine ⟨ho, hp, _, hi, ?_, fun hb => ⟨0, fun k _ => ?_⟩⟩
 ·obtain ⟨k0, hk⟩ := hv
  refine ⟨k0, fun k h => ?_⟩
  have := hk k h
  dsimp only at this
  simp only [vDo, z6h, h12, if_true, show ¬ ((1 : Int) = 0) by decide, if_false]
  rw [show (zV c).re = c.re from rfl, this]
  rfl
 ·refine ⟨hb, ?_⟩
  simp
  exact ⟨yn hl (by omega), fun _ => yn (r := r + 1) hl hr⟩
theorem stp_sel {c : VC} {r : Nat} (ho : c.ov = false) (hp : 0 <= c.pc) (hl : c.re.length = 64) (hr : r + 2 < 64) (hi : ins[c.pc.toNat]? = some ⟨2, r, r, (r : Int) + 1, (r : Int) + 2⟩) : stp wd l1 pk ins c (ZN r (if rg c.re r = 0 then rg c.re ((r : Int) + 2) else rg c.re ((r : Int) + 1)) (zV c)) := by
 refine ⟨ho, hp, _, hi, ?_, fun hb => ⟨0, fun k _ => ?_⟩⟩
 ·simp only [vDo, if_true, show ¬ ((2 : Int) = 0) by decide, show ¬ ((2 : Int) = 1) by decide, if_false]
  exact zc.pure _
 ·refine ⟨hb, ?_⟩
  simp
  exact ⟨yn hl (by omega), yn (r := r + 1) hl (by omega), yn (r := r + 2) hl hr⟩
end
def WW (n : Nat) (a : Int) : Prop := 0 <= a /\ a < 2 ^ n
def adv (c : VC) (m : Nat) (re : List Int) (es : List Z4) (tl : List Int) : VC := { c with re := re, pc := c.pc + m, fu := c.fu - m, co := c.co + m, tr := c.tr ++ es, tl := tl }
theorem adv_adv (c : VC) (a b : Nat) (r1 r2 : List Int) (e1 e2 : List Z4) (t1 t2 : List Int) : adv (adv c a r1 e1 t1) b r2 e2 t2 = adv c (a + b) r2 (e1 ++ e2) t2 := by
 unfold adv
 simp only [VC.mk.injEq, ju, true_and, and_true]
 refine ⟨?_, ?_, ?_⟩ <;> (push_cast; omega)
def XM (n : Nat) (l1 : List S76) (pk : List Int) (ins : List S93) (st : List Int) (x : S62) (v : Int) (es : List Z4) : Prop :=
 ∀ (r : Nat) (c : VC), c.st = st -> c.re.length = 64 -> (∀ a ∈ c.re, WW n a) -> c.ov = false -> 0 <= c.pc -> r + 3 * eD x <= 60 -> Seg ins c.pc.toNat (cE x r) ->
  ∃ re tl, re.length = 64 /\ (∀ a ∈ re, WW n a) /\ rg re r = v /\ (∀ j : Nat, j < r -> re[j]? = c.re[j]?) /\ yT (n : Int) l1 pk ins (nE x) c (adv c (nE x) re es tl)
def XsM (n : Nat) (l1 : List S76) (pk : List Int) (ins : List S93) (st : List Int) (l : List S62) (vs : List Int) (es : List Z4) : Prop :=
 ∀ (r : Nat) (c : VC), c.st = st -> c.re.length = 64 -> (∀ a ∈ c.re, WW n a) -> c.ov = false -> 0 <= c.pc -> r + l.length + 3 * eDs l <= 60 -> Seg ins c.pc.toNat (cAs l r) ->
  ∃ re tl, re.length = 64 /\ (∀ a ∈ re, WW n a) /\ (∀ (i : Nat) v, vs[i]? = some v -> rg re ((r + i : Nat) : Int) = v) /\ (∀ j : Nat, j < r -> re[j]? = c.re[j]?) /\ yT (n : Int) l1 pk ins (nAs l) c (adv c (nAs l) re es tl)
theorem rg_of {a b : List Int} {j : Nat} (h : a[j]? = b[j]?) : rg a (j : Int) = rg b (j : Int) := by
 unfold rg
 rw [jh, jw, jw, h]
theorem z77 {l : List Int} {r : Nat} {v : Int} (h : r < l.length) : rg (l.set r v) (r : Int) = v := by
 unfold rg
 rw [jh, jw, List.getElem?_set_self h]
 rfl
theorem z3Y {l : List Int} {r : Nat} {v : Int} {P : Int -> Prop} (h : ∀ a ∈ l, P a) (hv : P v) : ∀ a ∈ l.set r v, P a := fun a ha => by
 rcases List.mem_or_eq_of_mem_set ha with h' | rfl
 ·exact h a h'
 ·exact hv
section
variable {n : Nat} {l1 : List S76} {pk : List Int} {ins : List S93} {st : List Int}
theorem z6b : XsM n l1 pk ins st [] [] [] := fun r c _ hl hw _ _ _ _ => ⟨c.re, c.tl, hl, hw, fun i v h => by simp at h, fun _ _ => rfl, by
 have : adv c (nAs []) c.re [] c.tl = c := by unfold adv; simp [nAs]
 rw [this]
 exact .refl _⟩
theorem z4U {x : S62} {l : List S62} {v : Int} {vs : List Int} {e es : List Z4} (h1 : XM n l1 pk ins st x v e) (h2 : XsM n l1 pk ins st l vs es) : XsM n l1 pk ins st (x :: l) (v :: vs) (e ++ es) := by
 intro r c hst hl hw ho hp hd hs
 simp only [eDs, jp] at hd
 rw [cAs] at hs
 obtain ⟨re1, tl1, a1, a2, a3, a4, a5⟩ := h1 r c hst hl hw ho hp (by omega) hs.left
 have hs2 := hs.right
 rw [YX] at hs2
 have hc : (adv c (nE x) re1 e tl1).pc.toNat = c.pc.toNat + nE x := by show (c.pc + nE x).toNat = _; omega
 obtain ⟨re2, tl2, b1, b2, b3, b4, b5⟩ := h2 (r + 1) (adv c (nE x) re1 e tl1) hst a1 a2 ho (by show 0 <= c.pc + (nE x : Int); omega) (by omega) (by rw [hc]; push_cast; exact hs2)
 refine ⟨re2, tl2, b1, b2, fun i u hu => ?_, fun j hj => (b4 j (by omega)).trans (a4 j hj), ?_⟩
 ·cases i with
  | zero =>
   obtain rfl : v = u := by simpa using hu
   rw [Nat.add_zero, <- a3]
   exact rg_of (b4 r (by omega))
  | succ i =>
   rw [show r + (i + 1) = r + 1 + i by omega]
   exact b3 i u (by simpa using hu)
 ·rw [nAs, <- adv_adv]
  exact a5.trans b5
theorem z28 {op N cp : Int} {l : List S62} {vs : List Int} {es e1 : List Z4} {v : Int} (h : XsM n l1 pk ins st l vs es) (hv : WW n v) (hlen : l.length <= 3)
  (hi : ∀ (r : Nat) (c : VC), c.st = st -> c.re.length = 64 -> (∀ a ∈ c.re, WW n a) -> c.ov = false -> 0 <= c.pc -> r + 2 < 64 -> (∀ (i : Nat) u, vs[i]? = some u -> rg c.re ((r + i : Nat) : Int) = u) -> ins[c.pc.toNat]? = some (cI op N l.length r) -> stp (n : Int) l1 pk ins c { ZN r v (zV c) with tr := c.tr ++ e1 }) :
  XM n l1 pk ins st ⟨op, N, cp, l⟩ v (es ++ e1) := by
 intro r c hst hl hw ho hp hd hs
 simp only [eD] at hd
 rw [cE] at hs
 obtain ⟨re1, tl1, a1, a2, a3, a4, a5⟩ := h r c hst hl hw ho hp (by omega) hs.left
 have hs2 := hs.right
 rw [z0e] at hs2
 have hc : (adv c (nAs l) re1 es tl1).pc.toNat = c.pc.toNat + nAs l := by show (c.pc + nAs l).toNat = _; omega
 have hst1 := hi r (adv c (nAs l) re1 es tl1) hst a1 a2 ho (by show 0 <= c.pc + (nAs l : Int); omega) (by omega) a3 (by rw [hc]; exact hs2.head.1)
 refine ⟨re1.set r v, tl1 ++ [c.pc + nAs l], by rw [List.length_set]; exact a1, z3Y a2 hv, z77 (by omega), fun j hj => ?_, ?_⟩
 ·rw [List.getElem?_set_ne (by omega)]
  exact a4 j hj
 ·rw [nE]
  have e : ({ ZN r v (zV (adv c (nAs l) re1 es tl1)) with tr := (adv c (nAs l) re1 es tl1).tr ++ e1 } : VC) = adv c (nAs l + 1) (re1.set r v) (es ++ e1) (tl1 ++ [c.pc + nAs l]) := by
   unfold ZN zV adv
   simp only [VC.mk.injEq, jh, true_and, and_true, ju]
   refine ⟨?_, ?_, ?_⟩ <;> (push_cast; omega)
  rw [<- e]
  exact a5.trans (.one hst1)
theorem z1H {c : VC} {r : Int} {v : Int} : ({ ZN r v (zV c) with tr := c.tr ++ [] } : VC) = ZN r v (zV c) := by
 rw [List.append_nil]
 rfl
theorem z4o {c : VC} {r N : Nat} {s fst : Int} (ho : c.ov = false) (hp : 0 <= c.pc) (hl : c.re.length = 64) (hr : r < 64) (hN : N < l1.length) (hs : ¬ (zp l1 (N : Int)).f2 < 2 -> 0 <= s /\ s < 64) (hF : zc (fun k => zW.f k l1 (N : Int)) fst) (h0 : 0 <= fst + yt l1 c.re N s) (h1 : fst + yt l1 c.re N s < c.st.length)
  (hi : ins[c.pc.toNat]? = some ⟨3, r, N, s, 0⟩) : stp (n : Int) l1 pk ins c (z0H l1 fst r N s (zV c)) := by
 refine ⟨ho, hp, _, hi, ?_, fun hb => ?_⟩
 ·obtain ⟨k0, hk⟩ := hF
  refine ⟨k0, fun k h => ?_⟩
  have := hk k h
  dsimp only at this
  simp only [vDo, if_true, show ¬ ((3 : Int) = 0) by decide, show ¬ ((3 : Int) = 1) by decide, show ¬ ((3 : Int) = 2) by decide, if_false]
  rw [this]
  simp
 ·obtain ⟨k0, hk⟩ := hF
  refine ⟨k0, fun k h => ⟨hb, ?_⟩⟩
  have hf := hk k h
  dsimp only at hf
  simp only [show ¬ ((3 : Int) = 0) by decide, show ¬ ((3 : Int) = 1) by decide, show ¬ ((3 : Int) = 2) by decide, show ¬ ((3 : Int) = 4) by decide, show ¬ ((3 : Int) = 6) by decide, show ¬ ((3 : Int) = 7) by decide, show ¬ ((3 : Int) = 8) by decide, show ¬ ((3 : Int) = 9) by decide, show ¬ ((3 : Int) = 10) by decide, false_implies, true_and, and_true, forall_const]
  refine ⟨yn hl hr, fun f' e' => ?_⟩
  rw [hf] at e'
  obtain rfl := sj e'
  refine ⟨by omega, by omega, fun hh => ?_, by rw [jh]; exact h0, by rw [jh]; exact h1⟩
  obtain ⟨s0, s1⟩ := hs hh
  exact ⟨s0, by show s < (c.re.length : Int); rw [hl]; exact s1⟩
end
def EvL (n : Nat) (l1 : List S76) (st : List Int) (l : List S62) (es : List Z4) : Prop := ∀ (pre : List S62) (out : List Z4) (op N c : Int) (R : List Z4), (pre ++ l).length <= 1000 -> out.length + es.length <= 1000000 ->
 zc (fun k => zL.l0 k (n : Int) l1 st (out ++ es) ((pre ++ l).length : Int) op N c (pre ++ l)) R -> zc (fun k => zL.l0 k (n : Int) l1 st out (pre.length : Int) op N c (pre ++ l)) R
section
variable {n : Nat} {l1 : List S76} {st : List Int}
theorem EvL_nil : EvL n l1 st [] [] := fun pre out op N c R _ _ h => by simpa using h
theorem z80 {x : S62} {l : List S62} {e es : List Z4} (h1 : zc (fun k => zL.f k (n : Int) l1 st x.f0 x.f1 x.f2 x.f3) e) (h2 : EvL n l1 st l es) : EvL n l1 st (x :: l) (e ++ es) := by
 intro pre out op N c R hl ho h
 rw [je] at ho
 refine zc.succ ?_
 simp only [zL.l0, Zo, Z6, if_true, Y6]
 refine zc.bind h1 (zc.ifT (by omega) ?_)
 rw [Zi pre x l (by omega)]
 have := h2 (pre ++ [x]) (out ++ e) op N c R (by rw [<- zQ]; exact hl) (by rw [je]; omega)
 rw [<- zQ, ju] at this
 exact this h
theorem z7w {es : List Z4} {op N c : Int} {l : List S62} (h : op ≠ 1 \/ l = []) : zc (fun k => zL.l0 k (n : Int) l1 st es (l.length : Int) op N c l) es := by
 refine zc.succ ?_
 simp only [zL.l0, show ¬ ((l.length : Int) < (l.length : Int)) by omega, if_false]
 by_cases h1 : op = 1
 ·obtain rfl := h.resolve_left (fun n => n h1)
  refine zc.ifT h1 (zc.ifF (by simp) (zc.pure _))
 ·exact zc.ifF h1 (zc.pure _)
theorem ev_read {es : List Z4} {N c i : Int} {x : S62} (h0 : 0 <= N) (h1 : N < (l1.length : Int)) (hz : (zp l1 N).f2 ≠ 0) (hl : es.length < 1000000) (hx : zc (fun k => zR.f k (n : Int) l1 [st] x.f0 x.f1 x.f2 x.f3) i) :
  zc (fun k => zL.l0 k (n : Int) l1 st es (([x] : List S62).length : Int) 1 N c [x]) (es ++ [⟨1, N, Int.tmod i (zp l1 N).f2⟩]) := by
 refine zc.succ ?_
 simp only [zL.l0, show ¬ ((([x] : List S62).length : Int) < (([x] : List S62).length : Int)) by omega, if_false, if_true, lt1, rd0, show ((([x] : List S62).length : Int) > 0) by simp]
 exact zc.bind hx (zc.ifT h0 (zc.ifT h1 (zc.ifF hz (zc.ifT (by omega) (zc.pure _)))))
theorem z61 {es es' : List Z4} {op N c : Int} {l : List S62} (h : EvL n l1 st l es) (hl : l.length <= 1000) (he : es.length <= 1000000) (hend : zc (fun k => zL.l0 k (n : Int) l1 st es (l.length : Int) op N c l) es') : zc (fun k => zL.f k (n : Int) l1 st op N c l) es' := by
 refine zc.succ ?_
 simp only [zL.f]
 have := h [] [] op N c es' (by simpa using hl) (by simpa using he)
 simp only [List.nil_append, List.length_nil] at this
 exact this hend
end
theorem eN_ge : (∀ x : S62, 1 <= eN x) /\ (∀ l : List S62, l.length <= eNs l) := by
 refine z15 (fun a b c l ih => ?_) ?_ (fun x r h1 h2 => ?_)
 ·simp only [eN]; omega
 ·simp [eNs]
 ·simp only [eNs, jp]; omega
def NB (es : List Z4) : Prop := ∀ e ∈ es, e.f0 ≠ 0
theorem z7V {a b : List Z4} (h1 : NB a) (h2 : NB b) : NB (a ++ b) := fun e he => by
 rcases List.mem_append.1 he with h | h
 ·exact h1 e h
 ·exact h2 e h
theorem z3g {a : List Z4} (h : NB a) : NB (a ++ []) := by rwa [List.append_nil]
theorem NB_one {a : List Z4} {e : Z4} (h : NB a) (he : e.f0 ≠ 0) : NB (a ++ [e]) := z7V h (fun x hx => by rw [List.mem_singleton.1 hx]; exact he)
def SimX (n : Nat) (l1 : List S76) (pk : List Int) (ins : List S93) (st : List Int) (x : S62) (v : Int) (es : List Z4) : Prop :=
 WW n v /\ zc (fun k => zR.f k (n : Int) l1 [st] x.f0 x.f1 x.f2 x.f3) v /\ zc (fun k => zL.f k (n : Int) l1 st x.f0 x.f1 x.f2 x.f3) es /\ es.length <= eN x /\ NB es /\ XM n l1 pk ins st x v es
def SimXs (n : Nat) (l1 : List S76) (pk : List Int) (ins : List S93) (st : List Int) (l : List S62) (vs : List Int) (es : List Z4) : Prop :=
 vs.length = l.length /\ (∀ (i : Nat) x v, l[i]? = some x -> vs[i]? = some v -> WW n v /\ zc (fun k => zR.f k (n : Int) l1 [st] x.f0 x.f1 x.f2 x.f3) v) /\ EvL n l1 st l es /\ es.length <= eNs l /\ NB es /\ XsM n l1 pk ins st l vs es
theorem z5C {n : Nat} {st : List Int} (h : ∀ a ∈ st, WW n a) {i : Int} (h0 : 0 <= i) (h1 : i < (st.length : Int)) : WW n (rd st i) := by
 obtain ⟨hl, e⟩ := z3R st i h0 h1
 rw [e]
 exact h _ (List.getElem_mem hl)
theorem z4l {i m : Int} (h0 : 0 <= i) : Int.tmod i m = i % m := by
 rw [Int.tmod_eq_emod_of_nonneg h0]
theorem z51 {l : List Int} (h : l.length = 2) : ∃ a b, l = [a, b] := by
 match l, h with
 | [a, b], _ => exact ⟨a, b, rfl⟩
theorem z4m {l : List Int} (h : l.length = 3) : ∃ a b c, l = [a, b, c] := by
 match l, h with
 | [a, b, c], _ => exact ⟨a, b, c, rfl⟩
theorem z5w {vs : List Int} {c : VC} {r : Nat} {u : Int} (h : ∀ (i : Nat) v, vs[i]? = some v -> rg c.re ((r + i : Nat) : Int) = v) (hu : vs[1]? = some u) : rg c.re ((r : Int) + 1) = u := h 1 u hu
theorem vs_get2 {vs : List Int} {c : VC} {r : Nat} {u : Int} (h : ∀ (i : Nat) v, vs[i]? = some v -> rg c.re ((r + i : Nat) : Int) = v) (hu : vs[2]? = some u) : rg c.re ((r : Int) + 2) = u := h 2 u hu
theorem sim_all (n : Nat) (h1 : 1 <= n) (h8 : n <= 8) (l1 : List S76) (hl : l1.length <= 18) (hv : ∀ v ∈ l1, 1 <= v.f2 /\ v.f2 <= 8) (pk : List Int) (ins : List S93) (st : List Int) (hst : (st.length : Int) = cs l1) (hsw : ∀ a ∈ st, WW n a) :
  (∀ x, eOK (n : Int) l1 1 x = true -> eN x <= 1000 -> ∃ v es, SimX n l1 pk ins st x v es) /\ (∀ l, z0L (n : Int) l1 1 l = true -> eNs l <= 1000 -> ∃ vs es, SimXs n l1 pk ins st l vs es) := by
 refine z15 (fun a b c l ih => ?_) (fun _ _ => ⟨[], [], rfl, fun i x v h => by simp at h, EvL_nil, by simp [eNs], (fun e he => by simp at he), z6b⟩) (fun x r ih1 ih2 => ?_)
 ·intro ho hn
  simp only [eOK, jg] at ho
  obtain ⟨hno, ho⟩ := ho
  simp only [eN] at hn
  obtain ⟨vs, es, g1, g2, g3, g4, g6, g5⟩ := ih ho (by omega)
  have hll := eN_ge.2 l
  obtain ⟨har, hok⟩ := z2V hno
  have hp := z1n h8
  have hp0 := z04 n
  unfold YI at har
  have evO : ∀ {op N cc : Int}, (op ≠ 1 \/ l = []) -> zc (fun k => zL.f k (n : Int) l1 st op N cc l) es := fun h => z61 g3 (by omega) (by omega) (z7w h)
  by_cases a0 : a = 0
  ·subst a0
   rw [jb rfl] at har
   obtain rfl := len0 har
   obtain ⟨b0, b1⟩ := z1K h8 hok
   refine ⟨b, es ++ [], ⟨b0, b1⟩, z6g, by rw [List.append_nil]; exact evO (.inl (show (0 : Int) ≠ 1 by decide)), by rw [List.append_nil]; simp only [eN]; omega, z3g g6, z28 g5 ⟨b0, b1⟩ (by simp) fun r cc hs hre _ hov hpc hr _ hi => ?_⟩
   rw [z1H]
   exact stp_lit hov hpc hre (by omega) hi
  rw [ja a0] at har
  by_cases a1 : a = 1
  ·subst a1
   rw [jb rfl] at har
   obtain ⟨c0, c1⟩ := z4B hok
   obtain rfl : c = 0 := by omega
   by_cases hb : 0 <= b /\ b < (l1.length : Int)
   ·rw [jb hb] at har
    obtain ⟨B, rfl⟩ : ∃ B : Nat, b = B := ⟨b.toNat, by omega⟩
    have hB : B < l1.length := by omega
    obtain ⟨r1, r2⟩ := z6P (w := (n : Int)) (st := [st]) (c := 0) hl hv (by omega) (show ((B : Int)) < (l1.length : Int) by omega) (jq _) (by simp) hst
    have hF := z0d l1 (B : Int) (by omega) (by omega) hv hl
    by_cases hcl : (zp l1 (B : Int)).f2 > 1
    ·rw [jb hcl] at har
     obtain ⟨x, rfl⟩ := len1 har
     obtain ⟨v, rfl⟩ : ∃ v, vs = [v] := List.length_eq_one_iff.1 (by simpa using g1)
     obtain ⟨⟨v0, v1⟩, tv⟩ := g2 0 x v rfl rfl
     obtain ⟨_, p1, p8, q0, q1⟩ := z7M l1 hl hv (B : Int) v (by omega) (by omega) v0
     have hm0 : 0 <= v % (zp l1 (B : Int)).f2 := Int.emod_nonneg _ (by omega)
     have hm1 : v % (zp l1 (B : Int)).f2 < (zp l1 (B : Int)).f2 := Int.emod_lt_of_pos _ (by omega)
     have hw : WW n (rd st (cs (l1.take (B : Int).toNat) + v % (zp l1 (B : Int)).f2)) := z5C hsw (by omega) (by omega)
     refine ⟨_, es ++ [⟨1, B, Int.tmod v (zp l1 (B : Int)).f2⟩], hw, r2 x v v0 tv, z61 g3 (by simp) (by omega) (ev_read (N := (B : Int)) (by omega) (by omega) (by omega) (by omega) tv), by rw [je]; simp only [eN, List.length_singleton]; omega, NB_one g6 (show (1 : Int) ≠ 0 by decide), z28 g5 hw (by simp) fun r cc hs hre hwr hov hpc hr hvs hi => ?_⟩
     have hidx : yt l1 cc.re B (r : Int) = v % (zp l1 (B : Int)).f2 := by
      unfold yt
      rw [ja (by omega), show rg cc.re (r : Int) = v from hvs 0 v rfl, z4l v0]
     have hi' : ins[cc.pc.toNat]? = some ⟨3, r, B, r, 0⟩ := by simpa [cI] using hi
     have hstp := z4o (n := n) (pk := pk) (s := (r : Int)) hov hpc hre (by omega : r < 64) hB (fun _ => ⟨by omega, by omega⟩) hF (by rw [hidx]; omega) (by rw [hidx, hs]; omega) hi'
     have e : z0H l1 (cs (l1.take (B : Int).toNat)) r B r (zV cc) = ({ ZN r (rd st (cs (l1.take (B : Int).toNat) + v % (zp l1 (B : Int)).f2)) (zV cc) with tr := cc.tr ++ [⟨1, B, Int.tmod v (zp l1 (B : Int)).f2⟩] } : VC) := by
      unfold z0H vEv ZN
      rw [jb (by omega), show yt l1 (zV cc).re B (r : Int) = v % (zp l1 (B : Int)).f2 from hidx, z4l v0]
      simp only [zV, jh, hs]
      rfl
     rw [<- e]
     exact hstp
    ·rw [ja hcl] at har
     obtain rfl := len0 har
     obtain ⟨_, p1, p8, q0, q1⟩ := z7M l1 hl hv (B : Int) 0 (by omega) (by omega) (jq _)
     have hz : (0 : Int) % (zp l1 (B : Int)).f2 = 0 := Int.zero_emod _
     have hw : WW n (rd st (cs (l1.take (B : Int).toNat) + 0 % (zp l1 (B : Int)).f2)) := z5C hsw (by omega) (by omega)
     refine ⟨_, es ++ [], hw, r1, by rw [List.append_nil]; exact evO (.inr rfl), by rw [List.append_nil]; simp only [eN]; omega, z3g g6, z28 g5 hw (by simp) fun r cc hs hre hwr hov hpc hr hvs hi => ?_⟩
     have hidx : yt l1 cc.re B (0 : Int) = 0 := by
      unfold yt
      rw [jb (by omega)]
     have hi' : ins[cc.pc.toNat]? = some ⟨3, r, B, 0, 0⟩ := by simpa [cI] using hi
     have hstp := z4o (n := n) (pk := pk) (s := (0 : Int)) hov hpc hre (by omega : r < 64) hB (fun _ => ⟨by omega, by omega⟩) hF (by rw [hidx]; omega) (by rw [hidx, hs]; omega) hi'
     have e : z0H l1 (cs (l1.take (B : Int).toNat)) r B 0 (zV cc) = ZN r (rd st (cs (l1.take (B : Int).toNat) + 0 % (zp l1 (B : Int)).f2)) (zV cc) := by
      unfold z0H vEv ZN
      rw [ja (by omega), show yt l1 (zV cc).re B (0 : Int) = 0 from hidx, hz]
      simp only [zV, jh, hs]
      rfl
     rw [z1H, <- e]
     exact hstp
   ·rw [ja hb] at har
    omega
  rw [ja a1] at har
  by_cases a2 : (2 <= a /\ a <= 11) \/ a = 13 \/ a = 14
  ·rw [jb a2] at har
   obtain ⟨x, y, rfl⟩ := len2 har
   obtain ⟨u, v, rfl⟩ : ∃ u v, vs = [u, v] := z51 (by simpa using g1)
   obtain ⟨⟨u0, u1⟩, t1⟩ := g2 0 x u rfl rfl
   obtain ⟨⟨v0, v1⟩, t3⟩ := g2 1 y v rfl rfl
   obtain ⟨d, td, d0, d1⟩ := do_t n h1 h8 a u v u0 u1 v0 v1
   have n12 : a ≠ 12 := by omega
   have n15 : a ≠ 15 := by omega
   refine ⟨d, es ++ [], ⟨d0, d1⟩, val_do a0 a1 n12 n15 t1 t3 td, by rw [List.append_nil]; exact evO (.inl a1), by rw [List.append_nil]; simp only [eN]; omega, z3g g6, z28 g5 ⟨d0, d1⟩ (by simp) fun r cc hs hre hwr hov hpc hr hvs hi => ?_⟩
   rw [z1H]
   have hi' : ins[cc.pc.toNat]? = some ⟨1, r, a, r, (r : Int) + 1⟩ := by simpa [cI, a0, a1, n12, n15] using hi
   refine stp_do hov hpc hre (by omega) n12 hi' ?_
   rw [show rg cc.re (r : Int) = u from hvs 0 u rfl, z5w hvs rfl]
   exact td
  rw [ja a2] at har
  by_cases a12 : a = 12
  ·rw [jb a12] at har
   subst a12
   obtain ⟨x, rfl⟩ := len1 har
   obtain ⟨u, rfl⟩ : ∃ u, vs = [u] := List.length_eq_one_iff.1 (by simpa using g1)
   obtain ⟨⟨u0, u1⟩, t1⟩ := g2 0 x u rfl rfl
   have tn := Not_t n h8 u u0 u1
   have hw : WW n (2 ^ n - 1 - u) := ⟨by omega, by omega⟩
   refine ⟨2 ^ n - 1 - u, es ++ [], hw, val_not t1 tn, by rw [List.append_nil]; exact evO (.inl a1), by rw [List.append_nil]; simp only [eN]; omega, z3g g6, z28 g5 hw (by simp) fun r cc hs hre hwr hov hpc hr hvs hi => ?_⟩
   rw [z1H]
   refine stp_not hov hpc hre (by omega) (by simpa [cI] using hi) ?_
   rw [show rg cc.re (r : Int) = u from hvs 0 u rfl]
   exact tn
  rw [ja a12] at har
  by_cases a15 : a = 15
  ·rw [jb a15] at har
   subst a15
   obtain ⟨x, y, z, rfl⟩ := len3 har
   obtain ⟨u, v, q, rfl⟩ : ∃ u v q, vs = [u, v, q] := z4m (by simpa using g1)
   obtain ⟨⟨u0, u1⟩, t1⟩ := g2 0 x u rfl rfl
   obtain ⟨hwv, t3⟩ := g2 1 y v rfl rfl
   obtain ⟨hwq, t5⟩ := g2 2 z q rfl rfl
   have hw : WW n (if u = 0 then q else v) := by split <;> assumption
   refine ⟨_, es ++ [], hw, val_if t1 t3 t5, by rw [List.append_nil]; exact evO (.inl a1), by rw [List.append_nil]; simp only [eN]; omega, z3g g6, z28 g5 hw (by simp) fun r cc hs hre hwr hov hpc hr hvs hi => ?_⟩
   rw [z1H]
   have hi' : ins[cc.pc.toNat]? = some ⟨2, r, r, (r : Int) + 1, (r : Int) + 2⟩ := by simpa [cI] using hi
   have := stp_sel (wd := (n : Int)) (l1 := l1) (pk := pk) hov hpc hre (by omega) hi'
   rw [show rg cc.re (r : Int) = u from hvs 0 u rfl, z5w hvs rfl, vs_get2 hvs rfl] at this
   exact this
  ·rw [ja a15] at har
   omega
 ·intro ho hn
  simp only [z0L, jg] at ho
  simp only [eNs] at hn
  obtain ⟨v, e, x1, x2, x3, x4, x6, x5⟩ := ih1 ho.1 (by omega)
  obtain ⟨vs, es, y1, y2, y3, y4, y6, y5⟩ := ih2 ho.2 (by omega)
  refine ⟨v :: vs, e ++ es, by simp [y1], fun i z u hz hu => ?_, z80 x3 y3, by rw [je]; simp only [eNs]; omega, z7V x6 y6, z4U x5 y5⟩
  cases i with
  | zero =>
   obtain rfl : x = z := by simpa using hz
   obtain rfl : v = u := by simpa using hu
   exact ⟨x1, x2⟩
  | succ i => exact y2 i z u (by simpa using hz) (by simpa using hu)
def YT {α : Type} (d : Kd α) (w0 : World) : Kd α where
 sz := d.sz
 E := []
 K := fun _ x cs => d.K w0 x cs
 M := fun _ _ _ x cs => d.K w0 x cs
 K_len := fun h => d.K_len h
 K_one := fun h => d.K_one h
 K_below := fun _ h => h
 K_of_M := fun h => h
 M_mono := fun _ h => h
 M_bound := fun h => h
 M_move := fun _ h => h
 M_lower := fun _ h => h
theorem yf {w : World} {g : Nat} {a0 a1 a2 a3 a4 a5 a6 a7 a8 a9 : Value} {t : TypeId} (h : w.heap[g]? = some (.cells #[a0, a1, a2, a3, a4, a5, a6, a7, a8, a9] t (0, 0))) : w.cell? ⟨g, 0, none⟩ = some a0 /\ w.cell? ⟨g, 1, none⟩ = some a1 /\ w.cell? ⟨g, 2, none⟩ = some a2 /\ w.cell? ⟨g, 3, none⟩ = some a3 /\ w.cell? ⟨g, 4, none⟩ = some a4 /\ w.cell? ⟨g, 5, none⟩ = some a5 /\ w.cell? ⟨g, 6, none⟩ = some a6 /\ w.cell? ⟨g, 7, none⟩ = some a7 /\ w.cell? ⟨g, 8, none⟩ = some a8 /\ w.cell? ⟨g, 9, none⟩ = some a9 :=
 ⟨(za h 0).trans rfl, (za h 1).trans rfl, (za h 2).trans rfl, (za h 3).trans rfl, (za h 4).trans rfl, (za h 5).trans rfl, (za h 6).trans rfl, (za h 7).trans rfl, (za h 8).trans rfl, (za h 9).trans rfl⟩
theorem z75 {w : World} {g : Nat} {a0 a1 a2 a3 a4 a5 : Value} {t : TypeId} (h : w.heap[g]? = some (.cells #[a0, a1, a2, a3, a4, a5] t (0, 0))) : w.cell? ⟨g, 0, none⟩ = some a0 /\ w.cell? ⟨g, 1, none⟩ = some a1 /\ w.cell? ⟨g, 2, none⟩ = some a2 /\ w.cell? ⟨g, 3, none⟩ = some a3 /\ w.cell? ⟨g, 4, none⟩ = some a4 /\ w.cell? ⟨g, 5, none⟩ = some a5 :=
 ⟨(za h 0).trans rfl, (za h 1).trans rfl, (za h 2).trans rfl, (za h 3).trans rfl, (za h 4).trans rfl, (za h 5).trans rfl⟩
theorem z12 {w : World} {g : Nat} {t : TypeId} {cs : Array Value} (h : w.heap[g]? = some (.cells cs t (0, 0))) : w.frozen? ⟨g, 0, none⟩ = false /\ w.frozen? ⟨g, 1, none⟩ = false /\ w.frozen? ⟨g, 2, none⟩ = false /\ w.frozen? ⟨g, 3, none⟩ = false /\ w.frozen? ⟨g, 4, none⟩ = false /\ w.frozen? ⟨g, 5, none⟩ = false /\ w.frozen? ⟨g, 6, none⟩ = false /\ w.frozen? ⟨g, 7, none⟩ = false /\ w.frozen? ⟨g, 8, none⟩ = false /\ w.frozen? ⟨g, 9, none⟩ = false :=
 ⟨zf h 0, zf h 1, zf h 2, zf h 3, zf h 4, zf h 5, zf h 6, zf h 7, zf h 8, zf h 9⟩
structure MC where
 ed : Int
 st : List Int
 ou : List z1v
 tr : List Z4
 co : Int
 us : Int
 wh : Int
 fu : Int
 td : List ZT
 ov : Bool
def MT (cs : Array Value) (k : Nat) : Prop := (cs.getD 2 undef).ownBlock = some k \/ (cs.getD 3 undef).ownBlock = some k
def MR (w0 W : World) (Q : Nat -> Prop) (cs : Array Value) (c : MC) : Prop :=
 ∃ A1 n1 A2 n2 A3 n3 A8 n8, cs = #[.int .i64 c.ed, .slice A1 c.st.length n1, .slice A2 c.ou.length n2, .slice A3 c.tr.length n3, .int .i64 c.co, .int .i64 c.us, .int .i64 c.wh, .int .i64 c.fu, .slice A8 c.td.length n8, .bool c.ov] /\
  Kd.R z32 134 W w0.heap.size Q (.slice A2 c.ou.length n2) c.ou /\ Kd.R Ye 144 W w0.heap.size Q (.slice A3 c.tr.length n3) c.tr /\
  c.st.length <= n1 /\ Kd.F (Kd.int .i64) W (fun k => Q k /\ ¬ MT cs k) A1 c.st.length c.st /\ c.td.length <= n8 /\ Kd.F (YT Y4 w0) W (fun k => Q k /\ ¬ MT cs k) A8 c.td.length c.td
section
variable {w0 W W' : World} {Q Q' : Nat -> Prop} {cs : Array Value} {c : MC}
theorem MR.step (h : MR w0 W Q cs c) (hm : ∀ k, Q k -> k < W.heap.size -> W'.heap[k]? = W.heap[k]?) : MR w0 W' Q cs c := by
 obtain ⟨A1, n1, A2, n2, A3, n3, A8, n8, e, h2, h3, l1, f1, l8, f8⟩ := h
 exact ⟨A1, n1, A2, n2, A3, n3, A8, n8, e, Kd.R_step h2 hm, Kd.R_step h3 hm, l1, Kd.F_step f1 (fun k hk => hm k hk.1), l8, Kd.F_step f8 (fun k hk => hm k hk.1)⟩
theorem MR.below (h : MR w0 W Q cs c) (hb : Below W.heap.size W W') : MR w0 W' Q cs c := h.step (fun k _ hk => hb.block k hk)
theorem MR.mono (h : MR w0 W Q cs c) (hq : ∀ k, Q k -> k < W.heap.size -> Q' k) : MR w0 W Q' cs c := by
 obtain ⟨A1, n1, A2, n2, A3, n3, A8, n8, e, h2, h3, l1, f1, l8, f8⟩ := h
 exact ⟨A1, n1, A2, n2, A3, n3, A8, n8, e, jr (Kd.R_bound h2) (fun k hk => hq k hk.1 hk.2.2.1), jr (Kd.R_bound h3) (fun k hk => hq k hk.1 hk.2.2.1), l1, Kd.F_mono (Kd.F_bound f1) (fun k hk => ⟨hq k hk.1.1 hk.2, hk.1.2⟩), l8, Kd.F_mono (Kd.F_bound f8) (fun k hk => ⟨hq k hk.1.1 hk.2, hk.1.2⟩)⟩
theorem MR.bound (h : MR w0 W Q cs c) : MR w0 W (fun k => Q k /\ k < W.heap.size) cs c := h.mono (fun _ h1 h2 => ⟨h1, h2⟩)
theorem MR.set (h : MR w0 W Q cs c) {p : Addr} (hp : ¬ Q p.block) (u : Value) : MR w0 (W.setCell p u) Q cs c := h.step (fun k hk _ => jl _ _ _ _ (fun e => hp (e ▸ hk)))
theorem MR.fill (h : MR w0 W Q cs c) {g : Nat} (hp : ¬ Q g) (vs : List Value) : MR w0 (W.setCells g 0 vs) Q cs c := h.step (fun k hk _ => Zj (fun e => hp (e ▸ hk)))
theorem MR.mt (h : MR w0 W Q cs c) {k : Nat} (hk : MT cs k) : Q k /\ w0.heap.size <= k /\ k < W.heap.size := by
 obtain ⟨A1, n1, A2, n2, A3, n3, A8, n8, rfl, h2, h3, _⟩ := h
 rcases hk with hk | hk
 ·exact ⟨h2.1 k hk, Kd.R_base h2 k hk, Kd.R_lt h2 k hk⟩
 ·exact ⟨h3.1 k hk, Kd.R_base h3 k hk, Kd.R_lt h3 k hk⟩
theorem MR.ed' (h : MR w0 W Q cs c) (x : Int) : MR w0 W Q (cs.setIfInBounds 0 (.int .i64 x)) { c with ed := x } := by
 obtain ⟨A1, n1, A2, n2, A3, n3, A8, n8, rfl, h⟩ := h
 exact ⟨A1, n1, A2, n2, A3, n3, A8, n8, rfl, h⟩
theorem MR.co' (h : MR w0 W Q cs c) (x : Int) : MR w0 W Q (cs.setIfInBounds 4 (.int .i64 x)) { c with co := x } := by
 obtain ⟨A1, n1, A2, n2, A3, n3, A8, n8, rfl, h⟩ := h
 exact ⟨A1, n1, A2, n2, A3, n3, A8, n8, rfl, h⟩
theorem MR.us' (h : MR w0 W Q cs c) (x : Int) : MR w0 W Q (cs.setIfInBounds 5 (.int .i64 x)) { c with us := x } := by
 obtain ⟨A1, n1, A2, n2, A3, n3, A8, n8, rfl, h⟩ := h
 exact ⟨A1, n1, A2, n2, A3, n3, A8, n8, rfl, h⟩
theorem MR.wh' (h : MR w0 W Q cs c) (x : Int) : MR w0 W Q (cs.setIfInBounds 6 (.int .i64 x)) { c with wh := x } := by
 obtain ⟨A1, n1, A2, n2, A3, n3, A8, n8, rfl, h⟩ := h
 exact ⟨A1, n1, A2, n2, A3, n3, A8, n8, rfl, h⟩
theorem MR.fu' (h : MR w0 W Q cs c) (x : Int) : MR w0 W Q (cs.setIfInBounds 7 (.int .i64 x)) { c with fu := x } := by
 obtain ⟨A1, n1, A2, n2, A3, n3, A8, n8, rfl, h⟩ := h
 exact ⟨A1, n1, A2, n2, A3, n3, A8, n8, rfl, h⟩
theorem MR.ov' (h : MR w0 W Q cs c) (x : Bool) : MR w0 W Q (cs.setIfInBounds 9 (.bool x)) { c with ov := x } := by
 obtain ⟨A1, n1, A2, n2, A3, n3, A8, n8, rfl, h⟩ := h
 exact ⟨A1, n1, A2, n2, A3, n3, A8, n8, rfl, h⟩
theorem MR.td' (h : MR w0 W Q cs c) {A : Option Addr} {n : Nat} {xs : List ZT} (hl : xs.length <= n) (hf : Kd.F (YT Y4 w0) W (fun k => Q k /\ ¬ MT cs k) A xs.length xs) : MR w0 W Q (cs.setIfInBounds 8 (.slice A xs.length n)) { c with td := xs } := by
 obtain ⟨A1, n1, A2, n2, A3, n3, A8, n8, rfl, h2, h3, l1, f1, l8, f8⟩ := h
 exact ⟨A1, n1, A2, n2, A3, n3, A, n, rfl, h2, h3, l1, f1, hl, hf⟩
theorem MR.st' (h : MR w0 W Q cs c) {A : Option Addr} {n : Nat} {xs : List Int} (hl : xs.length <= n) (hf : Kd.F (Kd.int .i64) W (fun k => Q k /\ ¬ MT cs k) A xs.length xs) : MR w0 W Q (cs.setIfInBounds 1 (.slice A xs.length n)) { c with st := xs } := by
 obtain ⟨A1, n1, A2, n2, A3, n3, A8, n8, rfl, h2, h3, l1, f1, l8, f8⟩ := h
 exact ⟨A, n, A2, n2, A3, n3, A8, n8, rfl, h2, h3, hl, hf, l8, f8⟩
theorem MR.store {ed co us wh fu : Int} {A1 A2 A3 A8 : Option Addr} {n1 n2 n3 n8 m1 m2 m3 m8 : Nat} {ov : Bool} (h : MR w0 W Q (Vu ed A1 m1 n1 A2 m2 n2 A3 m3 n3 co us wh fu A8 m8 n8 ov) c) : Kd.C (Kd.int .i64) W A1 c.st.length c.st /\ c.st.length <= n1 := by
 obtain ⟨B1, k1, B2, k2, B3, k3, B8, k8, e, h2, h3, l1, f1, l8, f8⟩ := h
 simp only [Array.mk.injEq, List.cons.injEq, Value.slice.injEq] at e
 obtain ⟨_, ⟨rfl, _, rfl⟩, _⟩ := e
 exact ⟨Kd.F_now f1, l1⟩
theorem MR.fresh {α : Type} {d : Kd α} {e n0 n cc : Nat} {ok : Nat -> Prop} {A : Option Addr} {xs : List α} (hb : ∀ k, MT cs k -> k < n0) (ho : d.R e W n0 ok (.slice A n cc) xs) (hq : ∀ k, n0 <= k -> k < W.heap.size -> Q k) : Kd.F d W (fun k => Q k /\ ¬ MT cs k) A n xs :=
 Kd.R_F (jr (Kd.R_bound ho) (fun k hk => ⟨hq k hk.2.1 hk.2.2.1, fun h => by have := hb k h; omega⟩))
theorem MR.grow_tr (h : MR w0 W Q cs c) : ∃ A3 n3, cs[3]? = some (.slice A3 c.tr.length n3) /\ Kd.R Ye 144 W w0.heap.size Q (.slice A3 c.tr.length n3) c.tr /\
  ∀ (W1 : World) (v1 : Value) (ys : List Z4) (Q' : Nat -> Prop), (∀ k, Q k -> Q' k) -> Kd.R Ye 144 W1 w0.heap.size Q' v1 ys -> W.grownBy W1 (Value.slice A3 c.tr.length n3).ownBlock -> (v1.ownBlock = (Value.slice A3 c.tr.length n3).ownBlock \/ ∃ b, v1.ownBlock = some b /\ W.heap.size <= b) -> MR w0 W1 Q' (cs.setIfInBounds 3 v1) { c with tr := ys } /\ ∀ k, MT (cs.setIfInBounds 3 v1) k -> MT cs k \/ W.heap.size <= k := by
 obtain ⟨A1, n1, A2, n2, A3, n3, A8, n8, rfl, h2, h3, l1, f1, l8, f8⟩ := h
 refine ⟨A3, n3, rfl, h3, fun W1 v1 ys Q' hq ho hg hat => ?_⟩
 obtain ⟨A, n, rfl⟩ := js ho
 have mv : ∀ {α : Type} {d : Kd α} {A' : Option Addr} {m : Nat} {xs : List α}, Kd.F d W (fun k => Q k /\ ¬ MT (Va c.ed A1 c.st n1 A2 c.ou n2 A3 c.tr n3 c.co c.us c.wh c.fu A8 c.td n8 c.ov) k) A' m xs ->
   Kd.F d W1 (fun k => Q' k /\ ¬ MT (Va c.ed A1 c.st n1 A2 c.ou n2 A ys n c.co c.us c.wh c.fu A8 c.td n8 c.ov) k) A' m xs := fun hf => by
  refine Kd.F_mono (Kd.F_step (Kd.F_bound hf) (fun k hk hlt => hg.block k hlt (fun e => hk.1.2 (.inr e.symm)))) (fun k hk => ⟨hq k hk.1.1, fun hm => ?_⟩)
  rcases hm with hm | hm
  ·exact hk.1.2 (.inl hm)
  ·rcases hat with hat | ⟨b, hat, hb⟩
   ·exact hk.1.2 (.inr (hat ▸ hm))
   ·have := hk.2
    replace hm : (Value.slice A ys.length n).ownBlock = some _ := hm
    rw [hat] at hm
    injection hm with hm
    omega
 refine ⟨⟨A1, n1, A2, n2, A, n, A8, n8, rfl, jr (Kd.R_over' h2 (Kd.R_typed h3) (by decide) hg) hq, ho, l1, mv f1, l8, mv f8⟩, fun k hk => ?_⟩
 rcases hk with hk | hk
 ·exact .inl (.inl hk)
 ·rcases hat with hat | ⟨b, hat, hb⟩
  ·exact .inl (.inr (hat ▸ hk))
  ·refine .inr ?_
   replace hk : (Value.slice A ys.length n).ownBlock = some _ := hk
   rw [hat] at hk
   injection hk with hk
   omega
theorem MR.grow_ou (h : MR w0 W Q cs c) : ∃ A2 n2, cs[2]? = some (.slice A2 c.ou.length n2) /\ Kd.R z32 134 W w0.heap.size Q (.slice A2 c.ou.length n2) c.ou /\
  ∀ (W1 : World) (v1 : Value) (ys : List z1v) (Q' : Nat -> Prop), (∀ k, Q k -> Q' k) -> Kd.R z32 134 W1 w0.heap.size Q' v1 ys -> W.grownBy W1 (Value.slice A2 c.ou.length n2).ownBlock -> (v1.ownBlock = (Value.slice A2 c.ou.length n2).ownBlock \/ ∃ b, v1.ownBlock = some b /\ W.heap.size <= b) -> MR w0 W1 Q' (cs.setIfInBounds 2 v1) { c with ou := ys } /\ ∀ k, MT (cs.setIfInBounds 2 v1) k -> MT cs k \/ W.heap.size <= k := by
 obtain ⟨A1, n1, A2, n2, A3, n3, A8, n8, rfl, h2, h3, l1, f1, l8, f8⟩ := h
 refine ⟨A2, n2, rfl, h2, fun W1 v1 ys Q' hq ho hg hat => ?_⟩
 obtain ⟨A, n, rfl⟩ := js ho
 have mv : ∀ {α : Type} {d : Kd α} {A' : Option Addr} {m : Nat} {xs : List α}, Kd.F d W (fun k => Q k /\ ¬ MT (Va c.ed A1 c.st n1 A2 c.ou n2 A3 c.tr n3 c.co c.us c.wh c.fu A8 c.td n8 c.ov) k) A' m xs ->
   Kd.F d W1 (fun k => Q' k /\ ¬ MT (Va c.ed A1 c.st n1 A ys n A3 c.tr n3 c.co c.us c.wh c.fu A8 c.td n8 c.ov) k) A' m xs := fun hf => by
  refine Kd.F_mono (Kd.F_step (Kd.F_bound hf) (fun k hk hlt => hg.block k hlt (fun e => hk.1.2 (.inl e.symm)))) (fun k hk => ⟨hq k hk.1.1, fun hm => ?_⟩)
  rcases hm with hm | hm
  ·rcases hat with hat | ⟨b, hat, hb⟩
   ·exact hk.1.2 (.inl (hat ▸ hm))
   ·have := hk.2
    replace hm : (Value.slice A ys.length n).ownBlock = some _ := hm
    rw [hat] at hm
    injection hm with hm
    omega
  ·exact hk.1.2 (.inr hm)
 refine ⟨⟨A1, n1, A, n, A3, n3, A8, n8, rfl, ho, jr (Kd.R_over' h3 (Kd.R_typed h2) (by decide) hg) hq, l1, mv f1, l8, mv f8⟩, fun k hk => ?_⟩
 rcases hk with hk | hk
 ·rcases hat with hat | ⟨b, hat, hb⟩
  ·exact .inl (.inl (hat ▸ hk))
  ·refine .inr ?_
   replace hk : (Value.slice A ys.length n).ownBlock = some _ := hk
   rw [hat] at hk
   injection hk with hk
   omega
 ·exact .inl (.inr hk)
def MP (w0 w : World) (Q : Nat -> Prop) (cs : Array Value) (c' : MC) (e : Ending) (w' : World) : Prop :=
 ∃ cs', e = .returned (.agg cs') /\ MR w0 w' (fun k => Q k \/ w.heap.size <= k) cs' c' /\ (∀ k, MT cs' k -> MT cs k \/ w.heap.size <= k) /\ Below w0.heap.size w0 w' /\ zN w w' (MT cs)
theorem yO {fn : Func} {a : Act} {p : Tmp} {w W2 : World} {g : Nat} {Q2 : Nat -> Prop} {zs cs2 : Array Value} {c2 c' : MC} (HV : MR w0 W2 Q2 cs2 c2) (hc : c2 = c') (HM : ∀ k, MT cs2 k -> MT cs k \/ w.heap.size <= k) (X : W2.heap[g]? = some (.cells zs 98 (0, 0))) (hz : cs2.size = zs.size) (hB : Below w0.heap.size w0 W2) (hK : zN w W2 (MT cs)) (hg : w.heap.size <= g) (hb : w0.heap.size <= g)
  (hn : ¬ Q2 g) (hQ : ∀ k, Q2 k -> Q k \/ w.heap.size <= k) (hr : fn.results = #[.cell p 98]) (hp : a.tmps.getD p undef = .pointer (some ⟨g, 0, none⟩)) (hd : a.defers = []) (hW : W = W2.setCells g 0 cs2.toList) :
  bodyPost Tryz.prog fn (MP w0 w Q cs c') .ret a W := by
 subst hW
 subst hc
 have hf := Za (vs := cs2.toList) X (by simpa using hz)
 have hi : (Tryz.prog.info? 98).map (·.size) = some cs2.size := by
  obtain ⟨A1, n1, A2, n2, A3, n3, A8, n8, rfl, _⟩ := HV
  kernel_rfl
 refine bodyPost_ret (results_cell_row hr _ _ g 98 cs2 (0, 0) _ hp (by simpa using hf) Tryz.underlying98 rfl hi) hd ?_
 exact ⟨_, rfl, (HV.fill hn _).mono (fun k hk _ => hQ k hk), HM, Zb hB hb, yk hK (.inr hg)⟩
end
def z22.f (k : Nat) (l0 : List Int) (a1 : Int) (a2 : Int) : Option (List Int) := (Zm.f k l0).bind fun t968 => (if 0 <= a1 then (if a1 < (t968.length : Int) then (some (t968.set (a1 : Int).toNat a2)) else (none)) else (none))
theorem z22.calls (k : Nat) (A0 : Option Addr) (c0 : Nat) (l0 : List Int) (a1 : Int) (a2 : Int) (r : List Int) (w : World) (hr0 : Kd.C (Kd.int .i64) w A0 l0.length l0) (hc0 : l0.length <= c0) (h : z22.f k l0 a1 a2 = some r) :
  Calls Tryz.prog 118 #[.slice A0 l0.length c0, .int .i64 a1, .int .i64 a2] w fun e w' => ∃ v0_ : Value, e = .returned (v0_) /\ Kd.R (Kd.int .i64) 3 w' w.heap.size (fun _ => True) v0_ r /\ Below w.heap.size w w' := by
 have HR0 := am hr0
 have HC0 := am hc0
 clear hr0 hc0
 have HB := am (jc w.heap.size w)
 have H := h
 clear h
 obtain ⟨t968, A4, H⟩ := be H
 obtain ⟨c5b0, H⟩ := pd H
 obtain ⟨c6b0, H⟩ := pd H
 obtain ⟨y971, hy971⟩ : ∃ y_ : List Int, y_ = (t968.set (a1 : Int).toNat a2) := ⟨_, rfl⟩
 replace H : (some y971) = some r := by first | (rw [hy971]; with_reducible exact H) | (have H2_ := (jv _ _).symm.trans H; rw [hy971]; with_reducible exact H2_) | (have H2_ := (jv _ _).symm.trans H; with_reducible exact H2_) | with_reducible exact H | (rw [hy971]; exact H) | exact H
 have Ny971 := am hy971
 clear hy971
 obtain rfl := sj H
 go_enter Tryz.func118, Tryz.ntmps118
 go_wp2_with (first | (go_at_call 68; (with_reducible refine (Zm.calls k _ _ l0 t968 _ (ca HR0) HC0.out A4.out).mono ?_); rintro e w8 ⟨v969, rfl, ho0, hb⟩; have HO970 := am (Kd.R_lower ho0 (bsz (bb HB))); replace HB := sb HB hb; have p7 : 0 <= (a1 : Int) := od; have q7 : (a1 : Int) < ((t968.length : Int) : Int) := od; obtain ⟨go7, co7, eo7, gb7, gl7, cl7, HG7⟩ := Kd.R_form HO970.out (by omega); (first | cases eo7 | (injection eo7 with ea_ en_ ec_; (first | subst ea_ | (injection ea_ with ea_; subst ea_)); subst ec_; clear en_)); have GB7 := am gb7; have GG7 := am HG7; clear gb7 gl7 HG7; obtain ⟨hx7_0, hf7_0⟩ := Kd.R_celln 0 HO970.out (a1 : Int) p7 q7; replace p7 := eT p7; replace q7 := eT q7; obtain ⟨hy9_, hz9_⟩ := Kd.R_celln 0 HO970.out (a1 : Int) (od) (od); have HP9 := Kd.R_putg HO970.out (a1 : Int) a2) | ((with_reducible refine z5j (t := 3) (p := 13) rfl ?_); refine z4p (t := 3) (p := 13) (v := ?vo_w10) (w1 := (w8.setCell ⟨go7, (a1 : Int).toNat, none⟩ (.int .i64 a2))) ?hg ?ho ?hn ?hr ?_; (case ho => rfl); (case hg => rfl); (case hn => rfl); (case hr => first | (go_simp; done) | (go_simp; rfl)); intro w10 hw; have hg : w8.grownBy w10 (some go7) := (by rw [hw]; exact HP9.2); have hp_ : Kd.R (Kd.int .i64) 3 w10 w.heap.size (fun _ => True) (.slice (some ⟨go7, 0, none⟩) t968.length co7) y971 := (by rw [hw, Ny971.out]; exact HP9.1); clear HP9; replace HO970 := am (hp_); replace HB := am ((by rw [hw]; exact bst (HB.out) GB7.out : Below w.heap.size w w10)); clear hg hw hp_))
 go_ret
 exact ⟨_, rr, iR HO970, bb HB⟩
theorem z5W : (Tryz.prog.info? 144).map (fun i => (i.zero, i.size, i.bytes)) = some (some (.agg #[.int .i64 0, .int .i64 0, .int .i64 0]), 3, 24) := by kernel_rfl
def YR (x n : Int) (c : MC) : MC := { c with ed := x, wh := n, td := [], ov := true }
def mEv (a b d : Int) (c : MC) : MC := { c with tr := c.tr ++ [⟨a, b, d⟩] }
theorem z40.calls (w0 w : World) (Q : Nat -> Prop) (cs : Array Value) (c : MC) (x n : Int) (hB : Below w0.heap.size w0 w) (hV : MR w0 w Q cs c) (hQ : ∀ k, Q k -> k < w.heap.size) :
  Calls Tryz.prog 70 #[.agg cs, .int .i64 x, .int .i64 n] w (MP w0 w Q cs (YR x n c)) := by
 have HV := am hV
 obtain ⟨A1, n1, A2, n2, A3, n3, A8, n8, rfl, hh⟩ := id hV
 clear hh hV
 obtain ⟨b_, hsz_, x0_, x1_⟩ := z4P w (.cells (Va c.ed A1 c.st n1 A2 c.ou n2 A3 c.tr n3 c.co c.us c.wh c.fu A8 c.td n8 c.ov) 98) (.cells (Vi false) 98)
 have HV0 := am (HV.out.below b_)
 have HB0 := am (hB.trans (b_.mono hB.size))
 have HK0 := am (zN.of_below b_ (MT (Va c.ed A1 c.st n1 A2 c.ou n2 A3 c.tr n3 c.co c.us c.wh c.fu A8 c.td n8 c.ov)))
 have HSZ := am hsz_
 have X0 := am x0_
 have X1 := am x1_
 have HQ := am hQ
 have hBs := hB.size
 clear hsz_ hQ hB b_ x0_ x1_
 have hu := Tryz.underlying98
 have huR := Tryz.underlying44
 go_enter Tryz.func70, Tryz.ntmps70
 go_upto_region 1 with (fail)
 generalize (w.alloc (.cells (Va c.ed A1 c.st n1 A2 c.ou n2 A3 c.tr n3 c.co c.us c.wh c.fu A8 c.td n8 c.ov) 98)).alloc (.cells (Vi false) 98) = W0 at HV0 HB0 HK0 HSZ X0 X1 ⊢
 have c_q := bq X0.out
 have f_q := bq X0.out
 have z_q := bq X1.out
 have g_q := bq X1.out
 go_wp2
 have nq : ¬ Q w.heap.size := (fun h => jm (HQ.out _ h) (by omega))
 obtain ⟨hv, hb, hk, cur, hcs, hx⟩ : MR w0 ((((W0.setCell ⟨w.heap.size, 0, none⟩ (.int .i64 x)).setCell ⟨w.heap.size, 6, none⟩ (.int .i64 n)).setCell ⟨w.heap.size, 8, none⟩ (.slice none 0 0)).setCell ⟨w.heap.size, 9, none⟩ (.bool true)) Q #[.int .i64 x, .slice A1 c.st.length n1, .slice A2 c.ou.length n2, .slice A3 c.tr.length n3, .int .i64 c.co, .int .i64 c.us, .int .i64 n, .int .i64 c.fu, .slice none 0 0, .bool true] (YR x n c) /\ Below w0.heap.size w0 ((((W0.setCell ⟨w.heap.size, 0, none⟩ (.int .i64 x)).setCell ⟨w.heap.size, 6, none⟩ (.int .i64 n)).setCell ⟨w.heap.size, 8, none⟩ (.slice none 0 0)).setCell ⟨w.heap.size, 9, none⟩ (.bool true)) /\ zN w ((((W0.setCell ⟨w.heap.size, 0, none⟩ (.int .i64 x)).setCell ⟨w.heap.size, 6, none⟩ (.int .i64 n)).setCell ⟨w.heap.size, 8, none⟩ (.slice none 0 0)).setCell ⟨w.heap.size, 9, none⟩ (.bool true)) (MT (Va c.ed A1 c.st n1 A2 c.ou n2 A3 c.tr n3 c.co c.us c.wh c.fu A8 c.td n8 c.ov)) /\ ∃ cur : Array Value, cur.size = 10 /\ ((((W0.setCell ⟨w.heap.size, 0, none⟩ (.int .i64 x)).setCell ⟨w.heap.size, 6, none⟩ (.int .i64 n)).setCell ⟨w.heap.size, 8, none⟩ (.slice none 0 0)).setCell ⟨w.heap.size, 9, none⟩ (.bool true)).heap[w.heap.size + 1]? = some (.cells cur 98 (0, 0)) := ⟨(((((((HV0.out.set (p := ⟨w.heap.size, _, none⟩) nq _).ed' _).set (p := ⟨w.heap.size, _, none⟩) nq _).wh' _).set (p := ⟨w.heap.size, _, none⟩) nq _).td' (Nat.zero_le _) (Kd.F_nil _ _ _)).set (p := ⟨w.heap.size, _, none⟩) nq _).ov' _, ((((HB0.out.setCell (p := ⟨w.heap.size, _, none⟩) hBs _).setCell (p := ⟨w.heap.size, _, none⟩) hBs _).setCell (p := ⟨w.heap.size, _, none⟩) hBs _).setCell (p := ⟨w.heap.size, _, none⟩) hBs _), ((((HK0.out.setCell (p := ⟨w.heap.size, _, none⟩) (.inr (jk _)) _).setCell (p := ⟨w.heap.size, _, none⟩) (.inr (jk _)) _).setCell (p := ⟨w.heap.size, _, none⟩) (.inr (jk _)) _).setCell (p := ⟨w.heap.size, _, none⟩) (.inr (jk _)) _), _, rfl, ((jl _ _ _ _ (by show w.heap.size + 1 ≠ w.heap.size; omega)).trans ((jl _ _ _ _ (by show w.heap.size + 1 ≠ w.heap.size; omega)).trans ((jl _ _ _ _ (by show w.heap.size + 1 ≠ w.heap.size; omega)).trans ((jl _ _ _ _ (by show w.heap.size + 1 ≠ w.heap.size; omega)).trans X1.out))))⟩
 exact yO (g := w.heap.size + 1) hv rfl (fun k h => .inl h) hx hcs.symm hb hk (by omega) (by omega) (fun h => jm (HQ.out _ h) (by omega)) (fun k hk => .inl hk) rfl rfl rfl rfl
theorem z1M.calls (w0 w : World) (Q : Nat -> Prop) (cs : Array Value) (c : MC) (k0 k1 k2 : Int) (hB : Below w0.heap.size w0 w) (hV : MR w0 w Q cs c) (hQ : ∀ k, Q k -> k < w.heap.size) (hl : c.tr.length < 1000000000) :
  Calls Tryz.prog 101 #[.agg cs, .int .i64 k0, .int .i64 k1, .int .i64 k2] w (MP w0 w Q cs (mEv k0 k1 k2 c)) := by
 have HV := am hV
 obtain ⟨A1, n1, A2, n2, A3, n3, A8, n8, rfl, hh⟩ := id hV
 clear hh hV
 obtain ⟨b_, hsz_, x0_, x1_⟩ := z4P w (.cells (Va c.ed A1 c.st n1 A2 c.ou n2 A3 c.tr n3 c.co c.us c.wh c.fu A8 c.td n8 c.ov) 98) (.cells (Vi false) 98)
 have HV0 := am (HV.out.below b_)
 have HB0 := am (hB.trans (b_.mono hB.size))
 have HK0 := am (zN.of_below b_ (MT (Va c.ed A1 c.st n1 A2 c.ou n2 A3 c.tr n3 c.co c.us c.wh c.fu A8 c.td n8 c.ov)))
 have HSZ := am hsz_
 have X0 := am x0_
 have X1 := am x1_
 have HQ := am hQ
 have hBs := hB.size
 clear hsz_ hQ hB b_ x0_ x1_
 have hu := Tryz.underlying98
 have huR := Tryz.underlying44
 have huE := Tryz.underlying42
 go_enter Tryz.func101, Tryz.ntmps101
 go_upto_region 1 with (fail)
 generalize (w.alloc (.cells (Va c.ed A1 c.st n1 A2 c.ou n2 A3 c.tr n3 c.co c.us c.wh c.fu A8 c.td n8 c.ov) 98)).alloc (.cells (Vi false) 98) = W0 at HV0 HB0 HK0 HSZ X0 X1 ⊢
 obtain ⟨A, n, e3, h3, hg3⟩ := HV0.out.grow_tr
 obtain ⟨rfl, rfl⟩ : A3 = A /\ n3 = n := by
  have := sj e3
  injection this with h1 h2 h3
  exact ⟨h1, h3⟩
 clear e3
 have H3 := am h3
 have HG := am hg3
 have HL := am hl
 clear h3 hg3 hl
 have c3 : W0.cell? ⟨w.heap.size, 3, none⟩ = some (.slice A3 c.tr.length n3) := (za X0.out 3).trans rfl
 go_upto_region 2 with (first | ((with_reducible refine Zq (b := .append) (xs := #[.tmp 11, .tmp 16]) rfl ?_); at_builtin; refine Kd.R_append Ye (w0 := w0) w0.heap.size rfl (.tmp 11) (.tmp 16) 42 144 (.agg #[(.int .i64 0), (.int .i64 0), (.int .i64 0)]) 24 rfl huE z5W rfl (by decide) (by omega) (.slice A3 c.tr.length n3) c.tr (⟨k0, k1, k2⟩ : Z4) [.int .i64 k0, .int .i64 k1, .int .i64 k2] (fun k => Q k \/ w.heap.size + 2 <= k) (fun _ => False) rfl rfl ?aP (fun _ hk => hk.elim) ?aF ?aO ?aB ?aS ?aL ?_; (case aP => exact z1O _ _ _ (⟨k0, k1, k2⟩ : Z4)); (case aF => exact fun k hk => .inr (by have := zM X1.out; omega)); (case aO => exact jr H3.out (fun k hk => .inl hk)); (case aB => exact HB0.out); (case aS => exact HB0.out.size); (case aL => have := HL.out; omega); intro v1 W1 ho hb hg hat; have V1 := HG.out W1 v1 _ (fun k => Q k \/ w.heap.size + 2 <= k) (fun k hk => .inl hk) ho hg hat; obtain ⟨A', n', ev⟩ := js ho; have el : (c.tr ++ [(⟨k0, k1, k2⟩ : Z4)]).length = c.tr.length + 1 := (by simp); rw [el] at ev; subst ev; have HV1 := am V1.1; have HM1 := am V1.2; have HB1 := am hb; have HK1 := am (zN.of_grown hg HK0.out (fun k e => .inl (.inr e))); have Y0 := am (zO X0.out hg (Kd.R_ne H3.out X0.out (by decide))); have Y1 := am (zO X1.out hg (Kd.R_ne H3.out X1.out (by decide))); clear V1 ho hb hg hat c3; have c3 : W1.cell? ⟨w.heap.size, 3, none⟩ = some (.slice A3 c.tr.length n3) := (za Y0.out 3).trans rfl; have f3 := zf Y0.out 3))
 have hsz := HSZ.out
 have nq : ¬ (Q w.heap.size \/ w.heap.size + 2 <= w.heap.size) := (fun h => by rcases h with h | h; exact jm (HQ.out _ h) (by omega); omega)
 have Z0 := am (zJ Y0.out 3 (.slice A' (c.tr.length + 1) n') (cs' := #[.int .i64 c.ed, .slice A1 c.st.length n1, .slice A2 c.ou.length n2, .slice A' (c.tr.length + 1) n', .int .i64 c.co, .int .i64 c.us, .int .i64 c.wh, .int .i64 c.fu, .slice A8 c.td.length n8, .bool c.ov]) rfl)
 have Z1 := am ((jl W1 ⟨w.heap.size, 3, none⟩ (.slice A' (c.tr.length + 1) n') (w.heap.size + 1) (by show w.heap.size + 1 ≠ w.heap.size; omega)).trans Y1.out)
 have ZV := am (HV1.out.set (p := ⟨w.heap.size, 3, none⟩) nq (.slice A' (c.tr.length + 1) n'))
 have ZB := am (HB1.out.setCell (p := ⟨w.heap.size, 3, none⟩) hBs (.slice A' (c.tr.length + 1) n'))
 have ZK := am (HK1.out.setCell (p := ⟨w.heap.size, 3, none⟩) (.inr (jk _)) (.slice A' (c.tr.length + 1) n'))
 clear c3 f3 Y0 Y1 HV1 HB1 HK1 nq
 generalize W1.setCell ⟨w.heap.size, 3, none⟩ (.slice A' (c.tr.length + 1) n') = W2 at Z0 Z1 ZV ZB ZK ⊢
 obtain ⟨c0, c1, c2, c3, c4, c5, c6, c7, c8, c9⟩ := yf Z0.out
 have z_q := bq Z1.out
 have g_q := bq Z1.out
 go_wp2
 exact yO (g := w.heap.size + 1) ZV.out rfl (fun k h => (HM1.out k h).imp id (fun h => by omega)) Z1.out rfl ZB.out ZK.out (by omega) (by omega) (fun h => by rcases h with h | h; exact jm (HQ.out _ h) (by omega); omega) (fun k hk => by rcases hk with hk | hk; exact .inl hk; exact .inr (by omega)) rfl rfl rfl rfl
def z0m (l1 : List S76) (n i a p : Int) (arr : Bool) (c : MC) : MC :=
 if arr = true then mEv 2 n (Int.tmod i (zp l1 n).f2) { c with st := c.st.set p.toNat a } else { c with st := c.st.set p.toNat a }
theorem z5O.calls (w0 w : World) (Q : Nat -> Prop) (cs : Array Value) (c : MC) (kA kP : Nat) (wd : Int) (Av : Option Addr) (cv : Nat) (l1 : List S76) (Ab : Option Addr) (lb cb : Nat) (op n : Int) (B3 : Option Addr) (m3 d3 : Nat) (B4 : Option Addr) (m4 d4 : Nat) (B5 : Option Addr) (m5 d5 : Nat) (arr : Bool) (i a p : Int) (hB : Below w0.heap.size w0 w) (hV : MR w0 w Q cs c) (hQ : ∀ k, Q k -> k < w.heap.size) (hr1 : Kd.C k76 w0 Av l1.length l1) (hc1 : l1.length <= cv) (hn0 : 0 <= n) (hn1 : n < l1.length) (hv0 : (zp l1 n).f2 ≠ 0) (hA : z09.f kA l1 n i = some p) (hP : z22.f kP c.st p a = some (c.st.set p.toNat a)) (hl : c.tr.length < 1000000000) :
  Calls Tryz.prog 100 #[.agg (Vo wd Av l1 cv Ab lb cb), .agg cs, .agg (Vgq op n B3 m3 d3 B4 m4 d4 B5 m5 d5), .bool arr, .int .i64 i, .int .i64 a] w (MP w0 w Q cs (z0m l1 n i a p arr c)) := by
 have HV := am hV
 obtain ⟨A1, n1, A2, n2, A3, n3, A8, n8, rfl, hh⟩ := id hV
 clear hh hV
 obtain ⟨b_, hsz_, x0_, x1_, x2_, x3_⟩ := z7E w (.cells (Vo wd Av l1 cv Ab lb cb) 25) (.cells (Va c.ed A1 c.st n1 A2 c.ou n2 A3 c.tr n3 c.co c.us c.wh c.fu A8 c.td n8 c.ov) 98) (.cells (Vgq op n B3 m3 d3 B4 m4 d4 B5 m5 d5) 81) (.cells (Vi false) 98)
 have HV0 := am (HV.out.below b_)
 have HB0 := am (hB.trans (b_.mono hB.size))
 have HK0 := am (zN.of_below b_ (MT (Va c.ed A1 c.st n1 A2 c.ou n2 A3 c.tr n3 c.co c.us c.wh c.fu A8 c.td n8 c.ov)))
 have HSZ := am hsz_
 have X0 := am x0_
 have X1 := am x1_
 have X2 := am x2_
 have X3 := am x3_
 have HQ := am hQ
 have hBs := hB.size
 clear hsz_ hQ hB b_ x0_ x1_ x2_ x3_
 have hu := Tryz.underlying98
 have huR := Tryz.underlying44
 have huP := Tryz.underlying25
 have huS := Tryz.underlying81
 have huV := Tryz.underlying76
 have hlen := hr1.2.1
 obtain ⟨ad, rfl, q0, q1, q2⟩ := Zs hr1 n hn0 hn1
 have Q2 := am q2
 have HR1 := am hr1
 have HC1 := am hc1
 have HA := am hA
 have HP := am hP
 have HL := am hl
 obtain ⟨xs, hxs⟩ : ∃ xs, xs = c.st.set p.toNat a := ⟨_, rfl⟩
 rw [<- hxs] at HP
 have HXS := am hxs
 clear hr1 hc1 hA hP hl q0 q1 q2 hxs
 go_enter Tryz.func100, Tryz.ntmps100
 go_upto_region 1 with (fail)
 generalize (((w.alloc (.cells (Vo wd (some ad) l1 cv Ab lb cb) 25)).alloc (.cells (Va c.ed A1 c.st n1 A2 c.ou n2 A3 c.tr n3 c.co c.us c.wh c.fu A8 c.td n8 c.ov) 98)).alloc (.cells (Vgq op n B3 m3 d3 B4 m4 d4 B5 m5 d5) 81)).alloc (.cells (Vi false) 98) = W0 at HV0 HB0 HK0 HSZ X0 X1 X2 X3 ⊢
 have D0 := am (kdr X0.out)
 have D1 := am (kdr X1.out)
 have D2 := am (kdr X2.out)
 have D3 := am (kdr X3.out)
 have DV := am (HV0.out.below (zj (jc _ _)))
 have DB := am (HB0.out.trans ((zj (jc _ _)).mono HB0.out.size))
 have DK := am (HK0.out.below (zj (jc _ _)))
 have hsz : w.heap.size + 4 <= W0.drew.heap.size := by have := HSZ.out; show w.heap.size + 4 <= W0.heap.size; omega
 clear HV0 HB0 HK0 HSZ X0 X1 X2 X3
 refine sT 14 [0, 1, 2, 3, 4, 5, 6, 7, 9, 8, 10, 11, 12, 13] [10, 13] fun hHeld => ?_
 generalize W0.drew = Y at D0 D1 D2 D3 DV DB DK hsz hHeld ⊢
 have hq0_0 := bq D1.out
 have hq0_1 := bq D0.out
 have hq0_2 := bq D2.out
 repeat first | refine nx ?_ | refine ldT hHeld ?_ | refine un ?_
 refine on fun K hK => ?_
 refine gC Tryz.func87 ?_
 refine (z09.calls kA (some ad) cv l1 n i p Y (ji HR1.out DB.out) HC1.out HA.out).mono ?_
 rintro e Y1 ⟨rfl, hd⟩
 have hb1 := hd.below
 have D0 := am (zd D0.out hb1)
 have D1 := am (zd D1.out hb1)
 have D2 := am (zd D2.out hb1)
 have D3 := am (zd D3.out hb1)
 have DV := am (DV.out.below hb1)
 have DB := am (DB.out.trans (hb1.mono DB.out.size))
 have DK := am (DK.out.below hb1)
 replace hsz := Nat.le_trans hsz hb1.size
 refine ⟨_, rfl, ?_⟩
 refine hK.out _ _ (kp hHeld) fun hHeld => ?_
 clear hK K
 refine nM ?_
 refine la fun K hK => ?_
 refine gC Tryz.func118 ?_
 obtain ⟨hs1, hs2⟩ : Kd.C (Kd.int .i64) Y1 A1 c.st.length c.st /\ c.st.length <= n1 := MR.store DV.out
 refine (z22.calls kP A1 n1 c.st p a xs Y1 hs1 hs2 HP.out).mono ?_
 rintro e Y2 ⟨v, rfl, ho, hb2⟩
 obtain ⟨D, d, rfl⟩ := js ho
 have hmt : ∀ k, MT (Va c.ed A1 c.st n1 A2 c.ou n2 A3 c.tr n3 c.co c.us c.wh c.fu A8 c.td n8 c.ov) k -> k < Y1.heap.size := fun k hk => (DV.out.mt hk).2.2
 have GV := ((DV.out.below hb2).mono (Q' := fun k => Q k \/ w.heap.size + 4 <= k) (fun k hk _ => .inl hk)).st' (Kd.R_reads' ho).2.1 (MR.fresh hmt ho (fun k hk _ => .inr (by omega)))
 have D0 := am (zd D0.out hb2)
 have D1 := am (zd D1.out hb2)
 have D2 := am (zd D2.out hb2)
 have D3 := am (zd D3.out hb2)
 have GV := am GV
 have DB := am (DB.out.trans (hb2.mono DB.out.size))
 have DK := am (DK.out.below hb2)
 replace hsz := Nat.le_trans hsz hb2.size
 clear hs1 hs2 ho hmt DV
 refine ⟨_, rfl, ?_⟩
 refine hK.out _ _ ?_
 clear hK K
 refine nM ?_
 repeat first | refine nx ?_ | refine ldT hHeld ?_ | refine un ?_
 refine la fun K hK => ?_
 have y1 : Y2.cell? ⟨w.heap.size + 1, 1, none⟩ = some (.slice A1 c.st.length n1) := (za D1.out 1).trans rfl
 have f1 := zf D1.out 1
 refine ZX (w1 := ?_) (by rfl) rfl ?_ ?_
 rotate_left
 ·go_simp
  rfl
 refine hK.out _ _ ?_
 clear hK K
 refine dn ?_
 have nq : ¬ (Q (w.heap.size + 1) \/ w.heap.size + 4 <= w.heap.size + 1) := (fun h => by rcases h with h | h; exact jm (HQ.out _ h) (by omega); omega)
 have E0 := am (show (Y2.setCell ⟨w.heap.size + 1, 1, none⟩ (.slice D xs.length d)).heap[w.heap.size]? = _ from ((jl _ _ _ _ (by show w.heap.size ≠ w.heap.size + 1; omega)).trans D0.out))
 have E1 := am (zJ D1.out 1 (.slice D xs.length d) (cs' := (Va c.ed D xs d A2 c.ou n2 A3 c.tr n3 c.co c.us c.wh c.fu A8 c.td n8 c.ov)) rfl)
 have E2 := am (show (Y2.setCell ⟨w.heap.size + 1, 1, none⟩ (.slice D xs.length d)).heap[w.heap.size + 2]? = _ from ((jl _ _ _ _ (by show w.heap.size + 2 ≠ w.heap.size + 1; omega)).trans D2.out))
 have E3 := am (show (Y2.setCell ⟨w.heap.size + 1, 1, none⟩ (.slice D xs.length d)).heap[w.heap.size + 3]? = _ from ((jl _ _ _ _ (by show w.heap.size + 3 ≠ w.heap.size + 1; omega)).trans D3.out))
 have EV := am (GV.out.set (p := ⟨w.heap.size + 1, 1, none⟩) nq (.slice D xs.length d))
 have EB := am (DB.out.setCell (p := ⟨w.heap.size + 1, 1, none⟩) (by show w0.heap.size <= w.heap.size + 1; omega) (.slice D xs.length d))
 have EK := am (DK.out.setCell (p := ⟨w.heap.size + 1, 1, none⟩) (.inr (Nat.le_succ _)) (.slice D xs.length d))
 replace hsz : w.heap.size + 4 <= (Y2.setCell ⟨w.heap.size + 1, 1, none⟩ (.slice D xs.length d)).heap.size := by simpa using hsz
 clear y1 f1 D0 D1 D2 D3 DB DK GV nq
 generalize Y2.setCell ⟨w.heap.size + 1, 1, none⟩ (.slice D xs.length d) = W3 at E0 E1 E2 E3 EV EB EK hsz ⊢
 obtain ⟨c1, hc1⟩ : ∃ c1 : MC, c1 = { c with st := xs } := ⟨_, rfl⟩
 have hx1 : c1.st = xs /\ c1.ou = c.ou /\ c1.tr = c.tr /\ c1.td = c.td := by subst hc1; exact ⟨rfl, rfl, rfl, rfl⟩
 have EV := am (show MR w0 W3 (fun k => Q k \/ w.heap.size + 4 <= k) (Va c.ed D xs d A2 c.ou n2 A3 c.tr n3 c.co c.us c.wh c.fu A8 c.td n8 c.ov) c1 by rw [hc1]; exact EV.out)
 have HC := am hc1
 have HX := am hx1
 clear hc1 hx1
 cases arr with
 | false =>
  obtain ⟨c0, c1, c2, c3, c4, c5, c6, c7, c8, c9⟩ := yf E1.out
  have z_q := bq E3.out
  have g_q := bq E3.out
  go_wp2
  exact yO (g := w.heap.size + 3) EV.out (by rw [HC.out, z0m, ja (by decide), HXS.out]) (fun k h => .inl h) E3.out rfl EB.out EK.out (by omega) (by omega) (fun h => by rcases h with h | h; exact jm (HQ.out _ h) (by omega); omega) (fun k hk => by rcases hk with hk | hk; exact .inl hk; exact .inr (by omega)) rfl rfl rfl rfl
 | true =>
  go_upto_region 3 with (fail)
  have E0 := am (kdr E0.out)
  have E1 := am (kdr E1.out)
  have E2 := am (kdr E2.out)
  have E3 := am (kdr E3.out)
  have EV := am (EV.out.below (zj (jc _ _)))
  have EB := am (EB.out.trans ((zj (jc _ _)).mono EB.out.size))
  have EK := am (EK.out.below (zj (jc _ _)))
  replace hsz : w.heap.size + 4 <= W3.drew.heap.size := hsz
  have Q2 := am ((EB.out.cell (jd w0 _ Q2.out)).trans Q2.out)
  obtain ⟨z, hz⟩ : ∃ z, (zp l1 n).f2 = z := ⟨_, rfl⟩
  rw [hz] at Q2 hv0
  have HZ := am hz
  clear hz
  refine sT 14 [0, 1, 2, 3, 4, 5, 6, 7, 8, 9, 10, 11, 12, 13] [12, 13] fun hHeld => ?_
  generalize W3.drew = Y at E0 E1 E2 E3 EV EB EK Q2 hsz hHeld ⊢
  have hq1_0 := bq E1.out
  have hq1_1 := bq E0.out
  have hq1_2 := bq E2.out
  have hq1_3 : World.cell? _ ⟨(ad.add (n.toNat * 3)).block, (ad.add (n.toNat * 3)).off + 2, none⟩ = some (.int .i64 z) := Q2.out
  repeat first | refine nx ?_ | refine ldT hHeld ?_ | refine un ?_
  refine la fun K hK => ?_
  refine gC Tryz.func101 ?_
  refine (z1M.calls w0 Y (fun k => (Q k \/ w.heap.size + 4 <= k) /\ k < Y.heap.size) _ c1 2 n (Int.tmod i z) EB.out EV.out.bound (fun k hk => hk.2) (by rw [HX.out.2.2.1]; exact HL.out)).mono ?_
  rintro e Y2 ⟨cs2, rfl, hv2, hm2, hb2, hk2⟩
  have nmt : ∀ k, MT (Va c.ed D xs d A2 c.ou n2 A3 c.tr n3 c.co c.us c.wh c.fu A8 c.td n8 c.ov) k -> Q k \/ w.heap.size + 4 <= k := fun k hk => (EV.out.mt hk).1
  have F1 := am ((hk2.2 (w.heap.size + 1) (by omega) (fun h => by rcases nmt _ h with h | h; exact jm (HQ.out _ h) (by omega); omega)).trans E1.out)
  have F3 := am ((hk2.2 (w.heap.size + 3) (by omega) (fun h => by rcases nmt _ h with h | h; exact jm (HQ.out _ h) (by omega); omega)).trans E3.out)
  obtain ⟨c2, hc2⟩ : ∃ c2 : MC, c2 = mEv 2 n (Int.tmod i z) c1 := ⟨_, rfl⟩
  have HV2 := am (show MR w0 Y2 (fun k => ((Q k \/ w.heap.size + 4 <= k) /\ k < Y.heap.size) \/ Y.heap.size <= k) cs2 c2 by rw [hc2]; exact hv2)
  have HM2 := am hm2
  have HB2 := am hb2
  have HK2 := am (EK.out.then_ hk2 (fun k hk => .inl hk))
  have HC2 := am hc2
  have hszY := hsz
  replace hsz := Nat.le_trans hsz hk2.1
  have hlY : w.heap.size + 4 <= Y.heap.size := hszY
  obtain ⟨A1', n1', A2', n2', A3', n3', A8', n8', rfl, hh2⟩ := id HV2.out
  clear hh2 hv2 hm2 hk2 hc2 nmt E0 E1 E2 E3 EV EB EK Q2
  refine ⟨_, rfl, ?_⟩
  refine hK.out _ _ ?_
  clear hK K
  refine nM ?_
  refine la fun K hK => ?_
  obtain ⟨y0, y1, y2, y3, y4, y5, y6, y7, y8, y9⟩ := yf F1.out
  have g_q := bq F1.out
  refine ZX (w1 := ?_) (by rfl) rfl ?_ ?_
  rotate_left
  ·go_simp
   rfl
  refine hK.out _ _ ?_
  clear hK K
  refine dn ?_
  have nq : ¬ (((Q (w.heap.size + 1) \/ w.heap.size + 4 <= w.heap.size + 1) /\ w.heap.size + 1 < Y.heap.size) \/ Y.heap.size <= w.heap.size + 1) := (fun h => by rcases h with ⟨h | h, _⟩ | h; exact jm (HQ.out _ h) (by omega); omega; omega)
  have G1 := am (Za (vs := (Vb c2.ed A1' c2.st n1' A2' c2.ou n2' A3' c2.tr n3' c2.co c2.us c2.wh c2.fu A8' c2.td n8' c2.ov)) F1.out rfl)
  have G3 := am ((Zj (vs := (Vb c2.ed A1' c2.st n1' A2' c2.ou n2' A3' c2.tr n3' c2.co c2.us c2.wh c2.fu A8' c2.td n8' c2.ov)) (g := w.heap.size + 1) (k := w.heap.size + 3) (w := Y2) (by omega)).trans F3.out)
  have GV := am (HV2.out.fill nq (Vb c2.ed A1' c2.st n1' A2' c2.ou n2' A3' c2.tr n3' c2.co c2.us c2.wh c2.fu A8' c2.td n8' c2.ov))
  have GB := am (Zb (vs := (Vb c2.ed A1' c2.st n1' A2' c2.ou n2' A3' c2.tr n3' c2.co c2.us c2.wh c2.fu A8' c2.td n8' c2.ov)) (g := w.heap.size + 1) HB2.out (by omega))
  have GK := am (yk (vs := (Vb c2.ed A1' c2.st n1' A2' c2.ou n2' A3' c2.tr n3' c2.co c2.us c2.wh c2.fu A8' c2.td n8' c2.ov)) (g := w.heap.size + 1) HK2.out (.inr (Nat.le_succ _)))
  clear y0 g_q y1 y2 y3 y4 y5 y6 y7 y8 y9 F1 F3 HV2 HB2 HK2 nq
  change Exit.then _ _ _ _ (Y2.setCells (w.heap.size + 1) 0 (Vb c2.ed A1' c2.st n1' A2' c2.ou n2' A3' c2.tr n3' c2.co c2.us c2.wh c2.fu A8' c2.td n8' c2.ov))
  generalize Y2.setCells (w.heap.size + 1) 0 (Vb c2.ed A1' c2.st n1' A2' c2.ou n2' A3' c2.tr n3' c2.co c2.us c2.wh c2.fu A8' c2.td n8' c2.ov) = W5 at G1 G3 GV GB GK ⊢
  obtain ⟨c0, c1, c2, c3, c4, c5, c6, c7, c8, c9⟩ := yf G1.out
  have z_q := bq G3.out
  have g_q := bq G3.out
  go_wp2
  exact yO (g := w.heap.size + 3) GV.out (by rw [HC2.out, HC.out, z0m, jb rfl, HXS.out, HZ.out]) (fun k h => (HM2.out k h).imp id (fun h => by omega)) G3.out rfl GB.out GK.out (by omega) (by omega) (fun h => by rcases h with ⟨h | h, _⟩ | h; exact jm (HQ.out _ h) (by omega); omega; omega) (fun k hk => by rcases hk with ⟨hk | hk, _⟩ | hk; exact .inl hk; exact .inr (by omega); exact .inr (by omega)) rfl rfl rfl rfl
mutual
def zZ.l0 : Nat -> List (S81) -> Int -> Int -> Option (Int)
 | 0, _, _, _ => none
 | k + 1, x0, x3, x4 => if x4 < (x0.length : Int) then (if 0 <= x4 then ((zZ.f k ((zu x0 x4).f3)).bind fun t899 => ((zZ.f k ((zu x0 x4).f4)).bind fun t901 => (zZ.l0 k x0 (wrap64 ((wrap64 ((wrap64 (x3 + 1)) + t899)) + t901)) (wrap64 (x4 + 1))))) else (none)) else (some x3)
def zZ.f : Nat -> List (S81) -> Option (Int)
 | 0, _ => none
 | k + 1, l0 => zZ.l0 k l0 0 0
end
def zZ.T5 : Bool × List (List Nat × List Nat) := (true, [([], []), ([0], [0]), ([], []), ([], []), ([2, 3], [2, 3]), ([4], [4]), ([5], [5]), ([6], [6]), ([1, 7], [1, 7]), ([], []), ([], []), ([9, 10], [9, 10]), ([11], [11]), ([12], [12]), ([13, 7], [13]), ([8, 14], [8, 14]), ([15, 14, 0, 1, 2, 3, 4, 5, 6, 7, 8, 9, 10, 11, 12, 13, 14, 15], [0, 15])])
def zZ.B5 : List Nat := [0, 1, 0, 0, 12, 28, 60, 124, 255, 0, 0, 1536, 3584, 7680, 16124, 32767, 65535]
theorem zZ.tab5 : Yh .any (z5H Tryz.f19 5) = zZ.T5 := by kernel_rfl
theorem zZ.bits5 : z03 zZ.T5.2 zZ.B5 = true := by kernel_rfl
theorem zZ.calls (k : Nat) : ∀ (A0 : Option Addr) (c0 : Nat) (l0 : List (S81)) (r : Int) (w : World) (hr0 : Kd.C k81 w A0 l0.length l0) (hc0 : l0.length <= c0) (h : zZ.f k l0 = some r),
  Calls Tryz.prog 19 #[.slice A0 l0.length c0] w fun e w' => e = .returned (.int .i64 r) /\ Below w.heap.size w w' := by
 induction k using Nat.strongRecOn with
 | _ k ih =>
 intro A0 c0 l0 r w hr0 hc0 h
 cases k with
 | zero => exact jm h (by simp [zZ.f])
 | succ k =>
 simp only [zZ.f] at h
 have HR0 := am hr0
 have HC0 := am hc0
 clear hr0 hc0
 have HB := am (jc w.heap.size w)
 have H := h
 clear h
 have H' := am H
 clear H
 go_enter Tryz.func19, Tryz.ntmps19
 go_wp2
 go_loopg [3, 4] k (fun kq v3 v4 w' => ∃ (x3_1 : Int) (x4_1 : Int), v3 = .int .i64 x3_1 /\ v4 = .int .i64 x4_1 /\ Aside0 (zZ.l0 kq l0 x3_1 x4_1 = some r) /\ Aside0 (kq <= k) /\ Aside0 (Below w.heap.size w w'))
 case atStart => exact ⟨(0), (0), rs, rs, H', ⟨jk _⟩, ⟨bb HB⟩⟩
 case round =>
  clear H'
  obtain ⟨x3_1, x4_1, rfl, rfl, HA, HK1, HB⟩ := hrel
  cases gk with
  | zero => exact jm HA.out (by simp [zZ.l0])
  | succ k1 =>
   have H := HA.out
   clear HA
   simp only [zZ.l0] at H
   obtain ⟨c2b0, H⟩ | ⟨c2b0, H⟩ := ei H
   ·obtain rfl := sj H
    go_wp2
    go_ret
    exact ⟨rr, bb HB⟩
   obtain ⟨c3b0, H⟩ := pd H
   obtain ⟨t899, A4, H⟩ := be H
   obtain ⟨t901, A5, H⟩ := be H
   have H' := am H
   clear H
   try go_wp2
   replace HB := am (bd1 HB.out)
   have p898 : 0 <= (x4_1 : Int) := od
   have q898 : x4_1 < (l0.length : Int) := od
   obtain ⟨ad898, A898_2, c898_2, A898_3, c898_3, A898_4, c898_4, e898, hx898_0, hx898_1, hx898_2, hx898_3, hx898_4, hl898_2, hi898_2, hl898_3, hi898_3, hl898_4, hi898_4⟩ := yH HR0.out x4_1 p898 q898
   have hw898_4 := hx898_4
   have hw898_3 := hx898_3
   have hw898_2 := hx898_2
   have hw898_1 := hx898_1
   have hw898_0 := hx898_0
   cases e898
   replace hx898_0 := zo HB.out hx898_0
   replace hx898_1 := zo HB.out hx898_1
   replace hx898_2 := zo HB.out hx898_2
   replace hx898_3 := zo HB.out hx898_3
   replace hx898_4 := zo HB.out hx898_4
   have HR898_2 := am hi898_2
   have HC898_2 := am hl898_2
   clear hi898_2 hl898_2
   have HR898_3 := am hi898_3
   have HC898_3 := am hl898_3
   clear hi898_3 hl898_3
   have HR898_4 := am hi898_4
   have HC898_4 := am hl898_4
   clear hi898_4 hl898_4
   replace p898 := eT p898
   replace q898 := eT q898
   refine sT 17 [0, 1, 2, 3, 4, 5, 9, 10, 11, 12, 6, 13, 7, 8, 14, 15, 16] [] fun hHeld => ?_
   generalize wr.drew = w6 at HB HR898_2 HR898_3 HR898_4 hx898_0 hx898_1 hx898_2 hx898_3 hx898_4 hHeld ⊢
   repeat first | refine nx ?_ | refine ldT hHeld ?_ | refine un ?_
   refine on fun K hK => ?_
   refine gC Tryz.func19 ?_
   with_reducible refine (ih k1 (by have := HK1.out; omega) _ _ ((zu l0 x4_1).f3) t899 _ (cb HR898_3 HB) HC898_3.out A4.out).mono ?_
   rintro e w7 ⟨rfl, hb⟩
   refine ⟨_, rfl, ?_⟩
   replace HB := sb HB hb
   refine hK.out _ _ (kp hHeld) fun hHeld => ?_
   clear hK K
   refine nM ?_
   repeat first | refine nx ?_ | refine ldT hHeld ?_ | refine un ?_
   refine on fun K hK => ?_
   refine gC Tryz.func19 ?_
   with_reducible refine (ih k1 (by have := HK1.out; omega) _ _ ((zu l0 x4_1).f4) t901 _ (cb HR898_4 HB) HC898_4.out A5.out).mono ?_
   rintro e w8 ⟨rfl, hb⟩
   refine ⟨_, rfl, ?_⟩
   replace HB := sb HB hb
   refine hK.out _ _ (kp hHeld) fun hHeld => ?_
   clear hK K
   refine nM ?_
   repeat first | refine nx ?_ | refine ldT hHeld ?_ | refine un ?_
   refine dn ?_
   try go_wp2
   go_roundg k1
   case measure => have := HK1.out; omega
   case rel => exact ⟨(wrap64 ((wrap64 ((wrap64 (x3_1 + 1)) + t899)) + t901)), (wrap64 (x4_1 + 1)), rs, rs, H', ⟨by have := HK1.out; omega⟩, ⟨bb HB⟩⟩
theorem z0h : (Tryz.prog.info? 128).map (fun i => (i.zero, i.size, i.bytes)) = some (some (.agg Vq), 6, 96) := by kernel_rfl
def z2U (cn : List S81 -> Int) : Int -> List S81 -> Int
 | n, [] => n
 | n, x :: r => z2U cn (n + 1 + cn x.f3 + cn x.f4) r
def Zu (cn : List S81 -> Int) : Int -> List S81 -> List ZT
 | _, [] => []
 | n, x :: r => ⟨n, x⟩ :: Zu cn (n + 1 + cn x.f3 + cn x.f4) r
theorem z3z (cn : List S81 -> Int) : ∀ (l : List S81) (n : Int) (j : Nat) (x : S81), l[j]? = some x -> z2U cn n (l.take (j + 1)) = z2U cn n (l.take j) + 1 + cn x.f3 + cn x.f4 /\ Zu cn n (l.take (j + 1)) = Zu cn n (l.take j) ++ [⟨z2U cn n (l.take j), x⟩]
 | [], _, _, _, h => by simp at h
 | y :: r, n, 0, x, h => by
  obtain rfl : y = x := by simpa using h
  exact ⟨rfl, rfl⟩
 | y :: r, n, j + 1, x, h => by
  obtain ⟨h1, h2⟩ := z3z cn r (n + 1 + cn y.f3 + cn y.f4) j x (by simpa using h)
  refine ⟨by rw [List.take_succ_cons, List.take_succ_cons]; exact h1, ?_⟩
  rw [List.take_succ_cons, List.take_succ_cons, Zu, Zu, h2]
  rfl
theorem yj (cn : List S81 -> Int) : ∀ (l : List S81) (n : Int), (Zu cn n l).length = l.length
 | [], _ => rfl
 | x :: r, n => by rw [Zu, jp, jp, yj cn r]
def GI (cn : List S81 -> Int) (n : Int) (l : List S81) : Prop :=
 l.length <= 1000000 /\ (∀ x ∈ l, (∃ k, zZ.f k x.f3 = some (cn x.f3)) /\ (∃ k, zZ.f k x.f4 = some (cn x.f4)) /\ 0 <= cn x.f3 /\ cn x.f3 <= 1000000 /\ 0 <= cn x.f4 /\ cn x.f4 <= 1000000) /\ ∀ j, j <= l.length -> 0 <= z2U cn n (l.take j) /\ z2U cn n (l.take j) <= 1000000
theorem z41.calls (cn : List S81 -> Int) (w0 w : World) (A : Option Addr) (cc : Nat) (l : List S81) (n : Int) (hB : Below w0.heap.size w0 w) (hr : Kd.C k81 w0 A l.length l) (hc : l.length <= cc) (hg : GI cn n l) :
  Calls Tryz.prog 69 #[.slice A l.length cc, .int .i64 n] w fun e w' => ∃ D d, e = .returned (.slice D (Zu cn n l).length d) /\ (YT Y4 w0).R 128 w' w.heap.size (fun _ => True) (.slice D (Zu cn n l).length d) (Zu cn n l) /\ Below w.heap.size w w' := by
 have hu1 := Tryz.underlying81
 have hu2 := Tryz.underlying128
 have hu3 := Tryz.underlying96
 obtain ⟨hl, hcn, hnum⟩ := hg
 have HR := am hr
 have HCN := am hcn
 have HNUM := am hnum
 have HB := am hB
 have HBS := am hB.size
 clear hr hcn hnum hB
 go_enter Tryz.func69, Tryz.ntmps69
 go_wp2
 go_loopw [1, 5, 6] (fun v1 v5 v6 X => ∃ j : Nat, v1 = .int .i64 (z2U cn n (l.take j)) /\ v6 = .int .i64 j /\ j <= l.length /\ Aside0 ((YT Y4 w0).R 128 X w.heap.size (fun _ => True) v5 (Zu cn n (l.take j))) /\ Aside0 (Below w.heap.size w X)) (fun _ _ v6 _ => l.length - (intOf v6).toNat)
 case atStart => exact ⟨0, rfl, rfl, Nat.zero_le _, ⟨Kd.R_nil _ _ _ _ _⟩, ⟨jc _ _⟩⟩
 case round =>
  obtain ⟨j, rfl, rfl, hj, HO, HX⟩ := hrel
  by_cases hlt : j < l.length
  ·have hlt' : ((j : Nat) : Int) < (l.length : Int) := by omega
   obtain ⟨x, hx⟩ : ∃ x, l[j]? = some x := ⟨l[j], jn hlt⟩
   obtain ⟨e1, e2⟩ := z3z cn l n j x hx
   obtain ⟨⟨k3, hk3⟩, ⟨k4, hk4⟩, h30, h31, h40, h41⟩ := HCN.out x (List.mem_of_getElem? hx)
   have hm0 := (HNUM.out j hj).1
   have hm1 := (HNUM.out j hj).2
   obtain ⟨m, hm⟩ : ∃ m, z2U cn n (l.take j) = m := ⟨_, rfl⟩
   rw [hm] at e1 e2 hm0 hm1
   obtain ⟨ad, A2, d2, A3, d3, A4, d4, rfl, q0, q1, q2, q3, q4, l2, r2, l3, r3, l4, r4⟩ := yH HR.out (j : Int) (by omega) hlt'
   have hrd : zu l (j : Int) = x := by unfold zu; rw [jh, jw, hx]; rfl
   rw [hrd] at q0 q1 q2 q3 q4 l2 r2 l3 r3 l4 r4
   rw [jh] at q0 q1 q2 q3 q4
   have Q3 := am q3
   have Q4 := am q4
   have W0X := HB.out.trans (HX.out.mono HBS.out)
   replace q0 := (W0X.cell (jd w0 _ q0)).trans q0
   replace q1 := (W0X.cell (jd w0 _ q1)).trans q1
   replace q2 := (W0X.cell (jd w0 _ q2)).trans q2
   replace q3 := (W0X.cell (jd w0 _ q3)).trans q3
   replace q4 := (W0X.cell (jd w0 _ q4)).trans q4
   have hM : Y4.K w0 (⟨m, x⟩ : ZT) (Vbq m x.f0 x.f1 A2 x.f2 d2 A3 x.f3 d3 A4 x.f4 d4) := z5U w0 (⟨m, x⟩ : ZT) l2 r2 l3 r3 l4 r4
   have hlen : (Zu cn n (l.take j)).length = j := by rw [yj, List.length_take]; omega
   have HM := am hM
   have HLEN := am hlen
   have E1 := am e1
   have E2 := am e2
   have HK3 := am hk3
   have HK4 := am hk4
   have L3 := am l3
   have L4 := am l4
   have R3 := am r3
   have R4 := am r4
   have HMM := am hm
   rw [hm]
   clear hM hlen e1 e2 hk3 hk4 l2 l3 l4 r2 r3 r4 hm hx hrd W0X
   go_upto_region 6 with (first | ((with_reducible refine Zq (b := .append) (xs := #[.tmp 13, .tmp 20]) rfl ?_); at_builtin; go_loud (refine Kd.R_append (YT Y4 w0) (w0 := w) w.heap.size rfl (.tmp 13) (.tmp 20) 96 128 (.agg Vq) 96 rfl hu3 z0h rfl (show 0 < 6 by decide) (by omega) _ (Zu cn n (l.take j)) (⟨m, x⟩ : ZT) (Vbq m x.f0 x.f1 A2 x.f2 d2 A3 x.f3 d3 A4 x.f4 d4) (fun _ => True) (fun _ => False) rfl rfl ?aP (fun _ hk => hk.elim) ?aF ?aO ?aB ?aS ?aL ?_); (case aP => exact HM.out); (case aF => exact fun _ _ => trivial); (case aO => exact HO.out); (case aB => exact HX.out); (case aS => exact HX.out.size); (case aL => have := HLEN.out; omega); intro v' W1 ho hb hg hat; have HO1 := am ho; have HX1 := am hb; clear ho hb hg hat))
   have W01 := HB.out.trans (HX1.out.mono HBS.out)
   have q3' := (W01.cell (jd w0 _ Q3.out)).trans Q3.out
   have q4' := (W01.cell (jd w0 _ Q4.out)).trans Q4.out
   have hw1 : IntKind.i64.wrap (m + 1) = m + 1 := by rw [zP]; unfold wrap64; omega
   have hw2 : IntKind.i64.wrap (m + 1 + cn x.f3) = m + 1 + cn x.f3 := by rw [zP]; unfold wrap64; omega
   have hw3 : IntKind.i64.wrap (m + 1 + cn x.f3 + cn x.f4) = m + 1 + cn x.f3 + cn x.f4 := by rw [zP]; unfold wrap64; omega
   have hw4 : wrap64 (m + 1) = m + 1 := by unfold wrap64; omega
   have hw5 : wrap64 (m + 1 + cn x.f3) = m + 1 + cn x.f3 := by unfold wrap64; omega
   have hw6 : wrap64 (m + 1 + cn x.f3 + cn x.f4) = m + 1 + cn x.f3 + cn x.f4 := by unfold wrap64; omega
   have HXD := am (HX1.out.trans ((zj (jc _ _)).mono HX1.out.size))
   have HOD := am (Kd.R_below HO1.out (zj (jc _ _)))
   have U3 := am (show W1.drew.cell? ⟨(ad.add (j * 5)).block, (ad.add (j * 5)).off + 3, none⟩ = some (.slice A3 x.f3.length d3) from q3')
   have U4 := am (show W1.drew.cell? ⟨(ad.add (j * 5)).block, (ad.add (j * 5)).off + 4, none⟩ = some (.slice A4 x.f4.length d4) from q4')
   clear q0 q1 q2 q3 q4 q3' q4' W01
   go_wp2
   refine sT 17 [0, 1, 2, 3, 4, 5, 6, 9, 10, 11, 12, 13, 7, 8, 14, 15, 16] [14] fun hHeld => ?_
   generalize W1.drew = Y at HXD HOD U3 U4 hHeld ⊢
   have hq0_0 : World.cell? _ ⟨(ad.add (j * 5)).block, (ad.add (j * 5)).off + 3, none⟩ = some (.slice A3 x.f3.length d3) := U3.out
   have hq0_1 : World.cell? _ ⟨(ad.add (j * 5)).block, (ad.add (j * 5)).off + 4, none⟩ = some (.slice A4 x.f4.length d4) := U4.out
   repeat first | refine nx ?_ | refine ldT hHeld ?_ | refine un ?_
   refine on fun K hK => ?_
   refine gC Tryz.func19 ?_
   refine (zZ.calls k3 A3 d3 x.f3 (cn x.f3) Y (ji R3.out (HB.out.trans (HXD.out.mono HBS.out))) L3.out HK3.out).mono ?_
   rintro e Y1 ⟨rfl, hb⟩
   have HXD := am (HXD.out.trans (hb.mono HXD.out.size))
   have HOD := am (Kd.R_below HOD.out hb)
   have U3 := am ((hb.cell (jd _ _ U3.out)).trans U3.out)
   have U4 := am ((hb.cell (jd _ _ U4.out)).trans U4.out)
   refine ⟨_, rfl, ?_⟩
   refine hK.out _ _ (kp hHeld) fun hHeld => ?_
   clear hK K
   refine nM ?_
   repeat first | refine nx ?_ | refine ldT hHeld ?_ | refine un ?_
   refine la fun K hK => ?_
   refine gC Tryz.func19 ?_
   refine (zZ.calls k4 A4 d4 x.f4 (cn x.f4) Y1 (ji R4.out (HB.out.trans (HXD.out.mono HBS.out))) L4.out HK4.out).mono ?_
   rintro e Y2 ⟨rfl, hb⟩
   have HXD := am (HXD.out.trans (hb.mono HXD.out.size))
   have HOD := am (Kd.R_below HOD.out hb)
   refine ⟨_, rfl, ?_⟩
   refine hK.out _ _ ?_
   clear hK K
   refine nM ?_
   repeat first | refine nx ?_ | refine ldT hHeld ?_ | refine un ?_
   refine dn ?_
   clear U3 U4
   go_wp2
   exact ⟨⟨j + 1, by rw [E1.out], by go_num, by omega, ⟨by rw [E2.out]; exact HOD.out⟩, HXD⟩, by simp [intOf]; omega⟩
  ·have hge : ¬ ((j : Nat) : Int) < (l.length : Int) := by omega
   obtain rfl : j = l.length := by omega
   rw [List.take_length] at HO ⊢
   obtain ⟨D, d, rfl⟩ := js HO.out
   go_wp2
   go_ret
   exact ⟨D, d, rfl, HO.out, HX.out⟩
theorem z5f.calls (cn : List S81 -> Int) (w0 w : World) (m op n : Int) (A2 : Option Addr) (d2 : Nat) (a : List S62) (A3 : Option Addr) (d3 : Nat) (t : List S81) (A4 : Option Addr) (d4 : Nat) (e : List S81) (hB : Below w0.heap.size w0 w) (hr : Kd.C k81 w0 A3 t.length t) (hc : t.length <= d3) (hm0 : 0 <= m) (hm1 : m <= 1000000) (hg : GI cn (m + 1) t) :
  Calls Tryz.prog 103 #[.agg (Vj m op n A2 a d2 A3 t d3 A4 e d4)] w fun en w' => ∃ D d, en = .returned (.slice D (Zu cn (m + 1) t).length d) /\ (YT Y4 w0).R 128 w' w.heap.size (fun _ => True) (.slice D (Zu cn (m + 1) t).length d) (Zu cn (m + 1) t) /\ Below w.heap.size w w' := by
 have hu1 := Tryz.underlying81
 have hu2 := Tryz.underlying128
 have hx := zI w (.cells (Vj m op n A2 a d2 A3 t d3 A4 e d4) 128)
 have hb := bal (jc w.heap.size w) (.cells (Vj m op n A2 a d2 A3 t d3 A4 e d4) 128)
 have HR := am hr
 have HC := am hc
 have HG := am hg
 have hw1 : IntKind.i64.wrap (m + 1) = m + 1 := by rw [zP]; unfold wrap64; omega
 have hw2 : wrap64 (m + 1) = m + 1 := by unfold wrap64; omega
 have HB := am hB
 clear hr hc hg hB
 go_enter Tryz.func103, Tryz.ntmps103
 go_upto_region 1 with (fail)
 generalize w.alloc (.cells (Vj m op n A2 a d2 A3 t d3 A4 e d4) 128) = W at hx hb ⊢
 have x_q := bq hx
 have HD := am hb
 have HX := am hx
 clear hx hb
 go_wp2_with (first | (go_at_call 69; refine (z41.calls cn w0 W A3 d3 t (m + 1) (HB.out.trans (HD.out.mono HB.out.size)) HR.out HC.out HG.out).mono ?_; rintro en Y1 ⟨D, d, rfl, ho, hb⟩; have HO := am (Kd.R_lower ho HD.out.size); have HD1 := am (HD.out.trans (hb.mono HD.out.size)); clear ho hb))
 go_ret
 exact ⟨D, d, rfl, HO.out, HD1.out⟩
theorem z7l.calls (cn : List S81 -> Int) (w0 w : World) (m op n : Int) (A2 : Option Addr) (d2 : Nat) (a : List S62) (A3 : Option Addr) (d3 : Nat) (t : List S81) (A4 : Option Addr) (d4 : Nat) (e : List S81) (hB : Below w0.heap.size w0 w) (ht : Kd.C k81 w0 A3 t.length t) (htc : t.length <= d3) (k : Nat) (hk : zZ.f k t = some (cn t)) (hc0 : 0 <= cn t) (hc1 : cn t <= 1000000) (hr : Kd.C k81 w0 A4 e.length e) (hc : e.length <= d4) (hm0 : 0 <= m) (hm1 : m <= 1000000) (hg : GI cn (m + 1 + cn t) e) :
  Calls Tryz.prog 102 #[.agg (Vj m op n A2 a d2 A3 t d3 A4 e d4)] w fun en w' => ∃ D d, en = .returned (.slice D (Zu cn (m + 1 + cn t) e).length d) /\ (YT Y4 w0).R 128 w' w.heap.size (fun _ => True) (.slice D (Zu cn (m + 1 + cn t) e).length d) (Zu cn (m + 1 + cn t) e) /\ Below w.heap.size w w' := by
 have hu1 := Tryz.underlying81
 have hu2 := Tryz.underlying128
 have hx := zI w (.cells (Vj m op n A2 a d2 A3 t d3 A4 e d4) 128)
 have hb := bal (jc w.heap.size w) (.cells (Vj m op n A2 a d2 A3 t d3 A4 e d4) 128)
 have HR := am hr
 have HC := am hc
 have HG := am hg
 have hw1 : IntKind.i64.wrap (m + 1) = m + 1 := by rw [zP]; unfold wrap64; omega
 have hw2 : wrap64 (m + 1) = m + 1 := by unfold wrap64; omega
 have HB := am hB
 have HT := am ht
 have HTC := am htc
 have HK := am hk
 have hw3 : IntKind.i64.wrap (m + 1 + cn t) = m + 1 + cn t := by rw [zP]; unfold wrap64; omega
 have hw4 : wrap64 (m + 1 + cn t) = m + 1 + cn t := by unfold wrap64; omega
 clear hr hc hg hB ht htc hk
 go_enter Tryz.func102, Tryz.ntmps102
 go_upto_region 1 with (fail)
 generalize w.alloc (.cells (Vj m op n A2 a d2 A3 t d3 A4 e d4) 128) = W at hx hb ⊢
 have x_q := bq hx
 have HD := am hb
 have HX := am hx
 clear hx hb
 have HX := am (kdr HX.out)
 have HD := am (HD.out.trans ((zj (jc _ _)).mono HD.out.size))
 go_wp2
 clear x_q
 refine sT 13 [0, 1, 2, 3, 4, 5, 6, 7, 8, 9, 10, 11, 12] [11] fun hHeld => ?_
 generalize W.drew = Y at HX HD hHeld ⊢
 have hq0_0 := bq HX.out
 repeat first | refine nx ?_ | refine ldT hHeld ?_ | refine un ?_
 refine on fun K hK => ?_
 refine gC Tryz.func19 ?_
 refine (zZ.calls k A3 d3 t (cn t) Y (ji HT.out (HB.out.trans (HD.out.mono HB.out.size))) HTC.out HK.out).mono ?_
 rintro en Y0 ⟨rfl, hb⟩
 have HX := am (zd HX.out hb)
 have HD := am (HD.out.trans (hb.mono HD.out.size))
 refine ⟨_, rfl, ?_⟩
 refine hK.out _ _ (kp hHeld) fun hHeld => ?_
 clear hK K
 refine nM ?_
 repeat first | refine nx ?_ | refine ldT hHeld ?_ | refine un ?_
 refine la fun K hK => ?_
 refine gC Tryz.func69 ?_
 refine (z41.calls cn w0 Y0 A4 d4 e (m + 1 + cn t) (HB.out.trans (HD.out.mono HB.out.size)) HR.out HC.out HG.out).mono ?_
 rintro en Y1 ⟨D, d, rfl, ho, hb⟩
 have HO := am (Kd.R_lower ho HD.out.size)
 have HD := am (HD.out.trans (hb.mono HD.out.size))
 clear ho
 refine ⟨_, rfl, ?_⟩
 refine hK.out _ _ ?_
 clear hK K
 refine nM ?_
 repeat first | refine nx ?_ | refine ldT hHeld ?_ | refine un ?_
 refine dn ?_
 go_wp2
 go_ret
 exact ⟨D, d, rfl, HO.out, HD.out⟩
theorem z7s : (Tryz.prog.info? 134).map (fun i => (i.zero, i.size, i.bytes)) = some (some (.agg Vnq), 2, 16) := by kernel_rfl
theorem Yk {W : World} {A : Option Addr} {xs : List Int} (h : Kd.C (Kd.int .i64) W A xs.length xs) (i : Int) (h0 : 0 <= i) (h1 : i < xs.length) : ∃ ad, A = some ad /\ W.cell? (ad.add i.toNat) = some (.int .i64 (rd xs i)) := by
 obtain ⟨ad, cl, e1, _, hK, hcl⟩ := Kd.C_get h (0 : Int) i h0 h1
 have hcl0 : cl = [.int .i64 (rd xs i)] := hK
 subst hcl0
 have qp := hcl 0 _ rfl
 rw [show (Kd.int .i64).sz = 1 from rfl, Nat.mul_one, Nat.add_zero] at qp
 exact ⟨ad, e1, qp⟩
theorem z5K {w0 W : World} {b : Nat} {x : ZT} {cs : List Value} (h : W.heap[b]? = some (.cells cs.toArray 128 (0, 0))) (hK : Y4.K w0 x cs) : (YT Y4 w0).C W (some ⟨b, 0, none⟩) 1 [x] := by
 refine ⟨rfl, by decide, fun _ => ⟨_, rfl, fun j y hj => ?_⟩⟩
 match j with
 | 0 =>
  obtain rfl : x = y := by simpa using hj
  refine ⟨cs, Y4.K_len hK, hK, fun i u hu => ?_⟩
  rw [z7O, za h]
  simpa using hu
 | j + 1 => simp at hj
theorem MR.newtd {w0 Y W : World} {Q ok : Nat -> Prop} {cs : Array Value} {c : MC} {D : Option Addr} {d : Nat} {xs : List ZT} (h : MR w0 Y Q cs c) (hs : Below Y.heap.size Y W) (ho : (YT Y4 w0).R 128 W Y.heap.size ok (.slice D xs.length d) xs) : MR w0 W (fun k => Q k \/ Y.heap.size <= k) (cs.setIfInBounds 8 (.slice D xs.length d)) { c with td := xs } :=
 ((h.below hs).mono (fun _ hk _ => .inl hk)).td' (Kd.R_reads' ho).2.1 (MR.fresh (fun _ hk => (h.mt hk).2.2) ho (fun _ hk _ => .inr hk))
def atP (l1 : List S76) (n i : Int) : Int := ((l1.take n.toNat).map (·.f2)).sum + Int.tmod i (zp l1 n).f2
def yL (cn : List S81 -> Int) (l1 : List S76) (pk : List Int) (c : MC) (m op n : Int) (t e : List S81) (self : ZT) (v : List Int) (next : List ZT) : MC :=
 if op = 0 then z0m l1 n (if 1 < v.length then rd v 0 else 0) (rd v ((v.length : Int) - 1)) (atP l1 n (if 1 < v.length then rd v 0 else 0)) (decide (1 < v.length)) c
 else if op = 1 then { mEv 0 m (if rd v 0 = 0 then 0 else 1) c with td := (if rd v 0 = 0 then Zu cn (m + 1 + cn t) e else Zu cn (m + 1) t) ++ next }
 else if op = 2 then (if rd v 0 = 0 then mEv 0 m 0 c else { mEv 0 m 1 c with td := (Zu cn (m + 1) t ++ [self]) ++ next })
 else if op = 3 then { c with ou := c.ou ++ [⟨n, rd v 0⟩] }
 else if op = 4 then (if (pk.length : Int) <= c.us then YR 4 m c else z0m l1 n (if 0 < v.length then rd v 0 else 0) (rd pk c.us) (atP l1 n (if 0 < v.length then rd v 0 else 0)) (decide (0 < v.length)) { c with us := c.us + 1 })
 else if op = 5 then (if rd v 0 = 0 then YR 1 m c else c)
 else if op = 6 then (if rd v 0 = 0 then YR 2 m c else c)
 else c
def SFit (l1 : List S76) (st : List Int) (n i a : Int) : Prop :=
 0 <= n /\ n < l1.length /\ (zp l1 n).f2 ≠ 0 /\ (∃ k, z09.f k l1 n i = some (atP l1 n i)) /\ ∃ k, z22.f k st (atP l1 n i) a = some (st.set (atP l1 n i).toNat a)
def AFit (cn : List S81 -> Int) (l1 : List S76) (pk : List Int) (c : MC) (m op n : Int) (t e : List S81) (v : List Int) (next : List ZT) : Prop :=
 (0 <= m /\ m <= 1000000 /\ c.tr.length < 1000000000 /\ c.ou.length < 1000000000 /\ 0 <= c.us /\ c.us < 1000000 /\ next.length < 1000000000) /\
 (op = 0 -> 0 < v.length /\ SFit l1 c.st n (if 1 < v.length then rd v 0 else 0) (rd v ((v.length : Int) - 1))) /\
 (op = 1 \/ op = 2 -> 0 < v.length /\ GI cn (m + 1) t /\ GI cn (m + 1 + cn t) e /\ (∃ k, zZ.f k t = some (cn t)) /\ 0 <= cn t /\ cn t <= 1000000) /\
 (op = 3 \/ op = 5 \/ op = 6 -> 0 < v.length) /\ (op = 4 -> SFit l1 c.st n (if 0 < v.length then rd v 0 else 0) (rd pk c.us))
theorem m_act.calls (w0 w : World) (Q : Nat -> Prop) (cs : Array Value) (c : MC) (cn : List S81 -> Int) (wd : Int) (Av : Option Addr) (cv : Nat) (l1 : List S76) (Ab : Option Addr) (lb cb : Nat) (Ap_ : Option Addr) (np : Nat) (pk : List Int) (m op n : Int) (B3 : Option Addr) (d3 : Nat) (a : List S62) (B4 : Option Addr) (d4 : Nat) (t : List S81) (B5 : Option Addr) (d5 : Nat) (e : List S81) (Av_ : Option Addr) (nv : Nat) (v : List Int) (An : Option Addr) (nn : Nat) (next : List ZT) (hB : Below w0.heap.size w0 w) (hV : MR w0 w Q cs c) (hQ : ∀ k, Q k -> k < w.heap.size) (hr1 : Kd.C k76 w0 Av l1.length l1) (hc1 : l1.length <= cv) (hpk : Kd.C (Kd.int .i64) w0 Ap_ pk.length pk) (hpn : pk.length <= np) (h3 : Kd.C k62 w0 B3 a.length a) (l3 : a.length <= d3) (h4 : Kd.C k81 w0 B4 t.length t) (l4 : t.length <= d4) (h5 : Kd.C k81 w0 B5 e.length e) (l5 : e.length <= d5) (hvf : Kd.F (Kd.int .i64) w (fun k => ¬ MT cs k) Av_ v.length v) (hvn : v.length <= nv) (hnf : Kd.F (YT Y4 w0) w (fun k => ¬ MT cs k) An next.length next) (hnn : next.length <= nn) (hf : AFit cn l1 pk c m op n t e v next) :
  Calls Tryz.prog 73 #[.agg (Vo wd Av l1 cv Ab lb cb), .slice Ap_ pk.length np, .agg cs, .agg (Vj m op n B3 a d3 B4 t d4 B5 e d5), .slice Av_ v.length nv, .slice An next.length nn] w (MP w0 w Q cs (yL cn l1 pk c m op n t e ⟨m, ⟨op, n, a, t, e⟩⟩ v next)) := by
 have HV := am hV
 obtain ⟨A1, n1, A2, n2, A3, n3, A8, n8, rfl, hh⟩ := id hV
 clear hh hV
 obtain ⟨b_, hsz_, x0_, x1_, x2_, x3_⟩ := z7E w (.cells (Vo wd Av l1 cv Ab lb cb) 25) (.cells (Va c.ed A1 c.st n1 A2 c.ou n2 A3 c.tr n3 c.co c.us c.wh c.fu A8 c.td n8 c.ov) 98) (.cells (Vj m op n B3 a d3 B4 t d4 B5 e d5) 128) (.cells (Vi false) 98)
 have HV0 := am (HV.out.below b_)
 have HB0 := am (hB.trans (b_.mono hB.size))
 have HK0 := am (zN.of_below b_ (MT (Va c.ed A1 c.st n1 A2 c.ou n2 A3 c.tr n3 c.co c.us c.wh c.fu A8 c.td n8 c.ov)))
 have HSZ := am hsz_
 have X0 := am x0_
 have X1 := am x1_
 have X2 := am x2_
 have X3 := am x3_
 have HQ := am hQ
 have hBs := hB.size
 clear hsz_ hQ hB b_ x0_ x1_ x2_ x3_
 have hu := Tryz.underlying98
 have huR := Tryz.underlying44
 have huP := Tryz.underlying25
 have huS := Tryz.underlying81
 have huI := Tryz.underlying128
 have huL := Tryz.underlying96
 have huN := Tryz.underlying26
 obtain ⟨⟨hm0, hm1, htr, hou, hu0, hu1, hnx⟩, F0, F1, F3, F4⟩ := hf
 have MRQ := am (show ∀ k, MT (Va c.ed A1 c.st n1 A2 c.ou n2 A3 c.tr n3 c.co c.us c.wh c.fu A8 c.td n8 c.ov) k -> Q k from fun k hk => (HV.out.mt hk).1)
 have HF0 := am F0
 have HF1 := am F1
 have HF3 := am F3
 have HF4 := am F4
 have HR1 := am hr1
 have HC1 := am hc1
 have HPK := am hpk
 have H3 := am h3
 have L3 := am l3
 have H4 := am h4
 have L4 := am l4
 have H5 := am h5
 have L5 := am l5
 have HVF := am hvf
 have HNF := am hnf
 have HNN := am hnn
 have hvl := (Kd.F_now hvf).2.1
 clear F0 F1 F3 F4 hr1 hc1 hpk h3 l3 h4 l4 h5 l5 hvf hnf hnn
 go_enter Tryz.func73, Tryz.ntmps73
 go_upto_region 1 with (fail)
 generalize (((w.alloc (.cells (Vo wd Av l1 cv Ab lb cb) 25)).alloc (.cells (Va c.ed A1 c.st n1 A2 c.ou n2 A3 c.tr n3 c.co c.us c.wh c.fu A8 c.td n8 c.ov) 98)).alloc (.cells (Vj m op n B3 a d3 B4 t d4 B5 e d5) 128)).alloc (.cells (Vi false) 98) = W0 at HV0 HB0 HK0 HSZ X0 X1 X2 X3 ⊢
 obtain ⟨i0, i1, i2, i3, i4, i5⟩ := z75 X2.out
 go_upto_region 2 with (fail)
 clear i0 i1 i2 i3 i4 i5
 have ba := bal (jc W0.heap.size W0) (.cells (Vh op n B3 a d3 B4 t d4 B5 e d5) 81)
 have X4 := am (show (W0.alloc (.cells (Vh op n B3 a d3 B4 t d4 B5 e d5) 81)).heap[w.heap.size + 4]? = _ from HSZ.out ▸ zI W0 (.cells (Vh op n B3 a d3 B4 t d4 B5 e d5) 81))
 have X0 := am (zd X0.out ba)
 have X1 := am (zd X1.out ba)
 have X2 := am (zd X2.out ba)
 have X3 := am (zd X3.out ba)
 have HV1 := am (HV0.out.below ba)
 have HB1 := am (HB0.out.trans (ba.mono HB0.out.size))
 have HK1 := am (HK0.out.below ba)
 have hsz1 : (W0.alloc (.cells (Vh op n B3 a d3 B4 t d4 B5 e d5) 81)).heap.size = w.heap.size + 5 := by have := HSZ.out; simp; omega
 have hpt : (⟨W0.heap.size, 0, none⟩ : Addr) = ⟨w.heap.size + 4, 0, none⟩ := by rw [HSZ.out]
 simp only [HSZ.out]
 have HSZ := am hsz1
 clear ba HV0 HB0 HK0 hsz1 hpt
 generalize W0.alloc (.cells (Vh op n B3 a d3 B4 t d4 B5 e d5) 81) = W1 at X0 X1 X2 X3 X4 HV1 HB1 HK1 HSZ ⊢
 have s0 : W1.cell? ⟨w.heap.size + 4, 0, none⟩ = some (.int .i64 op) := (za X4.out 0).trans rfl
 by_cases h5 : op = 5
 ·have e5 : (op == 5) = true := bT h5
  have e0 : (op == 0) = false := bF (by rw [h5]; decide)
  have e1 : (op == 1) = false := bF (by rw [h5]; decide)
  have e2 : (op == 2) = false := bF (by rw [h5]; decide)
  have e3 : (op == 3) = false := bF (by rw [h5]; decide)
  have e4 : (op == 4) = false := bF (by rw [h5]; decide)
  have H5_ := am h5
  clear h5
  have hvp : 0 < v.length := HF3.out (by rw [H5_.out]; simp)
  obtain ⟨adv, e_, q0v⟩ := Yk (Kd.F_now (Kd.F_kept HVF.out HK1.out (fun _ hk => hk))) (0 : Int) (jq _) (by omega)
  subst e_
  rw [show (0 : Int).toNat = 0 from rfl, Addr.add_zero'] at q0v
  have hvp0 : (0 : Int) < (v.length : Int) := by omega
  by_cases hz : rd v 0 = 0
  ·have hzb : (rd v 0 == 0) = true := bT hz
   have HZ := am hz
   clear hz
   obtain ⟨c0, c1, c2, c3, c4, c5, c6, c7, c8, c9⟩ := yf X1.out
   have i0 : W1.cell? ⟨w.heap.size + 2, 0, none⟩ = some (.int .i64 m) := (za X2.out 0).trans rfl
   go_wp2_with (first | (go_at_call 70; refine (z40.calls w0 W1 Q _ c 1 m HB1.out HV1.out (fun k hk => by have := HQ.out k hk; have := HSZ.out; omega)).mono ?_; rintro en W2 ⟨cs2, rfl, hv2, hm2, hb2, hk2⟩; have X3 := am ((hk2.2 (w.heap.size + 3) (by have := HSZ.out; omega) (fun h => jm (HQ.out _ (MRQ.out _ h)) (by omega))).trans X3.out); obtain ⟨c2, hc2⟩ : ∃ c2 : MC, c2 = YR 1 m c := ⟨_, rfl⟩; have HV2 := am (show MR w0 W2 (fun k => Q k \/ W1.heap.size <= k) cs2 c2 by rw [hc2]; exact hv2); have HM2 := am hm2; have HC2 := am hc2; obtain ⟨A1', n1', A2', n2', A3', n3', A8', n8', rfl, hh2⟩ := id HV2.out; clear hh2; have HB2 := am hb2; have hlc : w.heap.size + 5 <= W1.heap.size := (by have := HSZ.out; omega); have HK2 := am (HK1.out.then_ hk2 (fun k hk => .inl hk)); have hs2 := hk2.1; clear hv2 hm2 hb2 hk2 hc2; have z_q := bq X3.out; have g_q := bq X3.out))
   exact yO (g := w.heap.size + 3) HV2.out (by rw [HC2.out, yL, ja (by rw [H5_.out]; decide), ja (by rw [H5_.out]; decide), ja (by rw [H5_.out]; decide), ja (by rw [H5_.out]; decide), ja (by rw [H5_.out]; decide), jb H5_.out, jb HZ.out]) (fun k h => (HM2.out k h).imp id (fun h => by omega)) X3.out rfl HB2.out HK2.out (by omega) (by omega) (fun h => by rcases h with h | h; exact jm (HQ.out _ h) (by omega); omega) (fun k hk => by rcases hk with hk | hk; exact .inl hk; exact .inr (by omega)) rfl rfl rfl rfl
  ·have hzb : (rd v 0 == 0) = false := bF hz
   have HZ := am hz
   clear hz
   obtain ⟨c0, c1, c2, c3, c4, c5, c6, c7, c8, c9⟩ := yf X1.out
   have z_q := bq X3.out
   have g_q := bq X3.out
   go_wp2
   exact yO (g := w.heap.size + 3) HV1.out (by rw [yL, ja (by rw [H5_.out]; decide), ja (by rw [H5_.out]; decide), ja (by rw [H5_.out]; decide), ja (by rw [H5_.out]; decide), ja (by rw [H5_.out]; decide), jb H5_.out, ja HZ.out]) (fun k h => .inl h) X3.out rfl HB1.out HK1.out (by omega) (by omega) (fun h => jm (HQ.out _ h) (by omega)) (fun k hk => .inl hk) rfl rfl rfl rfl
 have e5 := (beq_eq_false_iff_ne (a := op)).mpr h5
 by_cases h6 : op = 6
 ·have e6 : (op == 6) = true := bT h6
  have e0 : (op == 0) = false := bF (by rw [h6]; decide)
  have e1 : (op == 1) = false := bF (by rw [h6]; decide)
  have e2 : (op == 2) = false := bF (by rw [h6]; decide)
  have e3 : (op == 3) = false := bF (by rw [h6]; decide)
  have e4 : (op == 4) = false := bF (by rw [h6]; decide)
  have H6_ := am h6
  clear h6
  have hvp : 0 < v.length := HF3.out (by rw [H6_.out]; simp)
  obtain ⟨adv, e_, q0v⟩ := Yk (Kd.F_now (Kd.F_kept HVF.out HK1.out (fun _ hk => hk))) (0 : Int) (jq _) (by omega)
  subst e_
  rw [show (0 : Int).toNat = 0 from rfl, Addr.add_zero'] at q0v
  have hvp0 : (0 : Int) < (v.length : Int) := by omega
  by_cases hz : rd v 0 = 0
  ·have hzb : (rd v 0 == 0) = true := bT hz
   have HZ := am hz
   clear hz
   obtain ⟨c0, c1, c2, c3, c4, c5, c6, c7, c8, c9⟩ := yf X1.out
   have i0 : W1.cell? ⟨w.heap.size + 2, 0, none⟩ = some (.int .i64 m) := (za X2.out 0).trans rfl
   go_wp2_with (first | (go_at_call 70; refine (z40.calls w0 W1 Q _ c 2 m HB1.out HV1.out (fun k hk => by have := HQ.out k hk; have := HSZ.out; omega)).mono ?_; rintro en W2 ⟨cs2, rfl, hv2, hm2, hb2, hk2⟩; have X3 := am ((hk2.2 (w.heap.size + 3) (by have := HSZ.out; omega) (fun h => jm (HQ.out _ (MRQ.out _ h)) (by omega))).trans X3.out); obtain ⟨c2, hc2⟩ : ∃ c2 : MC, c2 = YR 2 m c := ⟨_, rfl⟩; have HV2 := am (show MR w0 W2 (fun k => Q k \/ W1.heap.size <= k) cs2 c2 by rw [hc2]; exact hv2); have HM2 := am hm2; have HC2 := am hc2; obtain ⟨A1', n1', A2', n2', A3', n3', A8', n8', rfl, hh2⟩ := id HV2.out; clear hh2; have HB2 := am hb2; have hlc : w.heap.size + 5 <= W1.heap.size := (by have := HSZ.out; omega); have HK2 := am (HK1.out.then_ hk2 (fun k hk => .inl hk)); have hs2 := hk2.1; clear hv2 hm2 hb2 hk2 hc2; have z_q := bq X3.out; have g_q := bq X3.out))
   exact yO (g := w.heap.size + 3) HV2.out (by rw [HC2.out, yL, ja (by rw [H6_.out]; decide), ja (by rw [H6_.out]; decide), ja (by rw [H6_.out]; decide), ja (by rw [H6_.out]; decide), ja (by rw [H6_.out]; decide), ja (by rw [H6_.out]; decide), jb H6_.out, jb HZ.out]) (fun k h => (HM2.out k h).imp id (fun h => by omega)) X3.out rfl HB2.out HK2.out (by omega) (by omega) (fun h => by rcases h with h | h; exact jm (HQ.out _ h) (by omega); omega) (fun k hk => by rcases hk with hk | hk; exact .inl hk; exact .inr (by omega)) rfl rfl rfl rfl
  ·have hzb : (rd v 0 == 0) = false := bF hz
   have HZ := am hz
   clear hz
   obtain ⟨c0, c1, c2, c3, c4, c5, c6, c7, c8, c9⟩ := yf X1.out
   have z_q := bq X3.out
   have g_q := bq X3.out
   go_wp2
   exact yO (g := w.heap.size + 3) HV1.out (by rw [yL, ja (by rw [H6_.out]; decide), ja (by rw [H6_.out]; decide), ja (by rw [H6_.out]; decide), ja (by rw [H6_.out]; decide), ja (by rw [H6_.out]; decide), ja (by rw [H6_.out]; decide), jb H6_.out, ja HZ.out]) (fun k h => .inl h) X3.out rfl HB1.out HK1.out (by omega) (by omega) (fun h => jm (HQ.out _ h) (by omega)) (fun k hk => .inl hk) rfl rfl rfl rfl
 have e6 := (beq_eq_false_iff_ne (a := op)).mpr h6
 by_cases h0 : op = 0
 ·have e0 : (op == 0) = true := bT h0
  have H0_ := am h0
  clear h0
  obtain ⟨hvp, SF⟩ := HF0.out H0_.out
  have hlx0 : (0 : Int) <= (v.length : Int) - 1 := by omega
  have hlx1 : (v.length : Int) - 1 < (v.length : Int) := by omega
  have hwl : IntKind.i64.wrap ((v.length : Int) - 1) = (v.length : Int) - 1 := by rw [zP]; unfold wrap64; omega
  have hw6 : wrap64 ((v.length : Int) - 1) = (v.length : Int) - 1 := by unfold wrap64; omega
  obtain ⟨adv, e_, q0v⟩ := Yk (Kd.F_now (Kd.F_kept HVF.out HK1.out (fun _ hk => hk))) (0 : Int) (jq _) (by omega)
  subst e_
  rw [show (0 : Int).toNat = 0 from rfl, Addr.add_zero'] at q0v
  have hvp0 : (0 : Int) < (v.length : Int) := by omega
  obtain ⟨adw, e_, ql⟩ := Yk (Kd.F_now (Kd.F_kept HVF.out HK1.out (fun _ hk => hk))) ((v.length : Int) - 1) hlx0 hlx1
  injection e_ with e_
  subst e_
  rw [show ((v.length : Int) - 1).toNat = v.length - 1 by omega] at ql
  have hle1 : (1 : Int) <= (v.length : Int) := by omega
  have D0 := am (kdr X0.out)
  have D1 := am (kdr X1.out)
  have D2 := am (kdr X2.out)
  have D3 := am (kdr X3.out)
  have D4 := am (kdr X4.out)
  have DV := am (HV1.out.below (zj (jc _ _)))
  have DB := am (HB1.out.trans ((zj (jc _ _)).mono HB1.out.size))
  have DK := am (HK1.out.below (zj (jc _ _)))
  have hlw : w.heap.size + 5 <= W1.drew.heap.size := by have := HSZ.out; show w.heap.size + 5 <= W1.heap.size; omega
  have QL := am (show W1.drew.cell? (adv.add (v.length - 1)) = some (.int .i64 (rd v ((v.length : Int) - 1))) from ql)
  clear ql
  by_cases h1 : 1 < v.length
  ·rw [jb h1] at SF
   obtain ⟨hn0, hn1, hv0, ⟨kA, hA⟩, kP, hP⟩ := SF
   have hgt : (1 : Int) < (v.length : Int) := by omega
   have hgd : decide ((1 : Int) < (v.length : Int)) = true := dT (by omega)
   have HH1 := am h1
   have HAT := am hA
   have HPU := am hP
   clear h1 hA hP
   go_wp2
   refine sT 15 [0, 1, 2, 3, 4, 5, 6, 7, 8, 9, 10, 11, 12, 13, 14] [13, 14] fun hHeld => ?_
   generalize W1.drew = Y at D0 D1 D2 D3 D4 DV DB DK QL hlw hHeld ⊢
   have hq0_0 := bq D0.out
   have hq0_1 := bq D1.out
   have hq0_2 := bq D4.out
   have hq0_3 : World.cell? _ (adv.add (v.length - 1)) = some (.int .i64 (rd v ((v.length : Int) - 1))) := QL.out
   repeat first | refine nx ?_ | refine ldT hHeld ?_ | refine un ?_
   refine la fun K hK => ?_
   refine gC Tryz.func100 ?_
   refine (z5O.calls w0 Y Q _ c kA kP wd Av cv l1 Ab lb cb op n B3 a.length d3 B4 t.length d4 B5 e.length d5 true (rd v 0) (rd v ((v.length : Int) - 1)) _ DB.out DV.out (fun k hk => by have := HQ.out k hk; omega) HR1.out HC1.out hn0 hn1 hv0 HAT.out HPU.out htr).mono ?_
   rintro en W2 ⟨cs2, rfl, hv2, hm2, hb2, hk2⟩
   have X3 := am ((hk2.2 (w.heap.size + 3) (by omega) (fun h => jm (HQ.out _ (MRQ.out _ h)) (by omega))).trans D3.out)
   obtain ⟨c2, hc2⟩ : ∃ c2 : MC, c2 = z0m l1 n (rd v 0) (rd v ((v.length : Int) - 1)) (atP l1 n (rd v 0)) true c := ⟨_, rfl⟩
   have HV2 := am (show MR w0 W2 (fun k => Q k \/ Y.heap.size <= k) cs2 c2 by rw [hc2]; exact hv2)
   have HM2 := am hm2
   have HC2 := am hc2
   obtain ⟨A1', n1', A2', n2', A3', n3', A8', n8', rfl, hh2⟩ := id HV2.out
   clear hh2
   have HB2 := am hb2
   have hlc : w.heap.size + 5 <= Y.heap.size := (by omega)
   have HK2 := am (DK.out.then_ hk2 (fun k hk => .inl hk))
   have hs2 := hk2.1
   clear hv2 hm2 hk2 hc2
   refine ⟨_, rfl, ?_⟩
   refine hK.out _ _ ?_
   clear hK K
   refine nM ?_
   refine la fun K hK => ?_
   have z_q := bq X3.out
   have g_q := bq X3.out
   refine ZX (w1 := ?_) (by rfl) rfl ?_ ?_
   rotate_left
   ·go_simp
    rfl
   refine hK.out _ _ ?_
   clear hK K
   refine dn ?_
   go_wp2
   exact yO (g := w.heap.size + 3) HV2.out (by rw [HC2.out, yL, jb H0_.out, jb HH1.out, decide_eq_true HH1.out]) (fun k h => (HM2.out k h).imp id (fun h => by omega)) X3.out rfl HB2.out HK2.out (by omega) (by omega) (fun h => by rcases h with h | h; exact jm (HQ.out _ h) (by omega); omega) (fun k hk => by rcases hk with hk | hk; exact .inl hk; exact .inr (by omega)) rfl rfl rfl rfl
  ·rw [ja h1] at SF
   obtain ⟨hn0, hn1, hv0, ⟨kA, hA⟩, kP, hP⟩ := SF
   have hgt : ¬ (1 : Int) < (v.length : Int) := by omega
   have hgd : decide ((1 : Int) < (v.length : Int)) = false := dF (by omega)
   have HH1 := am h1
   have HAT := am hA
   have HPU := am hP
   clear h1 hA hP
   go_wp2
   refine sT 15 [0, 1, 2, 3, 4, 5, 6, 7, 8, 9, 10, 11, 12, 13, 14] [13, 14] fun hHeld => ?_
   generalize W1.drew = Y at D0 D1 D2 D3 D4 DV DB DK QL hlw hHeld ⊢
   have hq1_0 := bq D0.out
   have hq1_1 := bq D1.out
   have hq1_2 := bq D4.out
   have hq1_3 : World.cell? _ (adv.add (v.length - 1)) = some (.int .i64 (rd v ((v.length : Int) - 1))) := QL.out
   repeat first | refine nx ?_ | refine ldT hHeld ?_ | refine un ?_
   refine la fun K hK => ?_
   refine gC Tryz.func100 ?_
   refine (z5O.calls w0 Y Q _ c kA kP wd Av cv l1 Ab lb cb op n B3 a.length d3 B4 t.length d4 B5 e.length d5 false 0 (rd v ((v.length : Int) - 1)) _ DB.out DV.out (fun k hk => by have := HQ.out k hk; omega) HR1.out HC1.out hn0 hn1 hv0 HAT.out HPU.out htr).mono ?_
   rintro en W2 ⟨cs2, rfl, hv2, hm2, hb2, hk2⟩
   have X3 := am ((hk2.2 (w.heap.size + 3) (by omega) (fun h => jm (HQ.out _ (MRQ.out _ h)) (by omega))).trans D3.out)
   obtain ⟨c2, hc2⟩ : ∃ c2 : MC, c2 = z0m l1 n 0 (rd v ((v.length : Int) - 1)) (atP l1 n 0) false c := ⟨_, rfl⟩
   have HV2 := am (show MR w0 W2 (fun k => Q k \/ Y.heap.size <= k) cs2 c2 by rw [hc2]; exact hv2)
   have HM2 := am hm2
   have HC2 := am hc2
   obtain ⟨A1', n1', A2', n2', A3', n3', A8', n8', rfl, hh2⟩ := id HV2.out
   clear hh2
   have HB2 := am hb2
   have hlc : w.heap.size + 5 <= Y.heap.size := (by omega)
   have HK2 := am (DK.out.then_ hk2 (fun k hk => .inl hk))
   have hs2 := hk2.1
   clear hv2 hm2 hk2 hc2
   refine ⟨_, rfl, ?_⟩
   refine hK.out _ _ ?_
   clear hK K
   refine nM ?_
   refine la fun K hK => ?_
   have z_q := bq X3.out
   have g_q := bq X3.out
   refine ZX (w1 := ?_) (by rfl) rfl ?_ ?_
   rotate_left
   ·go_simp
    rfl
   refine hK.out _ _ ?_
   clear hK K
   refine dn ?_
   go_wp2
   exact yO (g := w.heap.size + 3) HV2.out (by rw [HC2.out, yL, jb H0_.out, ja HH1.out, decide_eq_false HH1.out]) (fun k h => (HM2.out k h).imp id (fun h => by omega)) X3.out rfl HB2.out HK2.out (by omega) (by omega) (fun h => by rcases h with h | h; exact jm (HQ.out _ h) (by omega); omega) (fun k hk => by rcases hk with hk | hk; exact .inl hk; exact .inr (by omega)) rfl rfl rfl rfl
 have e0 := (beq_eq_false_iff_ne (a := op)).mpr h0
 by_cases h1 : op = 1
 ·have e1 : (op == 1) = true := bT h1
  have H1_ := am h1
  clear h1
  obtain ⟨hvp, hgt, hge, ⟨kc, hkc⟩, hct0, hct1⟩ := HF1.out (by rw [H1_.out]; simp)
  have HGT := am hgt
  have HGE := am hge
  have HKC := am hkc
  clear hgt hge hkc
  obtain ⟨adv, e_, q0v⟩ := Yk (Kd.F_now (Kd.F_kept HVF.out HK1.out (fun _ hk => hk))) (0 : Int) (jq _) (by omega)
  subst e_
  rw [show (0 : Int).toNat = 0 from rfl, Addr.add_zero'] at q0v
  have hvp0 : (0 : Int) < (v.length : Int) := by omega
  by_cases hz : rd v 0 = 0
  ·skip
   have hzn : (rd v 0 != 0) = false := bQ hz
   have HZ := am hz
   clear hz
   have D0 := am (kdr X0.out)
   have D1 := am (kdr X1.out)
   have D2 := am (kdr X2.out)
   have D3 := am (kdr X3.out)
   have D4 := am (kdr X4.out)
   have DV := am (HV1.out.below (zj (jc _ _)))
   have DB := am (HB1.out.trans ((zj (jc _ _)).mono HB1.out.size))
   have DK := am (HK1.out.below (zj (jc _ _)))
   have hlw : w.heap.size + 5 <= W1.drew.heap.size := by have := HSZ.out; show w.heap.size + 5 <= W1.heap.size; omega
   have QD := am (show W1.drew.cell? adv = some (.int .i64 (rd v 0)) from q0v)
   go_wp2
   clear q0v
   refine sT 10 [0, 1, 2, 3, 4, 5, 6, 7, 8, 9] [8, 9] fun hHeld => ?_
   generalize W1.drew = Y at D0 D1 D2 D3 D4 DV DB DK QD hlw hHeld ⊢
   have hq2_0 := bq D1.out
   have hq2_1 := bq D2.out
   have hq2_2 : World.cell? _ adv = some (.int .i64 (rd v 0)) := QD.out
   repeat first | refine nx ?_ | refine ldT hHeld ?_ | refine un ?_
   refine on fun K hK => ?_
   refine gC Tryz.func80 ?_
   refine (ZG.calls false 0 Y rfl).mono ?_
   rintro en Y1 ⟨rfl, hd⟩
   have hb := hd.below
   have D0 := am (zd D0.out hb)
   have D1 := am (zd D1.out hb)
   have D2 := am (zd D2.out hb)
   have D3 := am (zd D3.out hb)
   have D4 := am (zd D4.out hb)
   have DV := am (DV.out.below hb)
   have DB := am (DB.out.trans (hb.mono DB.out.size))
   have DK := am (DK.out.below hb)
   have QD := am ((hb.cell (jd _ _ QD.out)).trans QD.out)
   replace hlw := Nat.le_trans hlw hb.size
   refine ⟨_, rfl, ?_⟩
   refine hK.out _ _ (kp hHeld) fun hHeld => ?_
   clear hK K
   refine nM ?_
   refine la fun K hK => ?_
   refine gC Tryz.func101 ?_
   refine (z1M.calls w0 Y1 Q _ c 0 m 0 DB.out DV.out (fun k hk => by have := HQ.out k hk; omega) htr).mono ?_
   rintro en W2 ⟨cs2, rfl, hv2, hm2, hb2, hk2⟩
   have nmt : ∀ k, w.heap.size <= k -> ¬ MT (Va c.ed A1 c.st n1 A2 c.ou n2 A3 c.tr n3 c.co c.us c.wh c.fu A8 c.td n8 c.ov) k := fun k h hm => by have := HQ.out _ (MRQ.out _ hm); omega
   have E0 := am ((hk2.2 (w.heap.size) (by omega) (nmt _ (by omega))).trans D0.out)
   have E1 := am ((hk2.2 (w.heap.size + 1) (by omega) (nmt _ (by omega))).trans D1.out)
   have E2 := am ((hk2.2 (w.heap.size + 2) (by omega) (nmt _ (by omega))).trans D2.out)
   have E3 := am ((hk2.2 (w.heap.size + 3) (by omega) (nmt _ (by omega))).trans D3.out)
   have E4 := am ((hk2.2 (w.heap.size + 4) (by omega) (nmt _ (by omega))).trans D4.out)
   obtain ⟨c2, hc2⟩ : ∃ c2 : MC, c2 = mEv 0 m 0 c := ⟨_, rfl⟩
   have HV2 := am (show MR w0 W2 (fun k => Q k \/ w.heap.size + 5 <= k) cs2 c2 by rw [hc2]; exact hv2.mono (fun k hk _ => by rcases hk with hk | hk; exact .inl hk; exact .inr (by omega)))
   have HM2 := am (show ∀ k, MT cs2 k -> MT (Va c.ed A1 c.st n1 A2 c.ou n2 A3 c.tr n3 c.co c.us c.wh c.fu A8 c.td n8 c.ov) k \/ w.heap.size <= k from fun k h => (hm2 k h).imp id (fun h => by omega))
   have HB2 := am hb2
   have HK2 := am (DK.out.then_ hk2 (fun k hk => .inl hk))
   have HC2 := am hc2
   replace hlw := Nat.le_trans hlw hk2.1
   obtain ⟨A1', n1', A2', n2', A3', n3', A8', n8', rfl, hh2⟩ := id HV2.out
   clear hh2 hv2 hm2 hk2 hc2 nmt D0 D1 D2 D3 D4 DV DB DK QD
   refine ⟨_, rfl, ?_⟩
   refine hK.out _ _ ?_
   clear hK K
   refine nM ?_
   refine la fun K hK => ?_
   obtain ⟨y0, y1, y2, y3, y4, y5, y6, y7, y8, y9⟩ := yf E1.out
   have g_q := bq E1.out
   refine ZX (w1 := ?_) (by rfl) rfl ?_ ?_
   rotate_left
   ·go_simp
    rfl
   refine hK.out _ _ ?_
   clear hK K
   refine dn ?_
   have F1 := am (Za (vs := (Vb c2.ed A1' c2.st n1' A2' c2.ou n2' A3' c2.tr n3' c2.co c2.us c2.wh c2.fu A8' c2.td n8' c2.ov)) E1.out rfl)
   have F2 := am ((Zj (vs := (Vb c2.ed A1' c2.st n1' A2' c2.ou n2' A3' c2.tr n3' c2.co c2.us c2.wh c2.fu A8' c2.td n8' c2.ov)) (g := w.heap.size + 1) (w := W2) (k := w.heap.size + 2) (by omega)).trans E2.out)
   have F3 := am ((Zj (vs := (Vb c2.ed A1' c2.st n1' A2' c2.ou n2' A3' c2.tr n3' c2.co c2.us c2.wh c2.fu A8' c2.td n8' c2.ov)) (g := w.heap.size + 1) (w := W2) (k := w.heap.size + 3) (by omega)).trans E3.out)
   have GV := am (HV2.out.fill (g := w.heap.size + 1) (fun h => by rcases h with h | h; exact jm (HQ.out _ h) (by omega); omega) (Vb c2.ed A1' c2.st n1' A2' c2.ou n2' A3' c2.tr n3' c2.co c2.us c2.wh c2.fu A8' c2.td n8' c2.ov))
   have GB := am (Zb (vs := (Vb c2.ed A1' c2.st n1' A2' c2.ou n2' A3' c2.tr n3' c2.co c2.us c2.wh c2.fu A8' c2.td n8' c2.ov)) (g := w.heap.size + 1) HB2.out (by omega))
   have GK := am (yk (vs := (Vb c2.ed A1' c2.st n1' A2' c2.ou n2' A3' c2.tr n3' c2.co c2.us c2.wh c2.fu A8' c2.td n8' c2.ov)) (g := w.heap.size + 1) HK2.out (.inr (Nat.le_succ _)))
   have hl5 : w.heap.size + 5 <= (W2.setCells (w.heap.size + 1) 0 (Vb c2.ed A1' c2.st n1' A2' c2.ou n2' A3' c2.tr n3' c2.co c2.us c2.wh c2.fu A8' c2.td n8' c2.ov)).heap.size := by rw [yM]; exact hlw
   clear y0 g_q y1 y2 y3 y4 y5 y6 y7 y8 y9 E0 E1 E2 E3 E4 HV2 HB2 HK2 hlw
   change Exit.then _ _ _ _ (W2.setCells (w.heap.size + 1) 0 (Vb c2.ed A1' c2.st n1' A2' c2.ou n2' A3' c2.tr n3' c2.co c2.us c2.wh c2.fu A8' c2.td n8' c2.ov))
   generalize W2.setCells (w.heap.size + 1) 0 (Vb c2.ed A1' c2.st n1' A2' c2.ou n2' A3' c2.tr n3' c2.co c2.us c2.wh c2.fu A8' c2.td n8' c2.ov) = W5 at F1 F2 F3 GV GB GK hl5 ⊢
   obtain ⟨i0, i1, i2, i3, i4, i5⟩ := z75 F2.out
   obtain ⟨xsa, hxs⟩ : ∃ xs, Zu cn (m + 1 + cn t) e ++ next = xs := ⟨_, rfl⟩
   have HXSa := am hxs
   clear hxs
   go_upto_region 11 with (first | (go_at_call 102; refine (z7l.calls cn w0 W5 m op n B3 d3 a B4 d4 t B5 d5 e GB.out H4.out L4.out kc HKC.out hct0 hct1 H5.out L5.out hm0 hm1 HGE.out).mono ?_; rintro en W6a ⟨D, d, rfl, ho, hb⟩; have HO6 := am ho; have HB6 := am hb; clear ho hb) | ((with_reducible refine Zq (b := .append) (xs := #[.tmp 54, .tmp 55]) rfl ?_); at_builtin; refine Kd.R_append_rows (YT Y4 w0) (w0 := W5) W5.heap.size rfl (.tmp 54) (.tmp 55) 96 128 (.agg Vq) 96 rfl huL z0h rfl (show 0 < 6 by decide) (by omega) _ (Zu cn (m + 1 + cn t) e) next An next.length nn (fun _ => True) (fun _ => False) rfl rfl HO6.out (Kd.F_now (Kd.F_kept HNF.out (GK.out.below HB6.out) (fun _ hk => hk))) (fun _ _ h => h) (fun _ h => h.elim) (fun _ _ => trivial) HB6.out HB6.out.size (by rw [yj]; have := HGE.out.1; omega) ?_; intro v1 W7a ho hb hg hat; rw [HXSa.out] at ho; obtain ⟨D7a, d7a, ev⟩ := js ho; subst ev; have HO7 := am ho; have HB7 := am hb; have F17 := am (zd F1.out hb); clear ho hb hg hat i0 i1 i2 i3 i4 i5; have y8 := zf F17.out 8; have y9 : W7a.cell? ⟨w.heap.size + 1, 8, none⟩ = some (.slice A8' c2.td.length n8') := (za F17.out 8).trans rfl))
   clear y8 y9
   have nqx : ¬ (Q (w.heap.size + 1) \/ w.heap.size + 5 <= w.heap.size + 1) := (fun h => by rcases h with h | h; exact jm (HQ.out _ h) (by omega); omega)
   have gv := ((GV.out.newtd HB7.out HO7.out).mono (Q' := (fun k => Q k \/ w.heap.size + 5 <= k)) (fun k hk _ => by rcases hk with hk | hk; exact hk; exact .inr (by omega))).set (p := ⟨w.heap.size + 1, 8, none⟩) nqx (.slice D7a xsa.length d7a)
   have gb := (GB.out.trans (HB7.out.mono GB.out.size)).setCell (p := ⟨w.heap.size + 1, 8, none⟩) (by show w0.heap.size <= w.heap.size + 1; omega) (.slice D7a xsa.length d7a)
   have gk := (GK.out.below HB7.out).setCell (p := ⟨w.heap.size + 1, 8, none⟩) (.inr (Nat.le_succ _)) (.slice D7a xsa.length d7a)
   have f1 := zJ F17.out 8 (.slice D7a xsa.length d7a) (cs' := (Va c2.ed A1' c2.st n1' A2' c2.ou n2' A3' c2.tr n3' c2.co c2.us c2.wh c2.fu D7a xsa d7a c2.ov)) rfl
   have f2 := ((jl W7a ⟨w.heap.size + 1, 8, none⟩ (.slice D7a xsa.length d7a) (w.heap.size + 2) (by show w.heap.size + 2 ≠ w.heap.size + 1; omega)).trans (zd F2.out HB7.out))
   have f3 := ((jl W7a ⟨w.heap.size + 1, 8, none⟩ (.slice D7a xsa.length d7a) (w.heap.size + 3) (by show w.heap.size + 3 ≠ w.heap.size + 1; omega)).trans (zd F3.out HB7.out))
   have hl8 : w.heap.size + 5 <= (W7a.setCell ⟨w.heap.size + 1, 8, none⟩ (.slice D7a xsa.length d7a)).heap.size := by have := HB7.out.size; simp; omega
   generalize W7a.setCell ⟨w.heap.size + 1, 8, none⟩ (.slice D7a xsa.length d7a) = W8a at gv gb gk f1 f2 f3 hl8 ⊢
   have GV := am gv
   have GB := am gb
   have GK := am gk
   have F1 := am f1
   have F2 := am f2
   have F3 := am f3
   clear gv gb gk f1 f2 f3 HO7 HB7 F17
   obtain ⟨adv', e_, q0v⟩ := Yk (Kd.F_now (Kd.F_kept HVF.out GK.out (fun _ hk => hk))) (0 : Int) (jq _) (by omega)
   injection e_ with e_
   subst e_
   rw [show (0 : Int).toNat = 0 from rfl, Addr.add_zero'] at q0v
   obtain ⟨c0, c1, c2, c3, c4, c5, c6, c7, c8, c9⟩ := yf F1.out
   have z_q := bq F3.out
   have g_q := bq F3.out
   go_wp2
   exact yO (g := w.heap.size + 3) GV.out (by rw [HC2.out, <- HXSa.out, yL, ja (by rw [H1_.out]; decide), jb H1_.out, jb HZ.out, jb HZ.out]) HM2.out F3.out rfl GB.out GK.out (by omega) (by omega) (fun h => by rcases h with h | h; exact jm (HQ.out _ h) (by omega); omega) (fun k hk => by rcases hk with hk | hk; exact .inl hk; exact .inr (by omega)) rfl rfl rfl rfl
  ·skip
   have hzn : (rd v 0 != 0) = true := bN hz
   have HZ := am hz
   clear hz
   have D0 := am (kdr X0.out)
   have D1 := am (kdr X1.out)
   have D2 := am (kdr X2.out)
   have D3 := am (kdr X3.out)
   have D4 := am (kdr X4.out)
   have DV := am (HV1.out.below (zj (jc _ _)))
   have DB := am (HB1.out.trans ((zj (jc _ _)).mono HB1.out.size))
   have DK := am (HK1.out.below (zj (jc _ _)))
   have hlw : w.heap.size + 5 <= W1.drew.heap.size := by have := HSZ.out; show w.heap.size + 5 <= W1.heap.size; omega
   have QD := am (show W1.drew.cell? adv = some (.int .i64 (rd v 0)) from q0v)
   go_wp2
   clear q0v
   refine sT 10 [0, 1, 2, 3, 4, 5, 6, 7, 8, 9] [8, 9] fun hHeld => ?_
   generalize W1.drew = Y at D0 D1 D2 D3 D4 DV DB DK QD hlw hHeld ⊢
   have hq3_0 := bq D1.out
   have hq3_1 := bq D2.out
   have hq3_2 : World.cell? _ adv = some (.int .i64 (rd v 0)) := QD.out
   repeat first | refine nx ?_ | refine ldT hHeld ?_ | refine un ?_
   refine on fun K hK => ?_
   refine gC Tryz.func80 ?_
   refine (ZG.calls true 1 Y rfl).mono ?_
   rintro en Y1 ⟨rfl, hd⟩
   have hb := hd.below
   have D0 := am (zd D0.out hb)
   have D1 := am (zd D1.out hb)
   have D2 := am (zd D2.out hb)
   have D3 := am (zd D3.out hb)
   have D4 := am (zd D4.out hb)
   have DV := am (DV.out.below hb)
   have DB := am (DB.out.trans (hb.mono DB.out.size))
   have DK := am (DK.out.below hb)
   have QD := am ((hb.cell (jd _ _ QD.out)).trans QD.out)
   replace hlw := Nat.le_trans hlw hb.size
   refine ⟨_, rfl, ?_⟩
   refine hK.out _ _ (kp hHeld) fun hHeld => ?_
   clear hK K
   refine nM ?_
   refine la fun K hK => ?_
   refine gC Tryz.func101 ?_
   refine (z1M.calls w0 Y1 Q _ c 0 m 1 DB.out DV.out (fun k hk => by have := HQ.out k hk; omega) htr).mono ?_
   rintro en W2 ⟨cs2, rfl, hv2, hm2, hb2, hk2⟩
   have nmt : ∀ k, w.heap.size <= k -> ¬ MT (Va c.ed A1 c.st n1 A2 c.ou n2 A3 c.tr n3 c.co c.us c.wh c.fu A8 c.td n8 c.ov) k := fun k h hm => by have := HQ.out _ (MRQ.out _ hm); omega
   have E0 := am ((hk2.2 (w.heap.size) (by omega) (nmt _ (by omega))).trans D0.out)
   have E1 := am ((hk2.2 (w.heap.size + 1) (by omega) (nmt _ (by omega))).trans D1.out)
   have E2 := am ((hk2.2 (w.heap.size + 2) (by omega) (nmt _ (by omega))).trans D2.out)
   have E3 := am ((hk2.2 (w.heap.size + 3) (by omega) (nmt _ (by omega))).trans D3.out)
   have E4 := am ((hk2.2 (w.heap.size + 4) (by omega) (nmt _ (by omega))).trans D4.out)
   obtain ⟨c2, hc2⟩ : ∃ c2 : MC, c2 = mEv 0 m 1 c := ⟨_, rfl⟩
   have HV2 := am (show MR w0 W2 (fun k => Q k \/ w.heap.size + 5 <= k) cs2 c2 by rw [hc2]; exact hv2.mono (fun k hk _ => by rcases hk with hk | hk; exact .inl hk; exact .inr (by omega)))
   have HM2 := am (show ∀ k, MT cs2 k -> MT (Va c.ed A1 c.st n1 A2 c.ou n2 A3 c.tr n3 c.co c.us c.wh c.fu A8 c.td n8 c.ov) k \/ w.heap.size <= k from fun k h => (hm2 k h).imp id (fun h => by omega))
   have HB2 := am hb2
   have HK2 := am (DK.out.then_ hk2 (fun k hk => .inl hk))
   have HC2 := am hc2
   replace hlw := Nat.le_trans hlw hk2.1
   obtain ⟨A1', n1', A2', n2', A3', n3', A8', n8', rfl, hh2⟩ := id HV2.out
   clear hh2 hv2 hm2 hk2 hc2 nmt D0 D1 D2 D3 D4 DV DB DK QD
   refine ⟨_, rfl, ?_⟩
   refine hK.out _ _ ?_
   clear hK K
   refine nM ?_
   refine la fun K hK => ?_
   obtain ⟨y0, y1, y2, y3, y4, y5, y6, y7, y8, y9⟩ := yf E1.out
   have g_q := bq E1.out
   refine ZX (w1 := ?_) (by rfl) rfl ?_ ?_
   rotate_left
   ·go_simp
    rfl
   refine hK.out _ _ ?_
   clear hK K
   refine dn ?_
   have F1 := am (Za (vs := (Vb c2.ed A1' c2.st n1' A2' c2.ou n2' A3' c2.tr n3' c2.co c2.us c2.wh c2.fu A8' c2.td n8' c2.ov)) E1.out rfl)
   have F2 := am ((Zj (vs := (Vb c2.ed A1' c2.st n1' A2' c2.ou n2' A3' c2.tr n3' c2.co c2.us c2.wh c2.fu A8' c2.td n8' c2.ov)) (g := w.heap.size + 1) (w := W2) (k := w.heap.size + 2) (by omega)).trans E2.out)
   have F3 := am ((Zj (vs := (Vb c2.ed A1' c2.st n1' A2' c2.ou n2' A3' c2.tr n3' c2.co c2.us c2.wh c2.fu A8' c2.td n8' c2.ov)) (g := w.heap.size + 1) (w := W2) (k := w.heap.size + 3) (by omega)).trans E3.out)
   have GV := am (HV2.out.fill (g := w.heap.size + 1) (fun h => by rcases h with h | h; exact jm (HQ.out _ h) (by omega); omega) (Vb c2.ed A1' c2.st n1' A2' c2.ou n2' A3' c2.tr n3' c2.co c2.us c2.wh c2.fu A8' c2.td n8' c2.ov))
   have GB := am (Zb (vs := (Vb c2.ed A1' c2.st n1' A2' c2.ou n2' A3' c2.tr n3' c2.co c2.us c2.wh c2.fu A8' c2.td n8' c2.ov)) (g := w.heap.size + 1) HB2.out (by omega))
   have GK := am (yk (vs := (Vb c2.ed A1' c2.st n1' A2' c2.ou n2' A3' c2.tr n3' c2.co c2.us c2.wh c2.fu A8' c2.td n8' c2.ov)) (g := w.heap.size + 1) HK2.out (.inr (Nat.le_succ _)))
   have hl5 : w.heap.size + 5 <= (W2.setCells (w.heap.size + 1) 0 (Vb c2.ed A1' c2.st n1' A2' c2.ou n2' A3' c2.tr n3' c2.co c2.us c2.wh c2.fu A8' c2.td n8' c2.ov)).heap.size := by rw [yM]; exact hlw
   clear y0 g_q y1 y2 y3 y4 y5 y6 y7 y8 y9 E0 E1 E2 E3 E4 HV2 HB2 HK2 hlw
   change Exit.then _ _ _ _ (W2.setCells (w.heap.size + 1) 0 (Vb c2.ed A1' c2.st n1' A2' c2.ou n2' A3' c2.tr n3' c2.co c2.us c2.wh c2.fu A8' c2.td n8' c2.ov))
   generalize W2.setCells (w.heap.size + 1) 0 (Vb c2.ed A1' c2.st n1' A2' c2.ou n2' A3' c2.tr n3' c2.co c2.us c2.wh c2.fu A8' c2.td n8' c2.ov) = W5 at F1 F2 F3 GV GB GK hl5 ⊢
   obtain ⟨i0, i1, i2, i3, i4, i5⟩ := z75 F2.out
   obtain ⟨xsa, hxs⟩ : ∃ xs, Zu cn (m + 1 + cn t) e ++ next = xs := ⟨_, rfl⟩
   have HXSa := am hxs
   clear hxs
   go_upto_region 11 with (first | (go_at_call 102; refine (z7l.calls cn w0 W5 m op n B3 d3 a B4 d4 t B5 d5 e GB.out H4.out L4.out kc HKC.out hct0 hct1 H5.out L5.out hm0 hm1 HGE.out).mono ?_; rintro en W6a ⟨D, d, rfl, ho, hb⟩; have HO6 := am ho; have HB6 := am hb; clear ho hb) | ((with_reducible refine Zq (b := .append) (xs := #[.tmp 54, .tmp 55]) rfl ?_); at_builtin; refine Kd.R_append_rows (YT Y4 w0) (w0 := W5) W5.heap.size rfl (.tmp 54) (.tmp 55) 96 128 (.agg Vq) 96 rfl huL z0h rfl (show 0 < 6 by decide) (by omega) _ (Zu cn (m + 1 + cn t) e) next An next.length nn (fun _ => True) (fun _ => False) rfl rfl HO6.out (Kd.F_now (Kd.F_kept HNF.out (GK.out.below HB6.out) (fun _ hk => hk))) (fun _ _ h => h) (fun _ h => h.elim) (fun _ _ => trivial) HB6.out HB6.out.size (by rw [yj]; have := HGE.out.1; omega) ?_; intro v1 W7a ho hb hg hat; rw [HXSa.out] at ho; obtain ⟨D7a, d7a, ev⟩ := js ho; subst ev; have HO7 := am ho; have HB7 := am hb; have F17 := am (zd F1.out hb); clear ho hb hg hat i0 i1 i2 i3 i4 i5; have y8 := zf F17.out 8; have y9 : W7a.cell? ⟨w.heap.size + 1, 8, none⟩ = some (.slice A8' c2.td.length n8') := (za F17.out 8).trans rfl))
   clear y8 y9
   have nqx : ¬ (Q (w.heap.size + 1) \/ w.heap.size + 5 <= w.heap.size + 1) := (fun h => by rcases h with h | h; exact jm (HQ.out _ h) (by omega); omega)
   have gv := ((GV.out.newtd HB7.out HO7.out).mono (Q' := (fun k => Q k \/ w.heap.size + 5 <= k)) (fun k hk _ => by rcases hk with hk | hk; exact hk; exact .inr (by omega))).set (p := ⟨w.heap.size + 1, 8, none⟩) nqx (.slice D7a xsa.length d7a)
   have gb := (GB.out.trans (HB7.out.mono GB.out.size)).setCell (p := ⟨w.heap.size + 1, 8, none⟩) (by show w0.heap.size <= w.heap.size + 1; omega) (.slice D7a xsa.length d7a)
   have gk := (GK.out.below HB7.out).setCell (p := ⟨w.heap.size + 1, 8, none⟩) (.inr (Nat.le_succ _)) (.slice D7a xsa.length d7a)
   have f1 := zJ F17.out 8 (.slice D7a xsa.length d7a) (cs' := (Va c2.ed A1' c2.st n1' A2' c2.ou n2' A3' c2.tr n3' c2.co c2.us c2.wh c2.fu D7a xsa d7a c2.ov)) rfl
   have f2 := ((jl W7a ⟨w.heap.size + 1, 8, none⟩ (.slice D7a xsa.length d7a) (w.heap.size + 2) (by show w.heap.size + 2 ≠ w.heap.size + 1; omega)).trans (zd F2.out HB7.out))
   have f3 := ((jl W7a ⟨w.heap.size + 1, 8, none⟩ (.slice D7a xsa.length d7a) (w.heap.size + 3) (by show w.heap.size + 3 ≠ w.heap.size + 1; omega)).trans (zd F3.out HB7.out))
   have hl8 : w.heap.size + 5 <= (W7a.setCell ⟨w.heap.size + 1, 8, none⟩ (.slice D7a xsa.length d7a)).heap.size := by have := HB7.out.size; simp; omega
   generalize W7a.setCell ⟨w.heap.size + 1, 8, none⟩ (.slice D7a xsa.length d7a) = W8a at gv gb gk f1 f2 f3 hl8 ⊢
   have GV := am gv
   have GB := am gb
   have GK := am gk
   have F1 := am f1
   have F2 := am f2
   have F3 := am f3
   clear gv gb gk f1 f2 f3 HO7 HB7 F17
   obtain ⟨adv', e_, q0v⟩ := Yk (Kd.F_now (Kd.F_kept HVF.out GK.out (fun _ hk => hk))) (0 : Int) (jq _) (by omega)
   injection e_ with e_
   subst e_
   rw [show (0 : Int).toNat = 0 from rfl, Addr.add_zero'] at q0v
   go_upto_region 12 with (fail)
   clear q0v
   obtain ⟨i0, i1, i2, i3, i4, i5⟩ := z75 F2.out
   obtain ⟨xsb, hxs⟩ : ∃ xs, Zu cn (m + 1) t ++ next = xs := ⟨_, rfl⟩
   have HXSb := am hxs
   clear hxs
   go_upto_region 33 with (first | (go_at_call 103; refine (z5f.calls cn w0 W8a m op n B3 d3 a B4 d4 t B5 d5 e GB.out H4.out L4.out hm0 hm1 HGT.out).mono ?_; rintro en W6b ⟨D, d, rfl, ho, hb⟩; have HO6 := am ho; have HB6 := am hb; clear ho hb) | ((with_reducible refine Zq (b := .append) (xs := #[.tmp 63, .tmp 64]) rfl ?_); at_builtin; refine Kd.R_append_rows (YT Y4 w0) (w0 := W8a) W8a.heap.size rfl (.tmp 63) (.tmp 64) 96 128 (.agg Vq) 96 rfl huL z0h rfl (show 0 < 6 by decide) (by omega) _ (Zu cn (m + 1) t) next An next.length nn (fun _ => True) (fun _ => False) rfl rfl HO6.out (Kd.F_now (Kd.F_kept HNF.out (GK.out.below HB6.out) (fun _ hk => hk))) (fun _ _ h => h) (fun _ h => h.elim) (fun _ _ => trivial) HB6.out HB6.out.size (by rw [yj]; have := HGT.out.1; omega) ?_; intro v1 W7b ho hb hg hat; rw [HXSb.out] at ho; obtain ⟨D7b, d7b, ev⟩ := js ho; subst ev; have HO7 := am ho; have HB7 := am hb; have F17 := am (zd F1.out hb); clear ho hb hg hat i0 i1 i2 i3 i4 i5; have y8 := zf F17.out 8; have y9 : W7b.cell? ⟨w.heap.size + 1, 8, none⟩ = some (.slice D7a xsa.length d7a) := (za F17.out 8).trans rfl))
   clear y8 y9
   have nqx : ¬ (Q (w.heap.size + 1) \/ w.heap.size + 5 <= w.heap.size + 1) := (fun h => by rcases h with h | h; exact jm (HQ.out _ h) (by omega); omega)
   have gv := ((GV.out.newtd HB7.out HO7.out).mono (Q' := (fun k => Q k \/ w.heap.size + 5 <= k)) (fun k hk _ => by rcases hk with hk | hk; exact hk; exact .inr (by omega))).set (p := ⟨w.heap.size + 1, 8, none⟩) nqx (.slice D7b xsb.length d7b)
   have gb := (GB.out.trans (HB7.out.mono GB.out.size)).setCell (p := ⟨w.heap.size + 1, 8, none⟩) (by show w0.heap.size <= w.heap.size + 1; omega) (.slice D7b xsb.length d7b)
   have gk := (GK.out.below HB7.out).setCell (p := ⟨w.heap.size + 1, 8, none⟩) (.inr (Nat.le_succ _)) (.slice D7b xsb.length d7b)
   have f1 := zJ F17.out 8 (.slice D7b xsb.length d7b) (cs' := (Va c2.ed A1' c2.st n1' A2' c2.ou n2' A3' c2.tr n3' c2.co c2.us c2.wh c2.fu D7b xsb d7b c2.ov)) rfl
   have f2 := ((jl W7b ⟨w.heap.size + 1, 8, none⟩ (.slice D7b xsb.length d7b) (w.heap.size + 2) (by show w.heap.size + 2 ≠ w.heap.size + 1; omega)).trans (zd F2.out HB7.out))
   have f3 := ((jl W7b ⟨w.heap.size + 1, 8, none⟩ (.slice D7b xsb.length d7b) (w.heap.size + 3) (by show w.heap.size + 3 ≠ w.heap.size + 1; omega)).trans (zd F3.out HB7.out))
   have hl8 : w.heap.size + 5 <= (W7b.setCell ⟨w.heap.size + 1, 8, none⟩ (.slice D7b xsb.length d7b)).heap.size := by have := HB7.out.size; simp; omega
   generalize W7b.setCell ⟨w.heap.size + 1, 8, none⟩ (.slice D7b xsb.length d7b) = W8b at gv gb gk f1 f2 f3 hl8 ⊢
   have GV := am gv
   have GB := am gb
   have GK := am gk
   have F1 := am f1
   have F2 := am f2
   have F3 := am f3
   clear gv gb gk f1 f2 f3 HO7 HB7 F17
   obtain ⟨c0, c1, c2, c3, c4, c5, c6, c7, c8, c9⟩ := yf F1.out
   have z_q := bq F3.out
   have g_q := bq F3.out
   go_wp2
   exact yO (g := w.heap.size + 3) GV.out (by rw [HC2.out, <- HXSb.out, yL, ja (by rw [H1_.out]; decide), jb H1_.out, ja HZ.out, ja HZ.out]) HM2.out F3.out rfl GB.out GK.out (by omega) (by omega) (fun h => by rcases h with h | h; exact jm (HQ.out _ h) (by omega); omega) (fun k hk => by rcases hk with hk | hk; exact .inl hk; exact .inr (by omega)) rfl rfl rfl rfl
 have e1 := (beq_eq_false_iff_ne (a := op)).mpr h1
 by_cases h2 : op = 2
 ·have e2 : (op == 2) = true := bT h2
  have H2_ := am h2
  clear h2
  obtain ⟨hvp, hgt, hge, ⟨kc, hkc⟩, hct0, hct1⟩ := HF1.out (by rw [H2_.out]; simp)
  have HGT := am hgt
  have HGE := am hge
  have HKC := am hkc
  clear hgt hge hkc
  obtain ⟨adv, e_, q0v⟩ := Yk (Kd.F_now (Kd.F_kept HVF.out HK1.out (fun _ hk => hk))) (0 : Int) (jq _) (by omega)
  subst e_
  rw [show (0 : Int).toNat = 0 from rfl, Addr.add_zero'] at q0v
  have hvp0 : (0 : Int) < (v.length : Int) := by omega
  by_cases hz : rd v 0 = 0
  ·skip
   have hzn : (rd v 0 != 0) = false := bQ hz
   have HZ := am hz
   clear hz
   have D0 := am (kdr X0.out)
   have D1 := am (kdr X1.out)
   have D2 := am (kdr X2.out)
   have D3 := am (kdr X3.out)
   have D4 := am (kdr X4.out)
   have DV := am (HV1.out.below (zj (jc _ _)))
   have DB := am (HB1.out.trans ((zj (jc _ _)).mono HB1.out.size))
   have DK := am (HK1.out.below (zj (jc _ _)))
   have hlw : w.heap.size + 5 <= W1.drew.heap.size := by have := HSZ.out; show w.heap.size + 5 <= W1.heap.size; omega
   have QD := am (show W1.drew.cell? adv = some (.int .i64 (rd v 0)) from q0v)
   go_wp2
   clear q0v
   refine sT 10 [0, 1, 2, 3, 4, 5, 6, 7, 8, 9] [8, 9] fun hHeld => ?_
   generalize W1.drew = Y at D0 D1 D2 D3 D4 DV DB DK QD hlw hHeld ⊢
   have hq4_0 := bq D1.out
   have hq4_1 := bq D2.out
   have hq4_2 : World.cell? _ adv = some (.int .i64 (rd v 0)) := QD.out
   repeat first | refine nx ?_ | refine ldT hHeld ?_ | refine un ?_
   refine on fun K hK => ?_
   refine gC Tryz.func80 ?_
   refine (ZG.calls false 0 Y rfl).mono ?_
   rintro en Y1 ⟨rfl, hd⟩
   have hb := hd.below
   have D0 := am (zd D0.out hb)
   have D1 := am (zd D1.out hb)
   have D2 := am (zd D2.out hb)
   have D3 := am (zd D3.out hb)
   have D4 := am (zd D4.out hb)
   have DV := am (DV.out.below hb)
   have DB := am (DB.out.trans (hb.mono DB.out.size))
   have DK := am (DK.out.below hb)
   have QD := am ((hb.cell (jd _ _ QD.out)).trans QD.out)
   replace hlw := Nat.le_trans hlw hb.size
   refine ⟨_, rfl, ?_⟩
   refine hK.out _ _ (kp hHeld) fun hHeld => ?_
   clear hK K
   refine nM ?_
   refine la fun K hK => ?_
   refine gC Tryz.func101 ?_
   refine (z1M.calls w0 Y1 Q _ c 0 m 0 DB.out DV.out (fun k hk => by have := HQ.out k hk; omega) htr).mono ?_
   rintro en W2 ⟨cs2, rfl, hv2, hm2, hb2, hk2⟩
   have nmt : ∀ k, w.heap.size <= k -> ¬ MT (Va c.ed A1 c.st n1 A2 c.ou n2 A3 c.tr n3 c.co c.us c.wh c.fu A8 c.td n8 c.ov) k := fun k h hm => by have := HQ.out _ (MRQ.out _ hm); omega
   have E0 := am ((hk2.2 (w.heap.size) (by omega) (nmt _ (by omega))).trans D0.out)
   have E1 := am ((hk2.2 (w.heap.size + 1) (by omega) (nmt _ (by omega))).trans D1.out)
   have E2 := am ((hk2.2 (w.heap.size + 2) (by omega) (nmt _ (by omega))).trans D2.out)
   have E3 := am ((hk2.2 (w.heap.size + 3) (by omega) (nmt _ (by omega))).trans D3.out)
   have E4 := am ((hk2.2 (w.heap.size + 4) (by omega) (nmt _ (by omega))).trans D4.out)
   obtain ⟨c2, hc2⟩ : ∃ c2 : MC, c2 = mEv 0 m 0 c := ⟨_, rfl⟩
   have HV2 := am (show MR w0 W2 (fun k => Q k \/ w.heap.size + 5 <= k) cs2 c2 by rw [hc2]; exact hv2.mono (fun k hk _ => by rcases hk with hk | hk; exact .inl hk; exact .inr (by omega)))
   have HM2 := am (show ∀ k, MT cs2 k -> MT (Va c.ed A1 c.st n1 A2 c.ou n2 A3 c.tr n3 c.co c.us c.wh c.fu A8 c.td n8 c.ov) k \/ w.heap.size <= k from fun k h => (hm2 k h).imp id (fun h => by omega))
   have HB2 := am hb2
   have HK2 := am (DK.out.then_ hk2 (fun k hk => .inl hk))
   have HC2 := am hc2
   replace hlw := Nat.le_trans hlw hk2.1
   obtain ⟨A1', n1', A2', n2', A3', n3', A8', n8', rfl, hh2⟩ := id HV2.out
   clear hh2 hv2 hm2 hk2 hc2 nmt D0 D1 D2 D3 D4 DV DB DK QD
   refine ⟨_, rfl, ?_⟩
   refine hK.out _ _ ?_
   clear hK K
   refine nM ?_
   refine la fun K hK => ?_
   obtain ⟨y0, y1, y2, y3, y4, y5, y6, y7, y8, y9⟩ := yf E1.out
   have g_q := bq E1.out
   refine ZX (w1 := ?_) (by rfl) rfl ?_ ?_
   rotate_left
   ·go_simp
    rfl
   refine hK.out _ _ ?_
   clear hK K
   refine dn ?_
   have F1 := am (Za (vs := (Vb c2.ed A1' c2.st n1' A2' c2.ou n2' A3' c2.tr n3' c2.co c2.us c2.wh c2.fu A8' c2.td n8' c2.ov)) E1.out rfl)
   have F2 := am ((Zj (vs := (Vb c2.ed A1' c2.st n1' A2' c2.ou n2' A3' c2.tr n3' c2.co c2.us c2.wh c2.fu A8' c2.td n8' c2.ov)) (g := w.heap.size + 1) (w := W2) (k := w.heap.size + 2) (by omega)).trans E2.out)
   have F3 := am ((Zj (vs := (Vb c2.ed A1' c2.st n1' A2' c2.ou n2' A3' c2.tr n3' c2.co c2.us c2.wh c2.fu A8' c2.td n8' c2.ov)) (g := w.heap.size + 1) (w := W2) (k := w.heap.size + 3) (by omega)).trans E3.out)
   have GV := am (HV2.out.fill (g := w.heap.size + 1) (fun h => by rcases h with h | h; exact jm (HQ.out _ h) (by omega); omega) (Vb c2.ed A1' c2.st n1' A2' c2.ou n2' A3' c2.tr n3' c2.co c2.us c2.wh c2.fu A8' c2.td n8' c2.ov))
   have GB := am (Zb (vs := (Vb c2.ed A1' c2.st n1' A2' c2.ou n2' A3' c2.tr n3' c2.co c2.us c2.wh c2.fu A8' c2.td n8' c2.ov)) (g := w.heap.size + 1) HB2.out (by omega))
   have GK := am (yk (vs := (Vb c2.ed A1' c2.st n1' A2' c2.ou n2' A3' c2.tr n3' c2.co c2.us c2.wh c2.fu A8' c2.td n8' c2.ov)) (g := w.heap.size + 1) HK2.out (.inr (Nat.le_succ _)))
   have hl5 : w.heap.size + 5 <= (W2.setCells (w.heap.size + 1) 0 (Vb c2.ed A1' c2.st n1' A2' c2.ou n2' A3' c2.tr n3' c2.co c2.us c2.wh c2.fu A8' c2.td n8' c2.ov)).heap.size := by rw [yM]; exact hlw
   clear y0 g_q y1 y2 y3 y4 y5 y6 y7 y8 y9 E0 E1 E2 E3 E4 HV2 HB2 HK2 hlw
   change Exit.then _ _ _ _ (W2.setCells (w.heap.size + 1) 0 (Vb c2.ed A1' c2.st n1' A2' c2.ou n2' A3' c2.tr n3' c2.co c2.us c2.wh c2.fu A8' c2.td n8' c2.ov))
   generalize W2.setCells (w.heap.size + 1) 0 (Vb c2.ed A1' c2.st n1' A2' c2.ou n2' A3' c2.tr n3' c2.co c2.us c2.wh c2.fu A8' c2.td n8' c2.ov) = W5 at F1 F2 F3 GV GB GK hl5 ⊢
   obtain ⟨adv', e_, q0v⟩ := Yk (Kd.F_now (Kd.F_kept HVF.out GK.out (fun _ hk => hk))) (0 : Int) (jq _) (by omega)
   injection e_ with e_
   subst e_
   rw [show (0 : Int).toNat = 0 from rfl, Addr.add_zero'] at q0v
   obtain ⟨c0, c1, c2, c3, c4, c5, c6, c7, c8, c9⟩ := yf F1.out
   have z_q := bq F3.out
   have g_q := bq F3.out
   go_wp2
   exact yO (g := w.heap.size + 3) GV.out (by rw [HC2.out, yL, ja (by rw [H2_.out]; decide), ja (by rw [H2_.out]; decide), jb H2_.out, jb HZ.out]) HM2.out F3.out rfl GB.out GK.out (by omega) (by omega) (fun h => by rcases h with h | h; exact jm (HQ.out _ h) (by omega); omega) (fun k hk => by rcases hk with hk | hk; exact .inl hk; exact .inr (by omega)) rfl rfl rfl rfl
  ·skip
   have hzn : (rd v 0 != 0) = true := bN hz
   have HZ := am hz
   clear hz
   have D0 := am (kdr X0.out)
   have D1 := am (kdr X1.out)
   have D2 := am (kdr X2.out)
   have D3 := am (kdr X3.out)
   have D4 := am (kdr X4.out)
   have DV := am (HV1.out.below (zj (jc _ _)))
   have DB := am (HB1.out.trans ((zj (jc _ _)).mono HB1.out.size))
   have DK := am (HK1.out.below (zj (jc _ _)))
   have hlw : w.heap.size + 5 <= W1.drew.heap.size := by have := HSZ.out; show w.heap.size + 5 <= W1.heap.size; omega
   have QD := am (show W1.drew.cell? adv = some (.int .i64 (rd v 0)) from q0v)
   go_wp2
   clear q0v
   refine sT 10 [0, 1, 2, 3, 4, 5, 6, 7, 8, 9] [8, 9] fun hHeld => ?_
   generalize W1.drew = Y at D0 D1 D2 D3 D4 DV DB DK QD hlw hHeld ⊢
   have hq5_0 := bq D1.out
   have hq5_1 := bq D2.out
   have hq5_2 : World.cell? _ adv = some (.int .i64 (rd v 0)) := QD.out
   repeat first | refine nx ?_ | refine ldT hHeld ?_ | refine un ?_
   refine on fun K hK => ?_
   refine gC Tryz.func80 ?_
   refine (ZG.calls true 1 Y rfl).mono ?_
   rintro en Y1 ⟨rfl, hd⟩
   have hb := hd.below
   have D0 := am (zd D0.out hb)
   have D1 := am (zd D1.out hb)
   have D2 := am (zd D2.out hb)
   have D3 := am (zd D3.out hb)
   have D4 := am (zd D4.out hb)
   have DV := am (DV.out.below hb)
   have DB := am (DB.out.trans (hb.mono DB.out.size))
   have DK := am (DK.out.below hb)
   have QD := am ((hb.cell (jd _ _ QD.out)).trans QD.out)
   replace hlw := Nat.le_trans hlw hb.size
   refine ⟨_, rfl, ?_⟩
   refine hK.out _ _ (kp hHeld) fun hHeld => ?_
   clear hK K
   refine nM ?_
   refine la fun K hK => ?_
   refine gC Tryz.func101 ?_
   refine (z1M.calls w0 Y1 Q _ c 0 m 1 DB.out DV.out (fun k hk => by have := HQ.out k hk; omega) htr).mono ?_
   rintro en W2 ⟨cs2, rfl, hv2, hm2, hb2, hk2⟩
   have nmt : ∀ k, w.heap.size <= k -> ¬ MT (Va c.ed A1 c.st n1 A2 c.ou n2 A3 c.tr n3 c.co c.us c.wh c.fu A8 c.td n8 c.ov) k := fun k h hm => by have := HQ.out _ (MRQ.out _ hm); omega
   have E0 := am ((hk2.2 (w.heap.size) (by omega) (nmt _ (by omega))).trans D0.out)
   have E1 := am ((hk2.2 (w.heap.size + 1) (by omega) (nmt _ (by omega))).trans D1.out)
   have E2 := am ((hk2.2 (w.heap.size + 2) (by omega) (nmt _ (by omega))).trans D2.out)
   have E3 := am ((hk2.2 (w.heap.size + 3) (by omega) (nmt _ (by omega))).trans D3.out)
   have E4 := am ((hk2.2 (w.heap.size + 4) (by omega) (nmt _ (by omega))).trans D4.out)
   obtain ⟨c2, hc2⟩ : ∃ c2 : MC, c2 = mEv 0 m 1 c := ⟨_, rfl⟩
   have HV2 := am (show MR w0 W2 (fun k => Q k \/ w.heap.size + 5 <= k) cs2 c2 by rw [hc2]; exact hv2.mono (fun k hk _ => by rcases hk with hk | hk; exact .inl hk; exact .inr (by omega)))
   have HM2 := am (show ∀ k, MT cs2 k -> MT (Va c.ed A1 c.st n1 A2 c.ou n2 A3 c.tr n3 c.co c.us c.wh c.fu A8 c.td n8 c.ov) k \/ w.heap.size <= k from fun k h => (hm2 k h).imp id (fun h => by omega))
   have HB2 := am hb2
   have HK2 := am (DK.out.then_ hk2 (fun k hk => .inl hk))
   have HC2 := am hc2
   replace hlw := Nat.le_trans hlw hk2.1
   obtain ⟨A1', n1', A2', n2', A3', n3', A8', n8', rfl, hh2⟩ := id HV2.out
   clear hh2 hv2 hm2 hk2 hc2 nmt D0 D1 D2 D3 D4 DV DB DK QD
   refine ⟨_, rfl, ?_⟩
   refine hK.out _ _ ?_
   clear hK K
   refine nM ?_
   refine la fun K hK => ?_
   obtain ⟨y0, y1, y2, y3, y4, y5, y6, y7, y8, y9⟩ := yf E1.out
   have g_q := bq E1.out
   refine ZX (w1 := ?_) (by rfl) rfl ?_ ?_
   rotate_left
   ·go_simp
    rfl
   refine hK.out _ _ ?_
   clear hK K
   refine dn ?_
   have F1 := am (Za (vs := (Vb c2.ed A1' c2.st n1' A2' c2.ou n2' A3' c2.tr n3' c2.co c2.us c2.wh c2.fu A8' c2.td n8' c2.ov)) E1.out rfl)
   have F2 := am ((Zj (vs := (Vb c2.ed A1' c2.st n1' A2' c2.ou n2' A3' c2.tr n3' c2.co c2.us c2.wh c2.fu A8' c2.td n8' c2.ov)) (g := w.heap.size + 1) (w := W2) (k := w.heap.size + 2) (by omega)).trans E2.out)
   have F3 := am ((Zj (vs := (Vb c2.ed A1' c2.st n1' A2' c2.ou n2' A3' c2.tr n3' c2.co c2.us c2.wh c2.fu A8' c2.td n8' c2.ov)) (g := w.heap.size + 1) (w := W2) (k := w.heap.size + 3) (by omega)).trans E3.out)
   have GV := am (HV2.out.fill (g := w.heap.size + 1) (fun h => by rcases h with h | h; exact jm (HQ.out _ h) (by omega); omega) (Vb c2.ed A1' c2.st n1' A2' c2.ou n2' A3' c2.tr n3' c2.co c2.us c2.wh c2.fu A8' c2.td n8' c2.ov))
   have GB := am (Zb (vs := (Vb c2.ed A1' c2.st n1' A2' c2.ou n2' A3' c2.tr n3' c2.co c2.us c2.wh c2.fu A8' c2.td n8' c2.ov)) (g := w.heap.size + 1) HB2.out (by omega))
   have GK := am (yk (vs := (Vb c2.ed A1' c2.st n1' A2' c2.ou n2' A3' c2.tr n3' c2.co c2.us c2.wh c2.fu A8' c2.td n8' c2.ov)) (g := w.heap.size + 1) HK2.out (.inr (Nat.le_succ _)))
   have hl5 : w.heap.size + 5 <= (W2.setCells (w.heap.size + 1) 0 (Vb c2.ed A1' c2.st n1' A2' c2.ou n2' A3' c2.tr n3' c2.co c2.us c2.wh c2.fu A8' c2.td n8' c2.ov)).heap.size := by rw [yM]; exact hlw
   clear y0 g_q y1 y2 y3 y4 y5 y6 y7 y8 y9 E0 E1 E2 E3 E4 HV2 HB2 HK2 hlw
   change Exit.then _ _ _ _ (W2.setCells (w.heap.size + 1) 0 (Vb c2.ed A1' c2.st n1' A2' c2.ou n2' A3' c2.tr n3' c2.co c2.us c2.wh c2.fu A8' c2.td n8' c2.ov))
   generalize W2.setCells (w.heap.size + 1) 0 (Vb c2.ed A1' c2.st n1' A2' c2.ou n2' A3' c2.tr n3' c2.co c2.us c2.wh c2.fu A8' c2.td n8' c2.ov) = W5 at F1 F2 F3 GV GB GK hl5 ⊢
   obtain ⟨adv', e_, q0v⟩ := Yk (Kd.F_now (Kd.F_kept HVF.out GK.out (fun _ hk => hk))) (0 : Int) (jq _) (by omega)
   injection e_ with e_
   subst e_
   rw [show (0 : Int).toNat = 0 from rfl, Addr.add_zero'] at q0v
   go_upto_region 16 with (fail)
   clear q0v
   obtain ⟨xsa, hxs⟩ : ∃ xs, (Zu cn (m + 1) t ++ [(⟨m, ⟨op, n, a, t, e⟩⟩ : ZT)]) ++ next = xs := ⟨_, rfl⟩
   have HXSa := am hxs
   have hSK : Y4.K w0 (⟨m, ⟨op, n, a, t, e⟩⟩ : ZT) (Vbq m op n B3 a d3 B4 t d4 B5 e d5) := z5U w0 (⟨m, ⟨op, n, a, t, e⟩⟩ : ZT) L3.out H3.out L4.out H4.out L5.out H5.out
   have HSK := am hSK
   clear hxs hSK
   have GV := am (GV.out.below (zj (jc _ _)))
   have GB := am (GB.out.trans ((zj (jc _ _)).mono GB.out.size))
   have GK := am (GK.out.below (zj (jc _ _)))
   have F1 := am (kdr F1.out)
   have F2 := am (kdr F2.out)
   have F3 := am (kdr F3.out)
   replace hl5 : w.heap.size + 5 <= W5.drew.heap.size := hl5
   refine z20 (n := 9) (S := fun w' => w'.cell? ⟨w.heap.size + 2, 0, none⟩ = some (.int .i64 m) /\ w'.cell? ⟨w.heap.size + 2, 1, none⟩ = some (.int .i64 op) /\ w'.cell? ⟨w.heap.size + 2, 2, none⟩ = some (.int .i64 n) /\ w'.cell? ⟨w.heap.size + 2, 3, none⟩ = some (.slice B3 a.length d3) /\ w'.cell? ⟨w.heap.size + 2, 4, none⟩ = some (.slice B4 t.length d4) /\ w'.cell? ⟨w.heap.size + 2, 5, none⟩ = some (.slice B5 e.length d5)) (ds := [4, 6, 8]) #[false, false, false, false, false, false, false, false, false] (by kernel_rfl) rfl rfl ⟨(za F2.out 0).trans rfl, (za F2.out 1).trans rfl, (za F2.out 2).trans rfl, (za F2.out 3).trans rfl, (za F2.out 4).trans rfl, (za F2.out 5).trans rfl⟩ (fun hHeld => ?_)
   generalize W5.drew = Y at F1 F2 F3 GV GB GK hl5 hHeld ⊢
   refine tk (i := 0) (N := some 82) (bl 9 1) rfl rfl (by kernel_rfl) hHeld ?_
   refine tk (i := 2) (N := some 84) (bl 9 5) rfl rfl (by kernel_rfl) hHeld ?_
   refine pu (i := 5) (N := some 87) (bl 9 37) rfl rfl (by kernel_rfl) ?_
   refine two_ (i := 1) (j := 3) (Ni := some 83) (Nj := some 85) #[true, true, true, false, false, true, false, false, false] #[true, false, true, true, false, true, false, false, false] rfl rfl rfl rfl (by kernel_rfl) (by decide) (by decide) (fun K hK => ?_) (fun K hK => ?_)
   ·skip
    refine gC Tryz.func103 ?_
    refine (z5f.calls cn w0 Y m op n B3 d3 a B4 d4 t B5 d5 e GB.out H4.out L4.out hm0 hm1 HGT.out).mono ?_
    rintro en W6 ⟨D, d, rfl, ho, hb⟩
    have HO6 := am ho
    have HB6 := am hb
    have F26 := am (zd F2.out hb)
    clear ho hb
    refine ⟨_, rfl, ?_⟩
    refine hK.out _ _ ⟨(za F26.out 0).trans rfl, (za F26.out 1).trans rfl, (za F26.out 2).trans rfl, (za F26.out 3).trans rfl, (za F26.out 4).trans rfl, (za F26.out 5).trans rfl⟩ (fun hHeld => ?_)
    clear hK K
    refine nm 83 ?_
    refine z2T (i := 3) (N := (some 85)) (bl 9 47) rfl rfl (by kernel_rfl) (by decide) (fun K hK => ?_)
    refine z1m (w1 := ?_) (v := ?_) (by rfl) rfl ?_ ?_
    rotate_left 2
    ·go_simp
     constructor
     ·rfl
     ·rfl
    have HL := am (zI W6 (.cells (Vj m op n B3 a d3 B4 t d4 B5 e d5) 128))
    have HO6 := am (Kd.R_below HO6.out (bal (jc _ _) (.cells (Vj m op n B3 a d3 B4 t d4 B5 e d5) 128)))
    have HB6 := am (HB6.out.trans ((bal (jc _ _) (.cells (Vj m op n B3 a d3 B4 t d4 B5 e d5) 128)).mono HB6.out.size))
    have F26 := am (kal F26.out (.cells (Vj m op n B3 a d3 B4 t d4 B5 e d5) 128))
    refine hK.out _ _ ⟨(za F26.out 0).trans rfl, (za F26.out 1).trans rfl, (za F26.out 2).trans rfl, (za F26.out 3).trans rfl, (za F26.out 4).trans rfl, (za F26.out 5).trans rfl⟩ (fun hHeld => ?_)
    clear hK K
    refine nm 85 ?_
    refine z1h (i := 4) (N := (some 86)) (bl 9 63) rfl rfl (by kernel_rfl) (by decide) (fun K hK => ?_)
    refine Kd.R_append_rows_step (YT Y4 w0) (w0 := Y) Y.heap.size (by rfl) (.tmp 83) (.tmp 85) 96 128 (.agg Vq) 96 rfl huL z0h rfl (show 0 < 6 by decide) (by omega) (.slice D (Zu cn (m + 1) t).length d) (Zu cn (m + 1) t) [(⟨m, ⟨op, n, a, t, e⟩⟩ : ZT)] (some ⟨W6.heap.size, 0, none⟩) 1 1 (fun _ => True) (fun _ => False) rfl rfl HO6.out (z5K HL.out HSK.out) (fun _ _ h => h) (fun _ h => h.elim) (fun _ _ => trivial) HB6.out HB6.out.size (by rw [yj]; have := HGT.out.1; omega) ?_
    intro v1 W9 ho hb hg hat
    obtain ⟨D9, d9, rfl⟩ := js ho
    have HO9 := am ho
    have HB9 := am hb
    clear ho hb hg hat
    refine hK.out _ _ ?_
    clear hK K
    refine nm 86 ?_
    refine z1h (i := 6) (N := (some 88)) (bl 9 127) rfl rfl (by kernel_rfl) (by decide) (fun K hK => ?_)
    refine Kd.R_append_rows_step (YT Y4 w0) (w0 := Y) Y.heap.size (by rfl) (.tmp 86) (.tmp 87) 96 128 (.agg Vq) 96 rfl huL z0h rfl (show 0 < 6 by decide) (by omega) (.slice D9 (Zu cn (m + 1) t ++ [(⟨m, ⟨op, n, a, t, e⟩⟩ : ZT)]).length d9) (Zu cn (m + 1) t ++ [(⟨m, ⟨op, n, a, t, e⟩⟩ : ZT)]) next An next.length nn (fun _ => True) (fun _ => False) rfl rfl HO9.out (Kd.F_now (Kd.F_kept HNF.out (GK.out.below HB9.out) (fun _ hk => hk))) (fun _ _ h => h) (fun _ h => h.elim) (fun _ _ => trivial) HB9.out HB9.out.size (by rw [je, yj, List.length_singleton]; have := HGT.out.1; omega) ?_
    intro v1 W7a ho hb hg hat
    rw [HXSa.out] at ho
    obtain ⟨D7a, d7a, ev⟩ := js ho
    subst ev
    have HO7 := am ho
    have HB7 := am hb
    have F17 := am (zd F1.out hb)
    clear ho hb hg hat
    refine hK.out _ _ ?_
    clear hK K
    refine nm 88 ?_
    refine pu (i := 7) (N := some 89) (bl 9 255) rfl rfl (by kernel_rfl) ?_
    refine z1h (i := 8) (N := none) (bl 9 511) rfl rfl (by kernel_rfl) (by decide) (fun K hK => ?_)
    have y8 := zf F17.out 8
    have y9 : W7a.cell? ⟨w.heap.size + 1, 8, none⟩ = some (.slice A8' c2.td.length n8') := (za F17.out 8).trans rfl
    refine ZX (w1 := ?_) (by rfl) rfl ?_ ?_
    rotate_left
    ·go_simp
     rfl
    refine hK.out _ _ ?_
    clear hK K
    refine z38 (by kernel_rfl) ?_
    clear y8 y9
    have nqx : ¬ (Q (w.heap.size + 1) \/ w.heap.size + 5 <= w.heap.size + 1) := (fun h => by rcases h with h | h; exact jm (HQ.out _ h) (by omega); omega)
    have gv := ((GV.out.newtd HB7.out HO7.out).mono (Q' := (fun k => Q k \/ w.heap.size + 5 <= k)) (fun k hk _ => by rcases hk with hk | hk; exact hk; exact .inr (by omega))).set (p := ⟨w.heap.size + 1, 8, none⟩) nqx (.slice D7a xsa.length d7a)
    have gb := (GB.out.trans (HB7.out.mono GB.out.size)).setCell (p := ⟨w.heap.size + 1, 8, none⟩) (by show w0.heap.size <= w.heap.size + 1; omega) (.slice D7a xsa.length d7a)
    have gk := (GK.out.below HB7.out).setCell (p := ⟨w.heap.size + 1, 8, none⟩) (.inr (Nat.le_succ _)) (.slice D7a xsa.length d7a)
    have f1 := zJ F17.out 8 (.slice D7a xsa.length d7a) (cs' := (Va c2.ed A1' c2.st n1' A2' c2.ou n2' A3' c2.tr n3' c2.co c2.us c2.wh c2.fu D7a xsa d7a c2.ov)) rfl
    have f2 := ((jl W7a ⟨w.heap.size + 1, 8, none⟩ (.slice D7a xsa.length d7a) (w.heap.size + 2) (by show w.heap.size + 2 ≠ w.heap.size + 1; omega)).trans (zd F2.out HB7.out))
    have f3 := ((jl W7a ⟨w.heap.size + 1, 8, none⟩ (.slice D7a xsa.length d7a) (w.heap.size + 3) (by show w.heap.size + 3 ≠ w.heap.size + 1; omega)).trans (zd F3.out HB7.out))
    have hl8 : w.heap.size + 5 <= (W7a.setCell ⟨w.heap.size + 1, 8, none⟩ (.slice D7a xsa.length d7a)).heap.size := by have := HB7.out.size; simp; omega
    generalize W7a.setCell ⟨w.heap.size + 1, 8, none⟩ (.slice D7a xsa.length d7a) = W8a at gv gb gk f1 f2 f3 hl8 ⊢
    have GV := am gv
    have GB := am gb
    have GK := am gk
    have F1 := am f1
    have F2 := am f2
    have F3 := am f3
    clear gv gb gk f1 f2 f3 HO7 HB7 F17
    obtain ⟨c0, c1, c2, c3, c4, c5, c6, c7, c8, c9⟩ := yf F1.out
    have z_q := bq F3.out
    have g_q := bq F3.out
    go_wp2
    exact yO (g := w.heap.size + 3) GV.out (by rw [HC2.out, <- HXSa.out, yL, ja (by rw [H2_.out]; decide), ja (by rw [H2_.out]; decide), jb H2_.out, ja HZ.out]) HM2.out F3.out rfl GB.out GK.out (by omega) (by omega) (fun h => by rcases h with h | h; exact jm (HQ.out _ h) (by omega); omega) (fun k hk => by rcases hk with hk | hk; exact .inl hk; exact .inr (by omega)) rfl rfl rfl rfl
   ·skip
    refine z1m (w1 := ?_) (v := ?_) (by rfl) rfl ?_ ?_
    rotate_left 2
    ·go_simp
     constructor
     ·rfl
     ·rfl
    have HL := am (zI Y (.cells (Vj m op n B3 a d3 B4 t d4 B5 e d5) 128))
    have F26 := am (kal F2.out (.cells (Vj m op n B3 a d3 B4 t d4 B5 e d5) 128))
    have ba := bal (jc Y.heap.size Y) (.cells (Vj m op n B3 a d3 B4 t d4 B5 e d5) 128)
    refine hK.out _ _ ⟨(za F26.out 0).trans rfl, (za F26.out 1).trans rfl, (za F26.out 2).trans rfl, (za F26.out 3).trans rfl, (za F26.out 4).trans rfl, (za F26.out 5).trans rfl⟩ (fun hHeld => ?_)
    clear hK K
    refine nm 85 ?_
    refine z2T (i := 1) (N := (some 83)) (bl 9 47) rfl rfl (by kernel_rfl) (by decide) (fun K hK => ?_)
    refine gC Tryz.func103 ?_
    refine (z5f.calls cn w0 _ m op n B3 d3 a B4 d4 t B5 d5 e (GB.out.trans (ba.mono GB.out.size)) H4.out L4.out hm0 hm1 HGT.out).mono ?_
    rintro en W6 ⟨D, d, rfl, ho, hb⟩
    have HO6 := am (Kd.R_lower ho ba.size)
    have HB6 := am (ba.trans (hb.mono ba.size))
    have F26 := am (zd F26.out hb)
    have HL := am (zd HL.out hb)
    clear ho hb ba
    refine ⟨_, rfl, ?_⟩
    refine hK.out _ _ ⟨(za F26.out 0).trans rfl, (za F26.out 1).trans rfl, (za F26.out 2).trans rfl, (za F26.out 3).trans rfl, (za F26.out 4).trans rfl, (za F26.out 5).trans rfl⟩ (fun hHeld => ?_)
    clear hK K
    refine nm 83 ?_
    refine z1h (i := 4) (N := (some 86)) (bl 9 63) rfl rfl (by kernel_rfl) (by decide) (fun K hK => ?_)
    refine Kd.R_append_rows_step (YT Y4 w0) (w0 := Y) Y.heap.size (by rfl) (.tmp 83) (.tmp 85) 96 128 (.agg Vq) 96 rfl huL z0h rfl (show 0 < 6 by decide) (by omega) (.slice D (Zu cn (m + 1) t).length d) (Zu cn (m + 1) t) [(⟨m, ⟨op, n, a, t, e⟩⟩ : ZT)] (some ⟨Y.heap.size, 0, none⟩) 1 1 (fun _ => True) (fun _ => False) rfl rfl HO6.out (z5K HL.out HSK.out) (fun _ _ h => h) (fun _ h => h.elim) (fun _ _ => trivial) HB6.out HB6.out.size (by rw [yj]; have := HGT.out.1; omega) ?_
    intro v1 W9 ho hb hg hat
    obtain ⟨D9, d9, rfl⟩ := js ho
    have HO9 := am ho
    have HB9 := am hb
    clear ho hb hg hat
    refine hK.out _ _ ?_
    clear hK K
    refine nm 86 ?_
    refine z1h (i := 6) (N := (some 88)) (bl 9 127) rfl rfl (by kernel_rfl) (by decide) (fun K hK => ?_)
    refine Kd.R_append_rows_step (YT Y4 w0) (w0 := Y) Y.heap.size (by rfl) (.tmp 86) (.tmp 87) 96 128 (.agg Vq) 96 rfl huL z0h rfl (show 0 < 6 by decide) (by omega) (.slice D9 (Zu cn (m + 1) t ++ [(⟨m, ⟨op, n, a, t, e⟩⟩ : ZT)]).length d9) (Zu cn (m + 1) t ++ [(⟨m, ⟨op, n, a, t, e⟩⟩ : ZT)]) next An next.length nn (fun _ => True) (fun _ => False) rfl rfl HO9.out (Kd.F_now (Kd.F_kept HNF.out (GK.out.below HB9.out) (fun _ hk => hk))) (fun _ _ h => h) (fun _ h => h.elim) (fun _ _ => trivial) HB9.out HB9.out.size (by rw [je, yj, List.length_singleton]; have := HGT.out.1; omega) ?_
    intro v1 W7a ho hb hg hat
    rw [HXSa.out] at ho
    obtain ⟨D7a, d7a, ev⟩ := js ho
    subst ev
    have HO7 := am ho
    have HB7 := am hb
    have F17 := am (zd F1.out hb)
    clear ho hb hg hat
    refine hK.out _ _ ?_
    clear hK K
    refine nm 88 ?_
    refine pu (i := 7) (N := some 89) (bl 9 255) rfl rfl (by kernel_rfl) ?_
    refine z1h (i := 8) (N := none) (bl 9 511) rfl rfl (by kernel_rfl) (by decide) (fun K hK => ?_)
    have y8 := zf F17.out 8
    have y9 : W7a.cell? ⟨w.heap.size + 1, 8, none⟩ = some (.slice A8' c2.td.length n8') := (za F17.out 8).trans rfl
    refine ZX (w1 := ?_) (by rfl) rfl ?_ ?_
    rotate_left
    ·go_simp
     rfl
    refine hK.out _ _ ?_
    clear hK K
    refine z38 (by kernel_rfl) ?_
    clear y8 y9
    have nqx : ¬ (Q (w.heap.size + 1) \/ w.heap.size + 5 <= w.heap.size + 1) := (fun h => by rcases h with h | h; exact jm (HQ.out _ h) (by omega); omega)
    have gv := ((GV.out.newtd HB7.out HO7.out).mono (Q' := (fun k => Q k \/ w.heap.size + 5 <= k)) (fun k hk _ => by rcases hk with hk | hk; exact hk; exact .inr (by omega))).set (p := ⟨w.heap.size + 1, 8, none⟩) nqx (.slice D7a xsa.length d7a)
    have gb := (GB.out.trans (HB7.out.mono GB.out.size)).setCell (p := ⟨w.heap.size + 1, 8, none⟩) (by show w0.heap.size <= w.heap.size + 1; omega) (.slice D7a xsa.length d7a)
    have gk := (GK.out.below HB7.out).setCell (p := ⟨w.heap.size + 1, 8, none⟩) (.inr (Nat.le_succ _)) (.slice D7a xsa.length d7a)
    have f1 := zJ F17.out 8 (.slice D7a xsa.length d7a) (cs' := (Va c2.ed A1' c2.st n1' A2' c2.ou n2' A3' c2.tr n3' c2.co c2.us c2.wh c2.fu D7a xsa d7a c2.ov)) rfl
    have f2 := ((jl W7a ⟨w.heap.size + 1, 8, none⟩ (.slice D7a xsa.length d7a) (w.heap.size + 2) (by show w.heap.size + 2 ≠ w.heap.size + 1; omega)).trans (zd F2.out HB7.out))
    have f3 := ((jl W7a ⟨w.heap.size + 1, 8, none⟩ (.slice D7a xsa.length d7a) (w.heap.size + 3) (by show w.heap.size + 3 ≠ w.heap.size + 1; omega)).trans (zd F3.out HB7.out))
    have hl8 : w.heap.size + 5 <= (W7a.setCell ⟨w.heap.size + 1, 8, none⟩ (.slice D7a xsa.length d7a)).heap.size := by have := HB7.out.size; simp; omega
    generalize W7a.setCell ⟨w.heap.size + 1, 8, none⟩ (.slice D7a xsa.length d7a) = W8a at gv gb gk f1 f2 f3 hl8 ⊢
    have GV := am gv
    have GB := am gb
    have GK := am gk
    have F1 := am f1
    have F2 := am f2
    have F3 := am f3
    clear gv gb gk f1 f2 f3 HO7 HB7 F17
    obtain ⟨c0, c1, c2, c3, c4, c5, c6, c7, c8, c9⟩ := yf F1.out
    have z_q := bq F3.out
    have g_q := bq F3.out
    go_wp2
    exact yO (g := w.heap.size + 3) GV.out (by rw [HC2.out, <- HXSa.out, yL, ja (by rw [H2_.out]; decide), ja (by rw [H2_.out]; decide), jb H2_.out, ja HZ.out]) HM2.out F3.out rfl GB.out GK.out (by omega) (by omega) (fun h => by rcases h with h | h; exact jm (HQ.out _ h) (by omega); omega) (fun k hk => by rcases hk with hk | hk; exact .inl hk; exact .inr (by omega)) rfl rfl rfl rfl
 have e2 := (beq_eq_false_iff_ne (a := op)).mpr h2
 by_cases h3 : op = 3
 ·have e3 : (op == 3) = true := bT h3
  have H3_ := am h3
  clear h3
  have hvp : 0 < v.length := HF3.out (by rw [H3_.out]; simp)
  obtain ⟨adv, e_, q0v⟩ := Yk (Kd.F_now (Kd.F_kept HVF.out HK1.out (fun _ hk => hk))) (0 : Int) (jq _) (by omega)
  subst e_
  rw [show (0 : Int).toNat = 0 from rfl, Addr.add_zero'] at q0v
  have hvp0 : (0 : Int) < (v.length : Int) := by omega
  have huO := Tryz.underlying41
  have D0 := am (kdr X0.out)
  have D1 := am (kdr X1.out)
  have D2 := am (kdr X2.out)
  have D3 := am (kdr X3.out)
  have D4 := am (kdr X4.out)
  have DV := am (HV1.out.below (zj (jc _ _)))
  have DB := am (HB1.out.trans ((zj (jc _ _)).mono HB1.out.size))
  have DK := am (HK1.out.below (zj (jc _ _)))
  have hlw : w.heap.size + 5 <= W1.drew.heap.size := by have := HSZ.out; show w.heap.size + 5 <= W1.heap.size; omega
  have QD := am (show W1.drew.cell? adv = some (.int .i64 (rd v 0)) from q0v)
  clear q0v
  go_wp2
  obtain ⟨A2g, n2g, e2g, h2g, hgr⟩ := DV.out.grow_ou
  obtain ⟨rfl, rfl⟩ : A2 = A2g /\ n2 = n2g := by
   have := sj e2g
   injection this with h1 h2 h3
   exact ⟨h1, h3⟩
  have H2G := am h2g
  have HGR := am hgr
  clear e2g h2g hgr
  refine sT 14 [0, 1, 2, 3, 4, 5, 6, 7, 8, 9, 10, 11, 12, 13] [10, 13] fun hHeld => ?_
  generalize W1.drew = Y at D0 D1 D2 D3 D4 DV DB DK QD H2G HGR hlw hHeld ⊢
  have hq7_0 := bq D1.out
  have hq7_1 := bq D4.out
  have hq7_2 : World.cell? _ adv = some (.int .i64 (rd v 0)) := QD.out
  repeat first | refine nx ?_ | refine ldT hHeld ?_ | refine un ?_
  refine on fun K hK => ?_
  refine z1m (w1 := ?_) (v := ?_) (by rfl) rfl ?_ ?_
  rotate_left 2
  ·go_simp
   constructor
   ·rfl
   ·rfl
  refine hK.out _ _ (kp hHeld) fun hHeld => ?_
  clear hK K
  refine nM ?_
  refine la fun K hK => ?_
  refine Kd.R_append_step z32 (w0 := w0) w0.heap.size (by rfl) (.tmp 94) (.tmp 101) 41 134 (.agg Vnq) 16 rfl huO z7s rfl (by decide) (by omega) (.slice A2 c.ou.length n2) c.ou (⟨n, rd v 0⟩ : z1v) [.int .i64 n, .int .i64 (rd v 0)] (fun k => Q k \/ w.heap.size + 5 <= k) (fun _ => False) rfl rfl (z4I _ _ _ _) (fun _ hk => hk.elim) (fun k hk => .inr (Nat.le_trans hlw hk)) (jr H2G.out (fun k hk => .inl hk)) DB.out DB.out.size (by omega) ?_
  intro v1 W2 ho hb hg hat
  obtain ⟨V1, M1⟩ := HGR.out W2 v1 _ (fun k => Q k \/ w.heap.size + 5 <= k) (fun k hk => .inl hk) ho hg hat
  obtain ⟨A', n', ev⟩ := js ho
  have el : (c.ou ++ [(⟨n, rd v 0⟩ : z1v)]).length = c.ou.length + 1 := by simp
  rw [el] at ev
  subst ev
  have E1 := am (zO D1.out hg (Kd.R_ne H2G.out D1.out (by decide)))
  have E3 := am (zO D3.out hg (Kd.R_ne H2G.out D3.out (by decide)))
  have V1 := am V1
  have M1 := am M1
  have EB := am hb
  have EK := am (zN.of_grown hg DK.out (fun k e => .inl (.inl e)))
  have hl1 := hg.size
  clear ho hat D0 D1 D2 D3 D4 DV DB DK QD H2G HGR
  refine hK.out _ _ ?_
  clear hK K
  refine nM ?_
  repeat first | refine nx ?_ | refine ldT hHeld ?_ | refine un ?_
  refine la fun K hK => ?_
  have y2 : W2.cell? ⟨w.heap.size + 1, 2, none⟩ = some (.slice A2 c.ou.length n2) := (za E1.out 2).trans rfl
  have f2 := zf E1.out 2
  refine ZX (w1 := ?_) (by rfl) rfl ?_ ?_
  rotate_left
  ·go_simp
   rfl
  refine hK.out _ _ ?_
  clear hK K
  refine dn ?_
  have G1 := am (zJ E1.out 2 (.slice A' (c.ou.length + 1) n') (cs' := #[.int .i64 c.ed, .slice A1 c.st.length n1, .slice A' (c.ou.length + 1) n', .slice A3 c.tr.length n3, .int .i64 c.co, .int .i64 c.us, .int .i64 c.wh, .int .i64 c.fu, .slice A8 c.td.length n8, .bool c.ov]) rfl)
  have X3 := am ((jl W2 ⟨w.heap.size + 1, 2, none⟩ (.slice A' (c.ou.length + 1) n') (w.heap.size + 3) (by show w.heap.size + 3 ≠ w.heap.size + 1; omega)).trans E3.out)
  have nq1 : ¬ (Q (w.heap.size + 1) \/ w.heap.size + 5 <= w.heap.size + 1) := fun h => by rcases h with h | h; (have := HQ.out _ h; omega); omega
  have HV2 := am (V1.out.set (p := ⟨w.heap.size + 1, 2, none⟩) nq1 (.slice A' (c.ou.length + 1) n'))
  have HB2 := am (EB.out.setCell (p := ⟨w.heap.size + 1, 2, none⟩) (by show w0.heap.size <= w.heap.size + 1; omega) (.slice A' (c.ou.length + 1) n'))
  have HK2 := am (EK.out.setCell (p := ⟨w.heap.size + 1, 2, none⟩) (.inr (Nat.le_succ _)) (.slice A' (c.ou.length + 1) n'))
  clear y2 f2 E1 E3 V1 EB EK nq1
  generalize W2.setCell ⟨w.heap.size + 1, 2, none⟩ (.slice A' (c.ou.length + 1) n') = W3 at G1 X3 HV2 HB2 HK2 ⊢
  have u_q := bq G1.out
  have z_q := bq X3.out
  have g_q := bq X3.out
  go_wp2
  exact yO (g := w.heap.size + 3) HV2.out (by rw [yL, ja (by rw [H3_.out]; decide), ja (by rw [H3_.out]; decide), ja (by rw [H3_.out]; decide), jb H3_.out]) (fun k h => (M1.out k h).imp id (fun h => by have := hlw; omega)) X3.out rfl HB2.out HK2.out (by omega) (by omega) (fun h => by rcases h with h | h; exact jm (HQ.out _ h) (by omega); omega) (fun k hk => by rcases hk with hk | hk; exact .inl hk; exact .inr (by omega)) rfl rfl rfl rfl
 have e3 := (beq_eq_false_iff_ne (a := op)).mpr h3
 by_cases h4 : op = 4
 ·have e4 : (op == 4) = true := bT h4
  have H4_ := am h4
  clear h4
  have SF := HF4.out H4_.out
  have x5 : W1.cell? ⟨w.heap.size + 1, 5, none⟩ = some (.int .i64 c.us) := (za X1.out 5).trans rfl
  by_cases hu : (pk.length : Int) <= c.us
  ·have hub : decide ((pk.length : Int) <= c.us) = true := dT hu
   have HU := am hu
   clear hu x5
   obtain ⟨c0, c1, c2, c3, c4, c5, c6, c7, c8, c9⟩ := yf X1.out
   have i0 : W1.cell? ⟨w.heap.size + 2, 0, none⟩ = some (.int .i64 m) := (za X2.out 0).trans rfl
   go_wp2_with (first | (go_at_call 70; refine (z40.calls w0 W1 Q _ c 4 m HB1.out HV1.out (fun k hk => by have := HQ.out k hk; have := HSZ.out; omega)).mono ?_; rintro en W2 ⟨cs2, rfl, hv2, hm2, hb2, hk2⟩; have X3 := am ((hk2.2 (w.heap.size + 3) (by have := HSZ.out; omega) (fun h => jm (HQ.out _ (MRQ.out _ h)) (by omega))).trans X3.out); obtain ⟨c2, hc2⟩ : ∃ c2 : MC, c2 = YR 4 m c := ⟨_, rfl⟩; have HV2 := am (show MR w0 W2 (fun k => Q k \/ W1.heap.size <= k) cs2 c2 by rw [hc2]; exact hv2); have HM2 := am hm2; have HC2 := am hc2; obtain ⟨A1', n1', A2', n2', A3', n3', A8', n8', rfl, hh2⟩ := id HV2.out; clear hh2; have HB2 := am hb2; have hlc : w.heap.size + 5 <= W1.heap.size := (by have := HSZ.out; omega); have HK2 := am (HK1.out.then_ hk2 (fun k hk => .inl hk)); have hs2 := hk2.1; clear hv2 hm2 hb2 hk2 hc2; have z_q := bq X3.out; have g_q := bq X3.out))
   exact yO (g := w.heap.size + 3) HV2.out (by rw [HC2.out, yL, ja (by rw [H4_.out]; decide), ja (by rw [H4_.out]; decide), ja (by rw [H4_.out]; decide), ja (by rw [H4_.out]; decide), jb H4_.out, jb HU.out]) (fun k h => (HM2.out k h).imp id (fun h => by omega)) X3.out rfl HB2.out HK2.out (by omega) (by omega) (fun h => by rcases h with h | h; exact jm (HQ.out _ h) (by omega); omega) (fun k hk => by rcases hk with hk | hk; exact .inl hk; exact .inr (by omega)) rfl rfl rfl rfl
  ·have hub : decide ((pk.length : Int) <= c.us) = false := dF hu
   have HU := am (show ∀ x y : MC, (if (pk.length : Int) <= c.us then x else y) = y from fun _ _ => ja hu)
   have f5 := zf X1.out 5
   have hwu : IntKind.i64.wrap (c.us + 1) = c.us + 1 := by rw [zP]; unfold wrap64; omega
   have hwv : IntKind.i64.wrap (c.us + 1 - 1) = c.us := by rw [zP]; unfold wrap64; omega
   have hw64 : wrap64 c.us = c.us := by unfold wrap64; omega
   have hw65 : wrap64 (c.us + 1) = c.us + 1 := by unfold wrap64; omega
   have hult : c.us < (pk.length : Int) := by omega
   have hpk9 := HPK.out.2.1
   obtain ⟨adp, e_, qp⟩ := Yk HPK.out c.us hu0 hult
   subst e_
   have QPL := am (jd w0 _ qp)
   have QP0 := am qp
   clear hu qp
   have nq1 : ¬ Q (w.heap.size + 1) := fun h => by have := HQ.out _ h; omega
   have D0 := am (kdr ((jl W1 ⟨w.heap.size + 1, 5, none⟩ (.int .i64 (c.us + 1)) w.heap.size (by show w.heap.size ≠ w.heap.size + 1; omega)).trans X0.out))
   have D1 := am (kdr (zJ X1.out 5 (.int .i64 (c.us + 1)) (cs' := (Va c.ed A1 c.st n1 A2 c.ou n2 A3 c.tr n3 c.co (c.us + 1) c.wh c.fu A8 c.td n8 c.ov)) rfl))
   have D2 := am (kdr ((jl W1 ⟨w.heap.size + 1, 5, none⟩ (.int .i64 (c.us + 1)) (w.heap.size + 2) (by show w.heap.size + 2 ≠ w.heap.size + 1; omega)).trans X2.out))
   have D3 := am (kdr ((jl W1 ⟨w.heap.size + 1, 5, none⟩ (.int .i64 (c.us + 1)) (w.heap.size + 3) (by show w.heap.size + 3 ≠ w.heap.size + 1; omega)).trans X3.out))
   have D4 := am (kdr ((jl W1 ⟨w.heap.size + 1, 5, none⟩ (.int .i64 (c.us + 1)) (w.heap.size + 4) (by show w.heap.size + 4 ≠ w.heap.size + 1; omega)).trans X4.out))
   have DV := am (((HV1.out.set (p := ⟨w.heap.size + 1, 5, none⟩) nq1 (.int .i64 (c.us + 1))).us' (c.us + 1)).below (zj (jc _ _)))
   have gb := HB1.out.setCell (p := ⟨w.heap.size + 1, 5, none⟩) (by show w0.heap.size <= w.heap.size + 1; omega) (.int .i64 (c.us + 1))
   have DB := am (gb.trans ((zj (jc _ _)).mono gb.size))
   have DK := am ((HK1.out.setCell (p := ⟨w.heap.size + 1, 5, none⟩) (.inr (Nat.le_succ _)) (.int .i64 (c.us + 1))).below (zj (jc _ _)))
   have QP := am ((DB.out.cell QPL.out).trans QP0.out)
   have hlw : w.heap.size + 5 <= (W1.setCell ⟨w.heap.size + 1, 5, none⟩ (.int .i64 (c.us + 1))).drew.heap.size := by have := HSZ.out; show w.heap.size + 5 <= (W1.setCell ⟨w.heap.size + 1, 5, none⟩ (.int .i64 (c.us + 1))).heap.size; simp; omega
   clear gb
   by_cases h1 : 0 < v.length
   ·rw [jb h1] at SF
    have hvp := h1
    obtain ⟨adv, e_, q0v⟩ := Yk (Kd.F_now (Kd.F_kept HVF.out HK1.out (fun _ hk => hk))) (0 : Int) (jq _) (by omega)
    subst e_
    rw [show (0 : Int).toNat = 0 from rfl, Addr.add_zero'] at q0v
    have hvp0 : (0 : Int) < (v.length : Int) := by omega
    obtain ⟨hn0, hn1, hv0, ⟨kA, hA⟩, kP, hP⟩ := SF
    have hgt : (0 : Int) < (v.length : Int) := by omega
    have hgd : decide ((0 : Int) < (v.length : Int)) = true := dT (by omega)
    have HH1 := am h1
    have HAT := am hA
    have HPU := am hP
    clear h1 hA hP
    go_wp2
    refine sT 16 [0, 1, 2, 3, 4, 5, 6, 7, 8, 9, 10, 11, 12, 13, 14, 15] [14, 15] fun hHeld => ?_
    generalize (W1.setCell ⟨w.heap.size + 1, 5, none⟩ (.int .i64 (c.us + 1))).drew = Y at D0 D1 D2 D3 D4 DV DB DK QP hlw hHeld ⊢
    have hq8_0 := bq D0.out
    have hq8_1 := bq D1.out
    have hq8_2 := bq D4.out
    have hq8_3 : World.cell? _ (adp.add c.us.toNat) = some (.int .i64 (rd pk c.us)) := QP.out
    repeat first | refine nx ?_ | refine ldT hHeld ?_ | refine un ?_
    refine la fun K hK => ?_
    refine gC Tryz.func100 ?_
    refine (z5O.calls w0 Y Q _ { c with us := c.us + 1 } kA kP wd Av cv l1 Ab lb cb op n B3 a.length d3 B4 t.length d4 B5 e.length d5 true (rd v 0) (rd pk c.us) _ DB.out DV.out (fun k hk => by have := HQ.out k hk; omega) HR1.out HC1.out hn0 hn1 hv0 HAT.out HPU.out htr).mono ?_
    rintro en W2 ⟨cs2, rfl, hv2, hm2, hb2, hk2⟩
    have X3 := am ((hk2.2 (w.heap.size + 3) (by omega) (fun h => jm (HQ.out _ (MRQ.out _ h)) (by omega))).trans D3.out)
    obtain ⟨c2, hc2⟩ : ∃ c2 : MC, c2 = z0m l1 n (rd v 0) (rd pk c.us) (atP l1 n (rd v 0)) true { c with us := c.us + 1 } := ⟨_, rfl⟩
    have HV2 := am (show MR w0 W2 (fun k => Q k \/ Y.heap.size <= k) cs2 c2 by rw [hc2]; exact hv2)
    have HM2 := am hm2
    have HC2 := am hc2
    obtain ⟨A1', n1', A2', n2', A3', n3', A8', n8', rfl, hh2⟩ := id HV2.out
    clear hh2
    have HB2 := am hb2
    have hlc : w.heap.size + 5 <= Y.heap.size := (by omega)
    have HK2 := am (DK.out.then_ hk2 (fun k hk => .inl hk))
    have hs2 := hk2.1
    clear hv2 hm2 hk2 hc2
    refine ⟨_, rfl, ?_⟩
    refine hK.out _ _ ?_
    clear hK K
    refine nM ?_
    refine la fun K hK => ?_
    have z_q := bq X3.out
    have g_q := bq X3.out
    refine ZX (w1 := ?_) (by rfl) rfl ?_ ?_
    rotate_left
    ·go_simp
     rfl
    refine hK.out _ _ ?_
    clear hK K
    refine dn ?_
    go_wp2
    exact yO (g := w.heap.size + 3) HV2.out (by rw [HC2.out, yL, ja (by rw [H4_.out]; decide), ja (by rw [H4_.out]; decide), ja (by rw [H4_.out]; decide), ja (by rw [H4_.out]; decide), jb H4_.out, HU.out, jb HH1.out, decide_eq_true HH1.out]) (fun k h => (HM2.out k h).imp id (fun h => by omega)) X3.out rfl HB2.out HK2.out (by omega) (by omega) (fun h => by rcases h with h | h; exact jm (HQ.out _ h) (by omega); omega) (fun k hk => by rcases hk with hk | hk; exact .inl hk; exact .inr (by omega)) rfl rfl rfl rfl
   ·rw [ja h1] at SF
    obtain ⟨hn0, hn1, hv0, ⟨kA, hA⟩, kP, hP⟩ := SF
    have hgt : ¬ (0 : Int) < (v.length : Int) := by omega
    have hgd : decide ((0 : Int) < (v.length : Int)) = false := dF (by omega)
    have HH1 := am h1
    have HAT := am hA
    have HPU := am hP
    clear h1 hA hP
    go_wp2
    refine sT 16 [0, 1, 2, 3, 4, 5, 6, 7, 8, 9, 10, 11, 12, 13, 14, 15] [14, 15] fun hHeld => ?_
    generalize (W1.setCell ⟨w.heap.size + 1, 5, none⟩ (.int .i64 (c.us + 1))).drew = Y at D0 D1 D2 D3 D4 DV DB DK QP hlw hHeld ⊢
    have hq9_0 := bq D0.out
    have hq9_1 := bq D1.out
    have hq9_2 := bq D4.out
    have hq9_3 : World.cell? _ (adp.add c.us.toNat) = some (.int .i64 (rd pk c.us)) := QP.out
    repeat first | refine nx ?_ | refine ldT hHeld ?_ | refine un ?_
    refine la fun K hK => ?_
    refine gC Tryz.func100 ?_
    refine (z5O.calls w0 Y Q _ { c with us := c.us + 1 } kA kP wd Av cv l1 Ab lb cb op n B3 a.length d3 B4 t.length d4 B5 e.length d5 false 0 (rd pk c.us) _ DB.out DV.out (fun k hk => by have := HQ.out k hk; omega) HR1.out HC1.out hn0 hn1 hv0 HAT.out HPU.out htr).mono ?_
    rintro en W2 ⟨cs2, rfl, hv2, hm2, hb2, hk2⟩
    have X3 := am ((hk2.2 (w.heap.size + 3) (by omega) (fun h => jm (HQ.out _ (MRQ.out _ h)) (by omega))).trans D3.out)
    obtain ⟨c2, hc2⟩ : ∃ c2 : MC, c2 = z0m l1 n 0 (rd pk c.us) (atP l1 n 0) false { c with us := c.us + 1 } := ⟨_, rfl⟩
    have HV2 := am (show MR w0 W2 (fun k => Q k \/ Y.heap.size <= k) cs2 c2 by rw [hc2]; exact hv2)
    have HM2 := am hm2
    have HC2 := am hc2
    obtain ⟨A1', n1', A2', n2', A3', n3', A8', n8', rfl, hh2⟩ := id HV2.out
    clear hh2
    have HB2 := am hb2
    have hlc : w.heap.size + 5 <= Y.heap.size := (by omega)
    have HK2 := am (DK.out.then_ hk2 (fun k hk => .inl hk))
    have hs2 := hk2.1
    clear hv2 hm2 hk2 hc2
    refine ⟨_, rfl, ?_⟩
    refine hK.out _ _ ?_
    clear hK K
    refine nM ?_
    refine la fun K hK => ?_
    have z_q := bq X3.out
    have g_q := bq X3.out
    refine ZX (w1 := ?_) (by rfl) rfl ?_ ?_
    rotate_left
    ·go_simp
     rfl
    refine hK.out _ _ ?_
    clear hK K
    refine dn ?_
    go_wp2
    exact yO (g := w.heap.size + 3) HV2.out (by rw [HC2.out, yL, ja (by rw [H4_.out]; decide), ja (by rw [H4_.out]; decide), ja (by rw [H4_.out]; decide), ja (by rw [H4_.out]; decide), jb H4_.out, HU.out, ja HH1.out, decide_eq_false HH1.out]) (fun k h => (HM2.out k h).imp id (fun h => by omega)) X3.out rfl HB2.out HK2.out (by omega) (by omega) (fun h => by rcases h with h | h; exact jm (HQ.out _ h) (by omega); omega) (fun k hk => by rcases hk with hk | hk; exact .inl hk; exact .inr (by omega)) rfl rfl rfl rfl
 have e4 := (beq_eq_false_iff_ne (a := op)).mpr h4
 have heq : yL cn l1 pk c m op n t e ⟨m, ⟨op, n, a, t, e⟩⟩ v next = c := by rw [yL, ja h0, ja h1, ja h2, ja h3, ja h4, ja h5, ja h6]
 clear h0 h1 h2 h3 h4 h5 h6
 have HEQ := am heq
 clear heq
 obtain ⟨c0, c1, c2, c3, c4, c5, c6, c7, c8, c9⟩ := yf X1.out
 have z_q := bq X3.out
 have g_q := bq X3.out
 go_wp2
 exact yO (g := w.heap.size + 3) HV1.out HEQ.out.symm (fun k h => .inl h) X3.out rfl HB1.out HK1.out (by omega) (by omega) (fun h => jm (HQ.out _ h) (by omega)) (fun k hk => .inl hk) rfl rfl rfl rfl
def yz (c : MC) : Bool := c.ov || decide (c.td.length = 0)
theorem z42.calls (w : World) (c : MC) (A1 : Option Addr) (n1 : Nat) (A2 : Option Addr) (n2 : Nat) (A3 : Option Addr) (n3 : Nat) (A8 : Option Addr) (n8 : Nat) :
  Calls Tryz.prog 41 #[.agg #[.int .i64 c.ed, .slice A1 c.st.length n1, .slice A2 c.ou.length n2, .slice A3 c.tr.length n3, .int .i64 c.co, .int .i64 c.us, .int .i64 c.wh, .int .i64 c.fu, .slice A8 c.td.length n8, .bool c.ov]] w fun e w' => e = .returned (.bool (yz c)) /\ Below w.heap.size w w' := by
 have hu := Tryz.underlying98
 have huR := Tryz.underlying44
 obtain ⟨ov, hov⟩ : ∃ ov, c.ov = ov := ⟨_, rfl⟩
 obtain ⟨r, hr⟩ : ∃ r, yz c = r := ⟨_, rfl⟩
 rw [hr]
 rw [yz, hov] at hr
 have hx := zI w (.cells #[.int .i64 c.ed, .slice A1 c.st.length n1, .slice A2 c.ou.length n2, .slice A3 c.tr.length n3, .int .i64 c.co, .int .i64 c.us, .int .i64 c.wh, .int .i64 c.fu, .slice A8 c.td.length n8, .bool ov] 98)
 have hb := bal (jc w.heap.size w) (.cells #[.int .i64 c.ed, .slice A1 c.st.length n1, .slice A2 c.ou.length n2, .slice A3 c.tr.length n3, .int .i64 c.co, .int .i64 c.us, .int .i64 c.wh, .int .i64 c.fu, .slice A8 c.td.length n8, .bool ov] 98)
 go_enter Tryz.func41, Tryz.ntmps41
 go_upto_region 1 with (fail)
 generalize w.alloc (.cells #[.int .i64 c.ed, .slice A1 c.st.length n1, .slice A2 c.ou.length n2, .slice A3 c.tr.length n3, .int .i64 c.co, .int .i64 c.us, .int .i64 c.wh, .int .i64 c.fu, .slice A8 c.td.length n8, .bool ov] 98) = W at hx hb ⊢
 have x8 : W.cell? ⟨w.heap.size, 8, none⟩ = some (.slice A8 c.td.length n8) := (za hx 8).trans rfl
 have x9 : W.cell? ⟨w.heap.size, 9, none⟩ = some (.bool ov) := (za hx 9).trans rfl
 clear hx
 cases ov with
 | true =>
  obtain rfl : true = r := hr
  go_wp2
  go_ret
  exact ⟨rfl, hb⟩
 | false =>
  by_cases h0 : c.td.length = 0
  ·rw [h0] at x8 ⊢
   obtain rfl : true = r := by rw [<- hr, h0]; rfl
   go_wp2
   go_ret
   exact ⟨rfl, hb⟩
  ·obtain rfl : false = r := by rw [<- hr, decide_eq_false h0]; rfl
   have hbe : ((c.td.length : Int) == 0) = false := by rw [beq_eq_false_iff_ne]; omega
   clear hr h0
   go_wp2
   go_ret
   exact ⟨rfl, hb⟩
theorem z7u : (Tryz.prog.info? 3).map (fun i => (i.zero, i.size, i.bytes)) = some (some (.int .i64 0), 1, 8) := by kernel_rfl
def Y9 (nd : S62 -> Int) (ev : S62 -> List Z4) (c : MC) (a : List S62) (rest : List ZT) : MC := { c with td := rest, fu := c.fu - 1, co := c.co + 1 + (a.map nd).sum, tr := c.tr ++ a.flatMap ev }
def yZ (cn : List S81 -> Int) (l1 : List S76) (pk : List Int) (nd : S62 -> Int) (ev : List Int -> S62 -> List Z4) (va : List Int -> S62 -> Int) (c : MC) : MC :=
 match c.td with
 | [] => c
 | x :: rest => if c.fu = 0 then YR 3 x.f0 c else yL cn l1 pk (Y9 nd (ev c.st) c x.f1.f2 rest) x.f0 x.f1.f0 x.f1.f1 x.f1.f3 x.f1.f4 x (x.f1.f2.map (va c.st)) rest
def EFit (wd : Int) (l1 : List S76) (nd : S62 -> Int) (ev : S62 -> List Z4) (va : S62 -> Int) (st : List Int) (x : S62) : Prop :=
 (∃ k, zR.f k wd l1 [st] x.f0 x.f1 x.f2 x.f3 = some (va x)) /\ (∃ k, Zx.f k x.f0 x.f1 x.f2 x.f3 = some (nd x)) /\ 0 <= nd x /\ nd x <= 1000000 /\ (∃ k, zL.f k wd l1 st x.f0 x.f1 x.f2 x.f3 = some (ev x)) /\ (ev x).length <= 1000000
def TFit (cn : List S81 -> Int) (wd : Int) (l1 : List S76) (pk : List Int) (nd : S62 -> Int) (ev : List Int -> S62 -> List Z4) (va : List Int -> S62 -> Int) (c : MC) : Prop :=
 ∀ x rest, c.td = x :: rest -> rest.length < 1000000000 /\ (c.fu ≠ 0 -> 0 < c.fu /\ c.fu < 1000000000 /\ 0 <= c.co /\ c.co < 900000000 /\ c.tr.length < 900000000 /\ x.f1.f2.length <= 10 /\ (∀ y ∈ x.f1.f2, EFit wd l1 nd (ev c.st) (va c.st) c.st y) /\
  AFit cn l1 pk (Y9 nd (ev c.st) c x.f1.f2 rest) x.f0 x.f1.f0 x.f1.f1 x.f1.f3 x.f1.f4 (x.f1.f2.map (va c.st)) rest)
theorem MR.todo {w0 W : World} {Q : Nat -> Prop} {c : MC} {ed co us wh fu : Int} {A1 A2 A3 A8 : Option Addr} {n1 n2 n3 n8 m1 m2 m3 m8 : Nat} {ov : Bool} (h : MR w0 W Q (Vu ed A1 m1 n1 A2 m2 n2 A3 m3 n3 co us wh fu A8 m8 n8 ov) c) :
  c.td.length <= n8 /\ Kd.F (YT Y4 w0) W (fun k => Q k /\ ¬ MT (Vu ed A1 m1 n1 A2 m2 n2 A3 m3 n3 co us wh fu A8 m8 n8 ov) k) A8 c.td.length c.td := by
 obtain ⟨B1, k1, B2, k2, B3, k3, B8, k8, e, h2, h3, l1, f1, l8, f8⟩ := h
 have e' := e
 simp only [Array.mk.injEq, List.cons.injEq, Value.slice.injEq] at e
 obtain ⟨_, _, _, _, _, _, _, _, ⟨rfl, _, rfl⟩, _⟩ := e
 exact ⟨l8, f8⟩
theorem MR.storeF {w0 W : World} {Q : Nat -> Prop} {c : MC} {ed co us wh fu : Int} {A1 A2 A3 A8 : Option Addr} {n1 n2 n3 n8 m1 m2 m3 m8 : Nat} {ov : Bool} (h : MR w0 W Q (Vu ed A1 m1 n1 A2 m2 n2 A3 m3 n3 co us wh fu A8 m8 n8 ov) c) :
  c.st.length <= n1 /\ Kd.F (Kd.int .i64) W (fun k => Q k /\ ¬ MT (Vu ed A1 m1 n1 A2 m2 n2 A3 m3 n3 co us wh fu A8 m8 n8 ov) k) A1 c.st.length c.st := by
 obtain ⟨B1, k1, B2, k2, B3, k3, B8, k8, e, h2, h3, l1, f1, l8, f8⟩ := h
 simp only [Array.mk.injEq, List.cons.injEq, Value.slice.injEq] at e
 obtain ⟨_, ⟨rfl, _, rfl⟩, _⟩ := e
 exact ⟨l1, f1⟩
theorem z7i {W : World} {b : Nat} {A : Option Addr} {n : Nat} {xs : List Int} (h : W.heap[b]? = some (.cells #[.slice A xs.length n] 26 (0, 0))) (hc : Kd.C (Kd.int .i64) W A xs.length xs) (hl : xs.length <= n) : Kd.C (Kd.slice 3 (Kd.int .i64)) W (some ⟨b, 0, none⟩) [xs].length [xs] := by
 refine ⟨rfl, by simp, fun _ => ⟨_, rfl, fun j y hj => ?_⟩⟩
 match j with
 | 0 =>
  obtain rfl : xs = y := by simpa using hj
  refine ⟨[.slice A xs.length n], rfl, ⟨A, n, rfl, hl, hc⟩, fun i u hu => ?_⟩
  rw [z7O, za h]
  simpa using hu
 | j + 1 => simp at hj
theorem row4 {w : World} {g : Nat} {a0 a1 a2 a3 : Value} {t : TypeId} (h : w.heap[g]? = some (.cells #[a0, a1, a2, a3] t (0, 0))) : w.cell? ⟨g, 0, none⟩ = some a0 /\ w.cell? ⟨g, 1, none⟩ = some a1 /\ w.cell? ⟨g, 2, none⟩ = some a2 /\ w.cell? ⟨g, 3, none⟩ = some a3 :=
 ⟨(za h 0).trans rfl, (za h 1).trans rfl, (za h 2).trans rfl, (za h 3).trans rfl⟩
theorem sums_le {α β : Type} (a : List α) (f : α -> Int) (g : α -> List β) (hl : a.length <= 10) (h : ∀ y ∈ a, 0 <= f y /\ f y <= 1000000 /\ (g y).length <= 1000000) (j : Nat) : 0 <= ((a.take j).map f).sum /\ ((a.take j).map f).sum <= 10000000 /\ ((a.take j).flatMap g).length <= 10000000 := by
 have key : ∀ l : List α, (∀ y ∈ l, 0 <= f y /\ f y <= 1000000 /\ (g y).length <= 1000000) -> 0 <= (l.map f).sum /\ (l.map f).sum <= l.length * 1000000 /\ (l.flatMap g).length <= l.length * 1000000 := by
  intro l
  induction l with
  | nil => intro _; simp
  | cons x r ih =>
   intro h
   obtain ⟨h1, h2, h3⟩ := ih (fun y hy => h y (List.mem_cons_of_mem _ hy))
   obtain ⟨g1, g2, g3⟩ := h x (List.mem_cons_self ..)
   simp only [List.map_cons, List.sum_cons, jp, List.flatMap_cons, je]
   omega
 obtain ⟨h1, h2, h3⟩ := key (a.take j) (fun y hy => h y (List.mem_of_mem_take hy))
 have : (a.take j).length <= 10 := by rw [List.length_take]; omega
 omega
theorem MR.after {w0 W W1 : World} {Q : Nat -> Prop} {cs : Array Value} {c : MC} {v v1 : Value} (h : MR w0 W (fun k => Q k /\ some k ≠ v.ownBlock) cs c) (hg : W.grownBy W1 v.ownBlock) (hat : v1.ownBlock = v.ownBlock \/ ∃ b, v1.ownBlock = some b /\ W.heap.size <= b) : MR w0 W1 (fun k => Q k /\ some k ≠ v1.ownBlock) cs c := by
 refine (h.bound.step (fun k hk hlt => hg.block k hlt hk.1.2)).mono (fun k hk _ => ⟨hk.1.1, ?_⟩)
 rcases hat with hat | ⟨b, hat, hb⟩
 ·rw [hat]; exact hk.1.2
 ·rw [hat]; intro e; injection e with e; have := hk.2; omega
theorem m_step.calls (w0 w : World) (Q : Nat -> Prop) (cs : Array Value) (c : MC) (cn : List S81 -> Int) (nd : S62 -> Int) (ev : List Int -> S62 -> List Z4) (va : List Int -> S62 -> Int) (wd : Int) (Av : Option Addr) (cv : Nat) (l1 : List S76) (Ab : Option Addr) (lb cb : Nat) (Ap_ : Option Addr) (np : Nat) (pk : List Int) (hB : Below w0.heap.size w0 w) (hV : MR w0 w Q cs c) (hQ : ∀ k, Q k -> k < w.heap.size) (hr1 : Kd.C k76 w0 Av l1.length l1) (hc1 : l1.length <= cv) (hpk : Kd.C (Kd.int .i64) w0 Ap_ pk.length pk) (hpn : pk.length <= np) (he : yz c = false) (hf : TFit cn wd l1 pk nd ev va c) :
  Calls Tryz.prog 42 #[.agg (Vo wd Av l1 cv Ab lb cb), .slice Ap_ pk.length np, .agg cs] w (MP w0 w Q cs (yZ cn l1 pk nd ev va c)) := by
 obtain ⟨x, rest, htd⟩ : ∃ x rest, c.td = x :: rest := by
  cases h : c.td with
  | nil => rw [yz, h] at he; simp at he
  | cons x r => exact ⟨x, r, rfl⟩
 have HV := am hV
 obtain ⟨A1, n1, A2, n2, A3, n3, A8, n8, rfl, hh⟩ := id hV
 clear hh hV
 obtain ⟨b_, hsz_, x0_, x1_, x2_⟩ := z7F w (.cells (Vo wd Av l1 cv Ab lb cb) 25) (.cells (Va c.ed A1 c.st n1 A2 c.ou n2 A3 c.tr n3 c.co c.us c.wh c.fu A8 c.td n8 c.ov) 98) (.cells (Vi false) 98)
 have HV0 := am (HV.out.below b_)
 have HB0 := am (hB.trans (b_.mono hB.size))
 have HK0 := am (zN.of_below b_ (MT (Va c.ed A1 c.st n1 A2 c.ou n2 A3 c.tr n3 c.co c.us c.wh c.fu A8 c.td n8 c.ov)))
 have HSZ := am hsz_
 have X0 := am x0_
 have X1 := am x1_
 have X2 := am x2_
 have HQ := am hQ
 have hBs := hB.size
 have HBW0 := am b_
 clear hsz_ hQ hB b_ x0_ x1_ x2_
 have hu := Tryz.underlying98
 have huR := Tryz.underlying44
 have huP := Tryz.underlying25
 have huS := Tryz.underlying81
 have huI := Tryz.underlying128
 have huL := Tryz.underlying96
 have huN := Tryz.underlying26
 have huX := Tryz.underlying62
 have huE := Tryz.underlying42
 obtain ⟨hrl, hfit⟩ := hf x rest htd
 have hlt : c.td.length = rest.length + 1 := by rw [htd]; rfl
 have hltI : (0 : Int) < (c.td.length : Int) := by omega
 have HFIT := am hfit
 have HTD := am htd
 have HR1 := am hr1
 have HC1 := am hc1
 have HPK := am hpk
 have HE := am he
 have HLT := am hlt
 obtain ⟨f8l, f8⟩ := MR.todo HV.out
 have HF8 := am f8
 have hn8 := f8l
 obtain ⟨itI, hitI, hitz⟩ := Option.map_eq_some_iff.1 z0h
 have hcut := z7z (P := Tryz.prog) 96 128 .i64 huL hitI 6 (by simp only [Prod.mk.injEq] at hitz; exact hitz.2.1) A8 c.td.length n8 1 (by decide) (by omega)
 obtain ⟨An, hAn⟩ : ∃ An, (if n8 = (1 : Int).toNat then A8 else A8.map (·.add ((1 : Int).toNat * 6))) = An := ⟨_, rfl⟩
 rw [hAn] at hcut
 have hnf : Kd.F (YT Y4 w0) w (fun k => (Q k /\ ¬ MT (Va c.ed A1 c.st n1 A2 c.ou n2 A3 c.tr n3 c.co c.us c.wh c.fu A8 c.td n8 c.ov) k) /\ k < w.heap.size) An rest.length rest := by
  have := Kd.F_cut (m := 1) (c := n8) f8 (by omega) f8l
  rw [show c.td.drop 1 = rest by rw [htd]; rfl] at this
  rw [<- hAn]
  exact Kd.F_bound this
 have HNF := am hnf
 clear hf hfit htd hr1 hc1 hpk he f8 hitI hitz hAn hnf hlt
 go_enter Tryz.func42, Tryz.ntmps42
 go_upto_region 1 with (fail)
 generalize ((w.alloc (.cells (Vo wd Av l1 cv Ab lb cb) 25)).alloc (.cells (Va c.ed A1 c.st n1 A2 c.ou n2 A3 c.tr n3 c.co c.us c.wh c.fu A8 c.td n8 c.ov) 98)).alloc (.cells (Vi false) 98) = W0 at HV0 HB0 HK0 HSZ HBW0 X0 X1 X2 ⊢
 obtain ⟨c0, c1, c2, c3, c4, c5, c6, c7, c8, c9⟩ := yf X1.out
 go_upto_region 3 with (first | (go_at_call 41; refine (z42.calls W0 c A1 n1 A2 n2 A3 n3 A8 n8).mono ?_; rintro en W1 ⟨rfl, hb⟩; rw [HE.out]; have HBE := am hb; clear hb))
 clear c0 c1 c2 c3 c4 c5 c6 c7 c8 c9
 have X0 := am (zd X0.out HBE.out)
 have X1 := am (zd X1.out HBE.out)
 have X2 := am (zd X2.out HBE.out)
 have HV1 := am (HV0.out.below HBE.out)
 have HB1 := am (HB0.out.trans (HBE.out.mono HB0.out.size))
 have HK1 := am (HK0.out.below HBE.out)
 have HBW := am (HBW0.out.trans (HBE.out.mono HBW0.out.size))
 have hsz1 : w.heap.size + 3 <= W1.heap.size := by have := HSZ.out; have := HBE.out.size; omega
 clear HV0 HB0 HK0 HBE HBW0
 obtain ⟨m, ⟨op, n, a, t, e⟩⟩ := x
 obtain ⟨f8l_, f81⟩ := MR.todo HV1.out
 obtain ⟨ad8, ci, e8, hcl, hK8, hcell⟩ := Kd.C_get (Kd.F_now f81) (⟨m, ⟨op, n, a, t, e⟩⟩ : ZT) (0 : Int) (jq _) hltI
 subst e8
 rw [show c.td.getD (0 : Int).toNat (⟨m, ⟨op, n, a, t, e⟩⟩ : ZT) = ⟨m, ⟨op, n, a, t, e⟩⟩ by rw [HTD.out]; rfl] at hK8
 obtain ⟨B3, d3, B4, d4, B5, d5, rfl, l3, g3, l4, g4, l5, g5⟩ := z6t (show Y4.K w0 _ _ from hK8)
 have q0 := hcell 0 _ rfl
 have q1 := hcell 1 _ rfl
 have q2 := hcell 2 _ rfl
 have q3 := hcell 3 _ rfl
 have q4 := hcell 4 _ rfl
 have q5 := hcell 5 _ rfl
 simp only [show (0 : Int).toNat * (YT Y4 w0).sz = 0 from rfl, Nat.zero_add, Addr.add_zero', Addr.add_succ'] at q0 q1 q2 q3 q4 q5
 dsimp only at q0 q1 q2 q3 q4 q5 l3 g3 l4 g4 l5 g5
 have L3 := am l3
 have G3 := am g3
 have L4 := am l4
 have G4 := am g4
 have L5 := am l5
 have G5 := am g5
 have c8 : W1.cell? ⟨w.heap.size + 1, 8, none⟩ = some (.slice (some ad8) c.td.length n8) := (za X1.out 8).trans rfl
 clear f8l_ f81 hcl hK8 hcell l3 g3 l4 g4 l5 g5
 go_upto_region 4 with (fail)
 have ba := bal (jc W1.heap.size W1) (.cells (Vj m op n B3 a d3 B4 t d4 B5 e d5) 128)
 have XI := am (zI W1 (.cells (Vj m op n B3 a d3 B4 t d4 B5 e d5) 128))
 have X0 := am (zd X0.out ba)
 have X1 := am (zd X1.out ba)
 have X2 := am (zd X2.out ba)
 have HV2 := am (HV1.out.below ba)
 have HB2 := am (HB1.out.trans (ba.mono HB1.out.size))
 have HK2 := am (HK1.out.below ba)
 have HBW := am (HBW.out.trans (ba.mono HBW.out.size))
 have hsz2 : (W1.alloc (.cells (Vj m op n B3 a d3 B4 t d4 B5 e d5) 128)).heap.size = W1.heap.size + 1 := by simp
 have hsz2a := Nat.le_of_eq hsz2
 have hsz2b := Nat.le_of_eq hsz2.symm
 clear hsz2
 clear ba HV1 HB1 HK1 c8 q0 q1 q2 q3 q4 q5
 generalize W1.alloc (.cells (Vj m op n B3 a d3 B4 t d4 B5 e d5) 128) = W2 at XI X0 X1 X2 HV2 HB2 HK2 HBW hsz2a hsz2b ⊢
 have hms : yZ cn l1 pk nd ev va c = if c.fu = 0 then YR 3 m c else yL cn l1 pk (Y9 nd (ev c.st) c a rest) m op n t e ⟨m, ⟨op, n, a, t, e⟩⟩ (a.map (va c.st)) rest := by unfold yZ; rw [HTD.out]
 have HMS := am hms
 have MRQ := am (show ∀ k, MT (Va c.ed A1 c.st n1 A2 c.ou n2 A3 c.tr n3 c.co c.us c.wh c.fu (some ad8) c.td n8 c.ov) k -> Q k from fun k hk => (HV2.out.mt hk).1)
 clear hms
 by_cases hfu : c.fu = 0
 ·have hfb : (c.fu == 0) = true := bT hfu
  have HFU := am hfu
  clear hfu
  obtain ⟨c0, c1, c2, c3, c4, c5, c6, c7, c8, c9⟩ := yf X1.out
  have i0 : W2.cell? ⟨W1.heap.size, 0, none⟩ = some (.int .i64 m) := (za XI.out 0).trans rfl
  go_wp2_with (first | (go_at_call 70; refine (z40.calls w0 W2 Q _ c 3 m HB2.out HV2.out (fun k hk => by have := HQ.out k hk; omega)).mono ?_; rintro en W3 ⟨cs2, rfl, hv2, hm2, hb2, hk2⟩; have X3 := am ((hk2.2 (w.heap.size + 2) (by omega) (fun h => jm (HQ.out _ (MRQ.out _ h)) (by omega))).trans X2.out); obtain ⟨c2, hc2⟩ : ∃ c2 : MC, c2 = YR 3 m c := ⟨_, rfl⟩; have HV3 := am (show MR w0 W3 (fun k => Q k \/ W2.heap.size <= k) cs2 c2 by rw [hc2]; exact hv2); have HM3 := am hm2; have HC3 := am hc2; obtain ⟨A1', n1', A2', n2', A3', n3', A8', n8', rfl, hh2⟩ := id HV3.out; clear hh2; have HB3 := am hb2; have HK3 := am (HK2.out.then_ hk2 (fun k hk => .inl hk)); clear hv2 hm2 hb2 hk2 hc2; obtain ⟨z0, z1, z2, z3, z4, z5, z6, z7, z8, z9⟩ := yf X3.out; obtain ⟨g0, g1, g2, g3, g4, g5, g6, g7, g8, g9⟩ := z12 X3.out))
  exact yO (g := w.heap.size + 2) HV3.out (by rw [HC3.out, HMS.out, jb HFU.out]) (fun k h => (HM3.out k h).imp id (fun h => by omega)) X3.out rfl HB3.out HK3.out (by omega) (by omega) (fun h => by rcases h with h | h; exact jm (HQ.out _ h) (by omega); omega) (fun k hk => by rcases hk with hk | hk; exact .inl hk; exact .inr (by omega)) rfl rfl rfl rfl
 ·have hfb : (c.fu == 0) = false := bF hfu
  obtain ⟨hf0, hf1, hco0, hco1, htr, hal, hargs, hact⟩ := HFIT.out hfu
  have HFU := am hfu
  have HARG := am hargs
  have HACT := am hact
  dsimp only at hal
  clear hfu hargs hact
  have o1 : (YT Y4 w0).R 128 (W2.alloc (.cells #[] 128)) W2.heap.size (fun _ => True) (.slice (some ⟨W2.heap.size, 0, none⟩) 0 0) [] := ⟨fun _ _ => trivial, [], World.ownsRow_lit W2 #[] 0 (jk _) (by decide) rfl, ⟨rfl, fun j x hj => by simp at hj⟩⟩
  have O1 := am o1
  clear o1
  have c7 : W2.cell? ⟨w.heap.size + 1, 7, none⟩ = some (.int .i64 c.fu) := (za X1.out 7).trans rfl
  have c8 : W2.cell? ⟨w.heap.size + 1, 8, none⟩ = some (.slice (some ad8) c.td.length n8) := (za X1.out 8).trans rfl
  have hl1 : (c.td.length : Int) - 1 = (rest.length : Int) := by have := HLT.out; omega
  have hl2 : c.td.length - (1 : Int).toNat = rest.length := by have := HLT.out; show c.td.length - 1 = _; omega
  rw [hl2] at hcut
  have hle1 : (1 : Int) <= (c.td.length : Int) := by have := HLT.out; omega
  have HL2 := am hl2
  clear hl2 hl1
  go_upto_region 8 with (first | ((with_reducible refine Zq (b := .append) (xs := #[.tmp 29, .tmp 30]) rfl ?_); at_builtin; go_loud (refine Kd.R_append_rows (YT Y4 w0) (w0 := W2) W2.heap.size rfl (.tmp 29) (.tmp 30) 96 128 (.agg Vq) 96 rfl huL z0h rfl (show 0 < 6 by decide) (by omega) _ [] rest _ _ _ (fun _ => True) (fun _ => False) rfl rfl O1.out (Kd.F_now (Kd.F_below HNF.out (HBW.out.trans ((bal (jc W2.heap.size W2) (.cells #[] 128)).mono HBW.out.size)))) (fun _ _ h => h) (fun _ h => h.elim) (fun _ _ => trivial) (bal (jc _ _) _) (by simp) (by simp only [List.length_nil]; omega) ?_); intro v1 W3 ho hb hg hat; rw [List.nil_append] at ho; obtain ⟨D7, d7, ev⟩ := js ho; subst ev; have HO3 := am ho; have HB3 := am hb; have Y1 := am (zd X1.out hb); clear ho hb hg hat c7 c8; have y8 := zf Y1.out 8; have y9 : W3.cell? ⟨w.heap.size + 1, 8, none⟩ = some (.slice (some ad8) c.td.length n8) := (za Y1.out 8).trans rfl; have y7 : W3.cell? ⟨w.heap.size + 1, 7, none⟩ = some (.int .i64 c.fu) := (za Y1.out 7).trans rfl; have y4 : W3.cell? ⟨w.heap.size + 1, 4, none⟩ = some (.int .i64 c.co) := (za Y1.out 4).trans rfl; have f7 := zf Y1.out 7; have f4 := zf Y1.out 4))
  have hw1 : IntKind.i64.wrap (c.fu - 1) = c.fu - 1 := by rw [zP]; unfold wrap64; omega
  have hw2 : IntKind.i64.wrap (c.co + 1) = c.co + 1 := by rw [zP]; unfold wrap64; omega
  have hw3 : wrap64 (c.fu - 1) = c.fu - 1 := by unfold wrap64; omega
  have hw4 : wrap64 (c.co + 1) = c.co + 1 := by unfold wrap64; omega
  go_upto_region 10 with (fail)
  clear y8 y9 y7 y4 f7 f4
  have hfar : ∀ k, k ≠ w.heap.size + 1 -> (((W3.setCell ⟨w.heap.size + 1, 8, none⟩ (.slice D7 rest.length d7)).setCell ⟨w.heap.size + 1, 7, none⟩ (.int .i64 (c.fu - 1))).setCell ⟨w.heap.size + 1, 4, none⟩ (.int .i64 (c.co + 1))).heap[k]? = W3.heap[k]? := fun k hk => (jl _ _ _ _ hk).trans ((jl _ _ _ _ hk).trans (jl _ _ _ _ hk))
  have hs3 := HB3.out.size
  have nq1 : ¬ (Q (w.heap.size + 1) \/ W1.heap.size < w.heap.size + 1) := fun h => by rcases h with h | h; (have := HQ.out _ h; omega); omega
  have p1 := zJ (zJ (zJ Y1.out 8 (.slice D7 rest.length d7) (cs' := (Va c.ed A1 c.st n1 A2 c.ou n2 A3 c.tr n3 c.co c.us c.wh c.fu D7 rest d7 c.ov)) rfl) 7 (.int .i64 (c.fu - 1)) (cs' := (Va c.ed A1 c.st n1 A2 c.ou n2 A3 c.tr n3 c.co c.us c.wh (c.fu - 1) D7 rest d7 c.ov)) rfl) 4 (.int .i64 (c.co + 1)) (cs' := (Va c.ed A1 c.st n1 A2 c.ou n2 A3 c.tr n3 (c.co + 1) c.us c.wh (c.fu - 1) D7 rest d7 c.ov)) rfl
  have p0 := (hfar w.heap.size (by omega)).trans (zd X0.out HB3.out)
  have p2 := (hfar (w.heap.size + 2) (by omega)).trans (zd X2.out HB3.out)
  have pI := (hfar W1.heap.size (by omega)).trans (zd XI.out HB3.out)
  have pv0 := (HV2.out.newtd HB3.out HO3.out).mono (Q' := (fun k => Q k \/ W1.heap.size < k)) (fun k hk _ => by rcases hk with hk | hk; exact .inl hk; exact .inr (by omega))
  have pv := ((((pv0.set (p := ⟨w.heap.size + 1, 8, none⟩) nq1 (.slice D7 rest.length d7)).set (p := ⟨w.heap.size + 1, 7, none⟩) nq1 (.int .i64 (c.fu - 1))).fu' (c.fu - 1)).set (p := ⟨w.heap.size + 1, 4, none⟩) nq1 (.int .i64 (c.co + 1))).co' (c.co + 1)
  have pb := (((HB2.out.trans (HB3.out.mono HB2.out.size)).setCell (p := ⟨w.heap.size + 1, 8, none⟩) (by show w0.heap.size <= w.heap.size + 1; omega) (.slice D7 rest.length d7)).setCell (p := ⟨w.heap.size + 1, 7, none⟩) (by show w0.heap.size <= w.heap.size + 1; omega) (.int .i64 (c.fu - 1))).setCell (p := ⟨w.heap.size + 1, 4, none⟩) (by show w0.heap.size <= w.heap.size + 1; omega) (.int .i64 (c.co + 1))
  have pk_ := (((HK2.out.below HB3.out).setCell (p := ⟨w.heap.size + 1, 8, none⟩) (.inr (Nat.le_succ _)) (.slice D7 rest.length d7)).setCell (p := ⟨w.heap.size + 1, 7, none⟩) (.inr (Nat.le_succ _)) (.int .i64 (c.fu - 1))).setCell (p := ⟨w.heap.size + 1, 4, none⟩) (.inr (Nat.le_succ _)) (.int .i64 (c.co + 1))
  have ps : W1.heap.size < (((W3.setCell ⟨w.heap.size + 1, 8, none⟩ (.slice D7 rest.length d7)).setCell ⟨w.heap.size + 1, 7, none⟩ (.int .i64 (c.fu - 1))).setCell ⟨w.heap.size + 1, 4, none⟩ (.int .i64 (c.co + 1))).heap.size := by simp; omega
  generalize ((W3.setCell ⟨w.heap.size + 1, 8, none⟩ (.slice D7 rest.length d7)).setCell ⟨w.heap.size + 1, 7, none⟩ (.int .i64 (c.fu - 1))).setCell ⟨w.heap.size + 1, 4, none⟩ (.int .i64 (c.co + 1)) = W4 at hfar p1 p0 p2 pI pv pb pk_ ps ⊢
  have START := am (show ∃ cs, MR w0 W4 (fun k => (Q k \/ W1.heap.size < k) /\ some k ≠ (Value.slice none 0 0).ownBlock) cs ({ c with td := rest, fu := c.fu - 1, co := c.co + 1 + ((a.take 0).map nd).sum, tr := c.tr ++ (a.take 0).flatMap (ev c.st) }) /\ W4.heap[w.heap.size + 1]? = some (.cells cs 98 (0, 0)) /\ ∀ k, MT cs k -> MT (Va c.ed A1 c.st n1 A2 c.ou n2 A3 c.tr n3 c.co c.us c.wh c.fu (some ad8) c.td n8 c.ov) k \/ w.heap.size <= k from ⟨_, by simpa using pv.mono (fun k hk _ => ⟨hk, by simp [Value.ownBlock]⟩), p1, fun k h => .inl h⟩)
  have P0 := am p0
  have P2 := am p2
  have PI := am pI
  have PB := am pb
  have PK := am pk_
  have PS := am ps
  clear hfar p1 p0 p2 pI pv pv0 pb pk_ ps nq1 hs3 O1 HO3 HB3 Y1 HV2 X0 X1 X2 XI
  go_wp2
  go_loopw [9, 10] (fun v9 v10 X => ∃ j : Nat, v10 = .int .i64 j /\ j <= a.length /\ Aside0 (∃ cs, MR w0 X (fun k => (Q k \/ W1.heap.size < k) /\ some k ≠ v9.ownBlock) cs ({ c with td := rest, fu := c.fu - 1, co := c.co + 1 + ((a.take j).map nd).sum, tr := c.tr ++ (a.take j).flatMap (ev c.st) }) /\ X.heap[w.heap.size + 1]? = some (.cells cs 98 (0, 0)) /\ ∀ k, MT cs k -> MT (Va c.ed A1 c.st n1 A2 c.ou n2 A3 c.tr n3 c.co c.us c.wh c.fu (some ad8) c.td n8 c.ov) k \/ w.heap.size <= k) /\ Aside0 (Kd.R (Kd.int .i64) 3 X w0.heap.size (fun k => W1.heap.size < k) v9 ((a.take j).map (va c.st))) /\ Aside0 (X.heap[w.heap.size]? = some (.cells (Vo wd Av l1 cv Ab lb cb) 25 (0, 0))) /\ Aside0 (X.heap[w.heap.size + 2]? = some (.cells (Vi false) 98 (0, 0))) /\ Aside0 (X.heap[W1.heap.size]? = some (.cells (Vj m op n B3 a d3 B4 t d4 B5 e d5) 128 (0, 0))) /\ Aside0 (Below w0.heap.size w0 X) /\ Aside0 (zN w X (MT (Va c.ed A1 c.st n1 A2 c.ou n2 A3 c.tr n3 c.co c.us c.wh c.fu (some ad8) c.td n8 c.ov))) /\ Aside0 (W1.heap.size < X.heap.size)) (fun _ v10 _ => a.length - (intOf v10).toNat)
  case atStart => exact ⟨0, rfl, Nat.zero_le _, START, ⟨Kd.R_nil _ _ _ _ _⟩, P0, P2, PI, PB, PK, PS⟩
  case round =>
   clear START P0 P2 PI PB PK PS
   obtain ⟨j, rfl, hj, HC, HO, X0, X2, XI, HB, HK, HS⟩ := hrel
   obtain ⟨cc, hcj, x1, hmt⟩ := HC.out
   have hs := HS.out
   generalize hcc : ({ c with td := rest, fu := c.fu - 1, co := c.co + 1 + ((a.take j).map nd).sum, tr := c.tr ++ (a.take j).flatMap (ev c.st) } : MC) = cj at hcj
   have HCC := am hcc
   have hcst : cj.st = c.st := by rw [<- hcc]
   have HCST := am hcst
   have HV := am hcj
   obtain ⟨A1', n1', A2', n2', A3', n3', A8', n8', rfl, hh⟩ := id hcj
   have X1 := am x1
   have HMT := am hmt
   clear hh hcj x1 hmt hcc hcst HC
   have i3 : wr.cell? ⟨W1.heap.size, 3, none⟩ = some (.slice B3 a.length d3) := (za XI.out 3).trans rfl
   by_cases hlt : j < a.length
   ·skip
    have hlt' : ((j : Nat) : Int) < (a.length : Int) := by omega
    obtain ⟨y, hy⟩ : ∃ y, a[j]? = some y := ⟨a[j], jn hlt⟩
    obtain ⟨⟨kv, hkv⟩, ⟨kn, hkn⟩, hn0, hn1, ⟨ke, hke⟩, hel⟩ := HARG.out y (List.mem_of_getElem? hy)
    obtain ⟨ad, E3, e3, rfl, q0, q1, q2, q3, l3, g3⟩ := Zk G3.out (j : Int) (by omega) hlt'
    have hrd : zi a (j : Int) = y := by unfold zi; rw [jh, jw, hy]; rfl
    rw [hrd] at q0 q1 q2 q3 l3 g3
    rw [jh] at q0 q1 q2 q3
    replace q0 := (HB.out.cell (jd w0 _ q0)).trans q0
    replace q1 := (HB.out.cell (jd w0 _ q1)).trans q1
    replace q2 := (HB.out.cell (jd w0 _ q2)).trans q2
    replace q3 := (HB.out.cell (jd w0 _ q3)).trans q3
    have hmap : (a.take (j + 1)).map (va c.st) = (a.take j).map (va c.st) ++ [va c.st y] := by rw [List.take_add_one, hy]; simp
    have hsum : ((a.take (j + 1)).map nd).sum = ((a.take j).map nd).sum + nd y := by rw [List.take_add_one, hy]; simp
    have hflat : (a.take (j + 1)).flatMap (ev c.st) = (a.take j).flatMap (ev c.st) ++ ev c.st y := by rw [List.take_add_one, hy]; simp
    obtain ⟨hb1, hb2, hb3⟩ : 0 <= ((a.take j).map nd).sum /\ ((a.take j).map nd).sum <= 10000000 /\ ((a.take j).flatMap (ev c.st)).length <= 10000000 := sums_le a _ _ hal (fun y hy => ⟨(HARG.out y hy).2.2.1, (HARG.out y hy).2.2.2.1, (HARG.out y hy).2.2.2.2.2⟩) j
    have hcjc : cj.co = c.co + 1 + ((a.take j).map nd).sum /\ cj.tr.length = c.tr.length + ((a.take j).flatMap (ev c.st)).length := by rw [<- HCC.out]; exact ⟨rfl, by simp⟩
    obtain ⟨hcjc1, hcjc2⟩ := hcjc
    have hco2 : 0 <= cj.co /\ cj.co < 920000000 := by omega
    have htr2 : cj.tr.length < 920000000 := by omega
    obtain ⟨hco20, hco21⟩ := hco2
    have HMAP := am hmap
    have HSUM := am hsum
    have HFLAT := am hflat
    have HKV := am hkv
    have HKN := am hkn
    have HKE := am hke
    have L3' := am l3
    have G3' := am g3
    clear hmap hsum hflat hkv hkn hke l3 g3 hrd hy hb1 hb2 hb3 hcjc1 hcjc2
    go_upto_region 15 with (fail)
    have ba := bal (jc wr.heap.size wr) (.cells (Ve y.f0 y.f1 y.f2 E3 y.f3 e3) 62)
    have XA := am (zI wr (.cells (Ve y.f0 y.f1 y.f2 E3 y.f3 e3) 62))
    have X0 := am (zd X0.out ba)
    have X1 := am (zd X1.out ba)
    have X2 := am (zd X2.out ba)
    have XI := am (zd XI.out ba)
    have HV := am (HV.out.below ba)
    have HB := am (HB.out.trans (ba.mono HB.out.size))
    have HK := am (HK.out.below ba)
    have HO := am (Kd.R_below HO.out ba)
    have hsa : (wr.alloc (.cells (Ve y.f0 y.f1 y.f2 E3 y.f3 e3) 62)).heap.size = wr.heap.size + 1 := by simp
    have hsa1 := Nat.le_of_eq hsa.symm
    clear ba hsa q0 q1 q2 q3 i3
    obtain ⟨ga, hga⟩ : ∃ x, wr.heap.size = x := ⟨_, rfl⟩
    rw [hga] at XA hsa1 hs
    simp only [hga]
    generalize wr.alloc (.cells (Ve y.f0 y.f1 y.f2 E3 y.f3 e3) 62) = Wa at XA X0 X1 X2 XI HV HB HK HO hsa1 ⊢
    clear hga
    have p0 : Wa.cell? ⟨w.heap.size, 0, none⟩ = some (.int .i64 wd) := (za X0.out 0).trans rfl
    have p1 : Wa.cell? ⟨w.heap.size, 1, none⟩ = some (.slice Av l1.length cv) := (za X0.out 1).trans rfl
    have c1 : Wa.cell? ⟨w.heap.size + 1, 1, none⟩ = some (.slice A1' cj.st.length n1') := (za X1.out 1).trans rfl
    obtain ⟨y0, y1, y2, y3⟩ := row4 XA.out
    have hga1 : ga < Wa.heap.size := by omega
    obtain ⟨hst1, hst2⟩ := MR.store HV.out
    have HST1 := am hst1
    have HST2 := am hst2
    clear hst1 hst2
    go_upto_region 16 with (first | (go_at_call 54; go_loud (refine (zR.calls kv wd Av cv l1 (some ⟨Wa.heap.size, 0, none⟩) 1 [cj.st] y.f0 y.f1 y.f2 E3 e3 y.f3 (va c.st y) (Wa.alloc (.cells #[.slice A1' cj.st.length n1'] 26)) (ji HR1.out (HB.out.trans ((bal (jc Wa.heap.size Wa) (.cells #[.slice A1' cj.st.length n1'] 26)).mono HB.out.size))) HC1.out (z7i (zI Wa (.cells #[.slice A1' cj.st.length n1'] 26)) (ji HST1.out (bal (jc Wa.heap.size Wa) (.cells #[.slice A1' cj.st.length n1'] 26))) HST2.out) (jk _) (ji G3'.out (HB.out.trans ((bal (jc Wa.heap.size Wa) (.cells #[.slice A1' cj.st.length n1'] 26)).mono HB.out.size))) L3'.out (HCST.out ▸ HKV.out)).mono ?_); rintro en Wv ⟨rfl, hb⟩; have BV := am ((bal (jc Wa.heap.size Wa) (.cells #[.slice A1' cj.st.length n1'] 26)).trans (hb.mono (by simp))); clear hb p0 p1 c1 y0 y1 y2 y3) | ((with_reducible refine Zq (b := .append) (xs := #[.tmp 57, .tmp 68]) rfl ?_); at_builtin; go_loud (refine Kd.R_append (Kd.int .i64) (w0 := w0) w0.heap.size rfl (.tmp 57) (.tmp 68) 26 3 (.int .i64 0) 8 rfl huN z7u rfl (by decide) (by omega) _ ((a.take j).map (va c.st)) (va c.st y) [.int .i64 (va c.st y)] (fun k => W1.heap.size < k) (fun _ => False) rfl rfl ?aP (fun _ hk => hk.elim) ?aF ?aO ?aB ?aS ?aL ?_); (case aP => rfl); (case aF => exact fun k hk => by have := BV.out.size; omega); (case aO => exact Kd.R_below HO.out BV.out); (case aB => exact HB.out.trans (BV.out.mono HB.out.size)); (case aS => exact (HB.out.trans (BV.out.mono HB.out.size)).size); (case aL => have : ((a.take j).map (va c.st)).length <= 10 := (by rw [List.length_map, List.length_take]; omega); omega); intro v1 Wb ho hb hg hat; have HG := am hg; have HOb := am (HMAP.out ▸ ho); have HBb := am hb; have HAT := am hat; clear ho hb hg hat))
    have ho9 := Kd.R_below HO.out BV.out
    have X0 := am (zO (zd X0.out BV.out) HG.out (Kd.R_ne ho9 (zd X0.out BV.out) (by decide)))
    have X1 := am (zO (zd X1.out BV.out) HG.out (Kd.R_ne ho9 (zd X1.out BV.out) (by decide)))
    have X2 := am (zO (zd X2.out BV.out) HG.out (Kd.R_ne ho9 (zd X2.out BV.out) (by decide)))
    have XI := am (zO (zd XI.out BV.out) HG.out (Kd.R_ne ho9 (zd XI.out BV.out) (by decide)))
    have XA := am (zO (zd XA.out BV.out) HG.out (Kd.R_ne ho9 (zd XA.out BV.out) (by decide)))
    have HV := am (MR.after (HV.out.below BV.out) HG.out HAT.out)
    have HK := am (zN.of_grown HG.out (HK.out.below BV.out) (fun k e => .inr (by have := HO.out.1 k e; omega)))
    have hsb : ga < Wb.heap.size := by have := HG.out.size; have := BV.out.size; omega
    clear ho9 HG HAT BV HO HB HST1 HST2
    have XD := zj (jc Wb.heap.size Wb)
    have X0 := am (kdr X0.out)
    have X1 := am (kdr X1.out)
    have X2 := am (kdr X2.out)
    have XI := am (kdr XI.out)
    have XA := am (kdr XA.out)
    have HV := am (HV.out.below XD)
    have HB := am (HBb.out.trans (XD.mono HBb.out.size))
    have HK := am (HK.out.below XD)
    have HO := am (Kd.R_below HOb.out XD)
    replace hsb : ga < Wb.drew.heap.size := hsb
    have hwc : IntKind.i64.wrap (cj.co + nd y) = cj.co + nd y := by rw [zP]; unfold wrap64; omega
    have hwd : wrap64 (cj.co + nd y) = cj.co + nd y := by unfold wrap64; omega
    obtain ⟨ys, hys⟩ : ∃ ys, cj.tr ++ ev c.st y = ys := ⟨_, rfl⟩
    have HYS := am hys
    clear hys
    clear XD HBb HOb
    go_wp2
    refine sT 9 [0, 1, 2, 3, 4, 5, 6, 7, 8] [8] fun hHeld => ?_
    generalize Wb.drew = Y at X0 X1 X2 XI XA HV HB HK HO hsb hHeld ⊢
    have hq0_0 := bq X1.out
    have hq0_1 := bq XA.out
    repeat first | refine nx ?_ | refine ldT hHeld ?_ | refine un ?_
    refine on fun K hK => ?_
    refine gC Tryz.func71 ?_
    refine (Zx.calls kn y.f0 y.f1 y.f2 E3 e3 y.f3 (nd y) Y (ji G3'.out HB.out) L3'.out HKN.out).mono ?_
    rintro en Y1 ⟨rfl, hb⟩
    have X0 := am (zd X0.out hb)
    have X1 := am (zd X1.out hb)
    have X2 := am (zd X2.out hb)
    have XI := am (zd XI.out hb)
    have XA := am (zd XA.out hb)
    have HV := am (HV.out.below hb)
    have HB := am (HB.out.trans (hb.mono HB.out.size))
    have HK := am (HK.out.below hb)
    have HO := am (Kd.R_below HO.out hb)
    replace hsb := ltl hsb hb.size
    refine ⟨_, rfl, ?_⟩
    refine hK.out _ _ (kp hHeld) fun hHeld => ?_
    clear hK K
    refine nM ?_
    repeat first | refine nx ?_ | refine ldT hHeld ?_ | refine un ?_
    refine la fun K hK => ?_
    have z4 : Y1.cell? ⟨w.heap.size + 1, 4, none⟩ = some (.int .i64 cj.co) := (za X1.out 4).trans rfl
    have f4 := zf X1.out 4
    refine ZX (w1 := ?_) (by rfl) rfl ?_ ?_
    rotate_left
    ·go_simp
     rfl
    refine hK.out _ _ ?_
    clear hK K
    refine dn ?_
    have x0 := (jl Y1 ⟨w.heap.size + 1, 4, none⟩ (.int .i64 (cj.co + nd y)) (w.heap.size) (by show w.heap.size ≠ w.heap.size + 1; omega)).trans X0.out
    have x2 := (jl Y1 ⟨w.heap.size + 1, 4, none⟩ (.int .i64 (cj.co + nd y)) ((w.heap.size + 2)) (by show (w.heap.size + 2) ≠ w.heap.size + 1; omega)).trans X2.out
    have xI := (jl Y1 ⟨w.heap.size + 1, 4, none⟩ (.int .i64 (cj.co + nd y)) (W1.heap.size) (by show W1.heap.size ≠ w.heap.size + 1; omega)).trans XI.out
    have xA := (jl Y1 ⟨w.heap.size + 1, 4, none⟩ (.int .i64 (cj.co + nd y)) (ga) (by show ga ≠ w.heap.size + 1; omega)).trans XA.out
    have x1 := zJ X1.out 4 (.int .i64 (cj.co + nd y)) (cs' := (Va cj.ed A1' cj.st n1' A2' cj.ou n2' A3' cj.tr n3' (cj.co + nd y) cj.us cj.wh cj.fu A8' cj.td n8' cj.ov)) rfl
    have nqs : ¬ ((Q (w.heap.size + 1) \/ W1.heap.size < w.heap.size + 1) /\ some (w.heap.size + 1) ≠ v1.ownBlock) := fun h => by rcases h with ⟨h | h, _⟩; (have := HQ.out _ h; omega); omega
    have hv := (HV.out.set (p := ⟨w.heap.size + 1, 4, none⟩) nqs (.int .i64 (cj.co + nd y))).co' (cj.co + nd y)
    have hb := HB.out.setCell (p := ⟨w.heap.size + 1, 4, none⟩) (by show w0.heap.size <= w.heap.size + 1; omega) (.int .i64 (cj.co + nd y))
    have hk := HK.out.setCell (p := ⟨w.heap.size + 1, 4, none⟩) (.inr (Nat.le_succ _)) (.int .i64 (cj.co + nd y))
    have ho := Kd.R_far (p := ⟨w.heap.size + 1, 4, none⟩) (Kd.R_bound HO.out) (fun k hk => by show k ≠ w.heap.size + 1; have := hk.1; omega) (.int .i64 (cj.co + nd y))
    replace ho := jr ho (ok' := fun k => W1.heap.size < k) (fun k hk => hk.1)
    have hs := hsb
    replace hs : ga < (Y1.setCell ⟨w.heap.size + 1, 4, none⟩ (.int .i64 (cj.co + nd y))).heap.size := by simpa using hs
    clear z4 f4 nqs hsb X0 X1 X2 XI XA HV HB HK HO
    generalize Y1.setCell ⟨w.heap.size + 1, 4, none⟩ (.int .i64 (cj.co + nd y)) = Wc at x0 x1 x2 xI xA hv hb hk ho hs ⊢
    have XD := zj (jc Wc.heap.size Wc)
    have X0 := am (kdr x0)
    have X1 := am (kdr x1)
    have X2 := am (kdr x2)
    have XI := am (kdr xI)
    have XA := am (kdr xA)
    have HV := am (hv.below XD)
    have HB := am (hb.trans (XD.mono hb.size))
    have HK := am (hk.below XD)
    have HO := am (Kd.R_below ho XD)
    have hsb : ga < Wc.drew.heap.size := hs
    clear x0 x1 x2 xI xA hv hb hk ho hs XD
    go_wp2
    refine sT 16 [0, 1, 2, 3, 4, 5, 6, 7, 8, 9, 10, 11, 12, 13, 14, 15] [12, 15] fun hHeld => ?_
    generalize Wc.drew = Y at X0 X1 X2 XI XA HV HB HK HO hsb hHeld ⊢
    have hq1_0 := bq X0.out
    have hq1_1 := bq X1.out
    have hq1_2 := bq XA.out
    repeat first | refine nx ?_ | refine ldT hHeld ?_ | refine un ?_
    refine on fun K hK => ?_
    obtain ⟨hs1, hs2⟩ := MR.storeF HV.out
    refine gC Tryz.func72 ?_
    refine (zL.calls ke wd Av cv l1 _ A1' n1' cj.st y.f0 y.f1 y.f2 E3 e3 y.f3 (ev c.st y) Y (ji HR1.out HB.out) HC1.out (Kd.V_mk hs1 hs2) (ji G3'.out HB.out) L3'.out (HCST.out ▸ HKE.out)).mono ?_
    rintro en Y1 ⟨ve, rfl, hoe, hb⟩
    obtain ⟨DE, de, rfl⟩ := js hoe
    have HOE := am (Kd.R_reads' hoe).2.2
    have X0 := am (zd X0.out hb)
    have X1 := am (zd X1.out hb)
    have X2 := am (zd X2.out hb)
    have XI := am (zd XI.out hb)
    have XA := am (zd XA.out hb)
    have HV := am (HV.out.below hb)
    have HB := am (HB.out.trans (hb.mono HB.out.size))
    have HK := am (HK.out.below hb)
    have HO := am (Kd.R_below HO.out hb)
    replace hsb := ltl hsb hb.size
    clear hoe hs1 hs2
    refine ⟨_, rfl, ?_⟩
    refine hK.out _ _ (kp hHeld) fun hHeld => ?_
    clear hK K
    refine nM ?_
    refine la fun K hK => ?_
    obtain ⟨A3g, n3g, e3g, h3g, hgr⟩ := HV.out.grow_tr
    obtain ⟨rfl, rfl⟩ : A3' = A3g /\ n3' = n3g := by
     have := sj e3g
     injection this with h1 h2 h3
     exact ⟨h1, h3⟩
    clear e3g
    have hv1l : ∀ k, v1.ownBlock = some k -> k < Y1.heap.size := Kd.R_lt HO.out
    refine Kd.R_append_rows_step Ye (w0 := w0) w0.heap.size (by rfl) (.tmp 80) (.tmp 89) 42 144 (.agg #[.int .i64 0, .int .i64 0, .int .i64 0]) 24 rfl huE z5W rfl (by decide) (by omega) (.slice A3' cj.tr.length n3') cj.tr (ev c.st y) DE (ev c.st y).length de (fun k => (Q k \/ W1.heap.size < k) /\ some k ≠ v1.ownBlock) (fun _ => False) rfl rfl h3g HOE.out (fun x cs hk => by obtain rfl := z3D hk; exact z1O _ _ _ _) (fun _ hk => hk.elim) (fun k hk => ⟨.inr (by omega), fun e => by have := hv1l k e.symm; omega⟩) HB.out HB.out.size (by omega) ?_
    intro vt Wd ho hb hg hat
    rw [HYS.out] at ho
    obtain ⟨V2, M2⟩ := hgr Wd vt _ _ (fun k hk => hk) ho hg hat
    obtain ⟨AT, nt, rfl⟩ := js ho
    have X0 := am (zO X0.out hg (Kd.R_ne h3g X0.out (by decide)))
    have X1 := am (zO X1.out hg (Kd.R_ne h3g X1.out (by decide)))
    have X2 := am (zO X2.out hg (Kd.R_ne h3g X2.out (by decide)))
    have XI := am (zO XI.out hg (Kd.R_ne h3g XI.out (by decide)))
    have XA := am (zO XA.out hg (Kd.R_ne h3g XA.out (by decide)))
    have HV := am V2
    have hwY : w.heap.size <= Y1.heap.size := by omega
    have HM3 := am (fun k h => (M2 k h).imp id (fun h => Nat.le_trans hwY h))
    have HK := am (zN.of_grown hg HK.out (fun k e => HMT.out k (.inr e)))
    have HO := am (Kd.R_over' HO.out (Kd.R_typed h3g) (by decide) hg)
    have HB := am hb
    replace hsb := ltl hsb hg.size
    have hszg := hg.size
    clear ho hat h3g hgr V2 M2 hv1l HOE
    refine hK.out _ _ ?_
    clear hK K
    refine nM ?_
    repeat first | refine nx ?_ | refine ldT hHeld ?_ | refine un ?_
    refine la fun K hK => ?_
    have z3 : Wd.cell? ⟨w.heap.size + 1, 3, none⟩ = some (.slice A3' cj.tr.length n3') := (za X1.out 3).trans rfl
    have f3 := zf X1.out 3
    refine ZX (w1 := ?_) (by rfl) rfl ?_ ?_
    rotate_left
    ·go_simp
     rfl
    refine hK.out _ _ ?_
    clear hK K
    refine dn ?_
    have x0 := (jl Wd ⟨w.heap.size + 1, 3, none⟩ (.slice AT ys.length nt) (w.heap.size) (by show w.heap.size ≠ w.heap.size + 1; omega)).trans X0.out
    have x2 := (jl Wd ⟨w.heap.size + 1, 3, none⟩ (.slice AT ys.length nt) ((w.heap.size + 2)) (by show (w.heap.size + 2) ≠ w.heap.size + 1; omega)).trans X2.out
    have xI := (jl Wd ⟨w.heap.size + 1, 3, none⟩ (.slice AT ys.length nt) (W1.heap.size) (by show W1.heap.size ≠ w.heap.size + 1; omega)).trans XI.out
    have xA := (jl Wd ⟨w.heap.size + 1, 3, none⟩ (.slice AT ys.length nt) (ga) (by show ga ≠ w.heap.size + 1; omega)).trans XA.out
    have x1 := zJ X1.out 3 (.slice AT ys.length nt) (cs' := (Va cj.ed A1' cj.st n1' A2' cj.ou n2' AT ys nt (cj.co + nd y) cj.us cj.wh cj.fu A8' cj.td n8' cj.ov)) rfl
    have nqs : ¬ ((Q (w.heap.size + 1) \/ W1.heap.size < w.heap.size + 1) /\ some (w.heap.size + 1) ≠ v1.ownBlock) := fun h => by rcases h with ⟨h | h, _⟩; (have := HQ.out _ h; omega); omega
    have hv := (HV.out.set (p := ⟨w.heap.size + 1, 3, none⟩) nqs (.slice AT ys.length nt))
    have hb := HB.out.setCell (p := ⟨w.heap.size + 1, 3, none⟩) (by show w0.heap.size <= w.heap.size + 1; omega) (.slice AT ys.length nt)
    have hk := HK.out.setCell (p := ⟨w.heap.size + 1, 3, none⟩) (.inr (Nat.le_succ _)) (.slice AT ys.length nt)
    have ho := Kd.R_far (p := ⟨w.heap.size + 1, 3, none⟩) (Kd.R_bound HO.out) (fun k hk => by show k ≠ w.heap.size + 1; have := hk.1; omega) (.slice AT ys.length nt)
    replace ho := jr ho (ok' := fun k => W1.heap.size < k) (fun k hk => hk.1)
    have hs := hsb
    replace hs : ga < (Wd.setCell ⟨w.heap.size + 1, 3, none⟩ (.slice AT ys.length nt)).heap.size := by simpa using hs
    clear z3 f3 nqs hsb X0 X1 X2 XI XA HV HB HK HO
    generalize Wd.setCell ⟨w.heap.size + 1, 3, none⟩ (.slice AT ys.length nt) = We at x0 x1 x2 xI xA hv hb hk ho hs ⊢
    have hnext : ({ cj with co := cj.co + nd y, tr := ys } : MC) = { c with td := rest, fu := c.fu - 1, co := c.co + 1 + ((a.take (j + 1)).map nd).sum, tr := c.tr ++ (a.take (j + 1)).flatMap (ev c.st) } := by rw [<- HYS.out, <- HCC.out, HSUM.out, HFLAT.out]; simp [Int.add_assoc]
    rw [hnext] at hv
    have HVN := am hv
    clear hnext hv xA
    go_wp2
    exact ⟨⟨j + 1, by go_num, by omega, ⟨_, HVN.out, x1, fun k h => by rcases HM3.out k h with h | h; exact HMT.out k h; exact .inr h⟩, ⟨ho⟩, ⟨x0⟩, ⟨x2⟩, ⟨xI⟩, ⟨hb⟩, ⟨hk⟩, ⟨by omega⟩⟩, by simp [intOf]; omega⟩
   ·skip
    obtain rfl : j = a.length := by omega
    rw [List.take_length] at HO
    have hct : cj = Y9 nd (ev c.st) c a rest := by rw [<- HCC.out, List.take_length]; rfl
    have HCT := am hct
    obtain ⟨vs, hvs⟩ : ∃ vs, a.map (va c.st) = vs := ⟨_, rfl⟩
    rw [hvs] at HO
    have HVS := am hvs
    clear hct hj hlt hvs
    obtain ⟨Dv, dv, rfl⟩ := js HO.out
    have MQ := am (show ∀ k, MT (Va cj.ed A1' cj.st n1' A2' cj.ou n2' A3' cj.tr n3' cj.co cj.us cj.wh cj.fu A8' cj.td n8' cj.ov) k -> (Q k \/ W1.heap.size < k) /\ some k ≠ (Value.slice Dv vs.length dv).ownBlock from fun k hk => (HV.out.mt hk).1)
    have HVF := am (show Kd.F (Kd.int .i64) wr (fun k => ¬ MT (Va cj.ed A1' cj.st n1' A2' cj.ou n2' A3' cj.tr n3' cj.co cj.us cj.wh cj.fu A8' cj.td n8' cj.ov) k) Dv vs.length vs from Kd.R_F (jr (Kd.R_tight rfl HO.out) (fun k hk hm => (MQ.out k hm).2 hk)))
    have HNX := am (show Kd.F (YT Y4 w0) wr (fun k => ¬ MT (Va cj.ed A1' cj.st n1' A2' cj.ou n2' A3' cj.tr n3' cj.co cj.us cj.wh cj.fu A8' cj.td n8' cj.ov) k) An rest.length rest from Kd.F_mono (Kd.F_kept HNF.out HK.out (fun k hk => hk.1.2)) (fun k hk hm => by rcases HMT.out k hm with h | h; exact hk.1.2 h; have := hk.2; omega))
    have hnn : rest.length <= n8 - 1 := by have := HLT.out; omega
    have hvn := (Kd.R_reads' HO.out).2.1
    have hws : w.heap.size + 2 < wr.heap.size := by omega
    obtain ⟨p0, p1, p2⟩ := row3 X0.out
    obtain ⟨c0, c1, c2, c3, c4, c5, c6, c7, c8, c9⟩ := yf X1.out
    clear i3
    obtain ⟨i0, i1, i2, i3, i4, i5⟩ := z75 XI.out
    go_wp2_with (first | (go_at_call 73; go_loud (refine (m_act.calls w0 wr _ _ cj cn wd Av cv l1 Ab lb cb Ap_ np pk m op n B3 d3 a B4 d4 t B5 d5 e Dv dv vs An (n8 - 1) rest HB.out HV.out.bound (fun k hk => hk.2) HR1.out HC1.out HPK.out hpn G3.out L3.out G4.out L4.out G5.out L5.out HVF.out hvn HNX.out hnn (HVS.out ▸ HCT.out ▸ HACT.out)).mono ?_); rintro en W9 ⟨cs2, rfl, hv2, hm2, hb2, hk2⟩; have X3 := am ((hk2.2 (w.heap.size + 2) hws (fun h => by rcases (MQ.out _ h).1 with h | h; exact jm (HQ.out _ h) (by omega); omega)).trans X2.out); obtain ⟨c2, hc2⟩ : ∃ c2 : MC, c2 = yL cn l1 pk cj m op n t e ⟨m, ⟨op, n, a, t, e⟩⟩ vs rest := ⟨_, rfl⟩; have HV3 := am (show MR w0 W9 (fun k => (((Q k \/ W1.heap.size < k) /\ some k ≠ (Value.slice Dv vs.length dv).ownBlock) /\ k < wr.heap.size) \/ wr.heap.size <= k) cs2 c2 by rw [hc2]; exact hv2); have HM3 := am hm2; have HC3 := am hc2; obtain ⟨A1_, n1_, A2_, n2_, A3_, n3_, A8_, n8_, rfl, hh2⟩ := id HV3.out; clear hh2; have HB3 := am hb2; have HK3 := am (HK.out.then_ hk2 (fun k hk => HMT.out k hk)); clear hv2 hm2 hb2 hk2 hc2; obtain ⟨z0, z1, z2, z3, z4, z5, z6, z7, z8, z9⟩ := yf X3.out; obtain ⟨g0, g1, g2, g3, g4, g5, g6, g7, g8, g9⟩ := z12 X3.out))
    exact yO (g := w.heap.size + 2) HV3.out (by rw [HC3.out, HMS.out, ja HFU.out, <- HCT.out, HVS.out]) (fun k h => by rcases HM3.out k h with h | h; exact HMT.out k h; exact .inr (by omega)) X3.out rfl HB3.out HK3.out (by omega) (by omega) (fun h => by rcases h with ⟨⟨h | h, _⟩, _⟩ | h; exact jm (HQ.out _ h) (by omega); omega; omega) (fun k hk => by rcases hk with ⟨⟨h | h, _⟩, _⟩ | h; exact .inl h; exact .inr (by omega); exact .inr (by omega)) rfl rfl rfl rfl
theorem row7 {w : World} {g : Nat} {a0 a1 a2 a3 a4 a5 a6 : Value} {t : TypeId} (h : w.heap[g]? = some (.cells #[a0, a1, a2, a3, a4, a5, a6] t (0, 0))) : w.cell? ⟨g, 0, none⟩ = some a0 /\ w.cell? ⟨g, 1, none⟩ = some a1 /\ w.cell? ⟨g, 2, none⟩ = some a2 /\ w.cell? ⟨g, 3, none⟩ = some a3 /\ w.cell? ⟨g, 4, none⟩ = some a4 /\ w.cell? ⟨g, 5, none⟩ = some a5 /\ w.cell? ⟨g, 6, none⟩ = some a6 :=
 ⟨(za h 0).trans rfl, (za h 1).trans rfl, (za h 2).trans rfl, (za h 3).trans rfl, (za h 4).trans rfl, (za h 5).trans rfl, (za h 6).trans rfl⟩
theorem MR.outs {w0 W : World} {Q : Nat -> Prop} {c : MC} {ed co us wh fu : Int} {A1 A2 A3 A8 : Option Addr} {n1 n2 n3 n8 m1 m2 m3 m8 : Nat} {ov : Bool} (h : MR w0 W Q (Vu ed A1 m1 n1 A2 m2 n2 A3 m3 n3 co us wh fu A8 m8 n8 ov) c) :
  (c.ou.length <= n2 /\ Kd.C z32 W A2 c.ou.length c.ou) /\ c.tr.length <= n3 /\ Kd.C Ye W A3 c.tr.length c.tr := by
 obtain ⟨B1, k1, B2, k2, B3, k3, B8, k8, e, h2, h3, l1, f1, l8, f8⟩ := h
 simp only [Array.mk.injEq, List.cons.injEq, Value.slice.injEq] at e
 obtain ⟨_, _, ⟨rfl, _, rfl⟩, ⟨rfl, _, rfl⟩, _⟩ := e
 exact ⟨⟨(Kd.R_reads' h2).2.1, (Kd.R_reads' h2).2.2⟩, (Kd.R_reads' h3).2.1, (Kd.R_reads' h3).2.2⟩
def Ya (cn : List S81 -> Int) (fuel : Int) (st : List Int) (body : List S81) : MC := ⟨0, st, [], [], 0, 0, 0, fuel, Zu cn 0 body, false⟩
theorem m_begin.calls (cn : List S81 -> Int) (w0 w : World) (kc : Nat) (wd : Int) (Av : Option Addr) (cv : Nat) (l1 : List S76) (Ab : Option Addr) (cb : Nat) (body : List S81) (fuel : Int) (As : Option Addr) (ns : Nat) (st : List Int) (Ap_ : Option Addr) (np : Nat) (pk : List Int) (hB : Below w0.heap.size w0 w) (hb : Kd.C k81 w0 Ab body.length body) (hbn : body.length <= cb) (hg : GI cn 0 body) (hs : Kd.C (Kd.int .i64) w0 As st.length st) (hsn : st.length <= ns) (hc : Zm.f kc st = some st) :
  Calls Tryz.prog 40 #[.agg (Vf wd Av l1 cv Ab body cb), .int .i64 fuel, .agg (Vn As st ns Ap_ pk np)] w fun e w' => ∃ cs, e = .returned (.agg cs) /\ MR w0 w' (fun k => w.heap.size <= k) cs (Ya cn fuel st body) /\ (∀ k, ¬ MT cs k) /\ Below w.heap.size w w' := by
 obtain ⟨b_, hsz_, x0_, x1_, x2_⟩ := z7F w (.cells (Vf wd Av l1 cv Ab body cb) 25) (.cells (Vn As st ns Ap_ pk np) 28) (.cells (Vi false) 98)
 have HB0 := am b_
 have X0 := am x0_
 have X1 := am x1_
 have X2 := am x2_
 have HS := am hs
 have HSN := am hsn
 have HBB := am hb
 have HBN := am hbn
 have HG := am hg
 have HC := am hc
 have HW := am hB
 have hsz1 := Nat.le_of_eq hsz_.symm
 have hsz2 := Nat.le_of_eq hsz_
 have hu := Tryz.underlying98
 have huR := Tryz.underlying44
 have huP := Tryz.underlying25
 have huT := Tryz.underlying28
 clear b_ hsz_ x0_ x1_ x2_ hs hsn hb hbn hg hc hB
 go_enter Tryz.func40, Tryz.ntmps40
 go_upto_region 1 with (fail)
 generalize ((w.alloc (.cells (Vf wd Av l1 cv Ab body cb) 25)).alloc (.cells (Vn As st ns Ap_ pk np) 28)).alloc (.cells (Vi false) 98) = W0 at HB0 X0 X1 X2 hsz1 hsz2 ⊢
 have XD := zj (jc W0.heap.size W0)
 have HB0 := am (HB0.out.trans (XD.mono HB0.out.size))
 have X0 := am (kdr X0.out)
 have X1 := am (kdr X1.out)
 have X2 := am (kdr X2.out)
 replace hsz1 : w.heap.size + 3 <= W0.drew.heap.size := hsz1
 clear XD hsz2
 go_wp2
 refine sT 10 [0, 1, 4, 5, 6, 2, 3, 7, 8, 9] [7, 9] fun hHeld => ?_
 generalize W0.drew = Y at HB0 X0 X1 X2 hsz1 hHeld ⊢
 have hq0_0 := bq X1.out
 have hq0_1 := bq X0.out
 repeat first | refine nx ?_ | refine ldT hHeld ?_ | refine un ?_
 refine on fun K hK => ?_
 refine gC Tryz.func68 ?_
 refine (Zm.calls kc As ns st st Y (ji HS.out (HW.out.trans (HB0.out.mono HW.out.size))) HSN.out HC.out).mono ?_
 rintro en Y1 ⟨v, rfl, ho, hb⟩
 obtain ⟨D, d, rfl⟩ := js ho
 have HO := am (Kd.R_lower ho hsz1)
 have X0 := am (zd X0.out hb)
 have X1 := am (zd X1.out hb)
 have X2 := am (zd X2.out hb)
 have HB0 := am (HB0.out.trans (hb.mono HB0.out.size))
 replace hsz1 := Nat.le_trans hsz1 hb.size
 clear ho
 refine ⟨_, rfl, ?_⟩
 refine hK.out _ _ (kp hHeld) fun hHeld => ?_
 clear hK K
 refine nM ?_
 repeat first | refine nx ?_ | refine ldT hHeld ?_ | refine un ?_
 refine la fun K hK => ?_
 refine gC Tryz.func69 ?_
 refine (z41.calls cn w0 Y1 Ab cb body 0 (HW.out.trans (HB0.out.mono HW.out.size)) HBB.out HBN.out HG.out).mono ?_
 rintro en Y2 ⟨D8, d8, rfl, ho, hb⟩
 have HO8 := am (Kd.R_lower ho hsz1)
 have HO := am (Kd.R_below HO.out hb)
 have X2 := am (zd X2.out hb)
 have HB0 := am (HB0.out.trans (hb.mono HB0.out.size))
 replace hsz1 := Nat.le_trans hsz1 hb.size
 clear ho X0 X1
 refine ⟨_, rfl, ?_⟩
 refine hK.out _ _ ?_
 clear hK K
 refine nM ?_
 repeat first | refine nx ?_ | refine ldT hHeld ?_ | refine un ?_
 refine la fun K hK => ?_
 have z_q := bq X2.out
 have g_q := bq X2.out
 refine ZX (w1 := ?_) (by rfl) rfl ?_ ?_
 rotate_left
 ·go_simp
  rfl
 refine hK.out _ _ ?_
 clear hK K
 refine dn ?_
 go_wp2
 have hmt : ∀ k, ¬ MT (Vz D st d fuel D8 (Zu cn 0 body) d8 false) k := fun k h => by rcases h with h | h <;> simp [Value.ownBlock] at h
 have HV : MR w0 Y2 (fun k => w.heap.size + 3 <= k) (Vz D st d fuel D8 (Zu cn 0 body) d8 false) (Ya cn fuel st body) := ⟨D, d, none, 0, none, 0, D8, d8, rfl, Kd.R_nil _ _ _ _ _, Kd.R_nil _ _ _ _ _, (Kd.R_reads' HO.out).2.1, Kd.R_F (jr (Kd.R_bound HO.out) (fun k hk => ⟨hk.2.1, hmt k⟩)), (Kd.R_reads' HO8.out).2.1, Kd.R_F (jr (Kd.R_bound HO8.out) (fun k hk => ⟨hk.2.1, hmt k⟩))⟩
 change bodyPost _ _ _ _ _ (Y2.setCells (w.heap.size + 2) 0 [.int .i64 0, .slice D st.length d, .slice none 0 0, .slice none 0 0, .int .i64 0, .int .i64 0, .int .i64 0, .int .i64 fuel, .slice D8 (Zu cn 0 body).length d8, .bool false])
 have hf := Za (vs := [.int .i64 0, .slice D st.length d, .slice none 0 0, .slice none 0 0, .int .i64 0, .int .i64 0, .int .i64 0, .int .i64 fuel, .slice D8 (Zu cn 0 body).length d8, .bool false]) X2.out rfl
 refine bodyPost_ret (results_cell_row rfl _ _ (w.heap.size + 2) 98 (Vz D st d fuel D8 (Zu cn 0 body) d8 false) (0, 0) _ rfl hf hu rfl (by kernel_rfl)) rfl ?_
 exact ⟨_, rfl, (HV.fill (by omega) _).mono (fun k hk _ => by omega), hmt, Zb HB0.out (by omega)⟩
def Yv (cn : List S81 -> Int) (l1 : List S76) (pk : List Int) (nd : S62 -> Int) (ev : List Int -> S62 -> List Z4) (va : List Int -> S62 -> Int) : Nat -> MC -> Option MC
 | 0, _ => none
 | n + 1, c => if yz c = true then some c else Yv cn l1 pk nd ev va n (yZ cn l1 pk nd ev va c)
def z5g (cn : List S81 -> Int) (wd : Int) (l1 : List S76) (pk : List Int) (nd : S62 -> Int) (ev : List Int -> S62 -> List Z4) (va : List Int -> S62 -> Int) : Nat -> MC -> Prop
 | 0, _ => True
 | n + 1, c => yz c = false -> TFit cn wd l1 pk nd ev va c /\ z5g cn wd l1 pk nd ev va n (yZ cn l1 pk nd ev va c)
theorem z5P.callsM (cn : List S81 -> Int) (nd : S62 -> Int) (ev : List Int -> S62 -> List Z4) (va : List Int -> S62 -> Int) (r : Nat) (w : World) (kc : Nat) (wd : Int) (Av : Option Addr) (cv : Nat) (l1 : List S76) (Ab : Option Addr) (cb : Nat) (body : List S81) (fuel : Int) (As : Option Addr) (ns : Nat) (st : List Int) (Ap_ : Option Addr) (np : Nat) (pk : List Int) (c' : MC) (hr1 : Kd.C k76 w Av l1.length l1) (hc1 : l1.length <= cv) (hb : Kd.C k81 w Ab body.length body) (hbn : body.length <= cb) (hg : GI cn 0 body) (hs : Kd.C (Kd.int .i64) w As st.length st) (hsn : st.length <= ns) (hc : Zm.f kc st = some st) (hpk : Kd.C (Kd.int .i64) w Ap_ pk.length pk) (hpn : pk.length <= np)
  (hL : Yv cn l1 pk nd ev va r (Ya cn fuel st body) = some c') (hA : z5g cn wd l1 pk nd ev va r (Ya cn fuel st body)) :
  Calls Tryz.prog 14 #[.agg (Vf wd Av l1 cv Ab body cb), .int .i64 fuel, .agg (Vn As st ns Ap_ pk np)] w fun e w' => ∃ A1 n1 A2 n2 A3 n3 A8 n8, e = .returned (.agg (Vk c'.ed A1 c'.st n1 A2 c'.ou n2 A3 c'.tr n3 c'.co c'.us c'.wh)) /\ MR w w' (fun k => w.heap.size <= k) (Va c'.ed A1 c'.st n1 A2 c'.ou n2 A3 c'.tr n3 c'.co c'.us c'.wh c'.fu A8 c'.td n8 c'.ov) c' /\ Below w.heap.size w w' := by
 obtain ⟨b_, hsz_, x0_, x1_, x2_⟩ := z7F w (.cells (Vf wd Av l1 cv Ab body cb) 25) (.cells (Vn As st ns Ap_ pk np) 28) (.cells Vhq 44)
 have HB0 := am b_
 have X0 := am x0_
 have X1 := am x1_
 have X2 := am x2_
 have HR1 := am hr1
 have HC1 := am hc1
 have HBB := am hb
 have HBN := am hbn
 have HG := am hg
 have HS := am hs
 have HSN := am hsn
 have HC := am hc
 have HPK := am hpk
 have HPN := am hpn
 obtain ⟨c0, hc0⟩ : ∃ c0, c0 = Ya cn fuel st body := ⟨_, rfl⟩
 rw [<- hc0] at hL hA
 have HC0 := am hc0
 have HL := am hL
 have HA := am hA
 have hsz1 := Nat.le_of_eq hsz_.symm
 have hu := Tryz.underlying98
 have huR := Tryz.underlying44
 have huP := Tryz.underlying25
 have huT := Tryz.underlying28
 clear b_ hsz_ x0_ x1_ x2_ hr1 hc1 hb hbn hg hs hsn hc hpk hpn hL hA hc0
 go_enter Tryz.func14, Tryz.ntmps14
 go_upto_region 1 with (fail)
 generalize ((w.alloc (.cells (Vf wd Av l1 cv Ab body cb) 25)).alloc (.cells (Vn As st ns Ap_ pk np) 28)).alloc (.cells Vhq 44) = W0 at HB0 X0 X1 X2 hsz1 ⊢
 have p_q := bq X0.out
 have s0 : W0.cell? ⟨w.heap.size + 1, 0, none⟩ = some (.slice As st.length ns) := (za X1.out 0).trans rfl
 have s1 : W0.cell? ⟨w.heap.size + 1, 1, none⟩ = some (.slice Ap_ pk.length np) := (za X1.out 1).trans rfl
 go_upto_region 2 with (first | (go_at_call 40; refine (m_begin.calls cn w W0 kc wd Av cv l1 Ab cb body fuel As ns st Ap_ np pk HB0.out HBB.out HBN.out HG.out HS.out HSN.out HC.out).mono ?_; rintro en W1 ⟨cs, rfl, hv, hm, hb⟩; rw [<- HC0.out] at hv; obtain ⟨A1, n1, A2, n2, A3, n3, A8, n8, rfl, hh⟩ := id hv; clear hh; have HV := am hv; have HB1 := am hb; clear hv hb hm; clear p_q s0 s1))
 have hs01 := HB1.out.size
 have ba := bal HB1.out (.cells (Va c0.ed A1 c0.st n1 A2 c0.ou n2 A3 c0.tr n3 c0.co c0.us c0.wh c0.fu A8 c0.td n8 c0.ov) 98)
 have x3 := zI W1 (.cells (Va c0.ed A1 c0.st n1 A2 c0.ou n2 A3 c0.tr n3 c0.co c0.us c0.wh c0.fu A8 c0.td n8 c0.ov) 98)
 have b1 := bal (jc W1.heap.size W1) (.cells (Va c0.ed A1 c0.st n1 A2 c0.ou n2 A3 c0.tr n3 c0.co c0.us c0.wh c0.fu A8 c0.td n8 c0.ov) 98)
 have X0 := am (zd X0.out ba)
 have X1 := am (zd X1.out ba)
 have X2 := am (zd X2.out ba)
 have X3 := am x3
 have BB := am (HB0.out.trans (ba.mono HB0.out.size))
 have VV := am ((HV.out.bound.below b1).mono (Q' := (fun k => w.heap.size + 3 <= k /\ k ≠ W1.heap.size)) (fun k hk _ => ⟨by omega, by omega⟩))
 have hs3 : W1.heap.size < (W1.alloc (.cells (Va c0.ed A1 c0.st n1 A2 c0.ou n2 A3 c0.tr n3 c0.co c0.us c0.wh c0.fu A8 c0.td n8 c0.ov) 98)).heap.size := by simp
 clear ba x3 b1 HV HB1 HB0
 generalize W1.alloc (.cells (Va c0.ed A1 c0.st n1 A2 c0.ou n2 A3 c0.tr n3 c0.co c0.us c0.wh c0.fu A8 c0.td n8 c0.ov) 98) = W2 at X0 X1 X2 X3 BB VV hs3 ⊢
 have SS := am hs3
 clear hs3
 go_loopg [] r (fun kq X => Aside0 (∃ c cs, Yv cn l1 pk nd ev va kq c = some c' /\ z5g cn wd l1 pk nd ev va kq c /\ MR w X (fun k => w.heap.size + 3 <= k /\ k ≠ W1.heap.size) cs c /\ X.heap[W1.heap.size]? = some (.cells cs 98 (0, 0))) /\ Aside0 (X.heap[w.heap.size]? = some (.cells (Vf wd Av l1 cv Ab body cb) 25 (0, 0))) /\ Aside0 (X.heap[w.heap.size + 1]? = some (.cells (Vn As st ns Ap_ pk np) 28 (0, 0))) /\ Aside0 (X.heap[w.heap.size + 2]? = some (.cells Vhq 44 (0, 0))) /\ Aside0 (Below w.heap.size w X) /\ Aside0 (W1.heap.size < X.heap.size))
 case atStart => exact ⟨⟨_, _, HL.out, HA.out, VV.out, X3.out⟩, X0, X1, X2, BB, SS⟩
 case round =>
  clear X0 X1 X2 X3 BB VV HL HA SS
  obtain ⟨HC_, X0, X1, X2, BB, SS⟩ := hrel
  obtain ⟨c, cs, hl, ha, hv, x3⟩ := HC_.out
  obtain ⟨A1', n1', A2', n2', A3', n3', A8', n8', rfl, hh⟩ := id hv
  clear hh HC_
  have HL := am hl
  have HA := am ha
  have HV := am hv
  have X3 := am x3
  have hss := SS.out
  clear hl ha hv x3
  cases gk with
  | zero => exact jm HL.out (by simp [Yv])
  | succ gn =>
  obtain ⟨c0, c1, c2, c3, c4, c5, c6, c7, c8, c9⟩ := yf X3.out
  by_cases he : yz c = true
  ·skip
   have HE := am he
   have hcc : c = c' := by have := HL.out; rw [Yv, jb he] at this; exact sj this
   have HCC := am hcc
   clear he hcc
   go_upto_region 4 with (first | (go_at_call 41; refine (z42.calls wr c A1' n1' A2' n2' A3' n3' A8' n8').mono ?_; rintro en W3 ⟨rfl, hb⟩; rw [HE.out]; have B3 := am hb; clear hb))
   clear c0 c1 c2 c3 c4 c5 c6 c7 c8 c9
   have X2 := am (zd X2.out B3.out)
   have X3 := am (zd X3.out B3.out)
   have HV := am (HV.out.below B3.out)
   have BB := am (BB.out.trans (B3.out.mono BB.out.size))
   obtain ⟨c0, c1, c2, c3, c4, c5, c6, c7, c8, c9⟩ := yf X3.out
   have z_q := bq X2.out
   obtain ⟨g0, g1, g2, g3, g4, g5, g6, _, _, _⟩ := z12 X2.out
   go_wp2
   change bodyPost _ _ _ _ _ (W3.setCells (w.heap.size + 2) 0 (Vlq c.ed A1' c.st n1' A2' c.ou n2' A3' c.tr n3' c.co c.us c.wh))
   have hf := Za (vs := (Vlq c.ed A1' c.st n1' A2' c.ou n2' A3' c.tr n3' c.co c.us c.wh)) X2.out rfl
   refine bodyPost_ret (results_cell_row rfl _ _ (w.heap.size + 2) 44 (Vk c.ed A1' c.st n1' A2' c.ou n2' A3' c.tr n3' c.co c.us c.wh) (0, 0) _ rfl hf huR rfl (by kernel_rfl)) rfl ?_
   have hv := HV.out.fill (g := w.heap.size + 2) (by omega) (Vlq c.ed A1' c.st n1' A2' c.ou n2' A3' c.tr n3' c.co c.us c.wh)
   rw [<- HCC.out]
   exact ⟨_, _, _, _, _, _, _, _, rfl, hv.mono (fun k hk _ => by have := hk.1; omega), Zb BB.out (by omega)⟩
  ·skip
   have he' : yz c = false := by simpa using he
   have HE := am he'
   obtain ⟨hft, hnx⟩ := HA.out he'
   have hl : Yv cn l1 pk nd ev va gn (yZ cn l1 pk nd ev va c) = some c' := by have := HL.out; rw [Yv, ja he] at this; exact this
   have HFT := am hft
   have HNX := am hnx
   have HL1 := am hl
   clear he he' hft hnx hl
   go_upto_region 3 with (first | (go_at_call 41; refine (z42.calls wr c A1' n1' A2' n2' A3' n3' A8' n8').mono ?_; rintro en W3 ⟨rfl, hb⟩; rw [HE.out]; have B3 := am hb; clear hb))
   clear c0 c1 c2 c3 c4 c5 c6 c7 c8 c9
   have hs34 := B3.out.size
   have Z0 := am (zd X0.out B3.out)
   have Z1 := am (zd X1.out B3.out)
   have Z2 := am (zd X2.out B3.out)
   have Z3 := am (zd X3.out B3.out)
   have HV3 := am (HV.out.below B3.out)
   have BB3 := am (BB.out.trans (B3.out.mono BB.out.size))
   clear X0 X1 X2 X3 HV BB B3
   have p_q := bq Z0.out
   obtain ⟨c0, c1, c2, c3, c4, c5, c6, c7, c8, c9⟩ := yf Z3.out
   have s1 : W3.cell? ⟨w.heap.size + 1, 1, none⟩ = some (.slice Ap_ pk.length np) := (za Z1.out 1).trans rfl
   go_wp2_with (first | (go_at_call 42; go_loud (refine (m_step.calls w W3 _ _ c cn nd ev va wd Av cv l1 Ab body.length cb Ap_ np pk BB3.out HV3.out.bound (fun k hk => hk.2) HR1.out HC1.out HPK.out HPN.out HE.out HFT.out).mono ?_); rintro en W4 ⟨cs2, rfl, hv2, hm2, hb2, hk2⟩; have nmt := fun k (hk : MT (Va c.ed A1' c.st n1' A2' c.ou n2' A3' c.tr n3' c.co c.us c.wh c.fu A8' c.td n8' c.ov) k) => (HV3.out.mt hk).1; have Y0 := am ((hk2.2 w.heap.size (by omega) (fun h => by have := nmt _ h; omega)).trans Z0.out); have Y1 := am ((hk2.2 (w.heap.size + 1) (by omega) (fun h => by have := nmt _ h; omega)).trans Z1.out); have Y2 := am ((hk2.2 (w.heap.size + 2) (by omega) (fun h => by have := nmt _ h; omega)).trans Z2.out); have Y3 := am ((hk2.2 W1.heap.size (by omega) (fun h => by have := nmt _ h; omega)).trans Z3.out); have HV4 := am hv2; have HB4 := am hb2; have hs4 := hk2.1; obtain ⟨cn_, hcn⟩ : ∃ cn_, cn_ = yZ cn l1 pk nd ev va c := ⟨_, rfl⟩; rw [<- hcn] at hv2; have HV4 := am hv2; have HCN := am hcn; obtain ⟨A1_, n1_, A2_, n2_, A3_, n3_, A8_, n8_, rfl, hh2⟩ := id hv2; clear hh2 hv2 hm2 hb2 hk2 nmt hcn p_q c0 c1 c2 c3 c4 c5 c6 c7 c8 c9; have y_q := bq Y3.out; obtain ⟨g0, g1, g2, g3, g4, g5, g6, g7, g8, g9⟩ := z12 Y3.out))
   have F3 := am (Za (vs := (Vb cn_.ed A1_ cn_.st n1_ A2_ cn_.ou n2_ A3_ cn_.tr n3_ cn_.co cn_.us cn_.wh cn_.fu A8_ cn_.td n8_ cn_.ov)) Y3.out rfl)
   have F0 := am ((Zj (vs := (Vb cn_.ed A1_ cn_.st n1_ A2_ cn_.ou n2_ A3_ cn_.tr n3_ cn_.co cn_.us cn_.wh cn_.fu A8_ cn_.td n8_ cn_.ov)) (g := W1.heap.size) (w := W4) (k := w.heap.size) (by omega)).trans Y0.out)
   have F1 := am ((Zj (vs := (Vb cn_.ed A1_ cn_.st n1_ A2_ cn_.ou n2_ A3_ cn_.tr n3_ cn_.co cn_.us cn_.wh cn_.fu A8_ cn_.td n8_ cn_.ov)) (g := W1.heap.size) (w := W4) (k := w.heap.size + 1) (by omega)).trans Y1.out)
   have F2 := am ((Zj (vs := (Vb cn_.ed A1_ cn_.st n1_ A2_ cn_.ou n2_ A3_ cn_.tr n3_ cn_.co cn_.us cn_.wh cn_.fu A8_ cn_.td n8_ cn_.ov)) (g := W1.heap.size) (w := W4) (k := w.heap.size + 2) (by omega)).trans Y2.out)
   have GV := am ((HV4.out.fill (g := W1.heap.size) (fun h => by rcases h with h | h; exact h.1.2 rfl; omega) (Vb cn_.ed A1_ cn_.st n1_ A2_ cn_.ou n2_ A3_ cn_.tr n3_ cn_.co cn_.us cn_.wh cn_.fu A8_ cn_.td n8_ cn_.ov)).mono (Q' := (fun k => w.heap.size + 3 <= k /\ k ≠ W1.heap.size)) (fun k hk _ => by rcases hk with hk | hk; exact hk.1; exact ⟨by omega, by omega⟩))
   have GB := am (Zb (vs := (Vb cn_.ed A1_ cn_.st n1_ A2_ cn_.ou n2_ A3_ cn_.tr n3_ cn_.co cn_.us cn_.wh cn_.fu A8_ cn_.td n8_ cn_.ov)) (g := W1.heap.size) HB4.out (by omega))
   have GS := am (show W1.heap.size < (W4.setCells W1.heap.size 0 (Vb cn_.ed A1_ cn_.st n1_ A2_ cn_.ou n2_ A3_ cn_.tr n3_ cn_.co cn_.us cn_.wh cn_.fu A8_ cn_.td n8_ cn_.ov)).heap.size by rw [yM]; omega)
   go_roundg gn
   case measure => omega
   case rel =>
    exact ⟨⟨cn_, (Va cn_.ed A1_ cn_.st n1_ A2_ cn_.ou n2_ A3_ cn_.tr n3_ cn_.co cn_.us cn_.wh cn_.fu A8_ cn_.td n8_ cn_.ov), by rw [HCN.out]; exact HL1.out, by rw [HCN.out]; exact HNX.out, GV.out, F3.out⟩, F0, F1, F2, GB, GS⟩
theorem z5P.callsE (cn : List S81 -> Int) (nd : S62 -> Int) (ev : List Int -> S62 -> List Z4) (va : List Int -> S62 -> Int) (r : Nat) (w : World) (kc : Nat) (wd : Int) (Av : Option Addr) (cv : Nat) (l1 : List S76) (Ab : Option Addr) (cb : Nat) (body : List S81) (fuel : Int) (As : Option Addr) (ns : Nat) (st : List Int) (Ap_ : Option Addr) (np : Nat) (pk : List Int) (c' : MC) (hr1 : Kd.C k76 w Av l1.length l1) (hc1 : l1.length <= cv) (hb : Kd.C k81 w Ab body.length body) (hbn : body.length <= cb) (hg : GI cn 0 body) (hs : Kd.C (Kd.int .i64) w As st.length st) (hsn : st.length <= ns) (hc : Zm.f kc st = some st) (hpk : Kd.C (Kd.int .i64) w Ap_ pk.length pk) (hpn : pk.length <= np)
  (hL : Yv cn l1 pk nd ev va r (Ya cn fuel st body) = some c') (hA : z5g cn wd l1 pk nd ev va r (Ya cn fuel st body)) :
  Calls Tryz.prog 14 #[.agg (Vf wd Av l1 cv Ab body cb), .int .i64 fuel, .agg (Vn As st ns Ap_ pk np)] w fun e w' => ∃ A1 n1 A2 n2 A3 n3, e = .returned (.agg (Vk c'.ed A1 c'.st n1 A2 c'.ou n2 A3 c'.tr n3 c'.co c'.us c'.wh)) /\ c'.tr.length <= n3 /\ Kd.F Ye w' (fun k => w.heap.size <= k /\ k < w'.heap.size) A3 c'.tr.length c'.tr /\ Below w.heap.size w w' := by
 refine (z5P.callsM cn nd ev va r w kc wd Av cv l1 Ab cb body fuel As ns st Ap_ np pk c' hr1 hc1 hb hbn hg hs hsn hc hpk hpn hL hA).mono ?_
 rintro e w' ⟨A1, n1, A2, n2, A3, n3, A8, n8, rfl, hv, hb'⟩
 obtain ⟨_, l3⟩ := MR.outs hv
 obtain ⟨B1, k1, B2, k2, B3, k3, B8, k8, e, _, h3, _⟩ := hv
 simp only [Array.mk.injEq, List.cons.injEq, Value.slice.injEq] at e
 obtain ⟨_, _, _, ⟨rfl, _, rfl⟩, _⟩ := e
 exact ⟨_, _, _, _, _, _, rfl, l3.1, Kd.R_F (jr (Kd.R_bound h3) (fun k hk => ⟨hk.2.1, hk.2.2.1⟩)), hb'⟩
section
variable {wd : Int} {l1 : List S76} {pk : List Int} {ins : List S93}
theorem z6i {c : VC} {r N : Nat} {fst : Int} (ho : c.ov = false) (hp : 0 <= c.pc) (hl : c.re.length = 64) (hr : r < 64) (hN : N < l1.length) (hF : zc (fun k => zW.f k l1 (N : Int)) fst) (h0 : 0 <= fst + yt l1 c.re N 0) (h1 : fst + yt l1 c.re N 0 < c.st.length)
  (hi : ins[c.pc.toNat]? = some ⟨4, N, 0, r, 0⟩) : stp wd l1 pk ins c (Yz l1 fst N 0 r (zV c)) := by
 refine ⟨ho, hp, _, hi, ?_, fun hb => ?_⟩
 ·obtain ⟨k0, hk⟩ := hF
  refine ⟨k0, fun k h => ?_⟩
  have := hk k h
  dsimp only at this
  simp only [vDo, if_true, show ¬ ((4 : Int) = 0) by decide, show ¬ ((4 : Int) = 1) by decide, show ¬ ((4 : Int) = 2) by decide, show ¬ ((4 : Int) = 3) by decide, if_false]
  rw [this]
  simp
 ·obtain ⟨k0, hk⟩ := hF
  refine ⟨k0, fun k h => ⟨hb, ?_⟩⟩
  have hf := hk k h
  dsimp only at hf
  simp only [show ¬ ((4 : Int) = 0) by decide, show ¬ ((4 : Int) = 1) by decide, show ¬ ((4 : Int) = 2) by decide, show ¬ ((4 : Int) = 3) by decide, show ¬ ((4 : Int) = 6) by decide, show ¬ ((4 : Int) = 7) by decide, show ¬ ((4 : Int) = 8) by decide, show ¬ ((4 : Int) = 9) by decide, show ¬ ((4 : Int) = 10) by decide, false_implies, true_and, and_true, forall_const]
  refine ⟨yn hl hr, fun f' e' => ?_⟩
  rw [hf] at e'
  obtain rfl := sj e'
  exact ⟨by omega, by omega, fun _ => yn (r := 0) hl (by omega), by rw [jh]; exact h0, by rw [jh]; exact h1⟩
theorem z70 {c : VC} {q : Int} (ho : c.ov = false) (hp : 0 <= c.pc) (hi : ins[c.pc.toNat]? = some ⟨5, q, 0, 0, 0⟩) : stp wd l1 pk ins c { zV c with pc := q } := by
 refine ⟨ho, hp, _, hi, ?_, fun hb => ⟨0, fun k _ => ⟨hb, by simp⟩⟩⟩
 simp [vDo]
 exact zc.pure _
theorem z6V {c : VC} {q : Int} (ho : c.ov = false) (hp : 0 <= c.pc) (hl : c.re.length = 64) (hi : ins[c.pc.toNat]? = some ⟨6, 0, q, 0, 0⟩) : stp wd l1 pk ins c { zV c with tr := c.tr ++ [⟨0, c.pc, if rg c.re 0 = 0 then 1 else 0⟩], pc := if rg c.re 0 = 0 then q else c.pc + 1 } := by
 refine ⟨ho, hp, _, hi, ?_, fun hb => ⟨0, fun k _ => ⟨hb, by simp; exact yn (r := 0) hl (by omega)⟩⟩⟩
 simp [vDo]
 exact zc.pure _
theorem stp_out {c : VC} {lv : Int} (ho : c.ov = false) (hp : 0 <= c.pc) (hl : c.re.length = 64) (hi : ins[c.pc.toNat]? = some ⟨7, lv, 0, 0, 0⟩) : stp wd l1 pk ins c { zV c with ou := c.ou ++ [⟨lv, rg c.re 0⟩], pc := c.pc + 1 } := by
 refine ⟨ho, hp, _, hi, ?_, fun hb => ⟨0, fun k _ => ⟨hb, by simp; exact yn (r := 0) hl (by omega)⟩⟩⟩
 simp [vDo]
 exact zc.pure _
theorem z6X {c : VC} {r : Nat} (ho : c.ov = false) (hp : 0 <= c.pc) (hl : c.re.length = 64) (hr : r < 64) (hi : ins[c.pc.toNat]? = some ⟨8, r, 0, 0, 0⟩) : stp wd l1 pk ins c (if (pk.length : Int) <= c.us then Yf 4 (zV c) else ZN r (rg pk c.us) { zV c with us := c.us + 1 }) := by
 refine ⟨ho, hp, _, hi, ?_, fun hb => ⟨0, fun k _ => ⟨hb, by simp; exact yn hl hr⟩⟩⟩
 have hu : (zV c).us = c.us := rfl
 simp only [vDo, if_true, show ¬ ((8 : Int) = 0) by decide, show ¬ ((8 : Int) = 1) by decide, show ¬ ((8 : Int) = 2) by decide, show ¬ ((8 : Int) = 3) by decide, show ¬ ((8 : Int) = 4) by decide, show ¬ ((8 : Int) = 5) by decide, show ¬ ((8 : Int) = 6) by decide, show ¬ ((8 : Int) = 7) by decide, if_false, hu]
 split <;> exact zc.pure _
theorem z6Y {c : VC} (ho : c.ov = false) (hp : 0 <= c.pc) (hl : c.re.length = 64) (hi : ins[c.pc.toNat]? = some ⟨9, 0, 0, 0, 0⟩) : stp wd l1 pk ins c (if rg c.re 0 = 0 then Yf 1 (zV c) else { zV c with pc := c.pc + 1 }) := by
 refine ⟨ho, hp, _, hi, ?_, fun hb => ⟨0, fun k _ => ⟨hb, by simp; exact yn (r := 0) hl (by omega)⟩⟩⟩
 have hu : rg (zV c).re 0 = rg c.re 0 := rfl
 simp only [vDo, if_true, show ¬ ((9 : Int) = 0) by decide, show ¬ ((9 : Int) = 1) by decide, show ¬ ((9 : Int) = 2) by decide, show ¬ ((9 : Int) = 3) by decide, show ¬ ((9 : Int) = 4) by decide, show ¬ ((9 : Int) = 5) by decide, show ¬ ((9 : Int) = 6) by decide, show ¬ ((9 : Int) = 7) by decide, show ¬ ((9 : Int) = 8) by decide, if_false, hu]
 split <;> exact zc.pure _
theorem z6Z {c : VC} (ho : c.ov = false) (hp : 0 <= c.pc) (hl : c.re.length = 64) (hi : ins[c.pc.toNat]? = some ⟨10, 0, 0, 0, 0⟩) : stp wd l1 pk ins c (if rg c.re 0 = 0 then Yf 2 (zV c) else { zV c with pc := c.pc + 1 }) := by
 refine ⟨ho, hp, _, hi, ?_, fun hb => ⟨0, fun k _ => ⟨hb, by simp; exact yn (r := 0) hl (by omega)⟩⟩⟩
 have hu : rg (zV c).re 0 = rg c.re 0 := rfl
 simp only [vDo, if_true, show ¬ ((10 : Int) = 0) by decide, show ¬ ((10 : Int) = 1) by decide, show ¬ ((10 : Int) = 2) by decide, show ¬ ((10 : Int) = 3) by decide, show ¬ ((10 : Int) = 4) by decide, show ¬ ((10 : Int) = 5) by decide, show ¬ ((10 : Int) = 6) by decide, show ¬ ((10 : Int) = 7) by decide, show ¬ ((10 : Int) = 8) by decide, show ¬ ((10 : Int) = 9) by decide, if_false, hu]
 split <;> exact zc.pure _
theorem z6W {c : VC} (ho : c.ov = false) (hp : 0 <= c.pc) (hi : ins[c.pc.toNat]? = some ⟨11, 0, 0, 0, 0⟩) : stp wd l1 pk ins c (Yf 0 (zV c)) := by
 refine ⟨ho, hp, _, hi, ?_, fun hb => ⟨0, fun k _ => ⟨hb, by simp⟩⟩⟩
 simp [vDo]
 exact zc.pure _
end
section
variable (n : Nat) (l1 : List S76) (pk : List Int) (ins : List S93)
open Classical in
noncomputable def vxs (st : List Int) (x : S62) : Int × List Z4 := if h : ∃ q : Int × List Z4, SimX n l1 pk ins st x q.1 q.2 then h.choose else (0, [])
noncomputable def vaX (st : List Int) (x : S62) : Int := (vxs n l1 pk ins st x).1
noncomputable def evX (st : List Int) (x : S62) : List Z4 := (vxs n l1 pk ins st x).2
end
def z0s (n : Nat) (l1 : List S76) : Prop := 1 <= n /\ n <= 8 /\ l1.length <= 18 /\ ∀ v ∈ l1, 1 <= v.f2 /\ v.f2 <= 8
def z2u (n : Nat) (l1 : List S76) (st : List Int) : Prop := (st.length : Int) = cs l1 /\ ∀ a ∈ st, WW n a
section
variable {n : Nat} {l1 : List S76} {pk : List Int} {ins : List S93}
theorem z0u (hh : z0s n l1) {st : List Int} (hs : z2u n l1 st) {x : S62} (hx : eOK (n : Int) l1 1 x = true) (hn : eN x <= 1000) : SimX n l1 pk ins st x (vaX n l1 pk ins st x) (evX n l1 pk ins st x) := by
 obtain ⟨h1, h8, hl, hv⟩ := hh
 obtain ⟨v, es, h⟩ := (sim_all n h1 h8 l1 hl hv pk ins st hs.1 hs.2).1 x hx hn
 have : ∃ q : Int × List Z4, SimX n l1 pk ins st x q.1 q.2 := ⟨(v, es), h⟩
 unfold vaX evX vxs
 rw [dif_pos this]
 exact this.choose_spec
theorem z4f (hh : z0s n l1) {st : List Int} (hs : z2u n l1 st) : ∀ (l : List S62), (∀ x ∈ l, eOK (n : Int) l1 1 x = true /\ eN x <= 1000) -> XsM n l1 pk ins st l (l.map (vaX n l1 pk ins st)) (l.flatMap (evX n l1 pk ins st))
 | [], _ => z6b
 | x :: r, h => by
  obtain ⟨h1, h2⟩ := h x (List.mem_cons_self ..)
  exact z4U (z0u hh hs h1 h2).2.2.2.2.2 (z4f hh hs r (fun y hy => h y (List.mem_cons_of_mem _ hy)))
end
theorem z1F : (∀ x, YS x -> sN x <= 1000000 -> zc (fun k => zZ.f k x.f3) (sCs x.f3 : Int) /\ zc (fun k => zZ.f k x.f4) (sCs x.f4 : Int)) /\
  (∀ suf, ∀ (pre : List S81) (n : Nat), ZM suf -> (pre ++ suf).length <= 9223372036854775807 -> n + sNs suf <= 1000000 -> zc (fun k => zZ.l0 k (pre ++ suf) (n : Int) (pre.length : Int)) ((n + sCs suf : Nat) : Int)) := by
 refine z1k (fun a b l t e h1 h2 => ?_) ?_ (fun x r ih1 ih2 => ?_)
 ·intro hg hn
  rw [z0n] at hg
  rw [z0j] at hn
  simp only at hn
  constructor
  ·refine zc.succ ?_
   simp only [zZ.f]
   have := h1 [] 0 hg.2.1.2 hg.2.1.1 (by omega)
   rw [Nat.zero_add] at this
   exact this
  ·refine zc.succ ?_
   simp only [zZ.f]
   have := h2 [] 0 hg.2.2.2 hg.2.2.1 (by omega)
   rw [Nat.zero_add] at this
   exact this
 ·intro pre n _ _ _
  refine zc.succ ?_
  simp only [zZ.l0, ZL, if_false]
  rw [z0z, Nat.add_zero]
  exact zc.pure _
 ·intro pre n hg hl hn
  rw [Yw] at hg
  rw [yF] at hn
  have hle := (z73.1 x).1
  rw [z0R] at hle
  refine zc.succ ?_
  simp only [zZ.l0, Zo, Z6, if_true, yc]
  obtain ⟨t1, t2⟩ := ih1 hg.1 (by omega)
  refine zc.bind t1 (zc.bind t2 ?_)
  have t3 := ih2 (pre ++ [x]) (n + (1 + sCs x.f3 + sCs x.f4)) hg.2 (by rw [<- zQ]; exact hl) (by omega)
  rw [<- zQ] at t3
  rw [Zi pre x r hl, w64 (n := (n : Int) + 1) (by omega) (by omega), w64 (n := (n : Int) + 1 + (sCs x.f3 : Int)) (by omega) (by omega), w64 (n := (n : Int) + 1 + (sCs x.f3 : Int) + (sCs x.f4 : Int)) (by omega) (by omega),
   show (n : Int) + 1 + (sCs x.f3 : Int) + (sCs x.f4 : Int) = ((n + (1 + sCs x.f3 + sCs x.f4) : Nat) : Int) by omega]
  rw [Yq, z0R, show n + (1 + sCs x.f3 + sCs x.f4 + sCs r) = n + (1 + sCs x.f3 + sCs x.f4) + sCs r by omega]
  exact t3
def cnS (l : List S81) : Int := (sCs l : Int)
def ndX (x : S62) : Int := (eN x : Int)
def IV (n : Nat) (l1 : List S76) (m : Int) (s : S81) : Prop := 0 <= m /\ m + sC s <= 1000 /\ sOK (n : Int) l1 s = true /\ sN s <= 400 /\ YS s
def IVs (n : Nat) (l1 : List S76) (m : Int) (l : List S81) : Prop := 0 <= m /\ m + sCs l <= 1000 /\ YC (n : Int) l1 l = true /\ sNs l <= 400 /\ ZM l
section
variable {n : Nat} {l1 : List S76} {pk : List Int} {ins : List S93}
theorem IVs.cons {m : Int} {x : S81} {r : List S81} (h : IVs n l1 m (x :: r)) : IV n l1 m x /\ IVs n l1 (m + 1 + cnS x.f3 + cnS x.f4) r := by
 obtain ⟨h0, h1, h2, h3, h4⟩ := h
 rw [Yq] at h1
 rw [yF] at h3
 rw [yX, jg] at h2
 have hc := z0R x
 push_cast at h1
 refine ⟨⟨h0, by omega, h2.1, by omega, h4.1⟩, ?_, ?_, h2.2, by omega, h4.2⟩ <;> (unfold cnS; omega)
theorem IVs.items : ∀ {l : List S81} {m : Int}, IVs n l1 m l -> ∀ x ∈ Zu cnS m l, IV n l1 x.f0 x.f1
 | [], _, _, x, hx => by simp [Zu] at hx
 | y :: r, m, h, x, hx => by
  obtain ⟨h1, h2⟩ := h.cons
  rw [Zu] at hx
  rcases List.mem_cons.1 hx with rfl | hx
  ·exact h1
  ·exact IVs.items h2 x hx
theorem IV.then_ {m : Int} {s : S81} (h : IV n l1 m s) : IVs n l1 (m + 1) s.f3 /\ IVs n l1 (m + 1 + cnS s.f3) s.f4 := by
 obtain ⟨h0, h1, h2, h3, h4⟩ := h
 rw [z0y, jg, jg, jg] at h2
 rw [z1Q] at h4
 have hc := z0R s
 have hn := z0j s
 unfold cnS
 exact ⟨⟨by omega, by omega, h2.2.1, by omega, h4.2.1.2⟩, ⟨by omega, by omega, h2.2.2.1, by omega, h4.2.2.2⟩⟩
theorem z5N : ∀ (l : List S81) (m : Int), z2U cnS m l = m + sCs l
 | [], m => by simp [z2U, z0z]
 | x :: r, m => by
  rw [z2U, z5N r, Yq]
  have := z0R x
  unfold cnS
  omega
theorem z4s : ∀ (l : List S81) (j : Nat), sCs (l.take j) <= sCs l
 | [], j => by simp
 | x :: r, 0 => by simp [z0z]
 | x :: r, j + 1 => by
  rw [List.take_succ_cons, Yq, Yq]
  have := z4s r j
  omega
theorem IVs.mem : ∀ {l : List S81} {m : Int}, IVs n l1 m l -> ∀ x ∈ l, YS x /\ sN x <= 400 /\ sC x <= 1000
 | [], _, _, x, hx => by simp at hx
 | y :: r, m, h, x, hx => by
  obtain ⟨h1, h2⟩ := h.cons
  rcases List.mem_cons.1 hx with rfl | hx
  ·exact ⟨h1.2.2.2.2, h1.2.2.2.1, by have := h1.1; have := h1.2.1; omega⟩
  ·exact IVs.mem h2 x hx
theorem yo {α : Type} {g : Nat -> Option α} {v : α} (h : zc g v) : ∃ k, g k = some v := ⟨h.choose, h.choose_spec _ (jk _)⟩
theorem z1N : ∀ l : List S81, l.length <= sNs l
 | [] => Nat.zero_le _
 | x :: r => by
  rw [jp, yF]
  have := z1N r
  have := z0j x
  omega
theorem IVs.gi {l : List S81} {m : Int} (h : IVs n l1 m l) : GI cnS m l := by
 have hl := z1N l
 obtain ⟨h0, h1, h2, h3, h4⟩ := id h
 refine ⟨by omega, fun x hx => ?_, fun j _ => ?_⟩
 ·obtain ⟨g1, g2, g3⟩ := h.mem x hx
  obtain ⟨t1, t2⟩ := z1F.1 x g1 (by omega)
  have := z0R x
  unfold cnS
  exact ⟨yo t1, yo t2, by omega, by omega, by omega, by omega⟩
 ·have := z4s l j
  rw [z5N]
  omega
end
def z3h (n : Nat) (l1 : List S76) (c : MC) : Prop :=
 0 <= c.fu /\ c.fu <= 4096 /\ z2u n l1 c.st /\ (∀ x ∈ c.td, IV n l1 x.f0 x.f1) /\ 0 <= c.us /\ c.us <= 4096 - c.fu /\ 0 <= c.co /\ c.co <= 401 * (4096 - c.fu) /\ (c.tr.length : Int) <= 402 * (4096 - c.fu) /\ (c.ou.length : Int) <= 4096 - c.fu /\ (c.td.length : Int) <= 401 * (4097 - c.fu)
theorem z2M : ∀ (suf pre acc : List Int), (pre ++ suf).length <= 1000 -> acc.length + suf.length <= 1000 -> zc (fun k => Zm.l0 k (pre ++ suf) acc (pre.length : Int)) (acc ++ suf)
 | [], pre, acc, _, _ => by
  refine zc.succ ?_
  simp only [Zm.l0, ZL, if_false]
  rw [List.append_nil]
  exact zc.pure _
 | s :: r, pre, acc, hl, ha => by
  refine zc.succ ?_
  rw [jp] at ha
  simp only [Zm.l0, Zo, Z6, if_true, z5a]
  refine zc.ifT (by omega) ?_
  rw [Zi pre s r (by omega)]
  have ih := z2M r (pre ++ [s]) (acc ++ [s]) (by rw [<- zQ]; exact hl) (by rw [je]; simp only [jp, List.length_nil]; omega)
  rw [<- zQ, ju, List.singleton_append] at ih
  exact ih
theorem z2d (l : List Int) (h : l.length <= 1000) : zc (fun k => Zm.f k l) l := by
 unfold Zm.f
 exact z2M l [] [] h (by simp only [List.length_nil]; omega)
section
variable {n : Nat} {l1 : List S76} {pk : List Int} {ins : List S93}
theorem z0s.cs_le (hh : z0s n l1) : 0 <= cs l1 /\ cs l1 <= 144 := by
 have := z1S l1 hh.2.2.2
 have := hh.2.2.1
 omega
theorem z7N (hh : z0s n l1) {N i : Int} (h0 : 0 <= N) (h1 : N < (l1.length : Int)) (i0 : 0 <= i) : atP l1 N i = cs (l1.take N.toNat) + i % (zp l1 N).f2 /\ 0 <= atP l1 N i /\ atP l1 N i < cs l1 /\ 1 <= (zp l1 N).f2 /\ zc (fun k => z09.f k l1 N i) (atP l1 N i) := by
 obtain ⟨ta, p1, p8, q0, q1⟩ := z7M l1 hh.2.2.1 hh.2.2.2 N i h0 h1 i0
 have e : atP l1 N i = cs (l1.take N.toNat) + i % (zp l1 N).f2 := by unfold atP cs; rw [z4l i0]
 have hm0 : 0 <= i % (zp l1 N).f2 := Int.emod_nonneg _ (by omega)
 have hm1 : i % (zp l1 N).f2 < (zp l1 N).f2 := Int.emod_lt_of_pos _ (by omega)
 rw [e]
 exact ⟨rfl, by omega, by omega, p1, ta⟩
theorem sfit (hh : z0s n l1) {st : List Int} (hs : (st.length : Int) = cs l1) {N i : Int} (a : Int) (h0 : 0 <= N) (h1 : N < (l1.length : Int)) (i0 : 0 <= i) : SFit l1 st N i a := by
 obtain ⟨_, p0, p1, c1, ta⟩ := z7N hh h0 h1 i0
 have hc := hh.cs_le
 refine ⟨h0, h1, by omega, yo ta, yo ?_⟩
 unfold z22.f
 exact zc.bind (z2d st (by omega)) (zc.ifT p0 (zc.ifT (by omega) (zc.pure _)))
theorem z0r {m : Int} {op N : Int} {a : List S62} {t e : List S81} (h : IV n l1 m ⟨op, N, a, t, e⟩) :
  (∀ y ∈ a, eOK (n : Int) l1 1 y = true /\ eN y <= 400 /\ eD y <= 16 /\ Yg y) /\ eNs a <= 400 /\ a.length <= 2 /\
  ((op = 0 /\ 0 <= N /\ N < (l1.length : Int) /\ a.length = if (zp l1 N).f2 > 1 then 2 else 1) \/ ((op = 1 \/ op = 2) /\ a.length = 1) \/ (op = 3 /\ a.length = 1 /\ 0 <= N /\ N <= 47) \/ (op = 4 /\ 0 <= N /\ N < (l1.length : Int) /\ a.length = if (zp l1 N).f2 > 1 then 1 else 0) \/ ((op = 5 \/ op = 6) /\ a.length = 1)) /\
  (¬ (op = 1 \/ op = 2) -> t = [] /\ e = []) /\ (op = 2 -> e = []) := by
 obtain ⟨h0, h1, h2, h3, h4⟩ := h
 rw [z0y, jg, jg, jg] at h2
 obtain ⟨hh, _, _, hall⟩ := h2
 rw [z0n] at h4
 rw [z0j] at h3
 dsimp only at hh hall h3
 unfold z0c at hh
 rw [jg, decide_eq_true_iff] at hh
 obtain ⟨har, hne⟩ := hh
 have hal := z3I l1 op N
 refine ⟨fun y hy => ?_, by omega, by omega, ?_, ?_, ?_⟩
 ·have := List.all_eq_true.1 hall y hy
  unfold eIs at this
  rw [jg, jg, decide_eq_true_iff, decide_eq_true_iff] at this
  exact ⟨this.2.2, this.1, this.2.1, z34 h4.1.2 y hy⟩
 ·unfold YY at har
  by_cases o0 : op = 0
  ·rw [jb o0] at har
   split at har
   ·rename_i hb
    refine .inl ⟨o0, hb.1, hb.2, ?_⟩
    split at har <;> rename_i hc <;> simp only [hc, if_true, if_false] <;> omega
   ·omega
  rw [ja o0] at har
  by_cases o4 : op = 4
  ·rw [jb o4] at har
   split at har
   ·rename_i hb
    refine .inr (.inr (.inr (.inl ⟨o4, hb.1, hb.2, ?_⟩)))
    split at har <;> rename_i hc <;> simp only [hc, if_true, if_false] <;> omega
   ·omega
  rw [ja o4] at har
  by_cases o3 : op = 3
  ·rw [jb o3] at har
   split at har
   ·rename_i hb
    exact .inr (.inr (.inl ⟨o3, by omega, hb.1, hb.2⟩))
   ·omega
  rw [ja o3] at har
  split at har
  ·rename_i hb
   split at har
   ·rcases hb with hb | hb | hb | hb
    ·exact .inr (.inl ⟨.inl hb, by omega⟩)
    ·exact .inr (.inl ⟨.inr hb, by omega⟩)
    ·exact .inr (.inr (.inr (.inr ⟨.inl hb, by omega⟩)))
    ·exact .inr (.inr (.inr (.inr ⟨.inr hb, by omega⟩)))
   ·omega
  ·omega
 ·intro ho
  unfold z0g at hne
  simp only [jg, Bool.or_eq_true, beq_iff_eq] at hne
  refine ⟨List.eq_nil_of_length_eq_zero ?_, List.eq_nil_of_length_eq_zero ?_⟩
  ·rcases hne.1 with (h | h) | h
   ·exact h
   ·exact jm (.inl h) ho
   ·exact jm (.inr h) ho
  ·rcases hne.2 with h | h
   ·exact h
   ·exact jm (.inl h) ho
 ·intro ho
  unfold z0g at hne
  simp only [jg, Bool.or_eq_true, beq_iff_eq] at hne
  refine List.eq_nil_of_length_eq_zero ?_
  rcases hne.2 with h | h
  ·exact h
  ·omega
theorem z36 (hh : z0s n l1) {st : List Int} (hs : z2u n l1 st) : ∀ (l : List S62), (∀ y ∈ l, eOK (n : Int) l1 1 y = true /\ eN y <= 1000) -> (l.flatMap (evX n l1 pk ins st)).length <= eNs l /\ (l.map ndX).sum = (eNs l : Int)
 | [], _ => by simp [eNs]
 | x :: r, h => by
  obtain ⟨h1, h2⟩ := h x (List.mem_cons_self ..)
  obtain ⟨g1, g2⟩ := z36 hh hs r (fun y hy => h y (List.mem_cons_of_mem _ hy))
  have := (z0u (pk := pk) (ins := ins) hh hs h1 h2).2.2.2.1
  simp only [List.flatMap_cons, je, List.map_cons, List.sum_cons, eNs, ndX] at g2 ⊢
  rw [g2]
  exact ⟨by omega, by push_cast; rfl⟩
theorem efit (hh : z0s n l1) {st : List Int} (hs : z2u n l1 st) {y : S62} (h1 : eOK (n : Int) l1 1 y = true) (h2 : eN y <= 400) (hg : Yg y) : EFit (n : Int) l1 ndX (evX n l1 pk ins st) (vaX n l1 pk ins st) st y := by
 obtain ⟨_, t1, t2, t3, _⟩ := z0u (pk := pk) (ins := ins) hh hs h1 (by omega)
 have tn := nodesE.1 y hg (by omega)
 exact ⟨yo t1, yo tn, by unfold ndX; omega, by unfold ndX; omega, yo t2, by omega⟩
theorem z3Z {a : List S62} {f : S62 -> Int} {P : Int -> Prop} (h : ∀ y ∈ a, P (f y)) {i : Int} (h0 : 0 <= i) (h1 : i < ((a.map f).length : Int)) : P (rd (a.map f) i) := by
 obtain ⟨hl, e⟩ := z3R (a.map f) i h0 h1
 rw [e, List.getElem_map]
 exact h _ (List.getElem_mem _)
theorem tfit (hh : z0s n l1) (hpk : ∀ a ∈ pk, WW n a) {c : MC} (h : z3h n l1 c) : TFit cnS (n : Int) l1 pk ndX (evX n l1 pk ins) (vaX n l1 pk ins) c := by
 obtain ⟨f0, f1, hs, htd, u0, u1, o0, o1, t1, t2, t3⟩ := h
 intro x rest he
 have hx := htd x (by rw [he]; exact List.mem_cons_self ..)
 obtain ⟨m, ⟨op, N, a, t, e⟩⟩ := x
 dsimp only at hx ⊢
 obtain ⟨ha, hn, hl, hop, hn1, hn2⟩ := z0r hx
 obtain ⟨e1, e2⟩ := z36 (pk := pk) (ins := ins) hh hs a (fun y hy => ⟨(ha y hy).1, by have := (ha y hy).2.1; omega⟩)
 rw [he, jp] at t3
 push_cast at t3
 obtain ⟨m0, m1, _, _, _⟩ := id hx
 obtain ⟨ht, hE⟩ := hx.then_
 dsimp only at ht hE
 have hw : ∀ y ∈ a, 0 <= vaX n l1 pk ins c.st y := fun y hy => (z0u (pk := pk) (ins := ins) hh hs (ha y hy).1 (by have := (ha y hy).2.1; omega)).1.1
 have hml : (a.map (vaX n l1 pk ins c.st)).length = a.length := List.length_map ..
 refine ⟨by omega, fun hfu => ⟨by omega, by omega, by omega, by omega, by omega, by omega, fun y hy => efit hh hs (ha y hy).1 (ha y hy).2.1 (ha y hy).2.2.2, ?_⟩⟩
 unfold AFit Y9
 dsimp only
 refine ⟨⟨m0, by omega, by rw [je]; omega, by omega, u0, by omega, by omega⟩, fun o => ?_, fun o => ?_, fun o => ?_, fun o => ?_⟩
 ·subst o
  rcases hop with ⟨_, b0, b1, b2⟩ | ⟨b, _⟩ | ⟨b, _⟩ | ⟨b, _⟩ | ⟨b, _⟩
  ·have hlp : 0 < a.length := by split at b2 <;> omega
   refine ⟨by omega, sfit hh hs.1 _ b0 b1 ?_⟩
   split
   ·exact z3Z hw (jq _) (by omega)
   ·exact jq _
  all_goals omega
 ·have hla : a.length = 1 := by
   rcases hop with ⟨b, _⟩ | ⟨_, b⟩ | ⟨b, _⟩ | ⟨b, _⟩ | ⟨b, _⟩
   all_goals omega
  have hx' := z0R ⟨op, N, a, t, e⟩
  dsimp only at hx'
  refine ⟨by omega, ht.gi, hE.gi, ?_, by unfold cnS; omega, by unfold cnS; omega⟩
  exact yo (z1F.1 ⟨op, N, a, t, e⟩ hx.2.2.2.2 (by have := hx.2.2.2.1; omega)).1
 ·have hla : a.length = 1 := by
   rcases hop with ⟨b, _⟩ | ⟨b, _⟩ | ⟨_, b, _⟩ | ⟨b, _⟩ | ⟨_, b⟩
   all_goals omega
  omega
 ·subst o
  rcases hop with ⟨b, _⟩ | ⟨b, _⟩ | ⟨b, _⟩ | ⟨_, b0, b1, b2⟩ | ⟨b, _⟩
  rotate_right
  all_goals first | omega | skip
  refine sfit hh hs.1 _ b0 b1 ?_
  split
  ·exact z3Z hw (jq _) (by omega)
  ·exact jq _
end
def Bal (c : VC) : Prop := 0 <= c.co /\ c.fu + c.co = 4194304 /\ (c.tl.length : Int) = c.co /\ (c.tr.length : Int) <= c.co /\ (c.ou.length : Int) <= c.co /\ 0 <= c.us /\ c.us <= c.co
def z2a (c c' : VC) : Prop := c'.co = c.co /\ c'.fu = c.fu /\ c'.tl = c.tl /\ c'.tr.length <= c.tr.length + 1 /\ c'.ou.length <= c.ou.length + 1 /\ c.us <= c'.us /\ c'.us <= c.us + 1
theorem z6R {k : Nat} {wd : Int} {l1 : List S76} {pk : List Int} {c c' : VC} {i : S93} (h : vDo k wd l1 pk c i = some c') : z2a c c' := by
 unfold vDo at h
 have gw : ∀ r a, z2a c (ZN r a c) := fun r a => by unfold z2a ZN; refine ⟨rfl, rfl, rfl, ?_, ?_, ?_, ?_⟩ <;> simp <;> omega
 have gs : ∀ x, z2a c (Yf x c) := fun x => by unfold z2a Yf; refine ⟨rfl, rfl, rfl, ?_, ?_, ?_, ?_⟩ <;> simp <;> omega
 by_cases o0 : i.f0 = 0
 ·rw [jb o0] at h
  obtain rfl := sj h
  exact gw _ _
 rw [ja o0] at h
 by_cases o1 : i.f0 = 1
 ·rw [jb o1] at h
  obtain ⟨_, _, rfl⟩ := Option.map_eq_some_iff.1 h
  exact gw _ _
 rw [ja o1] at h
 by_cases o2 : i.f0 = 2
 ·rw [jb o2] at h
  obtain rfl := sj h
  exact gw _ _
 rw [ja o2] at h
 by_cases o3 : i.f0 = 3
 ·rw [jb o3] at h
  obtain ⟨f, _, rfl⟩ := Option.map_eq_some_iff.1 h
  unfold z2a z0H vEv
  split <;> (refine ⟨rfl, rfl, rfl, ?_, ?_, ?_, ?_⟩ <;> simp <;> omega)
 rw [ja o3] at h
 by_cases o4 : i.f0 = 4
 ·rw [jb o4] at h
  obtain ⟨f, _, rfl⟩ := Option.map_eq_some_iff.1 h
  unfold z2a Yz vEv
  split <;> (refine ⟨rfl, rfl, rfl, ?_, ?_, ?_, ?_⟩ <;> simp <;> omega)
 rw [ja o4] at h
 by_cases o5 : i.f0 = 5
 ·rw [jb o5] at h
  obtain rfl := sj h
  unfold z2a
  refine ⟨rfl, rfl, rfl, ?_, ?_, ?_, ?_⟩ <;> simp <;> omega
 rw [ja o5] at h
 by_cases o6 : i.f0 = 6
 ·rw [jb o6] at h
  obtain rfl := sj h
  unfold z2a
  refine ⟨rfl, rfl, rfl, ?_, ?_, ?_, ?_⟩ <;> simp <;> omega
 rw [ja o6] at h
 by_cases o7 : i.f0 = 7
 ·rw [jb o7] at h
  obtain rfl := sj h
  unfold z2a
  refine ⟨rfl, rfl, rfl, ?_, ?_, ?_, ?_⟩ <;> simp <;> omega
 rw [ja o7] at h
 by_cases o8 : i.f0 = 8
 ·rw [jb o8] at h
  split at h
  ·obtain rfl := sj h
   exact gs _
  ·obtain rfl := sj h
   unfold z2a ZN
   refine ⟨rfl, rfl, rfl, ?_, ?_, ?_, ?_⟩ <;> simp <;> omega
 rw [ja o8] at h
 by_cases o9 : i.f0 = 9
 ·rw [jb o9] at h
  split at h
  ·obtain rfl := sj h
   exact gs _
  ·obtain rfl := sj h
   unfold z2a
   refine ⟨rfl, rfl, rfl, ?_, ?_, ?_, ?_⟩ <;> simp <;> omega
 rw [ja o9] at h
 by_cases o10 : i.f0 = 10
 ·rw [jb o10] at h
  split at h
  ·obtain rfl := sj h
   exact gs _
  ·obtain rfl := sj h
   unfold z2a
   refine ⟨rfl, rfl, rfl, ?_, ?_, ?_, ?_⟩ <;> simp <;> omega
 rw [ja o10] at h
 obtain rfl := sj h
 exact gs _
theorem Bal.stp {wd : Int} {l1 : List S76} {pk : List Int} {ins : List S93} {c c' : VC} (h : Bal c) (hs : stp wd l1 pk ins c c') : Bal c' /\ c'.co = c.co + 1 := by
 obtain ⟨_, _, i, _, ht, _⟩ := hs
 obtain ⟨k, hk⟩ := yo ht
 obtain ⟨g1, g2, g3, g4, g5, g6, g7⟩ := z6R hk
 obtain ⟨b1, b2, b3, b4, b5, b6, b7⟩ := h
 simp only [zV, je, List.length_singleton] at g1 g2 g3 g4 g5 g6 g7
 have g3' := congrArg List.length g3
 rw [je, List.length_singleton] at g3'
 refine ⟨⟨by omega, by omega, by omega, by omega, by omega, by omega, by omega⟩, by omega⟩
theorem Bal.steps {wd : Int} {l1 : List S76} {pk : List Int} {ins : List S93} {n : Nat} {c c' : VC} (h : Bal c) (hs : yT wd l1 pk ins n c c') : Bal c' /\ c'.co = c.co + n := by
 induction hs with
 | refl c => exact ⟨h, by omega⟩
 | step h1 _ ih =>
  obtain ⟨b1, e1⟩ := h.stp h1
  obtain ⟨b2, e2⟩ := ih b1
  exact ⟨b2, by omega⟩
def Asc (p q : Int) (l : List Int) : Prop := l.Pairwise (· < ·) /\ ∀ x ∈ l, p <= x /\ x < q
theorem Asc.nil {p q : Int} : Asc p q [] := ⟨List.Pairwise.nil, fun x h => by simp at h⟩
theorem Asc.wide {p q p' q' : Int} {l : List Int} (h : Asc p q l) (h1 : p' <= p) (h2 : q <= q') : Asc p' q' l := ⟨h.1, fun x hx => by have := h.2 x hx; omega⟩
theorem Asc.app {p q r s : Int} {a b : List Int} (h1 : Asc p q a) (h2 : Asc r s b) (hq : q <= r) : Asc p s (a ++ b) \/ a = [] \/ b = [] := by
 by_cases ha : a = []
 ·exact .inr (.inl ha)
 by_cases hb : b = []
 ·exact .inr (.inr hb)
 obtain ⟨x, hx⟩ := List.exists_mem_of_ne_nil a ha
 obtain ⟨y, hy⟩ := List.exists_mem_of_ne_nil b hb
 have h3 := h1.2 x hx
 have h4 := h2.2 y hy
 refine .inl ⟨List.pairwise_append.2 ⟨h1.1, h2.1, fun u hu v hv => ?_⟩, fun u hu => ?_⟩
 ·have := h1.2 u hu
  have := h2.2 v hv
  omega
 ·rcases List.mem_append.1 hu with hu | hu
  ·have := h1.2 u hu
   omega
  ·have := h2.2 u hu
   omega
theorem Asc.append {p q r s : Int} {a b : List Int} (h1 : Asc p q a) (h2 : Asc r s b) (hq : q <= r) (hp : p <= r) (hs : q <= s) : Asc p s (a ++ b) := by
 rcases h1.app h2 hq with h | rfl | rfl
 ·exact h
 ·exact h2.wide hp (jq _)
 ·rw [List.append_nil]
  exact h1.wide (jq _) hs
theorem Asc.cons {p q s x : Int} {l : List Int} (h : Asc q s l) (hx : p <= x) (hq : x < q) (hs : x < s) : Asc p s (x :: l) :=
 Asc.append (a := [x]) (q := x + 1) ⟨List.pairwise_singleton _ _, fun y hy => by rw [List.mem_singleton.1 hy]; omega⟩ h (by omega) (by omega) (by omega)
mutual
def zS : S81 -> Nat -> List Int
 | ⟨op, _, a, t, e⟩, p => if op = 1 \/ op = 2 then ((p + nE (hdE a) : Nat) : Int) :: (zSs t (p + nE (hdE a) + 1) ++ zSs e (p + nE (hdE a) + 1 + nSs t + 1)) else [(p : Int)]
def zSs : List S81 -> Nat -> List Int
 | [], _ => []
 | x :: r, p => zS x p ++ zSs r (p + nS x)
end
theorem plS_len (x : S81) (p : Nat) : (plS x p).length + 1 = kS x := by
 have := YQ [x] p
 simp only [yy, kSs, List.append_nil, jp] at this
 omega
theorem z1U (w : Int) (l1 : List S76) : (∀ x : S81, sOK w l1 x = true -> kS x = sC x /\ 1 <= nS x /\ ∀ p : Nat, Asc p (p + nS x) ((p : Int) :: plS x p) /\ Asc p (p + nS x) (zS x p) /\ (zS x p).length = kS x) /\
  (∀ l : List S81, YC w l1 l = true -> kSs l = sCs l /\ ∀ p : Nat, Asc p (p + nSs l) (yy l p) /\ Asc p (p + nSs l) (zSs l p) /\ (zSs l p).length = kSs l) := by
 refine z1k (fun op b a t e h1 h2 => ?_) (fun _ => ⟨by simp [kSs, z0z], fun p => ⟨Asc.nil, Asc.nil, rfl⟩⟩) (fun x r h1 h2 => ?_)
 ·intro ho
  rw [z0y, jg, jg, jg] at ho
  obtain ⟨hh, ht, he, _⟩ := ho
  dsimp only at hh ht he
  obtain ⟨k1, a1⟩ := h1 ht
  obtain ⟨k2, a2⟩ := h2 he
  rw [z0R]
  by_cases hb : op = 1 \/ op = 2
  ·have hns : nS ⟨op, b, a, t, e⟩ = nE (hdE a) + 1 + nSs t + (if e.length = 0 then (if op = 2 then 1 else 0) else 1 + nSs e) := by simp only [nS, jb hb]
   have hks : kS ⟨op, b, a, t, e⟩ = kSs t + kSs e + 1 := by simp only [kS, jb hb]
   refine ⟨by rw [hks]; dsimp only; omega, by omega, fun p => ?_⟩
   simp only [plS, zS, jb hb]
   obtain ⟨b1, c1, d1⟩ := a1 (p + nE (hdE a) + 1)
   obtain ⟨b2, c2, d2⟩ := a2 (p + nE (hdE a) + 1 + nSs t + 1)
   by_cases h0 : e.length = 0
   ·obtain rfl := List.eq_nil_of_length_eq_zero h0
    rw [jb h0] at hns
    simp only [yy, zSs, List.append_nil]
    refine ⟨b1.cons (jq _) (by push_cast; omega) (by omega) |>.wide (jq _) ?_, c1.cons (by push_cast; omega) (by push_cast; omega) (by push_cast; omega) |>.wide (jq _) ?_, ?_⟩
    ·rw [hns]; push_cast; split <;> omega
    ·rw [hns]; push_cast; split <;> omega
    ·rw [jp, d1, hks]; simp [kSs]
   ·rw [ja h0] at hns
    have x1 := b1.append b2 (by push_cast; omega) (by push_cast; omega) (by push_cast; omega)
    have x2 := c1.append c2 (by push_cast; omega) (by push_cast; omega) (by push_cast; omega)
    refine ⟨x1.cons (jq _) (by push_cast; omega) (by omega) |>.wide (jq _) ?_, x2.cons (by push_cast; omega) (by push_cast; omega) (by push_cast; omega) |>.wide (jq _) ?_, ?_⟩
    ·rw [hns]; push_cast; omega
    ·rw [hns]; push_cast; omega
    ·rw [jp, je, d1, d2, hks]
  ·obtain ⟨rfl, rfl⟩ : t = [] /\ e = [] := by
    unfold z0c at hh
    rw [jg] at hh
    have hne := hh.2
    unfold z0g at hne
    simp only [jg, Bool.or_eq_true, beq_iff_eq] at hne
    refine ⟨List.eq_nil_of_length_eq_zero ?_, List.eq_nil_of_length_eq_zero ?_⟩
    ·rcases hne.1 with (h | h) | h
     ·exact h
     ·exact jm (.inl h) hb
     ·exact jm (.inr h) hb
    ·rcases hne.2 with h | h
     ·exact h
     ·exact jm (.inl h) hb
   have hns : nS ⟨op, b, a, [], []⟩ = nAs a + (cT op b a.length).length := by simp only [nS, ja hb]
   have hks : kS ⟨op, b, a, [], []⟩ = 1 := by simp only [kS, ja hb]
   have hct : 1 <= (cT op b a.length).length := by
    unfold z0c at hh
    rw [jg, decide_eq_true_iff] at hh
    have har := hh.1
    unfold YY at har
    unfold cT
    by_cases o0 : op = 0
    ·simp [o0]
    by_cases o3 : op = 3
    ·simp [o3]
    by_cases o4 : op = 4
    ·simp [o4]
    by_cases o5 : op = 5
    ·simp [o5]
    by_cases o6 : op = 6
    ·simp [o6]
    exfalso
    rw [ja o0, ja o4, ja o3] at har
    split at har
    ·omega
    ·omega
   refine ⟨by rw [hks]; simp [z0z], by omega, fun p => ?_⟩
   simp only [plS, zS, ja hb]
   have : Asc (p : Int) ((p : Int) + nS ⟨op, b, a, [], []⟩) [(p : Int)] := (Asc.nil (p := (p : Int) + 1) (q := (p : Int) + nS ⟨op, b, a, [], []⟩)).cons (jq _) (by omega) (by omega)
   exact ⟨this, this, by rw [hks]; rfl⟩
 ·intro ho
  rw [yX, jg] at ho
  obtain ⟨k1, n1, a1⟩ := h1 ho.1
  obtain ⟨k2, a2⟩ := h2 ho.2
  refine ⟨by rw [Yq]; simp only [kSs]; omega, fun p => ?_⟩
  obtain ⟨b1, c1, d1⟩ := a1 p
  obtain ⟨b2, c2, d2⟩ := a2 (p + nS x)
  simp only [yy, zSs, nSs, kSs]
  have e1 := b1.append b2 (by push_cast; omega) (by push_cast; omega) (by push_cast; omega)
  have e2 := c1.append c2 (by push_cast; omega) (by push_cast; omega) (by push_cast; omega)
  refine ⟨e1.wide (jq _) (by push_cast; omega), e2.wide (jq _) (by push_cast; omega), by rw [je, d1, d2]⟩
end Go.Proofs.YtnlekgadadifdaaGreat.Print
