/- CompPlaces: for every program, Places gives one code address a statement, not falling, or the error; and if a run is Blocked, Failed or NoPick at a statement, the run of the code ends so within that statement's addresses. Conditions: the guards of the statement alone. -/
import Derived.Test.YtnlekgadadifdaaGreatL4
import Derived.Test.YtnlekgadadifdaaGreatProg
set_option maxRecDepth 100000
set_option maxHeartbeats 16000000
namespace Go.Proofs.YtnlekgadadifdaaGreat.Print
open Go.RowKit Go.Proofs.YtnlekgadadifdaaGreatW.PrintWords Go.Proofs.YtnlekgadadifdaaGreatW.PrintLast Go.Proofs.YtnlekgadadifdaaGreatW.PrintMore
attribute [local go_sem] zo zm zr zq zi zh zn zl 
set_option linter.unusedVariables false
set_option linter.unusedSimpArgs false
def zT.f : Nat -> Int -> List (S76) -> List (List Int) -> Int -> Int -> Int -> List (S62) -> Option (Int)
 | 0, _, _, _, _, _, _, _ => none
 | k + 1, a0, l1, l2, a3_0, a3_1, a3_2, l3_3 => if a3_0 = 0 then (some a3_1) else (if a3_0 = 1 then (if (l3_3.length : Int) > 0 then (if 0 < (l3_3.length : Int) then ((zT.f k a0 l1 l2 ((zg l3_3 0).f0) ((zg l3_3 0).f1) ((zg l3_3 0).f2) ((zg l3_3 0).f3)).bind fun t924 => (if 0 <= a3_2 then (if a3_2 < (l2.length : Int) then ((z01.f k l1 a3_1 t924).bind fun t926 => (if 0 <= t926 then (if t926 < ((yV l2 a3_2).length : Int) then (some (rd (yV l2 a3_2) t926)) else (none)) else (none))) else (none)) else (none))) else (none)) else (if 0 <= a3_2 then (if a3_2 < (l2.length : Int) then ((z01.f k l1 a3_1 0).bind fun t929 => (if 0 <= t929 then (if t929 < ((yV l2 a3_2).length : Int) then (some (rd (yV l2 a3_2) t929)) else (none)) else (none))) else (none)) else (none))) else (if a3_0 = 12 then (if 0 < (l3_3.length : Int) then ((zT.f k a0 l1 l2 ((zg l3_3 0).f0) ((zg l3_3 0).f1) ((zg l3_3 0).f2) ((zg l3_3 0).f3)).bind fun t932 => ((Yv.f k a0 t932).bind fun t933 => (some t933))) else (none)) else (if 0 < (l3_3.length : Int) then ((zT.f k a0 l1 l2 ((zg l3_3 0).f0) ((zg l3_3 0).f1) ((zg l3_3 0).f2) ((zg l3_3 0).f3)).bind fun t935 => (if 1 < (l3_3.length : Int) then ((zT.f k a0 l1 l2 ((zg l3_3 1).f0) ((zg l3_3 1).f1) ((zg l3_3 1).f2) ((zg l3_3 1).f3)).bind fun t937 => (if a3_0 = 15 then (if t935 = 0 then (if 2 < (l3_3.length : Int) then ((zT.f k a0 l1 l2 ((zg l3_3 2).f0) ((zg l3_3 2).f1) ((zg l3_3 2).f2) ((zg l3_3 2).f3)).bind fun t939 => (some t939)) else (none)) else (some t937)) else ((yg.f k a3_0 a0 t935 t937).bind fun t940 => (some t940)))) else (none))) else (none))))
theorem zT.calls (k : Nat) : ∀ (a0 : Int) (A1 : Option Addr) (c1 : Nat) (l1 : List (S76)) (A2 : Option Addr) (c2 : Nat) (l2 : List (List Int)) (a3_0 : Int) (a3_1 : Int) (a3_2 : Int) (A3_3 : Option Addr) (c3_3 : Nat) (l3_3 : List (S62)) (r : Int) (w : World) (hr1 : Kd.C k76 w A1 l1.length l1) (hc1 : l1.length <= c1) (hr2 : Kd.C (Kd.slice 3 (Kd.int .i64)) w A2 l2.length l2) (hc2 : l2.length <= c2) (hr3_3 : Kd.C k62 w A3_3 l3_3.length l3_3) (hc3_3 : l3_3.length <= c3_3) (h : zT.f k a0 l1 l2 a3_0 a3_1 a3_2 l3_3 = some r),
  Calls Tryz.prog 54 #[.int .i64 a0, .slice A1 l1.length c1, .slice A2 l2.length c2, .agg (Ve a3_0 a3_1 a3_2 A3_3 l3_3 c3_3)] w fun e w' => e = .returned (.int .i64 r) /\ Below w.heap.size w w' := by
 induction k using Nat.strongRecOn with
 | _ k ih =>
 intro a0 A1 c1 l1 A2 c2 l2 a3_0 a3_1 a3_2 A3_3 c3_3 l3_3 r w hr1 hc1 hr2 hc2 hr3_3 hc3_3 h
 cases k with
 | zero => exact absurd h (by simp [zT.f])
 | succ k =>
 simp only [zT.f] at h
 have hu62 := Tryz.underlying62
 have HR1 := am hr1
 have HC1 := am hc1
 clear hr1 hc1
 have HR2 := am hr2
 have HC2 := am hc2
 clear hr2 hc2
 have HR3_3 := am hr3_3
 have HC3_3 := am hc3_3
 clear hr3_3 hc3_3
 have HB := am (Below.refl w.heap.size w)
 have H := h
 clear h
 obtain ⟨c5b0, c5b1, H⟩ | ⟨c5, c5b0, c5b1, H⟩ := iq H
 ·obtain rfl := sj H
  go_enter Tryz.func54, Tryz.ntmps54
  go_wp2_with (first | ((with_reducible refine zw (N := 7) rfl ?_); refine bz HB 7 rfl rfl (Ve a3_0 a3_1 a3_2 A3_3 l3_3 c3_3) 62 ?_; intro gb922 w6 BK922 GE922 HB; have hz7 := cf4 BK922.out))
  repeat (go_quiet (first | ((with_reducible refine zw (N := 7) rfl ?_); refine bz HB 7 rfl rfl (Ve a3_0 a3_1 a3_2 A3_3 l3_3 c3_3) 62 ?_; intro gb922 w6 BK922 GE922 HB; have hz7 := cf4 BK922.out)); try go_wp2)
  go_ret
  exact ⟨rr, bb HB⟩
 obtain ⟨c8b0, c8b1, H⟩ | ⟨c8, c8b0, c8b1, H⟩ := iq H
 ·obtain ⟨c9b0, H⟩ | ⟨c9b0, H⟩ := ei H
  ·have c9 := of_decide_eq_false c9b0
   have c9b1 : decide (0 < l3_3.length) = false := dF (by omega)
   clear c9
   obtain ⟨c21b0, H⟩ := pd H
   obtain ⟨c22b0, H⟩ := pd H
   obtain ⟨t929, A23, H⟩ := be H
   obtain ⟨c24b0, H⟩ := pd H
   obtain ⟨c25b0, H⟩ := pd H
   obtain rfl := sj H
   go_enter Tryz.func54, Tryz.ntmps54
   go_wp2_with (first | ((with_reducible refine zw (N := 7) rfl ?_); refine bz HB 7 rfl rfl (Ve a3_0 a3_1 a3_2 A3_3 l3_3 c3_3) 62 ?_; intro gb922 w26 BK922 GE922 HB; have hz27 := cf4 BK922.out; have p928 : 0 <= (a3_2 : Int) := od; have q928 : a3_2 < (l2.length : Int) := od; obtain ⟨ad928, A928_0, c928_0, e928, hx928_0, hl928_0, hi928_0⟩ := z3U HR2.out a3_2 p928 q928; cases e928; replace hx928_0 := zk HB.out hx928_0; have HR928_0 := am hi928_0; have HC928_0 := am hl928_0; clear hi928_0 hl928_0; replace p928 := eT p928; replace q928 := eT q928) | (go_at_call 87; (with_reducible refine (z01.calls k _ _ l1 a3_1 0 t929 _ (cb HR1 HB) HC1.out A23.out).mono ?_); rintro e w' ⟨rfl, ⟨nd, rfl⟩⟩; (try first | exact ⟨rfl, _, World.drewN_drewN _ _ _⟩ | exact ⟨rfl, _, Eq.trans (World.drewN_drewN _ _ _) (congrArg (World.drewN _) (Nat.add_assoc _ _ _))⟩); have p930 : 0 <= (t929 : Int) := od; have q930 : t929 < ((yV l2 a3_2).length : Int) := od; obtain ⟨ad930, e930, hx930_0⟩ := Kd.at_int HR928_0.out t929 p930 q930; cases e930; replace hx930_0 := zk HB.out hx930_0; replace p930 := eT p930; replace q930 := eT q930))
   repeat (go_quiet (first | ((with_reducible refine zw (N := 7) rfl ?_); refine bz HB 7 rfl rfl (Ve a3_0 a3_1 a3_2 A3_3 l3_3 c3_3) 62 ?_; intro gb922 w26 BK922 GE922 HB; have hz27 := cf4 BK922.out; have p928 : 0 <= (a3_2 : Int) := od; have q928 : a3_2 < (l2.length : Int) := od; obtain ⟨ad928, A928_0, c928_0, e928, hx928_0, hl928_0, hi928_0⟩ := z3U HR2.out a3_2 p928 q928; cases e928; replace hx928_0 := zk HB.out hx928_0; have HR928_0 := am hi928_0; have HC928_0 := am hl928_0; clear hi928_0 hl928_0; replace p928 := eT p928; replace q928 := eT q928) | (go_at_call 87; (with_reducible refine (z01.calls k _ _ l1 a3_1 0 t929 _ (cb HR1 HB) HC1.out A23.out).mono ?_); rintro e w' ⟨rfl, ⟨nd, rfl⟩⟩; (try first | exact ⟨rfl, _, World.drewN_drewN _ _ _⟩ | exact ⟨rfl, _, Eq.trans (World.drewN_drewN _ _ _) (congrArg (World.drewN _) (Nat.add_assoc _ _ _))⟩); have p930 : 0 <= (t929 : Int) := od; have q930 : t929 < ((yV l2 a3_2).length : Int) := od; obtain ⟨ad930, e930, hx930_0⟩ := Kd.at_int HR928_0.out t929 p930 q930; cases e930; replace hx930_0 := zk HB.out hx930_0; replace p930 := eT p930; replace q930 := eT q930)); try go_wp2)
   go_ret
   exact ⟨rr, bb HB⟩
  have c9 := of_decide_eq_true c9b0
  have c9b1 : decide (0 < l3_3.length) = true := dT (by omega)
  clear c9
  obtain ⟨c10b0, H⟩ := pd H
  have c10 := of_decide_eq_true c10b0
  have c10b1 : decide (0 < l3_3.length) = true := dT (by omega)
  clear c10
  obtain ⟨t924, A11, H⟩ := be H
  obtain ⟨c12b0, H⟩ := pd H
  obtain ⟨c13b0, H⟩ := pd H
  obtain ⟨t926, A14, H⟩ := be H
  obtain ⟨c15b0, H⟩ := pd H
  obtain ⟨c16b0, H⟩ := pd H
  obtain rfl := sj H
  go_enter Tryz.func54, Tryz.ntmps54
  go_wp2_with (first | ((with_reducible refine zw (N := 7) rfl ?_); refine bz HB 7 rfl rfl (Ve a3_0 a3_1 a3_2 A3_3 l3_3 c3_3) 62 ?_; intro gb922 w17 BK922 GE922 HB; have hz18 := cf4 BK922.out; have p923 : 0 <= (0 : Int) := (by omega); have q923 : 0 < (l3_3.length : Int) := od; obtain ⟨ad923, A923_3, c923_3, e923, hx923_0, hx923_1, hx923_2, hx923_3, hl923_3, hi923_3⟩ := Zf HR3_3.out 0 p923 q923; cases e923; have qi923 : (0 < l3_3.length) = True := eT (by omega); (simp only [show ((0 : Int)).toNat = 0 from rfl, Nat.zero_mul, Addr.add_zero'] at hx923_0 hx923_1 hx923_2 hx923_3); replace hx923_0 := zk HB.out hx923_0; replace hx923_1 := zk HB.out hx923_1; replace hx923_2 := zk HB.out hx923_2; replace hx923_3 := zk HB.out hx923_3; have HR923_3 := am hi923_3; have HC923_3 := am hl923_3; clear hi923_3 hl923_3; replace p923 := eT p923; replace q923 := eT q923) | (go_at_call 54; (with_reducible refine (ih k (by omega) a0 _ _ l1 _ _ l2 ((zg l3_3 0).f0) ((zg l3_3 0).f1) ((zg l3_3 0).f2) _ _ ((zg l3_3 0).f3) t924 _ (cb HR1 HB) HC1.out (cb HR2 HB) HC2.out (cb HR923_3 HB) HC923_3.out A11.out).mono ?_); rintro e w19 ⟨rfl, hb⟩; replace BK922 := kb BK922 hb; replace HB := sb HB hb; have hz20 := cf4 BK922.out; have p925 : 0 <= (a3_2 : Int) := od; have q925 : a3_2 < (l2.length : Int) := od; obtain ⟨ad925, A925_0, c925_0, e925, hx925_0, hl925_0, hi925_0⟩ := z3U HR2.out a3_2 p925 q925; cases e925; replace hx925_0 := zk HB.out hx925_0; have HR925_0 := am hi925_0; have HC925_0 := am hl925_0; clear hi925_0 hl925_0; replace p925 := eT p925; replace q925 := eT q925) | (go_at_call 87; (with_reducible refine (z01.calls k _ _ l1 a3_1 t924 t926 _ (cb HR1 HB) HC1.out A14.out).mono ?_); rintro e w' ⟨rfl, ⟨nd, rfl⟩⟩; (try first | exact ⟨rfl, _, World.drewN_drewN _ _ _⟩ | exact ⟨rfl, _, Eq.trans (World.drewN_drewN _ _ _) (congrArg (World.drewN _) (Nat.add_assoc _ _ _))⟩); have p927 : 0 <= (t926 : Int) := od; have q927 : t926 < ((yV l2 a3_2).length : Int) := od; obtain ⟨ad927, e927, hx927_0⟩ := Kd.at_int HR925_0.out t926 p927 q927; cases e927; replace hx927_0 := zk HB.out hx927_0; replace p927 := eT p927; replace q927 := eT q927))
  repeat (go_quiet (first | ((with_reducible refine zw (N := 7) rfl ?_); refine bz HB 7 rfl rfl (Ve a3_0 a3_1 a3_2 A3_3 l3_3 c3_3) 62 ?_; intro gb922 w17 BK922 GE922 HB; have hz18 := cf4 BK922.out; have p923 : 0 <= (0 : Int) := (by omega); have q923 : 0 < (l3_3.length : Int) := od; obtain ⟨ad923, A923_3, c923_3, e923, hx923_0, hx923_1, hx923_2, hx923_3, hl923_3, hi923_3⟩ := Zf HR3_3.out 0 p923 q923; cases e923; have qi923 : (0 < l3_3.length) = True := eT (by omega); (simp only [show ((0 : Int)).toNat = 0 from rfl, Nat.zero_mul, Addr.add_zero'] at hx923_0 hx923_1 hx923_2 hx923_3); replace hx923_0 := zk HB.out hx923_0; replace hx923_1 := zk HB.out hx923_1; replace hx923_2 := zk HB.out hx923_2; replace hx923_3 := zk HB.out hx923_3; have HR923_3 := am hi923_3; have HC923_3 := am hl923_3; clear hi923_3 hl923_3; replace p923 := eT p923; replace q923 := eT q923) | (go_at_call 54; (with_reducible refine (ih k (by omega) a0 _ _ l1 _ _ l2 ((zg l3_3 0).f0) ((zg l3_3 0).f1) ((zg l3_3 0).f2) _ _ ((zg l3_3 0).f3) t924 _ (cb HR1 HB) HC1.out (cb HR2 HB) HC2.out (cb HR923_3 HB) HC923_3.out A11.out).mono ?_); rintro e w19 ⟨rfl, hb⟩; replace BK922 := kb BK922 hb; replace HB := sb HB hb; have hz20 := cf4 BK922.out; have p925 : 0 <= (a3_2 : Int) := od; have q925 : a3_2 < (l2.length : Int) := od; obtain ⟨ad925, A925_0, c925_0, e925, hx925_0, hl925_0, hi925_0⟩ := z3U HR2.out a3_2 p925 q925; cases e925; replace hx925_0 := zk HB.out hx925_0; have HR925_0 := am hi925_0; have HC925_0 := am hl925_0; clear hi925_0 hl925_0; replace p925 := eT p925; replace q925 := eT q925) | (go_at_call 87; (with_reducible refine (z01.calls k _ _ l1 a3_1 t924 t926 _ (cb HR1 HB) HC1.out A14.out).mono ?_); rintro e w' ⟨rfl, ⟨nd, rfl⟩⟩; (try first | exact ⟨rfl, _, World.drewN_drewN _ _ _⟩ | exact ⟨rfl, _, Eq.trans (World.drewN_drewN _ _ _) (congrArg (World.drewN _) (Nat.add_assoc _ _ _))⟩); have p927 : 0 <= (t926 : Int) := od; have q927 : t926 < ((yV l2 a3_2).length : Int) := od; obtain ⟨ad927, e927, hx927_0⟩ := Kd.at_int HR925_0.out t926 p927 q927; cases e927; replace hx927_0 := zk HB.out hx927_0; replace p927 := eT p927; replace q927 := eT q927)); try go_wp2)
  go_ret
  exact ⟨rr, bb HB⟩
 obtain ⟨c28b0, c28b1, H⟩ | ⟨c28, c28b0, c28b1, H⟩ := iq H
 ·obtain ⟨c29b0, H⟩ := pd H
  have c29 := of_decide_eq_true c29b0
  have c29b1 : decide (0 < l3_3.length) = true := dT (by omega)
  clear c29
  obtain ⟨t932, A30, H⟩ := be H
  obtain ⟨t933, A31, H⟩ := be H
  obtain rfl := sj H
  go_enter Tryz.func54, Tryz.ntmps54
  go_wp2_with (first | ((with_reducible refine zw (N := 7) rfl ?_); refine bz HB 7 rfl rfl (Ve a3_0 a3_1 a3_2 A3_3 l3_3 c3_3) 62 ?_; intro gb922 w32 BK922 GE922 HB; have hz33 := cf4 BK922.out; have p931 : 0 <= (0 : Int) := (by omega); have q931 : 0 < (l3_3.length : Int) := od; obtain ⟨ad931, A931_3, c931_3, e931, hx931_0, hx931_1, hx931_2, hx931_3, hl931_3, hi931_3⟩ := Zf HR3_3.out 0 p931 q931; cases e931; have qi931 : (0 < l3_3.length) = True := eT (by omega); (simp only [show ((0 : Int)).toNat = 0 from rfl, Nat.zero_mul, Addr.add_zero'] at hx931_0 hx931_1 hx931_2 hx931_3); replace hx931_0 := zk HB.out hx931_0; replace hx931_1 := zk HB.out hx931_1; replace hx931_2 := zk HB.out hx931_2; replace hx931_3 := zk HB.out hx931_3; have HR931_3 := am hi931_3; have HC931_3 := am hl931_3; clear hi931_3 hl931_3; replace p931 := eT p931; replace q931 := eT q931) | (go_at_call 54; (with_reducible refine (ih k (by omega) a0 _ _ l1 _ _ l2 ((zg l3_3 0).f0) ((zg l3_3 0).f1) ((zg l3_3 0).f2) _ _ ((zg l3_3 0).f3) t932 _ (cb HR1 HB) HC1.out (cb HR2 HB) HC2.out (cb HR931_3 HB) HC931_3.out A30.out).mono ?_); rintro e w34 ⟨rfl, hb⟩; replace BK922 := kb BK922 hb; replace HB := sb HB hb) | (go_at_call 88; (with_reducible refine (Yv.calls k a0 t932 t933 _ A31.out).mono ?_); rintro e w' ⟨rfl, ⟨nd, rfl⟩⟩; (try first | exact ⟨rfl, _, World.drewN_drewN _ _ _⟩ | exact ⟨rfl, _, Eq.trans (World.drewN_drewN _ _ _) (congrArg (World.drewN _) (Nat.add_assoc _ _ _))⟩)))
  repeat (go_quiet (first | ((with_reducible refine zw (N := 7) rfl ?_); refine bz HB 7 rfl rfl (Ve a3_0 a3_1 a3_2 A3_3 l3_3 c3_3) 62 ?_; intro gb922 w32 BK922 GE922 HB; have hz33 := cf4 BK922.out; have p931 : 0 <= (0 : Int) := (by omega); have q931 : 0 < (l3_3.length : Int) := od; obtain ⟨ad931, A931_3, c931_3, e931, hx931_0, hx931_1, hx931_2, hx931_3, hl931_3, hi931_3⟩ := Zf HR3_3.out 0 p931 q931; cases e931; have qi931 : (0 < l3_3.length) = True := eT (by omega); (simp only [show ((0 : Int)).toNat = 0 from rfl, Nat.zero_mul, Addr.add_zero'] at hx931_0 hx931_1 hx931_2 hx931_3); replace hx931_0 := zk HB.out hx931_0; replace hx931_1 := zk HB.out hx931_1; replace hx931_2 := zk HB.out hx931_2; replace hx931_3 := zk HB.out hx931_3; have HR931_3 := am hi931_3; have HC931_3 := am hl931_3; clear hi931_3 hl931_3; replace p931 := eT p931; replace q931 := eT q931) | (go_at_call 54; (with_reducible refine (ih k (by omega) a0 _ _ l1 _ _ l2 ((zg l3_3 0).f0) ((zg l3_3 0).f1) ((zg l3_3 0).f2) _ _ ((zg l3_3 0).f3) t932 _ (cb HR1 HB) HC1.out (cb HR2 HB) HC2.out (cb HR931_3 HB) HC931_3.out A30.out).mono ?_); rintro e w34 ⟨rfl, hb⟩; replace BK922 := kb BK922 hb; replace HB := sb HB hb) | (go_at_call 88; (with_reducible refine (Yv.calls k a0 t932 t933 _ A31.out).mono ?_); rintro e w' ⟨rfl, ⟨nd, rfl⟩⟩; (try first | exact ⟨rfl, _, World.drewN_drewN _ _ _⟩ | exact ⟨rfl, _, Eq.trans (World.drewN_drewN _ _ _) (congrArg (World.drewN _) (Nat.add_assoc _ _ _))⟩))); try go_wp2)
  go_ret
  exact ⟨rr, bb HB⟩
 obtain ⟨c35b0, H⟩ := pd H
 have c35 := of_decide_eq_true c35b0
 have c35b1 : decide (0 < l3_3.length) = true := dT (by omega)
 clear c35
 obtain ⟨t935, A36, H⟩ := be H
 obtain ⟨c37b0, H⟩ := pd H
 have c37 := of_decide_eq_true c37b0
 have c37b1 : decide (1 < l3_3.length) = true := dT (by omega)
 clear c37
 obtain ⟨t937, A38, H⟩ := be H
 obtain ⟨c39, c39b0, c39b1, H⟩ | ⟨c39b0, c39b1, H⟩ := qi H
 ·obtain ⟨t940, A56, H⟩ := be H
  obtain rfl := sj H
  go_enter Tryz.func54, Tryz.ntmps54
  go_wp2_with (first | ((with_reducible refine zw (N := 7) rfl ?_); refine bz HB 7 rfl rfl (Ve a3_0 a3_1 a3_2 A3_3 l3_3 c3_3) 62 ?_; intro gb922 w57 BK922 GE922 HB; have hz58 := cf4 BK922.out; have p934 : 0 <= (0 : Int) := (by omega); have q934 : 0 < (l3_3.length : Int) := od; obtain ⟨ad934, A934_3, c934_3, e934, hx934_0, hx934_1, hx934_2, hx934_3, hl934_3, hi934_3⟩ := Zf HR3_3.out 0 p934 q934; cases e934; have qi934 : (0 < l3_3.length) = True := eT (by omega); (simp only [show ((0 : Int)).toNat = 0 from rfl, Nat.zero_mul, Addr.add_zero'] at hx934_0 hx934_1 hx934_2 hx934_3); replace hx934_0 := zk HB.out hx934_0; replace hx934_1 := zk HB.out hx934_1; replace hx934_2 := zk HB.out hx934_2; replace hx934_3 := zk HB.out hx934_3; have HR934_3 := am hi934_3; have HC934_3 := am hl934_3; clear hi934_3 hl934_3; replace p934 := eT p934; replace q934 := eT q934) | (go_at_call 54; (with_reducible refine (ih k (by omega) a0 _ _ l1 _ _ l2 ((zg l3_3 0).f0) ((zg l3_3 0).f1) ((zg l3_3 0).f2) _ _ ((zg l3_3 0).f3) t935 _ (cb HR1 HB) HC1.out (cb HR2 HB) HC2.out (cb HR934_3 HB) HC934_3.out A36.out).mono ?_); rintro e w59 ⟨rfl, hb⟩; replace BK922 := kb BK922 hb; replace HB := sb HB hb; have hz60 := cf4 BK922.out; have p936 : 0 <= (1 : Int) := (by omega); have q936 : 1 < (l3_3.length : Int) := od; obtain ⟨ad936, A936_3, c936_3, e936, hx936_0, hx936_1, hx936_2, hx936_3, hl936_3, hi936_3⟩ := Zf HR3_3.out 1 p936 q936; obtain rfl : ad934 = ad936 := (by injection e936); (try simp only [show (1 : Int).toNat = 1 from rfl, Nat.reduceMul, Nat.reduceEqDiff, Go.Addr.add, ↓reduceIte] at hx936_0); (try simp only [show (1 : Int).toNat = 1 from rfl, Nat.reduceMul, Nat.reduceEqDiff, Go.Addr.add, ↓reduceIte] at hx936_1); (try simp only [show (1 : Int).toNat = 1 from rfl, Nat.reduceMul, Nat.reduceEqDiff, Go.Addr.add, ↓reduceIte] at hx936_2); (try simp only [show (1 : Int).toNat = 1 from rfl, Nat.reduceMul, Nat.reduceEqDiff, Go.Addr.add, ↓reduceIte] at hx936_3); have qi936 : (1 < l3_3.length) = True := eT (by omega); (try rw [show ((1 : Int)).toNat = 1 from rfl] at hx936_0); (try rw [show 1 * 4 = 4 from rfl] at hx936_0); (try rw [show ((1 : Int)).toNat = 1 from rfl] at hx936_1); (try rw [show 1 * 4 = 4 from rfl] at hx936_1); (try rw [show ((1 : Int)).toNat = 1 from rfl] at hx936_2); (try rw [show 1 * 4 = 4 from rfl] at hx936_2); (try rw [show ((1 : Int)).toNat = 1 from rfl] at hx936_3); (try rw [show 1 * 4 = 4 from rfl] at hx936_3); replace hx936_0 := zk HB.out hx936_0; replace hx936_1 := zk HB.out hx936_1; replace hx936_2 := zk HB.out hx936_2; replace hx936_3 := zk HB.out hx936_3; have HR936_3 := am hi936_3; have HC936_3 := am hl936_3; clear hi936_3 hl936_3; replace p936 := eT p936; replace q936 := eT q936) | (go_at_call 54; (with_reducible refine (ih k (by omega) a0 _ _ l1 _ _ l2 ((zg l3_3 1).f0) ((zg l3_3 1).f1) ((zg l3_3 1).f2) _ _ ((zg l3_3 1).f3) t937 _ (cb HR1 HB) HC1.out (cb HR2 HB) HC2.out (cb HR936_3 HB) HC936_3.out A38.out).mono ?_); rintro e w61 ⟨rfl, hb⟩; replace BK922 := kb BK922 hb; replace HB := sb HB hb; have hz62 := cf4 BK922.out) | (go_at_call 89; (with_reducible refine (yg.calls k a3_0 a0 t935 t937 t940 _ A56.out).mono ?_); rintro e w63 ⟨rfl, hb⟩; replace BK922 := kb BK922 hb; replace HB := sb HB hb))
  repeat (go_quiet (first | ((with_reducible refine zw (N := 7) rfl ?_); refine bz HB 7 rfl rfl (Ve a3_0 a3_1 a3_2 A3_3 l3_3 c3_3) 62 ?_; intro gb922 w57 BK922 GE922 HB; have hz58 := cf4 BK922.out; have p934 : 0 <= (0 : Int) := (by omega); have q934 : 0 < (l3_3.length : Int) := od; obtain ⟨ad934, A934_3, c934_3, e934, hx934_0, hx934_1, hx934_2, hx934_3, hl934_3, hi934_3⟩ := Zf HR3_3.out 0 p934 q934; cases e934; have qi934 : (0 < l3_3.length) = True := eT (by omega); (simp only [show ((0 : Int)).toNat = 0 from rfl, Nat.zero_mul, Addr.add_zero'] at hx934_0 hx934_1 hx934_2 hx934_3); replace hx934_0 := zk HB.out hx934_0; replace hx934_1 := zk HB.out hx934_1; replace hx934_2 := zk HB.out hx934_2; replace hx934_3 := zk HB.out hx934_3; have HR934_3 := am hi934_3; have HC934_3 := am hl934_3; clear hi934_3 hl934_3; replace p934 := eT p934; replace q934 := eT q934) | (go_at_call 54; (with_reducible refine (ih k (by omega) a0 _ _ l1 _ _ l2 ((zg l3_3 0).f0) ((zg l3_3 0).f1) ((zg l3_3 0).f2) _ _ ((zg l3_3 0).f3) t935 _ (cb HR1 HB) HC1.out (cb HR2 HB) HC2.out (cb HR934_3 HB) HC934_3.out A36.out).mono ?_); rintro e w59 ⟨rfl, hb⟩; replace BK922 := kb BK922 hb; replace HB := sb HB hb; have hz60 := cf4 BK922.out; have p936 : 0 <= (1 : Int) := (by omega); have q936 : 1 < (l3_3.length : Int) := od; obtain ⟨ad936, A936_3, c936_3, e936, hx936_0, hx936_1, hx936_2, hx936_3, hl936_3, hi936_3⟩ := Zf HR3_3.out 1 p936 q936; obtain rfl : ad934 = ad936 := (by injection e936); (try simp only [show (1 : Int).toNat = 1 from rfl, Nat.reduceMul, Nat.reduceEqDiff, Go.Addr.add, ↓reduceIte] at hx936_0); (try simp only [show (1 : Int).toNat = 1 from rfl, Nat.reduceMul, Nat.reduceEqDiff, Go.Addr.add, ↓reduceIte] at hx936_1); (try simp only [show (1 : Int).toNat = 1 from rfl, Nat.reduceMul, Nat.reduceEqDiff, Go.Addr.add, ↓reduceIte] at hx936_2); (try simp only [show (1 : Int).toNat = 1 from rfl, Nat.reduceMul, Nat.reduceEqDiff, Go.Addr.add, ↓reduceIte] at hx936_3); have qi936 : (1 < l3_3.length) = True := eT (by omega); (try rw [show ((1 : Int)).toNat = 1 from rfl] at hx936_0); (try rw [show 1 * 4 = 4 from rfl] at hx936_0); (try rw [show ((1 : Int)).toNat = 1 from rfl] at hx936_1); (try rw [show 1 * 4 = 4 from rfl] at hx936_1); (try rw [show ((1 : Int)).toNat = 1 from rfl] at hx936_2); (try rw [show 1 * 4 = 4 from rfl] at hx936_2); (try rw [show ((1 : Int)).toNat = 1 from rfl] at hx936_3); (try rw [show 1 * 4 = 4 from rfl] at hx936_3); replace hx936_0 := zk HB.out hx936_0; replace hx936_1 := zk HB.out hx936_1; replace hx936_2 := zk HB.out hx936_2; replace hx936_3 := zk HB.out hx936_3; have HR936_3 := am hi936_3; have HC936_3 := am hl936_3; clear hi936_3 hl936_3; replace p936 := eT p936; replace q936 := eT q936) | (go_at_call 54; (with_reducible refine (ih k (by omega) a0 _ _ l1 _ _ l2 ((zg l3_3 1).f0) ((zg l3_3 1).f1) ((zg l3_3 1).f2) _ _ ((zg l3_3 1).f3) t937 _ (cb HR1 HB) HC1.out (cb HR2 HB) HC2.out (cb HR936_3 HB) HC936_3.out A38.out).mono ?_); rintro e w61 ⟨rfl, hb⟩; replace BK922 := kb BK922 hb; replace HB := sb HB hb; have hz62 := cf4 BK922.out) | (go_at_call 89; (with_reducible refine (yg.calls k a3_0 a0 t935 t937 t940 _ A56.out).mono ?_); rintro e w63 ⟨rfl, hb⟩; replace BK922 := kb BK922 hb; replace HB := sb HB hb)); try go_wp2)
  go_ret
  exact ⟨rr, bb HB⟩
 obtain ⟨c40, c40b0, c40b1, H⟩ | ⟨c40b0, c40b1, H⟩ := qi H
 ·obtain rfl := sj H
  go_enter Tryz.func54, Tryz.ntmps54
  go_wp2_with (first | ((with_reducible refine zw (N := 7) rfl ?_); refine bz HB 7 rfl rfl (Ve a3_0 a3_1 a3_2 A3_3 l3_3 c3_3) 62 ?_; intro gb922 w50 BK922 GE922 HB; have hz51 := cf4 BK922.out; have p934 : 0 <= (0 : Int) := (by omega); have q934 : 0 < (l3_3.length : Int) := od; obtain ⟨ad934, A934_3, c934_3, e934, hx934_0, hx934_1, hx934_2, hx934_3, hl934_3, hi934_3⟩ := Zf HR3_3.out 0 p934 q934; cases e934; have qi934 : (0 < l3_3.length) = True := eT (by omega); (simp only [show ((0 : Int)).toNat = 0 from rfl, Nat.zero_mul, Addr.add_zero'] at hx934_0 hx934_1 hx934_2 hx934_3); replace hx934_0 := zk HB.out hx934_0; replace hx934_1 := zk HB.out hx934_1; replace hx934_2 := zk HB.out hx934_2; replace hx934_3 := zk HB.out hx934_3; have HR934_3 := am hi934_3; have HC934_3 := am hl934_3; clear hi934_3 hl934_3; replace p934 := eT p934; replace q934 := eT q934) | (go_at_call 54; (with_reducible refine (ih k (by omega) a0 _ _ l1 _ _ l2 ((zg l3_3 0).f0) ((zg l3_3 0).f1) ((zg l3_3 0).f2) _ _ ((zg l3_3 0).f3) t935 _ (cb HR1 HB) HC1.out (cb HR2 HB) HC2.out (cb HR934_3 HB) HC934_3.out A36.out).mono ?_); rintro e w52 ⟨rfl, hb⟩; replace BK922 := kb BK922 hb; replace HB := sb HB hb; have hz53 := cf4 BK922.out; have p936 : 0 <= (1 : Int) := (by omega); have q936 : 1 < (l3_3.length : Int) := od; obtain ⟨ad936, A936_3, c936_3, e936, hx936_0, hx936_1, hx936_2, hx936_3, hl936_3, hi936_3⟩ := Zf HR3_3.out 1 p936 q936; obtain rfl : ad934 = ad936 := (by injection e936); (try simp only [show (1 : Int).toNat = 1 from rfl, Nat.reduceMul, Nat.reduceEqDiff, Go.Addr.add, ↓reduceIte] at hx936_0); (try simp only [show (1 : Int).toNat = 1 from rfl, Nat.reduceMul, Nat.reduceEqDiff, Go.Addr.add, ↓reduceIte] at hx936_1); (try simp only [show (1 : Int).toNat = 1 from rfl, Nat.reduceMul, Nat.reduceEqDiff, Go.Addr.add, ↓reduceIte] at hx936_2); (try simp only [show (1 : Int).toNat = 1 from rfl, Nat.reduceMul, Nat.reduceEqDiff, Go.Addr.add, ↓reduceIte] at hx936_3); have qi936 : (1 < l3_3.length) = True := eT (by omega); (try rw [show ((1 : Int)).toNat = 1 from rfl] at hx936_0); (try rw [show 1 * 4 = 4 from rfl] at hx936_0); (try rw [show ((1 : Int)).toNat = 1 from rfl] at hx936_1); (try rw [show 1 * 4 = 4 from rfl] at hx936_1); (try rw [show ((1 : Int)).toNat = 1 from rfl] at hx936_2); (try rw [show 1 * 4 = 4 from rfl] at hx936_2); (try rw [show ((1 : Int)).toNat = 1 from rfl] at hx936_3); (try rw [show 1 * 4 = 4 from rfl] at hx936_3); replace hx936_0 := zk HB.out hx936_0; replace hx936_1 := zk HB.out hx936_1; replace hx936_2 := zk HB.out hx936_2; replace hx936_3 := zk HB.out hx936_3; have HR936_3 := am hi936_3; have HC936_3 := am hl936_3; clear hi936_3 hl936_3; replace p936 := eT p936; replace q936 := eT q936) | (go_at_call 54; (with_reducible refine (ih k (by omega) a0 _ _ l1 _ _ l2 ((zg l3_3 1).f0) ((zg l3_3 1).f1) ((zg l3_3 1).f2) _ _ ((zg l3_3 1).f3) t937 _ (cb HR1 HB) HC1.out (cb HR2 HB) HC2.out (cb HR936_3 HB) HC936_3.out A38.out).mono ?_); rintro e w54 ⟨rfl, hb⟩; replace BK922 := kb BK922 hb; replace HB := sb HB hb; have hz55 := cf4 BK922.out))
  repeat (go_quiet (first | ((with_reducible refine zw (N := 7) rfl ?_); refine bz HB 7 rfl rfl (Ve a3_0 a3_1 a3_2 A3_3 l3_3 c3_3) 62 ?_; intro gb922 w50 BK922 GE922 HB; have hz51 := cf4 BK922.out; have p934 : 0 <= (0 : Int) := (by omega); have q934 : 0 < (l3_3.length : Int) := od; obtain ⟨ad934, A934_3, c934_3, e934, hx934_0, hx934_1, hx934_2, hx934_3, hl934_3, hi934_3⟩ := Zf HR3_3.out 0 p934 q934; cases e934; have qi934 : (0 < l3_3.length) = True := eT (by omega); (simp only [show ((0 : Int)).toNat = 0 from rfl, Nat.zero_mul, Addr.add_zero'] at hx934_0 hx934_1 hx934_2 hx934_3); replace hx934_0 := zk HB.out hx934_0; replace hx934_1 := zk HB.out hx934_1; replace hx934_2 := zk HB.out hx934_2; replace hx934_3 := zk HB.out hx934_3; have HR934_3 := am hi934_3; have HC934_3 := am hl934_3; clear hi934_3 hl934_3; replace p934 := eT p934; replace q934 := eT q934) | (go_at_call 54; (with_reducible refine (ih k (by omega) a0 _ _ l1 _ _ l2 ((zg l3_3 0).f0) ((zg l3_3 0).f1) ((zg l3_3 0).f2) _ _ ((zg l3_3 0).f3) t935 _ (cb HR1 HB) HC1.out (cb HR2 HB) HC2.out (cb HR934_3 HB) HC934_3.out A36.out).mono ?_); rintro e w52 ⟨rfl, hb⟩; replace BK922 := kb BK922 hb; replace HB := sb HB hb; have hz53 := cf4 BK922.out; have p936 : 0 <= (1 : Int) := (by omega); have q936 : 1 < (l3_3.length : Int) := od; obtain ⟨ad936, A936_3, c936_3, e936, hx936_0, hx936_1, hx936_2, hx936_3, hl936_3, hi936_3⟩ := Zf HR3_3.out 1 p936 q936; obtain rfl : ad934 = ad936 := (by injection e936); (try simp only [show (1 : Int).toNat = 1 from rfl, Nat.reduceMul, Nat.reduceEqDiff, Go.Addr.add, ↓reduceIte] at hx936_0); (try simp only [show (1 : Int).toNat = 1 from rfl, Nat.reduceMul, Nat.reduceEqDiff, Go.Addr.add, ↓reduceIte] at hx936_1); (try simp only [show (1 : Int).toNat = 1 from rfl, Nat.reduceMul, Nat.reduceEqDiff, Go.Addr.add, ↓reduceIte] at hx936_2); (try simp only [show (1 : Int).toNat = 1 from rfl, Nat.reduceMul, Nat.reduceEqDiff, Go.Addr.add, ↓reduceIte] at hx936_3); have qi936 : (1 < l3_3.length) = True := eT (by omega); (try rw [show ((1 : Int)).toNat = 1 from rfl] at hx936_0); (try rw [show 1 * 4 = 4 from rfl] at hx936_0); (try rw [show ((1 : Int)).toNat = 1 from rfl] at hx936_1); (try rw [show 1 * 4 = 4 from rfl] at hx936_1); (try rw [show ((1 : Int)).toNat = 1 from rfl] at hx936_2); (try rw [show 1 * 4 = 4 from rfl] at hx936_2); (try rw [show ((1 : Int)).toNat = 1 from rfl] at hx936_3); (try rw [show 1 * 4 = 4 from rfl] at hx936_3); replace hx936_0 := zk HB.out hx936_0; replace hx936_1 := zk HB.out hx936_1; replace hx936_2 := zk HB.out hx936_2; replace hx936_3 := zk HB.out hx936_3; have HR936_3 := am hi936_3; have HC936_3 := am hl936_3; clear hi936_3 hl936_3; replace p936 := eT p936; replace q936 := eT q936) | (go_at_call 54; (with_reducible refine (ih k (by omega) a0 _ _ l1 _ _ l2 ((zg l3_3 1).f0) ((zg l3_3 1).f1) ((zg l3_3 1).f2) _ _ ((zg l3_3 1).f3) t937 _ (cb HR1 HB) HC1.out (cb HR2 HB) HC2.out (cb HR936_3 HB) HC936_3.out A38.out).mono ?_); rintro e w54 ⟨rfl, hb⟩; replace BK922 := kb BK922 hb; replace HB := sb HB hb; have hz55 := cf4 BK922.out)); try go_wp2)
  go_ret
  exact ⟨rr, bb HB⟩
 obtain ⟨c41b0, H⟩ := pd H
 have c41 := of_decide_eq_true c41b0
 have c41b1 : decide (2 < l3_3.length) = true := dT (by omega)
 clear c41
 obtain ⟨t939, A42, H⟩ := be H
 obtain rfl := sj H
 go_enter Tryz.func54, Tryz.ntmps54
 go_wp2_with (first | ((with_reducible refine zw (N := 7) rfl ?_); refine bz HB 7 rfl rfl (Ve a3_0 a3_1 a3_2 A3_3 l3_3 c3_3) 62 ?_; intro gb922 w43 BK922 GE922 HB; have hz44 := cf4 BK922.out; have p934 : 0 <= (0 : Int) := (by omega); have q934 : 0 < (l3_3.length : Int) := od; obtain ⟨ad934, A934_3, c934_3, e934, hx934_0, hx934_1, hx934_2, hx934_3, hl934_3, hi934_3⟩ := Zf HR3_3.out 0 p934 q934; cases e934; have qi934 : (0 < l3_3.length) = True := eT (by omega); (simp only [show ((0 : Int)).toNat = 0 from rfl, Nat.zero_mul, Addr.add_zero'] at hx934_0 hx934_1 hx934_2 hx934_3); replace hx934_0 := zk HB.out hx934_0; replace hx934_1 := zk HB.out hx934_1; replace hx934_2 := zk HB.out hx934_2; replace hx934_3 := zk HB.out hx934_3; have HR934_3 := am hi934_3; have HC934_3 := am hl934_3; clear hi934_3 hl934_3; replace p934 := eT p934; replace q934 := eT q934) | (go_at_call 54; (with_reducible refine (ih k (by omega) a0 _ _ l1 _ _ l2 ((zg l3_3 0).f0) ((zg l3_3 0).f1) ((zg l3_3 0).f2) _ _ ((zg l3_3 0).f3) t935 _ (cb HR1 HB) HC1.out (cb HR2 HB) HC2.out (cb HR934_3 HB) HC934_3.out A36.out).mono ?_); rintro e w45 ⟨rfl, hb⟩; replace BK922 := kb BK922 hb; replace HB := sb HB hb; have hz46 := cf4 BK922.out; have p936 : 0 <= (1 : Int) := (by omega); have q936 : 1 < (l3_3.length : Int) := od; obtain ⟨ad936, A936_3, c936_3, e936, hx936_0, hx936_1, hx936_2, hx936_3, hl936_3, hi936_3⟩ := Zf HR3_3.out 1 p936 q936; obtain rfl : ad934 = ad936 := (by injection e936); (try simp only [show (1 : Int).toNat = 1 from rfl, Nat.reduceMul, Nat.reduceEqDiff, Go.Addr.add, ↓reduceIte] at hx936_0); (try simp only [show (1 : Int).toNat = 1 from rfl, Nat.reduceMul, Nat.reduceEqDiff, Go.Addr.add, ↓reduceIte] at hx936_1); (try simp only [show (1 : Int).toNat = 1 from rfl, Nat.reduceMul, Nat.reduceEqDiff, Go.Addr.add, ↓reduceIte] at hx936_2); (try simp only [show (1 : Int).toNat = 1 from rfl, Nat.reduceMul, Nat.reduceEqDiff, Go.Addr.add, ↓reduceIte] at hx936_3); have qi936 : (1 < l3_3.length) = True := eT (by omega); (try rw [show ((1 : Int)).toNat = 1 from rfl] at hx936_0); (try rw [show 1 * 4 = 4 from rfl] at hx936_0); (try rw [show ((1 : Int)).toNat = 1 from rfl] at hx936_1); (try rw [show 1 * 4 = 4 from rfl] at hx936_1); (try rw [show ((1 : Int)).toNat = 1 from rfl] at hx936_2); (try rw [show 1 * 4 = 4 from rfl] at hx936_2); (try rw [show ((1 : Int)).toNat = 1 from rfl] at hx936_3); (try rw [show 1 * 4 = 4 from rfl] at hx936_3); replace hx936_0 := zk HB.out hx936_0; replace hx936_1 := zk HB.out hx936_1; replace hx936_2 := zk HB.out hx936_2; replace hx936_3 := zk HB.out hx936_3; have HR936_3 := am hi936_3; have HC936_3 := am hl936_3; clear hi936_3 hl936_3; replace p936 := eT p936; replace q936 := eT q936) | (go_at_call 54; (with_reducible refine (ih k (by omega) a0 _ _ l1 _ _ l2 ((zg l3_3 1).f0) ((zg l3_3 1).f1) ((zg l3_3 1).f2) _ _ ((zg l3_3 1).f3) t937 _ (cb HR1 HB) HC1.out (cb HR2 HB) HC2.out (cb HR936_3 HB) HC936_3.out A38.out).mono ?_); rintro e w47 ⟨rfl, hb⟩; replace BK922 := kb BK922 hb; replace HB := sb HB hb; have hz48 := cf4 BK922.out; have p938 : 0 <= (2 : Int) := (by omega); have q938 : 2 < (l3_3.length : Int) := od; obtain ⟨ad938, A938_3, c938_3, e938, hx938_0, hx938_1, hx938_2, hx938_3, hl938_3, hi938_3⟩ := Zf HR3_3.out 2 p938 q938; obtain rfl : ad934 = ad938 := (by injection e938); (try simp only [show (2 : Int).toNat = 2 from rfl, Nat.reduceMul, Nat.reduceEqDiff, Go.Addr.add, ↓reduceIte] at hx938_0); (try simp only [show (2 : Int).toNat = 2 from rfl, Nat.reduceMul, Nat.reduceEqDiff, Go.Addr.add, ↓reduceIte] at hx938_1); (try simp only [show (2 : Int).toNat = 2 from rfl, Nat.reduceMul, Nat.reduceEqDiff, Go.Addr.add, ↓reduceIte] at hx938_2); (try simp only [show (2 : Int).toNat = 2 from rfl, Nat.reduceMul, Nat.reduceEqDiff, Go.Addr.add, ↓reduceIte] at hx938_3); have qi938 : (2 < l3_3.length) = True := eT (by omega); (try rw [show ((2 : Int)).toNat = 2 from rfl] at hx938_0); (try rw [show 2 * 4 = 8 from rfl] at hx938_0); (try rw [show ((2 : Int)).toNat = 2 from rfl] at hx938_1); (try rw [show 2 * 4 = 8 from rfl] at hx938_1); (try rw [show ((2 : Int)).toNat = 2 from rfl] at hx938_2); (try rw [show 2 * 4 = 8 from rfl] at hx938_2); (try rw [show ((2 : Int)).toNat = 2 from rfl] at hx938_3); (try rw [show 2 * 4 = 8 from rfl] at hx938_3); replace hx938_0 := zk HB.out hx938_0; replace hx938_1 := zk HB.out hx938_1; replace hx938_2 := zk HB.out hx938_2; replace hx938_3 := zk HB.out hx938_3; have HR938_3 := am hi938_3; have HC938_3 := am hl938_3; clear hi938_3 hl938_3; replace p938 := eT p938; replace q938 := eT q938) | (go_at_call 54; (with_reducible refine (ih k (by omega) a0 _ _ l1 _ _ l2 ((zg l3_3 2).f0) ((zg l3_3 2).f1) ((zg l3_3 2).f2) _ _ ((zg l3_3 2).f3) t939 _ (cb HR1 HB) HC1.out (cb HR2 HB) HC2.out (cb HR938_3 HB) HC938_3.out A42.out).mono ?_); rintro e w49 ⟨rfl, hb⟩; replace BK922 := kb BK922 hb; replace HB := sb HB hb))
 repeat (go_quiet (first | ((with_reducible refine zw (N := 7) rfl ?_); refine bz HB 7 rfl rfl (Ve a3_0 a3_1 a3_2 A3_3 l3_3 c3_3) 62 ?_; intro gb922 w43 BK922 GE922 HB; have hz44 := cf4 BK922.out; have p934 : 0 <= (0 : Int) := (by omega); have q934 : 0 < (l3_3.length : Int) := od; obtain ⟨ad934, A934_3, c934_3, e934, hx934_0, hx934_1, hx934_2, hx934_3, hl934_3, hi934_3⟩ := Zf HR3_3.out 0 p934 q934; cases e934; have qi934 : (0 < l3_3.length) = True := eT (by omega); (simp only [show ((0 : Int)).toNat = 0 from rfl, Nat.zero_mul, Addr.add_zero'] at hx934_0 hx934_1 hx934_2 hx934_3); replace hx934_0 := zk HB.out hx934_0; replace hx934_1 := zk HB.out hx934_1; replace hx934_2 := zk HB.out hx934_2; replace hx934_3 := zk HB.out hx934_3; have HR934_3 := am hi934_3; have HC934_3 := am hl934_3; clear hi934_3 hl934_3; replace p934 := eT p934; replace q934 := eT q934) | (go_at_call 54; (with_reducible refine (ih k (by omega) a0 _ _ l1 _ _ l2 ((zg l3_3 0).f0) ((zg l3_3 0).f1) ((zg l3_3 0).f2) _ _ ((zg l3_3 0).f3) t935 _ (cb HR1 HB) HC1.out (cb HR2 HB) HC2.out (cb HR934_3 HB) HC934_3.out A36.out).mono ?_); rintro e w45 ⟨rfl, hb⟩; replace BK922 := kb BK922 hb; replace HB := sb HB hb; have hz46 := cf4 BK922.out; have p936 : 0 <= (1 : Int) := (by omega); have q936 : 1 < (l3_3.length : Int) := od; obtain ⟨ad936, A936_3, c936_3, e936, hx936_0, hx936_1, hx936_2, hx936_3, hl936_3, hi936_3⟩ := Zf HR3_3.out 1 p936 q936; obtain rfl : ad934 = ad936 := (by injection e936); (try simp only [show (1 : Int).toNat = 1 from rfl, Nat.reduceMul, Nat.reduceEqDiff, Go.Addr.add, ↓reduceIte] at hx936_0); (try simp only [show (1 : Int).toNat = 1 from rfl, Nat.reduceMul, Nat.reduceEqDiff, Go.Addr.add, ↓reduceIte] at hx936_1); (try simp only [show (1 : Int).toNat = 1 from rfl, Nat.reduceMul, Nat.reduceEqDiff, Go.Addr.add, ↓reduceIte] at hx936_2); (try simp only [show (1 : Int).toNat = 1 from rfl, Nat.reduceMul, Nat.reduceEqDiff, Go.Addr.add, ↓reduceIte] at hx936_3); have qi936 : (1 < l3_3.length) = True := eT (by omega); (try rw [show ((1 : Int)).toNat = 1 from rfl] at hx936_0); (try rw [show 1 * 4 = 4 from rfl] at hx936_0); (try rw [show ((1 : Int)).toNat = 1 from rfl] at hx936_1); (try rw [show 1 * 4 = 4 from rfl] at hx936_1); (try rw [show ((1 : Int)).toNat = 1 from rfl] at hx936_2); (try rw [show 1 * 4 = 4 from rfl] at hx936_2); (try rw [show ((1 : Int)).toNat = 1 from rfl] at hx936_3); (try rw [show 1 * 4 = 4 from rfl] at hx936_3); replace hx936_0 := zk HB.out hx936_0; replace hx936_1 := zk HB.out hx936_1; replace hx936_2 := zk HB.out hx936_2; replace hx936_3 := zk HB.out hx936_3; have HR936_3 := am hi936_3; have HC936_3 := am hl936_3; clear hi936_3 hl936_3; replace p936 := eT p936; replace q936 := eT q936) | (go_at_call 54; (with_reducible refine (ih k (by omega) a0 _ _ l1 _ _ l2 ((zg l3_3 1).f0) ((zg l3_3 1).f1) ((zg l3_3 1).f2) _ _ ((zg l3_3 1).f3) t937 _ (cb HR1 HB) HC1.out (cb HR2 HB) HC2.out (cb HR936_3 HB) HC936_3.out A38.out).mono ?_); rintro e w47 ⟨rfl, hb⟩; replace BK922 := kb BK922 hb; replace HB := sb HB hb; have hz48 := cf4 BK922.out; have p938 : 0 <= (2 : Int) := (by omega); have q938 : 2 < (l3_3.length : Int) := od; obtain ⟨ad938, A938_3, c938_3, e938, hx938_0, hx938_1, hx938_2, hx938_3, hl938_3, hi938_3⟩ := Zf HR3_3.out 2 p938 q938; obtain rfl : ad934 = ad938 := (by injection e938); (try simp only [show (2 : Int).toNat = 2 from rfl, Nat.reduceMul, Nat.reduceEqDiff, Go.Addr.add, ↓reduceIte] at hx938_0); (try simp only [show (2 : Int).toNat = 2 from rfl, Nat.reduceMul, Nat.reduceEqDiff, Go.Addr.add, ↓reduceIte] at hx938_1); (try simp only [show (2 : Int).toNat = 2 from rfl, Nat.reduceMul, Nat.reduceEqDiff, Go.Addr.add, ↓reduceIte] at hx938_2); (try simp only [show (2 : Int).toNat = 2 from rfl, Nat.reduceMul, Nat.reduceEqDiff, Go.Addr.add, ↓reduceIte] at hx938_3); have qi938 : (2 < l3_3.length) = True := eT (by omega); (try rw [show ((2 : Int)).toNat = 2 from rfl] at hx938_0); (try rw [show 2 * 4 = 8 from rfl] at hx938_0); (try rw [show ((2 : Int)).toNat = 2 from rfl] at hx938_1); (try rw [show 2 * 4 = 8 from rfl] at hx938_1); (try rw [show ((2 : Int)).toNat = 2 from rfl] at hx938_2); (try rw [show 2 * 4 = 8 from rfl] at hx938_2); (try rw [show ((2 : Int)).toNat = 2 from rfl] at hx938_3); (try rw [show 2 * 4 = 8 from rfl] at hx938_3); replace hx938_0 := zk HB.out hx938_0; replace hx938_1 := zk HB.out hx938_1; replace hx938_2 := zk HB.out hx938_2; replace hx938_3 := zk HB.out hx938_3; have HR938_3 := am hi938_3; have HC938_3 := am hl938_3; clear hi938_3 hl938_3; replace p938 := eT p938; replace q938 := eT q938) | (go_at_call 54; (with_reducible refine (ih k (by omega) a0 _ _ l1 _ _ l2 ((zg l3_3 2).f0) ((zg l3_3 2).f1) ((zg l3_3 2).f2) _ _ ((zg l3_3 2).f3) t939 _ (cb HR1 HB) HC1.out (cb HR2 HB) HC2.out (cb HR938_3 HB) HC938_3.out A42.out).mono ?_); rintro e w49 ⟨rfl, hb⟩; replace BK922 := kb BK922 hb; replace HB := sb HB hb)); try go_wp2)
 go_ret
 exact ⟨rr, bb HB⟩
theorem z3u (n : Nat) (hn : n <= 60) : zc (fun k => Zb.f k (n : Int)) (2 ^ n : Int) := by
 unfold Zb.f
 have := z1T n 0 n (by omega) hn
 rw [Int.pow_zero] at this
 exact this
theorem YW (n : Nat) : (0 : Int) < 2 ^ n := Int.pow_pos (by decide)
theorem z1i {n : Nat} (h : n <= 8) : (2 : Int) ^ n <= 256 := by
 have := z6V h
 have e : (2 : Int) ^ 8 = 256 := by decide
 omega
theorem z1N {a b : Int} (ha : 0 <= a) (hb : 0 < b) : 0 <= Int.tmod a b /\ Int.tmod a b < b := ⟨Int.tmod_nonneg _ ha, Int.tmod_lt_of_pos _ hb⟩
theorem z4M {a b : Int} (ha : 0 <= a) (hb : 0 < b) : 0 <= Int.tdiv a b /\ Int.tdiv a b <= a := by
 rw [Int.tdiv_eq_ediv_of_nonneg ha]
 exact ⟨Int.ediv_nonneg ha (by omega), Int.ediv_le_self _ ha⟩
theorem bit_t (a : Int) (h0 : 0 <= a) (h1 : a <= 1000) (i : Nat) (hi : i <= 8) : ∃ b, zc (fun k => z0S.f k a (i : Int)) b /\ (b = 0 \/ b = 1) := by
 have hp := YW i
 have hd := z4M h0 hp
 have hm := z1N (b := 2) hd.1 (by decide)
 refine ⟨Int.tmod (Int.tdiv a (2 ^ i)) 2, ?_, by omega⟩
 unfold z0S.f
 refine zc.bind (z3u i (by omega)) (zc.ifF (by omega) ?_)
 rw [w64 (by omega) (by omega)]
 exact zc.pure _
theorem gate_t (op : Int) {a b : Int} (ha : a = 0 \/ a = 1) (hb : b = 0 \/ b = 1) : ∃ c, z0u.f op a b = some c /\ (c = 0 \/ c = 1) := by
 unfold z0u.f
 by_cases h7 : op = 7
 ·rw [if_pos h7]
  rcases ha with rfl | rfl <;> rcases hb with rfl | rfl
  ·exact ⟨0, by decide +kernel, .inl rfl⟩
  ·exact ⟨0, by decide +kernel, .inl rfl⟩
  ·exact ⟨0, by decide +kernel, .inl rfl⟩
  ·exact ⟨1, by decide +kernel, .inr rfl⟩
 ·rw [if_neg h7]
  by_cases h8 : op = 8
  ·rw [if_pos h8]
   rcases ha with rfl | rfl <;> rcases hb with rfl | rfl
   ·exact ⟨0, by decide +kernel, .inl rfl⟩
   ·exact ⟨1, by decide +kernel, .inr rfl⟩
   ·exact ⟨1, by decide +kernel, .inr rfl⟩
   ·exact ⟨1, by decide +kernel, .inr rfl⟩
  ·rw [if_neg h8]
   rcases ha with rfl | rfl <;> rcases hb with rfl | rfl
   ·exact ⟨0, by decide +kernel, .inl rfl⟩
   ·exact ⟨1, by decide +kernel, .inr rfl⟩
   ·exact ⟨1, by decide +kernel, .inr rfl⟩
   ·exact ⟨0, by decide +kernel, .inl rfl⟩
theorem z5u : ∀ (suf pre : List Int) (s : Int), (pre ++ suf).length <= 8 -> (∀ x ∈ suf, x = 0 \/ x = 1) -> 0 <= s -> s < 2 ^ pre.length ->
  ∃ d, zc (fun k => z02.l0 k (pre ++ suf) s (pre.length : Int)) d /\ 0 <= d /\ d < 2 ^ (pre ++ suf).length
 | [], pre, s, _, _, h0, h1 => by
  refine ⟨s, zc.succ ?_, h0, by rw [List.append_nil]; exact h1⟩
  simp only [z02.l0, ZE, if_false]
  exact zc.pure _
 | x :: r, pre, s, hl, hx, h0, h1 => by
  have hx1 := hx x (by simp)
  have hpl : pre.length <= 7 := by rw [List.length_append, List.length_cons] at hl; omega
  have hp := z1i (n := pre.length) (by omega)
  have e : (2 : Int) ^ (pre ++ [x]).length = 2 * 2 ^ pre.length := by rw [List.length_append, List.length_singleton, Int.pow_succ, Int.mul_comm]
  have hxp : x * 2 ^ pre.length = 0 \/ x * 2 ^ pre.length = 2 ^ pre.length := by
   rcases hx1 with rfl | rfl
   ·left; rw [Int.zero_mul]
   ·right; rw [Int.one_mul]
  have hb : 0 <= x * 2 ^ pre.length /\ x * 2 ^ pre.length <= 2 ^ pre.length := by rcases hxp with h | h <;> rw [h] <;> omega
  obtain ⟨d, t, d0, d1⟩ := z5u r (pre ++ [x]) (s + x * 2 ^ pre.length) (by rw [<- zM]; exact hl) (fun u hu => hx u (by simp [hu])) (by omega) (by rw [e]; omega)
  rw [<- zM] at t d1
  refine ⟨d, zc.succ ?_, d0, d1⟩
  simp only [z02.l0, Zc, Z5, if_true, z3A]
  refine zc.bind (z3u pre.length (by omega)) ?_
  rw [w64 (n := x * 2 ^ pre.length) (by omega) (by omega), w64 (n := s + x * 2 ^ pre.length) (by omega) (by omega), Z6 pre x r (by omega)]
  exact t
theorem z3o (op a b : Int) (a0 : 0 <= a) (a1 : a <= 1000) (b0 : 0 <= b) (b1 : b <= 1000) (n : Nat) (hn : n <= 8) : ∀ (j i : Nat) (acc : List Int), i + j = n -> acc.length = i -> (∀ x ∈ acc, x = 0 \/ x = 1) ->
  ∃ d, zc (fun k => yb.l0 k op (n : Int) a b acc (i : Int)) d /\ 0 <= d /\ d < 2 ^ n
 | 0, i, acc, h, hl, hx => by
  obtain ⟨d, t, d0, d1⟩ := z5u acc [] 0 (by rw [List.nil_append]; omega) hx (Int.le_refl _) (by decide)
  rw [List.nil_append, hl] at d1
  have e : i = n := by omega
  rw [e] at d1
  refine ⟨d, zc.succ ?_, d0, d1⟩
  have : ¬ (i : Int) < (n : Int) := by omega
  simp only [yb.l0, this, if_false]
  refine zc.bind ?_ (zc.pure _)
  unfold z02.f
  exact t
 | j + 1, i, acc, h, hl, hx => by
  obtain ⟨p, tp, hp⟩ := bit_t a a0 a1 i (by omega)
  obtain ⟨q, tq, hq⟩ := bit_t b b0 b1 i (by omega)
  obtain ⟨c, tc, hc⟩ := gate_t op hp hq
  obtain ⟨d, t, d0, d1⟩ := z3o op a b a0 a1 b0 b1 n hn j (i + 1) (acc ++ [c]) (by omega) (by rw [List.length_append, List.length_singleton, hl]) (by
   intro x hx'
   rw [List.mem_append, List.mem_singleton] at hx'
   rcases hx' with hx' | rfl
   ·exact hx x hx'
   ·exact hc)
  refine ⟨d, zc.succ ?_, d0, d1⟩
  have hlt : (i : Int) < (n : Int) := by omega
  simp only [yb.l0, hlt, if_true]
  refine zc.bind tp (zc.bind tq ?_)
  refine zc.bind (g := fun _ => z0u.f op p q) ⟨0, fun _ _ => tc⟩ (zc.ifT (by omega) ?_)
  rw [w64 (by omega) (by omega)]
  exact t
theorem each_t (op a b : Int) (a0 : 0 <= a) (a1 : a <= 1000) (b0 : 0 <= b) (b1 : b <= 1000) (n : Nat) (hn : n <= 8) : ∃ d, zc (fun k => yb.f k op (n : Int) a b) d /\ 0 <= d /\ d < 2 ^ n := by
 unfold yb.f
 exact z3o op a b a0 a1 b0 b1 n hn n 0 [] (by omega) rfl (by simp)
theorem One_t (b : Bool) (n : Nat) (hn : 1 <= n) : ∃ d, ZF.f b = some d /\ 0 <= d /\ d < 2 ^ n := by
 have : (2 : Int) <= 2 ^ n := by
  have := z6V hn
  have e : (2 : Int) ^ 1 = 2 := by decide
  omega
 unfold ZF.f
 cases b
 ·exact ⟨0, rfl, Int.le_refl _, by omega⟩
 ·exact ⟨1, rfl, by decide, by omega⟩
theorem Top_t (n : Nat) (hn : n <= 8) : zc (fun k => z0R.f k (n : Int)) (2 ^ n - 1) := by
 unfold z0R.f
 have h1 := z1i hn
 have h2 := YW n
 refine zc.bind (z3u n (by omega)) ?_
 rw [w64 (by omega) (by omega)]
 exact zc.pure _
theorem Not_t (n : Nat) (hn : n <= 8) (a : Int) (a0 : 0 <= a) (a1 : a < 2 ^ n) : zc (fun k => Yv.f k (n : Int) a) (2 ^ n - 1 - a) := by
 unfold Yv.f
 have h1 := z1i hn
 refine zc.bind (Top_t n hn) ?_
 rw [w64 (by omega) (by omega)]
 exact zc.pure _
theorem z3l {a b : Int} (a0 : 0 <= a) (a1 : a <= 256) (b0 : 0 <= b) (b1 : b <= 256) : 0 <= a * b /\ a * b <= 65536 :=
 ⟨Int.mul_nonneg a0 b0, Int.le_trans (Int.mul_le_mul a1 b1 b0 (by decide)) (by decide)⟩
theorem do_t (n : Nat) (h1 : 1 <= n) (hn : n <= 8) (op a b : Int) (a0 : 0 <= a) (a1 : a < 2 ^ n) (b0 : 0 <= b) (b1 : b < 2 ^ n) : ∃ d, zc (fun k => yg.f k op (n : Int) a b) d /\ 0 <= d /\ d < 2 ^ n := by
 have hp := z1i hn
 have hp0 := YW n
 have tP := z3u n (by omega)
 have hab := z3l a0 (by omega) b0 (by omega)
 unfold yg.f
 by_cases o2 : op = 2
 ·simp only [o2, if_true]
  have := z1N (a := a + b) (b := 2 ^ n) (by omega) hp0
  refine ⟨Int.tmod (a + b) (2 ^ n), zc.bind tP (zc.ifF (by omega) ?_), this⟩
  rw [w64 (by omega) (by omega)]
  exact zc.pure _
 by_cases o3 : op = 3
 ·simp only [o3, show ¬ ((3 : Int) = 2) by decide, if_true, if_false]
  have := z1N (a := a + 2 ^ n - b) (b := 2 ^ n) (by omega) hp0
  refine ⟨Int.tmod (a + 2 ^ n - b) (2 ^ n), zc.bind tP (zc.bind tP (zc.ifF (by omega) ?_)), this⟩
  rw [w64 (n := a + 2 ^ n) (by omega) (by omega), w64 (by omega) (by omega)]
  exact zc.pure _
 by_cases o4 : op = 4
 ·simp only [o4, show ¬ ((4 : Int) = 2) by decide, show ¬ ((4 : Int) = 3) by decide, if_true, if_false]
  have := z1N (a := a * b) (b := 2 ^ n) hab.1 hp0
  refine ⟨Int.tmod (a * b) (2 ^ n), zc.bind tP (zc.ifF (by omega) ?_), this⟩
  rw [w64 (by omega) (by omega)]
  exact zc.pure _
 by_cases o5 : op = 5
 ·simp only [o5, show ¬ ((5 : Int) = 2) by decide, show ¬ ((5 : Int) = 3) by decide, show ¬ ((5 : Int) = 4) by decide, if_true, if_false]
  by_cases hb : b = 0
  ·exact ⟨2 ^ n - 1, zc.ifT hb (zc.bind (Top_t n hn) (zc.pure _)), by omega, by omega⟩
  ·have := z4M (a := a) (b := b) a0 (by omega)
   refine ⟨Int.tdiv a b, zc.ifF hb ?_, this.1, by omega⟩
   rw [w64 (by omega) (by omega)]
   exact zc.pure _
 by_cases o6 : op = 6
 ·simp only [o6, show ¬ ((6 : Int) = 2) by decide, show ¬ ((6 : Int) = 3) by decide, show ¬ ((6 : Int) = 4) by decide, show ¬ ((6 : Int) = 5) by decide, if_true, if_false]
  by_cases hb : b = 0
  ·exact ⟨a, zc.ifT hb (zc.pure _), a0, a1⟩
  ·have := z1N (a := a) (b := b) a0 (by omega)
   exact ⟨Int.tmod a b, zc.ifF hb (zc.pure _), this.1, by omega⟩
 simp only [o2, o3, o4, o5, o6, if_false]
 have key : ∀ c : Bool, ∃ d, zc (fun k => yg.j0 k op (n : Int) a b op c) d /\ 0 <= d /\ d < 2 ^ n := by
  intro c
  by_cases hc : c = true
  ·obtain ⟨d, t, d0, d1⟩ := each_t op a b a0 (by omega) b0 (by omega) n hn
   refine ⟨d, zc.succ ?_, d0, d1⟩
   simp only [yg.j0, hc, if_true]
   exact zc.bind t (zc.pure _)
  ·by_cases o10 : op = 10
   ·by_cases hb : b >= (n : Int)
    ·refine ⟨0, zc.succ ?_, Int.le_refl _, hp0⟩
     simp only [yg.j0, hc, Bool.false_eq_true, o10, if_false, if_true]
     exact zc.ifT hb (zc.pure _)
    ·obtain ⟨m, rfl⟩ : ∃ m : Nat, b = m := ⟨b.toNat, by omega⟩
     have hq := z1i (n := m) (by omega)
     have hm := z3l (a := a) (b := 2 ^ m) a0 (by omega) (by have := YW m; omega) hq
     have := z1N (a := a * 2 ^ m) (b := 2 ^ n) hm.1 hp0
     refine ⟨Int.tmod (a * 2 ^ m) (2 ^ n), zc.succ ?_, this⟩
     simp only [yg.j0, hc, Bool.false_eq_true, o10, if_false, if_true]
     refine zc.ifF hb (zc.bind (z3u m (by omega)) (zc.bind tP (zc.ifF (by omega) ?_)))
     rw [w64 (by omega) (by omega)]
     exact zc.pure _
   ·by_cases o11 : op = 11
    ·by_cases hb : b >= (n : Int)
     ·refine ⟨0, zc.succ ?_, Int.le_refl _, hp0⟩
      simp only [yg.j0, hc, Bool.false_eq_true, o11, show ¬ ((11 : Int) = 10) by decide, if_false, if_true]
      exact zc.ifT hb (zc.pure _)
     ·obtain ⟨m, rfl⟩ : ∃ m : Nat, b = m := ⟨b.toNat, by omega⟩
      have hq := YW m
      have := z4M (a := a) (b := 2 ^ m) a0 hq
      refine ⟨Int.tdiv a (2 ^ m), zc.succ ?_, this.1, by omega⟩
      simp only [yg.j0, hc, Bool.false_eq_true, o11, show ¬ ((11 : Int) = 10) by decide, if_false, if_true]
      refine zc.ifF hb (zc.bind (z3u m (by omega)) (zc.ifF (by omega) ?_))
      rw [w64 (by omega) (by omega)]
      exact zc.pure _
    ·by_cases o13 : op = 13
     ·obtain ⟨d, t, d0, d1⟩ := One_t (a == b) n h1
      refine ⟨d, zc.succ ?_, d0, d1⟩
      simp only [yg.j0, hc, Bool.false_eq_true, o13, show ¬ ((13 : Int) = 10) by decide, show ¬ ((13 : Int) = 11) by decide, if_false, if_true]
      exact zc.bind (g := fun _ => ZF.f (a == b)) ⟨0, fun _ _ => t⟩ (zc.pure _)
     ·obtain ⟨d, t, d0, d1⟩ := One_t (decide (a < b)) n h1
      refine ⟨d, zc.succ ?_, d0, d1⟩
      simp only [yg.j0, hc, Bool.false_eq_true, o10, o11, o13, if_false]
      exact zc.bind (g := fun _ => ZF.f (decide (a < b))) ⟨0, fun _ _ => t⟩ (zc.pure _)
 by_cases o7 : op = 7
 ·simp only [o7, if_true]
  exact o7 ▸ key _
 ·by_cases o8 : op = 8
  ·simp only [o8, show ¬ ((8 : Int) = 7) by decide, if_false, if_true]
   exact o8 ▸ key _
  ·simp only [o7, o8, if_false]
   exact key _
theorem z5X {w : Int} {vs : List S76} {st : List (List Int)} {n c : Int} {l : List S62} : zc (fun k => zT.f k w vs st 0 n c l) n := by
 refine zc.succ ?_
 simp only [zT.f, if_true]
 exact zc.pure _
theorem lt1 (x : S62) (r : List S62) : (0 : Int) < ((x :: r).length : Int) := by rw [List.length_cons]; omega
theorem lt2 (x y : S62) (r : List S62) : (1 : Int) < ((x :: y :: r).length : Int) := by rw [List.length_cons, List.length_cons]; omega
theorem lt3 (x y z : S62) (r : List S62) : (2 : Int) < ((x :: y :: z :: r).length : Int) := by rw [List.length_cons, List.length_cons, List.length_cons]; omega
theorem rd0 (x : S62) (r : List S62) : zg (x :: r) 0 = x := rfl
theorem rd1 (x y : S62) (r : List S62) : zg (x :: y :: r) 1 = y := rfl
theorem rd2 (x y z : S62) (r : List S62) : zg (x :: y :: z :: r) 2 = z := rfl
theorem val_not {w : Int} {vs : List S76} {st : List (List Int)} {n c : Int} {x : S62} {v u : Int} (t : zc (fun k => zT.f k w vs st x.f0 x.f1 x.f2 x.f3) v) (tn : zc (fun k => Yv.f k w v) u) :
  zc (fun k => zT.f k w vs st 12 n c [x]) u := by
 refine zc.succ ?_
 simp only [zT.f, show ¬ ((12 : Int) = 0) by decide, show ¬ ((12 : Int) = 1) by decide, if_true, if_false, lt1, rd0]
 exact zc.bind t (zc.bind tn (zc.pure _))
theorem val_do {w : Int} {vs : List S76} {st : List (List Int)} {op n c : Int} {x y : S62} {a b d : Int} (o0 : op ≠ 0) (o1 : op ≠ 1) (o12 : op ≠ 12) (o15 : op ≠ 15) (tx : zc (fun k => zT.f k w vs st x.f0 x.f1 x.f2 x.f3) a) (ty : zc (fun k => zT.f k w vs st y.f0 y.f1 y.f2 y.f3) b)
  (td : zc (fun k => yg.f k op w a b) d) : zc (fun k => zT.f k w vs st op n c [x, y]) d := by
 refine zc.succ ?_
 simp only [zT.f, o0, o1, o12, o15, if_true, if_false, lt1, rd0, lt2, rd1]
 exact zc.bind tx (zc.bind ty (zc.bind td (zc.pure _)))
theorem val_if {w : Int} {vs : List S76} {st : List (List Int)} {n c : Int} {x y z : S62} {a b d : Int} (tx : zc (fun k => zT.f k w vs st x.f0 x.f1 x.f2 x.f3) a) (ty : zc (fun k => zT.f k w vs st y.f0 y.f1 y.f2 y.f3) b)
  (tz : zc (fun k => zT.f k w vs st z.f0 z.f1 z.f2 z.f3) d) : zc (fun k => zT.f k w vs st 15 n c [x, y, z]) (if a = 0 then d else b) := by
 refine zc.succ ?_
 simp only [zT.f, show ¬ ((15 : Int) = 0) by decide, show ¬ ((15 : Int) = 1) by decide, show ¬ ((15 : Int) = 12) by decide, if_true, if_false, lt1, rd0, lt2, rd1, lt3, rd2]
 refine zc.bind tx (zc.bind ty ?_)
 by_cases h : a = 0
 ·rw [if_pos h]
  exact zc.ifT h (zc.bind tz (zc.pure _))
 ·rw [if_neg h]
  exact zc.ifF h (zc.pure _)
theorem z7y (vs : List S76) (hl : vs.length <= 18) (hv : ∀ v ∈ vs, 1 <= v.f2 /\ v.f2 <= 8) (n i : Int) (h0 : 0 <= n) (h1 : n < (vs.length : Int)) (i0 : 0 <= i) :
  zc (fun k => z01.f k vs n i) (cs (vs.take n.toNat) + i % (zp vs n).f2) /\ 1 <= (zp vs n).f2 /\ (zp vs n).f2 <= 8 /\ 0 <= cs (vs.take n.toNat) /\ cs (vs.take n.toNat) + (zp vs n).f2 <= cs vs := by
 obtain ⟨m, rfl⟩ : ∃ m : Nat, n = m := ⟨n.toNat, by omega⟩
 have hm : m < vs.length := by omega
 have hx : zp vs (m : Int) = vs[m] := by
  show vs.getD (m : Int).toNat _ = _
  rw [Int.toNat_natCast, List.getD_eq_getElem?_getD, List.getElem?_eq_getElem hm, Option.getD_some]
 have hc := hv vs[m] (List.getElem_mem hm)
 have hb := z1G (vs.take m) (fun v h => hv v (List.mem_of_mem_take h))
 have hb2 : (vs.take m).length <= 18 := by rw [List.length_take]; omega
 have hd := z1G (vs.drop (m + 1)) (fun v h => hv v (List.mem_of_mem_drop h))
 have app : ∀ a b : List S76, cs (a ++ b) = cs a + cs b := fun a b => by unfold cs; rw [List.map_append, List.sum_append]
 have hsum : cs vs = cs (vs.take m) + (vs[m].f2 + cs (vs.drop (m + 1))) := by
  have e : vs = vs.take m ++ vs[m] :: vs.drop (m + 1) := by rw [List.getElem_cons_drop, List.take_append_drop]
  have e2 := congrArg cs e
  rw [app, z3S] at e2
  exact e2
 rw [Int.toNat_natCast, hx]
 have hm0 : 0 <= i % vs[m].f2 := Int.emod_nonneg _ (by omega)
 have hm1 : i % vs[m].f2 < vs[m].f2 := Int.emod_lt_of_pos _ (by omega)
 refine ⟨?_, hc.1, hc.2, hb.1, by omega⟩
 unfold z01.f
 have tf := z05 vs (m : Int) (by omega) (by omega) hv hl
 rw [Int.toNat_natCast] at tf
 refine zc.bind tf (zc.ifT (by omega) (zc.ifT (by omega) (zc.ifF (by rw [hx]; omega) ?_)))
 rw [hx, Int.tmod_eq_emod_of_nonneg i0, w64 (by omega) (by omega)]
 exact zc.pure _
theorem z3z (l : List Int) (i : Int) (h0 : 0 <= i) (h1 : i < (l.length : Int)) : ∃ h : i.toNat < l.length, rd l i = l[i.toNat] := by
 have h : i.toNat < l.length := by omega
 refine ⟨h, ?_⟩
 show l.getD i.toNat 0 = _
 rw [List.getD_eq_getElem?_getD, List.getElem?_eq_getElem h, Option.getD_some]
def rdC (vs : List S76) (st : List (List Int)) (n c i : Int) : Int := rd (yV st c) (cs (vs.take n.toNat) + i % (zp vs n).f2)
theorem z6B {w : Int} {vs : List S76} {st : List (List Int)} {n c : Int} (hl : vs.length <= 18) (hv : ∀ v ∈ vs, 1 <= v.f2 /\ v.f2 <= 8) (h0 : 0 <= n) (h1 : n < (vs.length : Int)) (c0 : 0 <= c) (c1 : c < (st.length : Int)) (hs : ((yV st c).length : Int) = cs vs) :
  zc (fun k => zT.f k w vs st 1 n c []) (rdC vs st n c 0) /\
  ∀ x i, 0 <= i -> zc (fun k => zT.f k w vs st x.f0 x.f1 x.f2 x.f3) i -> zc (fun k => zT.f k w vs st 1 n c [x]) (rdC vs st n c i) := by
 constructor
 ·obtain ⟨ta, p1, p8, q0, q1⟩ := z7y vs hl hv n 0 h0 h1 (Int.le_refl _)
  have hm0 : 0 <= (0 : Int) % (zp vs n).f2 := Int.emod_nonneg _ (by omega)
  have hm1 : (0 : Int) % (zp vs n).f2 < (zp vs n).f2 := Int.emod_lt_of_pos _ (by omega)
  refine zc.succ ?_
  simp only [zT.f, show ¬ ((1 : Int) = 0) by decide, if_true, if_false]
  refine zc.ifF (by rw [List.length_nil]; omega) (zc.ifT c0 (zc.ifT c1 (zc.bind ta (zc.ifT (by omega) (zc.ifT (by omega) (zc.pure _))))))
 ·intro x i i0 tx
  obtain ⟨ta, p1, p8, q0, q1⟩ := z7y vs hl hv n i h0 h1 i0
  have hm0 : 0 <= i % (zp vs n).f2 := Int.emod_nonneg _ (by omega)
  have hm1 : i % (zp vs n).f2 < (zp vs n).f2 := Int.emod_lt_of_pos _ (by omega)
  refine zc.succ ?_
  simp only [zT.f, show ¬ ((1 : Int) = 0) by decide, if_true, if_false, lt1, rd0]
  exact zc.bind tx (zc.ifT c0 (zc.ifT c1 (zc.bind ta (zc.ifT (by omega) (zc.ifT (by omega) (zc.pure _))))))
theorem z2F {w : Int} {vars : List S76} {kk a b c n : Int} (h : Yb w vars kk a b c n = true) : YC vars a b = n /\ Yw w kk a b c = true := by
 unfold Yb at h
 rw [Bool.and_eq_true, decide_eq_true_eq] at h
 exact h
theorem z1A {w : Nat} (h8 : w <= 8) {kk b c : Int} (h : Yw (w : Int) kk 0 b c = true) : 0 <= b /\ b < 2 ^ w := by
 unfold Yw at h
 rw [if_pos rfl] at h
 have hp := z1i h8
 have hp0 := YW w
 rw [Int.toNat_natCast, w64 (by omega) (by omega)] at h
 split at h
 ·cases h
 ·split at h
  ·cases h
  ·constructor <;> omega
theorem z4l {w kk b c : Int} (h : Yw w kk 1 b c = true) : 0 <= c /\ c < kk := by
 unfold Yw at h
 rw [if_neg (by decide), if_pos rfl] at h
 split at h
 ·cases h
 ·split at h
  ·cases h
  ·constructor <;> omega
theorem len0 {l : List S62} (h : (0 : Int) = (l.length : Int)) : l = [] := List.eq_nil_of_length_eq_zero (by omega)
theorem len1 {l : List S62} (h : (1 : Int) = (l.length : Int)) : ∃ x, l = [x] := List.length_eq_one_iff.1 (by omega)
theorem len2 {l : List S62} (h : (2 : Int) = (l.length : Int)) : ∃ x y, l = [x, y] := by
 match l, h with
 | [x, y], _ => exact ⟨x, y, rfl⟩
 | [], h => simp at h
 | [_], h => simp at h
 | _ :: _ :: _ :: r, h => simp only [List.length_cons] at h; omega
theorem len3 {l : List S62} (h : (3 : Int) = (l.length : Int)) : ∃ x y z, l = [x, y, z] := by
 match l, h with
 | [x, y, z], _ => exact ⟨x, y, z, rfl⟩
 | [], h => simp at h
 | [_], h => simp at h
 | [_, _], h => simp at h
 | _ :: _ :: _ :: _ :: r, h => simp only [List.length_cons] at h; omega
mutual
def zK.l0 : Nat -> Int -> List (S76) -> List Int -> List (Z9) -> Int -> Int -> Int -> Int -> List (S62) -> Option ((List (Z9)))
 | 0, _, _, _, _, _, _, _, _, _ => none
 | k + 1, x0, x1, x2, x9, x10, x947000, x947001, x947002, x947003 => if x10 < (x947003.length : Int) then (if 0 <= x10 then ((zK.f k x0 x1 x2 ((zg x947003 x10).f0) ((zg x947003 x10).f1) ((zg x947003 x10).f2) ((zg x947003 x10).f3)).bind fun t948 => (if x9.length + t948.length < 5864062014805 then (zK.l0 k x0 x1 x2 (x9 ++ t948) (wrap64 (x10 + 1)) x947000 x947001 x947002 x947003) else (none))) else (none)) else (if x947000 = 1 then (if (x947003.length : Int) > 0 then (if 0 < (x947003.length : Int) then ((zT.f k x0 x1 (([x2] : List (List Int))) ((zg x947003 0).f0) ((zg x947003 0).f1) ((zg x947003 0).f2) ((zg x947003 0).f3)).bind fun t958 => (if 0 <= x947001 then (if x947001 < (x1.length : Int) then (if ((zp x1 x947001).f2) = 0 then (none) else (if x9.length < 5864062014805 then (some (x9 ++ [(⟨1, x947001, Int.tmod t958 ((zp x1 x947001).f2)⟩ : Z9)])) else (none))) else (none)) else (none))) else (none)) else (some x9)) else (some x9))
def zK.f : Nat -> Int -> List (S76) -> List Int -> Int -> Int -> Int -> List (S62) -> Option ((List (Z9)))
 | 0, _, _, _, _, _, _, _ => none
 | k + 1, a0, l1, l2, a3_0, a3_1, a3_2, l3_3 => zK.l0 k a0 l1 l2 ([] : List (Z9)) 0 a3_0 a3_1 a3_2 l3_3
end
def zK.T8 : Bool × List (List Nat × List Nat) := (true, [([], []), ([], []), ([1], [1]), ([], []), ([], []), ([], []), ([5], [5]), ([4, 6], [4, 6]), ([7], [7]), ([8], [8]), ([3, 9], [3, 9]), ([2, 10], [2, 10]), ([11], [11]), ([0, 12], [0, 12]), ([13, 13, 0, 1, 2, 3, 4, 5, 6, 7, 8, 9, 10, 11, 12, 13], [0, 13])])
def zK.B8 : List Nat := [0, 0, 2, 0, 0, 0, 32, 112, 240, 496, 1016, 2046, 4094, 8191, 16383]
theorem zK.tab8 : Y9 .any (z5p Tryz.f72 8) = zK.T8 := by kernel_rfl
theorem zK.bits8 : YU zK.T8.2 zK.B8 = true := by kernel_rfl
theorem zK.calls (k : Nat) : ∀ (a0 : Int) (A1 : Option Addr) (c1 : Nat) (l1 : List (S76)) (P2_ : Nat -> Prop) (A2 : Option Addr) (c2 : Nat) (l2 : List Int) (a3_0 : Int) (a3_1 : Int) (a3_2 : Int) (A3_3 : Option Addr) (c3_3 : Nat) (l3_3 : List (S62)) (r : List (Z9)) (w : World) (hr1 : Kd.C k76 w A1 l1.length l1) (hc1 : l1.length <= c1) (hs2 : Kd.V (Kd.int .i64) 3 w w.heap.size (fun k_ => P2_ k_) (.slice A2 l2.length c2) l2) (hr3_3 : Kd.C k62 w A3_3 l3_3.length l3_3) (hc3_3 : l3_3.length <= c3_3) (h : zK.f k a0 l1 l2 a3_0 a3_1 a3_2 l3_3 = some r),
  Calls Tryz.prog 72 #[.int .i64 a0, .slice A1 l1.length c1, .slice A2 l2.length c2, .agg (Ve a3_0 a3_1 a3_2 A3_3 l3_3 c3_3)] w fun e w' => ∃ v0_ : Value, e = .returned (v0_) /\ Kd.R z0F 144 w' w.heap.size (fun k_ => (w.heap.size <= k_)) v0_ r /\ Below w.heap.size w w' := by
 induction k using Nat.strongRecOn with
 | _ k ih =>
 intro a0 A1 c1 l1 P2_ A2 c2 l2 a3_0 a3_1 a3_2 A3_3 c3_3 l3_3 r w hr1 hc1 hs2 hr3_3 hc3_3 h
 cases k with
 | zero => exact absurd h (by simp [zK.f])
 | succ k =>
 simp only [zK.f] at h
 have hu62 := Tryz.underlying62
 have hu144 := Tryz.underlying144
 have HR1 := am hr1
 have HC1 := am hc1
 clear hr1 hc1
 have HO2 := am (show Kd.V (Kd.int .i64) 3 w w.heap.size (fun k_ => (P2_ k_ \/ w.heap.size <= k_)) (.slice A2 l2.length c2) l2 from Kd.V_mono hs2 (fun k_ hk => .inl hk))
 have HR3_3 := am hr3_3
 have HC3_3 := am hc3_3
 clear hr3_3 hc3_3
 have HB := am (Below.refl w.heap.size w)
 have H := h
 clear h
 have H' := am H
 clear H
 go_enter Tryz.func72, Tryz.ntmps72
 go_wp2_with (first | ((with_reducible refine zw (N := 7) rfl ?_); (try (refine zB (by rfl) ?_; dsimp only)); refine bx 7 rfl rfl (Ve a3_0 a3_1 a3_2 A3_3 l3_3 c3_3) 62 ?_; intro gb946 hg w5 hbox hb; have BK946 := am (hbox); have GE946 := ge HB hg; replace HO2 := am (Kd.V_below (Kd.V_elderB (iV HO2) gb946 (Nat.le_of_eq hg.symm)) hb); replace HB := sb HB hb; clear hb hbox hg))
 go_loopg [9, 10] k (fun kq v9 v10 w' => ∃ (x9_1 : List (Z9)) (x10_1 : Int), v10 = .int .i64 x10_1 /\ Aside0 (zK.l0 kq a0 l1 l2 x9_1 x10_1 a3_0 a3_1 a3_2 l3_3 = some r) /\ Aside0 (kq <= k) /\ Aside0 (Kd.V (Kd.int .i64) 3 w' w.heap.size (fun k_ => (P2_ k_ \/ w.heap.size <= k_) /\ some k_ ≠ (v9 : Value).ownBlock /\ k_ ≠ gb946) (.slice A2 l2.length c2) l2) /\ Aside0 (Kd.R z0F 144 w' w.heap.size (fun k_ => (w.heap.size <= k_)) v9 x9_1) /\ Aside0 (w'.heap[gb946]? = some (.cells #[.int .i64 a3_0, .int .i64 a3_1, .int .i64 a3_2, (.slice A3_3 l3_3.length c3_3)] 62 (0, 0))) /\ Aside0 (Below w.heap.size w w'))
 case atStart => exact ⟨(([] : List (Z9))), (0), rs, H', ⟨Nat.le_refl _⟩, ⟨by (with_reducible repeat (first | apply Kd.V_alloc | apply Kd.V_drewN | apply Kd.V_drew)); exact Kd.V_mono HO2.out (fun _ hk => ⟨hk.1, ⟨(by simp [Value.ownBlock]), hk.2⟩⟩)⟩, ⟨by first | exact Kd.R_nil _ _ _ _ _ | exact Kd.N_nil _ _ _ _ _ | exact Kd.V_nil _ _ _ _ _ | exact Kd.Q_nil _ _ _ _ _ | exact Kd.S_nil _ _ _ _ _⟩, ⟨kk BK946⟩, ⟨bb HB⟩⟩
 case round =>
  clear H'
  obtain ⟨x9_1, x10_1, rfl, HA, HK1, HO_2, HO_9, BK946, HB⟩ := hrel
  cases gk with
  | zero => exact absurd HA.out (by simp [zK.l0])
  | succ k1 =>
   have H := HA.out
   clear HA
   simp only [zK.l0] at H
   obtain ⟨c6b0, H⟩ | ⟨c6b0, H⟩ := iE H
   ·obtain ⟨c7b0, H⟩ := pd H
    obtain ⟨t948, A8, H⟩ := be H
    by_cases c9 : x9_1.length + t948.length < 5864062014805
    rotate_left
    ·rw [if_neg c9] at H
     exact absurd H (by simp)
    rw [if_pos c9] at H
    have LMc9 := am c9
    clear c9
    obtain ⟨y951, hy951⟩ : ∃ y_ : List (Z9), y_ = (x9_1 ++ t948) := ⟨_, rfl⟩
    replace H : (zK.l0 k1 a0 l1 l2 y951 (wrap64 (x10_1 + 1)) a3_0 a3_1 a3_2 l3_3) = some r := by first | (rw [hy951]; with_reducible exact H) | (have H2_ := (Option.bind_some _ _).symm.trans H; rw [hy951]; with_reducible exact H2_) | (have H2_ := (Option.bind_some _ _).symm.trans H; with_reducible exact H2_) | with_reducible exact H | (rw [hy951]; exact H) | exact H
    have Ny951 := am hy951
    clear hy951
    have H' := am H
    clear H
    have hz10 := cf4 BK946.out
    have p947 : 0 <= (x10_1 : Int) := od
    have q947 : x10_1 < (l3_3.length : Int) := od
    obtain ⟨ad947, A947_3, c947_3, e947, hx947_0, hx947_1, hx947_2, hx947_3, hl947_3, hi947_3⟩ := Zf HR3_3.out x10_1 p947 q947
    cases e947
    replace hx947_0 := zk HB.out hx947_0
    replace hx947_1 := zk HB.out hx947_1
    replace hx947_2 := zk HB.out hx947_2
    replace hx947_3 := zk HB.out hx947_3
    have HR947_3 := am hi947_3
    have HC947_3 := am hl947_3
    clear hi947_3 hl947_3
    replace p947 := eT p947
    replace q947 := eT q947
    go_wp2_with (first | (go_at_call 72; (with_reducible refine (ih k1 (by have := HK1.out; omega) a0 _ _ l1 (fun k_ => ((P2_ k_ \/ w.heap.size <= k_) /\ (some k_ ≠ (u9 : Value).ownBlock /\ k_ ≠ gb946))) _ _ l2 ((zg l3_3 x10_1).f0) ((zg l3_3 x10_1).f1) ((zg l3_3 x10_1).f2) _ _ ((zg l3_3 x10_1).f3) t948 _ (cb HR1 HB) HC1.out HO_2.out (cb HR947_3 HB) HC947_3.out A8.out).mono ?_); rintro e w11 ⟨v949, rfl, ho0, hb⟩; have HO950 := am (Kd.R_lower (Kd.R_new' (Kd.R_newM (M := fun k_ => (w.heap.size <= k_)) (Kd.R_mono (ok' := fun k_ => True) ho0 (fun _ hk_ => trivial)) (bsz (bb HB)) (fun k_ h_ => h_)) (Kd.R_lt (iR HO_9))) (bsz (bb HB))); replace HO_2 := am (Kd.V_elder' (iV HO_2) (Kd.R_base ho0) hb); replace HO_9 := am (Kd.R_elder' (iR HO_9) (Kd.R_base ho0) hb); replace BK946 := kb BK946 hb; replace HB := sb HB hb; obtain ⟨Ao13, co13, eo13⟩ := Kd.R_slice HO950.out; subst eo13) | ((with_reducible refine Zn (b := .append) (xs := #[.tmp 19, .tmp 28]) rfl ?_); (try (refine zB (by rfl) ?_; dsimp only)); at_builtin; refine Kd.R_append_rows z0F (w0 := w) w.heap.size rfl (.tmp 19) (.tmp 28) 42 144 (.agg #[(.int .i64 0), (.int .i64 0), (.int .i64 0)]) 24 rfl Tryz.underlying42 z5F rfl (by decide) (by omega) u9 x9_1 t948 _ _ _ (fun k_ => (w.heap.size <= k_) /\ some k_ ≠ (.slice Ao13 t948.length co13 : Value).ownBlock) (fun _ => False) rfl rfl ?aO ?aR (fun _ _ h => h) (fun _ h => h.elim) ?aF ?aB ?aS ?aL ?_; (case aR => repeat (first | exact (Kd.R_reads' HO950.out).2.2 | with_reducible first | apply Kd.C_alloc | apply Kd.C_drewN | apply Kd.C_drew)); (case aB => exact (bb HB)); (case aF => exact (fun k_ hk => ⟨(Nat.le_trans (bsz (bb HB)) hk), Kd.fresh' (Kd.R_lt (iR HO950)) k_ hk⟩)); (case aO => exact (iR HO_9)); (case aS => exact (bsz (bb HB))); (case aL => have := LMc9.out; omega); intro v952 w12 ho hb hg hat; rw [<- Ny951.out] at ho; have HO953 := am (ho); replace HO_2 := am (Kd.V_afterv (ok := (fun k_ => (P2_ k_ \/ w.heap.size <= k_) /\ some k_ ≠ (.slice Ao13 t948.length co13 : Value).ownBlock /\ k_ ≠ gb946)) (by (with_reducible repeat (first | apply Kd.V_alloc | apply Kd.V_drewN | apply Kd.V_drew)); exact Kd.V_mono HO_2.out (fun _ hk => ⟨⟨hk.1.1, ⟨hk.2, hk.1.2.2⟩⟩, hk.1.2.1⟩)) hg hat); replace BK946 := am (zN (kk BK946) hg (Kd.R_ne HO_9.out BK946.out (by decide))); replace HO950 := am (Kd.R_after (ok := (fun k_ => (w.heap.size <= k_))) (by (with_reducible repeat (first | apply Kd.R_alloc | apply Kd.R_drewN | apply Kd.R_drew)); exact Kd.R_mono HO950.out (fun _ hk => ⟨hk.1.1, hk.2⟩)) hg hat); replace HB := am (hb); clear HO_9; clear ho hb hg hat))
    go_roundg k1
    case measure => have := HK1.out; omega
    case rel => exact ⟨(y951), (wrap64 (x10_1 + 1)), rs, H', ⟨by have := HK1.out; omega⟩, ⟨by (with_reducible repeat (first | apply Kd.V_alloc | apply Kd.V_drewN | apply Kd.V_drew)); exact Kd.V_mono HO_2.out (fun _ hk => ⟨hk.1.1, ⟨hk.2, hk.1.2.2⟩⟩)⟩, ⟨by (with_reducible repeat (first | apply Kd.R_alloc | apply Kd.R_drewN | apply Kd.R_drew)); exact Kd.R_mono HO953.out (fun _ hk => hk.1)⟩, ⟨kk BK946⟩, ⟨bb HB⟩⟩
   obtain ⟨c14, c14b0, c14b1, H⟩ | ⟨c14b0, c14b1, H⟩ := qi H
   ·obtain rfl := sj H
    have hz31 := cf4 BK946.out
    go_wp2
    go_ret
    exact ⟨_, rr, iR HO_9, bb HB⟩
   obtain ⟨c15b0, H⟩ | ⟨c15b0, H⟩ := ei H
   ·have c15 := of_decide_eq_false c15b0
    have c15b1 : decide (0 < l3_3.length) = false := dF (by omega)
    clear c15
    obtain rfl := sj H
    have hz30 := cf4 BK946.out
    go_wp2
    go_ret
    exact ⟨_, rr, iR HO_9, bb HB⟩
   have c15 := of_decide_eq_true c15b0
   have c15b1 : decide (0 < l3_3.length) = true := dT (by omega)
   clear c15
   obtain ⟨y954, hy954⟩ : ∃ y_ : List (List Int), y_ = (([l2] : List (List Int))) := ⟨_, rfl⟩
   replace H : (if 0 < (l3_3.length : Int) then ((zT.f k1 a0 l1 y954 ((zg l3_3 0).f0) ((zg l3_3 0).f1) ((zg l3_3 0).f2) ((zg l3_3 0).f3)).bind fun t958 => (if 0 <= a3_1 then (if a3_1 < (l1.length : Int) then (if ((zp l1 a3_1).f2) = 0 then (none) else (if x9_1.length < 5864062014805 then (some (x9_1 ++ [(⟨1, a3_1, Int.tmod t958 ((zp l1 a3_1).f2)⟩ : Z9)])) else (none))) else (none)) else (none))) else (none)) = some r := by first | (rw [hy954]; with_reducible exact H) | (have H2_ := (Option.bind_some _ _).symm.trans H; rw [hy954]; with_reducible exact H2_) | (have H2_ := (Option.bind_some _ _).symm.trans H; with_reducible exact H2_) | with_reducible exact H | (rw [hy954]; exact H) | exact H
   have Ny954 := am hy954
   clear hy954
   obtain ⟨c16b0, H⟩ := pd H
   have c16 := of_decide_eq_true c16b0
   have c16b1 : decide (0 < l3_3.length) = true := dT (by omega)
   clear c16
   obtain ⟨t958, A17, H⟩ := be H
   obtain ⟨c18b0, H⟩ := pd H
   obtain ⟨c19b0, H⟩ := pd H
   obtain ⟨c20b9, _, H⟩ | ⟨c20, c20b0, c20b1, H⟩ := iq H
   ·have c20 := beq_iff_eq.mp c20b9
    exact absurd H (by simp)
   by_cases c21 : x9_1.length < 5864062014805
   rotate_left
   ·rw [if_neg c21] at H
    exact absurd H (by simp)
   rw [if_pos c21] at H
   have LMc21 := am c21
   clear c21
   obtain ⟨y960, hy960⟩ : ∃ y_ : List (Z9), y_ = (x9_1 ++ [(⟨1, a3_1, Int.tmod t958 ((zp l1 a3_1).f2)⟩ : Z9)]) := ⟨_, rfl⟩
   replace H : (some y960) = some r := by first | (rw [hy960]; with_reducible exact H) | (have H2_ := (Option.bind_some _ _).symm.trans H; rw [hy960]; with_reducible exact H2_) | (have H2_ := (Option.bind_some _ _).symm.trans H; with_reducible exact H2_) | with_reducible exact H | (rw [hy960]; exact H) | exact H
   have Ny960 := am hy960
   clear hy960
   obtain rfl := sj H
   have hz22 := cf4 BK946.out
   try go_wp2_with (first | ((with_reducible refine zw (N := 42) rfl ?_); (try (refine zB (by rfl) ?_; dsimp only)); refine Kd.N_lit (Kd.slice 3 (Kd.int .i64)) _ 26 ?hg (N' := 42) ?hd (xs := ([l2] : List (List Int))) (inner := [.slice A2 l2.length c2]) (ok := (fun k_ => (P2_ k_ \/ w.heap.size <= k_) /\ some k_ ≠ (u9 : Value).ownBlock /\ k_ ≠ gb946)) (okp := (fun k_ => (P2_ k_ \/ w.heap.size <= k_) /\ some k_ ≠ (u9 : Value).ownBlock /\ k_ ≠ gb946)) ?hr ?hp (fun _ hk => hk) ((show ∀ k_, wr.heap.size <= k_ -> (fun k_ => (P2_ k_ \/ w.heap.size <= k_) /\ some k_ ≠ (u9 : Value).ownBlock /\ k_ ≠ gb946) k_ from fun k_ hk => ⟨(.inr (Nat.le_trans (bsz (bb HB)) hk)), Kd.fresh' (Kd.R_lt (iR HO_9)) k_ hk, Kd.freshB (kk BK946) k_ hk⟩) _ (Nat.le_refl _)) (Below.refl _ _) (Nat.le_refl _) (by simp) ?_; (case hd => rfl); (case hg => rfl); (case hr => first | (go_simp; done) | (go_simp; rfl)); (case hp => exact (Ze.one (show Kd.FK (Kd.slice 3 (Kd.int .i64)) _ _ l2 [.slice A2 l2.length c2] from (Kd.FK_slice_mk (Kd.V_reads' (Kd.V_mono (ok' := (fun k_ => (P2_ k_ \/ w.heap.size <= k_) /\ some k_ ≠ (u9 : Value).ownBlock /\ k_ ≠ gb946)) (HO_2.out) (fun k_ hk => ⟨hk.1, ⟨hk.2.1, hk.2.2⟩⟩))).2.1 (Kd.V_F (Kd.V_mono (ok' := (fun k_ => (P2_ k_ \/ w.heap.size <= k_) /\ some k_ ≠ (u9 : Value).ownBlock /\ k_ ≠ gb946)) (HO_2.out) (fun k_ hk => ⟨hk.1, ⟨hk.2.1, hk.2.2⟩⟩))))) (Ze.none _ _))); intro v955 w23 ho24 hb hg_ hnew_; clear hg_ hnew_; (first | rw [<- Ny954.out] at ho24 | (simp only [Int.reduceToNat] at ho24; rw [<- Ny954.out] at ho24)); have HO956 := am (Kd.N_lower ho24 (bsz (bb HB))); replace HO_2 := am (Kd.V_elder' (iV HO_2) (Kd.N_base ho24) hb); replace HO_9 := am (Kd.R_below (iR HO_9) hb); replace BK946 := kb BK946 hb; replace HB := sb HB hb; clear hb ho24; have hz25 := cf4 BK946.out; have p957 : 0 <= (0 : Int) := (by omega); have q957 : 0 < (l3_3.length : Int) := od; obtain ⟨ad957, A957_3, c957_3, e957, hx957_0, hx957_1, hx957_2, hx957_3, hl957_3, hi957_3⟩ := Zf HR3_3.out 0 p957 q957; cases e957; have qi957 : (0 < l3_3.length) = True := eT (by omega); (simp only [show ((0 : Int)).toNat = 0 from rfl, Nat.zero_mul, Addr.add_zero'] at hx957_0 hx957_1 hx957_2 hx957_3); replace hx957_0 := zk HB.out hx957_0; replace hx957_1 := zk HB.out hx957_1; replace hx957_2 := zk HB.out hx957_2; replace hx957_3 := zk HB.out hx957_3; have HR957_3 := am hi957_3; have HC957_3 := am hl957_3; clear hi957_3 hl957_3; replace p957 := eT p957; replace q957 := eT q957; obtain ⟨Ao26, co26, eo26⟩ := Kd.N_slice HO956.out; subst eo26) | (go_at_call 54; (with_reducible refine (zT.calls k1 a0 _ _ l1 _ _ y954 ((zg l3_3 0).f0) ((zg l3_3 0).f1) ((zg l3_3 0).f2) _ _ ((zg l3_3 0).f3) t958 _ (cb HR1 HB) HC1.out ?side3 ((Kd.N_reads' HO956.out).2.1) (cb HR957_3 HB) HC957_3.out A17.out).mono ?_); (case side3 => repeat (first | exact (Kd.N_reads' HO956.out).2.2 | with_reducible first | apply Kd.C_alloc | apply Kd.C_drewN | apply Kd.C_drew)); rintro e w27 ⟨rfl, hb⟩; replace HO_2 := am (Kd.V_below (iV HO_2) hb); replace HO_9 := am (Kd.R_below (iR HO_9) hb); replace HO956 := am (Kd.N_below (iN HO956) hb); replace BK946 := kb BK946 hb; replace HB := sb HB hb))
   replace HO_2 := am (Kd.V_drew HO_2.out)
   replace HO_9 := am (Kd.R_drew HO_9.out)
   replace HO956 := am (Kd.N_drew HO956.out)
   replace BK946 := am (kdr BK946.out)
   replace HB := am (bd1 HB.out)
   have p959 : 0 <= (a3_1 : Int) := od
   have q959 : a3_1 < (l1.length : Int) := od
   obtain ⟨ad959, e959, hx959_0, hx959_1, hx959_2⟩ := Zx HR1.out a3_1 p959 q959
   have hw959_2 := hx959_2
   have hw959_1 := hx959_1
   have hw959_0 := hx959_0
   cases e959
   replace hx959_0 := zk HB.out hx959_0
   replace hx959_1 := zk HB.out hx959_1
   replace hx959_2 := zk HB.out hx959_2
   replace p959 := eT p959
   replace q959 := eT q959
   refine z1P (n := 15) (S := fun w' => w'.cell? ⟨gb946, 0, none⟩ = some (.int .i64 a3_0) /\ w'.cell? ⟨gb946, 1, none⟩ = some (.int .i64 a3_1) /\ w'.cell? ⟨gb946, 2, none⟩ = some (.int .i64 a3_2) /\ w'.cell? ⟨gb946, 3, none⟩ = some (.slice (some ad957) l3_3.length c3_3) /\ w'.cell? (ad959.add ((a3_1).toNat * 3)) = some (.string ((zp l1 a3_1).f0)) /\ w'.cell? ⟨(ad959.add ((a3_1).toNat * 3)).block, (ad959.add ((a3_1).toNat * 3)).off + 1, none⟩ = some (.int .i64 ((zp l1 a3_1).f1)) /\ w'.cell? ⟨(ad959.add ((a3_1).toNat * 3)).block, (ad959.add ((a3_1).toNat * 3)).off + 2, none⟩ = some (.int .i64 ((zp l1 a3_1).f2))) (ds := []) #[false, false, false, false, false, false, false, false, false, false, false, false, false, false, false] (by kernel_rfl) rfl rfl ⟨(za BK946.out 0).trans rfl, (za BK946.out 1).trans rfl, (za BK946.out 2).trans rfl, (za BK946.out 3).trans rfl, (zk HB.out hw959_0), (zk HB.out hw959_1), (zk HB.out hw959_2)⟩ (fun hHeld => ?_); refine z39 zK.tab8 zK.bits8 (fun HT_ HW_ => ?_)
   generalize w27.drew = w28 at HO_2 HO_9 HO956 BK946 HB hx959_0 hx959_1 hx959_2 hHeld ⊢
   refine pT 0 48 (bl 15 1) HT_ rfl rfl ?_
   refine pT 1 49 (bl 15 3) HT_ rfl rfl ?_
   refine pT 3 51 (bl 15 11) HT_ rfl rfl ?_
   refine pT 4 52 (bl 15 27) HT_ rfl rfl ?_
   refine pT 5 53 (bl 15 59) HT_ rfl rfl ?_
   refine tk (i := 2) (N := some 50) (bl 15 63) rfl rfl (z1s HT_.out HW_.out (by kernel_rfl)) hHeld ?_
   refine tk (i := 6) (N := some 54) (bl 15 127) rfl rfl (z1s HT_.out HW_.out (by kernel_rfl)) hHeld ?_
   refine pT 7 55 (bl 15 255) HT_ rfl rfl ?_
   refine pT 8 56 (bl 15 511) HT_ rfl rfl ?_
   refine tk (i := 9) (N := some 57) (bl 15 1023) rfl rfl (z1s HT_.out HW_.out (by kernel_rfl)) hHeld ?_
   refine pT 10 58 (bl 15 2047) HT_ rfl rfl ?_
   refine pT 11 59 (bl 15 4095) HT_ rfl rfl ?_
   refine z2D (i := 12) (N := some 60) (bl 15 8191) rfl rfl (z2C HT_.out (by kernel_rfl)) (by decide) (fun K hK => ?_)
   refine z1h (w1 := ?_) (v := ?_) (by rfl) rfl ?_ ?_
   rotate_left 2
   ·go_simp
    constructor
    ·rfl
    ·rfl
   refine hK.out _ _ ⟨(za (kal BK946.out _) 0).trans rfl, (za (kal BK946.out _) 1).trans rfl, (za (kal BK946.out _) 2).trans rfl, (za (kal BK946.out _) 3).trans rfl, (World.cell?_alloc_lt _ _ _ (World.block_lt_of_cell? _ _ ((zk HB.out hw959_0)))).trans ((zk HB.out hw959_0)), (World.cell?_alloc_lt _ _ _ (World.block_lt_of_cell? _ _ ((zk HB.out hw959_1)))).trans ((zk HB.out hw959_1)), (World.cell?_alloc_lt _ _ _ (World.block_lt_of_cell? _ _ ((zk HB.out hw959_2)))).trans ((zk HB.out hw959_2))⟩ (fun hHeld => ?_)
   clear hK K
   refine nm 60 ?_
   refine z2D (i := 13) (N := some 61) (bl 15 16383) rfl rfl (z2C HT_.out (by kernel_rfl)) (by decide) (fun K hK => ?_)
   refine Kd.R_append_step z0F (w0 := w) w.heap.size (by rfl) (.tmp 48) (.tmp 60) 42 144 (.agg #[(.int .i64 0), (.int .i64 0), (.int .i64 0)]) 24 rfl Tryz.underlying42 z5F rfl (by decide) (by omega) u9 x9_1 (⟨1, a3_1, Int.tmod t958 ((zp l1 a3_1).f2)⟩ : Z9) [.int .i64 1, .int .i64 a3_1, .int .i64 (Int.tmod t958 ((zp l1 a3_1).f2))] (fun k_ => (w.heap.size <= k_)) (fun _ => False) rfl rfl ?aP (fun _ hk => hk.elim) ?aF ?aO ?aB ?aS ?aL ?_
   (case aP => exact z1D _ _ _ (⟨1, a3_1, Int.tmod t958 ((zp l1 a3_1).f2)⟩ : Z9))
   (case aB => exact (bb HB))
   (case aF => exact (fun k_ hk => (Nat.le_trans (bsz (bb HB)) hk)))
   (case aO => exact (iR HO_9))
   (case aS => exact (bsz (bb HB)))
   (case aL => have := LMc21.out; omega)
   intro v961 w29 ho hb hg hat
   rw [<- Ny960.out] at ho
   have HO962 := am (ho)
   replace HO_2 := am (Kd.V_afterv (ok := (fun k_ => (P2_ k_ \/ w.heap.size <= k_) /\ some k_ ≠ (.slice Ao26 y954.length co26 : Value).ownBlock /\ k_ ≠ gb946)) (by (with_reducible repeat (first | apply Kd.V_alloc | apply Kd.V_drewN | apply Kd.V_drew)); exact Kd.V_mono HO_2.out (fun _ hk => ⟨⟨hk.1.1, ⟨hk.2, hk.1.2.2⟩⟩, hk.1.2.1⟩)) hg hat)
   replace BK946 := am (zN (kk BK946) hg (Kd.R_ne HO_9.out BK946.out (by decide)))
   replace HO956 := am (Kd.N_afterv (ok := (fun k_ => (P2_ k_ \/ w.heap.size <= k_) /\ k_ ≠ gb946)) (by (with_reducible repeat (first | apply Kd.N_alloc | apply Kd.N_drewN | apply Kd.N_drew)); exact Kd.N_mono HO956.out (fun _ hk => ⟨⟨hk.1, hk.2.2⟩, hk.2.1⟩)) hg hat)
   replace HB := am (hb)
   clear HO_9
   clear ho hb hg hat
   refine hK.out _ _ ⟨(za BK946.out 0).trans rfl, (za BK946.out 1).trans rfl, (za BK946.out 2).trans rfl, (za BK946.out 3).trans rfl, (zk HB.out hw959_0), (zk HB.out hw959_1), (zk HB.out hw959_2)⟩ (fun hHeld => ?_)
   clear hK K
   refine nm 61 ?_
   refine pT 14 9 (bl 15 32767) HT_ rfl rfl ?_
   refine z2S (z5L HT_.out (by kernel_rfl)) ?_
   try go_wp2
   go_ret
   exact ⟨_, rr, iR HO962, bb HB⟩
end Go.Proofs.YtnlekgadadifdaaGreat.Print
namespace Go.Proofs.YtnlekgadadifdaaGreat.Print
open Go.RowKit Go.Proofs.YtnlekgadadifdaaGreatW.PrintWords Go.Proofs.YtnlekgadadifdaaGreatW.PrintLast Go.Proofs.YtnlekgadadifdaaGreatW.PrintMore
attribute [local go_sem] zo zm zr zq zi zh zn zl
set_option linter.unusedVariables false
set_option linter.unusedSimpArgs false
def Seg (ins : List S93) (p : Nat) (code : List S93) : Prop := ∀ i x, code[i]? = some x -> ins[p + i]? = some x
theorem Seg.left {ins : List S93} {p : Nat} {a b : List S93} (h : Seg ins p (a ++ b)) : Seg ins p a := fun i x hx => h i x (by rw [List.getElem?_append_left (by exact (List.getElem?_eq_some_iff.1 hx).1)]; exact hx)
theorem Seg.right {ins : List S93} {p : Nat} {a b : List S93} (h : Seg ins p (a ++ b)) : Seg ins (p + a.length) b := fun i x hx => by
 rw [Nat.add_assoc]
 exact h (a.length + i) x (by rw [List.getElem?_append_right (by omega), Nat.add_sub_cancel_left]; exact hx)
theorem Seg.head {ins : List S93} {p : Nat} {x : S93} {r : List S93} (h : Seg ins p (x :: r)) : ins[p]? = some x /\ Seg ins (p + 1) r :=
 ⟨h 0 x rfl, fun i y hy => by rw [show p + 1 + i = p + (i + 1) by omega]; exact h (i + 1) y (by simpa using hy)⟩
def bnd (c : VC) : Prop := 0 <= c.pc /\ c.pc < 1000000000 /\ c.tr.length < 1000000000 /\ c.ou.length < 1000000000 /\ 0 <= c.us /\ c.us < 1000000000
def stp (wd : Int) (l1 : List S76) (pk : List Int) (ins : List S93) (c c' : VC) : Prop :=
 c.ov = false /\ 0 <= c.pc /\ ∃ i, ins[c.pc.toNat]? = some i /\ zc (fun k => vDo k wd l1 pk (zY c) i) c' /\ (bnd (zY c) -> ∃ k0, ∀ k, k0 <= k -> vFit k l1 (zY c) i)
inductive yN (wd : Int) (l1 : List S76) (pk : List Int) (ins : List S93) : Nat -> VC -> VC -> Prop
 | refl (c : VC) : yN wd l1 pk ins 0 c c
 | step {n : Nat} {c c1 c2 : VC} : stp wd l1 pk ins c c1 -> yN wd l1 pk ins n c1 c2 -> yN wd l1 pk ins (n + 1) c c2
section
variable {wd : Int} {l1 : List S76} {pk : List Int} {ins : List S93}
theorem yN.trans {n m : Nat} {a b c : VC} (h : yN wd l1 pk ins n a b) (h2 : yN wd l1 pk ins m b c) : yN wd l1 pk ins (n + m) a c := by
 induction h with
 | refl c => rw [Nat.zero_add]; exact h2
 | step h1 _ ih => rw [Nat.add_right_comm]; exact .step h1 (ih h2)
theorem yN.one {a b : VC} (h : stp wd l1 pk ins a b) : yN wd l1 pk ins 1 a b := .step h (.refl _)
theorem yl {c : VC} {r : Nat} (h : c.re.length = 64) (hr : r < 64) : YT c (r : Int) := ⟨by omega, by omega⟩
theorem stp_lit {c : VC} {r : Nat} {n : Int} (ho : c.ov = false) (hp : 0 <= c.pc) (hl : c.re.length = 64) (hr : r < 64) (hi : ins[c.pc.toNat]? = some ⟨0, r, n, 0, 0⟩) : stp wd l1 pk ins c (ZI r n (zY c)) := by
 refine ⟨ho, hp, _, hi, ?_, fun hb => ⟨0, fun k _ => ?_⟩⟩
 ·simp only [vDo, if_true]
  exact zc.pure _
 ·refine ⟨hb, ?_⟩
  simp
  exact yl hl hr
theorem stp_not {c : VC} {r : Nat} {v : Int} (ho : c.ov = false) (hp : 0 <= c.pc) (hl : c.re.length = 64) (hr : r < 64) (hi : ins[c.pc.toNat]? = some ⟨1, r, 12, r, 0⟩) (hv : zc (fun k => Yv.f k wd (rg c.re r)) v) : stp wd l1 pk ins c (ZI r v (zY c)) := by
 refine ⟨ho, hp, _, hi, ?_, fun hb => ⟨0, fun k _ => ?_⟩⟩
 ·obtain ⟨k0, hk⟩ := hv
  refine ⟨k0, fun k h => ?_⟩
  have := hk k h
  dsimp only at this
  simp only [vDo, z5Y, if_true, show ¬ ((1 : Int) = 0) by decide, if_false]
  rw [show (zY c).re = c.re from rfl, this]
  rfl
 ·refine ⟨hb, ?_⟩
  simp
  exact yl hl hr
theorem stp_do {c : VC} {r : Nat} {op v : Int} (ho : c.ov = false) (hp : 0 <= c.pc) (hl : c.re.length = 64) (hr : r + 1 < 64) (h12 : op ≠ 12) (hi : ins[c.pc.toNat]? = some ⟨1, r, op, r, (r : Int) + 1⟩) (hv : zc (fun k => yg.f k op wd (rg c.re r) (rg c.re ((r : Int) + 1))) v) : stp wd l1 pk ins c (ZI r v (zY c)) := by
 refine ⟨ho, hp, _, hi, ?_, fun hb => ⟨0, fun k _ => ?_⟩⟩
 ·obtain ⟨k0, hk⟩ := hv
  refine ⟨k0, fun k h => ?_⟩
  have := hk k h
  dsimp only at this
  simp only [vDo, z5Y, h12, if_true, show ¬ ((1 : Int) = 0) by decide, if_false]
  rw [show (zY c).re = c.re from rfl, this]
  rfl
 ·refine ⟨hb, ?_⟩
  simp
  exact ⟨yl hl (by omega), fun _ => yl (r := r + 1) hl hr⟩
theorem stp_sel {c : VC} {r : Nat} (ho : c.ov = false) (hp : 0 <= c.pc) (hl : c.re.length = 64) (hr : r + 2 < 64) (hi : ins[c.pc.toNat]? = some ⟨2, r, r, (r : Int) + 1, (r : Int) + 2⟩) : stp wd l1 pk ins c (ZI r (if rg c.re r = 0 then rg c.re ((r : Int) + 2) else rg c.re ((r : Int) + 1)) (zY c)) := by
 refine ⟨ho, hp, _, hi, ?_, fun hb => ⟨0, fun k _ => ?_⟩⟩
 ·simp only [vDo, if_true, show ¬ ((2 : Int) = 0) by decide, show ¬ ((2 : Int) = 1) by decide, if_false]
  exact zc.pure _
 ·refine ⟨hb, ?_⟩
  simp
  exact ⟨yl hl (by omega), yl (r := r + 1) hl (by omega), yl (r := r + 2) hl hr⟩
end
end Go.Proofs.YtnlekgadadifdaaGreat.Print
namespace Go.Proofs.YtnlekgadadifdaaGreat.Print
open Go.RowKit Go.Proofs.YtnlekgadadifdaaGreatW.PrintWords Go.Proofs.YtnlekgadadifdaaGreatW.PrintLast Go.Proofs.YtnlekgadadifdaaGreatW.PrintMore
attribute [local go_sem] zo zm zr zq zi zh zn zl
set_option linter.unusedVariables false
set_option linter.unusedSimpArgs false
def WW (n : Nat) (a : Int) : Prop := 0 <= a /\ a < 2 ^ n
def adv (c : VC) (m : Nat) (re : List Int) (es : List Z9) (tl : List Int) : VC := { c with re := re, pc := c.pc + m, fu := c.fu - m, co := c.co + m, tr := c.tr ++ es, tl := tl }
theorem adv_adv (c : VC) (a b : Nat) (r1 r2 : List Int) (e1 e2 : List Z9) (t1 t2 : List Int) : adv (adv c a r1 e1 t1) b r2 e2 t2 = adv c (a + b) r2 (e1 ++ e2) t2 := by
 unfold adv
 simp only [VC.mk.injEq, List.append_assoc, true_and, and_true]
 refine ⟨?_, ?_, ?_⟩ <;> (push_cast; omega)
def XM (n : Nat) (l1 : List S76) (pk : List Int) (ins : List S93) (st : List Int) (x : S62) (v : Int) (es : List Z9) : Prop :=
 ∀ (r : Nat) (c : VC), c.st = st -> c.re.length = 64 -> (∀ a ∈ c.re, WW n a) -> c.ov = false -> 0 <= c.pc -> r + 3 * eD x <= 60 -> Seg ins c.pc.toNat (cE x r) ->
  ∃ re tl, re.length = 64 /\ (∀ a ∈ re, WW n a) /\ rg re r = v /\ (∀ j : Nat, j < r -> re[j]? = c.re[j]?) /\ yN (n : Int) l1 pk ins (nE x) c (adv c (nE x) re es tl)
def XsM (n : Nat) (l1 : List S76) (pk : List Int) (ins : List S93) (st : List Int) (l : List S62) (vs : List Int) (es : List Z9) : Prop :=
 ∀ (r : Nat) (c : VC), c.st = st -> c.re.length = 64 -> (∀ a ∈ c.re, WW n a) -> c.ov = false -> 0 <= c.pc -> r + l.length + 3 * eDs l <= 60 -> Seg ins c.pc.toNat (cAs l r) ->
  ∃ re tl, re.length = 64 /\ (∀ a ∈ re, WW n a) /\ (∀ (i : Nat) v, vs[i]? = some v -> rg re ((r + i : Nat) : Int) = v) /\ (∀ j : Nat, j < r -> re[j]? = c.re[j]?) /\ yN (n : Int) l1 pk ins (nAs l) c (adv c (nAs l) re es tl)
theorem rg_of {a b : List Int} {j : Nat} (h : a[j]? = b[j]?) : rg a (j : Int) = rg b (j : Int) := by
 unfold rg
 rw [Int.toNat_natCast, List.getD_eq_getElem?_getD, List.getD_eq_getElem?_getD, h]
theorem z6S {l : List Int} {r : Nat} {v : Int} (h : r < l.length) : rg (l.set r v) (r : Int) = v := by
 unfold rg
 rw [Int.toNat_natCast, List.getD_eq_getElem?_getD, List.getElem?_set_self h]
 rfl
theorem z3J {l : List Int} {r : Nat} {v : Int} {P : Int -> Prop} (h : ∀ a ∈ l, P a) (hv : P v) : ∀ a ∈ l.set r v, P a := fun a ha => by
 rcases List.mem_or_eq_of_mem_set ha with h' | rfl
 ·exact h a h'
 ·exact hv
section
variable {n : Nat} {l1 : List S76} {pk : List Int} {ins : List S93} {st : List Int}
theorem z5R : XsM n l1 pk ins st [] [] [] := fun r c _ hl hw _ _ _ _ => ⟨c.re, c.tl, hl, hw, fun i v h => by simp at h, fun _ _ => rfl, by
 have : adv c (nAs []) c.re [] c.tl = c := by unfold adv; simp [nAs]
 rw [this]
 exact .refl _⟩
theorem z4C {x : S62} {l : List S62} {v : Int} {vs : List Int} {e es : List Z9} (h1 : XM n l1 pk ins st x v e) (h2 : XsM n l1 pk ins st l vs es) : XsM n l1 pk ins st (x :: l) (v :: vs) (e ++ es) := by
 intro r c hst hl hw ho hp hd hs
 simp only [eDs, List.length_cons] at hd
 rw [cAs] at hs
 obtain ⟨re1, tl1, a1, a2, a3, a4, a5⟩ := h1 r c hst hl hw ho hp (by omega) hs.left
 have hs2 := hs.right
 rw [YQ] at hs2
 have hc : (adv c (nE x) re1 e tl1).pc.toNat = c.pc.toNat + nE x := by show (c.pc + nE x).toNat = _; omega
 obtain ⟨re2, tl2, b1, b2, b3, b4, b5⟩ := h2 (r + 1) (adv c (nE x) re1 e tl1) hst a1 a2 ho (by show 0 <= c.pc + (nE x : Int); omega) (by omega) (by rw [hc]; push_cast; exact hs2)
 refine ⟨re2, tl2, b1, b2, fun i u hu => ?_, fun j hj => (b4 j (by omega)).trans (a4 j hj), ?_⟩
 ·cases i with
  | zero =>
   obtain rfl : v = u := by simpa using hu
   rw [Nat.add_zero, <- a3]
   exact rg_of (b4 r (by omega))
  | succ i =>
   rw [show r + (i + 1) = r + 1 + i by omega]
   exact b3 i u (by simpa using hu)
 ·rw [nAs, <- adv_adv]
  exact a5.trans b5
theorem z1Z {op N cp : Int} {l : List S62} {vs : List Int} {es e1 : List Z9} {v : Int} (h : XsM n l1 pk ins st l vs es) (hv : WW n v) (hlen : l.length <= 3)
  (hi : ∀ (r : Nat) (c : VC), c.st = st -> c.re.length = 64 -> (∀ a ∈ c.re, WW n a) -> c.ov = false -> 0 <= c.pc -> r + 2 < 64 -> (∀ (i : Nat) u, vs[i]? = some u -> rg c.re ((r + i : Nat) : Int) = u) -> ins[c.pc.toNat]? = some (cI op N l.length r) -> stp (n : Int) l1 pk ins c { ZI r v (zY c) with tr := c.tr ++ e1 }) :
  XM n l1 pk ins st ⟨op, N, cp, l⟩ v (es ++ e1) := by
 intro r c hst hl hw ho hp hd hs
 simp only [eD] at hd
 rw [cE] at hs
 obtain ⟨re1, tl1, a1, a2, a3, a4, a5⟩ := h r c hst hl hw ho hp (by omega) hs.left
 have hs2 := hs.right
 rw [z06] at hs2
 have hc : (adv c (nAs l) re1 es tl1).pc.toNat = c.pc.toNat + nAs l := by show (c.pc + nAs l).toNat = _; omega
 have hst1 := hi r (adv c (nAs l) re1 es tl1) hst a1 a2 ho (by show 0 <= c.pc + (nAs l : Int); omega) (by omega) a3 (by rw [hc]; exact hs2.head.1)
 refine ⟨re1.set r v, tl1 ++ [c.pc + nAs l], by rw [List.length_set]; exact a1, z3J a2 hv, z6S (by omega), fun j hj => ?_, ?_⟩
 ·rw [List.getElem?_set_ne (by omega)]
  exact a4 j hj
 ·rw [nE]
  have e : ({ ZI r v (zY (adv c (nAs l) re1 es tl1)) with tr := (adv c (nAs l) re1 es tl1).tr ++ e1 } : VC) = adv c (nAs l + 1) (re1.set r v) (es ++ e1) (tl1 ++ [c.pc + nAs l]) := by
   unfold ZI zY adv
   simp only [VC.mk.injEq, Int.toNat_natCast, true_and, and_true, List.append_assoc]
   refine ⟨?_, ?_, ?_⟩ <;> (push_cast; omega)
  rw [<- e]
  exact a5.trans (.one hst1)
theorem z1y {c : VC} {r : Int} {v : Int} : ({ ZI r v (zY c) with tr := c.tr ++ [] } : VC) = ZI r v (zY c) := by
 rw [List.append_nil]
 rfl
theorem z48 {c : VC} {r N : Nat} {s fst : Int} (ho : c.ov = false) (hp : 0 <= c.pc) (hl : c.re.length = 64) (hr : r < 64) (hN : N < l1.length) (hs : ¬ (zp l1 (N : Int)).f2 < 2 -> 0 <= s /\ s < 64) (hF : zc (fun k => zV.f k l1 (N : Int)) fst) (h0 : 0 <= fst + yK l1 c.re N s) (h1 : fst + yK l1 c.re N s < c.st.length)
  (hi : ins[c.pc.toNat]? = some ⟨3, r, N, s, 0⟩) : stp (n : Int) l1 pk ins c (z0A l1 fst r N s (zY c)) := by
 refine ⟨ho, hp, _, hi, ?_, fun hb => ?_⟩
 ·obtain ⟨k0, hk⟩ := hF
  refine ⟨k0, fun k h => ?_⟩
  have := hk k h
  dsimp only at this
  simp only [vDo, if_true, show ¬ ((3 : Int) = 0) by decide, show ¬ ((3 : Int) = 1) by decide, show ¬ ((3 : Int) = 2) by decide, if_false]
  rw [this]
  simp
 ·obtain ⟨k0, hk⟩ := hF
  refine ⟨k0, fun k h => ⟨hb, ?_⟩⟩
  have hf := hk k h
  dsimp only at hf
  simp only [show ¬ ((3 : Int) = 0) by decide, show ¬ ((3 : Int) = 1) by decide, show ¬ ((3 : Int) = 2) by decide, show ¬ ((3 : Int) = 4) by decide, show ¬ ((3 : Int) = 6) by decide, show ¬ ((3 : Int) = 7) by decide, show ¬ ((3 : Int) = 8) by decide, show ¬ ((3 : Int) = 9) by decide, show ¬ ((3 : Int) = 10) by decide, false_implies, true_and, and_true, forall_const]
  refine ⟨yl hl hr, fun f' e' => ?_⟩
  rw [hf] at e'
  obtain rfl := sj e'
  refine ⟨by omega, by omega, fun hh => ?_, by rw [Int.toNat_natCast]; exact h0, by rw [Int.toNat_natCast]; exact h1⟩
  obtain ⟨s0, s1⟩ := hs hh
  exact ⟨s0, by show s < (c.re.length : Int); rw [hl]; exact s1⟩
end
end Go.Proofs.YtnlekgadadifdaaGreat.Print
namespace Go.Proofs.YtnlekgadadifdaaGreat.Print
open Go.RowKit Go.Proofs.YtnlekgadadifdaaGreatW.PrintWords Go.Proofs.YtnlekgadadifdaaGreatW.PrintLast Go.Proofs.YtnlekgadadifdaaGreatW.PrintMore
attribute [local go_sem] zo zm zr zq zi zh zn zl
set_option linter.unusedVariables false
set_option linter.unusedSimpArgs false
def EvL (n : Nat) (l1 : List S76) (st : List Int) (l : List S62) (es : List Z9) : Prop := ∀ (pre : List S62) (out : List Z9) (op N c : Int) (R : List Z9), (pre ++ l).length <= 1000 -> out.length + es.length <= 1000000 ->
 zc (fun k => zK.l0 k (n : Int) l1 st (out ++ es) ((pre ++ l).length : Int) op N c (pre ++ l)) R -> zc (fun k => zK.l0 k (n : Int) l1 st out (pre.length : Int) op N c (pre ++ l)) R
section
variable {n : Nat} {l1 : List S76} {st : List Int}
theorem EvL_nil : EvL n l1 st [] [] := fun pre out op N c R _ _ h => by simpa using h
theorem z7I {x : S62} {l : List S62} {e es : List Z9} (h1 : zc (fun k => zK.f k (n : Int) l1 st x.f0 x.f1 x.f2 x.f3) e) (h2 : EvL n l1 st l es) : EvL n l1 st (x :: l) (e ++ es) := by
 intro pre out op N c R hl ho h
 rw [List.length_append] at ho
 refine zc.succ ?_
 simp only [zK.l0, Zc, Z5, if_true, yW]
 refine zc.bind h1 (zc.ifT (by omega) ?_)
 rw [Z6 pre x l (by omega)]
 have := h2 (pre ++ [x]) (out ++ e) op N c R (by rw [<- zM]; exact hl) (by rw [List.length_append]; omega)
 rw [<- zM, List.append_assoc] at this
 exact this h
theorem z7k {es : List Z9} {op N c : Int} {l : List S62} (h : op ≠ 1 \/ l = []) : zc (fun k => zK.l0 k (n : Int) l1 st es (l.length : Int) op N c l) es := by
 refine zc.succ ?_
 simp only [zK.l0, show ¬ ((l.length : Int) < (l.length : Int)) by omega, if_false]
 by_cases h1 : op = 1
 ·obtain rfl := h.resolve_left (fun n => n h1)
  refine zc.ifT h1 (zc.ifF (by simp) (zc.pure _))
 ·exact zc.ifF h1 (zc.pure _)
theorem ev_read {es : List Z9} {N c i : Int} {x : S62} (h0 : 0 <= N) (h1 : N < (l1.length : Int)) (hz : (zp l1 N).f2 ≠ 0) (hl : es.length < 1000000) (hx : zc (fun k => zT.f k (n : Int) l1 [st] x.f0 x.f1 x.f2 x.f3) i) :
  zc (fun k => zK.l0 k (n : Int) l1 st es (([x] : List S62).length : Int) 1 N c [x]) (es ++ [⟨1, N, Int.tmod i (zp l1 N).f2⟩]) := by
 refine zc.succ ?_
 simp only [zK.l0, show ¬ ((([x] : List S62).length : Int) < (([x] : List S62).length : Int)) by omega, if_false, if_true, lt1, rd0, show ((([x] : List S62).length : Int) > 0) by simp]
 exact zc.bind hx (zc.ifT h0 (zc.ifT h1 (zc.ifF hz (zc.ifT (by omega) (zc.pure _)))))
theorem z5I {es es' : List Z9} {op N c : Int} {l : List S62} (h : EvL n l1 st l es) (hl : l.length <= 1000) (he : es.length <= 1000000) (hend : zc (fun k => zK.l0 k (n : Int) l1 st es (l.length : Int) op N c l) es') : zc (fun k => zK.f k (n : Int) l1 st op N c l) es' := by
 refine zc.succ ?_
 simp only [zK.f]
 have := h [] [] op N c es' (by simpa using hl) (by simpa using he)
 simp only [List.nil_append, List.length_nil] at this
 exact this hend
end
theorem eN_ge : (∀ x : S62, 1 <= eN x) /\ (∀ l : List S62, l.length <= eNs l) := by
 refine z0Z (fun a b c l ih => ?_) ?_ (fun x r h1 h2 => ?_)
 ·simp only [eN]; omega
 ·simp [eNs]
 ·simp only [eNs, List.length_cons]; omega
def NB (es : List Z9) : Prop := ∀ e ∈ es, e.f0 ≠ 0
theorem z7D {a b : List Z9} (h1 : NB a) (h2 : NB b) : NB (a ++ b) := fun e he => by
 rcases List.mem_append.1 he with h | h
 ·exact h1 e h
 ·exact h2 e h
theorem z2Z {a : List Z9} (h : NB a) : NB (a ++ []) := by rwa [List.append_nil]
theorem NB_one {a : List Z9} {e : Z9} (h : NB a) (he : e.f0 ≠ 0) : NB (a ++ [e]) := z7D h (fun x hx => by rw [List.mem_singleton.1 hx]; exact he)
def SimX (n : Nat) (l1 : List S76) (pk : List Int) (ins : List S93) (st : List Int) (x : S62) (v : Int) (es : List Z9) : Prop :=
 WW n v /\ zc (fun k => zT.f k (n : Int) l1 [st] x.f0 x.f1 x.f2 x.f3) v /\ zc (fun k => zK.f k (n : Int) l1 st x.f0 x.f1 x.f2 x.f3) es /\ es.length <= eN x /\ NB es /\ XM n l1 pk ins st x v es
def SimXs (n : Nat) (l1 : List S76) (pk : List Int) (ins : List S93) (st : List Int) (l : List S62) (vs : List Int) (es : List Z9) : Prop :=
 vs.length = l.length /\ (∀ (i : Nat) x v, l[i]? = some x -> vs[i]? = some v -> WW n v /\ zc (fun k => zT.f k (n : Int) l1 [st] x.f0 x.f1 x.f2 x.f3) v) /\ EvL n l1 st l es /\ es.length <= eNs l /\ NB es /\ XsM n l1 pk ins st l vs es
theorem z5k {n : Nat} {st : List Int} (h : ∀ a ∈ st, WW n a) {i : Int} (h0 : 0 <= i) (h1 : i < (st.length : Int)) : WW n (rd st i) := by
 obtain ⟨hl, e⟩ := z3z st i h0 h1
 rw [e]
 exact h _ (List.getElem_mem hl)
theorem z45 {i m : Int} (h0 : 0 <= i) : Int.tmod i m = i % m := by
 rw [Int.tmod_eq_emod_of_nonneg h0]
theorem z4L {l : List Int} (h : l.length = 2) : ∃ a b, l = [a, b] := by
 match l, h with
 | [a, b], _ => exact ⟨a, b, rfl⟩
theorem z46 {l : List Int} (h : l.length = 3) : ∃ a b c, l = [a, b, c] := by
 match l, h with
 | [a, b, c], _ => exact ⟨a, b, c, rfl⟩
theorem z5f {vs : List Int} {c : VC} {r : Nat} {u : Int} (h : ∀ (i : Nat) v, vs[i]? = some v -> rg c.re ((r + i : Nat) : Int) = v) (hu : vs[1]? = some u) : rg c.re ((r : Int) + 1) = u := h 1 u hu
theorem vs_get2 {vs : List Int} {c : VC} {r : Nat} {u : Int} (h : ∀ (i : Nat) v, vs[i]? = some v -> rg c.re ((r + i : Nat) : Int) = v) (hu : vs[2]? = some u) : rg c.re ((r : Int) + 2) = u := h 2 u hu
theorem sim_all (n : Nat) (h1 : 1 <= n) (h8 : n <= 8) (l1 : List S76) (hl : l1.length <= 18) (hv : ∀ v ∈ l1, 1 <= v.f2 /\ v.f2 <= 8) (pk : List Int) (ins : List S93) (st : List Int) (hst : (st.length : Int) = cs l1) (hsw : ∀ a ∈ st, WW n a) :
  (∀ x, eOK (n : Int) l1 1 x = true -> eN x <= 1000 -> ∃ v es, SimX n l1 pk ins st x v es) /\ (∀ l, z0G (n : Int) l1 1 l = true -> eNs l <= 1000 -> ∃ vs es, SimXs n l1 pk ins st l vs es) := by
 refine z0Z (fun a b c l ih => ?_) (fun _ _ => ⟨[], [], rfl, fun i x v h => by simp at h, EvL_nil, by simp [eNs], (fun e he => by simp at he), z5R⟩) (fun x r ih1 ih2 => ?_)
 ·intro ho hn
  simp only [eOK, Bool.and_eq_true] at ho
  obtain ⟨hno, ho⟩ := ho
  simp only [eN] at hn
  obtain ⟨vs, es, g1, g2, g3, g4, g6, g5⟩ := ih ho (by omega)
  have hll := eN_ge.2 l
  obtain ⟨har, hok⟩ := z2F hno
  have hp := z1i h8
  have hp0 := YW n
  unfold YC at har
  have evO : ∀ {op N cc : Int}, (op ≠ 1 \/ l = []) -> zc (fun k => zK.f k (n : Int) l1 st op N cc l) es := fun h => z5I g3 (by omega) (by omega) (z7k h)
  by_cases a0 : a = 0
  ·subst a0
   rw [if_pos rfl] at har
   obtain rfl := len0 har
   obtain ⟨b0, b1⟩ := z1A h8 hok
   refine ⟨b, es ++ [], ⟨b0, b1⟩, z5X, by rw [List.append_nil]; exact evO (.inl (show (0 : Int) ≠ 1 by decide)), by rw [List.append_nil]; simp only [eN]; omega, z2Z g6, z1Z g5 ⟨b0, b1⟩ (by simp) fun r cc hs hre _ hov hpc hr _ hi => ?_⟩
   rw [z1y]
   exact stp_lit hov hpc hre (by omega) hi
  rw [if_neg a0] at har
  by_cases a1 : a = 1
  ·subst a1
   rw [if_pos rfl] at har
   obtain ⟨c0, c1⟩ := z4l hok
   obtain rfl : c = 0 := by omega
   by_cases hb : 0 <= b /\ b < (l1.length : Int)
   ·rw [if_pos hb] at har
    obtain ⟨B, rfl⟩ : ∃ B : Nat, b = B := ⟨b.toNat, by omega⟩
    have hB : B < l1.length := by omega
    obtain ⟨r1, r2⟩ := z6B (w := (n : Int)) (st := [st]) (c := 0) hl hv (by omega) (show ((B : Int)) < (l1.length : Int) by omega) (Int.le_refl _) (by simp) hst
    have hF := z05 l1 (B : Int) (by omega) (by omega) hv hl
    by_cases hcl : (zp l1 (B : Int)).f2 > 1
    ·rw [if_pos hcl] at har
     obtain ⟨x, rfl⟩ := len1 har
     obtain ⟨v, rfl⟩ : ∃ v, vs = [v] := List.length_eq_one_iff.1 (by simpa using g1)
     obtain ⟨⟨v0, v1⟩, tv⟩ := g2 0 x v rfl rfl
     obtain ⟨_, p1, p8, q0, q1⟩ := z7y l1 hl hv (B : Int) v (by omega) (by omega) v0
     have hm0 : 0 <= v % (zp l1 (B : Int)).f2 := Int.emod_nonneg _ (by omega)
     have hm1 : v % (zp l1 (B : Int)).f2 < (zp l1 (B : Int)).f2 := Int.emod_lt_of_pos _ (by omega)
     have hw : WW n (rd st (cs (l1.take (B : Int).toNat) + v % (zp l1 (B : Int)).f2)) := z5k hsw (by omega) (by omega)
     refine ⟨_, es ++ [⟨1, B, Int.tmod v (zp l1 (B : Int)).f2⟩], hw, r2 x v v0 tv, z5I g3 (by simp) (by omega) (ev_read (N := (B : Int)) (by omega) (by omega) (by omega) (by omega) tv), by rw [List.length_append]; simp only [eN, List.length_singleton]; omega, NB_one g6 (show (1 : Int) ≠ 0 by decide), z1Z g5 hw (by simp) fun r cc hs hre hwr hov hpc hr hvs hi => ?_⟩
     have hidx : yK l1 cc.re B (r : Int) = v % (zp l1 (B : Int)).f2 := by
      unfold yK
      rw [if_neg (by omega), show rg cc.re (r : Int) = v from hvs 0 v rfl, z45 v0]
     have hi' : ins[cc.pc.toNat]? = some ⟨3, r, B, r, 0⟩ := by simpa [cI] using hi
     have hstp := z48 (n := n) (pk := pk) (s := (r : Int)) hov hpc hre (by omega : r < 64) hB (fun _ => ⟨by omega, by omega⟩) hF (by rw [hidx]; omega) (by rw [hidx, hs]; omega) hi'
     have e : z0A l1 (cs (l1.take (B : Int).toNat)) r B r (zY cc) = ({ ZI r (rd st (cs (l1.take (B : Int).toNat) + v % (zp l1 (B : Int)).f2)) (zY cc) with tr := cc.tr ++ [⟨1, B, Int.tmod v (zp l1 (B : Int)).f2⟩] } : VC) := by
      unfold z0A vEv ZI
      rw [if_pos (by omega), show yK l1 (zY cc).re B (r : Int) = v % (zp l1 (B : Int)).f2 from hidx, z45 v0]
      simp only [zY, Int.toNat_natCast, hs]
      rfl
     rw [<- e]
     exact hstp
    ·rw [if_neg hcl] at har
     obtain rfl := len0 har
     obtain ⟨_, p1, p8, q0, q1⟩ := z7y l1 hl hv (B : Int) 0 (by omega) (by omega) (Int.le_refl _)
     have hz : (0 : Int) % (zp l1 (B : Int)).f2 = 0 := Int.zero_emod _
     have hw : WW n (rd st (cs (l1.take (B : Int).toNat) + 0 % (zp l1 (B : Int)).f2)) := z5k hsw (by omega) (by omega)
     refine ⟨_, es ++ [], hw, r1, by rw [List.append_nil]; exact evO (.inr rfl), by rw [List.append_nil]; simp only [eN]; omega, z2Z g6, z1Z g5 hw (by simp) fun r cc hs hre hwr hov hpc hr hvs hi => ?_⟩
     have hidx : yK l1 cc.re B (0 : Int) = 0 := by
      unfold yK
      rw [if_pos (by omega)]
     have hi' : ins[cc.pc.toNat]? = some ⟨3, r, B, 0, 0⟩ := by simpa [cI] using hi
     have hstp := z48 (n := n) (pk := pk) (s := (0 : Int)) hov hpc hre (by omega : r < 64) hB (fun _ => ⟨by omega, by omega⟩) hF (by rw [hidx]; omega) (by rw [hidx, hs]; omega) hi'
     have e : z0A l1 (cs (l1.take (B : Int).toNat)) r B 0 (zY cc) = ZI r (rd st (cs (l1.take (B : Int).toNat) + 0 % (zp l1 (B : Int)).f2)) (zY cc) := by
      unfold z0A vEv ZI
      rw [if_neg (by omega), show yK l1 (zY cc).re B (0 : Int) = 0 from hidx, hz]
      simp only [zY, Int.toNat_natCast, hs]
      rfl
     rw [z1y, <- e]
     exact hstp
   ·rw [if_neg hb] at har
    omega
  rw [if_neg a1] at har
  by_cases a2 : (2 <= a /\ a <= 11) \/ a = 13 \/ a = 14
  ·rw [if_pos a2] at har
   obtain ⟨x, y, rfl⟩ := len2 har
   obtain ⟨u, v, rfl⟩ : ∃ u v, vs = [u, v] := z4L (by simpa using g1)
   obtain ⟨⟨u0, u1⟩, t1⟩ := g2 0 x u rfl rfl
   obtain ⟨⟨v0, v1⟩, t3⟩ := g2 1 y v rfl rfl
   obtain ⟨d, td, d0, d1⟩ := do_t n h1 h8 a u v u0 u1 v0 v1
   have n12 : a ≠ 12 := by omega
   have n15 : a ≠ 15 := by omega
   refine ⟨d, es ++ [], ⟨d0, d1⟩, val_do a0 a1 n12 n15 t1 t3 td, by rw [List.append_nil]; exact evO (.inl a1), by rw [List.append_nil]; simp only [eN]; omega, z2Z g6, z1Z g5 ⟨d0, d1⟩ (by simp) fun r cc hs hre hwr hov hpc hr hvs hi => ?_⟩
   rw [z1y]
   have hi' : ins[cc.pc.toNat]? = some ⟨1, r, a, r, (r : Int) + 1⟩ := by simpa [cI, a0, a1, n12, n15] using hi
   refine stp_do hov hpc hre (by omega) n12 hi' ?_
   rw [show rg cc.re (r : Int) = u from hvs 0 u rfl, z5f hvs rfl]
   exact td
  rw [if_neg a2] at har
  by_cases a12 : a = 12
  ·rw [if_pos a12] at har
   subst a12
   obtain ⟨x, rfl⟩ := len1 har
   obtain ⟨u, rfl⟩ : ∃ u, vs = [u] := List.length_eq_one_iff.1 (by simpa using g1)
   obtain ⟨⟨u0, u1⟩, t1⟩ := g2 0 x u rfl rfl
   have tn := Not_t n h8 u u0 u1
   have hw : WW n (2 ^ n - 1 - u) := ⟨by omega, by omega⟩
   refine ⟨2 ^ n - 1 - u, es ++ [], hw, val_not t1 tn, by rw [List.append_nil]; exact evO (.inl a1), by rw [List.append_nil]; simp only [eN]; omega, z2Z g6, z1Z g5 hw (by simp) fun r cc hs hre hwr hov hpc hr hvs hi => ?_⟩
   rw [z1y]
   refine stp_not hov hpc hre (by omega) (by simpa [cI] using hi) ?_
   rw [show rg cc.re (r : Int) = u from hvs 0 u rfl]
   exact tn
  rw [if_neg a12] at har
  by_cases a15 : a = 15
  ·rw [if_pos a15] at har
   subst a15
   obtain ⟨x, y, z, rfl⟩ := len3 har
   obtain ⟨u, v, q, rfl⟩ : ∃ u v q, vs = [u, v, q] := z46 (by simpa using g1)
   obtain ⟨⟨u0, u1⟩, t1⟩ := g2 0 x u rfl rfl
   obtain ⟨hwv, t3⟩ := g2 1 y v rfl rfl
   obtain ⟨hwq, t5⟩ := g2 2 z q rfl rfl
   have hw : WW n (if u = 0 then q else v) := by split <;> assumption
   refine ⟨_, es ++ [], hw, val_if t1 t3 t5, by rw [List.append_nil]; exact evO (.inl a1), by rw [List.append_nil]; simp only [eN]; omega, z2Z g6, z1Z g5 hw (by simp) fun r cc hs hre hwr hov hpc hr hvs hi => ?_⟩
   rw [z1y]
   have hi' : ins[cc.pc.toNat]? = some ⟨2, r, r, (r : Int) + 1, (r : Int) + 2⟩ := by simpa [cI] using hi
   have := stp_sel (wd := (n : Int)) (l1 := l1) (pk := pk) hov hpc hre (by omega) hi'
   rw [show rg cc.re (r : Int) = u from hvs 0 u rfl, z5f hvs rfl, vs_get2 hvs rfl] at this
   exact this
  ·rw [if_neg a15] at har
   omega
 ·intro ho hn
  simp only [z0G, Bool.and_eq_true] at ho
  simp only [eNs] at hn
  obtain ⟨v, e, x1, x2, x3, x4, x6, x5⟩ := ih1 ho.1 (by omega)
  obtain ⟨vs, es, y1, y2, y3, y4, y6, y5⟩ := ih2 ho.2 (by omega)
  refine ⟨v :: vs, e ++ es, by simp [y1], fun i z u hz hu => ?_, z7I x3 y3, by rw [List.length_append]; simp only [eNs]; omega, z7D x6 y6, z4C x5 y5⟩
  cases i with
  | zero =>
   obtain rfl : x = z := by simpa using hz
   obtain rfl : v = u := by simpa using hu
   exact ⟨x1, x2⟩
  | succ i => exact y2 i z u (by simpa using hz) (by simpa using hu)
end Go.Proofs.YtnlekgadadifdaaGreat.Print
namespace Go.Proofs.YtnlekgadadifdaaGreat.Print
open Go.RowKit Go.Proofs.YtnlekgadadifdaaGreatW.PrintWords Go.Proofs.YtnlekgadadifdaaGreatW.PrintLast Go.Proofs.YtnlekgadadifdaaGreatW.PrintMore
attribute [local go_sem] zo zm zr zq zi zh zn zl
set_option linter.unusedVariables false
set_option linter.unusedSimpArgs false
open Go.RowKit
def YN {α : Type} (d : Kd α) (w0 : World) : Kd α where
 sz := d.sz
 E := []
 K := fun _ x cs => d.K w0 x cs
 M := fun _ _ _ x cs => d.K w0 x cs
 K_len := fun h => d.K_len h
 K_one := fun h => d.K_one h
 K_below := fun _ h => h
 K_of_M := fun h => h
 M_mono := fun _ h => h
 M_bound := fun h => h
 M_move := fun _ h => h
 M_lower := fun _ h => h
theorem yd {w : World} {g : Nat} {a0 a1 a2 a3 a4 a5 a6 a7 a8 a9 : Value} {t : TypeId} (h : w.heap[g]? = some (.cells #[a0, a1, a2, a3, a4, a5, a6, a7, a8, a9] t (0, 0))) : w.cell? ⟨g, 0, none⟩ = some a0 /\ w.cell? ⟨g, 1, none⟩ = some a1 /\ w.cell? ⟨g, 2, none⟩ = some a2 /\ w.cell? ⟨g, 3, none⟩ = some a3 /\ w.cell? ⟨g, 4, none⟩ = some a4 /\ w.cell? ⟨g, 5, none⟩ = some a5 /\ w.cell? ⟨g, 6, none⟩ = some a6 /\ w.cell? ⟨g, 7, none⟩ = some a7 /\ w.cell? ⟨g, 8, none⟩ = some a8 /\ w.cell? ⟨g, 9, none⟩ = some a9 :=
 ⟨(za h 0).trans rfl, (za h 1).trans rfl, (za h 2).trans rfl, (za h 3).trans rfl, (za h 4).trans rfl, (za h 5).trans rfl, (za h 6).trans rfl, (za h 7).trans rfl, (za h 8).trans rfl, (za h 9).trans rfl⟩
theorem z6R {w : World} {g : Nat} {a0 a1 a2 a3 a4 a5 : Value} {t : TypeId} (h : w.heap[g]? = some (.cells #[a0, a1, a2, a3, a4, a5] t (0, 0))) : w.cell? ⟨g, 0, none⟩ = some a0 /\ w.cell? ⟨g, 1, none⟩ = some a1 /\ w.cell? ⟨g, 2, none⟩ = some a2 /\ w.cell? ⟨g, 3, none⟩ = some a3 /\ w.cell? ⟨g, 4, none⟩ = some a4 /\ w.cell? ⟨g, 5, none⟩ = some a5 :=
 ⟨(za h 0).trans rfl, (za h 1).trans rfl, (za h 2).trans rfl, (za h 3).trans rfl, (za h 4).trans rfl, (za h 5).trans rfl⟩
theorem z3R {w : World} {g : Nat} {t : TypeId} {cs : Array Value} (h : w.heap[g]? = some (.cells cs t (0, 0))) : w.frozen? ⟨g, 0, none⟩ = false /\ w.frozen? ⟨g, 1, none⟩ = false /\ w.frozen? ⟨g, 2, none⟩ = false /\ w.frozen? ⟨g, 3, none⟩ = false /\ w.frozen? ⟨g, 4, none⟩ = false /\ w.frozen? ⟨g, 5, none⟩ = false /\ w.frozen? ⟨g, 6, none⟩ = false /\ w.frozen? ⟨g, 7, none⟩ = false /\ w.frozen? ⟨g, 8, none⟩ = false /\ w.frozen? ⟨g, 9, none⟩ = false :=
 ⟨zf h 0, zf h 1, zf h 2, zf h 3, zf h 4, zf h 5, zf h 6, zf h 7, zf h 8, zf h 9⟩
structure MC where
 ed : Int
 st : List Int
 ou : List Y5
 tr : List Z9
 co : Int
 us : Int
 wh : Int
 fu : Int
 td : List ZQ
 ov : Bool
def MT (cs : Array Value) (k : Nat) : Prop := (cs.getD 2 undef).ownBlock = some k \/ (cs.getD 3 undef).ownBlock = some k
def MR (w0 W : World) (Q : Nat -> Prop) (cs : Array Value) (c : MC) : Prop :=
 ∃ A1 n1 A2 n2 A3 n3 A8 n8, cs = #[.int .i64 c.ed, .slice A1 c.st.length n1, .slice A2 c.ou.length n2, .slice A3 c.tr.length n3, .int .i64 c.co, .int .i64 c.us, .int .i64 c.wh, .int .i64 c.fu, .slice A8 c.td.length n8, .bool c.ov] /\
  Kd.R z2h 134 W w0.heap.size Q (.slice A2 c.ou.length n2) c.ou /\ Kd.R z0F 144 W w0.heap.size Q (.slice A3 c.tr.length n3) c.tr /\
  c.st.length <= n1 /\ Kd.F (Kd.int .i64) W (fun k => Q k /\ ¬ MT cs k) A1 c.st.length c.st /\ c.td.length <= n8 /\ Kd.F (YN yU w0) W (fun k => Q k /\ ¬ MT cs k) A8 c.td.length c.td
section
variable {w0 W W' : World} {Q Q' : Nat -> Prop} {cs : Array Value} {c : MC}
theorem MR.step (h : MR w0 W Q cs c) (hm : ∀ k, Q k -> k < W.heap.size -> W'.heap[k]? = W.heap[k]?) : MR w0 W' Q cs c := by
 obtain ⟨A1, n1, A2, n2, A3, n3, A8, n8, e, h2, h3, l1, f1, l8, f8⟩ := h
 exact ⟨A1, n1, A2, n2, A3, n3, A8, n8, e, Kd.R_step h2 hm, Kd.R_step h3 hm, l1, Kd.F_step f1 (fun k hk => hm k hk.1), l8, Kd.F_step f8 (fun k hk => hm k hk.1)⟩
theorem MR.below (h : MR w0 W Q cs c) (hb : Below W.heap.size W W') : MR w0 W' Q cs c := h.step (fun k _ hk => hb.block k hk)
theorem MR.mono (h : MR w0 W Q cs c) (hq : ∀ k, Q k -> k < W.heap.size -> Q' k) : MR w0 W Q' cs c := by
 obtain ⟨A1, n1, A2, n2, A3, n3, A8, n8, e, h2, h3, l1, f1, l8, f8⟩ := h
 exact ⟨A1, n1, A2, n2, A3, n3, A8, n8, e, Kd.R_mono (Kd.R_bound h2) (fun k hk => hq k hk.1 hk.2.2.1), Kd.R_mono (Kd.R_bound h3) (fun k hk => hq k hk.1 hk.2.2.1), l1, Kd.F_mono (Kd.F_bound f1) (fun k hk => ⟨hq k hk.1.1 hk.2, hk.1.2⟩), l8, Kd.F_mono (Kd.F_bound f8) (fun k hk => ⟨hq k hk.1.1 hk.2, hk.1.2⟩)⟩
theorem MR.bound (h : MR w0 W Q cs c) : MR w0 W (fun k => Q k /\ k < W.heap.size) cs c := h.mono (fun _ h1 h2 => ⟨h1, h2⟩)
theorem MR.set (h : MR w0 W Q cs c) {p : Addr} (hp : ¬ Q p.block) (u : Value) : MR w0 (W.setCell p u) Q cs c := h.step (fun k hk _ => Below.heap_setCell _ _ _ _ (fun e => hp (e ▸ hk)))
theorem MR.fill (h : MR w0 W Q cs c) {g : Nat} (hp : ¬ Q g) (vs : List Value) : MR w0 (W.setCells g 0 vs) Q cs c := h.step (fun k hk _ => Zl (fun e => hp (e ▸ hk)))
theorem MR.mt (h : MR w0 W Q cs c) {k : Nat} (hk : MT cs k) : Q k /\ w0.heap.size <= k /\ k < W.heap.size := by
 obtain ⟨A1, n1, A2, n2, A3, n3, A8, n8, rfl, h2, h3, _⟩ := h
 rcases hk with hk | hk
 ·exact ⟨h2.1 k hk, Kd.R_base h2 k hk, Kd.R_lt h2 k hk⟩
 ·exact ⟨h3.1 k hk, Kd.R_base h3 k hk, Kd.R_lt h3 k hk⟩
theorem MR.ed' (h : MR w0 W Q cs c) (x : Int) : MR w0 W Q (cs.setIfInBounds 0 (.int .i64 x)) { c with ed := x } := by
 obtain ⟨A1, n1, A2, n2, A3, n3, A8, n8, rfl, h⟩ := h
 exact ⟨A1, n1, A2, n2, A3, n3, A8, n8, rfl, h⟩
theorem MR.co' (h : MR w0 W Q cs c) (x : Int) : MR w0 W Q (cs.setIfInBounds 4 (.int .i64 x)) { c with co := x } := by
 obtain ⟨A1, n1, A2, n2, A3, n3, A8, n8, rfl, h⟩ := h
 exact ⟨A1, n1, A2, n2, A3, n3, A8, n8, rfl, h⟩
theorem MR.us' (h : MR w0 W Q cs c) (x : Int) : MR w0 W Q (cs.setIfInBounds 5 (.int .i64 x)) { c with us := x } := by
 obtain ⟨A1, n1, A2, n2, A3, n3, A8, n8, rfl, h⟩ := h
 exact ⟨A1, n1, A2, n2, A3, n3, A8, n8, rfl, h⟩
theorem MR.wh' (h : MR w0 W Q cs c) (x : Int) : MR w0 W Q (cs.setIfInBounds 6 (.int .i64 x)) { c with wh := x } := by
 obtain ⟨A1, n1, A2, n2, A3, n3, A8, n8, rfl, h⟩ := h
 exact ⟨A1, n1, A2, n2, A3, n3, A8, n8, rfl, h⟩
theorem MR.fu' (h : MR w0 W Q cs c) (x : Int) : MR w0 W Q (cs.setIfInBounds 7 (.int .i64 x)) { c with fu := x } := by
 obtain ⟨A1, n1, A2, n2, A3, n3, A8, n8, rfl, h⟩ := h
 exact ⟨A1, n1, A2, n2, A3, n3, A8, n8, rfl, h⟩
theorem MR.ov' (h : MR w0 W Q cs c) (x : Bool) : MR w0 W Q (cs.setIfInBounds 9 (.bool x)) { c with ov := x } := by
 obtain ⟨A1, n1, A2, n2, A3, n3, A8, n8, rfl, h⟩ := h
 exact ⟨A1, n1, A2, n2, A3, n3, A8, n8, rfl, h⟩
theorem MR.td' (h : MR w0 W Q cs c) {A : Option Addr} {n : Nat} {xs : List ZQ} (hl : xs.length <= n) (hf : Kd.F (YN yU w0) W (fun k => Q k /\ ¬ MT cs k) A xs.length xs) : MR w0 W Q (cs.setIfInBounds 8 (.slice A xs.length n)) { c with td := xs } := by
 obtain ⟨A1, n1, A2, n2, A3, n3, A8, n8, rfl, h2, h3, l1, f1, l8, f8⟩ := h
 exact ⟨A1, n1, A2, n2, A3, n3, A, n, rfl, h2, h3, l1, f1, hl, hf⟩
theorem MR.st' (h : MR w0 W Q cs c) {A : Option Addr} {n : Nat} {xs : List Int} (hl : xs.length <= n) (hf : Kd.F (Kd.int .i64) W (fun k => Q k /\ ¬ MT cs k) A xs.length xs) : MR w0 W Q (cs.setIfInBounds 1 (.slice A xs.length n)) { c with st := xs } := by
 obtain ⟨A1, n1, A2, n2, A3, n3, A8, n8, rfl, h2, h3, l1, f1, l8, f8⟩ := h
 exact ⟨A, n, A2, n2, A3, n3, A8, n8, rfl, h2, h3, hl, hf, l8, f8⟩
theorem MR.store {ed co us wh fu : Int} {A1 A2 A3 A8 : Option Addr} {n1 n2 n3 n8 m1 m2 m3 m8 : Nat} {ov : Bool} (h : MR w0 W Q #[.int .i64 ed, .slice A1 m1 n1, .slice A2 m2 n2, .slice A3 m3 n3, .int .i64 co, .int .i64 us, .int .i64 wh, .int .i64 fu, .slice A8 m8 n8, .bool ov] c) : Kd.C (Kd.int .i64) W A1 c.st.length c.st /\ c.st.length <= n1 := by
 obtain ⟨B1, k1, B2, k2, B3, k3, B8, k8, e, h2, h3, l1, f1, l8, f8⟩ := h
 simp only [Array.mk.injEq, List.cons.injEq, Value.slice.injEq] at e
 obtain ⟨_, ⟨rfl, _, rfl⟩, _⟩ := e
 exact ⟨Kd.F_now f1, l1⟩
theorem MR.fresh {α : Type} {d : Kd α} {e n0 n cc : Nat} {ok : Nat -> Prop} {A : Option Addr} {xs : List α} (hb : ∀ k, MT cs k -> k < n0) (ho : d.R e W n0 ok (.slice A n cc) xs) (hq : ∀ k, n0 <= k -> k < W.heap.size -> Q k) : Kd.F d W (fun k => Q k /\ ¬ MT cs k) A n xs :=
 Kd.R_F (Kd.R_mono (Kd.R_bound ho) (fun k hk => ⟨hq k hk.2.1 hk.2.2.1, fun h => by have := hb k h; omega⟩))
theorem MR.grow_tr (h : MR w0 W Q cs c) : ∃ A3 n3, cs[3]? = some (.slice A3 c.tr.length n3) /\ Kd.R z0F 144 W w0.heap.size Q (.slice A3 c.tr.length n3) c.tr /\
  ∀ (W1 : World) (v1 : Value) (ys : List Z9) (Q' : Nat -> Prop), (∀ k, Q k -> Q' k) -> Kd.R z0F 144 W1 w0.heap.size Q' v1 ys -> W.grownBy W1 (Value.slice A3 c.tr.length n3).ownBlock -> (v1.ownBlock = (Value.slice A3 c.tr.length n3).ownBlock \/ ∃ b, v1.ownBlock = some b /\ W.heap.size <= b) -> MR w0 W1 Q' (cs.setIfInBounds 3 v1) { c with tr := ys } /\ ∀ k, MT (cs.setIfInBounds 3 v1) k -> MT cs k \/ W.heap.size <= k := by
 obtain ⟨A1, n1, A2, n2, A3, n3, A8, n8, rfl, h2, h3, l1, f1, l8, f8⟩ := h
 refine ⟨A3, n3, rfl, h3, fun W1 v1 ys Q' hq ho hg hat => ?_⟩
 obtain ⟨A, n, rfl⟩ := Kd.R_slice ho
 have mv : ∀ {α : Type} {d : Kd α} {A' : Option Addr} {m : Nat} {xs : List α}, Kd.F d W (fun k => Q k /\ ¬ MT #[.int .i64 c.ed, .slice A1 c.st.length n1, .slice A2 c.ou.length n2, .slice A3 c.tr.length n3, .int .i64 c.co, .int .i64 c.us, .int .i64 c.wh, .int .i64 c.fu, .slice A8 c.td.length n8, .bool c.ov] k) A' m xs ->
   Kd.F d W1 (fun k => Q' k /\ ¬ MT #[.int .i64 c.ed, .slice A1 c.st.length n1, .slice A2 c.ou.length n2, .slice A ys.length n, .int .i64 c.co, .int .i64 c.us, .int .i64 c.wh, .int .i64 c.fu, .slice A8 c.td.length n8, .bool c.ov] k) A' m xs := fun hf => by
  refine Kd.F_mono (Kd.F_step (Kd.F_bound hf) (fun k hk hlt => hg.block k hlt (fun e => hk.1.2 (.inr e.symm)))) (fun k hk => ⟨hq k hk.1.1, fun hm => ?_⟩)
  rcases hm with hm | hm
  ·exact hk.1.2 (.inl hm)
  ·rcases hat with hat | ⟨b, hat, hb⟩
   ·exact hk.1.2 (.inr (hat ▸ hm))
   ·have := hk.2
    replace hm : (Value.slice A ys.length n).ownBlock = some _ := hm
    rw [hat] at hm
    injection hm with hm
    omega
 refine ⟨⟨A1, n1, A2, n2, A, n, A8, n8, rfl, Kd.R_mono (Kd.R_over' h2 (Kd.R_typed h3) (by decide) hg) hq, ho, l1, mv f1, l8, mv f8⟩, fun k hk => ?_⟩
 rcases hk with hk | hk
 ·exact .inl (.inl hk)
 ·rcases hat with hat | ⟨b, hat, hb⟩
  ·exact .inl (.inr (hat ▸ hk))
  ·refine .inr ?_
   replace hk : (Value.slice A ys.length n).ownBlock = some _ := hk
   rw [hat] at hk
   injection hk with hk
   omega
theorem MR.grow_ou (h : MR w0 W Q cs c) : ∃ A2 n2, cs[2]? = some (.slice A2 c.ou.length n2) /\ Kd.R z2h 134 W w0.heap.size Q (.slice A2 c.ou.length n2) c.ou /\
  ∀ (W1 : World) (v1 : Value) (ys : List Y5) (Q' : Nat -> Prop), (∀ k, Q k -> Q' k) -> Kd.R z2h 134 W1 w0.heap.size Q' v1 ys -> W.grownBy W1 (Value.slice A2 c.ou.length n2).ownBlock -> (v1.ownBlock = (Value.slice A2 c.ou.length n2).ownBlock \/ ∃ b, v1.ownBlock = some b /\ W.heap.size <= b) -> MR w0 W1 Q' (cs.setIfInBounds 2 v1) { c with ou := ys } /\ ∀ k, MT (cs.setIfInBounds 2 v1) k -> MT cs k \/ W.heap.size <= k := by
 obtain ⟨A1, n1, A2, n2, A3, n3, A8, n8, rfl, h2, h3, l1, f1, l8, f8⟩ := h
 refine ⟨A2, n2, rfl, h2, fun W1 v1 ys Q' hq ho hg hat => ?_⟩
 obtain ⟨A, n, rfl⟩ := Kd.R_slice ho
 have mv : ∀ {α : Type} {d : Kd α} {A' : Option Addr} {m : Nat} {xs : List α}, Kd.F d W (fun k => Q k /\ ¬ MT #[.int .i64 c.ed, .slice A1 c.st.length n1, .slice A2 c.ou.length n2, .slice A3 c.tr.length n3, .int .i64 c.co, .int .i64 c.us, .int .i64 c.wh, .int .i64 c.fu, .slice A8 c.td.length n8, .bool c.ov] k) A' m xs ->
   Kd.F d W1 (fun k => Q' k /\ ¬ MT #[.int .i64 c.ed, .slice A1 c.st.length n1, .slice A ys.length n, .slice A3 c.tr.length n3, .int .i64 c.co, .int .i64 c.us, .int .i64 c.wh, .int .i64 c.fu, .slice A8 c.td.length n8, .bool c.ov] k) A' m xs := fun hf => by
  refine Kd.F_mono (Kd.F_step (Kd.F_bound hf) (fun k hk hlt => hg.block k hlt (fun e => hk.1.2 (.inl e.symm)))) (fun k hk => ⟨hq k hk.1.1, fun hm => ?_⟩)
  rcases hm with hm | hm
  ·rcases hat with hat | ⟨b, hat, hb⟩
   ·exact hk.1.2 (.inl (hat ▸ hm))
   ·have := hk.2
    replace hm : (Value.slice A ys.length n).ownBlock = some _ := hm
    rw [hat] at hm
    injection hm with hm
    omega
  ·exact hk.1.2 (.inr hm)
 refine ⟨⟨A1, n1, A, n, A3, n3, A8, n8, rfl, ho, Kd.R_mono (Kd.R_over' h3 (Kd.R_typed h2) (by decide) hg) hq, l1, mv f1, l8, mv f8⟩, fun k hk => ?_⟩
 rcases hk with hk | hk
 ·rcases hat with hat | ⟨b, hat, hb⟩
  ·exact .inl (.inl (hat ▸ hk))
  ·refine .inr ?_
   replace hk : (Value.slice A ys.length n).ownBlock = some _ := hk
   rw [hat] at hk
   injection hk with hk
   omega
 ·exact .inl (.inr hk)
def MP (w0 w : World) (Q : Nat -> Prop) (cs : Array Value) (c' : MC) (e : Ending) (w' : World) : Prop :=
 ∃ cs', e = .returned (.agg cs') /\ MR w0 w' (fun k => Q k \/ w.heap.size <= k) cs' c' /\ (∀ k, MT cs' k -> MT cs k \/ w.heap.size <= k) /\ Below w0.heap.size w0 w' /\ zL w w' (MT cs)
theorem yH {fn : Func} {a : Act} {p : Tmp} {w W2 : World} {g : Nat} {Q2 : Nat -> Prop} {zs cs2 : Array Value} {c2 c' : MC} (HV : MR w0 W2 Q2 cs2 c2) (hc : c2 = c') (HM : ∀ k, MT cs2 k -> MT cs k \/ w.heap.size <= k) (X : W2.heap[g]? = some (.cells zs 98 (0, 0))) (hz : cs2.size = zs.size) (hB : Below w0.heap.size w0 W2) (hK : zL w W2 (MT cs)) (hg : w.heap.size <= g) (hb : w0.heap.size <= g)
  (hn : ¬ Q2 g) (hQ : ∀ k, Q2 k -> Q k \/ w.heap.size <= k) (hr : fn.results = #[.cell p 98]) (hp : a.tmps.getD p undef = .pointer (some ⟨g, 0, none⟩)) (hd : a.defers = []) (hW : W = W2.setCells g 0 cs2.toList) :
  bodyPost Tryz.prog fn (MP w0 w Q cs c') .ret a W := by
 subst hW
 subst hc
 have hf := Zi (vs := cs2.toList) X (by simpa using hz)
 have hi : (Tryz.prog.info? 98).map (·.size) = some cs2.size := by
  obtain ⟨A1, n1, A2, n2, A3, n3, A8, n8, rfl, _⟩ := HV
  kernel_rfl
 refine bodyPost_ret (results_cell_row hr _ _ g 98 cs2 (0, 0) _ hp (by simpa using hf) Tryz.underlying98 rfl hi) hd ?_
 exact ⟨_, rfl, (HV.fill hn _).mono (fun k hk _ => hQ k hk), HM, Zj hB hb, yi hK (.inr hg)⟩
end
end Go.Proofs.YtnlekgadadifdaaGreat.Print
namespace Go.Proofs.YtnlekgadadifdaaGreat.Print
open Go.RowKit Go.Proofs.YtnlekgadadifdaaGreatW.PrintWords Go.Proofs.YtnlekgadadifdaaGreatW.PrintLast Go.Proofs.YtnlekgadadifdaaGreatW.PrintMore
attribute [local go_sem] zo zm zr zq zi zh zn zl 
set_option linter.unusedVariables false
set_option linter.unusedSimpArgs false
def z1R.f (k : Nat) (l0 : List Int) (a1 : Int) (a2 : Int) : Option (List Int) := (Zk.f k l0).bind fun t968 => (if 0 <= a1 then (if a1 < (t968.length : Int) then (some (t968.set (a1 : Int).toNat a2)) else (none)) else (none))
theorem z1R.calls (k : Nat) (A0 : Option Addr) (c0 : Nat) (l0 : List Int) (a1 : Int) (a2 : Int) (r : List Int) (w : World) (hr0 : Kd.C (Kd.int .i64) w A0 l0.length l0) (hc0 : l0.length <= c0) (h : z1R.f k l0 a1 a2 = some r) :
  Calls Tryz.prog 118 #[.slice A0 l0.length c0, .int .i64 a1, .int .i64 a2] w fun e w' => ∃ v0_ : Value, e = .returned (v0_) /\ Kd.R (Kd.int .i64) 3 w' w.heap.size (fun _ => True) v0_ r /\ Below w.heap.size w w' := by
 have HR0 := am hr0
 have HC0 := am hc0
 clear hr0 hc0
 have HB := am (Below.refl w.heap.size w)
 have H := h
 clear h
 obtain ⟨t968, A4, H⟩ := be H
 obtain ⟨c5b0, H⟩ := pd H
 obtain ⟨c6b0, H⟩ := pd H
 obtain ⟨y971, hy971⟩ : ∃ y_ : List Int, y_ = (t968.set (a1 : Int).toNat a2) := ⟨_, rfl⟩
 replace H : (some y971) = some r := by first | (rw [hy971]; with_reducible exact H) | (have H2_ := (Option.bind_some _ _).symm.trans H; rw [hy971]; with_reducible exact H2_) | (have H2_ := (Option.bind_some _ _).symm.trans H; with_reducible exact H2_) | with_reducible exact H | (rw [hy971]; exact H) | exact H
 have Ny971 := am hy971
 clear hy971
 obtain rfl := sj H
 go_enter Tryz.func118, Tryz.ntmps118
 go_wp2_with (first | (go_at_call 68; (with_reducible refine (Zk.calls k _ _ l0 t968 _ (ca HR0) HC0.out A4.out).mono ?_); rintro e w8 ⟨v969, rfl, ho0, hb⟩; have HO970 := am (Kd.R_lower ho0 (bsz (bb HB))); replace HB := sb HB hb; have p7 : 0 <= (a1 : Int) := od; have q7 : (a1 : Int) < ((t968.length : Int) : Int) := od; obtain ⟨go7, co7, eo7, gb7, gl7, cl7, HG7⟩ := Kd.R_form HO970.out (by omega); (first | cases eo7 | (injection eo7 with ea_ en_ ec_; (first | subst ea_ | (injection ea_ with ea_; subst ea_)); subst ec_; clear en_)); have GB7 := am gb7; have GG7 := am HG7; clear gb7 gl7 HG7; obtain ⟨hx7_0, hf7_0⟩ := Kd.R_celln 0 HO970.out (a1 : Int) p7 q7; replace p7 := eT p7; replace q7 := eT q7; obtain ⟨hy9_, hz9_⟩ := Kd.R_celln 0 HO970.out (a1 : Int) (od) (od); have HP9 := Kd.R_putg HO970.out (a1 : Int) a2) | ((with_reducible refine z52 (t := 3) (p := 13) rfl ?_); refine z49 (t := 3) (p := 13) (v := ?vo_w10) (w1 := (w8.setCell ⟨go7, (a1 : Int).toNat, none⟩ (.int .i64 a2))) ?hg ?ho ?hn ?hr ?_; (case ho => rfl); (case hg => rfl); (case hn => rfl); (case hr => first | (go_simp; done) | (go_simp; rfl)); intro w10 hw; have hg : w8.grownBy w10 (some go7) := (by rw [hw]; exact HP9.2); have hp_ : Kd.R (Kd.int .i64) 3 w10 w.heap.size (fun _ => True) (.slice (some ⟨go7, 0, none⟩) t968.length co7) y971 := (by rw [hw, Ny971.out]; exact HP9.1); clear HP9; replace HO970 := am (hp_); replace HB := am ((by rw [hw]; exact bst (HB.out) GB7.out : Below w.heap.size w w10)); clear hg hw hp_))
 go_ret
 exact ⟨_, rr, iR HO970, bb HB⟩
theorem z5D : (Tryz.prog.info? 144).map (fun i => (i.zero, i.size, i.bytes)) = some (some (.agg #[.int .i64 0, .int .i64 0, .int .i64 0]), 3, 24) := by kernel_rfl
def YL (x n : Int) (c : MC) : MC := { c with ed := x, wh := n, td := [], ov := true }
def mEv (a b d : Int) (c : MC) : MC := { c with tr := c.tr ++ [⟨a, b, d⟩] }
theorem z3M.calls (w0 w : World) (Q : Nat -> Prop) (cs : Array Value) (c : MC) (x n : Int) (hB : Below w0.heap.size w0 w) (hV : MR w0 w Q cs c) (hQ : ∀ k, Q k -> k < w.heap.size) :
  Calls Tryz.prog 70 #[.agg cs, .int .i64 x, .int .i64 n] w (MP w0 w Q cs (YL x n c)) := by
 have HV := am hV
 obtain ⟨A1, n1, A2, n2, A3, n3, A8, n8, rfl, hh⟩ := id hV
 clear hh hV
 obtain ⟨b_, hsz_, x0_, x1_⟩ := z4x w (.cells (Va c.ed A1 c.st n1 A2 c.ou n2 A3 c.tr n3 c.co c.us c.wh c.fu A8 c.td n8 c.ov) 98) (.cells (Vi false) 98)
 have HV0 := am (HV.out.below b_)
 have HB0 := am (hB.trans (b_.mono hB.size))
 have HK0 := am (zL.of_below b_ (MT (Va c.ed A1 c.st n1 A2 c.ou n2 A3 c.tr n3 c.co c.us c.wh c.fu A8 c.td n8 c.ov)))
 have HSZ := am hsz_
 have X0 := am x0_
 have X1 := am x1_
 have HQ := am hQ
 have hBs := hB.size
 clear hsz_ hQ hB b_ x0_ x1_
 have hu := Tryz.underlying98
 have huR := Tryz.underlying44
 go_enter Tryz.func70, Tryz.ntmps70
 go_upto_region 1 with (fail)
 generalize (w.alloc (.cells (Va c.ed A1 c.st n1 A2 c.ou n2 A3 c.tr n3 c.co c.us c.wh c.fu A8 c.td n8 c.ov) 98)).alloc (.cells (Vi false) 98) = W0 at HV0 HB0 HK0 HSZ X0 X1 ⊢
 have c_q := bq X0.out
 have f_q := bq X0.out
 have z_q := bq X1.out
 have g_q := bq X1.out
 go_wp2
 have nq : ¬ Q w.heap.size := (fun h => absurd (HQ.out _ h) (by omega))
 obtain ⟨hv, hb, hk, cur, hcs, hx⟩ : MR w0 ((((W0.setCell ⟨w.heap.size, 0, none⟩ (.int .i64 x)).setCell ⟨w.heap.size, 6, none⟩ (.int .i64 n)).setCell ⟨w.heap.size, 8, none⟩ (.slice none 0 0)).setCell ⟨w.heap.size, 9, none⟩ (.bool true)) Q #[.int .i64 x, .slice A1 c.st.length n1, .slice A2 c.ou.length n2, .slice A3 c.tr.length n3, .int .i64 c.co, .int .i64 c.us, .int .i64 n, .int .i64 c.fu, .slice none 0 0, .bool true] (YL x n c) /\ Below w0.heap.size w0 ((((W0.setCell ⟨w.heap.size, 0, none⟩ (.int .i64 x)).setCell ⟨w.heap.size, 6, none⟩ (.int .i64 n)).setCell ⟨w.heap.size, 8, none⟩ (.slice none 0 0)).setCell ⟨w.heap.size, 9, none⟩ (.bool true)) /\ zL w ((((W0.setCell ⟨w.heap.size, 0, none⟩ (.int .i64 x)).setCell ⟨w.heap.size, 6, none⟩ (.int .i64 n)).setCell ⟨w.heap.size, 8, none⟩ (.slice none 0 0)).setCell ⟨w.heap.size, 9, none⟩ (.bool true)) (MT (Va c.ed A1 c.st n1 A2 c.ou n2 A3 c.tr n3 c.co c.us c.wh c.fu A8 c.td n8 c.ov)) /\ ∃ cur : Array Value, cur.size = 10 /\ ((((W0.setCell ⟨w.heap.size, 0, none⟩ (.int .i64 x)).setCell ⟨w.heap.size, 6, none⟩ (.int .i64 n)).setCell ⟨w.heap.size, 8, none⟩ (.slice none 0 0)).setCell ⟨w.heap.size, 9, none⟩ (.bool true)).heap[w.heap.size + 1]? = some (.cells cur 98 (0, 0)) := ⟨(((((((HV0.out.set (p := ⟨w.heap.size, _, none⟩) nq _).ed' _).set (p := ⟨w.heap.size, _, none⟩) nq _).wh' _).set (p := ⟨w.heap.size, _, none⟩) nq _).td' (Nat.zero_le _) (Kd.F_nil _ _ _)).set (p := ⟨w.heap.size, _, none⟩) nq _).ov' _, ((((HB0.out.setCell (p := ⟨w.heap.size, _, none⟩) hBs _).setCell (p := ⟨w.heap.size, _, none⟩) hBs _).setCell (p := ⟨w.heap.size, _, none⟩) hBs _).setCell (p := ⟨w.heap.size, _, none⟩) hBs _), ((((HK0.out.setCell (p := ⟨w.heap.size, _, none⟩) (.inr (Nat.le_refl _)) _).setCell (p := ⟨w.heap.size, _, none⟩) (.inr (Nat.le_refl _)) _).setCell (p := ⟨w.heap.size, _, none⟩) (.inr (Nat.le_refl _)) _).setCell (p := ⟨w.heap.size, _, none⟩) (.inr (Nat.le_refl _)) _), _, rfl, ((Below.heap_setCell _ _ _ _ (by show w.heap.size + 1 ≠ w.heap.size; omega)).trans ((Below.heap_setCell _ _ _ _ (by show w.heap.size + 1 ≠ w.heap.size; omega)).trans ((Below.heap_setCell _ _ _ _ (by show w.heap.size + 1 ≠ w.heap.size; omega)).trans ((Below.heap_setCell _ _ _ _ (by show w.heap.size + 1 ≠ w.heap.size; omega)).trans X1.out))))⟩
 exact yH (g := w.heap.size + 1) hv rfl (fun k h => .inl h) hx hcs.symm hb hk (by omega) (by omega) (fun h => absurd (HQ.out _ h) (by omega)) (fun k hk => .inl hk) rfl rfl rfl rfl
theorem z1B.calls (w0 w : World) (Q : Nat -> Prop) (cs : Array Value) (c : MC) (k0 k1 k2 : Int) (hB : Below w0.heap.size w0 w) (hV : MR w0 w Q cs c) (hQ : ∀ k, Q k -> k < w.heap.size) (hl : c.tr.length < 1000000000) :
  Calls Tryz.prog 101 #[.agg cs, .int .i64 k0, .int .i64 k1, .int .i64 k2] w (MP w0 w Q cs (mEv k0 k1 k2 c)) := by
 have HV := am hV
 obtain ⟨A1, n1, A2, n2, A3, n3, A8, n8, rfl, hh⟩ := id hV
 clear hh hV
 obtain ⟨b_, hsz_, x0_, x1_⟩ := z4x w (.cells (Va c.ed A1 c.st n1 A2 c.ou n2 A3 c.tr n3 c.co c.us c.wh c.fu A8 c.td n8 c.ov) 98) (.cells (Vi false) 98)
 have HV0 := am (HV.out.below b_)
 have HB0 := am (hB.trans (b_.mono hB.size))
 have HK0 := am (zL.of_below b_ (MT (Va c.ed A1 c.st n1 A2 c.ou n2 A3 c.tr n3 c.co c.us c.wh c.fu A8 c.td n8 c.ov)))
 have HSZ := am hsz_
 have X0 := am x0_
 have X1 := am x1_
 have HQ := am hQ
 have hBs := hB.size
 clear hsz_ hQ hB b_ x0_ x1_
 have hu := Tryz.underlying98
 have huR := Tryz.underlying44
 have huE := Tryz.underlying42
 go_enter Tryz.func101, Tryz.ntmps101
 go_upto_region 1 with (fail)
 generalize (w.alloc (.cells (Va c.ed A1 c.st n1 A2 c.ou n2 A3 c.tr n3 c.co c.us c.wh c.fu A8 c.td n8 c.ov) 98)).alloc (.cells (Vi false) 98) = W0 at HV0 HB0 HK0 HSZ X0 X1 ⊢
 obtain ⟨A, n, e3, h3, hg3⟩ := HV0.out.grow_tr
 obtain ⟨rfl, rfl⟩ : A3 = A /\ n3 = n := by
  have := sj e3
  injection this with h1 h2 h3
  exact ⟨h1, h3⟩
 clear e3
 have H3 := am h3
 have HG := am hg3
 have HL := am hl
 clear h3 hg3 hl
 have c3 : W0.cell? ⟨w.heap.size, 3, none⟩ = some (.slice A3 c.tr.length n3) := (za X0.out 3).trans rfl
 go_upto_region 2 with (first | ((with_reducible refine Zn (b := .append) (xs := #[.tmp 11, .tmp 16]) rfl ?_); at_builtin; refine Kd.R_append z0F (w0 := w0) w0.heap.size rfl (.tmp 11) (.tmp 16) 42 144 (.agg #[(.int .i64 0), (.int .i64 0), (.int .i64 0)]) 24 rfl huE z5D rfl (by decide) (by omega) (.slice A3 c.tr.length n3) c.tr (⟨k0, k1, k2⟩ : Z9) [.int .i64 k0, .int .i64 k1, .int .i64 k2] (fun k => Q k \/ w.heap.size + 2 <= k) (fun _ => False) rfl rfl ?aP (fun _ hk => hk.elim) ?aF ?aO ?aB ?aS ?aL ?_; (case aP => exact z1D _ _ _ (⟨k0, k1, k2⟩ : Z9)); (case aF => exact fun k hk => .inr (by have := zO X1.out; omega)); (case aO => exact Kd.R_mono H3.out (fun k hk => .inl hk)); (case aB => exact HB0.out); (case aS => exact HB0.out.size); (case aL => have := HL.out; omega); intro v1 W1 ho hb hg hat; have V1 := HG.out W1 v1 _ (fun k => Q k \/ w.heap.size + 2 <= k) (fun k hk => .inl hk) ho hg hat; obtain ⟨A', n', ev⟩ := Kd.R_slice ho; have el : (c.tr ++ [(⟨k0, k1, k2⟩ : Z9)]).length = c.tr.length + 1 := (by simp); rw [el] at ev; subst ev; have HV1 := am V1.1; have HM1 := am V1.2; have HB1 := am hb; have HK1 := am (zL.of_grown hg HK0.out (fun k e => .inl (.inr e))); have Y0 := am (zN X0.out hg (Kd.R_ne H3.out X0.out (by decide))); have Y1 := am (zN X1.out hg (Kd.R_ne H3.out X1.out (by decide))); clear V1 ho hb hg hat c3; have c3 : W1.cell? ⟨w.heap.size, 3, none⟩ = some (.slice A3 c.tr.length n3) := (za Y0.out 3).trans rfl; have f3 := zf Y0.out 3))
 have hsz := HSZ.out
 have nq : ¬ (Q w.heap.size \/ w.heap.size + 2 <= w.heap.size) := (fun h => by rcases h with h | h; exact absurd (HQ.out _ h) (by omega); omega)
 have Z0 := am (zI Y0.out 3 (.slice A' (c.tr.length + 1) n') (cs' := #[.int .i64 c.ed, .slice A1 c.st.length n1, .slice A2 c.ou.length n2, .slice A' (c.tr.length + 1) n', .int .i64 c.co, .int .i64 c.us, .int .i64 c.wh, .int .i64 c.fu, .slice A8 c.td.length n8, .bool c.ov]) rfl)
 have Z1 := am ((Below.heap_setCell W1 ⟨w.heap.size, 3, none⟩ (.slice A' (c.tr.length + 1) n') (w.heap.size + 1) (by show w.heap.size + 1 ≠ w.heap.size; omega)).trans Y1.out)
 have ZV := am (HV1.out.set (p := ⟨w.heap.size, 3, none⟩) nq (.slice A' (c.tr.length + 1) n'))
 have ZB := am (HB1.out.setCell (p := ⟨w.heap.size, 3, none⟩) hBs (.slice A' (c.tr.length + 1) n'))
 have ZK := am (HK1.out.setCell (p := ⟨w.heap.size, 3, none⟩) (.inr (Nat.le_refl _)) (.slice A' (c.tr.length + 1) n'))
 clear c3 f3 Y0 Y1 HV1 HB1 HK1 nq
 generalize W1.setCell ⟨w.heap.size, 3, none⟩ (.slice A' (c.tr.length + 1) n') = W2 at Z0 Z1 ZV ZB ZK ⊢
 obtain ⟨c0, c1, c2, c3, c4, c5, c6, c7, c8, c9⟩ := yd Z0.out
 have z_q := bq Z1.out
 have g_q := bq Z1.out
 go_wp2
 exact yH (g := w.heap.size + 1) ZV.out rfl (fun k h => (HM1.out k h).imp id (fun h => by omega)) Z1.out rfl ZB.out ZK.out (by omega) (by omega) (fun h => by rcases h with h | h; exact absurd (HQ.out _ h) (by omega); omega) (fun k hk => by rcases hk with hk | hk; exact .inl hk; exact .inr (by omega)) rfl rfl rfl rfl
def z0f (l1 : List S76) (n i a p : Int) (arr : Bool) (c : MC) : MC :=
 if arr = true then mEv 2 n (Int.tmod i (zp l1 n).f2) { c with st := c.st.set p.toNat a } else { c with st := c.st.set p.toNat a }
theorem z5w.calls (w0 w : World) (Q : Nat -> Prop) (cs : Array Value) (c : MC) (kA kP : Nat) (wd : Int) (Av : Option Addr) (cv : Nat) (l1 : List S76) (Ab : Option Addr) (lb cb : Nat) (op n : Int) (B3 : Option Addr) (m3 d3 : Nat) (B4 : Option Addr) (m4 d4 : Nat) (B5 : Option Addr) (m5 d5 : Nat) (arr : Bool) (i a p : Int) (hB : Below w0.heap.size w0 w) (hV : MR w0 w Q cs c) (hQ : ∀ k, Q k -> k < w.heap.size) (hr1 : Kd.C k76 w0 Av l1.length l1) (hc1 : l1.length <= cv) (hn0 : 0 <= n) (hn1 : n < l1.length) (hv0 : (zp l1 n).f2 ≠ 0) (hA : z01.f kA l1 n i = some p) (hP : z1R.f kP c.st p a = some (c.st.set p.toNat a)) (hl : c.tr.length < 1000000000) :
  Calls Tryz.prog 100 #[.agg (Vo wd Av l1 cv Ab lb cb), .agg cs, .agg (Vgq op n B3 m3 d3 B4 m4 d4 B5 m5 d5), .bool arr, .int .i64 i, .int .i64 a] w (MP w0 w Q cs (z0f l1 n i a p arr c)) := by
 have HV := am hV
 obtain ⟨A1, n1, A2, n2, A3, n3, A8, n8, rfl, hh⟩ := id hV
 clear hh hV
 obtain ⟨b_, hsz_, x0_, x1_, x2_, x3_⟩ := z7s w (.cells (Vo wd Av l1 cv Ab lb cb) 25) (.cells (Va c.ed A1 c.st n1 A2 c.ou n2 A3 c.tr n3 c.co c.us c.wh c.fu A8 c.td n8 c.ov) 98) (.cells (Vgq op n B3 m3 d3 B4 m4 d4 B5 m5 d5) 81) (.cells (Vi false) 98)
 have HV0 := am (HV.out.below b_)
 have HB0 := am (hB.trans (b_.mono hB.size))
 have HK0 := am (zL.of_below b_ (MT (Va c.ed A1 c.st n1 A2 c.ou n2 A3 c.tr n3 c.co c.us c.wh c.fu A8 c.td n8 c.ov)))
 have HSZ := am hsz_
 have X0 := am x0_
 have X1 := am x1_
 have X2 := am x2_
 have X3 := am x3_
 have HQ := am hQ
 have hBs := hB.size
 clear hsz_ hQ hB b_ x0_ x1_ x2_ x3_
 have hu := Tryz.underlying98
 have huR := Tryz.underlying44
 have huP := Tryz.underlying25
 have huS := Tryz.underlying81
 have huV := Tryz.underlying76
 have hlen := hr1.2.1
 obtain ⟨ad, rfl, q0, q1, q2⟩ := Zx hr1 n hn0 hn1
 have Q2 := am q2
 have HR1 := am hr1
 have HC1 := am hc1
 have HA := am hA
 have HP := am hP
 have HL := am hl
 obtain ⟨xs, hxs⟩ : ∃ xs, xs = c.st.set p.toNat a := ⟨_, rfl⟩
 rw [<- hxs] at HP
 have HXS := am hxs
 clear hr1 hc1 hA hP hl q0 q1 q2 hxs
 go_enter Tryz.func100, Tryz.ntmps100
 go_upto_region 1 with (fail)
 generalize (((w.alloc (.cells (Vo wd (some ad) l1 cv Ab lb cb) 25)).alloc (.cells (Va c.ed A1 c.st n1 A2 c.ou n2 A3 c.tr n3 c.co c.us c.wh c.fu A8 c.td n8 c.ov) 98)).alloc (.cells (Vgq op n B3 m3 d3 B4 m4 d4 B5 m5 d5) 81)).alloc (.cells (Vi false) 98) = W0 at HV0 HB0 HK0 HSZ X0 X1 X2 X3 ⊢
 have D0 := am (kdr X0.out)
 have D1 := am (kdr X1.out)
 have D2 := am (kdr X2.out)
 have D3 := am (kdr X3.out)
 have DV := am (HV0.out.below (zj (Below.refl _ _)))
 have DB := am (HB0.out.trans ((zj (Below.refl _ _)).mono HB0.out.size))
 have DK := am (HK0.out.below (zj (Below.refl _ _)))
 have hsz : w.heap.size + 4 <= W0.drew.heap.size := by have := HSZ.out; show w.heap.size + 4 <= W0.heap.size; omega
 clear HV0 HB0 HK0 HSZ X0 X1 X2 X3
 refine sT 14 [0, 1, 2, 3, 4, 5, 6, 7, 9, 8, 10, 11, 12, 13] [10, 13] fun hHeld => ?_
 generalize W0.drew = Y at D0 D1 D2 D3 DV DB DK hsz hHeld ⊢
 have hq0_0 := bq D1.out
 have hq0_1 := bq D0.out
 have hq0_2 := bq D2.out
 repeat first | refine nx ?_ | refine ldT hHeld ?_ | refine un ?_
 refine on fun K hK => ?_
 refine gC Tryz.func87 ?_
 refine (z01.calls kA (some ad) cv l1 n i p Y (Kd.C_below HR1.out DB.out) HC1.out HA.out).mono ?_
 rintro e Y1 ⟨rfl, hd⟩
 have hb1 := hd.below
 have D0 := am (zd D0.out hb1)
 have D1 := am (zd D1.out hb1)
 have D2 := am (zd D2.out hb1)
 have D3 := am (zd D3.out hb1)
 have DV := am (DV.out.below hb1)
 have DB := am (DB.out.trans (hb1.mono DB.out.size))
 have DK := am (DK.out.below hb1)
 replace hsz := Nat.le_trans hsz hb1.size
 refine ⟨_, rfl, ?_⟩
 refine hK.out _ _ (kp hHeld) fun hHeld => ?_
 clear hK K
 refine nM ?_
 refine la fun K hK => ?_
 refine gC Tryz.func118 ?_
 obtain ⟨hs1, hs2⟩ : Kd.C (Kd.int .i64) Y1 A1 c.st.length c.st /\ c.st.length <= n1 := MR.store DV.out
 refine (z1R.calls kP A1 n1 c.st p a xs Y1 hs1 hs2 HP.out).mono ?_
 rintro e Y2 ⟨v, rfl, ho, hb2⟩
 obtain ⟨D, d, rfl⟩ := Kd.R_slice ho
 have hmt : ∀ k, MT (Va c.ed A1 c.st n1 A2 c.ou n2 A3 c.tr n3 c.co c.us c.wh c.fu A8 c.td n8 c.ov) k -> k < Y1.heap.size := fun k hk => (DV.out.mt hk).2.2
 have GV := ((DV.out.below hb2).mono (Q' := fun k => Q k \/ w.heap.size + 4 <= k) (fun k hk _ => .inl hk)).st' (Kd.R_reads' ho).2.1 (MR.fresh hmt ho (fun k hk _ => .inr (by omega)))
 have D0 := am (zd D0.out hb2)
 have D1 := am (zd D1.out hb2)
 have D2 := am (zd D2.out hb2)
 have D3 := am (zd D3.out hb2)
 have GV := am GV
 have DB := am (DB.out.trans (hb2.mono DB.out.size))
 have DK := am (DK.out.below hb2)
 replace hsz := Nat.le_trans hsz hb2.size
 clear hs1 hs2 ho hmt DV
 refine ⟨_, rfl, ?_⟩
 refine hK.out _ _ ?_
 clear hK K
 refine nM ?_
 repeat first | refine nx ?_ | refine ldT hHeld ?_ | refine un ?_
 refine la fun K hK => ?_
 have y1 : Y2.cell? ⟨w.heap.size + 1, 1, none⟩ = some (.slice A1 c.st.length n1) := (za D1.out 1).trans rfl
 have f1 := zf D1.out 1
 refine ZT (w1 := ?_) (by rfl) rfl ?_ ?_
 rotate_left
 ·go_simp
  rfl
 refine hK.out _ _ ?_
 clear hK K
 refine dn ?_
 have nq : ¬ (Q (w.heap.size + 1) \/ w.heap.size + 4 <= w.heap.size + 1) := (fun h => by rcases h with h | h; exact absurd (HQ.out _ h) (by omega); omega)
 have E0 := am (show (Y2.setCell ⟨w.heap.size + 1, 1, none⟩ (.slice D xs.length d)).heap[w.heap.size]? = _ from ((Below.heap_setCell _ _ _ _ (by show w.heap.size ≠ w.heap.size + 1; omega)).trans D0.out))
 have E1 := am (zI D1.out 1 (.slice D xs.length d) (cs' := (Va c.ed D xs d A2 c.ou n2 A3 c.tr n3 c.co c.us c.wh c.fu A8 c.td n8 c.ov)) rfl)
 have E2 := am (show (Y2.setCell ⟨w.heap.size + 1, 1, none⟩ (.slice D xs.length d)).heap[w.heap.size + 2]? = _ from ((Below.heap_setCell _ _ _ _ (by show w.heap.size + 2 ≠ w.heap.size + 1; omega)).trans D2.out))
 have E3 := am (show (Y2.setCell ⟨w.heap.size + 1, 1, none⟩ (.slice D xs.length d)).heap[w.heap.size + 3]? = _ from ((Below.heap_setCell _ _ _ _ (by show w.heap.size + 3 ≠ w.heap.size + 1; omega)).trans D3.out))
 have EV := am (GV.out.set (p := ⟨w.heap.size + 1, 1, none⟩) nq (.slice D xs.length d))
 have EB := am (DB.out.setCell (p := ⟨w.heap.size + 1, 1, none⟩) (by show w0.heap.size <= w.heap.size + 1; omega) (.slice D xs.length d))
 have EK := am (DK.out.setCell (p := ⟨w.heap.size + 1, 1, none⟩) (.inr (Nat.le_succ _)) (.slice D xs.length d))
 replace hsz : w.heap.size + 4 <= (Y2.setCell ⟨w.heap.size + 1, 1, none⟩ (.slice D xs.length d)).heap.size := by simpa using hsz
 clear y1 f1 D0 D1 D2 D3 DB DK GV nq
 generalize Y2.setCell ⟨w.heap.size + 1, 1, none⟩ (.slice D xs.length d) = W3 at E0 E1 E2 E3 EV EB EK hsz ⊢
 obtain ⟨c1, hc1⟩ : ∃ c1 : MC, c1 = { c with st := xs } := ⟨_, rfl⟩
 have hx1 : c1.st = xs /\ c1.ou = c.ou /\ c1.tr = c.tr /\ c1.td = c.td := by subst hc1; exact ⟨rfl, rfl, rfl, rfl⟩
 have EV := am (show MR w0 W3 (fun k => Q k \/ w.heap.size + 4 <= k) (Va c.ed D xs d A2 c.ou n2 A3 c.tr n3 c.co c.us c.wh c.fu A8 c.td n8 c.ov) c1 by rw [hc1]; exact EV.out)
 have HC := am hc1
 have HX := am hx1
 clear hc1 hx1
 cases arr with
 | false =>
  obtain ⟨c0, c1, c2, c3, c4, c5, c6, c7, c8, c9⟩ := yd E1.out
  have z_q := bq E3.out
  have g_q := bq E3.out
  go_wp2
  exact yH (g := w.heap.size + 3) EV.out (by rw [HC.out, z0f, if_neg (by decide), HXS.out]) (fun k h => .inl h) E3.out rfl EB.out EK.out (by omega) (by omega) (fun h => by rcases h with h | h; exact absurd (HQ.out _ h) (by omega); omega) (fun k hk => by rcases hk with hk | hk; exact .inl hk; exact .inr (by omega)) rfl rfl rfl rfl
 | true =>
  go_upto_region 3 with (fail)
  have E0 := am (kdr E0.out)
  have E1 := am (kdr E1.out)
  have E2 := am (kdr E2.out)
  have E3 := am (kdr E3.out)
  have EV := am (EV.out.below (zj (Below.refl _ _)))
  have EB := am (EB.out.trans ((zj (Below.refl _ _)).mono EB.out.size))
  have EK := am (EK.out.below (zj (Below.refl _ _)))
  replace hsz : w.heap.size + 4 <= W3.drew.heap.size := hsz
  have Q2 := am ((EB.out.cell (World.block_lt_of_cell? w0 _ Q2.out)).trans Q2.out)
  obtain ⟨z, hz⟩ : ∃ z, (zp l1 n).f2 = z := ⟨_, rfl⟩
  rw [hz] at Q2 hv0
  have HZ := am hz
  clear hz
  refine sT 14 [0, 1, 2, 3, 4, 5, 6, 7, 8, 9, 10, 11, 12, 13] [12, 13] fun hHeld => ?_
  generalize W3.drew = Y at E0 E1 E2 E3 EV EB EK Q2 hsz hHeld ⊢
  have hq1_0 := bq E1.out
  have hq1_1 := bq E0.out
  have hq1_2 := bq E2.out
  have hq1_3 : World.cell? _ ⟨(ad.add (n.toNat * 3)).block, (ad.add (n.toNat * 3)).off + 2, none⟩ = some (.int .i64 z) := Q2.out
  repeat first | refine nx ?_ | refine ldT hHeld ?_ | refine un ?_
  refine la fun K hK => ?_
  refine gC Tryz.func101 ?_
  refine (z1B.calls w0 Y (fun k => (Q k \/ w.heap.size + 4 <= k) /\ k < Y.heap.size) _ c1 2 n (Int.tmod i z) EB.out EV.out.bound (fun k hk => hk.2) (by rw [HX.out.2.2.1]; exact HL.out)).mono ?_
  rintro e Y2 ⟨cs2, rfl, hv2, hm2, hb2, hk2⟩
  have nmt : ∀ k, MT (Va c.ed D xs d A2 c.ou n2 A3 c.tr n3 c.co c.us c.wh c.fu A8 c.td n8 c.ov) k -> Q k \/ w.heap.size + 4 <= k := fun k hk => (EV.out.mt hk).1
  have F1 := am ((hk2.2 (w.heap.size + 1) (by omega) (fun h => by rcases nmt _ h with h | h; exact absurd (HQ.out _ h) (by omega); omega)).trans E1.out)
  have F3 := am ((hk2.2 (w.heap.size + 3) (by omega) (fun h => by rcases nmt _ h with h | h; exact absurd (HQ.out _ h) (by omega); omega)).trans E3.out)
  obtain ⟨c2, hc2⟩ : ∃ c2 : MC, c2 = mEv 2 n (Int.tmod i z) c1 := ⟨_, rfl⟩
  have HV2 := am (show MR w0 Y2 (fun k => ((Q k \/ w.heap.size + 4 <= k) /\ k < Y.heap.size) \/ Y.heap.size <= k) cs2 c2 by rw [hc2]; exact hv2)
  have HM2 := am hm2
  have HB2 := am hb2
  have HK2 := am (EK.out.then_ hk2 (fun k hk => .inl hk))
  have HC2 := am hc2
  have hszY := hsz
  replace hsz := Nat.le_trans hsz hk2.1
  have hlY : w.heap.size + 4 <= Y.heap.size := hszY
  obtain ⟨A1', n1', A2', n2', A3', n3', A8', n8', rfl, hh2⟩ := id HV2.out
  clear hh2 hv2 hm2 hk2 hc2 nmt E0 E1 E2 E3 EV EB EK Q2
  refine ⟨_, rfl, ?_⟩
  refine hK.out _ _ ?_
  clear hK K
  refine nM ?_
  refine la fun K hK => ?_
  obtain ⟨y0, y1, y2, y3, y4, y5, y6, y7, y8, y9⟩ := yd F1.out
  have g_q := bq F1.out
  refine ZT (w1 := ?_) (by rfl) rfl ?_ ?_
  rotate_left
  ·go_simp
   rfl
  refine hK.out _ _ ?_
  clear hK K
  refine dn ?_
  have nq : ¬ (((Q (w.heap.size + 1) \/ w.heap.size + 4 <= w.heap.size + 1) /\ w.heap.size + 1 < Y.heap.size) \/ Y.heap.size <= w.heap.size + 1) := (fun h => by rcases h with ⟨h | h, _⟩ | h; exact absurd (HQ.out _ h) (by omega); omega; omega)
  have G1 := am (Zi (vs := (Vb c2.ed A1' c2.st n1' A2' c2.ou n2' A3' c2.tr n3' c2.co c2.us c2.wh c2.fu A8' c2.td n8' c2.ov)) F1.out rfl)
  have G3 := am ((Zl (vs := (Vb c2.ed A1' c2.st n1' A2' c2.ou n2' A3' c2.tr n3' c2.co c2.us c2.wh c2.fu A8' c2.td n8' c2.ov)) (g := w.heap.size + 1) (k := w.heap.size + 3) (w := Y2) (by omega)).trans F3.out)
  have GV := am (HV2.out.fill nq (Vb c2.ed A1' c2.st n1' A2' c2.ou n2' A3' c2.tr n3' c2.co c2.us c2.wh c2.fu A8' c2.td n8' c2.ov))
  have GB := am (Zj (vs := (Vb c2.ed A1' c2.st n1' A2' c2.ou n2' A3' c2.tr n3' c2.co c2.us c2.wh c2.fu A8' c2.td n8' c2.ov)) (g := w.heap.size + 1) HB2.out (by omega))
  have GK := am (yi (vs := (Vb c2.ed A1' c2.st n1' A2' c2.ou n2' A3' c2.tr n3' c2.co c2.us c2.wh c2.fu A8' c2.td n8' c2.ov)) (g := w.heap.size + 1) HK2.out (.inr (Nat.le_succ _)))
  clear y0 g_q y1 y2 y3 y4 y5 y6 y7 y8 y9 F1 F3 HV2 HB2 HK2 nq
  change Exit.then _ _ _ _ (Y2.setCells (w.heap.size + 1) 0 (Vb c2.ed A1' c2.st n1' A2' c2.ou n2' A3' c2.tr n3' c2.co c2.us c2.wh c2.fu A8' c2.td n8' c2.ov))
  generalize Y2.setCells (w.heap.size + 1) 0 (Vb c2.ed A1' c2.st n1' A2' c2.ou n2' A3' c2.tr n3' c2.co c2.us c2.wh c2.fu A8' c2.td n8' c2.ov) = W5 at G1 G3 GV GB GK ⊢
  obtain ⟨c0, c1, c2, c3, c4, c5, c6, c7, c8, c9⟩ := yd G1.out
  have z_q := bq G3.out
  have g_q := bq G3.out
  go_wp2
  exact yH (g := w.heap.size + 3) GV.out (by rw [HC2.out, HC.out, z0f, if_pos rfl, HXS.out, HZ.out]) (fun k h => (HM2.out k h).imp id (fun h => by omega)) G3.out rfl GB.out GK.out (by omega) (by omega) (fun h => by rcases h with ⟨h | h, _⟩ | h; exact absurd (HQ.out _ h) (by omega); omega; omega) (fun k hk => by rcases hk with ⟨hk | hk, _⟩ | hk; exact .inl hk; exact .inr (by omega); exact .inr (by omega)) rfl rfl rfl rfl
theorem z09 : (Tryz.prog.info? 128).map (fun i => (i.zero, i.size, i.bytes)) = some (some (.agg Vq), 6, 96) := by kernel_rfl
def z2E (cn : List S81 -> Int) : Int -> List S81 -> Int
 | n, [] => n
 | n, x :: r => z2E cn (n + 1 + cn x.f3 + cn x.f4) r
def Zs (cn : List S81 -> Int) : Int -> List S81 -> List ZQ
 | _, [] => []
 | n, x :: r => ⟨n, x⟩ :: Zs cn (n + 1 + cn x.f3 + cn x.f4) r
theorem z3j (cn : List S81 -> Int) : ∀ (l : List S81) (n : Int) (j : Nat) (x : S81), l[j]? = some x -> z2E cn n (l.take (j + 1)) = z2E cn n (l.take j) + 1 + cn x.f3 + cn x.f4 /\ Zs cn n (l.take (j + 1)) = Zs cn n (l.take j) ++ [⟨z2E cn n (l.take j), x⟩]
 | [], _, _, _, h => by simp at h
 | y :: r, n, 0, x, h => by
  obtain rfl : y = x := by simpa using h
  exact ⟨rfl, rfl⟩
 | y :: r, n, j + 1, x, h => by
  obtain ⟨h1, h2⟩ := z3j cn r (n + 1 + cn y.f3 + cn y.f4) j x (by simpa using h)
  refine ⟨by rw [List.take_succ_cons, List.take_succ_cons]; exact h1, ?_⟩
  rw [List.take_succ_cons, List.take_succ_cons, Zs, Zs, h2]
  rfl
theorem yh (cn : List S81 -> Int) : ∀ (l : List S81) (n : Int), (Zs cn n l).length = l.length
 | [], _ => rfl
 | x :: r, n => by rw [Zs, List.length_cons, List.length_cons, yh cn r]
def GI (cn : List S81 -> Int) (n : Int) (l : List S81) : Prop :=
 l.length <= 1000000 /\ (∀ x ∈ l, (∃ k, zR.f k x.f3 = some (cn x.f3)) /\ (∃ k, zR.f k x.f4 = some (cn x.f4)) /\ 0 <= cn x.f3 /\ cn x.f3 <= 1000000 /\ 0 <= cn x.f4 /\ cn x.f4 <= 1000000) /\ ∀ j, j <= l.length -> 0 <= z2E cn n (l.take j) /\ z2E cn n (l.take j) <= 1000000
theorem z3N.calls (cn : List S81 -> Int) (w0 w : World) (A : Option Addr) (cc : Nat) (l : List S81) (n : Int) (hB : Below w0.heap.size w0 w) (hr : Kd.C k81 w0 A l.length l) (hc : l.length <= cc) (hg : GI cn n l) :
  Calls Tryz.prog 69 #[.slice A l.length cc, .int .i64 n] w fun e w' => ∃ D d, e = .returned (.slice D (Zs cn n l).length d) /\ (YN yU w0).R 128 w' w.heap.size (fun _ => True) (.slice D (Zs cn n l).length d) (Zs cn n l) /\ Below w.heap.size w w' := by
 have hu1 := Tryz.underlying81
 have hu2 := Tryz.underlying128
 have hu3 := Tryz.underlying96
 obtain ⟨hl, hcn, hnum⟩ := hg
 have HR := am hr
 have HCN := am hcn
 have HNUM := am hnum
 have HB := am hB
 have HBS := am hB.size
 clear hr hcn hnum hB
 go_enter Tryz.func69, Tryz.ntmps69
 go_wp2
 go_loopw [1, 5, 6] (fun v1 v5 v6 X => ∃ j : Nat, v1 = .int .i64 (z2E cn n (l.take j)) /\ v6 = .int .i64 j /\ j <= l.length /\ Aside0 ((YN yU w0).R 128 X w.heap.size (fun _ => True) v5 (Zs cn n (l.take j))) /\ Aside0 (Below w.heap.size w X)) (fun _ _ v6 _ => l.length - (intOf v6).toNat)
 case atStart => exact ⟨0, rfl, rfl, Nat.zero_le _, ⟨Kd.R_nil _ _ _ _ _⟩, ⟨Below.refl _ _⟩⟩
 case round =>
  obtain ⟨j, rfl, rfl, hj, HO, HX⟩ := hrel
  by_cases hlt : j < l.length
  ·have hlt' : ((j : Nat) : Int) < (l.length : Int) := by omega
   obtain ⟨x, hx⟩ : ∃ x, l[j]? = some x := ⟨l[j], List.getElem?_eq_getElem hlt⟩
   obtain ⟨e1, e2⟩ := z3j cn l n j x hx
   obtain ⟨⟨k3, hk3⟩, ⟨k4, hk4⟩, h30, h31, h40, h41⟩ := HCN.out x (List.mem_of_getElem? hx)
   have hm0 := (HNUM.out j hj).1
   have hm1 := (HNUM.out j hj).2
   obtain ⟨m, hm⟩ : ∃ m, z2E cn n (l.take j) = m := ⟨_, rfl⟩
   rw [hm] at e1 e2 hm0 hm1
   obtain ⟨ad, A2, d2, A3, d3, A4, d4, rfl, q0, q1, q2, q3, q4, l2, r2, l3, r3, l4, r4⟩ := yC HR.out (j : Int) (by omega) hlt'
   have hrd : zu l (j : Int) = x := by unfold zu; rw [Int.toNat_natCast, List.getD_eq_getElem?_getD, hx]; rfl
   rw [hrd] at q0 q1 q2 q3 q4 l2 r2 l3 r3 l4 r4
   rw [Int.toNat_natCast] at q0 q1 q2 q3 q4
   have Q3 := am q3
   have Q4 := am q4
   have W0X := HB.out.trans (HX.out.mono HBS.out)
   replace q0 := (W0X.cell (World.block_lt_of_cell? w0 _ q0)).trans q0
   replace q1 := (W0X.cell (World.block_lt_of_cell? w0 _ q1)).trans q1
   replace q2 := (W0X.cell (World.block_lt_of_cell? w0 _ q2)).trans q2
   replace q3 := (W0X.cell (World.block_lt_of_cell? w0 _ q3)).trans q3
   replace q4 := (W0X.cell (World.block_lt_of_cell? w0 _ q4)).trans q4
   have hM : yU.K w0 (⟨m, x⟩ : ZQ) (Vbq m x.f0 x.f1 A2 x.f2 d2 A3 x.f3 d3 A4 x.f4 d4) := z5B w0 (⟨m, x⟩ : ZQ) l2 r2 l3 r3 l4 r4
   have hlen : (Zs cn n (l.take j)).length = j := by rw [yh, List.length_take]; omega
   have HM := am hM
   have HLEN := am hlen
   have E1 := am e1
   have E2 := am e2
   have HK3 := am hk3
   have HK4 := am hk4
   have L3 := am l3
   have L4 := am l4
   have R3 := am r3
   have R4 := am r4
   have HMM := am hm
   rw [hm]
   clear hM hlen e1 e2 hk3 hk4 l2 l3 l4 r2 r3 r4 hm hx hrd W0X
   go_upto_region 6 with (first | ((with_reducible refine Zn (b := .append) (xs := #[.tmp 13, .tmp 20]) rfl ?_); at_builtin; go_loud (refine Kd.R_append (YN yU w0) (w0 := w) w.heap.size rfl (.tmp 13) (.tmp 20) 96 128 (.agg Vq) 96 rfl hu3 z09 rfl (show 0 < 6 by decide) (by omega) _ (Zs cn n (l.take j)) (⟨m, x⟩ : ZQ) (Vbq m x.f0 x.f1 A2 x.f2 d2 A3 x.f3 d3 A4 x.f4 d4) (fun _ => True) (fun _ => False) rfl rfl ?aP (fun _ hk => hk.elim) ?aF ?aO ?aB ?aS ?aL ?_); (case aP => exact HM.out); (case aF => exact fun _ _ => trivial); (case aO => exact HO.out); (case aB => exact HX.out); (case aS => exact HX.out.size); (case aL => have := HLEN.out; omega); intro v' W1 ho hb hg hat; have HO1 := am ho; have HX1 := am hb; clear ho hb hg hat))
   have W01 := HB.out.trans (HX1.out.mono HBS.out)
   have q3' := (W01.cell (World.block_lt_of_cell? w0 _ Q3.out)).trans Q3.out
   have q4' := (W01.cell (World.block_lt_of_cell? w0 _ Q4.out)).trans Q4.out
   have hw1 : IntKind.i64.wrap (m + 1) = m + 1 := by rw [zP]; unfold wrap64; omega
   have hw2 : IntKind.i64.wrap (m + 1 + cn x.f3) = m + 1 + cn x.f3 := by rw [zP]; unfold wrap64; omega
   have hw3 : IntKind.i64.wrap (m + 1 + cn x.f3 + cn x.f4) = m + 1 + cn x.f3 + cn x.f4 := by rw [zP]; unfold wrap64; omega
   have hw4 : wrap64 (m + 1) = m + 1 := by unfold wrap64; omega
   have hw5 : wrap64 (m + 1 + cn x.f3) = m + 1 + cn x.f3 := by unfold wrap64; omega
   have hw6 : wrap64 (m + 1 + cn x.f3 + cn x.f4) = m + 1 + cn x.f3 + cn x.f4 := by unfold wrap64; omega
   have HXD := am (HX1.out.trans ((zj (Below.refl _ _)).mono HX1.out.size))
   have HOD := am (Kd.R_below HO1.out (zj (Below.refl _ _)))
   have U3 := am (show W1.drew.cell? ⟨(ad.add (j * 5)).block, (ad.add (j * 5)).off + 3, none⟩ = some (.slice A3 x.f3.length d3) from q3')
   have U4 := am (show W1.drew.cell? ⟨(ad.add (j * 5)).block, (ad.add (j * 5)).off + 4, none⟩ = some (.slice A4 x.f4.length d4) from q4')
   clear q0 q1 q2 q3 q4 q3' q4' W01
   go_wp2
   refine sT 17 [0, 1, 2, 3, 4, 5, 6, 9, 10, 11, 12, 13, 7, 8, 14, 15, 16] [14] fun hHeld => ?_
   generalize W1.drew = Y at HXD HOD U3 U4 hHeld ⊢
   have hq0_0 : World.cell? _ ⟨(ad.add (j * 5)).block, (ad.add (j * 5)).off + 3, none⟩ = some (.slice A3 x.f3.length d3) := U3.out
   have hq0_1 : World.cell? _ ⟨(ad.add (j * 5)).block, (ad.add (j * 5)).off + 4, none⟩ = some (.slice A4 x.f4.length d4) := U4.out
   repeat first | refine nx ?_ | refine ldT hHeld ?_ | refine un ?_
   refine on fun K hK => ?_
   refine gC Tryz.func19 ?_
   refine (zR.calls k3 A3 d3 x.f3 (cn x.f3) Y (Kd.C_below R3.out (HB.out.trans (HXD.out.mono HBS.out))) L3.out HK3.out).mono ?_
   rintro e Y1 ⟨rfl, hb⟩
   have HXD := am (HXD.out.trans (hb.mono HXD.out.size))
   have HOD := am (Kd.R_below HOD.out hb)
   have U3 := am ((hb.cell (World.block_lt_of_cell? _ _ U3.out)).trans U3.out)
   have U4 := am ((hb.cell (World.block_lt_of_cell? _ _ U4.out)).trans U4.out)
   refine ⟨_, rfl, ?_⟩
   refine hK.out _ _ (kp hHeld) fun hHeld => ?_
   clear hK K
   refine nM ?_
   repeat first | refine nx ?_ | refine ldT hHeld ?_ | refine un ?_
   refine la fun K hK => ?_
   refine gC Tryz.func19 ?_
   refine (zR.calls k4 A4 d4 x.f4 (cn x.f4) Y1 (Kd.C_below R4.out (HB.out.trans (HXD.out.mono HBS.out))) L4.out HK4.out).mono ?_
   rintro e Y2 ⟨rfl, hb⟩
   have HXD := am (HXD.out.trans (hb.mono HXD.out.size))
   have HOD := am (Kd.R_below HOD.out hb)
   refine ⟨_, rfl, ?_⟩
   refine hK.out _ _ ?_
   clear hK K
   refine nM ?_
   repeat first | refine nx ?_ | refine ldT hHeld ?_ | refine un ?_
   refine dn ?_
   clear U3 U4
   go_wp2
   exact ⟨⟨j + 1, by rw [E1.out], by go_num, by omega, ⟨by rw [E2.out]; exact HOD.out⟩, HXD⟩, by simp [intOf]; omega⟩
  ·have hge : ¬ ((j : Nat) : Int) < (l.length : Int) := by omega
   obtain rfl : j = l.length := by omega
   rw [List.take_length] at HO ⊢
   obtain ⟨D, d, rfl⟩ := Kd.R_slice HO.out
   go_wp2
   go_ret
   exact ⟨D, d, rfl, HO.out, HX.out⟩
theorem z4Z.calls (cn : List S81 -> Int) (w0 w : World) (m op n : Int) (A2 : Option Addr) (d2 : Nat) (a : List S62) (A3 : Option Addr) (d3 : Nat) (t : List S81) (A4 : Option Addr) (d4 : Nat) (e : List S81) (hB : Below w0.heap.size w0 w) (hr : Kd.C k81 w0 A3 t.length t) (hc : t.length <= d3) (hm0 : 0 <= m) (hm1 : m <= 1000000) (hg : GI cn (m + 1) t) :
  Calls Tryz.prog 103 #[.agg (Vj m op n A2 a d2 A3 t d3 A4 e d4)] w fun en w' => ∃ D d, en = .returned (.slice D (Zs cn (m + 1) t).length d) /\ (YN yU w0).R 128 w' w.heap.size (fun _ => True) (.slice D (Zs cn (m + 1) t).length d) (Zs cn (m + 1) t) /\ Below w.heap.size w w' := by
 have hu1 := Tryz.underlying81
 have hu2 := Tryz.underlying128
 have hx := zH w (.cells (Vj m op n A2 a d2 A3 t d3 A4 e d4) 128)
 have hb := bal (Below.refl w.heap.size w) (.cells (Vj m op n A2 a d2 A3 t d3 A4 e d4) 128)
 have HR := am hr
 have HC := am hc
 have HG := am hg
 have hw1 : IntKind.i64.wrap (m + 1) = m + 1 := by rw [zP]; unfold wrap64; omega
 have hw2 : wrap64 (m + 1) = m + 1 := by unfold wrap64; omega
 have HB := am hB
 clear hr hc hg hB
 go_enter Tryz.func103, Tryz.ntmps103
 go_upto_region 1 with (fail)
 generalize w.alloc (.cells (Vj m op n A2 a d2 A3 t d3 A4 e d4) 128) = W at hx hb ⊢
 have x_q := bq hx
 have HD := am hb
 have HX := am hx
 clear hx hb
 go_wp2_with (first | (go_at_call 69; refine (z3N.calls cn w0 W A3 d3 t (m + 1) (HB.out.trans (HD.out.mono HB.out.size)) HR.out HC.out HG.out).mono ?_; rintro en Y1 ⟨D, d, rfl, ho, hb⟩; have HO := am (Kd.R_lower ho HD.out.size); have HD1 := am (HD.out.trans (hb.mono HD.out.size)); clear ho hb))
 go_ret
 exact ⟨D, d, rfl, HO.out, HD1.out⟩
theorem z79.calls (cn : List S81 -> Int) (w0 w : World) (m op n : Int) (A2 : Option Addr) (d2 : Nat) (a : List S62) (A3 : Option Addr) (d3 : Nat) (t : List S81) (A4 : Option Addr) (d4 : Nat) (e : List S81) (hB : Below w0.heap.size w0 w) (ht : Kd.C k81 w0 A3 t.length t) (htc : t.length <= d3) (k : Nat) (hk : zR.f k t = some (cn t)) (hc0 : 0 <= cn t) (hc1 : cn t <= 1000000) (hr : Kd.C k81 w0 A4 e.length e) (hc : e.length <= d4) (hm0 : 0 <= m) (hm1 : m <= 1000000) (hg : GI cn (m + 1 + cn t) e) :
  Calls Tryz.prog 102 #[.agg (Vj m op n A2 a d2 A3 t d3 A4 e d4)] w fun en w' => ∃ D d, en = .returned (.slice D (Zs cn (m + 1 + cn t) e).length d) /\ (YN yU w0).R 128 w' w.heap.size (fun _ => True) (.slice D (Zs cn (m + 1 + cn t) e).length d) (Zs cn (m + 1 + cn t) e) /\ Below w.heap.size w w' := by
 have hu1 := Tryz.underlying81
 have hu2 := Tryz.underlying128
 have hx := zH w (.cells (Vj m op n A2 a d2 A3 t d3 A4 e d4) 128)
 have hb := bal (Below.refl w.heap.size w) (.cells (Vj m op n A2 a d2 A3 t d3 A4 e d4) 128)
 have HR := am hr
 have HC := am hc
 have HG := am hg
 have hw1 : IntKind.i64.wrap (m + 1) = m + 1 := by rw [zP]; unfold wrap64; omega
 have hw2 : wrap64 (m + 1) = m + 1 := by unfold wrap64; omega
 have HB := am hB
 have HT := am ht
 have HTC := am htc
 have HK := am hk
 have hw3 : IntKind.i64.wrap (m + 1 + cn t) = m + 1 + cn t := by rw [zP]; unfold wrap64; omega
 have hw4 : wrap64 (m + 1 + cn t) = m + 1 + cn t := by unfold wrap64; omega
 clear hr hc hg hB ht htc hk
 go_enter Tryz.func102, Tryz.ntmps102
 go_upto_region 1 with (fail)
 generalize w.alloc (.cells (Vj m op n A2 a d2 A3 t d3 A4 e d4) 128) = W at hx hb ⊢
 have x_q := bq hx
 have HD := am hb
 have HX := am hx
 clear hx hb
 have HX := am (kdr HX.out)
 have HD := am (HD.out.trans ((zj (Below.refl _ _)).mono HD.out.size))
 go_wp2
 clear x_q
 refine sT 13 [0, 1, 2, 3, 4, 5, 6, 7, 8, 9, 10, 11, 12] [11] fun hHeld => ?_
 generalize W.drew = Y at HX HD hHeld ⊢
 have hq0_0 := bq HX.out
 repeat first | refine nx ?_ | refine ldT hHeld ?_ | refine un ?_
 refine on fun K hK => ?_
 refine gC Tryz.func19 ?_
 refine (zR.calls k A3 d3 t (cn t) Y (Kd.C_below HT.out (HB.out.trans (HD.out.mono HB.out.size))) HTC.out HK.out).mono ?_
 rintro en Y0 ⟨rfl, hb⟩
 have HX := am (zd HX.out hb)
 have HD := am (HD.out.trans (hb.mono HD.out.size))
 refine ⟨_, rfl, ?_⟩
 refine hK.out _ _ (kp hHeld) fun hHeld => ?_
 clear hK K
 refine nM ?_
 repeat first | refine nx ?_ | refine ldT hHeld ?_ | refine un ?_
 refine la fun K hK => ?_
 refine gC Tryz.func69 ?_
 refine (z3N.calls cn w0 Y0 A4 d4 e (m + 1 + cn t) (HB.out.trans (HD.out.mono HB.out.size)) HR.out HC.out HG.out).mono ?_
 rintro en Y1 ⟨D, d, rfl, ho, hb⟩
 have HO := am (Kd.R_lower ho HD.out.size)
 have HD := am (HD.out.trans (hb.mono HD.out.size))
 clear ho
 refine ⟨_, rfl, ?_⟩
 refine hK.out _ _ ?_
 clear hK K
 refine nM ?_
 repeat first | refine nx ?_ | refine ldT hHeld ?_ | refine un ?_
 refine dn ?_
 go_wp2
 go_ret
 exact ⟨D, d, rfl, HO.out, HD.out⟩
theorem z7g : (Tryz.prog.info? 134).map (fun i => (i.zero, i.size, i.bytes)) = some (some (.agg Vnq), 2, 16) := by kernel_rfl
theorem Yc {W : World} {A : Option Addr} {xs : List Int} (h : Kd.C (Kd.int .i64) W A xs.length xs) (i : Int) (h0 : 0 <= i) (h1 : i < xs.length) : ∃ ad, A = some ad /\ W.cell? (ad.add i.toNat) = some (.int .i64 (rd xs i)) := by
 obtain ⟨ad, cl, e1, _, hK, hcl⟩ := Kd.C_get h (0 : Int) i h0 h1
 have hcl0 : cl = [.int .i64 (rd xs i)] := hK
 subst hcl0
 have qp := hcl 0 _ rfl
 rw [show (Kd.int .i64).sz = 1 from rfl, Nat.mul_one, Nat.add_zero] at qp
 exact ⟨ad, e1, qp⟩
theorem z5s {w0 W : World} {b : Nat} {x : ZQ} {cs : List Value} (h : W.heap[b]? = some (.cells cs.toArray 128 (0, 0))) (hK : yU.K w0 x cs) : (YN yU w0).C W (some ⟨b, 0, none⟩) 1 [x] := by
 refine ⟨rfl, by decide, fun _ => ⟨_, rfl, fun j y hj => ?_⟩⟩
 match j with
 | 0 =>
  obtain rfl : x = y := by simpa using hj
  refine ⟨cs, yU.K_len hK, hK, fun i u hu => ?_⟩
  rw [z7A, za h]
  simpa using hu
 | j + 1 => simp at hj
theorem MR.newtd {w0 Y W : World} {Q ok : Nat -> Prop} {cs : Array Value} {c : MC} {D : Option Addr} {d : Nat} {xs : List ZQ} (h : MR w0 Y Q cs c) (hs : Below Y.heap.size Y W) (ho : (YN yU w0).R 128 W Y.heap.size ok (.slice D xs.length d) xs) : MR w0 W (fun k => Q k \/ Y.heap.size <= k) (cs.setIfInBounds 8 (.slice D xs.length d)) { c with td := xs } :=
 ((h.below hs).mono (fun _ hk _ => .inl hk)).td' (Kd.R_reads' ho).2.1 (MR.fresh (fun _ hk => (h.mt hk).2.2) ho (fun _ hk _ => .inr hk))
def atP (l1 : List S76) (n i : Int) : Int := ((l1.take n.toNat).map (·.f2)).sum + Int.tmod i (zp l1 n).f2
def yF (cn : List S81 -> Int) (l1 : List S76) (pk : List Int) (c : MC) (m op n : Int) (t e : List S81) (self : ZQ) (v : List Int) (next : List ZQ) : MC :=
 if op = 0 then z0f l1 n (if 1 < v.length then rd v 0 else 0) (rd v ((v.length : Int) - 1)) (atP l1 n (if 1 < v.length then rd v 0 else 0)) (decide (1 < v.length)) c
 else if op = 1 then { mEv 0 m (if rd v 0 = 0 then 0 else 1) c with td := (if rd v 0 = 0 then Zs cn (m + 1 + cn t) e else Zs cn (m + 1) t) ++ next }
 else if op = 2 then (if rd v 0 = 0 then mEv 0 m 0 c else { mEv 0 m 1 c with td := (Zs cn (m + 1) t ++ [self]) ++ next })
 else if op = 3 then { c with ou := c.ou ++ [⟨n, rd v 0⟩] }
 else if op = 4 then (if (pk.length : Int) <= c.us then YL 4 m c else z0f l1 n (if 0 < v.length then rd v 0 else 0) (rd pk c.us) (atP l1 n (if 0 < v.length then rd v 0 else 0)) (decide (0 < v.length)) { c with us := c.us + 1 })
 else if op = 5 then (if rd v 0 = 0 then YL 1 m c else c)
 else if op = 6 then (if rd v 0 = 0 then YL 2 m c else c)
 else c
def SFit (l1 : List S76) (st : List Int) (n i a : Int) : Prop :=
 0 <= n /\ n < l1.length /\ (zp l1 n).f2 ≠ 0 /\ (∃ k, z01.f k l1 n i = some (atP l1 n i)) /\ ∃ k, z1R.f k st (atP l1 n i) a = some (st.set (atP l1 n i).toNat a)
def AFit (cn : List S81 -> Int) (l1 : List S76) (pk : List Int) (c : MC) (m op n : Int) (t e : List S81) (v : List Int) (next : List ZQ) : Prop :=
 (0 <= m /\ m <= 1000000 /\ c.tr.length < 1000000000 /\ c.ou.length < 1000000000 /\ 0 <= c.us /\ c.us < 1000000 /\ next.length < 1000000000) /\
 (op = 0 -> 0 < v.length /\ SFit l1 c.st n (if 1 < v.length then rd v 0 else 0) (rd v ((v.length : Int) - 1))) /\
 (op = 1 \/ op = 2 -> 0 < v.length /\ GI cn (m + 1) t /\ GI cn (m + 1 + cn t) e /\ (∃ k, zR.f k t = some (cn t)) /\ 0 <= cn t /\ cn t <= 1000000) /\
 (op = 3 \/ op = 5 \/ op = 6 -> 0 < v.length) /\ (op = 4 -> SFit l1 c.st n (if 0 < v.length then rd v 0 else 0) (rd pk c.us))
theorem m_act.calls (w0 w : World) (Q : Nat -> Prop) (cs : Array Value) (c : MC) (cn : List S81 -> Int) (wd : Int) (Av : Option Addr) (cv : Nat) (l1 : List S76) (Ab : Option Addr) (lb cb : Nat) (Ap_ : Option Addr) (np : Nat) (pk : List Int) (m op n : Int) (B3 : Option Addr) (d3 : Nat) (a : List S62) (B4 : Option Addr) (d4 : Nat) (t : List S81) (B5 : Option Addr) (d5 : Nat) (e : List S81) (Av_ : Option Addr) (nv : Nat) (v : List Int) (An : Option Addr) (nn : Nat) (next : List ZQ) (hB : Below w0.heap.size w0 w) (hV : MR w0 w Q cs c) (hQ : ∀ k, Q k -> k < w.heap.size) (hr1 : Kd.C k76 w0 Av l1.length l1) (hc1 : l1.length <= cv) (hpk : Kd.C (Kd.int .i64) w0 Ap_ pk.length pk) (hpn : pk.length <= np) (h3 : Kd.C k62 w0 B3 a.length a) (l3 : a.length <= d3) (h4 : Kd.C k81 w0 B4 t.length t) (l4 : t.length <= d4) (h5 : Kd.C k81 w0 B5 e.length e) (l5 : e.length <= d5) (hvf : Kd.F (Kd.int .i64) w (fun k => ¬ MT cs k) Av_ v.length v) (hvn : v.length <= nv) (hnf : Kd.F (YN yU w0) w (fun k => ¬ MT cs k) An next.length next) (hnn : next.length <= nn) (hf : AFit cn l1 pk c m op n t e v next) :
  Calls Tryz.prog 73 #[.agg (Vo wd Av l1 cv Ab lb cb), .slice Ap_ pk.length np, .agg cs, .agg (Vj m op n B3 a d3 B4 t d4 B5 e d5), .slice Av_ v.length nv, .slice An next.length nn] w (MP w0 w Q cs (yF cn l1 pk c m op n t e ⟨m, ⟨op, n, a, t, e⟩⟩ v next)) := by
 have HV := am hV
 obtain ⟨A1, n1, A2, n2, A3, n3, A8, n8, rfl, hh⟩ := id hV
 clear hh hV
 obtain ⟨b_, hsz_, x0_, x1_, x2_, x3_⟩ := z7s w (.cells (Vo wd Av l1 cv Ab lb cb) 25) (.cells (Va c.ed A1 c.st n1 A2 c.ou n2 A3 c.tr n3 c.co c.us c.wh c.fu A8 c.td n8 c.ov) 98) (.cells (Vj m op n B3 a d3 B4 t d4 B5 e d5) 128) (.cells (Vi false) 98)
 have HV0 := am (HV.out.below b_)
 have HB0 := am (hB.trans (b_.mono hB.size))
 have HK0 := am (zL.of_below b_ (MT (Va c.ed A1 c.st n1 A2 c.ou n2 A3 c.tr n3 c.co c.us c.wh c.fu A8 c.td n8 c.ov)))
 have HSZ := am hsz_
 have X0 := am x0_
 have X1 := am x1_
 have X2 := am x2_
 have X3 := am x3_
 have HQ := am hQ
 have hBs := hB.size
 clear hsz_ hQ hB b_ x0_ x1_ x2_ x3_
 have hu := Tryz.underlying98
 have huR := Tryz.underlying44
 have huP := Tryz.underlying25
 have huS := Tryz.underlying81
 have huI := Tryz.underlying128
 have huL := Tryz.underlying96
 have huN := Tryz.underlying26
 obtain ⟨⟨hm0, hm1, htr, hou, hu0, hu1, hnx⟩, F0, F1, F3, F4⟩ := hf
 have MRQ := am (show ∀ k, MT (Va c.ed A1 c.st n1 A2 c.ou n2 A3 c.tr n3 c.co c.us c.wh c.fu A8 c.td n8 c.ov) k -> Q k from fun k hk => (HV.out.mt hk).1)
 have HF0 := am F0
 have HF1 := am F1
 have HF3 := am F3
 have HF4 := am F4
 have HR1 := am hr1
 have HC1 := am hc1
 have HPK := am hpk
 have H3 := am h3
 have L3 := am l3
 have H4 := am h4
 have L4 := am l4
 have H5 := am h5
 have L5 := am l5
 have HVF := am hvf
 have HNF := am hnf
 have HNN := am hnn
 have hvl := (Kd.F_now hvf).2.1
 clear F0 F1 F3 F4 hr1 hc1 hpk h3 l3 h4 l4 h5 l5 hvf hnf hnn
 go_enter Tryz.func73, Tryz.ntmps73
 go_upto_region 1 with (fail)
 generalize (((w.alloc (.cells (Vo wd Av l1 cv Ab lb cb) 25)).alloc (.cells (Va c.ed A1 c.st n1 A2 c.ou n2 A3 c.tr n3 c.co c.us c.wh c.fu A8 c.td n8 c.ov) 98)).alloc (.cells (Vj m op n B3 a d3 B4 t d4 B5 e d5) 128)).alloc (.cells (Vi false) 98) = W0 at HV0 HB0 HK0 HSZ X0 X1 X2 X3 ⊢
 obtain ⟨i0, i1, i2, i3, i4, i5⟩ := z6R X2.out
 go_upto_region 2 with (fail)
 clear i0 i1 i2 i3 i4 i5
 have ba := bal (Below.refl W0.heap.size W0) (.cells (Vh op n B3 a d3 B4 t d4 B5 e d5) 81)
 have X4 := am (show (W0.alloc (.cells (Vh op n B3 a d3 B4 t d4 B5 e d5) 81)).heap[w.heap.size + 4]? = _ from HSZ.out ▸ zH W0 (.cells (Vh op n B3 a d3 B4 t d4 B5 e d5) 81))
 have X0 := am (zd X0.out ba)
 have X1 := am (zd X1.out ba)
 have X2 := am (zd X2.out ba)
 have X3 := am (zd X3.out ba)
 have HV1 := am (HV0.out.below ba)
 have HB1 := am (HB0.out.trans (ba.mono HB0.out.size))
 have HK1 := am (HK0.out.below ba)
 have hsz1 : (W0.alloc (.cells (Vh op n B3 a d3 B4 t d4 B5 e d5) 81)).heap.size = w.heap.size + 5 := by have := HSZ.out; simp; omega
 have hpt : (⟨W0.heap.size, 0, none⟩ : Addr) = ⟨w.heap.size + 4, 0, none⟩ := by rw [HSZ.out]
 simp only [HSZ.out]
 have HSZ := am hsz1
 clear ba HV0 HB0 HK0 hsz1 hpt
 generalize W0.alloc (.cells (Vh op n B3 a d3 B4 t d4 B5 e d5) 81) = W1 at X0 X1 X2 X3 X4 HV1 HB1 HK1 HSZ ⊢
 have s0 : W1.cell? ⟨w.heap.size + 4, 0, none⟩ = some (.int .i64 op) := (za X4.out 0).trans rfl
 by_cases h5 : op = 5
 ·have e5 : (op == 5) = true := bT h5
  have e0 : (op == 0) = false := bF (by rw [h5]; decide)
  have e1 : (op == 1) = false := bF (by rw [h5]; decide)
  have e2 : (op == 2) = false := bF (by rw [h5]; decide)
  have e3 : (op == 3) = false := bF (by rw [h5]; decide)
  have e4 : (op == 4) = false := bF (by rw [h5]; decide)
  have H5_ := am h5
  clear h5
  have hvp : 0 < v.length := HF3.out (by rw [H5_.out]; simp)
  obtain ⟨adv, e_, q0v⟩ := Yc (Kd.F_now (Kd.F_kept HVF.out HK1.out (fun _ hk => hk))) (0 : Int) (Int.le_refl _) (by omega)
  subst e_
  rw [show (0 : Int).toNat = 0 from rfl, Addr.add_zero'] at q0v
  have hvp0 : (0 : Int) < (v.length : Int) := by omega
  by_cases hz : rd v 0 = 0
  ·have hzb : (rd v 0 == 0) = true := bT hz
   have HZ := am hz
   clear hz
   obtain ⟨c0, c1, c2, c3, c4, c5, c6, c7, c8, c9⟩ := yd X1.out
   have i0 : W1.cell? ⟨w.heap.size + 2, 0, none⟩ = some (.int .i64 m) := (za X2.out 0).trans rfl
   go_wp2_with (first | (go_at_call 70; refine (z3M.calls w0 W1 Q _ c 1 m HB1.out HV1.out (fun k hk => by have := HQ.out k hk; have := HSZ.out; omega)).mono ?_; rintro en W2 ⟨cs2, rfl, hv2, hm2, hb2, hk2⟩; have X3 := am ((hk2.2 (w.heap.size + 3) (by have := HSZ.out; omega) (fun h => absurd (HQ.out _ (MRQ.out _ h)) (by omega))).trans X3.out); obtain ⟨c2, hc2⟩ : ∃ c2 : MC, c2 = YL 1 m c := ⟨_, rfl⟩; have HV2 := am (show MR w0 W2 (fun k => Q k \/ W1.heap.size <= k) cs2 c2 by rw [hc2]; exact hv2); have HM2 := am hm2; have HC2 := am hc2; obtain ⟨A1', n1', A2', n2', A3', n3', A8', n8', rfl, hh2⟩ := id HV2.out; clear hh2; have HB2 := am hb2; have hlc : w.heap.size + 5 <= W1.heap.size := (by have := HSZ.out; omega); have HK2 := am (HK1.out.then_ hk2 (fun k hk => .inl hk)); have hs2 := hk2.1; clear hv2 hm2 hb2 hk2 hc2; have z_q := bq X3.out; have g_q := bq X3.out))
   exact yH (g := w.heap.size + 3) HV2.out (by rw [HC2.out, yF, if_neg (by rw [H5_.out]; decide), if_neg (by rw [H5_.out]; decide), if_neg (by rw [H5_.out]; decide), if_neg (by rw [H5_.out]; decide), if_neg (by rw [H5_.out]; decide), if_pos H5_.out, if_pos HZ.out]) (fun k h => (HM2.out k h).imp id (fun h => by omega)) X3.out rfl HB2.out HK2.out (by omega) (by omega) (fun h => by rcases h with h | h; exact absurd (HQ.out _ h) (by omega); omega) (fun k hk => by rcases hk with hk | hk; exact .inl hk; exact .inr (by omega)) rfl rfl rfl rfl
  ·have hzb : (rd v 0 == 0) = false := bF hz
   have HZ := am hz
   clear hz
   obtain ⟨c0, c1, c2, c3, c4, c5, c6, c7, c8, c9⟩ := yd X1.out
   have z_q := bq X3.out
   have g_q := bq X3.out
   go_wp2
   exact yH (g := w.heap.size + 3) HV1.out (by rw [yF, if_neg (by rw [H5_.out]; decide), if_neg (by rw [H5_.out]; decide), if_neg (by rw [H5_.out]; decide), if_neg (by rw [H5_.out]; decide), if_neg (by rw [H5_.out]; decide), if_pos H5_.out, if_neg HZ.out]) (fun k h => .inl h) X3.out rfl HB1.out HK1.out (by omega) (by omega) (fun h => absurd (HQ.out _ h) (by omega)) (fun k hk => .inl hk) rfl rfl rfl rfl
 have e5 := (beq_eq_false_iff_ne (a := op)).mpr h5
 by_cases h6 : op = 6
 ·have e6 : (op == 6) = true := bT h6
  have e0 : (op == 0) = false := bF (by rw [h6]; decide)
  have e1 : (op == 1) = false := bF (by rw [h6]; decide)
  have e2 : (op == 2) = false := bF (by rw [h6]; decide)
  have e3 : (op == 3) = false := bF (by rw [h6]; decide)
  have e4 : (op == 4) = false := bF (by rw [h6]; decide)
  have H6_ := am h6
  clear h6
  have hvp : 0 < v.length := HF3.out (by rw [H6_.out]; simp)
  obtain ⟨adv, e_, q0v⟩ := Yc (Kd.F_now (Kd.F_kept HVF.out HK1.out (fun _ hk => hk))) (0 : Int) (Int.le_refl _) (by omega)
  subst e_
  rw [show (0 : Int).toNat = 0 from rfl, Addr.add_zero'] at q0v
  have hvp0 : (0 : Int) < (v.length : Int) := by omega
  by_cases hz : rd v 0 = 0
  ·have hzb : (rd v 0 == 0) = true := bT hz
   have HZ := am hz
   clear hz
   obtain ⟨c0, c1, c2, c3, c4, c5, c6, c7, c8, c9⟩ := yd X1.out
   have i0 : W1.cell? ⟨w.heap.size + 2, 0, none⟩ = some (.int .i64 m) := (za X2.out 0).trans rfl
   go_wp2_with (first | (go_at_call 70; refine (z3M.calls w0 W1 Q _ c 2 m HB1.out HV1.out (fun k hk => by have := HQ.out k hk; have := HSZ.out; omega)).mono ?_; rintro en W2 ⟨cs2, rfl, hv2, hm2, hb2, hk2⟩; have X3 := am ((hk2.2 (w.heap.size + 3) (by have := HSZ.out; omega) (fun h => absurd (HQ.out _ (MRQ.out _ h)) (by omega))).trans X3.out); obtain ⟨c2, hc2⟩ : ∃ c2 : MC, c2 = YL 2 m c := ⟨_, rfl⟩; have HV2 := am (show MR w0 W2 (fun k => Q k \/ W1.heap.size <= k) cs2 c2 by rw [hc2]; exact hv2); have HM2 := am hm2; have HC2 := am hc2; obtain ⟨A1', n1', A2', n2', A3', n3', A8', n8', rfl, hh2⟩ := id HV2.out; clear hh2; have HB2 := am hb2; have hlc : w.heap.size + 5 <= W1.heap.size := (by have := HSZ.out; omega); have HK2 := am (HK1.out.then_ hk2 (fun k hk => .inl hk)); have hs2 := hk2.1; clear hv2 hm2 hb2 hk2 hc2; have z_q := bq X3.out; have g_q := bq X3.out))
   exact yH (g := w.heap.size + 3) HV2.out (by rw [HC2.out, yF, if_neg (by rw [H6_.out]; decide), if_neg (by rw [H6_.out]; decide), if_neg (by rw [H6_.out]; decide), if_neg (by rw [H6_.out]; decide), if_neg (by rw [H6_.out]; decide), if_neg (by rw [H6_.out]; decide), if_pos H6_.out, if_pos HZ.out]) (fun k h => (HM2.out k h).imp id (fun h => by omega)) X3.out rfl HB2.out HK2.out (by omega) (by omega) (fun h => by rcases h with h | h; exact absurd (HQ.out _ h) (by omega); omega) (fun k hk => by rcases hk with hk | hk; exact .inl hk; exact .inr (by omega)) rfl rfl rfl rfl
  ·have hzb : (rd v 0 == 0) = false := bF hz
   have HZ := am hz
   clear hz
   obtain ⟨c0, c1, c2, c3, c4, c5, c6, c7, c8, c9⟩ := yd X1.out
   have z_q := bq X3.out
   have g_q := bq X3.out
   go_wp2
   exact yH (g := w.heap.size + 3) HV1.out (by rw [yF, if_neg (by rw [H6_.out]; decide), if_neg (by rw [H6_.out]; decide), if_neg (by rw [H6_.out]; decide), if_neg (by rw [H6_.out]; decide), if_neg (by rw [H6_.out]; decide), if_neg (by rw [H6_.out]; decide), if_pos H6_.out, if_neg HZ.out]) (fun k h => .inl h) X3.out rfl HB1.out HK1.out (by omega) (by omega) (fun h => absurd (HQ.out _ h) (by omega)) (fun k hk => .inl hk) rfl rfl rfl rfl
 have e6 := (beq_eq_false_iff_ne (a := op)).mpr h6
 by_cases h0 : op = 0
 ·have e0 : (op == 0) = true := bT h0
  have H0_ := am h0
  clear h0
  obtain ⟨hvp, SF⟩ := HF0.out H0_.out
  have hlx0 : (0 : Int) <= (v.length : Int) - 1 := by omega
  have hlx1 : (v.length : Int) - 1 < (v.length : Int) := by omega
  have hwl : IntKind.i64.wrap ((v.length : Int) - 1) = (v.length : Int) - 1 := by rw [zP]; unfold wrap64; omega
  have hw6 : wrap64 ((v.length : Int) - 1) = (v.length : Int) - 1 := by unfold wrap64; omega
  obtain ⟨adv, e_, q0v⟩ := Yc (Kd.F_now (Kd.F_kept HVF.out HK1.out (fun _ hk => hk))) (0 : Int) (Int.le_refl _) (by omega)
  subst e_
  rw [show (0 : Int).toNat = 0 from rfl, Addr.add_zero'] at q0v
  have hvp0 : (0 : Int) < (v.length : Int) := by omega
  obtain ⟨adw, e_, ql⟩ := Yc (Kd.F_now (Kd.F_kept HVF.out HK1.out (fun _ hk => hk))) ((v.length : Int) - 1) hlx0 hlx1
  injection e_ with e_
  subst e_
  rw [show ((v.length : Int) - 1).toNat = v.length - 1 by omega] at ql
  have hle1 : (1 : Int) <= (v.length : Int) := by omega
  have D0 := am (kdr X0.out)
  have D1 := am (kdr X1.out)
  have D2 := am (kdr X2.out)
  have D3 := am (kdr X3.out)
  have D4 := am (kdr X4.out)
  have DV := am (HV1.out.below (zj (Below.refl _ _)))
  have DB := am (HB1.out.trans ((zj (Below.refl _ _)).mono HB1.out.size))
  have DK := am (HK1.out.below (zj (Below.refl _ _)))
  have hlw : w.heap.size + 5 <= W1.drew.heap.size := by have := HSZ.out; show w.heap.size + 5 <= W1.heap.size; omega
  have QL := am (show W1.drew.cell? (adv.add (v.length - 1)) = some (.int .i64 (rd v ((v.length : Int) - 1))) from ql)
  clear ql
  by_cases h1 : 1 < v.length
  ·rw [if_pos h1] at SF
   obtain ⟨hn0, hn1, hv0, ⟨kA, hA⟩, kP, hP⟩ := SF
   have hgt : (1 : Int) < (v.length : Int) := by omega
   have hgd : decide ((1 : Int) < (v.length : Int)) = true := dT (by omega)
   have HH1 := am h1
   have HAT := am hA
   have HPU := am hP
   clear h1 hA hP
   go_wp2
   refine sT 15 [0, 1, 2, 3, 4, 5, 6, 7, 8, 9, 10, 11, 12, 13, 14] [13, 14] fun hHeld => ?_
   generalize W1.drew = Y at D0 D1 D2 D3 D4 DV DB DK QL hlw hHeld ⊢
   have hq0_0 := bq D0.out
   have hq0_1 := bq D1.out
   have hq0_2 := bq D4.out
   have hq0_3 : World.cell? _ (adv.add (v.length - 1)) = some (.int .i64 (rd v ((v.length : Int) - 1))) := QL.out
   repeat first | refine nx ?_ | refine ldT hHeld ?_ | refine un ?_
   refine la fun K hK => ?_
   refine gC Tryz.func100 ?_
   refine (z5w.calls w0 Y Q _ c kA kP wd Av cv l1 Ab lb cb op n B3 a.length d3 B4 t.length d4 B5 e.length d5 true (rd v 0) (rd v ((v.length : Int) - 1)) _ DB.out DV.out (fun k hk => by have := HQ.out k hk; omega) HR1.out HC1.out hn0 hn1 hv0 HAT.out HPU.out htr).mono ?_
   rintro en W2 ⟨cs2, rfl, hv2, hm2, hb2, hk2⟩
   have X3 := am ((hk2.2 (w.heap.size + 3) (by omega) (fun h => absurd (HQ.out _ (MRQ.out _ h)) (by omega))).trans D3.out)
   obtain ⟨c2, hc2⟩ : ∃ c2 : MC, c2 = z0f l1 n (rd v 0) (rd v ((v.length : Int) - 1)) (atP l1 n (rd v 0)) true c := ⟨_, rfl⟩
   have HV2 := am (show MR w0 W2 (fun k => Q k \/ Y.heap.size <= k) cs2 c2 by rw [hc2]; exact hv2)
   have HM2 := am hm2
   have HC2 := am hc2
   obtain ⟨A1', n1', A2', n2', A3', n3', A8', n8', rfl, hh2⟩ := id HV2.out
   clear hh2
   have HB2 := am hb2
   have hlc : w.heap.size + 5 <= Y.heap.size := (by omega)
   have HK2 := am (DK.out.then_ hk2 (fun k hk => .inl hk))
   have hs2 := hk2.1
   clear hv2 hm2 hk2 hc2
   refine ⟨_, rfl, ?_⟩
   refine hK.out _ _ ?_
   clear hK K
   refine nM ?_
   refine la fun K hK => ?_
   have z_q := bq X3.out
   have g_q := bq X3.out
   refine ZT (w1 := ?_) (by rfl) rfl ?_ ?_
   rotate_left
   ·go_simp
    rfl
   refine hK.out _ _ ?_
   clear hK K
   refine dn ?_
   go_wp2
   exact yH (g := w.heap.size + 3) HV2.out (by rw [HC2.out, yF, if_pos H0_.out, if_pos HH1.out, decide_eq_true HH1.out]) (fun k h => (HM2.out k h).imp id (fun h => by omega)) X3.out rfl HB2.out HK2.out (by omega) (by omega) (fun h => by rcases h with h | h; exact absurd (HQ.out _ h) (by omega); omega) (fun k hk => by rcases hk with hk | hk; exact .inl hk; exact .inr (by omega)) rfl rfl rfl rfl
  ·rw [if_neg h1] at SF
   obtain ⟨hn0, hn1, hv0, ⟨kA, hA⟩, kP, hP⟩ := SF
   have hgt : ¬ (1 : Int) < (v.length : Int) := by omega
   have hgd : decide ((1 : Int) < (v.length : Int)) = false := dF (by omega)
   have HH1 := am h1
   have HAT := am hA
   have HPU := am hP
   clear h1 hA hP
   go_wp2
   refine sT 15 [0, 1, 2, 3, 4, 5, 6, 7, 8, 9, 10, 11, 12, 13, 14] [13, 14] fun hHeld => ?_
   generalize W1.drew = Y at D0 D1 D2 D3 D4 DV DB DK QL hlw hHeld ⊢
   have hq1_0 := bq D0.out
   have hq1_1 := bq D1.out
   have hq1_2 := bq D4.out
   have hq1_3 : World.cell? _ (adv.add (v.length - 1)) = some (.int .i64 (rd v ((v.length : Int) - 1))) := QL.out
   repeat first | refine nx ?_ | refine ldT hHeld ?_ | refine un ?_
   refine la fun K hK => ?_
   refine gC Tryz.func100 ?_
   refine (z5w.calls w0 Y Q _ c kA kP wd Av cv l1 Ab lb cb op n B3 a.length d3 B4 t.length d4 B5 e.length d5 false 0 (rd v ((v.length : Int) - 1)) _ DB.out DV.out (fun k hk => by have := HQ.out k hk; omega) HR1.out HC1.out hn0 hn1 hv0 HAT.out HPU.out htr).mono ?_
   rintro en W2 ⟨cs2, rfl, hv2, hm2, hb2, hk2⟩
   have X3 := am ((hk2.2 (w.heap.size + 3) (by omega) (fun h => absurd (HQ.out _ (MRQ.out _ h)) (by omega))).trans D3.out)
   obtain ⟨c2, hc2⟩ : ∃ c2 : MC, c2 = z0f l1 n 0 (rd v ((v.length : Int) - 1)) (atP l1 n 0) false c := ⟨_, rfl⟩
   have HV2 := am (show MR w0 W2 (fun k => Q k \/ Y.heap.size <= k) cs2 c2 by rw [hc2]; exact hv2)
   have HM2 := am hm2
   have HC2 := am hc2
   obtain ⟨A1', n1', A2', n2', A3', n3', A8', n8', rfl, hh2⟩ := id HV2.out
   clear hh2
   have HB2 := am hb2
   have hlc : w.heap.size + 5 <= Y.heap.size := (by omega)
   have HK2 := am (DK.out.then_ hk2 (fun k hk => .inl hk))
   have hs2 := hk2.1
   clear hv2 hm2 hk2 hc2
   refine ⟨_, rfl, ?_⟩
   refine hK.out _ _ ?_
   clear hK K
   refine nM ?_
   refine la fun K hK => ?_
   have z_q := bq X3.out
   have g_q := bq X3.out
   refine ZT (w1 := ?_) (by rfl) rfl ?_ ?_
   rotate_left
   ·go_simp
    rfl
   refine hK.out _ _ ?_
   clear hK K
   refine dn ?_
   go_wp2
   exact yH (g := w.heap.size + 3) HV2.out (by rw [HC2.out, yF, if_pos H0_.out, if_neg HH1.out, decide_eq_false HH1.out]) (fun k h => (HM2.out k h).imp id (fun h => by omega)) X3.out rfl HB2.out HK2.out (by omega) (by omega) (fun h => by rcases h with h | h; exact absurd (HQ.out _ h) (by omega); omega) (fun k hk => by rcases hk with hk | hk; exact .inl hk; exact .inr (by omega)) rfl rfl rfl rfl
 have e0 := (beq_eq_false_iff_ne (a := op)).mpr h0
 by_cases h1 : op = 1
 ·have e1 : (op == 1) = true := bT h1
  have H1_ := am h1
  clear h1
  obtain ⟨hvp, hgt, hge, ⟨kc, hkc⟩, hct0, hct1⟩ := HF1.out (by rw [H1_.out]; simp)
  have HGT := am hgt
  have HGE := am hge
  have HKC := am hkc
  clear hgt hge hkc
  obtain ⟨adv, e_, q0v⟩ := Yc (Kd.F_now (Kd.F_kept HVF.out HK1.out (fun _ hk => hk))) (0 : Int) (Int.le_refl _) (by omega)
  subst e_
  rw [show (0 : Int).toNat = 0 from rfl, Addr.add_zero'] at q0v
  have hvp0 : (0 : Int) < (v.length : Int) := by omega
  by_cases hz : rd v 0 = 0
  ·skip
   have hzn : (rd v 0 != 0) = false := bQ hz
   have HZ := am hz
   clear hz
   have D0 := am (kdr X0.out)
   have D1 := am (kdr X1.out)
   have D2 := am (kdr X2.out)
   have D3 := am (kdr X3.out)
   have D4 := am (kdr X4.out)
   have DV := am (HV1.out.below (zj (Below.refl _ _)))
   have DB := am (HB1.out.trans ((zj (Below.refl _ _)).mono HB1.out.size))
   have DK := am (HK1.out.below (zj (Below.refl _ _)))
   have hlw : w.heap.size + 5 <= W1.drew.heap.size := by have := HSZ.out; show w.heap.size + 5 <= W1.heap.size; omega
   have QD := am (show W1.drew.cell? adv = some (.int .i64 (rd v 0)) from q0v)
   go_wp2
   clear q0v
   refine sT 10 [0, 1, 2, 3, 4, 5, 6, 7, 8, 9] [8, 9] fun hHeld => ?_
   generalize W1.drew = Y at D0 D1 D2 D3 D4 DV DB DK QD hlw hHeld ⊢
   have hq2_0 := bq D1.out
   have hq2_1 := bq D2.out
   have hq2_2 : World.cell? _ adv = some (.int .i64 (rd v 0)) := QD.out
   repeat first | refine nx ?_ | refine ldT hHeld ?_ | refine un ?_
   refine on fun K hK => ?_
   refine gC Tryz.func80 ?_
   refine (ZF.calls false 0 Y rfl).mono ?_
   rintro en Y1 ⟨rfl, hd⟩
   have hb := hd.below
   have D0 := am (zd D0.out hb)
   have D1 := am (zd D1.out hb)
   have D2 := am (zd D2.out hb)
   have D3 := am (zd D3.out hb)
   have D4 := am (zd D4.out hb)
   have DV := am (DV.out.below hb)
   have DB := am (DB.out.trans (hb.mono DB.out.size))
   have DK := am (DK.out.below hb)
   have QD := am ((hb.cell (World.block_lt_of_cell? _ _ QD.out)).trans QD.out)
   replace hlw := Nat.le_trans hlw hb.size
   refine ⟨_, rfl, ?_⟩
   refine hK.out _ _ (kp hHeld) fun hHeld => ?_
   clear hK K
   refine nM ?_
   refine la fun K hK => ?_
   refine gC Tryz.func101 ?_
   refine (z1B.calls w0 Y1 Q _ c 0 m 0 DB.out DV.out (fun k hk => by have := HQ.out k hk; omega) htr).mono ?_
   rintro en W2 ⟨cs2, rfl, hv2, hm2, hb2, hk2⟩
   have nmt : ∀ k, w.heap.size <= k -> ¬ MT (Va c.ed A1 c.st n1 A2 c.ou n2 A3 c.tr n3 c.co c.us c.wh c.fu A8 c.td n8 c.ov) k := fun k h hm => by have := HQ.out _ (MRQ.out _ hm); omega
   have E0 := am ((hk2.2 (w.heap.size) (by omega) (nmt _ (by omega))).trans D0.out)
   have E1 := am ((hk2.2 (w.heap.size + 1) (by omega) (nmt _ (by omega))).trans D1.out)
   have E2 := am ((hk2.2 (w.heap.size + 2) (by omega) (nmt _ (by omega))).trans D2.out)
   have E3 := am ((hk2.2 (w.heap.size + 3) (by omega) (nmt _ (by omega))).trans D3.out)
   have E4 := am ((hk2.2 (w.heap.size + 4) (by omega) (nmt _ (by omega))).trans D4.out)
   obtain ⟨c2, hc2⟩ : ∃ c2 : MC, c2 = mEv 0 m 0 c := ⟨_, rfl⟩
   have HV2 := am (show MR w0 W2 (fun k => Q k \/ w.heap.size + 5 <= k) cs2 c2 by rw [hc2]; exact hv2.mono (fun k hk _ => by rcases hk with hk | hk; exact .inl hk; exact .inr (by omega)))
   have HM2 := am (show ∀ k, MT cs2 k -> MT (Va c.ed A1 c.st n1 A2 c.ou n2 A3 c.tr n3 c.co c.us c.wh c.fu A8 c.td n8 c.ov) k \/ w.heap.size <= k from fun k h => (hm2 k h).imp id (fun h => by omega))
   have HB2 := am hb2
   have HK2 := am (DK.out.then_ hk2 (fun k hk => .inl hk))
   have HC2 := am hc2
   replace hlw := Nat.le_trans hlw hk2.1
   obtain ⟨A1', n1', A2', n2', A3', n3', A8', n8', rfl, hh2⟩ := id HV2.out
   clear hh2 hv2 hm2 hk2 hc2 nmt D0 D1 D2 D3 D4 DV DB DK QD
   refine ⟨_, rfl, ?_⟩
   refine hK.out _ _ ?_
   clear hK K
   refine nM ?_
   refine la fun K hK => ?_
   obtain ⟨y0, y1, y2, y3, y4, y5, y6, y7, y8, y9⟩ := yd E1.out
   have g_q := bq E1.out
   refine ZT (w1 := ?_) (by rfl) rfl ?_ ?_
   rotate_left
   ·go_simp
    rfl
   refine hK.out _ _ ?_
   clear hK K
   refine dn ?_
   have F1 := am (Zi (vs := (Vb c2.ed A1' c2.st n1' A2' c2.ou n2' A3' c2.tr n3' c2.co c2.us c2.wh c2.fu A8' c2.td n8' c2.ov)) E1.out rfl)
   have F2 := am ((Zl (vs := (Vb c2.ed A1' c2.st n1' A2' c2.ou n2' A3' c2.tr n3' c2.co c2.us c2.wh c2.fu A8' c2.td n8' c2.ov)) (g := w.heap.size + 1) (w := W2) (k := w.heap.size + 2) (by omega)).trans E2.out)
   have F3 := am ((Zl (vs := (Vb c2.ed A1' c2.st n1' A2' c2.ou n2' A3' c2.tr n3' c2.co c2.us c2.wh c2.fu A8' c2.td n8' c2.ov)) (g := w.heap.size + 1) (w := W2) (k := w.heap.size + 3) (by omega)).trans E3.out)
   have GV := am (HV2.out.fill (g := w.heap.size + 1) (fun h => by rcases h with h | h; exact absurd (HQ.out _ h) (by omega); omega) (Vb c2.ed A1' c2.st n1' A2' c2.ou n2' A3' c2.tr n3' c2.co c2.us c2.wh c2.fu A8' c2.td n8' c2.ov))
   have GB := am (Zj (vs := (Vb c2.ed A1' c2.st n1' A2' c2.ou n2' A3' c2.tr n3' c2.co c2.us c2.wh c2.fu A8' c2.td n8' c2.ov)) (g := w.heap.size + 1) HB2.out (by omega))
   have GK := am (yi (vs := (Vb c2.ed A1' c2.st n1' A2' c2.ou n2' A3' c2.tr n3' c2.co c2.us c2.wh c2.fu A8' c2.td n8' c2.ov)) (g := w.heap.size + 1) HK2.out (.inr (Nat.le_succ _)))
   have hl5 : w.heap.size + 5 <= (W2.setCells (w.heap.size + 1) 0 (Vb c2.ed A1' c2.st n1' A2' c2.ou n2' A3' c2.tr n3' c2.co c2.us c2.wh c2.fu A8' c2.td n8' c2.ov)).heap.size := by rw [YI]; exact hlw
   clear y0 g_q y1 y2 y3 y4 y5 y6 y7 y8 y9 E0 E1 E2 E3 E4 HV2 HB2 HK2 hlw
   change Exit.then _ _ _ _ (W2.setCells (w.heap.size + 1) 0 (Vb c2.ed A1' c2.st n1' A2' c2.ou n2' A3' c2.tr n3' c2.co c2.us c2.wh c2.fu A8' c2.td n8' c2.ov))
   generalize W2.setCells (w.heap.size + 1) 0 (Vb c2.ed A1' c2.st n1' A2' c2.ou n2' A3' c2.tr n3' c2.co c2.us c2.wh c2.fu A8' c2.td n8' c2.ov) = W5 at F1 F2 F3 GV GB GK hl5 ⊢
   obtain ⟨i0, i1, i2, i3, i4, i5⟩ := z6R F2.out
   obtain ⟨xsa, hxs⟩ : ∃ xs, Zs cn (m + 1 + cn t) e ++ next = xs := ⟨_, rfl⟩
   have HXSa := am hxs
   clear hxs
   go_upto_region 11 with (first | (go_at_call 102; refine (z79.calls cn w0 W5 m op n B3 d3 a B4 d4 t B5 d5 e GB.out H4.out L4.out kc HKC.out hct0 hct1 H5.out L5.out hm0 hm1 HGE.out).mono ?_; rintro en W6a ⟨D, d, rfl, ho, hb⟩; have HO6 := am ho; have HB6 := am hb; clear ho hb) | ((with_reducible refine Zn (b := .append) (xs := #[.tmp 54, .tmp 55]) rfl ?_); at_builtin; refine Kd.R_append_rows (YN yU w0) (w0 := W5) W5.heap.size rfl (.tmp 54) (.tmp 55) 96 128 (.agg Vq) 96 rfl huL z09 rfl (show 0 < 6 by decide) (by omega) _ (Zs cn (m + 1 + cn t) e) next An next.length nn (fun _ => True) (fun _ => False) rfl rfl HO6.out (Kd.F_now (Kd.F_kept HNF.out (GK.out.below HB6.out) (fun _ hk => hk))) (fun _ _ h => h) (fun _ h => h.elim) (fun _ _ => trivial) HB6.out HB6.out.size (by rw [yh]; have := HGE.out.1; omega) ?_; intro v1 W7a ho hb hg hat; rw [HXSa.out] at ho; obtain ⟨D7a, d7a, ev⟩ := Kd.R_slice ho; subst ev; have HO7 := am ho; have HB7 := am hb; have F17 := am (zd F1.out hb); clear ho hb hg hat i0 i1 i2 i3 i4 i5; have y8 := zf F17.out 8; have y9 : W7a.cell? ⟨w.heap.size + 1, 8, none⟩ = some (.slice A8' c2.td.length n8') := (za F17.out 8).trans rfl))
   clear y8 y9
   have nqx : ¬ (Q (w.heap.size + 1) \/ w.heap.size + 5 <= w.heap.size + 1) := (fun h => by rcases h with h | h; exact absurd (HQ.out _ h) (by omega); omega)
   have gv := ((GV.out.newtd HB7.out HO7.out).mono (Q' := (fun k => Q k \/ w.heap.size + 5 <= k)) (fun k hk _ => by rcases hk with hk | hk; exact hk; exact .inr (by omega))).set (p := ⟨w.heap.size + 1, 8, none⟩) nqx (.slice D7a xsa.length d7a)
   have gb := (GB.out.trans (HB7.out.mono GB.out.size)).setCell (p := ⟨w.heap.size + 1, 8, none⟩) (by show w0.heap.size <= w.heap.size + 1; omega) (.slice D7a xsa.length d7a)
   have gk := (GK.out.below HB7.out).setCell (p := ⟨w.heap.size + 1, 8, none⟩) (.inr (Nat.le_succ _)) (.slice D7a xsa.length d7a)
   have f1 := zI F17.out 8 (.slice D7a xsa.length d7a) (cs' := (Va c2.ed A1' c2.st n1' A2' c2.ou n2' A3' c2.tr n3' c2.co c2.us c2.wh c2.fu D7a xsa d7a c2.ov)) rfl
   have f2 := ((Below.heap_setCell W7a ⟨w.heap.size + 1, 8, none⟩ (.slice D7a xsa.length d7a) (w.heap.size + 2) (by show w.heap.size + 2 ≠ w.heap.size + 1; omega)).trans (zd F2.out HB7.out))
   have f3 := ((Below.heap_setCell W7a ⟨w.heap.size + 1, 8, none⟩ (.slice D7a xsa.length d7a) (w.heap.size + 3) (by show w.heap.size + 3 ≠ w.heap.size + 1; omega)).trans (zd F3.out HB7.out))
   have hl8 : w.heap.size + 5 <= (W7a.setCell ⟨w.heap.size + 1, 8, none⟩ (.slice D7a xsa.length d7a)).heap.size := by have := HB7.out.size; simp; omega
   generalize W7a.setCell ⟨w.heap.size + 1, 8, none⟩ (.slice D7a xsa.length d7a) = W8a at gv gb gk f1 f2 f3 hl8 ⊢
   have GV := am gv
   have GB := am gb
   have GK := am gk
   have F1 := am f1
   have F2 := am f2
   have F3 := am f3
   clear gv gb gk f1 f2 f3 HO7 HB7 F17
   obtain ⟨adv', e_, q0v⟩ := Yc (Kd.F_now (Kd.F_kept HVF.out GK.out (fun _ hk => hk))) (0 : Int) (Int.le_refl _) (by omega)
   injection e_ with e_
   subst e_
   rw [show (0 : Int).toNat = 0 from rfl, Addr.add_zero'] at q0v
   obtain ⟨c0, c1, c2, c3, c4, c5, c6, c7, c8, c9⟩ := yd F1.out
   have z_q := bq F3.out
   have g_q := bq F3.out
   go_wp2
   exact yH (g := w.heap.size + 3) GV.out (by rw [HC2.out, <- HXSa.out, yF, if_neg (by rw [H1_.out]; decide), if_pos H1_.out, if_pos HZ.out, if_pos HZ.out]) HM2.out F3.out rfl GB.out GK.out (by omega) (by omega) (fun h => by rcases h with h | h; exact absurd (HQ.out _ h) (by omega); omega) (fun k hk => by rcases hk with hk | hk; exact .inl hk; exact .inr (by omega)) rfl rfl rfl rfl
  ·skip
   have hzn : (rd v 0 != 0) = true := bN hz
   have HZ := am hz
   clear hz
   have D0 := am (kdr X0.out)
   have D1 := am (kdr X1.out)
   have D2 := am (kdr X2.out)
   have D3 := am (kdr X3.out)
   have D4 := am (kdr X4.out)
   have DV := am (HV1.out.below (zj (Below.refl _ _)))
   have DB := am (HB1.out.trans ((zj (Below.refl _ _)).mono HB1.out.size))
   have DK := am (HK1.out.below (zj (Below.refl _ _)))
   have hlw : w.heap.size + 5 <= W1.drew.heap.size := by have := HSZ.out; show w.heap.size + 5 <= W1.heap.size; omega
   have QD := am (show W1.drew.cell? adv = some (.int .i64 (rd v 0)) from q0v)
   go_wp2
   clear q0v
   refine sT 10 [0, 1, 2, 3, 4, 5, 6, 7, 8, 9] [8, 9] fun hHeld => ?_
   generalize W1.drew = Y at D0 D1 D2 D3 D4 DV DB DK QD hlw hHeld ⊢
   have hq3_0 := bq D1.out
   have hq3_1 := bq D2.out
   have hq3_2 : World.cell? _ adv = some (.int .i64 (rd v 0)) := QD.out
   repeat first | refine nx ?_ | refine ldT hHeld ?_ | refine un ?_
   refine on fun K hK => ?_
   refine gC Tryz.func80 ?_
   refine (ZF.calls true 1 Y rfl).mono ?_
   rintro en Y1 ⟨rfl, hd⟩
   have hb := hd.below
   have D0 := am (zd D0.out hb)
   have D1 := am (zd D1.out hb)
   have D2 := am (zd D2.out hb)
   have D3 := am (zd D3.out hb)
   have D4 := am (zd D4.out hb)
   have DV := am (DV.out.below hb)
   have DB := am (DB.out.trans (hb.mono DB.out.size))
   have DK := am (DK.out.below hb)
   have QD := am ((hb.cell (World.block_lt_of_cell? _ _ QD.out)).trans QD.out)
   replace hlw := Nat.le_trans hlw hb.size
   refine ⟨_, rfl, ?_⟩
   refine hK.out _ _ (kp hHeld) fun hHeld => ?_
   clear hK K
   refine nM ?_
   refine la fun K hK => ?_
   refine gC Tryz.func101 ?_
   refine (z1B.calls w0 Y1 Q _ c 0 m 1 DB.out DV.out (fun k hk => by have := HQ.out k hk; omega) htr).mono ?_
   rintro en W2 ⟨cs2, rfl, hv2, hm2, hb2, hk2⟩
   have nmt : ∀ k, w.heap.size <= k -> ¬ MT (Va c.ed A1 c.st n1 A2 c.ou n2 A3 c.tr n3 c.co c.us c.wh c.fu A8 c.td n8 c.ov) k := fun k h hm => by have := HQ.out _ (MRQ.out _ hm); omega
   have E0 := am ((hk2.2 (w.heap.size) (by omega) (nmt _ (by omega))).trans D0.out)
   have E1 := am ((hk2.2 (w.heap.size + 1) (by omega) (nmt _ (by omega))).trans D1.out)
   have E2 := am ((hk2.2 (w.heap.size + 2) (by omega) (nmt _ (by omega))).trans D2.out)
   have E3 := am ((hk2.2 (w.heap.size + 3) (by omega) (nmt _ (by omega))).trans D3.out)
   have E4 := am ((hk2.2 (w.heap.size + 4) (by omega) (nmt _ (by omega))).trans D4.out)
   obtain ⟨c2, hc2⟩ : ∃ c2 : MC, c2 = mEv 0 m 1 c := ⟨_, rfl⟩
   have HV2 := am (show MR w0 W2 (fun k => Q k \/ w.heap.size + 5 <= k) cs2 c2 by rw [hc2]; exact hv2.mono (fun k hk _ => by rcases hk with hk | hk; exact .inl hk; exact .inr (by omega)))
   have HM2 := am (show ∀ k, MT cs2 k -> MT (Va c.ed A1 c.st n1 A2 c.ou n2 A3 c.tr n3 c.co c.us c.wh c.fu A8 c.td n8 c.ov) k \/ w.heap.size <= k from fun k h => (hm2 k h).imp id (fun h => by omega))
   have HB2 := am hb2
   have HK2 := am (DK.out.then_ hk2 (fun k hk => .inl hk))
   have HC2 := am hc2
   replace hlw := Nat.le_trans hlw hk2.1
   obtain ⟨A1', n1', A2', n2', A3', n3', A8', n8', rfl, hh2⟩ := id HV2.out
   clear hh2 hv2 hm2 hk2 hc2 nmt D0 D1 D2 D3 D4 DV DB DK QD
   refine ⟨_, rfl, ?_⟩
   refine hK.out _ _ ?_
   clear hK K
   refine nM ?_
   refine la fun K hK => ?_
   obtain ⟨y0, y1, y2, y3, y4, y5, y6, y7, y8, y9⟩ := yd E1.out
   have g_q := bq E1.out
   refine ZT (w1 := ?_) (by rfl) rfl ?_ ?_
   rotate_left
   ·go_simp
    rfl
   refine hK.out _ _ ?_
   clear hK K
   refine dn ?_
   have F1 := am (Zi (vs := (Vb c2.ed A1' c2.st n1' A2' c2.ou n2' A3' c2.tr n3' c2.co c2.us c2.wh c2.fu A8' c2.td n8' c2.ov)) E1.out rfl)
   have F2 := am ((Zl (vs := (Vb c2.ed A1' c2.st n1' A2' c2.ou n2' A3' c2.tr n3' c2.co c2.us c2.wh c2.fu A8' c2.td n8' c2.ov)) (g := w.heap.size + 1) (w := W2) (k := w.heap.size + 2) (by omega)).trans E2.out)
   have F3 := am ((Zl (vs := (Vb c2.ed A1' c2.st n1' A2' c2.ou n2' A3' c2.tr n3' c2.co c2.us c2.wh c2.fu A8' c2.td n8' c2.ov)) (g := w.heap.size + 1) (w := W2) (k := w.heap.size + 3) (by omega)).trans E3.out)
   have GV := am (HV2.out.fill (g := w.heap.size + 1) (fun h => by rcases h with h | h; exact absurd (HQ.out _ h) (by omega); omega) (Vb c2.ed A1' c2.st n1' A2' c2.ou n2' A3' c2.tr n3' c2.co c2.us c2.wh c2.fu A8' c2.td n8' c2.ov))
   have GB := am (Zj (vs := (Vb c2.ed A1' c2.st n1' A2' c2.ou n2' A3' c2.tr n3' c2.co c2.us c2.wh c2.fu A8' c2.td n8' c2.ov)) (g := w.heap.size + 1) HB2.out (by omega))
   have GK := am (yi (vs := (Vb c2.ed A1' c2.st n1' A2' c2.ou n2' A3' c2.tr n3' c2.co c2.us c2.wh c2.fu A8' c2.td n8' c2.ov)) (g := w.heap.size + 1) HK2.out (.inr (Nat.le_succ _)))
   have hl5 : w.heap.size + 5 <= (W2.setCells (w.heap.size + 1) 0 (Vb c2.ed A1' c2.st n1' A2' c2.ou n2' A3' c2.tr n3' c2.co c2.us c2.wh c2.fu A8' c2.td n8' c2.ov)).heap.size := by rw [YI]; exact hlw
   clear y0 g_q y1 y2 y3 y4 y5 y6 y7 y8 y9 E0 E1 E2 E3 E4 HV2 HB2 HK2 hlw
   change Exit.then _ _ _ _ (W2.setCells (w.heap.size + 1) 0 (Vb c2.ed A1' c2.st n1' A2' c2.ou n2' A3' c2.tr n3' c2.co c2.us c2.wh c2.fu A8' c2.td n8' c2.ov))
   generalize W2.setCells (w.heap.size + 1) 0 (Vb c2.ed A1' c2.st n1' A2' c2.ou n2' A3' c2.tr n3' c2.co c2.us c2.wh c2.fu A8' c2.td n8' c2.ov) = W5 at F1 F2 F3 GV GB GK hl5 ⊢
   obtain ⟨i0, i1, i2, i3, i4, i5⟩ := z6R F2.out
   obtain ⟨xsa, hxs⟩ : ∃ xs, Zs cn (m + 1 + cn t) e ++ next = xs := ⟨_, rfl⟩
   have HXSa := am hxs
   clear hxs
   go_upto_region 11 with (first | (go_at_call 102; refine (z79.calls cn w0 W5 m op n B3 d3 a B4 d4 t B5 d5 e GB.out H4.out L4.out kc HKC.out hct0 hct1 H5.out L5.out hm0 hm1 HGE.out).mono ?_; rintro en W6a ⟨D, d, rfl, ho, hb⟩; have HO6 := am ho; have HB6 := am hb; clear ho hb) | ((with_reducible refine Zn (b := .append) (xs := #[.tmp 54, .tmp 55]) rfl ?_); at_builtin; refine Kd.R_append_rows (YN yU w0) (w0 := W5) W5.heap.size rfl (.tmp 54) (.tmp 55) 96 128 (.agg Vq) 96 rfl huL z09 rfl (show 0 < 6 by decide) (by omega) _ (Zs cn (m + 1 + cn t) e) next An next.length nn (fun _ => True) (fun _ => False) rfl rfl HO6.out (Kd.F_now (Kd.F_kept HNF.out (GK.out.below HB6.out) (fun _ hk => hk))) (fun _ _ h => h) (fun _ h => h.elim) (fun _ _ => trivial) HB6.out HB6.out.size (by rw [yh]; have := HGE.out.1; omega) ?_; intro v1 W7a ho hb hg hat; rw [HXSa.out] at ho; obtain ⟨D7a, d7a, ev⟩ := Kd.R_slice ho; subst ev; have HO7 := am ho; have HB7 := am hb; have F17 := am (zd F1.out hb); clear ho hb hg hat i0 i1 i2 i3 i4 i5; have y8 := zf F17.out 8; have y9 : W7a.cell? ⟨w.heap.size + 1, 8, none⟩ = some (.slice A8' c2.td.length n8') := (za F17.out 8).trans rfl))
   clear y8 y9
   have nqx : ¬ (Q (w.heap.size + 1) \/ w.heap.size + 5 <= w.heap.size + 1) := (fun h => by rcases h with h | h; exact absurd (HQ.out _ h) (by omega); omega)
   have gv := ((GV.out.newtd HB7.out HO7.out).mono (Q' := (fun k => Q k \/ w.heap.size + 5 <= k)) (fun k hk _ => by rcases hk with hk | hk; exact hk; exact .inr (by omega))).set (p := ⟨w.heap.size + 1, 8, none⟩) nqx (.slice D7a xsa.length d7a)
   have gb := (GB.out.trans (HB7.out.mono GB.out.size)).setCell (p := ⟨w.heap.size + 1, 8, none⟩) (by show w0.heap.size <= w.heap.size + 1; omega) (.slice D7a xsa.length d7a)
   have gk := (GK.out.below HB7.out).setCell (p := ⟨w.heap.size + 1, 8, none⟩) (.inr (Nat.le_succ _)) (.slice D7a xsa.length d7a)
   have f1 := zI F17.out 8 (.slice D7a xsa.length d7a) (cs' := (Va c2.ed A1' c2.st n1' A2' c2.ou n2' A3' c2.tr n3' c2.co c2.us c2.wh c2.fu D7a xsa d7a c2.ov)) rfl
   have f2 := ((Below.heap_setCell W7a ⟨w.heap.size + 1, 8, none⟩ (.slice D7a xsa.length d7a) (w.heap.size + 2) (by show w.heap.size + 2 ≠ w.heap.size + 1; omega)).trans (zd F2.out HB7.out))
   have f3 := ((Below.heap_setCell W7a ⟨w.heap.size + 1, 8, none⟩ (.slice D7a xsa.length d7a) (w.heap.size + 3) (by show w.heap.size + 3 ≠ w.heap.size + 1; omega)).trans (zd F3.out HB7.out))
   have hl8 : w.heap.size + 5 <= (W7a.setCell ⟨w.heap.size + 1, 8, none⟩ (.slice D7a xsa.length d7a)).heap.size := by have := HB7.out.size; simp; omega
   generalize W7a.setCell ⟨w.heap.size + 1, 8, none⟩ (.slice D7a xsa.length d7a) = W8a at gv gb gk f1 f2 f3 hl8 ⊢
   have GV := am gv
   have GB := am gb
   have GK := am gk
   have F1 := am f1
   have F2 := am f2
   have F3 := am f3
   clear gv gb gk f1 f2 f3 HO7 HB7 F17
   obtain ⟨adv', e_, q0v⟩ := Yc (Kd.F_now (Kd.F_kept HVF.out GK.out (fun _ hk => hk))) (0 : Int) (Int.le_refl _) (by omega)
   injection e_ with e_
   subst e_
   rw [show (0 : Int).toNat = 0 from rfl, Addr.add_zero'] at q0v
   go_upto_region 12 with (fail)
   clear q0v
   obtain ⟨i0, i1, i2, i3, i4, i5⟩ := z6R F2.out
   obtain ⟨xsb, hxs⟩ : ∃ xs, Zs cn (m + 1) t ++ next = xs := ⟨_, rfl⟩
   have HXSb := am hxs
   clear hxs
   go_upto_region 33 with (first | (go_at_call 103; refine (z4Z.calls cn w0 W8a m op n B3 d3 a B4 d4 t B5 d5 e GB.out H4.out L4.out hm0 hm1 HGT.out).mono ?_; rintro en W6b ⟨D, d, rfl, ho, hb⟩; have HO6 := am ho; have HB6 := am hb; clear ho hb) | ((with_reducible refine Zn (b := .append) (xs := #[.tmp 63, .tmp 64]) rfl ?_); at_builtin; refine Kd.R_append_rows (YN yU w0) (w0 := W8a) W8a.heap.size rfl (.tmp 63) (.tmp 64) 96 128 (.agg Vq) 96 rfl huL z09 rfl (show 0 < 6 by decide) (by omega) _ (Zs cn (m + 1) t) next An next.length nn (fun _ => True) (fun _ => False) rfl rfl HO6.out (Kd.F_now (Kd.F_kept HNF.out (GK.out.below HB6.out) (fun _ hk => hk))) (fun _ _ h => h) (fun _ h => h.elim) (fun _ _ => trivial) HB6.out HB6.out.size (by rw [yh]; have := HGT.out.1; omega) ?_; intro v1 W7b ho hb hg hat; rw [HXSb.out] at ho; obtain ⟨D7b, d7b, ev⟩ := Kd.R_slice ho; subst ev; have HO7 := am ho; have HB7 := am hb; have F17 := am (zd F1.out hb); clear ho hb hg hat i0 i1 i2 i3 i4 i5; have y8 := zf F17.out 8; have y9 : W7b.cell? ⟨w.heap.size + 1, 8, none⟩ = some (.slice D7a xsa.length d7a) := (za F17.out 8).trans rfl))
   clear y8 y9
   have nqx : ¬ (Q (w.heap.size + 1) \/ w.heap.size + 5 <= w.heap.size + 1) := (fun h => by rcases h with h | h; exact absurd (HQ.out _ h) (by omega); omega)
   have gv := ((GV.out.newtd HB7.out HO7.out).mono (Q' := (fun k => Q k \/ w.heap.size + 5 <= k)) (fun k hk _ => by rcases hk with hk | hk; exact hk; exact .inr (by omega))).set (p := ⟨w.heap.size + 1, 8, none⟩) nqx (.slice D7b xsb.length d7b)
   have gb := (GB.out.trans (HB7.out.mono GB.out.size)).setCell (p := ⟨w.heap.size + 1, 8, none⟩) (by show w0.heap.size <= w.heap.size + 1; omega) (.slice D7b xsb.length d7b)
   have gk := (GK.out.below HB7.out).setCell (p := ⟨w.heap.size + 1, 8, none⟩) (.inr (Nat.le_succ _)) (.slice D7b xsb.length d7b)
   have f1 := zI F17.out 8 (.slice D7b xsb.length d7b) (cs' := (Va c2.ed A1' c2.st n1' A2' c2.ou n2' A3' c2.tr n3' c2.co c2.us c2.wh c2.fu D7b xsb d7b c2.ov)) rfl
   have f2 := ((Below.heap_setCell W7b ⟨w.heap.size + 1, 8, none⟩ (.slice D7b xsb.length d7b) (w.heap.size + 2) (by show w.heap.size + 2 ≠ w.heap.size + 1; omega)).trans (zd F2.out HB7.out))
   have f3 := ((Below.heap_setCell W7b ⟨w.heap.size + 1, 8, none⟩ (.slice D7b xsb.length d7b) (w.heap.size + 3) (by show w.heap.size + 3 ≠ w.heap.size + 1; omega)).trans (zd F3.out HB7.out))
   have hl8 : w.heap.size + 5 <= (W7b.setCell ⟨w.heap.size + 1, 8, none⟩ (.slice D7b xsb.length d7b)).heap.size := by have := HB7.out.size; simp; omega
   generalize W7b.setCell ⟨w.heap.size + 1, 8, none⟩ (.slice D7b xsb.length d7b) = W8b at gv gb gk f1 f2 f3 hl8 ⊢
   have GV := am gv
   have GB := am gb
   have GK := am gk
   have F1 := am f1
   have F2 := am f2
   have F3 := am f3
   clear gv gb gk f1 f2 f3 HO7 HB7 F17
   obtain ⟨c0, c1, c2, c3, c4, c5, c6, c7, c8, c9⟩ := yd F1.out
   have z_q := bq F3.out
   have g_q := bq F3.out
   go_wp2
   exact yH (g := w.heap.size + 3) GV.out (by rw [HC2.out, <- HXSb.out, yF, if_neg (by rw [H1_.out]; decide), if_pos H1_.out, if_neg HZ.out, if_neg HZ.out]) HM2.out F3.out rfl GB.out GK.out (by omega) (by omega) (fun h => by rcases h with h | h; exact absurd (HQ.out _ h) (by omega); omega) (fun k hk => by rcases hk with hk | hk; exact .inl hk; exact .inr (by omega)) rfl rfl rfl rfl
 have e1 := (beq_eq_false_iff_ne (a := op)).mpr h1
 by_cases h2 : op = 2
 ·have e2 : (op == 2) = true := bT h2
  have H2_ := am h2
  clear h2
  obtain ⟨hvp, hgt, hge, ⟨kc, hkc⟩, hct0, hct1⟩ := HF1.out (by rw [H2_.out]; simp)
  have HGT := am hgt
  have HGE := am hge
  have HKC := am hkc
  clear hgt hge hkc
  obtain ⟨adv, e_, q0v⟩ := Yc (Kd.F_now (Kd.F_kept HVF.out HK1.out (fun _ hk => hk))) (0 : Int) (Int.le_refl _) (by omega)
  subst e_
  rw [show (0 : Int).toNat = 0 from rfl, Addr.add_zero'] at q0v
  have hvp0 : (0 : Int) < (v.length : Int) := by omega
  by_cases hz : rd v 0 = 0
  ·skip
   have hzn : (rd v 0 != 0) = false := bQ hz
   have HZ := am hz
   clear hz
   have D0 := am (kdr X0.out)
   have D1 := am (kdr X1.out)
   have D2 := am (kdr X2.out)
   have D3 := am (kdr X3.out)
   have D4 := am (kdr X4.out)
   have DV := am (HV1.out.below (zj (Below.refl _ _)))
   have DB := am (HB1.out.trans ((zj (Below.refl _ _)).mono HB1.out.size))
   have DK := am (HK1.out.below (zj (Below.refl _ _)))
   have hlw : w.heap.size + 5 <= W1.drew.heap.size := by have := HSZ.out; show w.heap.size + 5 <= W1.heap.size; omega
   have QD := am (show W1.drew.cell? adv = some (.int .i64 (rd v 0)) from q0v)
   go_wp2
   clear q0v
   refine sT 10 [0, 1, 2, 3, 4, 5, 6, 7, 8, 9] [8, 9] fun hHeld => ?_
   generalize W1.drew = Y at D0 D1 D2 D3 D4 DV DB DK QD hlw hHeld ⊢
   have hq4_0 := bq D1.out
   have hq4_1 := bq D2.out
   have hq4_2 : World.cell? _ adv = some (.int .i64 (rd v 0)) := QD.out
   repeat first | refine nx ?_ | refine ldT hHeld ?_ | refine un ?_
   refine on fun K hK => ?_
   refine gC Tryz.func80 ?_
   refine (ZF.calls false 0 Y rfl).mono ?_
   rintro en Y1 ⟨rfl, hd⟩
   have hb := hd.below
   have D0 := am (zd D0.out hb)
   have D1 := am (zd D1.out hb)
   have D2 := am (zd D2.out hb)
   have D3 := am (zd D3.out hb)
   have D4 := am (zd D4.out hb)
   have DV := am (DV.out.below hb)
   have DB := am (DB.out.trans (hb.mono DB.out.size))
   have DK := am (DK.out.below hb)
   have QD := am ((hb.cell (World.block_lt_of_cell? _ _ QD.out)).trans QD.out)
   replace hlw := Nat.le_trans hlw hb.size
   refine ⟨_, rfl, ?_⟩
   refine hK.out _ _ (kp hHeld) fun hHeld => ?_
   clear hK K
   refine nM ?_
   refine la fun K hK => ?_
   refine gC Tryz.func101 ?_
   refine (z1B.calls w0 Y1 Q _ c 0 m 0 DB.out DV.out (fun k hk => by have := HQ.out k hk; omega) htr).mono ?_
   rintro en W2 ⟨cs2, rfl, hv2, hm2, hb2, hk2⟩
   have nmt : ∀ k, w.heap.size <= k -> ¬ MT (Va c.ed A1 c.st n1 A2 c.ou n2 A3 c.tr n3 c.co c.us c.wh c.fu A8 c.td n8 c.ov) k := fun k h hm => by have := HQ.out _ (MRQ.out _ hm); omega
   have E0 := am ((hk2.2 (w.heap.size) (by omega) (nmt _ (by omega))).trans D0.out)
   have E1 := am ((hk2.2 (w.heap.size + 1) (by omega) (nmt _ (by omega))).trans D1.out)
   have E2 := am ((hk2.2 (w.heap.size + 2) (by omega) (nmt _ (by omega))).trans D2.out)
   have E3 := am ((hk2.2 (w.heap.size + 3) (by omega) (nmt _ (by omega))).trans D3.out)
   have E4 := am ((hk2.2 (w.heap.size + 4) (by omega) (nmt _ (by omega))).trans D4.out)
   obtain ⟨c2, hc2⟩ : ∃ c2 : MC, c2 = mEv 0 m 0 c := ⟨_, rfl⟩
   have HV2 := am (show MR w0 W2 (fun k => Q k \/ w.heap.size + 5 <= k) cs2 c2 by rw [hc2]; exact hv2.mono (fun k hk _ => by rcases hk with hk | hk; exact .inl hk; exact .inr (by omega)))
   have HM2 := am (show ∀ k, MT cs2 k -> MT (Va c.ed A1 c.st n1 A2 c.ou n2 A3 c.tr n3 c.co c.us c.wh c.fu A8 c.td n8 c.ov) k \/ w.heap.size <= k from fun k h => (hm2 k h).imp id (fun h => by omega))
   have HB2 := am hb2
   have HK2 := am (DK.out.then_ hk2 (fun k hk => .inl hk))
   have HC2 := am hc2
   replace hlw := Nat.le_trans hlw hk2.1
   obtain ⟨A1', n1', A2', n2', A3', n3', A8', n8', rfl, hh2⟩ := id HV2.out
   clear hh2 hv2 hm2 hk2 hc2 nmt D0 D1 D2 D3 D4 DV DB DK QD
   refine ⟨_, rfl, ?_⟩
   refine hK.out _ _ ?_
   clear hK K
   refine nM ?_
   refine la fun K hK => ?_
   obtain ⟨y0, y1, y2, y3, y4, y5, y6, y7, y8, y9⟩ := yd E1.out
   have g_q := bq E1.out
   refine ZT (w1 := ?_) (by rfl) rfl ?_ ?_
   rotate_left
   ·go_simp
    rfl
   refine hK.out _ _ ?_
   clear hK K
   refine dn ?_
   have F1 := am (Zi (vs := (Vb c2.ed A1' c2.st n1' A2' c2.ou n2' A3' c2.tr n3' c2.co c2.us c2.wh c2.fu A8' c2.td n8' c2.ov)) E1.out rfl)
   have F2 := am ((Zl (vs := (Vb c2.ed A1' c2.st n1' A2' c2.ou n2' A3' c2.tr n3' c2.co c2.us c2.wh c2.fu A8' c2.td n8' c2.ov)) (g := w.heap.size + 1) (w := W2) (k := w.heap.size + 2) (by omega)).trans E2.out)
   have F3 := am ((Zl (vs := (Vb c2.ed A1' c2.st n1' A2' c2.ou n2' A3' c2.tr n3' c2.co c2.us c2.wh c2.fu A8' c2.td n8' c2.ov)) (g := w.heap.size + 1) (w := W2) (k := w.heap.size + 3) (by omega)).trans E3.out)
   have GV := am (HV2.out.fill (g := w.heap.size + 1) (fun h => by rcases h with h | h; exact absurd (HQ.out _ h) (by omega); omega) (Vb c2.ed A1' c2.st n1' A2' c2.ou n2' A3' c2.tr n3' c2.co c2.us c2.wh c2.fu A8' c2.td n8' c2.ov))
   have GB := am (Zj (vs := (Vb c2.ed A1' c2.st n1' A2' c2.ou n2' A3' c2.tr n3' c2.co c2.us c2.wh c2.fu A8' c2.td n8' c2.ov)) (g := w.heap.size + 1) HB2.out (by omega))
   have GK := am (yi (vs := (Vb c2.ed A1' c2.st n1' A2' c2.ou n2' A3' c2.tr n3' c2.co c2.us c2.wh c2.fu A8' c2.td n8' c2.ov)) (g := w.heap.size + 1) HK2.out (.inr (Nat.le_succ _)))
   have hl5 : w.heap.size + 5 <= (W2.setCells (w.heap.size + 1) 0 (Vb c2.ed A1' c2.st n1' A2' c2.ou n2' A3' c2.tr n3' c2.co c2.us c2.wh c2.fu A8' c2.td n8' c2.ov)).heap.size := by rw [YI]; exact hlw
   clear y0 g_q y1 y2 y3 y4 y5 y6 y7 y8 y9 E0 E1 E2 E3 E4 HV2 HB2 HK2 hlw
   change Exit.then _ _ _ _ (W2.setCells (w.heap.size + 1) 0 (Vb c2.ed A1' c2.st n1' A2' c2.ou n2' A3' c2.tr n3' c2.co c2.us c2.wh c2.fu A8' c2.td n8' c2.ov))
   generalize W2.setCells (w.heap.size + 1) 0 (Vb c2.ed A1' c2.st n1' A2' c2.ou n2' A3' c2.tr n3' c2.co c2.us c2.wh c2.fu A8' c2.td n8' c2.ov) = W5 at F1 F2 F3 GV GB GK hl5 ⊢
   obtain ⟨adv', e_, q0v⟩ := Yc (Kd.F_now (Kd.F_kept HVF.out GK.out (fun _ hk => hk))) (0 : Int) (Int.le_refl _) (by omega)
   injection e_ with e_
   subst e_
   rw [show (0 : Int).toNat = 0 from rfl, Addr.add_zero'] at q0v
   obtain ⟨c0, c1, c2, c3, c4, c5, c6, c7, c8, c9⟩ := yd F1.out
   have z_q := bq F3.out
   have g_q := bq F3.out
   go_wp2
   exact yH (g := w.heap.size + 3) GV.out (by rw [HC2.out, yF, if_neg (by rw [H2_.out]; decide), if_neg (by rw [H2_.out]; decide), if_pos H2_.out, if_pos HZ.out]) HM2.out F3.out rfl GB.out GK.out (by omega) (by omega) (fun h => by rcases h with h | h; exact absurd (HQ.out _ h) (by omega); omega) (fun k hk => by rcases hk with hk | hk; exact .inl hk; exact .inr (by omega)) rfl rfl rfl rfl
  ·skip
   have hzn : (rd v 0 != 0) = true := bN hz
   have HZ := am hz
   clear hz
   have D0 := am (kdr X0.out)
   have D1 := am (kdr X1.out)
   have D2 := am (kdr X2.out)
   have D3 := am (kdr X3.out)
   have D4 := am (kdr X4.out)
   have DV := am (HV1.out.below (zj (Below.refl _ _)))
   have DB := am (HB1.out.trans ((zj (Below.refl _ _)).mono HB1.out.size))
   have DK := am (HK1.out.below (zj (Below.refl _ _)))
   have hlw : w.heap.size + 5 <= W1.drew.heap.size := by have := HSZ.out; show w.heap.size + 5 <= W1.heap.size; omega
   have QD := am (show W1.drew.cell? adv = some (.int .i64 (rd v 0)) from q0v)
   go_wp2
   clear q0v
   refine sT 10 [0, 1, 2, 3, 4, 5, 6, 7, 8, 9] [8, 9] fun hHeld => ?_
   generalize W1.drew = Y at D0 D1 D2 D3 D4 DV DB DK QD hlw hHeld ⊢
   have hq5_0 := bq D1.out
   have hq5_1 := bq D2.out
   have hq5_2 : World.cell? _ adv = some (.int .i64 (rd v 0)) := QD.out
   repeat first | refine nx ?_ | refine ldT hHeld ?_ | refine un ?_
   refine on fun K hK => ?_
   refine gC Tryz.func80 ?_
   refine (ZF.calls true 1 Y rfl).mono ?_
   rintro en Y1 ⟨rfl, hd⟩
   have hb := hd.below
   have D0 := am (zd D0.out hb)
   have D1 := am (zd D1.out hb)
   have D2 := am (zd D2.out hb)
   have D3 := am (zd D3.out hb)
   have D4 := am (zd D4.out hb)
   have DV := am (DV.out.below hb)
   have DB := am (DB.out.trans (hb.mono DB.out.size))
   have DK := am (DK.out.below hb)
   have QD := am ((hb.cell (World.block_lt_of_cell? _ _ QD.out)).trans QD.out)
   replace hlw := Nat.le_trans hlw hb.size
   refine ⟨_, rfl, ?_⟩
   refine hK.out _ _ (kp hHeld) fun hHeld => ?_
   clear hK K
   refine nM ?_
   refine la fun K hK => ?_
   refine gC Tryz.func101 ?_
   refine (z1B.calls w0 Y1 Q _ c 0 m 1 DB.out DV.out (fun k hk => by have := HQ.out k hk; omega) htr).mono ?_
   rintro en W2 ⟨cs2, rfl, hv2, hm2, hb2, hk2⟩
   have nmt : ∀ k, w.heap.size <= k -> ¬ MT (Va c.ed A1 c.st n1 A2 c.ou n2 A3 c.tr n3 c.co c.us c.wh c.fu A8 c.td n8 c.ov) k := fun k h hm => by have := HQ.out _ (MRQ.out _ hm); omega
   have E0 := am ((hk2.2 (w.heap.size) (by omega) (nmt _ (by omega))).trans D0.out)
   have E1 := am ((hk2.2 (w.heap.size + 1) (by omega) (nmt _ (by omega))).trans D1.out)
   have E2 := am ((hk2.2 (w.heap.size + 2) (by omega) (nmt _ (by omega))).trans D2.out)
   have E3 := am ((hk2.2 (w.heap.size + 3) (by omega) (nmt _ (by omega))).trans D3.out)
   have E4 := am ((hk2.2 (w.heap.size + 4) (by omega) (nmt _ (by omega))).trans D4.out)
   obtain ⟨c2, hc2⟩ : ∃ c2 : MC, c2 = mEv 0 m 1 c := ⟨_, rfl⟩
   have HV2 := am (show MR w0 W2 (fun k => Q k \/ w.heap.size + 5 <= k) cs2 c2 by rw [hc2]; exact hv2.mono (fun k hk _ => by rcases hk with hk | hk; exact .inl hk; exact .inr (by omega)))
   have HM2 := am (show ∀ k, MT cs2 k -> MT (Va c.ed A1 c.st n1 A2 c.ou n2 A3 c.tr n3 c.co c.us c.wh c.fu A8 c.td n8 c.ov) k \/ w.heap.size <= k from fun k h => (hm2 k h).imp id (fun h => by omega))
   have HB2 := am hb2
   have HK2 := am (DK.out.then_ hk2 (fun k hk => .inl hk))
   have HC2 := am hc2
   replace hlw := Nat.le_trans hlw hk2.1
   obtain ⟨A1', n1', A2', n2', A3', n3', A8', n8', rfl, hh2⟩ := id HV2.out
   clear hh2 hv2 hm2 hk2 hc2 nmt D0 D1 D2 D3 D4 DV DB DK QD
   refine ⟨_, rfl, ?_⟩
   refine hK.out _ _ ?_
   clear hK K
   refine nM ?_
   refine la fun K hK => ?_
   obtain ⟨y0, y1, y2, y3, y4, y5, y6, y7, y8, y9⟩ := yd E1.out
   have g_q := bq E1.out
   refine ZT (w1 := ?_) (by rfl) rfl ?_ ?_
   rotate_left
   ·go_simp
    rfl
   refine hK.out _ _ ?_
   clear hK K
   refine dn ?_
   have F1 := am (Zi (vs := (Vb c2.ed A1' c2.st n1' A2' c2.ou n2' A3' c2.tr n3' c2.co c2.us c2.wh c2.fu A8' c2.td n8' c2.ov)) E1.out rfl)
   have F2 := am ((Zl (vs := (Vb c2.ed A1' c2.st n1' A2' c2.ou n2' A3' c2.tr n3' c2.co c2.us c2.wh c2.fu A8' c2.td n8' c2.ov)) (g := w.heap.size + 1) (w := W2) (k := w.heap.size + 2) (by omega)).trans E2.out)
   have F3 := am ((Zl (vs := (Vb c2.ed A1' c2.st n1' A2' c2.ou n2' A3' c2.tr n3' c2.co c2.us c2.wh c2.fu A8' c2.td n8' c2.ov)) (g := w.heap.size + 1) (w := W2) (k := w.heap.size + 3) (by omega)).trans E3.out)
   have GV := am (HV2.out.fill (g := w.heap.size + 1) (fun h => by rcases h with h | h; exact absurd (HQ.out _ h) (by omega); omega) (Vb c2.ed A1' c2.st n1' A2' c2.ou n2' A3' c2.tr n3' c2.co c2.us c2.wh c2.fu A8' c2.td n8' c2.ov))
   have GB := am (Zj (vs := (Vb c2.ed A1' c2.st n1' A2' c2.ou n2' A3' c2.tr n3' c2.co c2.us c2.wh c2.fu A8' c2.td n8' c2.ov)) (g := w.heap.size + 1) HB2.out (by omega))
   have GK := am (yi (vs := (Vb c2.ed A1' c2.st n1' A2' c2.ou n2' A3' c2.tr n3' c2.co c2.us c2.wh c2.fu A8' c2.td n8' c2.ov)) (g := w.heap.size + 1) HK2.out (.inr (Nat.le_succ _)))
   have hl5 : w.heap.size + 5 <= (W2.setCells (w.heap.size + 1) 0 (Vb c2.ed A1' c2.st n1' A2' c2.ou n2' A3' c2.tr n3' c2.co c2.us c2.wh c2.fu A8' c2.td n8' c2.ov)).heap.size := by rw [YI]; exact hlw
   clear y0 g_q y1 y2 y3 y4 y5 y6 y7 y8 y9 E0 E1 E2 E3 E4 HV2 HB2 HK2 hlw
   change Exit.then _ _ _ _ (W2.setCells (w.heap.size + 1) 0 (Vb c2.ed A1' c2.st n1' A2' c2.ou n2' A3' c2.tr n3' c2.co c2.us c2.wh c2.fu A8' c2.td n8' c2.ov))
   generalize W2.setCells (w.heap.size + 1) 0 (Vb c2.ed A1' c2.st n1' A2' c2.ou n2' A3' c2.tr n3' c2.co c2.us c2.wh c2.fu A8' c2.td n8' c2.ov) = W5 at F1 F2 F3 GV GB GK hl5 ⊢
   obtain ⟨adv', e_, q0v⟩ := Yc (Kd.F_now (Kd.F_kept HVF.out GK.out (fun _ hk => hk))) (0 : Int) (Int.le_refl _) (by omega)
   injection e_ with e_
   subst e_
   rw [show (0 : Int).toNat = 0 from rfl, Addr.add_zero'] at q0v
   go_upto_region 16 with (fail)
   clear q0v
   obtain ⟨xsa, hxs⟩ : ∃ xs, (Zs cn (m + 1) t ++ [(⟨m, ⟨op, n, a, t, e⟩⟩ : ZQ)]) ++ next = xs := ⟨_, rfl⟩
   have HXSa := am hxs
   have hSK : yU.K w0 (⟨m, ⟨op, n, a, t, e⟩⟩ : ZQ) (Vbq m op n B3 a d3 B4 t d4 B5 e d5) := z5B w0 (⟨m, ⟨op, n, a, t, e⟩⟩ : ZQ) L3.out H3.out L4.out H4.out L5.out H5.out
   have HSK := am hSK
   clear hxs hSK
   have GV := am (GV.out.below (zj (Below.refl _ _)))
   have GB := am (GB.out.trans ((zj (Below.refl _ _)).mono GB.out.size))
   have GK := am (GK.out.below (zj (Below.refl _ _)))
   have F1 := am (kdr F1.out)
   have F2 := am (kdr F2.out)
   have F3 := am (kdr F3.out)
   replace hl5 : w.heap.size + 5 <= W5.drew.heap.size := hl5
   refine z1P (n := 9) (S := fun w' => w'.cell? ⟨w.heap.size + 2, 0, none⟩ = some (.int .i64 m) /\ w'.cell? ⟨w.heap.size + 2, 1, none⟩ = some (.int .i64 op) /\ w'.cell? ⟨w.heap.size + 2, 2, none⟩ = some (.int .i64 n) /\ w'.cell? ⟨w.heap.size + 2, 3, none⟩ = some (.slice B3 a.length d3) /\ w'.cell? ⟨w.heap.size + 2, 4, none⟩ = some (.slice B4 t.length d4) /\ w'.cell? ⟨w.heap.size + 2, 5, none⟩ = some (.slice B5 e.length d5)) (ds := [4, 6, 8]) #[false, false, false, false, false, false, false, false, false] (by kernel_rfl) rfl rfl ⟨(za F2.out 0).trans rfl, (za F2.out 1).trans rfl, (za F2.out 2).trans rfl, (za F2.out 3).trans rfl, (za F2.out 4).trans rfl, (za F2.out 5).trans rfl⟩ (fun hHeld => ?_)
   generalize W5.drew = Y at F1 F2 F3 GV GB GK hl5 hHeld ⊢
   refine tk (i := 0) (N := some 82) (bl 9 1) rfl rfl (by kernel_rfl) hHeld ?_
   refine tk (i := 2) (N := some 84) (bl 9 5) rfl rfl (by kernel_rfl) hHeld ?_
   refine pu (i := 5) (N := some 87) (bl 9 37) rfl rfl (by kernel_rfl) ?_
   refine two_ (i := 1) (j := 3) (Ni := some 83) (Nj := some 85) #[true, true, true, false, false, true, false, false, false] #[true, false, true, true, false, true, false, false, false] rfl rfl rfl rfl (by kernel_rfl) (by decide) (by decide) (fun K hK => ?_) (fun K hK => ?_)
   ·skip
    refine gC Tryz.func103 ?_
    refine (z4Z.calls cn w0 Y m op n B3 d3 a B4 d4 t B5 d5 e GB.out H4.out L4.out hm0 hm1 HGT.out).mono ?_
    rintro en W6 ⟨D, d, rfl, ho, hb⟩
    have HO6 := am ho
    have HB6 := am hb
    have F26 := am (zd F2.out hb)
    clear ho hb
    refine ⟨_, rfl, ?_⟩
    refine hK.out _ _ ⟨(za F26.out 0).trans rfl, (za F26.out 1).trans rfl, (za F26.out 2).trans rfl, (za F26.out 3).trans rfl, (za F26.out 4).trans rfl, (za F26.out 5).trans rfl⟩ (fun hHeld => ?_)
    clear hK K
    refine nm 83 ?_
    refine z2D (i := 3) (N := (some 85)) (bl 9 47) rfl rfl (by kernel_rfl) (by decide) (fun K hK => ?_)
    refine z1h (w1 := ?_) (v := ?_) (by rfl) rfl ?_ ?_
    rotate_left 2
    ·go_simp
     constructor
     ·rfl
     ·rfl
    have HL := am (zH W6 (.cells (Vj m op n B3 a d3 B4 t d4 B5 e d5) 128))
    have HO6 := am (Kd.R_below HO6.out (bal (Below.refl _ _) (.cells (Vj m op n B3 a d3 B4 t d4 B5 e d5) 128)))
    have HB6 := am (HB6.out.trans ((bal (Below.refl _ _) (.cells (Vj m op n B3 a d3 B4 t d4 B5 e d5) 128)).mono HB6.out.size))
    have F26 := am (kal F26.out (.cells (Vj m op n B3 a d3 B4 t d4 B5 e d5) 128))
    refine hK.out _ _ ⟨(za F26.out 0).trans rfl, (za F26.out 1).trans rfl, (za F26.out 2).trans rfl, (za F26.out 3).trans rfl, (za F26.out 4).trans rfl, (za F26.out 5).trans rfl⟩ (fun hHeld => ?_)
    clear hK K
    refine nm 85 ?_
    refine z1c (i := 4) (N := (some 86)) (bl 9 63) rfl rfl (by kernel_rfl) (by decide) (fun K hK => ?_)
    refine Kd.R_append_rows_step (YN yU w0) (w0 := Y) Y.heap.size (by rfl) (.tmp 83) (.tmp 85) 96 128 (.agg Vq) 96 rfl huL z09 rfl (show 0 < 6 by decide) (by omega) (.slice D (Zs cn (m + 1) t).length d) (Zs cn (m + 1) t) [(⟨m, ⟨op, n, a, t, e⟩⟩ : ZQ)] (some ⟨W6.heap.size, 0, none⟩) 1 1 (fun _ => True) (fun _ => False) rfl rfl HO6.out (z5s HL.out HSK.out) (fun _ _ h => h) (fun _ h => h.elim) (fun _ _ => trivial) HB6.out HB6.out.size (by rw [yh]; have := HGT.out.1; omega) ?_
    intro v1 W9 ho hb hg hat
    obtain ⟨D9, d9, rfl⟩ := Kd.R_slice ho
    have HO9 := am ho
    have HB9 := am hb
    clear ho hb hg hat
    refine hK.out _ _ ?_
    clear hK K
    refine nm 86 ?_
    refine z1c (i := 6) (N := (some 88)) (bl 9 127) rfl rfl (by kernel_rfl) (by decide) (fun K hK => ?_)
    refine Kd.R_append_rows_step (YN yU w0) (w0 := Y) Y.heap.size (by rfl) (.tmp 86) (.tmp 87) 96 128 (.agg Vq) 96 rfl huL z09 rfl (show 0 < 6 by decide) (by omega) (.slice D9 (Zs cn (m + 1) t ++ [(⟨m, ⟨op, n, a, t, e⟩⟩ : ZQ)]).length d9) (Zs cn (m + 1) t ++ [(⟨m, ⟨op, n, a, t, e⟩⟩ : ZQ)]) next An next.length nn (fun _ => True) (fun _ => False) rfl rfl HO9.out (Kd.F_now (Kd.F_kept HNF.out (GK.out.below HB9.out) (fun _ hk => hk))) (fun _ _ h => h) (fun _ h => h.elim) (fun _ _ => trivial) HB9.out HB9.out.size (by rw [List.length_append, yh, List.length_singleton]; have := HGT.out.1; omega) ?_
    intro v1 W7a ho hb hg hat
    rw [HXSa.out] at ho
    obtain ⟨D7a, d7a, ev⟩ := Kd.R_slice ho
    subst ev
    have HO7 := am ho
    have HB7 := am hb
    have F17 := am (zd F1.out hb)
    clear ho hb hg hat
    refine hK.out _ _ ?_
    clear hK K
    refine nm 88 ?_
    refine pu (i := 7) (N := some 89) (bl 9 255) rfl rfl (by kernel_rfl) ?_
    refine z1c (i := 8) (N := none) (bl 9 511) rfl rfl (by kernel_rfl) (by decide) (fun K hK => ?_)
    have y8 := zf F17.out 8
    have y9 : W7a.cell? ⟨w.heap.size + 1, 8, none⟩ = some (.slice A8' c2.td.length n8') := (za F17.out 8).trans rfl
    refine ZT (w1 := ?_) (by rfl) rfl ?_ ?_
    rotate_left
    ·go_simp
     rfl
    refine hK.out _ _ ?_
    clear hK K
    refine z2S (by kernel_rfl) ?_
    clear y8 y9
    have nqx : ¬ (Q (w.heap.size + 1) \/ w.heap.size + 5 <= w.heap.size + 1) := (fun h => by rcases h with h | h; exact absurd (HQ.out _ h) (by omega); omega)
    have gv := ((GV.out.newtd HB7.out HO7.out).mono (Q' := (fun k => Q k \/ w.heap.size + 5 <= k)) (fun k hk _ => by rcases hk with hk | hk; exact hk; exact .inr (by omega))).set (p := ⟨w.heap.size + 1, 8, none⟩) nqx (.slice D7a xsa.length d7a)
    have gb := (GB.out.trans (HB7.out.mono GB.out.size)).setCell (p := ⟨w.heap.size + 1, 8, none⟩) (by show w0.heap.size <= w.heap.size + 1; omega) (.slice D7a xsa.length d7a)
    have gk := (GK.out.below HB7.out).setCell (p := ⟨w.heap.size + 1, 8, none⟩) (.inr (Nat.le_succ _)) (.slice D7a xsa.length d7a)
    have f1 := zI F17.out 8 (.slice D7a xsa.length d7a) (cs' := (Va c2.ed A1' c2.st n1' A2' c2.ou n2' A3' c2.tr n3' c2.co c2.us c2.wh c2.fu D7a xsa d7a c2.ov)) rfl
    have f2 := ((Below.heap_setCell W7a ⟨w.heap.size + 1, 8, none⟩ (.slice D7a xsa.length d7a) (w.heap.size + 2) (by show w.heap.size + 2 ≠ w.heap.size + 1; omega)).trans (zd F2.out HB7.out))
    have f3 := ((Below.heap_setCell W7a ⟨w.heap.size + 1, 8, none⟩ (.slice D7a xsa.length d7a) (w.heap.size + 3) (by show w.heap.size + 3 ≠ w.heap.size + 1; omega)).trans (zd F3.out HB7.out))
    have hl8 : w.heap.size + 5 <= (W7a.setCell ⟨w.heap.size + 1, 8, none⟩ (.slice D7a xsa.length d7a)).heap.size := by have := HB7.out.size; simp; omega
    generalize W7a.setCell ⟨w.heap.size + 1, 8, none⟩ (.slice D7a xsa.length d7a) = W8a at gv gb gk f1 f2 f3 hl8 ⊢
    have GV := am gv
    have GB := am gb
    have GK := am gk
    have F1 := am f1
    have F2 := am f2
    have F3 := am f3
    clear gv gb gk f1 f2 f3 HO7 HB7 F17
    obtain ⟨c0, c1, c2, c3, c4, c5, c6, c7, c8, c9⟩ := yd F1.out
    have z_q := bq F3.out
    have g_q := bq F3.out
    go_wp2
    exact yH (g := w.heap.size + 3) GV.out (by rw [HC2.out, <- HXSa.out, yF, if_neg (by rw [H2_.out]; decide), if_neg (by rw [H2_.out]; decide), if_pos H2_.out, if_neg HZ.out]) HM2.out F3.out rfl GB.out GK.out (by omega) (by omega) (fun h => by rcases h with h | h; exact absurd (HQ.out _ h) (by omega); omega) (fun k hk => by rcases hk with hk | hk; exact .inl hk; exact .inr (by omega)) rfl rfl rfl rfl
   ·skip
    refine z1h (w1 := ?_) (v := ?_) (by rfl) rfl ?_ ?_
    rotate_left 2
    ·go_simp
     constructor
     ·rfl
     ·rfl
    have HL := am (zH Y (.cells (Vj m op n B3 a d3 B4 t d4 B5 e d5) 128))
    have F26 := am (kal F2.out (.cells (Vj m op n B3 a d3 B4 t d4 B5 e d5) 128))
    have ba := bal (Below.refl Y.heap.size Y) (.cells (Vj m op n B3 a d3 B4 t d4 B5 e d5) 128)
    refine hK.out _ _ ⟨(za F26.out 0).trans rfl, (za F26.out 1).trans rfl, (za F26.out 2).trans rfl, (za F26.out 3).trans rfl, (za F26.out 4).trans rfl, (za F26.out 5).trans rfl⟩ (fun hHeld => ?_)
    clear hK K
    refine nm 85 ?_
    refine z2D (i := 1) (N := (some 83)) (bl 9 47) rfl rfl (by kernel_rfl) (by decide) (fun K hK => ?_)
    refine gC Tryz.func103 ?_
    refine (z4Z.calls cn w0 _ m op n B3 d3 a B4 d4 t B5 d5 e (GB.out.trans (ba.mono GB.out.size)) H4.out L4.out hm0 hm1 HGT.out).mono ?_
    rintro en W6 ⟨D, d, rfl, ho, hb⟩
    have HO6 := am (Kd.R_lower ho ba.size)
    have HB6 := am (ba.trans (hb.mono ba.size))
    have F26 := am (zd F26.out hb)
    have HL := am (zd HL.out hb)
    clear ho hb ba
    refine ⟨_, rfl, ?_⟩
    refine hK.out _ _ ⟨(za F26.out 0).trans rfl, (za F26.out 1).trans rfl, (za F26.out 2).trans rfl, (za F26.out 3).trans rfl, (za F26.out 4).trans rfl, (za F26.out 5).trans rfl⟩ (fun hHeld => ?_)
    clear hK K
    refine nm 83 ?_
    refine z1c (i := 4) (N := (some 86)) (bl 9 63) rfl rfl (by kernel_rfl) (by decide) (fun K hK => ?_)
    refine Kd.R_append_rows_step (YN yU w0) (w0 := Y) Y.heap.size (by rfl) (.tmp 83) (.tmp 85) 96 128 (.agg Vq) 96 rfl huL z09 rfl (show 0 < 6 by decide) (by omega) (.slice D (Zs cn (m + 1) t).length d) (Zs cn (m + 1) t) [(⟨m, ⟨op, n, a, t, e⟩⟩ : ZQ)] (some ⟨Y.heap.size, 0, none⟩) 1 1 (fun _ => True) (fun _ => False) rfl rfl HO6.out (z5s HL.out HSK.out) (fun _ _ h => h) (fun _ h => h.elim) (fun _ _ => trivial) HB6.out HB6.out.size (by rw [yh]; have := HGT.out.1; omega) ?_
    intro v1 W9 ho hb hg hat
    obtain ⟨D9, d9, rfl⟩ := Kd.R_slice ho
    have HO9 := am ho
    have HB9 := am hb
    clear ho hb hg hat
    refine hK.out _ _ ?_
    clear hK K
    refine nm 86 ?_
    refine z1c (i := 6) (N := (some 88)) (bl 9 127) rfl rfl (by kernel_rfl) (by decide) (fun K hK => ?_)
    refine Kd.R_append_rows_step (YN yU w0) (w0 := Y) Y.heap.size (by rfl) (.tmp 86) (.tmp 87) 96 128 (.agg Vq) 96 rfl huL z09 rfl (show 0 < 6 by decide) (by omega) (.slice D9 (Zs cn (m + 1) t ++ [(⟨m, ⟨op, n, a, t, e⟩⟩ : ZQ)]).length d9) (Zs cn (m + 1) t ++ [(⟨m, ⟨op, n, a, t, e⟩⟩ : ZQ)]) next An next.length nn (fun _ => True) (fun _ => False) rfl rfl HO9.out (Kd.F_now (Kd.F_kept HNF.out (GK.out.below HB9.out) (fun _ hk => hk))) (fun _ _ h => h) (fun _ h => h.elim) (fun _ _ => trivial) HB9.out HB9.out.size (by rw [List.length_append, yh, List.length_singleton]; have := HGT.out.1; omega) ?_
    intro v1 W7a ho hb hg hat
    rw [HXSa.out] at ho
    obtain ⟨D7a, d7a, ev⟩ := Kd.R_slice ho
    subst ev
    have HO7 := am ho
    have HB7 := am hb
    have F17 := am (zd F1.out hb)
    clear ho hb hg hat
    refine hK.out _ _ ?_
    clear hK K
    refine nm 88 ?_
    refine pu (i := 7) (N := some 89) (bl 9 255) rfl rfl (by kernel_rfl) ?_
    refine z1c (i := 8) (N := none) (bl 9 511) rfl rfl (by kernel_rfl) (by decide) (fun K hK => ?_)
    have y8 := zf F17.out 8
    have y9 : W7a.cell? ⟨w.heap.size + 1, 8, none⟩ = some (.slice A8' c2.td.length n8') := (za F17.out 8).trans rfl
    refine ZT (w1 := ?_) (by rfl) rfl ?_ ?_
    rotate_left
    ·go_simp
     rfl
    refine hK.out _ _ ?_
    clear hK K
    refine z2S (by kernel_rfl) ?_
    clear y8 y9
    have nqx : ¬ (Q (w.heap.size + 1) \/ w.heap.size + 5 <= w.heap.size + 1) := (fun h => by rcases h with h | h; exact absurd (HQ.out _ h) (by omega); omega)
    have gv := ((GV.out.newtd HB7.out HO7.out).mono (Q' := (fun k => Q k \/ w.heap.size + 5 <= k)) (fun k hk _ => by rcases hk with hk | hk; exact hk; exact .inr (by omega))).set (p := ⟨w.heap.size + 1, 8, none⟩) nqx (.slice D7a xsa.length d7a)
    have gb := (GB.out.trans (HB7.out.mono GB.out.size)).setCell (p := ⟨w.heap.size + 1, 8, none⟩) (by show w0.heap.size <= w.heap.size + 1; omega) (.slice D7a xsa.length d7a)
    have gk := (GK.out.below HB7.out).setCell (p := ⟨w.heap.size + 1, 8, none⟩) (.inr (Nat.le_succ _)) (.slice D7a xsa.length d7a)
    have f1 := zI F17.out 8 (.slice D7a xsa.length d7a) (cs' := (Va c2.ed A1' c2.st n1' A2' c2.ou n2' A3' c2.tr n3' c2.co c2.us c2.wh c2.fu D7a xsa d7a c2.ov)) rfl
    have f2 := ((Below.heap_setCell W7a ⟨w.heap.size + 1, 8, none⟩ (.slice D7a xsa.length d7a) (w.heap.size + 2) (by show w.heap.size + 2 ≠ w.heap.size + 1; omega)).trans (zd F2.out HB7.out))
    have f3 := ((Below.heap_setCell W7a ⟨w.heap.size + 1, 8, none⟩ (.slice D7a xsa.length d7a) (w.heap.size + 3) (by show w.heap.size + 3 ≠ w.heap.size + 1; omega)).trans (zd F3.out HB7.out))
    have hl8 : w.heap.size + 5 <= (W7a.setCell ⟨w.heap.size + 1, 8, none⟩ (.slice D7a xsa.length d7a)).heap.size := by have := HB7.out.size; simp; omega
    generalize W7a.setCell ⟨w.heap.size + 1, 8, none⟩ (.slice D7a xsa.length d7a) = W8a at gv gb gk f1 f2 f3 hl8 ⊢
    have GV := am gv
    have GB := am gb
    have GK := am gk
    have F1 := am f1
    have F2 := am f2
    have F3 := am f3
    clear gv gb gk f1 f2 f3 HO7 HB7 F17
    obtain ⟨c0, c1, c2, c3, c4, c5, c6, c7, c8, c9⟩ := yd F1.out
    have z_q := bq F3.out
    have g_q := bq F3.out
    go_wp2
    exact yH (g := w.heap.size + 3) GV.out (by rw [HC2.out, <- HXSa.out, yF, if_neg (by rw [H2_.out]; decide), if_neg (by rw [H2_.out]; decide), if_pos H2_.out, if_neg HZ.out]) HM2.out F3.out rfl GB.out GK.out (by omega) (by omega) (fun h => by rcases h with h | h; exact absurd (HQ.out _ h) (by omega); omega) (fun k hk => by rcases hk with hk | hk; exact .inl hk; exact .inr (by omega)) rfl rfl rfl rfl
 have e2 := (beq_eq_false_iff_ne (a := op)).mpr h2
 by_cases h3 : op = 3
 ·have e3 : (op == 3) = true := bT h3
  have H3_ := am h3
  clear h3
  have hvp : 0 < v.length := HF3.out (by rw [H3_.out]; simp)
  obtain ⟨adv, e_, q0v⟩ := Yc (Kd.F_now (Kd.F_kept HVF.out HK1.out (fun _ hk => hk))) (0 : Int) (Int.le_refl _) (by omega)
  subst e_
  rw [show (0 : Int).toNat = 0 from rfl, Addr.add_zero'] at q0v
  have hvp0 : (0 : Int) < (v.length : Int) := by omega
  have huO := Tryz.underlying41
  have D0 := am (kdr X0.out)
  have D1 := am (kdr X1.out)
  have D2 := am (kdr X2.out)
  have D3 := am (kdr X3.out)
  have D4 := am (kdr X4.out)
  have DV := am (HV1.out.below (zj (Below.refl _ _)))
  have DB := am (HB1.out.trans ((zj (Below.refl _ _)).mono HB1.out.size))
  have DK := am (HK1.out.below (zj (Below.refl _ _)))
  have hlw : w.heap.size + 5 <= W1.drew.heap.size := by have := HSZ.out; show w.heap.size + 5 <= W1.heap.size; omega
  have QD := am (show W1.drew.cell? adv = some (.int .i64 (rd v 0)) from q0v)
  clear q0v
  go_wp2
  obtain ⟨A2g, n2g, e2g, h2g, hgr⟩ := DV.out.grow_ou
  obtain ⟨rfl, rfl⟩ : A2 = A2g /\ n2 = n2g := by
   have := sj e2g
   injection this with h1 h2 h3
   exact ⟨h1, h3⟩
  have H2G := am h2g
  have HGR := am hgr
  clear e2g h2g hgr
  refine sT 14 [0, 1, 2, 3, 4, 5, 6, 7, 8, 9, 10, 11, 12, 13] [10, 13] fun hHeld => ?_
  generalize W1.drew = Y at D0 D1 D2 D3 D4 DV DB DK QD H2G HGR hlw hHeld ⊢
  have hq7_0 := bq D1.out
  have hq7_1 := bq D4.out
  have hq7_2 : World.cell? _ adv = some (.int .i64 (rd v 0)) := QD.out
  repeat first | refine nx ?_ | refine ldT hHeld ?_ | refine un ?_
  refine on fun K hK => ?_
  refine z1h (w1 := ?_) (v := ?_) (by rfl) rfl ?_ ?_
  rotate_left 2
  ·go_simp
   constructor
   ·rfl
   ·rfl
  refine hK.out _ _ (kp hHeld) fun hHeld => ?_
  clear hK K
  refine nM ?_
  refine la fun K hK => ?_
  refine Kd.R_append_step z2h (w0 := w0) w0.heap.size (by rfl) (.tmp 94) (.tmp 101) 41 134 (.agg Vnq) 16 rfl huO z7g rfl (by decide) (by omega) (.slice A2 c.ou.length n2) c.ou (⟨n, rd v 0⟩ : Y5) [.int .i64 n, .int .i64 (rd v 0)] (fun k => Q k \/ w.heap.size + 5 <= k) (fun _ => False) rfl rfl (z4r _ _ _ _) (fun _ hk => hk.elim) (fun k hk => .inr (Nat.le_trans hlw hk)) (Kd.R_mono H2G.out (fun k hk => .inl hk)) DB.out DB.out.size (by omega) ?_
  intro v1 W2 ho hb hg hat
  obtain ⟨V1, M1⟩ := HGR.out W2 v1 _ (fun k => Q k \/ w.heap.size + 5 <= k) (fun k hk => .inl hk) ho hg hat
  obtain ⟨A', n', ev⟩ := Kd.R_slice ho
  have el : (c.ou ++ [(⟨n, rd v 0⟩ : Y5)]).length = c.ou.length + 1 := by simp
  rw [el] at ev
  subst ev
  have E1 := am (zN D1.out hg (Kd.R_ne H2G.out D1.out (by decide)))
  have E3 := am (zN D3.out hg (Kd.R_ne H2G.out D3.out (by decide)))
  have V1 := am V1
  have M1 := am M1
  have EB := am hb
  have EK := am (zL.of_grown hg DK.out (fun k e => .inl (.inl e)))
  have hl1 := hg.size
  clear ho hat D0 D1 D2 D3 D4 DV DB DK QD H2G HGR
  refine hK.out _ _ ?_
  clear hK K
  refine nM ?_
  repeat first | refine nx ?_ | refine ldT hHeld ?_ | refine un ?_
  refine la fun K hK => ?_
  have y2 : W2.cell? ⟨w.heap.size + 1, 2, none⟩ = some (.slice A2 c.ou.length n2) := (za E1.out 2).trans rfl
  have f2 := zf E1.out 2
  refine ZT (w1 := ?_) (by rfl) rfl ?_ ?_
  rotate_left
  ·go_simp
   rfl
  refine hK.out _ _ ?_
  clear hK K
  refine dn ?_
  have G1 := am (zI E1.out 2 (.slice A' (c.ou.length + 1) n') (cs' := #[.int .i64 c.ed, .slice A1 c.st.length n1, .slice A' (c.ou.length + 1) n', .slice A3 c.tr.length n3, .int .i64 c.co, .int .i64 c.us, .int .i64 c.wh, .int .i64 c.fu, .slice A8 c.td.length n8, .bool c.ov]) rfl)
  have X3 := am ((Below.heap_setCell W2 ⟨w.heap.size + 1, 2, none⟩ (.slice A' (c.ou.length + 1) n') (w.heap.size + 3) (by show w.heap.size + 3 ≠ w.heap.size + 1; omega)).trans E3.out)
  have nq1 : ¬ (Q (w.heap.size + 1) \/ w.heap.size + 5 <= w.heap.size + 1) := fun h => by rcases h with h | h; (have := HQ.out _ h; omega); omega
  have HV2 := am (V1.out.set (p := ⟨w.heap.size + 1, 2, none⟩) nq1 (.slice A' (c.ou.length + 1) n'))
  have HB2 := am (EB.out.setCell (p := ⟨w.heap.size + 1, 2, none⟩) (by show w0.heap.size <= w.heap.size + 1; omega) (.slice A' (c.ou.length + 1) n'))
  have HK2 := am (EK.out.setCell (p := ⟨w.heap.size + 1, 2, none⟩) (.inr (Nat.le_succ _)) (.slice A' (c.ou.length + 1) n'))
  clear y2 f2 E1 E3 V1 EB EK nq1
  generalize W2.setCell ⟨w.heap.size + 1, 2, none⟩ (.slice A' (c.ou.length + 1) n') = W3 at G1 X3 HV2 HB2 HK2 ⊢
  have u_q := bq G1.out
  have z_q := bq X3.out
  have g_q := bq X3.out
  go_wp2
  exact yH (g := w.heap.size + 3) HV2.out (by rw [yF, if_neg (by rw [H3_.out]; decide), if_neg (by rw [H3_.out]; decide), if_neg (by rw [H3_.out]; decide), if_pos H3_.out]) (fun k h => (M1.out k h).imp id (fun h => by have := hlw; omega)) X3.out rfl HB2.out HK2.out (by omega) (by omega) (fun h => by rcases h with h | h; exact absurd (HQ.out _ h) (by omega); omega) (fun k hk => by rcases hk with hk | hk; exact .inl hk; exact .inr (by omega)) rfl rfl rfl rfl
 have e3 := (beq_eq_false_iff_ne (a := op)).mpr h3
 by_cases h4 : op = 4
 ·have e4 : (op == 4) = true := bT h4
  have H4_ := am h4
  clear h4
  have SF := HF4.out H4_.out
  have x5 : W1.cell? ⟨w.heap.size + 1, 5, none⟩ = some (.int .i64 c.us) := (za X1.out 5).trans rfl
  by_cases hu : (pk.length : Int) <= c.us
  ·have hub : decide ((pk.length : Int) <= c.us) = true := dT hu
   have HU := am hu
   clear hu x5
   obtain ⟨c0, c1, c2, c3, c4, c5, c6, c7, c8, c9⟩ := yd X1.out
   have i0 : W1.cell? ⟨w.heap.size + 2, 0, none⟩ = some (.int .i64 m) := (za X2.out 0).trans rfl
   go_wp2_with (first | (go_at_call 70; refine (z3M.calls w0 W1 Q _ c 4 m HB1.out HV1.out (fun k hk => by have := HQ.out k hk; have := HSZ.out; omega)).mono ?_; rintro en W2 ⟨cs2, rfl, hv2, hm2, hb2, hk2⟩; have X3 := am ((hk2.2 (w.heap.size + 3) (by have := HSZ.out; omega) (fun h => absurd (HQ.out _ (MRQ.out _ h)) (by omega))).trans X3.out); obtain ⟨c2, hc2⟩ : ∃ c2 : MC, c2 = YL 4 m c := ⟨_, rfl⟩; have HV2 := am (show MR w0 W2 (fun k => Q k \/ W1.heap.size <= k) cs2 c2 by rw [hc2]; exact hv2); have HM2 := am hm2; have HC2 := am hc2; obtain ⟨A1', n1', A2', n2', A3', n3', A8', n8', rfl, hh2⟩ := id HV2.out; clear hh2; have HB2 := am hb2; have hlc : w.heap.size + 5 <= W1.heap.size := (by have := HSZ.out; omega); have HK2 := am (HK1.out.then_ hk2 (fun k hk => .inl hk)); have hs2 := hk2.1; clear hv2 hm2 hb2 hk2 hc2; have z_q := bq X3.out; have g_q := bq X3.out))
   exact yH (g := w.heap.size + 3) HV2.out (by rw [HC2.out, yF, if_neg (by rw [H4_.out]; decide), if_neg (by rw [H4_.out]; decide), if_neg (by rw [H4_.out]; decide), if_neg (by rw [H4_.out]; decide), if_pos H4_.out, if_pos HU.out]) (fun k h => (HM2.out k h).imp id (fun h => by omega)) X3.out rfl HB2.out HK2.out (by omega) (by omega) (fun h => by rcases h with h | h; exact absurd (HQ.out _ h) (by omega); omega) (fun k hk => by rcases hk with hk | hk; exact .inl hk; exact .inr (by omega)) rfl rfl rfl rfl
  ·have hub : decide ((pk.length : Int) <= c.us) = false := dF hu
   have HU := am (show ∀ x y : MC, (if (pk.length : Int) <= c.us then x else y) = y from fun _ _ => if_neg hu)
   have f5 := zf X1.out 5
   have hwu : IntKind.i64.wrap (c.us + 1) = c.us + 1 := by rw [zP]; unfold wrap64; omega
   have hwv : IntKind.i64.wrap (c.us + 1 - 1) = c.us := by rw [zP]; unfold wrap64; omega
   have hw64 : wrap64 c.us = c.us := by unfold wrap64; omega
   have hw65 : wrap64 (c.us + 1) = c.us + 1 := by unfold wrap64; omega
   have hult : c.us < (pk.length : Int) := by omega
   have hpk9 := HPK.out.2.1
   obtain ⟨adp, e_, qp⟩ := Yc HPK.out c.us hu0 hult
   subst e_
   have QPL := am (World.block_lt_of_cell? w0 _ qp)
   have QP0 := am qp
   clear hu qp
   have nq1 : ¬ Q (w.heap.size + 1) := fun h => by have := HQ.out _ h; omega
   have D0 := am (kdr ((Below.heap_setCell W1 ⟨w.heap.size + 1, 5, none⟩ (.int .i64 (c.us + 1)) w.heap.size (by show w.heap.size ≠ w.heap.size + 1; omega)).trans X0.out))
   have D1 := am (kdr (zI X1.out 5 (.int .i64 (c.us + 1)) (cs' := (Va c.ed A1 c.st n1 A2 c.ou n2 A3 c.tr n3 c.co (c.us + 1) c.wh c.fu A8 c.td n8 c.ov)) rfl))
   have D2 := am (kdr ((Below.heap_setCell W1 ⟨w.heap.size + 1, 5, none⟩ (.int .i64 (c.us + 1)) (w.heap.size + 2) (by show w.heap.size + 2 ≠ w.heap.size + 1; omega)).trans X2.out))
   have D3 := am (kdr ((Below.heap_setCell W1 ⟨w.heap.size + 1, 5, none⟩ (.int .i64 (c.us + 1)) (w.heap.size + 3) (by show w.heap.size + 3 ≠ w.heap.size + 1; omega)).trans X3.out))
   have D4 := am (kdr ((Below.heap_setCell W1 ⟨w.heap.size + 1, 5, none⟩ (.int .i64 (c.us + 1)) (w.heap.size + 4) (by show w.heap.size + 4 ≠ w.heap.size + 1; omega)).trans X4.out))
   have DV := am (((HV1.out.set (p := ⟨w.heap.size + 1, 5, none⟩) nq1 (.int .i64 (c.us + 1))).us' (c.us + 1)).below (zj (Below.refl _ _)))
   have gb := HB1.out.setCell (p := ⟨w.heap.size + 1, 5, none⟩) (by show w0.heap.size <= w.heap.size + 1; omega) (.int .i64 (c.us + 1))
   have DB := am (gb.trans ((zj (Below.refl _ _)).mono gb.size))
   have DK := am ((HK1.out.setCell (p := ⟨w.heap.size + 1, 5, none⟩) (.inr (Nat.le_succ _)) (.int .i64 (c.us + 1))).below (zj (Below.refl _ _)))
   have QP := am ((DB.out.cell QPL.out).trans QP0.out)
   have hlw : w.heap.size + 5 <= (W1.setCell ⟨w.heap.size + 1, 5, none⟩ (.int .i64 (c.us + 1))).drew.heap.size := by have := HSZ.out; show w.heap.size + 5 <= (W1.setCell ⟨w.heap.size + 1, 5, none⟩ (.int .i64 (c.us + 1))).heap.size; simp; omega
   clear gb
   by_cases h1 : 0 < v.length
   ·rw [if_pos h1] at SF
    have hvp := h1
    obtain ⟨adv, e_, q0v⟩ := Yc (Kd.F_now (Kd.F_kept HVF.out HK1.out (fun _ hk => hk))) (0 : Int) (Int.le_refl _) (by omega)
    subst e_
    rw [show (0 : Int).toNat = 0 from rfl, Addr.add_zero'] at q0v
    have hvp0 : (0 : Int) < (v.length : Int) := by omega
    obtain ⟨hn0, hn1, hv0, ⟨kA, hA⟩, kP, hP⟩ := SF
    have hgt : (0 : Int) < (v.length : Int) := by omega
    have hgd : decide ((0 : Int) < (v.length : Int)) = true := dT (by omega)
    have HH1 := am h1
    have HAT := am hA
    have HPU := am hP
    clear h1 hA hP
    go_wp2
    refine sT 16 [0, 1, 2, 3, 4, 5, 6, 7, 8, 9, 10, 11, 12, 13, 14, 15] [14, 15] fun hHeld => ?_
    generalize (W1.setCell ⟨w.heap.size + 1, 5, none⟩ (.int .i64 (c.us + 1))).drew = Y at D0 D1 D2 D3 D4 DV DB DK QP hlw hHeld ⊢
    have hq8_0 := bq D0.out
    have hq8_1 := bq D1.out
    have hq8_2 := bq D4.out
    have hq8_3 : World.cell? _ (adp.add c.us.toNat) = some (.int .i64 (rd pk c.us)) := QP.out
    repeat first | refine nx ?_ | refine ldT hHeld ?_ | refine un ?_
    refine la fun K hK => ?_
    refine gC Tryz.func100 ?_
    refine (z5w.calls w0 Y Q _ { c with us := c.us + 1 } kA kP wd Av cv l1 Ab lb cb op n B3 a.length d3 B4 t.length d4 B5 e.length d5 true (rd v 0) (rd pk c.us) _ DB.out DV.out (fun k hk => by have := HQ.out k hk; omega) HR1.out HC1.out hn0 hn1 hv0 HAT.out HPU.out htr).mono ?_
    rintro en W2 ⟨cs2, rfl, hv2, hm2, hb2, hk2⟩
    have X3 := am ((hk2.2 (w.heap.size + 3) (by omega) (fun h => absurd (HQ.out _ (MRQ.out _ h)) (by omega))).trans D3.out)
    obtain ⟨c2, hc2⟩ : ∃ c2 : MC, c2 = z0f l1 n (rd v 0) (rd pk c.us) (atP l1 n (rd v 0)) true { c with us := c.us + 1 } := ⟨_, rfl⟩
    have HV2 := am (show MR w0 W2 (fun k => Q k \/ Y.heap.size <= k) cs2 c2 by rw [hc2]; exact hv2)
    have HM2 := am hm2
    have HC2 := am hc2
    obtain ⟨A1', n1', A2', n2', A3', n3', A8', n8', rfl, hh2⟩ := id HV2.out
    clear hh2
    have HB2 := am hb2
    have hlc : w.heap.size + 5 <= Y.heap.size := (by omega)
    have HK2 := am (DK.out.then_ hk2 (fun k hk => .inl hk))
    have hs2 := hk2.1
    clear hv2 hm2 hk2 hc2
    refine ⟨_, rfl, ?_⟩
    refine hK.out _ _ ?_
    clear hK K
    refine nM ?_
    refine la fun K hK => ?_
    have z_q := bq X3.out
    have g_q := bq X3.out
    refine ZT (w1 := ?_) (by rfl) rfl ?_ ?_
    rotate_left
    ·go_simp
     rfl
    refine hK.out _ _ ?_
    clear hK K
    refine dn ?_
    go_wp2
    exact yH (g := w.heap.size + 3) HV2.out (by rw [HC2.out, yF, if_neg (by rw [H4_.out]; decide), if_neg (by rw [H4_.out]; decide), if_neg (by rw [H4_.out]; decide), if_neg (by rw [H4_.out]; decide), if_pos H4_.out, HU.out, if_pos HH1.out, decide_eq_true HH1.out]) (fun k h => (HM2.out k h).imp id (fun h => by omega)) X3.out rfl HB2.out HK2.out (by omega) (by omega) (fun h => by rcases h with h | h; exact absurd (HQ.out _ h) (by omega); omega) (fun k hk => by rcases hk with hk | hk; exact .inl hk; exact .inr (by omega)) rfl rfl rfl rfl
   ·rw [if_neg h1] at SF
    obtain ⟨hn0, hn1, hv0, ⟨kA, hA⟩, kP, hP⟩ := SF
    have hgt : ¬ (0 : Int) < (v.length : Int) := by omega
    have hgd : decide ((0 : Int) < (v.length : Int)) = false := dF (by omega)
    have HH1 := am h1
    have HAT := am hA
    have HPU := am hP
    clear h1 hA hP
    go_wp2
    refine sT 16 [0, 1, 2, 3, 4, 5, 6, 7, 8, 9, 10, 11, 12, 13, 14, 15] [14, 15] fun hHeld => ?_
    generalize (W1.setCell ⟨w.heap.size + 1, 5, none⟩ (.int .i64 (c.us + 1))).drew = Y at D0 D1 D2 D3 D4 DV DB DK QP hlw hHeld ⊢
    have hq9_0 := bq D0.out
    have hq9_1 := bq D1.out
    have hq9_2 := bq D4.out
    have hq9_3 : World.cell? _ (adp.add c.us.toNat) = some (.int .i64 (rd pk c.us)) := QP.out
    repeat first | refine nx ?_ | refine ldT hHeld ?_ | refine un ?_
    refine la fun K hK => ?_
    refine gC Tryz.func100 ?_
    refine (z5w.calls w0 Y Q _ { c with us := c.us + 1 } kA kP wd Av cv l1 Ab lb cb op n B3 a.length d3 B4 t.length d4 B5 e.length d5 false 0 (rd pk c.us) _ DB.out DV.out (fun k hk => by have := HQ.out k hk; omega) HR1.out HC1.out hn0 hn1 hv0 HAT.out HPU.out htr).mono ?_
    rintro en W2 ⟨cs2, rfl, hv2, hm2, hb2, hk2⟩
    have X3 := am ((hk2.2 (w.heap.size + 3) (by omega) (fun h => absurd (HQ.out _ (MRQ.out _ h)) (by omega))).trans D3.out)
    obtain ⟨c2, hc2⟩ : ∃ c2 : MC, c2 = z0f l1 n 0 (rd pk c.us) (atP l1 n 0) false { c with us := c.us + 1 } := ⟨_, rfl⟩
    have HV2 := am (show MR w0 W2 (fun k => Q k \/ Y.heap.size <= k) cs2 c2 by rw [hc2]; exact hv2)
    have HM2 := am hm2
    have HC2 := am hc2
    obtain ⟨A1', n1', A2', n2', A3', n3', A8', n8', rfl, hh2⟩ := id HV2.out
    clear hh2
    have HB2 := am hb2
    have hlc : w.heap.size + 5 <= Y.heap.size := (by omega)
    have HK2 := am (DK.out.then_ hk2 (fun k hk => .inl hk))
    have hs2 := hk2.1
    clear hv2 hm2 hk2 hc2
    refine ⟨_, rfl, ?_⟩
    refine hK.out _ _ ?_
    clear hK K
    refine nM ?_
    refine la fun K hK => ?_
    have z_q := bq X3.out
    have g_q := bq X3.out
    refine ZT (w1 := ?_) (by rfl) rfl ?_ ?_
    rotate_left
    ·go_simp
     rfl
    refine hK.out _ _ ?_
    clear hK K
    refine dn ?_
    go_wp2
    exact yH (g := w.heap.size + 3) HV2.out (by rw [HC2.out, yF, if_neg (by rw [H4_.out]; decide), if_neg (by rw [H4_.out]; decide), if_neg (by rw [H4_.out]; decide), if_neg (by rw [H4_.out]; decide), if_pos H4_.out, HU.out, if_neg HH1.out, decide_eq_false HH1.out]) (fun k h => (HM2.out k h).imp id (fun h => by omega)) X3.out rfl HB2.out HK2.out (by omega) (by omega) (fun h => by rcases h with h | h; exact absurd (HQ.out _ h) (by omega); omega) (fun k hk => by rcases hk with hk | hk; exact .inl hk; exact .inr (by omega)) rfl rfl rfl rfl
 have e4 := (beq_eq_false_iff_ne (a := op)).mpr h4
 have heq : yF cn l1 pk c m op n t e ⟨m, ⟨op, n, a, t, e⟩⟩ v next = c := by rw [yF, if_neg h0, if_neg h1, if_neg h2, if_neg h3, if_neg h4, if_neg h5, if_neg h6]
 clear h0 h1 h2 h3 h4 h5 h6
 have HEQ := am heq
 clear heq
 obtain ⟨c0, c1, c2, c3, c4, c5, c6, c7, c8, c9⟩ := yd X1.out
 have z_q := bq X3.out
 have g_q := bq X3.out
 go_wp2
 exact yH (g := w.heap.size + 3) HV1.out HEQ.out.symm (fun k h => .inl h) X3.out rfl HB1.out HK1.out (by omega) (by omega) (fun h => absurd (HQ.out _ h) (by omega)) (fun k hk => .inl hk) rfl rfl rfl rfl
def yv (c : MC) : Bool := c.ov || decide (c.td.length = 0)
theorem z3O.calls (w : World) (c : MC) (A1 : Option Addr) (n1 : Nat) (A2 : Option Addr) (n2 : Nat) (A3 : Option Addr) (n3 : Nat) (A8 : Option Addr) (n8 : Nat) :
  Calls Tryz.prog 41 #[.agg #[.int .i64 c.ed, .slice A1 c.st.length n1, .slice A2 c.ou.length n2, .slice A3 c.tr.length n3, .int .i64 c.co, .int .i64 c.us, .int .i64 c.wh, .int .i64 c.fu, .slice A8 c.td.length n8, .bool c.ov]] w fun e w' => e = .returned (.bool (yv c)) /\ Below w.heap.size w w' := by
 have hu := Tryz.underlying98
 have huR := Tryz.underlying44
 obtain ⟨ov, hov⟩ : ∃ ov, c.ov = ov := ⟨_, rfl⟩
 obtain ⟨r, hr⟩ : ∃ r, yv c = r := ⟨_, rfl⟩
 rw [hr]
 rw [yv, hov] at hr
 have hx := zH w (.cells #[.int .i64 c.ed, .slice A1 c.st.length n1, .slice A2 c.ou.length n2, .slice A3 c.tr.length n3, .int .i64 c.co, .int .i64 c.us, .int .i64 c.wh, .int .i64 c.fu, .slice A8 c.td.length n8, .bool ov] 98)
 have hb := bal (Below.refl w.heap.size w) (.cells #[.int .i64 c.ed, .slice A1 c.st.length n1, .slice A2 c.ou.length n2, .slice A3 c.tr.length n3, .int .i64 c.co, .int .i64 c.us, .int .i64 c.wh, .int .i64 c.fu, .slice A8 c.td.length n8, .bool ov] 98)
 go_enter Tryz.func41, Tryz.ntmps41
 go_upto_region 1 with (fail)
 generalize w.alloc (.cells #[.int .i64 c.ed, .slice A1 c.st.length n1, .slice A2 c.ou.length n2, .slice A3 c.tr.length n3, .int .i64 c.co, .int .i64 c.us, .int .i64 c.wh, .int .i64 c.fu, .slice A8 c.td.length n8, .bool ov] 98) = W at hx hb ⊢
 have x8 : W.cell? ⟨w.heap.size, 8, none⟩ = some (.slice A8 c.td.length n8) := (za hx 8).trans rfl
 have x9 : W.cell? ⟨w.heap.size, 9, none⟩ = some (.bool ov) := (za hx 9).trans rfl
 clear hx
 cases ov with
 | true =>
  obtain rfl : true = r := hr
  go_wp2
  go_ret
  exact ⟨rfl, hb⟩
 | false =>
  by_cases h0 : c.td.length = 0
  ·rw [h0] at x8 ⊢
   obtain rfl : true = r := by rw [<- hr, h0]; rfl
   go_wp2
   go_ret
   exact ⟨rfl, hb⟩
  ·obtain rfl : false = r := by rw [<- hr, decide_eq_false h0]; rfl
   have hbe : ((c.td.length : Int) == 0) = false := by rw [beq_eq_false_iff_ne]; omega
   clear hr h0
   go_wp2
   go_ret
   exact ⟨rfl, hb⟩
end Go.Proofs.YtnlekgadadifdaaGreat.Print
