/- For two starts whose runs are Done, the runs of a program have equal events exactly if the runs of the code that comp.Compile makes have, and the code then has equal costs; programs of at most 600 nodes. -/
import Derived.Test.YtnlekgadadifdaaGreatQ2
import Derived.Below
import Derived.Carry
import Derived.Test.YtnlekgadadifdaaGreatProg
set_option maxRecDepth 100000
set_option maxHeartbeats 16000000
set_option linter.unusedVariables false
set_option linter.unusedSimpArgs false
namespace Go.Proofs.YtnlekgadadifdaaGreat.Print
open Go.RowKit Go.Proofs.YtnlekgadadifdaaGreatW.PrintWords Go.Proofs.YtnlekgadadifdaaGreatW.PrintLast Go.Proofs.YtnlekgadadifdaaGreatW.PrintMore
attribute [local go_sem] zn zl zr zq zh zg zm zk 
def ym.f (l0 : List (S76)) (a1_0 : Int) (a1_1 : Int) (l1_2 : List (S62)) (l1_3 : List (S81)) (l1_4 : List (S81)) (a2 : Int) : Option (Bool) := if a1_1 >= 0 then (if a1_1 < (l0.length : Int) then (if 0 <= a1_1 then ((ZG.f (decide (((zp l0 a1_1).f2) > 1))).bind fun t836 => (some ((l1_2.length : Int) == (wrap64 (a2 + t836))))) else (none)) else (some false)) else (some false)
theorem ym.calls (A0 : Option Addr) (c0 : Nat) (l0 : List (S76)) (a1_0 : Int) (a1_1 : Int) (A1_2 : Option Addr) (c1_2 : Nat) (l1_2 : List (S62)) (A1_3 : Option Addr) (c1_3 : Nat) (l1_3 : List (S81)) (A1_4 : Option Addr) (c1_4 : Nat) (l1_4 : List (S81)) (a2 : Int) (r : Bool) (w : World) (hr0 : Kd.C k76 w A0 l0.length l0) (hc0 : l0.length <= c0) (hr1_2 : Kd.C k62 w A1_2 l1_2.length l1_2) (hc1_2 : l1_2.length <= c1_2) (hr1_3 : Kd.C k81 w A1_3 l1_3.length l1_3) (hc1_3 : l1_3.length <= c1_3) (hr1_4 : Kd.C k81 w A1_4 l1_4.length l1_4) (hc1_4 : l1_4.length <= c1_4) (h : ym.f l0 a1_0 a1_1 l1_2 l1_3 l1_4 a2 = some r) :
  Calls Tryz.prog 97 #[.slice A0 l0.length c0, .agg (Vh a1_0 a1_1 A1_2 l1_2 c1_2 A1_3 l1_3 c1_3 A1_4 l1_4 c1_4), .int .i64 a2] w fun e w' => e = .returned (.bool r) /\ Below w.heap.size w w' := by
 have hu81 := Tryz.underlying81
 have HR0 := am hr0
 have HC0 := am hc0
 clear hr0 hc0
 have HR1_2 := am hr1_2
 have HC1_2 := am hc1_2
 clear hr1_2 hc1_2
 have HR1_3 := am hr1_3
 have HC1_3 := am hc1_3
 clear hr1_3 hc1_3
 have HR1_4 := am hr1_4
 have HC1_4 := am hc1_4
 clear hr1_4 hc1_4
 have HB := am (jc w.heap.size w)
 have H := h
 clear h
 obtain ⟨c4b0, H⟩ | ⟨c4b0, H⟩ := ei H
 ·obtain rfl := sj H
  go_enter Tryz.func97, Tryz.ntmps97
  go_wp2_with (first | ((with_reducible refine zw (N := 4) rfl ?_); (try (refine zB (by rfl) ?_; dsimp only)); refine bx 4 rfl rfl (Vh a1_0 a1_1 A1_2 l1_2 c1_2 A1_3 l1_3 c1_3 A1_4 l1_4 c1_4) 81 ?_; intro gb834 hg w12 hbox hb; have BK834 := am (hbox); have GE834 := ge HB hg; replace HB := sb HB hb; clear hb hbox hg; have hz13 := cf5 BK834.out))
  repeat (go_quiet (first | ((with_reducible refine zw (N := 4) rfl ?_); (try (refine zB (by rfl) ?_; dsimp only)); refine bx 4 rfl rfl (Vh a1_0 a1_1 A1_2 l1_2 c1_2 A1_3 l1_3 c1_3 A1_4 l1_4 c1_4) 81 ?_; intro gb834 hg w12 hbox hb; have BK834 := am (hbox); have GE834 := ge HB hg; replace HB := sb HB hb; clear hb hbox hg; have hz13 := cf5 BK834.out)); try go_wp2)
  go_ret
  exact ⟨rr, bb HB⟩
 obtain ⟨c5b0, H⟩ | ⟨c5b0, H⟩ := ei H
 ·obtain rfl := sj H
  go_enter Tryz.func97, Tryz.ntmps97
  go_wp2_with (first | ((with_reducible refine zw (N := 4) rfl ?_); (try (refine zB (by rfl) ?_; dsimp only)); refine bx 4 rfl rfl (Vh a1_0 a1_1 A1_2 l1_2 c1_2 A1_3 l1_3 c1_3 A1_4 l1_4 c1_4) 81 ?_; intro gb834 hg w10 hbox hb; have BK834 := am (hbox); have GE834 := ge HB hg; replace HB := sb HB hb; clear hb hbox hg; have hz11 := cf5 BK834.out))
  repeat (go_quiet (first | ((with_reducible refine zw (N := 4) rfl ?_); (try (refine zB (by rfl) ?_; dsimp only)); refine bx 4 rfl rfl (Vh a1_0 a1_1 A1_2 l1_2 c1_2 A1_3 l1_3 c1_3 A1_4 l1_4 c1_4) 81 ?_; intro gb834 hg w10 hbox hb; have BK834 := am (hbox); have GE834 := ge HB hg; replace HB := sb HB hb; clear hb hbox hg; have hz11 := cf5 BK834.out)); try go_wp2)
  go_ret
  exact ⟨rr, bb HB⟩
 obtain ⟨c6b0, H⟩ := pd H
 obtain ⟨t836, A7, H⟩ := be H
 obtain rfl := sj H
 go_enter Tryz.func97, Tryz.ntmps97
 go_wp2_with (first | ((with_reducible refine zw (N := 4) rfl ?_); (try (refine zB (by rfl) ?_; dsimp only)); refine bx 4 rfl rfl (Vh a1_0 a1_1 A1_2 l1_2 c1_2 A1_3 l1_3 c1_3 A1_4 l1_4 c1_4) 81 ?_; intro gb834 hg w8 hbox hb; have BK834 := am (hbox); have GE834 := ge HB hg; replace HB := sb HB hb; clear hb hbox hg; have hz9 := cf5 BK834.out; have p835 : 0 <= (a1_1 : Int) := od; have q835 : a1_1 < (l0.length : Int) := od; obtain ⟨ad835, e835, hx835_0, hx835_1, hx835_2⟩ := Zs HR0.out a1_1 p835 q835; cases e835; replace hx835_0 := zo HB.out hx835_0; replace hx835_1 := zo HB.out hx835_1; replace hx835_2 := zo HB.out hx835_2; replace p835 := eT p835; replace q835 := eT q835) | (go_at_call 80; (with_reducible refine (ZG.calls (decide (((zp l0 a1_1).f2) > 1)) t836 _ A7.out).mono ?_); rintro e w' ⟨rfl, ⟨nd, rfl⟩⟩; (try first | exact ⟨rfl, _, jo _ _ _⟩ | exact ⟨rfl, _, Eq.trans (jo _ _ _) (congrArg (World.drewN _) (Nat.add_assoc _ _ _))⟩)))
 repeat (go_quiet (first | ((with_reducible refine zw (N := 4) rfl ?_); (try (refine zB (by rfl) ?_; dsimp only)); refine bx 4 rfl rfl (Vh a1_0 a1_1 A1_2 l1_2 c1_2 A1_3 l1_3 c1_3 A1_4 l1_4 c1_4) 81 ?_; intro gb834 hg w8 hbox hb; have BK834 := am (hbox); have GE834 := ge HB hg; replace HB := sb HB hb; clear hb hbox hg; have hz9 := cf5 BK834.out; have p835 : 0 <= (a1_1 : Int) := od; have q835 : a1_1 < (l0.length : Int) := od; obtain ⟨ad835, e835, hx835_0, hx835_1, hx835_2⟩ := Zs HR0.out a1_1 p835 q835; cases e835; replace hx835_0 := zo HB.out hx835_0; replace hx835_1 := zo HB.out hx835_1; replace hx835_2 := zo HB.out hx835_2; replace p835 := eT p835; replace q835 := eT q835) | (go_at_call 80; (with_reducible refine (ZG.calls (decide (((zp l0 a1_1).f2) > 1)) t836 _ A7.out).mono ?_); rintro e w' ⟨rfl, ⟨nd, rfl⟩⟩; (try first | exact ⟨rfl, _, jo _ _ _⟩ | exact ⟨rfl, _, Eq.trans (jo _ _ _) (congrArg (World.drewN _) (Nat.add_assoc _ _ _))⟩))); try go_wp2)
 go_ret
 exact ⟨rr, bb HB⟩
def ZR.j0 : Nat -> List (S76) -> Bool -> Int -> Int -> List (S62) -> List (S81) -> List (S81) -> Option (Bool)
 | 0, _, _, _, _, _, _, _ => none
 | k + 1, x0, x5, x838000, x838001, x838002, x838003, x838004 => if x838000 = 0 then (if x5 = true then ((ym.f x0 x838000 x838001 x838002 x838003 x838004 1).bind fun t838 => (some t838)) else (some false)) else (if x838000 = 1 then (if x838001 = 0 then (some ((x838002.length : Int) == 1)) else (some false)) else (if x838000 = 2 then (if x838001 = 0 then (if (x838002.length : Int) = 1 then (some ((x838004.length : Int) == 0)) else (some false)) else (some false)) else (if x838000 = 3 then (if x5 = true then (if x838001 >= 0 then (if x838001 <= 47 then (some ((x838002.length : Int) == 1)) else (some false)) else (some false)) else (some false)) else (if x838000 = 4 then (if x5 = true then ((ym.f x0 x838000 x838001 x838002 x838003 x838004 0).bind fun t839 => (some t839)) else (some false)) else (if x838000 = 5 then (if x5 = true then (if x838001 = 0 then (some ((x838002.length : Int) == 1)) else (some false)) else (some false)) else (if x838000 = 6 then (if x5 = true then (if x838001 = 0 then (some ((x838002.length : Int) == 1)) else (some false)) else (some false)) else (some false)))))))
def ZR.f (k : Nat) (l0 : List (S76)) (a1_0 : Int) (a1_1 : Int) (l1_2 : List (S62)) (l1_3 : List (S81)) (l1_4 : List (S81)) : Option (Bool) := if (l1_3.length : Int) = 0 then (ZR.j0 k l0 ((l1_4.length : Int) == 0) a1_0 a1_1 l1_2 l1_3 l1_4) else (ZR.j0 k l0 false a1_0 a1_1 l1_2 l1_3 l1_4)
theorem ZR.calls (k : Nat) (A0 : Option Addr) (c0 : Nat) (l0 : List (S76)) (a1_0 : Int) (a1_1 : Int) (A1_2 : Option Addr) (c1_2 : Nat) (l1_2 : List (S62)) (A1_3 : Option Addr) (c1_3 : Nat) (l1_3 : List (S81)) (A1_4 : Option Addr) (c1_4 : Nat) (l1_4 : List (S81)) (r : Bool) (w : World) (hr0 : Kd.C k76 w A0 l0.length l0) (hc0 : l0.length <= c0) (hr1_2 : Kd.C k62 w A1_2 l1_2.length l1_2) (hc1_2 : l1_2.length <= c1_2) (hr1_3 : Kd.C k81 w A1_3 l1_3.length l1_3) (hc1_3 : l1_3.length <= c1_3) (hr1_4 : Kd.C k81 w A1_4 l1_4.length l1_4) (hc1_4 : l1_4.length <= c1_4) (h : ZR.f k l0 a1_0 a1_1 l1_2 l1_3 l1_4 = some r) :
  Calls Tryz.prog 66 #[.slice A0 l0.length c0, .agg (Vh a1_0 a1_1 A1_2 l1_2 c1_2 A1_3 l1_3 c1_3 A1_4 l1_4 c1_4)] w fun e w' => e = .returned (.bool r) /\ Below w.heap.size w w' := by
 have hu81 := Tryz.underlying81
 have HR0 := am hr0
 have HC0 := am hc0
 clear hr0 hc0
 have HR1_2 := am hr1_2
 have HC1_2 := am hc1_2
 clear hr1_2 hc1_2
 have HR1_3 := am hr1_3
 have HC1_3 := am hc1_3
 clear hr1_3 hc1_3
 have HR1_4 := am hr1_4
 have HC1_4 := am hc1_4
 clear hr1_4 hc1_4
 have HB := am (jc w.heap.size w)
 have H : (if (l1_3.length : Int) = 0 then (ZR.j0 k l0 ((l1_4.length : Int) == 0) a1_0 a1_1 l1_2 l1_3 l1_4) else (ZR.j0 k l0 false a1_0 a1_1 l1_2 l1_3 l1_4)) = some r := h
 clear h
 have HC3 := am H
 clear H
 go_enter Tryz.func66, Tryz.ntmps66
 go_upto_region 1 with (first | ((with_reducible refine zw (N := 3) rfl ?_); (try (refine zB (by rfl) ?_; dsimp only)); refine bx 3 rfl rfl (Vh a1_0 a1_1 A1_2 l1_2 c1_2 A1_3 l1_3 c1_3 A1_4 l1_4 c1_4) 81 ?_; intro gb837 hg w4 hbox hb; have BK837 := am (hbox); have GE837 := ge HB hg; replace HB := sb HB hb; clear hb hbox hg))
 (try simp only [Act.put, List.setIfInBounds_toArray, List.set_cons_zero, List.set_cons_succ])
 go_cut [5] (fun v5 wc => ∃ (kq : Nat) (x5_2 : Bool), v5 = .bool x5_2 /\ Aside0 (ZR.j0 kq l0 x5_2 a1_0 a1_1 l1_2 l1_3 l1_4 = some r) /\ Aside0 (kq <= k) /\ Aside0 (wc.heap[gb837]? = some (.cells #[.int .i64 a1_0, .int .i64 a1_1, (.slice A1_2 l1_2.length c1_2), (.slice A1_3 l1_3.length c1_3), (.slice A1_4 l1_4.length c1_4)] 81 (0, 0))) /\ Aside0 (Below w.heap.size w wc))
 case first =>
  have H := HC3.out
  clear HC3
  by_cases c5 : (l1_3.length : Int) = 0
  ·rw [jb c5] at H
   have c5b0 : ((l1_3.length : Int) == 0) = true := bT c5
   have c5b1 : ((l1_3.length : Int) != 0) = false := bQ c5
   clear c5
   (first | rw [c5b0] | (simp only [zP, Zr]; rw [c5b0]) | skip)
   have H' := am H
   clear H
   have hz6 := cf5 BK837.out
   go_wp2
   go_meet
   case rel => exact ⟨_, (((l1_4.length : Int) == 0)), rs, H', ⟨by first | omega | exact jk _⟩, ⟨kk BK837⟩, ⟨bb HB⟩⟩
  rw [ja c5] at H
  have c5b0 : ((l1_3.length : Int) == 0) = false := bF c5
  have c5b1 : ((l1_3.length : Int) != 0) = true := bN c5
  have c5b2 : ¬ (l1_3 = []) := fun h_ => c5 (by rw [h_]; rfl)
  (first | rw [c5b0] | (simp only [zP, Zr]; rw [c5b0]) | skip)
  have H' := am H
  clear H
  have hz7 := cf5 BK837.out
  go_wp2
  go_meet
  case rel => exact ⟨_, (false), rs, H', ⟨by first | omega | exact jk _⟩, ⟨kk BK837⟩, ⟨bb HB⟩⟩
 case rest =>
  clear HC3
  obtain ⟨kq, x5_2, rfl, HA, HJ2, BK837, HB⟩ := hcut
  cases kq with
  | zero => exact jm HA.out (by simp [ZR.j0])
  | succ kj2 =>
   have H := HA.out
   clear HA
   simp only [ZR.j0] at H
   by_cases c8 : a1_0 = 0
   ·rw [jb c8] at H
    have c8b0 : (a1_0 == 0) = true := bT c8
    have c8b1 : (a1_0 != 0) = false := bQ c8
    clear c8
    by_cases c9 : x5_2 = true
    rotate_left
    ·replace c9 := bfa c9
     subst c9
     replace H := fi H
     obtain rfl := sj H
     have hz13 := cf5 BK837.out
     go_wp2
     go_ret
     exact ⟨rr, bb HB⟩
    subst c9
    replace H := it H
    obtain ⟨t838, A10, H⟩ := be H
    obtain rfl := sj H
    have hz11 := cf5 BK837.out
    go_wp2_with (first | (go_at_call 97; (with_reducible refine (ym.calls _ _ l0 a1_0 a1_1 _ _ l1_2 _ _ l1_3 _ _ l1_4 1 t838 _ (cb HR0 HB) HC0.out (cb HR1_2 HB) HC1_2.out (cb HR1_3 HB) HC1_3.out (cb HR1_4 HB) HC1_4.out A10.out).mono ?_); rintro e w12 ⟨rfl, hb⟩; replace BK837 := kb BK837 hb; replace HB := sb HB hb))
    go_ret
    exact ⟨rr, bb HB⟩
   rw [ja c8] at H
   have c8b0 : (a1_0 == 0) = false := bF c8
   have c8b1 : (a1_0 != 0) = true := bN c8
   by_cases c14 : a1_0 = 1
   ·rw [jb c14] at H
    have c14b0 : (a1_0 == 1) = true := bT c14
    have c14b1 : (a1_0 != 1) = false := bQ c14
    clear c14
    by_cases c15 : a1_1 = 0
    rotate_left
    ·rw [ja c15] at H
     have c15b0 : (a1_1 == 0) = false := bF c15
     have c15b1 : (a1_1 != 0) = true := bN c15
     obtain rfl := sj H
     have hz17 := cf5 BK837.out
     go_wp2
     go_ret
     exact ⟨rr, bb HB⟩
    rw [jb c15] at H
    have c15b0 : (a1_1 == 0) = true := bT c15
    have c15b1 : (a1_1 != 0) = false := bQ c15
    clear c15
    obtain rfl := sj H
    have hz16 := cf5 BK837.out
    go_wp2
    go_ret
    exact ⟨rr, bb HB⟩
   rw [ja c14] at H
   have c14b0 : (a1_0 == 1) = false := bF c14
   have c14b1 : (a1_0 != 1) = true := bN c14
   by_cases c18 : a1_0 = 2
   ·rw [jb c18] at H
    have c18b0 : (a1_0 == 2) = true := bT c18
    have c18b1 : (a1_0 != 2) = false := bQ c18
    clear c18
    by_cases c19 : a1_1 = 0
    rotate_left
    ·rw [ja c19] at H
     have c19b0 : (a1_1 == 0) = false := bF c19
     have c19b1 : (a1_1 != 0) = true := bN c19
     obtain rfl := sj H
     have hz23 := cf5 BK837.out
     go_wp2
     go_ret
     exact ⟨rr, bb HB⟩
    rw [jb c19] at H
    have c19b0 : (a1_1 == 0) = true := bT c19
    have c19b1 : (a1_1 != 0) = false := bQ c19
    clear c19
    by_cases c20 : (l1_2.length : Int) = 1
    rotate_left
    ·rw [ja c20] at H
     have c20b0 : ((l1_2.length : Int) == 1) = false := bF c20
     have c20b1 : ((l1_2.length : Int) != 1) = true := bN c20
     obtain rfl := sj H
     have hz22 := cf5 BK837.out
     go_wp2
     go_ret
     exact ⟨rr, bb HB⟩
    rw [jb c20] at H
    have c20b0 : ((l1_2.length : Int) == 1) = true := bT c20
    have c20b1 : ((l1_2.length : Int) != 1) = false := bQ c20
    clear c20
    obtain rfl := sj H
    have hz21 := cf5 BK837.out
    go_wp2
    go_ret
    exact ⟨rr, bb HB⟩
   rw [ja c18] at H
   have c18b0 : (a1_0 == 2) = false := bF c18
   have c18b1 : (a1_0 != 2) = true := bN c18
   by_cases c24 : a1_0 = 3
   ·rw [jb c24] at H
    have c24b0 : (a1_0 == 3) = true := bT c24
    have c24b1 : (a1_0 != 3) = false := bQ c24
    clear c24
    by_cases c25 : x5_2 = true
    rotate_left
    ·replace c25 := bfa c25
     subst c25
     replace H := fi H
     obtain rfl := sj H
     have hz31 := cf5 BK837.out
     go_wp2
     go_ret
     exact ⟨rr, bb HB⟩
    subst c25
    replace H := it H
    by_cases c26 : a1_1 >= 0
    rotate_left
    ·rw [ja c26] at H
     have c26b0 : decide (0 <= a1_1) = false := dF c26
     clear c26
     obtain rfl := sj H
     have hz30 := cf5 BK837.out
     go_wp2
     go_ret
     exact ⟨rr, bb HB⟩
    rw [jb c26] at H
    have c26b0 : decide (0 <= a1_1) = true := dT c26
    clear c26
    by_cases c27 : a1_1 <= 47
    ·rw [jb c27] at H
     have c27b0 : decide (a1_1 <= 47) = true := dT c27
     clear c27
     obtain rfl := sj H
     have hz28 := cf5 BK837.out
     go_wp2
     go_ret
     exact ⟨rr, bb HB⟩
    rw [ja c27] at H
    have c27b0 : decide (a1_1 <= 47) = false := dF c27
    clear c27
    obtain rfl := sj H
    have hz29 := cf5 BK837.out
    go_wp2
    go_ret
    exact ⟨rr, bb HB⟩
   rw [ja c24] at H
   have c24b0 : (a1_0 == 3) = false := bF c24
   have c24b1 : (a1_0 != 3) = true := bN c24
   by_cases c32 : a1_0 = 4
   ·rw [jb c32] at H
    have c32b0 : (a1_0 == 4) = true := bT c32
    have c32b1 : (a1_0 != 4) = false := bQ c32
    clear c32
    by_cases c33 : x5_2 = true
    rotate_left
    ·replace c33 := bfa c33
     subst c33
     replace H := fi H
     obtain rfl := sj H
     have hz37 := cf5 BK837.out
     go_wp2
     go_ret
     exact ⟨rr, bb HB⟩
    subst c33
    replace H := it H
    obtain ⟨t839, A34, H⟩ := be H
    obtain rfl := sj H
    have hz35 := cf5 BK837.out
    go_wp2_with (first | (go_at_call 97; (with_reducible refine (ym.calls _ _ l0 a1_0 a1_1 _ _ l1_2 _ _ l1_3 _ _ l1_4 0 t839 _ (cb HR0 HB) HC0.out (cb HR1_2 HB) HC1_2.out (cb HR1_3 HB) HC1_3.out (cb HR1_4 HB) HC1_4.out A34.out).mono ?_); rintro e w36 ⟨rfl, hb⟩; replace BK837 := kb BK837 hb; replace HB := sb HB hb))
    go_ret
    exact ⟨rr, bb HB⟩
   rw [ja c32] at H
   have c32b0 : (a1_0 == 4) = false := bF c32
   have c32b1 : (a1_0 != 4) = true := bN c32
   by_cases c38 : a1_0 = 5
   ·rw [jb c38] at H
    have c38b0 : (a1_0 == 5) = true := bT c38
    have c38b1 : (a1_0 != 5) = false := bQ c38
    clear c38
    by_cases c39 : x5_2 = true
    rotate_left
    ·replace c39 := bfa c39
     subst c39
     replace H := fi H
     obtain rfl := sj H
     have hz43 := cf5 BK837.out
     go_wp2
     go_ret
     exact ⟨rr, bb HB⟩
    subst c39
    replace H := it H
    by_cases c40 : a1_1 = 0
    rotate_left
    ·rw [ja c40] at H
     have c40b0 : (a1_1 == 0) = false := bF c40
     have c40b1 : (a1_1 != 0) = true := bN c40
     obtain rfl := sj H
     have hz42 := cf5 BK837.out
     go_wp2
     go_ret
     exact ⟨rr, bb HB⟩
    rw [jb c40] at H
    have c40b0 : (a1_1 == 0) = true := bT c40
    have c40b1 : (a1_1 != 0) = false := bQ c40
    clear c40
    obtain rfl := sj H
    have hz41 := cf5 BK837.out
    go_wp2
    go_ret
    exact ⟨rr, bb HB⟩
   rw [ja c38] at H
   have c38b0 : (a1_0 == 5) = false := bF c38
   have c38b1 : (a1_0 != 5) = true := bN c38
   by_cases c44 : a1_0 = 6
   rotate_left
   ·rw [ja c44] at H
    have c44b0 : (a1_0 == 6) = false := bF c44
    have c44b1 : (a1_0 != 6) = true := bN c44
    obtain rfl := sj H
    have hz50 := cf5 BK837.out
    go_wp2
    go_ret
    exact ⟨rr, bb HB⟩
   rw [jb c44] at H
   have c44b0 : (a1_0 == 6) = true := bT c44
   have c44b1 : (a1_0 != 6) = false := bQ c44
   clear c44
   by_cases c45 : x5_2 = true
   rotate_left
   ·replace c45 := bfa c45
    subst c45
    replace H := fi H
    obtain rfl := sj H
    have hz49 := cf5 BK837.out
    go_wp2
    go_ret
    exact ⟨rr, bb HB⟩
   subst c45
   replace H := it H
   by_cases c46 : a1_1 = 0
   rotate_left
   ·rw [ja c46] at H
    have c46b0 : (a1_1 == 0) = false := bF c46
    have c46b1 : (a1_1 != 0) = true := bN c46
    obtain rfl := sj H
    have hz48 := cf5 BK837.out
    go_wp2
    go_ret
    exact ⟨rr, bb HB⟩
   rw [jb c46] at H
   have c46b0 : (a1_1 == 0) = true := bT c46
   have c46b1 : (a1_1 != 0) = false := bQ c46
   clear c46
   obtain rfl := sj H
   have hz47 := cf5 BK837.out
   go_wp2
   go_ret
   exact ⟨rr, bb HB⟩
mutual
def zU.l0 : Nat -> Int -> List (S76) -> List (S81) -> Int -> Option (Bool)
 | 0, _, _, _, _ => none
 | k + 1, x0, x1, x2, x7 => if x7 < (x2.length : Int) then (if 0 <= x7 then ((ZR.f k x1 ((zu x2 x7).f0) ((zu x2 x7).f1) ((zu x2 x7).f2) ((zu x2 x7).f3) ((zu x2 x7).f4)).bind fun t860 => (if t860 = true then ((zU.f k x0 x1 ((zu x2 x7).f3)).bind fun t862 => (if t862 = true then ((zU.f k x0 x1 ((zu x2 x7).f4)).bind fun t864 => (zU.j1 k x0 x1 x2 x7 (!t864))) else (zU.j1 k x0 x1 x2 x7 true))) else (zU.j1 k x0 x1 x2 x7 true))) else (none)) else (some true)
def zU.j1 : Nat -> Int -> List (S76) -> List (S81) -> Int -> Bool -> Option (Bool)
 | 0, _, _, _, _, _ => none
 | k + 1, x0, x1, x2, x7, x43 => if x43 = true then (some false) else (zU.l1 k x0 x1 x2 x7 0)
def zU.l1 : Nat -> Int -> List (S76) -> List (S81) -> Int -> Int -> Option (Bool)
 | 0, _, _, _, _, _ => none
 | k + 1, x0, x1, x2, x7, x8 => if 0 <= x7 then (if x7 < (x2.length : Int) then (if x8 < (((zu x2 x7).f2).length : Int) then (if 0 <= x8 then ((z2O.f k x0 x1 1 ((zi ((zu x2 x7).f2) x8).f0) ((zi ((zu x2 x7).f2) x8).f1) ((zi ((zu x2 x7).f2) x8).f2) ((zi ((zu x2 x7).f2) x8).f3)).bind fun t868 => (if t868 = true then (zU.l1 k x0 x1 x2 x7 (wrap64 (x8 + 1))) else (some false))) else (none)) else (zU.l0 k x0 x1 x2 (wrap64 (x7 + 1)))) else (none)) else (none)
def zU.f : Nat -> Int -> List (S76) -> List (S81) -> Option (Bool)
 | 0, _, _, _ => none
 | k + 1, a0, l1, l2 => zU.l0 k a0 l1 l2 0
end
theorem zU.calls (k : Nat) : ∀ (a0 : Int) (A1 : Option Addr) (c1 : Nat) (l1 : List (S76)) (A2 : Option Addr) (c2 : Nat) (l2 : List (S81)) (r : Bool) (w : World) (hr1 : Kd.C k76 w A1 l1.length l1) (hc1 : l1.length <= c1) (hr2 : Kd.C k81 w A2 l2.length l2) (hc2 : l2.length <= c2) (h : zU.f k a0 l1 l2 = some r),
  Calls Tryz.prog 37 (Vf a0 A1 l1 c1 A2 l2 c2) w fun e w' => e = .returned (.bool r) /\ Below w.heap.size w w' := by
 induction k using Nat.strongRecOn with
 | _ k ih =>
 intro a0 A1 c1 l1 A2 c2 l2 r w hr1 hc1 hr2 hc2 h
 cases k with
 | zero => exact jm h (by simp [zU.f])
 | succ k =>
 simp only [zU.f] at h
 have hu81 := Tryz.underlying81
 have hu62 := Tryz.underlying62
 have HR1 := am hr1
 have HC1 := am hc1
 clear hr1 hc1
 have HR2 := am hr2
 have HC2 := am hc2
 clear hr2 hc2
 have HB := am (jc w.heap.size w)
 have H := h
 clear h
 have H' := am H
 clear H
 go_enter Tryz.func37, Tryz.ntmps37
 go_wp2
 go_loopg [7] k (fun kq v7 w' => ∃ (x7_1 : Int), v7 = .int .i64 x7_1 /\ Aside0 (zU.l0 kq a0 l1 l2 x7_1 = some r) /\ Aside0 (kq <= k) /\ Aside0 (Below w.heap.size w w'))
 case atStart => exact ⟨(0), rs, H', ⟨jk _⟩, ⟨bb HB⟩⟩
 case round =>
  clear H'
  obtain ⟨x7_1, rfl, HA, HK1, HB⟩ := hrel
  cases gk with
  | zero => exact jm HA.out (by simp [zU.l0])
  | succ k1 =>
   have H := HA.out
   clear HA
   simp only [zU.l0] at H
   obtain ⟨c4b0, H⟩ | ⟨c4b0, H⟩ := ei H
   ·obtain rfl := sj H
    go_wp2
    go_ret
    exact ⟨rr, bb HB⟩
   have HC5 := am H
   clear H
   go_upto_region 4 with (fail)
   go_cut [43] (fun v43 wc => ∃ (kq : Nat) (x43_4 : Bool), v43 = .bool x43_4 /\ Aside0 (zU.j1 kq a0 l1 l2 x7_1 x43_4 = some r) /\ Aside0 (kq <= k1) /\ Aside0 (Below w.heap.size w wc))
   case first =>
    have H := HC5.out
    clear HC5
    obtain ⟨c6b0, H⟩ := pd H
    (first | rw [c6b0] | (simp only [zP, Zr]; rw [c6b0]) | skip)
    obtain ⟨t860, A7, H⟩ := be H
    replace H := ob H
    obtain ⟨rfl, H⟩ | ⟨rfl, H⟩ := H
    ·have H' := am H
     clear H
     have p859 : 0 <= (x7_1 : Int) := od
     have q859 : x7_1 < (l2.length : Int) := od
     obtain ⟨ad859, A859_2, c859_2, A859_3, c859_3, A859_4, c859_4, e859, hx859_0, hx859_1, hx859_2, hx859_3, hx859_4, hl859_2, hi859_2, hl859_3, hi859_3, hl859_4, hi859_4⟩ := yH HR2.out x7_1 p859 q859
     cases e859
     replace hx859_0 := zo HB.out hx859_0
     replace hx859_1 := zo HB.out hx859_1
     replace hx859_2 := zo HB.out hx859_2
     replace hx859_3 := zo HB.out hx859_3
     replace hx859_4 := zo HB.out hx859_4
     have HR859_2 := am hi859_2
     have HC859_2 := am hl859_2
     clear hi859_2 hl859_2
     have HR859_3 := am hi859_3
     have HC859_3 := am hl859_3
     clear hi859_3 hl859_3
     have HR859_4 := am hi859_4
     have HC859_4 := am hl859_4
     clear hi859_4 hl859_4
     replace p859 := eT p859
     replace q859 := eT q859
     go_wp2_with (first | (go_at_call 66; (with_reducible refine (ZR.calls k1 _ _ l1 ((zu l2 x7_1).f0) ((zu l2 x7_1).f1) _ _ ((zu l2 x7_1).f2) _ _ ((zu l2 x7_1).f3) _ _ ((zu l2 x7_1).f4) false _ (cb HR1 HB) HC1.out (cb HR859_2 HB) HC859_2.out (cb HR859_3 HB) HC859_3.out (cb HR859_4 HB) HC859_4.out A7.out).mono ?_); rintro e w17 ⟨rfl, hb⟩; replace HB := sb HB hb))
     go_meet
     case rel => exact ⟨_, (true), rs, H', ⟨by have := HK1.out; first | omega | exact jk _⟩, ⟨bb HB⟩⟩
    obtain ⟨t862, A9, H⟩ := be H
    replace H := ob H
    obtain ⟨rfl, H⟩ | ⟨rfl, H⟩ := H
    ·have H' := am H
     clear H
     have p859 : 0 <= (x7_1 : Int) := od
     have q859 : x7_1 < (l2.length : Int) := od
     obtain ⟨ad859, A859_2, c859_2, A859_3, c859_3, A859_4, c859_4, e859, hx859_0, hx859_1, hx859_2, hx859_3, hx859_4, hl859_2, hi859_2, hl859_3, hi859_3, hl859_4, hi859_4⟩ := yH HR2.out x7_1 p859 q859
     cases e859
     replace hx859_0 := zo HB.out hx859_0
     replace hx859_1 := zo HB.out hx859_1
     replace hx859_2 := zo HB.out hx859_2
     replace hx859_3 := zo HB.out hx859_3
     replace hx859_4 := zo HB.out hx859_4
     have HR859_2 := am hi859_2
     have HC859_2 := am hl859_2
     clear hi859_2 hl859_2
     have HR859_3 := am hi859_3
     have HC859_3 := am hl859_3
     clear hi859_3 hl859_3
     have HR859_4 := am hi859_4
     have HC859_4 := am hl859_4
     clear hi859_4 hl859_4
     replace p859 := eT p859
     replace q859 := eT q859
     go_wp2_with (first | (go_at_call 66; (with_reducible refine (ZR.calls k1 _ _ l1 ((zu l2 x7_1).f0) ((zu l2 x7_1).f1) _ _ ((zu l2 x7_1).f2) _ _ ((zu l2 x7_1).f3) _ _ ((zu l2 x7_1).f4) true _ (cb HR1 HB) HC1.out (cb HR859_2 HB) HC859_2.out (cb HR859_3 HB) HC859_3.out (cb HR859_4 HB) HC859_4.out A7.out).mono ?_); rintro e w15 ⟨rfl, hb⟩; replace HB := sb HB hb; have p861 : 0 <= (x7_1 : Int) := od; have q861 : x7_1 < (l2.length : Int) := od; obtain ⟨ad861, A861_2, c861_2, A861_3, c861_3, A861_4, c861_4, e861, hx861_0, hx861_1, hx861_2, hx861_3, hx861_4, hl861_2, hi861_2, hl861_3, hi861_3, hl861_4, hi861_4⟩ := yH HR2.out x7_1 p861 q861; obtain rfl : ad859 = ad861 := (by injection e861); replace hx861_0 := zo HB.out hx861_0; replace hx861_1 := zo HB.out hx861_1; replace hx861_2 := zo HB.out hx861_2; replace hx861_3 := zo HB.out hx861_3; replace hx861_4 := zo HB.out hx861_4; have HR861_2 := am hi861_2; have HC861_2 := am hl861_2; clear hi861_2 hl861_2; have HR861_3 := am hi861_3; have HC861_3 := am hl861_3; clear hi861_3 hl861_3; have HR861_4 := am hi861_4; have HC861_4 := am hl861_4; clear hi861_4 hl861_4; replace p861 := eT p861; replace q861 := eT q861) | (go_at_call 37; (with_reducible refine (ih k1 (by have := HK1.out; omega) a0 _ _ l1 _ _ ((zu l2 x7_1).f3) false _ (cb HR1 HB) HC1.out (cb HR861_3 HB) HC861_3.out A9.out).mono ?_); rintro e w16 ⟨rfl, hb⟩; replace HB := sb HB hb))
     go_meet
     case rel => exact ⟨_, (true), rs, H', ⟨by have := HK1.out; first | omega | exact jk _⟩, ⟨bb HB⟩⟩
    obtain ⟨t864, A11, H⟩ := be H
    have H' := am H
    clear H
    have p859 : 0 <= (x7_1 : Int) := od
    have q859 : x7_1 < (l2.length : Int) := od
    obtain ⟨ad859, A859_2, c859_2, A859_3, c859_3, A859_4, c859_4, e859, hx859_0, hx859_1, hx859_2, hx859_3, hx859_4, hl859_2, hi859_2, hl859_3, hi859_3, hl859_4, hi859_4⟩ := yH HR2.out x7_1 p859 q859
    cases e859
    replace hx859_0 := zo HB.out hx859_0
    replace hx859_1 := zo HB.out hx859_1
    replace hx859_2 := zo HB.out hx859_2
    replace hx859_3 := zo HB.out hx859_3
    replace hx859_4 := zo HB.out hx859_4
    have HR859_2 := am hi859_2
    have HC859_2 := am hl859_2
    clear hi859_2 hl859_2
    have HR859_3 := am hi859_3
    have HC859_3 := am hl859_3
    clear hi859_3 hl859_3
    have HR859_4 := am hi859_4
    have HC859_4 := am hl859_4
    clear hi859_4 hl859_4
    replace p859 := eT p859
    replace q859 := eT q859
    go_wp2_with (first | (go_at_call 66; (with_reducible refine (ZR.calls k1 _ _ l1 ((zu l2 x7_1).f0) ((zu l2 x7_1).f1) _ _ ((zu l2 x7_1).f2) _ _ ((zu l2 x7_1).f3) _ _ ((zu l2 x7_1).f4) true _ (cb HR1 HB) HC1.out (cb HR859_2 HB) HC859_2.out (cb HR859_3 HB) HC859_3.out (cb HR859_4 HB) HC859_4.out A7.out).mono ?_); rintro e w12 ⟨rfl, hb⟩; replace HB := sb HB hb; have p861 : 0 <= (x7_1 : Int) := od; have q861 : x7_1 < (l2.length : Int) := od; obtain ⟨ad861, A861_2, c861_2, A861_3, c861_3, A861_4, c861_4, e861, hx861_0, hx861_1, hx861_2, hx861_3, hx861_4, hl861_2, hi861_2, hl861_3, hi861_3, hl861_4, hi861_4⟩ := yH HR2.out x7_1 p861 q861; obtain rfl : ad859 = ad861 := (by injection e861); replace hx861_0 := zo HB.out hx861_0; replace hx861_1 := zo HB.out hx861_1; replace hx861_2 := zo HB.out hx861_2; replace hx861_3 := zo HB.out hx861_3; replace hx861_4 := zo HB.out hx861_4; have HR861_2 := am hi861_2; have HC861_2 := am hl861_2; clear hi861_2 hl861_2; have HR861_3 := am hi861_3; have HC861_3 := am hl861_3; clear hi861_3 hl861_3; have HR861_4 := am hi861_4; have HC861_4 := am hl861_4; clear hi861_4 hl861_4; replace p861 := eT p861; replace q861 := eT q861) | (go_at_call 37; (with_reducible refine (ih k1 (by have := HK1.out; omega) a0 _ _ l1 _ _ ((zu l2 x7_1).f3) true _ (cb HR1 HB) HC1.out (cb HR861_3 HB) HC861_3.out A9.out).mono ?_); rintro e w13 ⟨rfl, hb⟩; replace HB := sb HB hb; have p863 : 0 <= (x7_1 : Int) := od; have q863 : x7_1 < (l2.length : Int) := od; obtain ⟨ad863, A863_2, c863_2, A863_3, c863_3, A863_4, c863_4, e863, hx863_0, hx863_1, hx863_2, hx863_3, hx863_4, hl863_2, hi863_2, hl863_3, hi863_3, hl863_4, hi863_4⟩ := yH HR2.out x7_1 p863 q863; obtain rfl : ad859 = ad863 := (by injection e863); replace hx863_0 := zo HB.out hx863_0; replace hx863_1 := zo HB.out hx863_1; replace hx863_2 := zo HB.out hx863_2; replace hx863_3 := zo HB.out hx863_3; replace hx863_4 := zo HB.out hx863_4; have HR863_2 := am hi863_2; have HC863_2 := am hl863_2; clear hi863_2 hl863_2; have HR863_3 := am hi863_3; have HC863_3 := am hl863_3; clear hi863_3 hl863_3; have HR863_4 := am hi863_4; have HC863_4 := am hl863_4; clear hi863_4 hl863_4; replace p863 := eT p863; replace q863 := eT q863) | (go_at_call 37; (with_reducible refine (ih k1 (by have := HK1.out; omega) a0 _ _ l1 _ _ ((zu l2 x7_1).f4) t864 _ (cb HR1 HB) HC1.out (cb HR863_4 HB) HC863_4.out A11.out).mono ?_); rintro e w14 ⟨rfl, hb⟩; replace HB := sb HB hb))
    go_meet
    case rel => exact ⟨_, (!t864), rs, H', ⟨by have := HK1.out; first | omega | exact jk _⟩, ⟨bb HB⟩⟩
   case rest =>
    clear HC5
    obtain ⟨kq, x43_4, rfl, HA, HJ4, HB⟩ := hcut
    cases kq with
    | zero => exact jm HA.out (by simp [zU.j1])
    | succ kj4 =>
     have H := HA.out
     clear HA
     simp only [zU.j1] at H
     replace H := bo H
     obtain ⟨rfl, H⟩ | ⟨rfl, H⟩ := H
     ·obtain rfl := sj H
      go_wp2
      go_ret
      exact ⟨rr, bb HB⟩
     have H' := am H
     clear H
     go_wp2
     go_loopg [8] kj4 (fun kq v8 w' => ∃ (x8_3 : Int), v8 = .int .i64 x8_3 /\ Aside0 (zU.l1 kq a0 l1 l2 x7_1 x8_3 = some r) /\ Aside0 (kq <= kj4) /\ Aside0 (Below w.heap.size w w'))
     case atStart => exact ⟨(0), rs, H', ⟨jk _⟩, ⟨bb HB⟩⟩
     case round =>
      clear H'
      obtain ⟨x8_3, rfl, HA, HK3, HB⟩ := hrel
      cases gk with
      | zero => exact jm HA.out (by simp [zU.l1])
      | succ k3 =>
       have H := HA.out
       clear HA
       simp only [zU.l1] at H
       obtain ⟨c19b0, H⟩ := pd H
       obtain ⟨c20b0, H⟩ := pd H
       obtain ⟨c21b0, H⟩ | ⟨c21b0, H⟩ := ei H
       ·have H' := am H
        clear H
        have p865 : 0 <= (x7_1 : Int) := od
        have q865 : x7_1 < (l2.length : Int) := od
        obtain ⟨ad865, A865_2, c865_2, A865_3, c865_3, A865_4, c865_4, e865, hx865_0, hx865_1, hx865_2, hx865_3, hx865_4, hl865_2, hi865_2, hl865_3, hi865_3, hl865_4, hi865_4⟩ := yH HR2.out x7_1 p865 q865
        cases e865
        replace hx865_0 := zo HB.out hx865_0
        replace hx865_1 := zo HB.out hx865_1
        replace hx865_2 := zo HB.out hx865_2
        replace hx865_3 := zo HB.out hx865_3
        replace hx865_4 := zo HB.out hx865_4
        have HR865_2 := am hi865_2
        have HC865_2 := am hl865_2
        clear hi865_2 hl865_2
        have HR865_3 := am hi865_3
        have HC865_3 := am hl865_3
        clear hi865_3 hl865_3
        have HR865_4 := am hi865_4
        have HC865_4 := am hl865_4
        clear hi865_4 hl865_4
        replace p865 := eT p865
        replace q865 := eT q865
        go_wp2
        go_roundg k3
        case measure => have := HK1.out; have := HJ4.out; have := HK3.out; omega
        case rel => exact ⟨(wrap64 (x7_1 + 1)), rs, H', ⟨by have := HK1.out; have := HJ4.out; have := HK3.out; omega⟩, ⟨bb HB⟩⟩
       obtain ⟨c22b0, H⟩ := pd H
       obtain ⟨t868, A23, H⟩ := be H
       replace H := ob H
       obtain ⟨rfl, H⟩ | ⟨rfl, H⟩ := H
       ·obtain rfl := sj H
        have p865 : 0 <= (x7_1 : Int) := od
        have q865 : x7_1 < (l2.length : Int) := od
        obtain ⟨ad865, A865_2, c865_2, A865_3, c865_3, A865_4, c865_4, e865, hx865_0, hx865_1, hx865_2, hx865_3, hx865_4, hl865_2, hi865_2, hl865_3, hi865_3, hl865_4, hi865_4⟩ := yH HR2.out x7_1 p865 q865
        cases e865
        replace hx865_0 := zo HB.out hx865_0
        replace hx865_1 := zo HB.out hx865_1
        replace hx865_2 := zo HB.out hx865_2
        replace hx865_3 := zo HB.out hx865_3
        replace hx865_4 := zo HB.out hx865_4
        have HR865_2 := am hi865_2
        have HC865_2 := am hl865_2
        clear hi865_2 hl865_2
        have HR865_3 := am hi865_3
        have HC865_3 := am hl865_3
        clear hi865_3 hl865_3
        have HR865_4 := am hi865_4
        have HC865_4 := am hl865_4
        clear hi865_4 hl865_4
        replace p865 := eT p865
        replace q865 := eT q865
        have p867 : 0 <= (x8_3 : Int) := od
        have q867 : x8_3 < (((zu l2 x7_1).f2).length : Int) := od
        obtain ⟨ad867, A867_3, c867_3, e867, hx867_0, hx867_1, hx867_2, hx867_3, hl867_3, hi867_3⟩ := Zk HR865_2.out x8_3 p867 q867
        cases e867
        replace hx867_0 := zo HB.out hx867_0
        replace hx867_1 := zo HB.out hx867_1
        replace hx867_2 := zo HB.out hx867_2
        replace hx867_3 := zo HB.out hx867_3
        have HR867_3 := am hi867_3
        have HC867_3 := am hl867_3
        clear hi867_3 hl867_3
        replace p867 := eT p867
        replace q867 := eT q867
        go_wp2_with (first | (go_at_call 67; (with_reducible refine (z2O.calls k3 a0 _ _ l1 1 ((zi ((zu l2 x7_1).f2) x8_3).f0) ((zi ((zu l2 x7_1).f2) x8_3).f1) ((zi ((zu l2 x7_1).f2) x8_3).f2) _ _ ((zi ((zu l2 x7_1).f2) x8_3).f3) false _ (cb HR1 HB) HC1.out (cb HR867_3 HB) HC867_3.out A23.out).mono ?_); rintro e w26 ⟨rfl, hb⟩; replace HB := sb HB hb))
        go_ret
        exact ⟨rr, bb HB⟩
       have H' := am H
       clear H
       have p865 : 0 <= (x7_1 : Int) := od
       have q865 : x7_1 < (l2.length : Int) := od
       obtain ⟨ad865, A865_2, c865_2, A865_3, c865_3, A865_4, c865_4, e865, hx865_0, hx865_1, hx865_2, hx865_3, hx865_4, hl865_2, hi865_2, hl865_3, hi865_3, hl865_4, hi865_4⟩ := yH HR2.out x7_1 p865 q865
       cases e865
       replace hx865_0 := zo HB.out hx865_0
       replace hx865_1 := zo HB.out hx865_1
       replace hx865_2 := zo HB.out hx865_2
       replace hx865_3 := zo HB.out hx865_3
       replace hx865_4 := zo HB.out hx865_4
       have HR865_2 := am hi865_2
       have HC865_2 := am hl865_2
       clear hi865_2 hl865_2
       have HR865_3 := am hi865_3
       have HC865_3 := am hl865_3
       clear hi865_3 hl865_3
       have HR865_4 := am hi865_4
       have HC865_4 := am hl865_4
       clear hi865_4 hl865_4
       replace p865 := eT p865
       replace q865 := eT q865
       have p867 : 0 <= (x8_3 : Int) := od
       have q867 : x8_3 < (((zu l2 x7_1).f2).length : Int) := od
       obtain ⟨ad867, A867_3, c867_3, e867, hx867_0, hx867_1, hx867_2, hx867_3, hl867_3, hi867_3⟩ := Zk HR865_2.out x8_3 p867 q867
       cases e867
       replace hx867_0 := zo HB.out hx867_0
       replace hx867_1 := zo HB.out hx867_1
       replace hx867_2 := zo HB.out hx867_2
       replace hx867_3 := zo HB.out hx867_3
       have HR867_3 := am hi867_3
       have HC867_3 := am hl867_3
       clear hi867_3 hl867_3
       replace p867 := eT p867
       replace q867 := eT q867
       go_wp2_with (first | (go_at_call 67; (with_reducible refine (z2O.calls k3 a0 _ _ l1 1 ((zi ((zu l2 x7_1).f2) x8_3).f0) ((zi ((zu l2 x7_1).f2) x8_3).f1) ((zi ((zu l2 x7_1).f2) x8_3).f2) _ _ ((zi ((zu l2 x7_1).f2) x8_3).f3) true _ (cb HR1 HB) HC1.out (cb HR867_3 HB) HC867_3.out A23.out).mono ?_); rintro e w25 ⟨rfl, hb⟩; replace HB := sb HB hb))
       go_roundg k3
       case measure => have := HK1.out; have := HJ4.out; have := HK3.out; omega
       case rel => exact ⟨(wrap64 (x8_3 + 1)), rs, H', ⟨by have := HK1.out; have := HJ4.out; have := HK3.out; omega⟩, ⟨bb HB⟩⟩
def z2g.f (k : Nat) (a0_0 : Int) (l0_1 : List (S76)) (l0_2 : List (S81)) : Option (Bool) := (zK.f k a0_0 l0_1).bind fun t870 => (if t870 = true then ((yI.f k l0_2 400).bind fun t871 => (if t871 = true then ((zY.f k l0_2).bind fun t872 => (if t872 <= 16 then ((zU.f k a0_0 l0_1 l0_2).bind fun t873 => (some t873)) else (some false))) else (some false))) else (some false))
theorem z2g.calls (k : Nat) (a0_0 : Int) (A0_1 : Option Addr) (c0_1 : Nat) (l0_1 : List (S76)) (A0_2 : Option Addr) (c0_2 : Nat) (l0_2 : List (S81)) (r : Bool) (w : World) (hr0_1 : Kd.C k76 w A0_1 l0_1.length l0_1) (hc0_1 : l0_1.length <= c0_1) (hr0_2 : Kd.C k81 w A0_2 l0_2.length l0_2) (hc0_2 : l0_2.length <= c0_2) (h : z2g.f k a0_0 l0_1 l0_2 = some r) :
  Calls Tryz.prog 10 #[.agg (Vf a0_0 A0_1 l0_1 c0_1 A0_2 l0_2 c0_2)] w fun e w' => e = .returned (.bool r) /\ Below w.heap.size w w' := by
 have hu25 := Tryz.underlying25
 have HR0_1 := am hr0_1
 have HC0_1 := am hc0_1
 clear hr0_1 hc0_1
 have HR0_2 := am hr0_2
 have HC0_2 := am hc0_2
 clear hr0_2 hc0_2
 have HB := am (jc w.heap.size w)
 have H := h
 clear h
 obtain ⟨t870, A2, H⟩ := be H
 replace H := ob H
 obtain ⟨rfl, H⟩ | ⟨rfl, H⟩ := H
 ·obtain rfl := sj H
  go_enter Tryz.func10, Tryz.ntmps10
  go_wp2_with (first | ((with_reducible refine zw (N := 1) rfl ?_); refine bz HB 1 rfl rfl (Vf a0_0 A0_1 l0_1 c0_1 A0_2 l0_2 c0_2) 25 ?_; intro gb869 w30 BK869 GE869 HB; have hz31 := cf3 BK869.out) | (go_at_call 35; (with_reducible refine (zK.calls k a0_0 _ _ l0_1 false _ (cb HR0_1 HB) HC0_1.out A2.out).mono ?_); rintro e w32 ⟨rfl, hb⟩; replace BK869 := kb BK869 hb; replace HB := sb HB hb))
  go_ret
  exact ⟨rr, bb HB⟩
 obtain ⟨t871, A4, H⟩ := be H
 replace H := ob H
 obtain ⟨rfl, H⟩ | ⟨rfl, H⟩ := H
 ·obtain rfl := sj H
  go_enter Tryz.func10, Tryz.ntmps10
  go_wp2_with (first | ((with_reducible refine zw (N := 1) rfl ?_); refine bz HB 1 rfl rfl (Vf a0_0 A0_1 l0_1 c0_1 A0_2 l0_2 c0_2) 25 ?_; intro gb869 w25 BK869 GE869 HB; have hz26 := cf3 BK869.out) | (go_at_call 35; (with_reducible refine (zK.calls k a0_0 _ _ l0_1 true _ (cb HR0_1 HB) HC0_1.out A2.out).mono ?_); rintro e w27 ⟨rfl, hb⟩; replace BK869 := kb BK869 hb; replace HB := sb HB hb; have hz28 := cf3 BK869.out) | (go_at_call 7; (with_reducible refine (yI.calls k _ _ l0_2 400 false _ (cb HR0_2 HB) HC0_2.out A4.out).mono ?_); rintro e w29 ⟨rfl, hb⟩; replace BK869 := kb BK869 hb; replace HB := sb HB hb))
  go_ret
  exact ⟨rr, bb HB⟩
 obtain ⟨t872, A6, H⟩ := be H
 obtain ⟨c7b0, H⟩ | ⟨c7b0, H⟩ := ei H
 ·obtain rfl := sj H
  go_enter Tryz.func10, Tryz.ntmps10
  go_wp2_with (first | ((with_reducible refine zw (N := 1) rfl ?_); refine bz HB 1 rfl rfl (Vf a0_0 A0_1 l0_1 c0_1 A0_2 l0_2 c0_2) 25 ?_; intro gb869 w18 BK869 GE869 HB; have hz19 := cf3 BK869.out) | (go_at_call 35; (with_reducible refine (zK.calls k a0_0 _ _ l0_1 true _ (cb HR0_1 HB) HC0_1.out A2.out).mono ?_); rintro e w20 ⟨rfl, hb⟩; replace BK869 := kb BK869 hb; replace HB := sb HB hb; have hz21 := cf3 BK869.out) | (go_at_call 7; (with_reducible refine (yI.calls k _ _ l0_2 400 true _ (cb HR0_2 HB) HC0_2.out A4.out).mono ?_); rintro e w22 ⟨rfl, hb⟩; replace BK869 := kb BK869 hb; replace HB := sb HB hb; have hz23 := cf3 BK869.out) | (go_at_call 36; (with_reducible refine (zY.calls k _ _ l0_2 t872 _ (cb HR0_2 HB) HC0_2.out A6.out).mono ?_); rintro e w24 ⟨rfl, hb⟩; replace BK869 := kb BK869 hb; replace HB := sb HB hb))
  go_ret
  exact ⟨rr, bb HB⟩
 obtain ⟨t873, A8, H⟩ := be H
 obtain rfl := sj H
 go_enter Tryz.func10, Tryz.ntmps10
 go_wp2_with (first | ((with_reducible refine zw (N := 1) rfl ?_); refine bz HB 1 rfl rfl (Vf a0_0 A0_1 l0_1 c0_1 A0_2 l0_2 c0_2) 25 ?_; intro gb869 w9 BK869 GE869 HB; have hz10 := cf3 BK869.out) | (go_at_call 35; (with_reducible refine (zK.calls k a0_0 _ _ l0_1 true _ (cb HR0_1 HB) HC0_1.out A2.out).mono ?_); rintro e w11 ⟨rfl, hb⟩; replace BK869 := kb BK869 hb; replace HB := sb HB hb; have hz12 := cf3 BK869.out) | (go_at_call 7; (with_reducible refine (yI.calls k _ _ l0_2 400 true _ (cb HR0_2 HB) HC0_2.out A4.out).mono ?_); rintro e w13 ⟨rfl, hb⟩; replace BK869 := kb BK869 hb; replace HB := sb HB hb; have hz14 := cf3 BK869.out) | (go_at_call 36; (with_reducible refine (zY.calls k _ _ l0_2 t872 _ (cb HR0_2 HB) HC0_2.out A6.out).mono ?_); rintro e w15 ⟨rfl, hb⟩; replace BK869 := kb BK869 hb; replace HB := sb HB hb; have hz16 := cf3 BK869.out) | (go_at_call 37; (with_reducible refine (zU.calls k a0_0 _ _ l0_1 _ _ l0_2 t873 _ (cb HR0_1 HB) HC0_1.out (cb HR0_2 HB) HC0_2.out A8.out).mono ?_); rintro e w17 ⟨rfl, hb⟩; replace BK869 := kb BK869 hb; replace HB := sb HB hb))
 go_ret
 exact ⟨rr, bb HB⟩
theorem z1k {P : S81 -> Prop} {Q : List S81 -> Prop} (node : ∀ a b l t e, Q t -> Q e -> P ⟨a, b, l, t, e⟩) (nil : Q []) (cons : ∀ x r, P x -> Q r -> Q (x :: r)) : (∀ x, P x) /\ (∀ l, Q l) :=
 ⟨fun x => S81.rec (motive_1 := P) (motive_2 := Q) node nil cons x, fun l => S81.rec_1 (motive_1 := P) (motive_2 := Q) node nil cons l⟩
mutual
def sN : S81 -> Nat
 | ⟨_, _, a, t, e⟩ => 1 + eNs a + sNs t + sNs e
def sNs : List S81 -> Nat
 | [] => 0
 | x :: r => sN x + sNs r
end
mutual
def sC : S81 -> Nat
 | ⟨_, _, _, t, e⟩ => 1 + sCs t + sCs e
def sCs : List S81 -> Nat
 | [] => 0
 | x :: r => sC x + sCs r
end
mutual
def sD : S81 -> Nat
 | ⟨_, _, _, t, e⟩ => 1 + max (sDs t) (sDs e)
def sDs : List S81 -> Nat
 | [] => 0
 | x :: r => max (sD x) (sDs r)
end
theorem z0j (x : S81) : sN x = 1 + eNs x.f2 + sNs x.f3 + sNs x.f4 := by cases x; simp only [sN]
theorem z0R (x : S81) : sC x = 1 + sCs x.f3 + sCs x.f4 := by cases x; simp only [sC]
theorem z3u (x : S81) : sD x = 1 + max (sDs x.f3) (sDs x.f4) := by cases x; simp only [sD]
theorem z2w : sNs [] = 0 := by simp only [sNs]
theorem z0z : sCs [] = 0 := by simp only [sCs]
theorem z3Q : sDs [] = 0 := by simp only [sDs]
theorem yF (x : S81) (r : List S81) : sNs (x :: r) = sN x + sNs r := by simp only [sNs]
theorem Yq (x : S81) (r : List S81) : sCs (x :: r) = sC x + sCs r := by simp only [sCs]
theorem z0Q (x : S81) (r : List S81) : sDs (x :: r) = max (sD x) (sDs r) := by simp only [sDs]
theorem z64 : eNs [] = 0 := by simp only [eNs]
theorem z4K (x : S62) (r : List S62) : eNs (x :: r) = eN x + eNs r := by simp only [eNs]
theorem z73 : (∀ x, sC x <= sN x /\ sD x <= sN x) /\ (∀ l, sCs l <= sNs l /\ sDs l <= sNs l) := by
 refine z1k (fun a b l t e h1 h2 => ?_) ⟨by rw [z0z]; omega, by rw [z3Q]; omega⟩ (fun x r h1 h2 => ?_)
 ·rw [z0R, z3u, z0j]
  simp only
  omega
 ·rw [Yq, z0Q, yF]
  omega
def YS : S81 -> Prop := S81.rec (motive_1 := fun _ => Prop) (motive_2 := fun _ => Prop) (fun _ _ a t e p q => (a.length <= 9223372036854775807 /\ yU a) /\ (t.length <= 9223372036854775807 /\ p) /\ (e.length <= 9223372036854775807 /\ q)) True (fun _ _ p q => p /\ q)
def ZM : List S81 -> Prop := S81.rec_1 (motive_1 := fun _ => Prop) (motive_2 := fun _ => Prop) (fun _ _ a t e p q => (a.length <= 9223372036854775807 /\ yU a) /\ (t.length <= 9223372036854775807 /\ p) /\ (e.length <= 9223372036854775807 /\ q)) True (fun _ _ p q => p /\ q)
theorem z0n (a b : Int) (l : List S62) (t e : List S81) : YS ⟨a, b, l, t, e⟩ = ((l.length <= 9223372036854775807 /\ yU l) /\ (t.length <= 9223372036854775807 /\ ZM t) /\ (e.length <= 9223372036854775807 /\ ZM e)) := rfl
theorem Yw (x : S81) (r : List S81) : ZM (x :: r) = (YS x /\ ZM r) := rfl
theorem z1Q (x : S81) : YS x = ((x.f2.length <= 9223372036854775807 /\ yU x.f2) /\ (x.f3.length <= 9223372036854775807 /\ ZM x.f3) /\ (x.f4.length <= 9223372036854775807 /\ ZM x.f4)) := by cases x; rfl
theorem z0E : ∀ {l : List S81}, (∀ x ∈ l, YS x) -> ZM l
 | [], _ => trivial
 | x :: r, h => ⟨h x (by simp), z0E fun y hy => h y (by simp [hy])⟩
theorem yc (pre : List S81) (x : S81) (r : List S81) : zu (pre ++ x :: r) (pre.length : Int) = x := z0Z pre x _ r
theorem z7n {n : Nat} : Z9 0 n = 0 := by unfold Z9; split <;> omega
theorem z4q : (∀ x, ∀ m : Int, YS x -> 0 <= m -> m <= 1000000 -> zc (fun k => zX.f k x.f3 m) (Z9 m (sNs x.f3)) /\ zc (fun k => zX.f k x.f4 m) (Z9 m (sNs x.f4))) /\
  (∀ suf, ∀ (pre : List S81) (m : Int), ZM suf -> (pre ++ suf).length <= 9223372036854775807 -> 0 <= m -> m <= 1000000 -> zc (fun k => zX.l0 k (pre ++ suf) m (pre.length : Int)) (Z9 m (sNs suf))) := by
 refine z1k (fun a b l t e h1 h2 => ?_) ?_ (fun x r ih1 ih2 => ?_)
 ·intro m hg h0 hm
  rw [z0n] at hg
  constructor
  ·refine zc.succ ?_
   simp only [zX.f]
   exact h1 [] m hg.2.1.2 hg.2.1.1 h0 hm
  ·refine zc.succ ?_
   simp only [zX.f]
   exact h2 [] m hg.2.2.2 hg.2.2.1 h0 hm
 ·intro pre m _ _ h0 _
  refine zc.succ (zc.succ ?_)
  simp only [zX.l0, zX.j1, ZL, if_false, Bool.false_eq_true]
  rw [z2w, z31 h0]
  exact zc.pure _
 ·intro pre m hg hl h0 hm
  rw [Yw] at hg
  obtain ⟨hg1, hg2⟩ := hg
  have hx := hg1
  rw [z1Q] at hx
  have args : ∀ (asuf apre : List S62) (m : Int), x.f2 = apre ++ asuf -> yU asuf -> 0 <= m -> m <= 1000000 -> zc (fun k => zX.l1 k (pre ++ x :: r) m (pre.length : Int) (apre.length : Int)) (Z9 m (eNs asuf + (sNs x.f3 + (sNs x.f4 + sNs r)))) := by
   intro asuf
   induction asuf with
   | nil =>
    intro apre m hx2 _ h0 hm
    refine zc.succ ?_
    have hn : ¬ ((apre.length : Int) < (x.f2.length : Int)) := by rw [hx2, List.append_nil]; omega
    simp only [zX.l1, Z6, Zo, if_true, yc, hn, if_false]
    obtain ⟨t1, _⟩ := ih1 m hg1 h0 hm
    have b1 := Yp m (sNs x.f3)
    have b2 := z1c h0 (sNs x.f3)
    obtain ⟨_, t2⟩ := ih1 (Z9 m (sNs x.f3)) hg1 b1 (by omega)
    have b3 := Yp (Z9 m (sNs x.f3)) (sNs x.f4)
    have b4 := z1c b1 (sNs x.f4)
    have t3 := ih2 (pre ++ [x]) (Z9 (Z9 m (sNs x.f3)) (sNs x.f4)) hg2 (by rw [<- zQ]; exact hl) b3 (by omega)
    rw [<- zQ] at t3
    rw [z64, Nat.zero_add, <- z0D h0, <- z0D b1, Zi pre x r hl]
    exact zc.bind t1 (zc.bind t2 t3)
   | cons a az iha =>
    intro apre m hx2 hga h0 hm
    refine zc.succ ?_
    have hn : ((apre.length : Int) < (x.f2.length : Int)) := by rw [hx2]; exact Zo _ _ _
    have ha : zi x.f2 (apre.length : Int) = a := by rw [hx2]; exact Y6 _ _ _
    simp only [zX.l1, Z6, Zo, if_true, yc, hn, ha]
    have b1 := Yp m (eN a)
    have b2 := z1c h0 (eN a)
    rw [Zi apre a az (by rw [<- hx2]; exact hx.1.1), z4K, Nat.add_assoc, <- z0D h0]
    exact zc.bind (z30.1 a m hga.1 h0 hm) (iha (apre ++ [a]) _ (by rw [hx2, zQ]) hga.2 b1 (by omega))
  refine zc.succ (zc.succ ?_)
  simp only [zX.l0, zX.j1, Zo, if_true]
  by_cases hz : m > 0
  ·refine zc.ifT (dT hz) ?_
   rw [w64 (by omega) (by omega)]
   have := args x.f2 [] (m - 1) rfl hx.1.2 (by omega) (by omega)
   rw [yF, z0j]
   have e : Z9 m (1 + eNs x.f2 + sNs x.f3 + sNs x.f4 + sNs r) = Z9 (m - 1) (eNs x.f2 + (sNs x.f3 + (sNs x.f4 + sNs r))) := by
    rw [<- z2k (by omega)]
    congr 1
    omega
   rw [e]
   exact this
  ·have : m = 0 := by omega
   subst this
   rw [z7n]
   exact zc.ifF (by decide) (zc.pure _)
theorem fitsS (l : List S81) (m : Int) (hl : l.length <= 9223372036854775807) (hg : ZM l) (h0 : 0 <= m) (h1 : m <= 1000) : zc (fun k => yI.f k l m) (decide ((sNs l : Int) <= m)) := by
 unfold yI.f
 rw [w64 (by omega) (by omega)]
 have t : zc (fun k => zX.f k l (m + 1)) (Z9 (m + 1) (sNs l)) := by
  refine zc.succ ?_
  simp only [zX.f]
  exact z4q.2 l [] (m + 1) hg hl (by omega) (by omega)
 refine zc.bind t ?_
 have : decide (Z9 (m + 1) (sNs l) > 0) = decide ((sNs l : Int) <= m) := by
  apply decide_eq_decide.2
  unfold Z9
  split <;> omega
 rw [this]
 exact zc.pure _
theorem z3P : (∀ x, YS x -> sN x <= 1000000 -> zc (fun k => zY.f k x.f3) (sDs x.f3 : Int) /\ zc (fun k => zY.f k x.f4) (sDs x.f4 : Int)) /\
  (∀ suf, ∀ (pre : List S81) (n : Nat), ZM suf -> (pre ++ suf).length <= 9223372036854775807 -> sNs suf <= 1000000 -> zc (fun k => zY.l0 k (pre ++ suf) (n : Int) (pre.length : Int)) ((max n (sDs suf) : Nat) : Int)) := by
 refine z1k (fun a b l t e h1 h2 => ?_) ?_ (fun x r ih1 ih2 => ?_)
 ·intro hg hn
  rw [z0n] at hg
  rw [z0j] at hn
  simp only at hn
  constructor
  ·refine zc.succ ?_
   simp only [zY.f]
   have := h1 [] 0 hg.2.1.2 hg.2.1.1 (by omega)
   rw [Nat.zero_max] at this
   exact this
  ·refine zc.succ ?_
   simp only [zY.f]
   have := h2 [] 0 hg.2.2.2 hg.2.2.1 (by omega)
   rw [Nat.zero_max] at this
   exact this
 ·intro pre n _ _ _
  refine zc.succ ?_
  simp only [zY.l0, ZL, if_false]
  rw [z3Q, Nat.max_zero]
  exact zc.pure _
 ·intro pre n hg hl hn
  rw [Yw] at hg
  rw [yF] at hn
  have hle := (z73.1 x).2
  rw [z3u] at hle
  refine zc.succ ?_
  simp only [zY.l0, Zo, Z6, if_true, yc]
  obtain ⟨t1, t2⟩ := ih1 hg.1 (by omega)
  refine zc.bind t1 (zc.bind t2 ?_)
  have t3 := ih2 (pre ++ [x]) (max (max n (1 + sDs x.f3)) (1 + sDs x.f4)) hg.2 (by rw [<- zQ]; exact hl) (by omega)
  rw [<- zQ] at t3
  rw [Zi pre x r hl, w64 (n := 1 + (sDs x.f3 : Int)) (by omega) (by omega), w64 (n := 1 + (sDs x.f4 : Int)) (by omega) (by omega),
   show (1 + (sDs x.f3 : Int)) = ((1 + sDs x.f3 : Nat) : Int) by omega, show (1 + (sDs x.f4 : Int)) = ((1 + sDs x.f4 : Nat) : Int) by omega, z5d, z5d]
  rw [z0Q, z3u, show max n (max (1 + max (sDs x.f3) (sDs x.f4)) (sDs r)) = max (max (max n (1 + sDs x.f3)) (1 + sDs x.f4)) (sDs r) by omega]
  exact t3
def YY (vars : List S76) (op n : Int) : Int :=
 if op = 0 then (if 0 <= n /\ n < (vars.length : Int) then (if (zp vars n).f2 > 1 then 2 else 1) else -1)
 else if op = 4 then (if 0 <= n /\ n < (vars.length : Int) then (if (zp vars n).f2 > 1 then 1 else 0) else -1)
 else if op = 3 then (if 0 <= n /\ n <= 47 then 1 else -1)
 else if op = 1 \/ op = 2 \/ op = 5 \/ op = 6 then (if n = 0 then 1 else -1) else -1
theorem z3I (vars : List S76) (op n : Int) : YY vars op n <= 2 := by
 unfold YY
 repeat' split
 all_goals omega
def YM (vars : List S76) (n : Int) : Int := if 0 <= n /\ n < (vars.length : Int) then (zp vars n).f2 else 0
theorem z4N {vars : List S76} (hv : ∀ v ∈ vars, 1 <= v.f2 /\ v.f2 <= 8) {n : Int} (h : 0 <= n /\ n < (vars.length : Int)) : 1 <= (zp vars n).f2 /\ (zp vars n).f2 <= 8 := by
 apply hv
 unfold zp
 have : n.toNat < vars.length := by omega
 rw [jw, jn this]
 exact List.getElem_mem this
theorem z5r (w : Int) (vars : List S76) (hv : ∀ v ∈ vars, 1 <= v.f2 /\ v.f2 <= 8) (l2 : List S81) (op n : Int) (a : List S62) (t e : List S81) : zc (fun k => zD.f k w vars l2 op n a t e) (YY vars op n) := by
 have j3 : ∀ m : Int, 0 <= m -> m <= 1 -> zc (fun k => zD.j3 k (YM vars n) m) (if 0 <= n /\ n < (vars.length : Int) then (if (zp vars n).f2 > 1 then m + 1 else m) else -1) := by
  intro m m0 m1
  refine zc.succ ?_
  simp only [zD.j3]
  unfold YM
  by_cases h : 0 <= n /\ n < (vars.length : Int)
  ·have hp := z4N hv h
   simp only [h, and_self, if_true]
   refine zc.ifF (by omega) ?_
   by_cases h1 : (zp vars n).f2 > 1
   ·simp only [h1, if_true]
    rw [w64 (by omega) (by omega)]
    exact zc.pure _
   ·simp only [h1, if_false]
    exact zc.pure _
  ·simp only [h, if_false]
   exact zc.ifT trivial (zc.pure _)
 have j4 : ∀ b : Bool, zc (fun k => zD.j4 k b op n a t e) (if b = true then (if n = 0 then 1 else -1) else -1) := by
  intro b
  refine zc.succ ?_
  simp only [zD.j4]
  cases b
  ·exact zc.pure _
  ·simp only [if_true]
   by_cases h : n = 0
   ·simp only [h, if_true]; exact zc.pure _
   ·simp only [h, if_false]; exact zc.pure _
 have j1 : zc (fun k => zD.j1 k (YM vars n) op n a t e) (YY vars op n) := by
  refine zc.succ ?_
  simp only [zD.j1]
  unfold YY
  by_cases o0 : op = 0
  ·subst o0
   simp only [if_true]
   refine zc.succ ?_
   simp only [zD.j2, beq_self_eq_true, if_true]
   exact j3 1 (by decide) (by decide)
  ·simp only [o0, if_false]
   refine zc.succ ?_
   simp only [zD.j2]
   by_cases o4 : op = 4
   ·subst o4
    simp only [beq_self_eq_true, if_true, show ¬ ((4 : Int) = 0) by decide, if_false]
    exact j3 0 (by decide) (by decide)
   ·have hb : (op == 4) = false := by simpa using o4
    simp only [hb, Bool.false_eq_true, if_false, o4]
    by_cases o3 : op = 3
    ·subst o3
     simp only [if_true]
     by_cases h1 : n < 0
     ·have : ¬ (0 <= n /\ n <= 47) := by omega
      simp only [h1, this, if_true, if_false]
      exact zc.pure _
     ·by_cases h2 : n > 47
      ·have : ¬ (0 <= n /\ n <= 47) := by omega
       simp only [h1, h2, this, if_true, if_false]
       exact zc.pure _
      ·have : (0 <= n /\ n <= 47) := by omega
       simp only [h1, h2, this, and_self, if_true, if_false]
       exact zc.pure _
    ·simp only [o3, if_false]
     by_cases o1 : op = 1
     ·subst o1
      simpa using j4 true
     ·by_cases o2 : op = 2
      ·subst o2
       simpa using j4 true
      ·by_cases o5 : op = 5
       ·subst o5
        simpa using j4 true
       ·by_cases o6 : op = 6
        ·subst o6
         simpa using j4 true
        ·have hb6 : (op == 6) = false := by simpa using o6
         simp only [o1, o2, o5, if_false, hb6]
         simpa [o6] using j4 false
 unfold zD.f
 by_cases h0 : n >= 0
 ·refine zc.ifT h0 (zc.succ ?_)
  simp only [zD.j0]
  by_cases h1 : n < (vars.length : Int)
  ·refine zc.ifT (dT h1) (zc.ifT h0 (zc.ifT h1 ?_))
   have : (zp vars n).f2 = YM vars n := by unfold YM; rw [jb ⟨h0, h1⟩]
   rw [this]
   exact j1
  ·refine zc.ifF (by rw [decide_eq_true_eq]; exact h1) ?_
   have : (0 : Int) = YM vars n := by unfold YM; rw [ja (fun h => h1 h.2)]
   rw [this]
   exact j1
 ·refine zc.ifF h0 (zc.succ ?_)
  simp only [zD.j0, Bool.false_eq_true, if_false]
  have : (0 : Int) = YM vars n := by unfold YM; rw [ja (fun h => h0 h.1)]
  rw [this]
  exact j1
def z0c (vars : List S76) (op n : Int) (a t e : Nat) : Bool := decide (YY vars op n = (a : Int)) && z0g op t e
theorem z2c (vars : List S76) (op n : Int) (a : List S62) (t e : List S81) (m : Int) (m0 : 0 <= m) (m1 : m <= 1) :
  ym.f vars op n a t e m = some (decide ((if 0 <= n /\ n < (vars.length : Int) then (if (zp vars n).f2 > 1 then m + 1 else m) else -1) = (a.length : Int))) := by
 unfold ym.f ZG.f
 have eqd : ∀ x y : Int, (x == y) = decide (y = x) := fun x y => by rw [Bool.eq_iff_iff, beq_iff_eq, decide_eq_true_iff]; exact eq_comm
 by_cases h0 : n >= 0
 ·have h0' : 0 <= n := h0
  rw [jb h0]
  by_cases h1 : n < (vars.length : Int)
  ·rw [jb h1, jb h0', jb (⟨h0', h1⟩ : 0 <= n /\ n < (vars.length : Int))]
   by_cases h2 : (zp vars n).f2 > 1
   ·rw [decide_eq_true h2, jb rfl, jv, jb h2, w64 (by omega) (by omega), eqd]
   ·rw [decide_eq_false h2, ja (by decide), jv, ja h2, w64 (by omega) (by omega), eqd, Int.add_zero]
  ·rw [ja h1, ja (fun h : 0 <= n /\ n < (vars.length : Int) => h1 h.2), decide_eq_false (by omega)]
 ·rw [ja h0, ja (fun h : 0 <= n /\ n < (vars.length : Int) => h0 h.1), decide_eq_false (by omega)]
theorem z5i (vars : List S76) (op n : Int) (a : List S62) (t e : List S81) : zc (fun k => ZR.f k vars op n a t e) (z0c vars op n a.length t.length e.length) := by
 have eqd : ∀ x y : Int, (x == y) = decide (y = x) := fun x y => by rw [Bool.eq_iff_iff, beq_iff_eq, decide_eq_true_iff]; exact eq_comm
 have j0 : ∀ b : Bool, b = (decide (t.length = 0) && decide (e.length = 0)) -> zc (fun k => ZR.j0 k vars b op n a t e) (z0c vars op n a.length t.length e.length) := by
  intro b hb
  refine zc.succ ?_
  simp only [ZR.j0]
  unfold z0c YY z0g
  have et : (t.length == 0) = decide (t.length = 0) := by rw [Bool.eq_iff_iff, beq_iff_eq, decide_eq_true_iff]
  have ee : (e.length == 0) = decide (e.length = 0) := by rw [Bool.eq_iff_iff, beq_iff_eq, decide_eq_true_iff]
  have ez : ((e.length : Int) == 0) = decide (e.length = 0) := by rw [Bool.eq_iff_iff, beq_iff_eq, decide_eq_true_iff]; omega
  rw [et, ee]
  by_cases o0 : op = 0
  ·subst o0
   simp only [if_true, z2c vars 0 n a t e 1 (by decide) (by decide), jv, show ((0 : Int) == 1) = false from rfl, show ((0 : Int) == 2) = false from rfl, Bool.or_false]
   rw [<- hb, Bool.and_comm]
   exact zc.ifB (zc.pure _)
  simp only [o0, if_false]
  by_cases o1 : op = 1
  ·subst o1
   simp only [if_true, show ((1 : Int) == 1) = true from rfl, Bool.or_true, Bool.true_or, Bool.and_true, show ¬ ((1 : Int) = 4) by decide, show ¬ ((1 : Int) = 3) by decide, if_false, true_or]
   by_cases h : n = 0
   ·simp only [h, if_true]
    rw [eqd]
    exact zc.pure _
   ·simp only [h, if_false]
    rw [decide_eq_false (p := (-1 : Int) = (a.length : Int)) (by omega)]
    exact zc.pure _
  have b1 : (op == 1) = false := by simpa using o1
  simp only [o1, if_false, b1, Bool.or_false]
  by_cases o2 : op = 2
  ·subst o2
   simp only [if_true, show ((2 : Int) == 2) = true from rfl, Bool.or_true, Bool.true_and, show ¬ ((2 : Int) = 4) by decide, show ¬ ((2 : Int) = 3) by decide, if_false, true_or, or_true]
   by_cases h : n = 0
   ·simp only [h, if_true, ez]
    by_cases h1 : (a.length : Int) = 1
    ·simp only [h1, if_true, decide_true, Bool.true_and]
     exact zc.pure _
    ·simp only [h1, if_false]
     rw [decide_eq_false (fun h' => h1 h'.symm), jx]
     exact zc.pure _
   ·simp only [h, if_false]
    rw [decide_eq_false (p := (-1 : Int) = (a.length : Int)) (by omega), jx]
    exact zc.pure _
  have b2 : (op == 2) = false := by simpa using o2
  simp only [o2, if_false, b2, Bool.or_false]
  rw [<- hb, Bool.and_comm]
  by_cases o3 : op = 3
  ·subst o3
   simp only [if_true, show ¬ ((3 : Int) = 4) by decide, if_false]
   refine zc.ifB ?_
   by_cases h : n >= 0
   ·by_cases h1 : n <= 47
    ·simp only [h, h1, if_true, show (0 <= n /\ n <= 47) from ⟨h, h1⟩, and_self, eqd]
     exact zc.pure _
    ·simp only [h, h1, if_true, if_false, and_false]
     rw [decide_eq_false (p := (-1 : Int) = (a.length : Int)) (by omega)]
     exact zc.pure _
   ·simp only [h, if_false, false_and]
    rw [decide_eq_false (p := (-1 : Int) = (a.length : Int)) (by omega)]
    exact zc.pure _
  simp only [o3, if_false]
  by_cases o4 : op = 4
  ·subst o4
   simp only [if_true, z2c vars 4 n a t e 0 (by decide) (by decide), jv]
   exact zc.ifB (zc.pure _)
  simp only [o4, if_false]
  have last : zc (fun k => if b = true then (if n = 0 then some ((a.length : Int) == 1) else some false) else some false) (b && decide ((if n = 0 then (1 : Int) else -1) = (a.length : Int))) := by
   refine zc.ifB ?_
   by_cases h : n = 0
   ·simp only [h, if_true, eqd]
    exact zc.pure _
   ·simp only [h, if_false]
    rw [decide_eq_false (p := (-1 : Int) = (a.length : Int)) (by omega)]
    exact zc.pure _
  by_cases o5 : op = 5
  ·subst o5
   simpa using last
  by_cases o6 : op = 6
  ·subst o6
   simpa using last
  simp only [o5, o6, or_self, if_false]
  rw [decide_eq_false (p := (-1 : Int) = (a.length : Int)) (by omega), Bool.and_false]
  exact zc.pure _
 unfold ZR.f
 by_cases h : (t.length : Int) = 0
 ·refine zc.ifT h (j0 _ ?_)
  rw [decide_eq_true (by omega : t.length = 0), Bool.true_and, Bool.eq_iff_iff, beq_iff_eq, decide_eq_true_iff]
  omega
 ·refine zc.ifF h (j0 _ ?_)
  rw [decide_eq_false (by omega : ¬ t.length = 0), jx]
end Go.Proofs.YtnlekgadadifdaaGreat.Print
namespace Go.Proofs.YtnlekgadadifdaaGreat.Print
open Go.RowKit Go.Proofs.YtnlekgadadifdaaGreatW.PrintWords Go.Proofs.YtnlekgadadifdaaGreatW.PrintLast Go.Proofs.YtnlekgadadifdaaGreatW.PrintMore
attribute [local go_sem] zn zl zr zq zh zg zm zk
set_option linter.unusedVariables false
set_option linter.unusedSimpArgs false
open Go.ChangeShapes Go.WideShapes
theorem opens_V (n : Nat) : yv Tryz.prog n 76 k76 (fun _ => True) := by
 cases n with
 | zero => exact yq
 | succ n =>
  refine z1a (φ := fun _ => True) ?_ (fun _ _ => trivial)
  unfold k76
  have h : z1W Tryz.prog n (Tryz.prog.underlying 76 |>.elim [] fun | .struct fs => fs.toList | _ => []) 0 (Kd.pair Kd.string (Kd.pair (Kd.int .i64) (Kd.int .i64))) (fun _ => True) := by
   rw [Tryz.underlying76]
   have h2 := Yu (P := Tryz.prog) (n := n) (f := { name := "Cells", type := 3, offset := 2, embedded := false, tag := "", pkgPath := "", byteOffset := 24 }) (o := 2) rfl (by kernel_rfl) (yK Tryz.underlying3)
   have h1 := Zp (f := { name := "Level", type := 3, offset := 1, embedded := false, tag := "", pkgPath := "", byteOffset := 16 }) (o := 1) rfl (by kernel_rfl) (yK Tryz.underlying3) h2
   have h0 := Zp (f := { name := "Name", type := 9, offset := 0, embedded := false, tag := "", pkgPath := "", byteOffset := 0 }) (o := 0) rfl (by kernel_rfl) (z3V Tryz.underlying9) h1
   intro H enc W sp hd cs y hl hy
   obtain ⟨x, hx, _⟩ := h0 H enc W sp hd cs y hl hy
   exact ⟨x, hx, trivial⟩
  rw [Tryz.underlying76] at h
  exact z1a (z25 (fun x => ⟨⟨x.1, x.2.1, x.2.2⟩, rfl⟩) (Y8 Tryz.underlying76 (by kernel_rfl) h)) (fun _ _ => trivial)
theorem z5J : ∀ n, yv Tryz.prog n 62 (Kd.upto F62 4 [62] n) Yg /\ yv Tryz.prog n 60 (Kd.slice 62 (Kd.upto F62 4 [62] n)) (fun xs => xs.length <= maxLen /\ ∀ x ∈ xs, Yg x)
 | 0 => ⟨yq, yq⟩
 | n + 1 => by
  obtain ⟨ih1, ih2⟩ := z5J n
  constructor
  ·have h3 := Yu (f := { name := "Args", type := 60, offset := 3, embedded := false, tag := "", pkgPath := "", byteOffset := 24 }) (o := 3) rfl (by kernel_rfl) ih2
   have h2 := Zp (f := { name := "Copy", type := 3, offset := 2, embedded := false, tag := "", pkgPath := "", byteOffset := 16 }) (o := 2) rfl (by kernel_rfl) (yK Tryz.underlying3) h3
   have h1 := Zp (f := { name := "N", type := 3, offset := 1, embedded := false, tag := "", pkgPath := "", byteOffset := 8 }) (o := 1) rfl (by kernel_rfl) (yK Tryz.underlying3) h2
   have h0 := Zp (f := { name := "Op", type := 3, offset := 0, embedded := false, tag := "", pkgPath := "", byteOffset := 0 }) (o := 0) rfl (by kernel_rfl) (yK Tryz.underlying3) h1
   refine z1a (z25 (f := fun x : S62 => (x.f0, x.f1, x.f2, x.f3)) (fun x => ⟨⟨x.1, x.2.1, x.2.2.1, x.2.2.2⟩, rfl⟩) (Y8 Tryz.underlying62 (by kernel_rfl) h0)) ?_
   rintro ⟨a, b, c, l⟩ ⟨_, _, _, hl, hx⟩
   exact ⟨by unfold maxLen at hl; simp only at hl; omega, z1s hx⟩
  ·refine yY Tryz.underlying60 ?_ ?_
   ·rw [sz62]; kernel_rfl
   ·intro H enc W sp hd cs y hy
    obtain ⟨x, hx, hp⟩ := ih1 H enc W sp hd cs y hy
    exact ⟨x, Kd.upto_K_le z5e sz62 (Nat.le_succ n) hx, hp⟩
theorem z7e (n : Nat) : yv Tryz.prog n 62 k62 Yg := z3y (fun n => (z5J n).1) n
theorem z7h (n : Nat) : yv Tryz.prog n 60 (Kd.slice 62 k62) (fun xs => xs.length <= maxLen /\ ∀ x ∈ xs, Yg x) := by
 cases n with
 | zero => exact yq
 | succ n => exact yY Tryz.underlying60 (by kernel_rfl) (z7e n)
theorem z5I : ∀ n, yv Tryz.prog n 81 (Kd.upto F81 5 [62, 81] n) YS /\ yv Tryz.prog n 23 (Kd.slice 81 (Kd.upto F81 5 [62, 81] n)) (fun xs => xs.length <= maxLen /\ ∀ x ∈ xs, YS x)
 | 0 => ⟨yq, yq⟩
 | n + 1 => by
  obtain ⟨ih1, ih2⟩ := z5I n
  constructor
  ·have h4 := Yu (f := { name := "Else", type := 23, offset := 4, embedded := false, tag := "", pkgPath := "", byteOffset := 64 }) (o := 4) rfl (by kernel_rfl) ih2
   have h3 := Zp (f := { name := "Then", type := 23, offset := 3, embedded := false, tag := "", pkgPath := "", byteOffset := 40 }) (o := 3) rfl (by kernel_rfl) ih2 h4
   have h2 := Zp (f := { name := "Args", type := 60, offset := 2, embedded := false, tag := "", pkgPath := "", byteOffset := 16 }) (o := 2) rfl (by kernel_rfl) (z7h n) h3
   have h1 := Zp (f := { name := "N", type := 3, offset := 1, embedded := false, tag := "", pkgPath := "", byteOffset := 8 }) (o := 1) rfl (by kernel_rfl) (yK Tryz.underlying3) h2
   have h0 := Zp (f := { name := "Op", type := 3, offset := 0, embedded := false, tag := "", pkgPath := "", byteOffset := 0 }) (o := 0) rfl (by kernel_rfl) (yK Tryz.underlying3) h1
   refine z1a (z25 (f := fun x : S81 => (x.f0, x.f1, x.f2, x.f3, x.f4)) (fun x => ⟨⟨x.1, x.2.1, x.2.2.1, x.2.2.2.1, x.2.2.2.2⟩, rfl⟩) (Y8 Tryz.underlying81 (by kernel_rfl) h0)) ?_
   rintro ⟨a, b, l, t, e⟩ ⟨_, _, ⟨hl, hx⟩, ⟨htl, ht⟩, ⟨hel, he⟩⟩
   unfold maxLen at hl htl hel
   simp only at hl htl hel
   exact ⟨⟨by omega, z1s hx⟩, ⟨by omega, z0E ht⟩, ⟨by omega, z0E he⟩⟩
  ·refine yY Tryz.underlying23 ?_ ?_
   ·rw [z6U]; kernel_rfl
   ·intro H enc W sp hd cs y hy
    obtain ⟨x, hx, hp⟩ := ih1 H enc W sp hd cs y hy
    exact ⟨x, Kd.upto_K_le z2Z z6U (Nat.le_succ n) hx, hp⟩
theorem z7d (n : Nat) : yv Tryz.prog n 81 k81 YS := z3y (fun n => (z5I n).1) n
theorem z7g (n : Nat) : yv Tryz.prog n 23 (Kd.slice 81 k81) (fun xs => xs.length <= maxLen /\ ∀ x ∈ xs, YS x) := by
 cases n with
 | zero => exact yq
 | succ n => exact yY Tryz.underlying23 (by kernel_rfl) (z7d n)
theorem z7f (n : Nat) : yv Tryz.prog n 22 (Kd.slice 76 k76) (fun xs => xs.length <= maxLen /\ ∀ x ∈ xs, True) := by
 cases n with
 | zero => exact yq
 | succ n => exact yY Tryz.underlying22 (by kernel_rfl) (opens_V n)
theorem z4y (n : Nat) : yv Tryz.prog n 26 (Kd.slice 3 (Kd.int .i64)) (fun xs => xs.length <= maxLen /\ ∀ x ∈ xs, (Lit.int .i64 x).wf = true) := by
 cases n with
 | zero => exact yq
 | succ n => exact yY Tryz.underlying26 (by kernel_rfl) (yK Tryz.underlying3)
theorem z6m {H : Type} {enc : TypeId × Value -> H} {W : World} {sp : Nat -> Bool} {hd : Bool} {v : Value} {d : DataW H} {ps : List MemPlace} {r : Reach} {b0 : Nat} (hval : Value.okWide Tryz.prog W r b0 25 v) (h : DataW.Trod enc Tryz.prog W 0 sp hd 25 v d ps) :
  ∃ (w : Int) (A1 : Option Addr) (c1 : Nat) (l1 : List S76) (A2 : Option Addr) (c2 : Nat) (l2 : List S81), v = .agg (Vf w A1 l1 c1 A2 l2 c2) /\
   Kd.C k76 W A1 l1.length l1 /\ l1.length <= c1 /\ Kd.C k81 W A2 l2.length l2 /\ l2.length <= c2 /\ l2.length <= 9223372036854775807 /\ ZM l2 := by
 obtain ⟨fuel, hf⟩ := h
 obtain ⟨cs, rfl, hcs⟩ := okWide_struct Tryz.underlying25 hval
 cases fuel with
 | zero => exact jm hf (by simp [DataW.trod])
 | succ n =>
  have h2 := Yu (P := Tryz.prog) (f := { name := "Body", type := 23, offset := 2, embedded := false, tag := "", pkgPath := "", byteOffset := 32 }) (o := 2) rfl (by kernel_rfl) (z7g n)
  have h1 := Zp (f := { name := "Vars", type := 22, offset := 1, embedded := false, tag := "", pkgPath := "", byteOffset := 8 }) (o := 1) rfl (by kernel_rfl) (z7f n) h2
  have h0 := Zp (f := { name := "Width", type := 3, offset := 0, embedded := false, tag := "", pkgPath := "", byteOffset := 0 }) (o := 0) rfl (by kernel_rfl) (yK Tryz.underlying3) h1
  obtain ⟨⟨w, l1, l2⟩, hK, _, _, hl, hx⟩ := Y8 Tryz.underlying25 (by kernel_rfl) h0 H enc W sp hd _ _ hf
  obtain ⟨c0, c1, e0, e1, ⟨c2, c3, e2, ⟨A1, k1, e3, g1, g2⟩, ⟨A2, k2, e4, g3, g4⟩⟩⟩ := hK
  simp only at e1 e3 e4 g1 g2 g3 g4
  subst e1 e3 e4 e2
  have : cs = (Vf w A1 l1 k1 A2 l2 k2) := by
   apply Array.toList_inj.1
   exact e0
  subst this
  unfold maxLen at hl
  simp only at hl hx
  exact ⟨w, A1, k1, l1, A2, k2, l2, rfl, g2, g1, g4, g3, by omega, z0E hx⟩
theorem z2R {H : Type} {enc : TypeId × Value -> H} {W : World} {sp : Nat -> Bool} {hd : Bool} {v : Value} {d : DataW H} {ps : List MemPlace} {r : Reach} {b0 : Nat} (hval : Value.okWide Tryz.prog W r b0 28 v) (h : DataW.Trod enc Tryz.prog W 0 sp hd 28 v d ps) :
  ∃ (A1 : Option Addr) (c1 : Nat) (l1 : List Int) (A2 : Option Addr) (c2 : Nat) (l2 : List Int), v = .agg (Vn A1 l1 c1 A2 l2 c2) /\
   Kd.C (Kd.int .i64) W A1 l1.length l1 /\ l1.length <= c1 /\ Kd.C (Kd.int .i64) W A2 l2.length l2 /\ l2.length <= c2 /\ l1.length <= 9223372036854775807 /\ l2.length <= 9223372036854775807 := by
 obtain ⟨fuel, hf⟩ := h
 obtain ⟨cs, rfl, hcs⟩ := okWide_struct Tryz.underlying28 hval
 cases fuel with
 | zero => exact jm hf (by simp [DataW.trod])
 | succ n =>
  have h1 := Yu (P := Tryz.prog) (f := { name := "Picks", type := 26, offset := 1, embedded := false, tag := "", pkgPath := "", byteOffset := 24 }) (o := 1) rfl (by kernel_rfl) (z4y n)
  have h0 := Zp (f := { name := "Store", type := 26, offset := 0, embedded := false, tag := "", pkgPath := "", byteOffset := 0 }) (o := 0) rfl (by kernel_rfl) (z4y n) h1
  obtain ⟨⟨l1, l2⟩, hK, ⟨hl1, _⟩, hl2, _⟩ := Y8 Tryz.underlying28 (by kernel_rfl) h0 H enc W sp hd _ _ hf
  obtain ⟨c0, c1, e0, ⟨A1, k1, e3, g1, g2⟩, ⟨A2, k2, e4, g3, g4⟩⟩ := hK
  simp only at e3 e4 g1 g2 g3 g4
  subst e3 e4
  have : cs = (Vn A1 l1 k1 A2 l2 k2) := by
   apply Array.toList_inj.1
   exact e0
  subst this
  unfold maxLen at hl1 hl2
  simp only at hl1 hl2
  exact ⟨A1, k1, l1, A2, k2, l2, rfl, g2, g1, g4, g3, by omega, by omega⟩
end Go.Proofs.YtnlekgadadifdaaGreat.Print
set_option linter.unusedVariables false
set_option linter.unusedSimpArgs false
namespace Go.Proofs.YtnlekgadadifdaaGreat.Print
open Go.RowKit Go.Proofs.YtnlekgadadifdaaGreatW.PrintWords Go.Proofs.YtnlekgadadifdaaGreatW.PrintLast Go.Proofs.YtnlekgadadifdaaGreatW.PrintMore
attribute [local go_sem] zn zl zr zq zh zg zm zk 
theorem Za {w : World} {g : Nat} {t : TypeId} {cs : Array Value} {vs : List Value} (h : w.heap[g]? = some (.cells cs t (0, 0))) (hl : vs.length = cs.size) : (w.setCells g 0 vs).heap[g]? = some (.cells vs.toArray t (0, 0)) := by
 obtain ⟨cur, h1, _, h3⟩ := z0w vs 0 w cs h (by omega)
 rw [h1]
 have : cur = vs.toArray := by
  apply Array.ext'
  rw [h3, List.take_zero, List.nil_append, Nat.zero_add, List.drop_of_length_le (by rw [hl]; simp), List.append_nil]
 rw [this]
theorem Zj {w : World} {g k : Nat} {vs : List Value} (h : k ≠ g) : (w.setCells g 0 vs).heap[k]? = w.heap[k]? := z0x vs 0 k h
theorem yM {w : World} {g : Nat} {vs : List Value} : (w.setCells g 0 vs).heap.size = w.heap.size := (Yo g vs 0 w).2.2.2
theorem Zb {w0 w : World} {B g : Nat} {vs : List Value} (h : Below B w0 w) (hg : B <= g) : Below B w0 (w.setCells g 0 vs) := by
 obtain ⟨h1, h2, h3, h4⟩ := Yo g vs 0 w
 exact ⟨h1.trans h.os, h2.trans h.tape, h3.trans h.output, by rw [h4]; exact h.size, fun k hk => (Zj (by omega)).trans (h.block k hk)⟩
theorem yk {w W : World} {g : Nat} {vs : List Value} {S : Nat -> Prop} (h : zN w W S) (hg : S g \/ w.heap.size <= g) : zN w (W.setCells g 0 vs) S :=
 ⟨by rw [yM]; exact h.1, fun k hk hn => (Zj (by rintro rfl; rcases hg with hg | hg; exact hn hg; omega)).trans (h.2 k hk hn)⟩
theorem row3 {w : World} {g : Nat} {a0 a1 a2 : Value} {t : TypeId} (h : w.heap[g]? = some (.cells #[a0, a1, a2] t (0, 0))) : w.cell? ⟨g, 0, none⟩ = some a0 /\ w.cell? ⟨g, 1, none⟩ = some a1 /\ w.cell? ⟨g, 2, none⟩ = some a2 :=
 ⟨(za h 0).trans rfl, (za h 1).trans rfl, (za h 2).trans rfl⟩
theorem row5 {w : World} {g : Nat} {a0 a1 a2 a3 a4 : Value} {t : TypeId} (h : w.heap[g]? = some (.cells #[a0, a1, a2, a3, a4] t (0, 0))) : w.cell? ⟨g, 0, none⟩ = some a0 /\ w.cell? ⟨g, 1, none⟩ = some a1 /\ w.cell? ⟨g, 2, none⟩ = some a2 /\ w.cell? ⟨g, 3, none⟩ = some a3 /\ w.cell? ⟨g, 4, none⟩ = some a4 :=
 ⟨(za h 0).trans rfl, (za h 1).trans rfl, (za h 2).trans rfl, (za h 3).trans rfl, (za h 4).trans rfl⟩
theorem z0S {w : World} {g : Nat} {a0 a1 a2 a3 a4 a5 a6 a7 a8 a9 a10 a11 : Value} {t : TypeId} (h : w.heap[g]? = some (.cells #[a0, a1, a2, a3, a4, a5, a6, a7, a8, a9, a10, a11] t (0, 0))) : w.cell? ⟨g, 0, none⟩ = some a0 /\ w.cell? ⟨g, 1, none⟩ = some a1 /\ w.cell? ⟨g, 2, none⟩ = some a2 /\ w.cell? ⟨g, 3, none⟩ = some a3 /\ w.cell? ⟨g, 4, none⟩ = some a4 /\ w.cell? ⟨g, 5, none⟩ = some a5 /\ w.cell? ⟨g, 6, none⟩ = some a6 /\ w.cell? ⟨g, 7, none⟩ = some a7 /\ w.cell? ⟨g, 8, none⟩ = some a8 /\ w.cell? ⟨g, 9, none⟩ = some a9 /\ w.cell? ⟨g, 10, none⟩ = some a10 /\ w.cell? ⟨g, 11, none⟩ = some a11 :=
 ⟨(za h 0).trans rfl, (za h 1).trans rfl, (za h 2).trans rfl, (za h 3).trans rfl, (za h 4).trans rfl, (za h 5).trans rfl, (za h 6).trans rfl, (za h 7).trans rfl, (za h 8).trans rfl, (za h 9).trans rfl, (za h 10).trans rfl, (za h 11).trans rfl⟩
theorem yA {w : World} {g : Nat} {t : TypeId} {cs : Array Value} (h : w.heap[g]? = some (.cells cs t (0, 0))) : w.frozen? ⟨g, 0, none⟩ = false /\ w.frozen? ⟨g, 1, none⟩ = false /\ w.frozen? ⟨g, 2, none⟩ = false /\ w.frozen? ⟨g, 3, none⟩ = false /\ w.frozen? ⟨g, 4, none⟩ = false /\ w.frozen? ⟨g, 5, none⟩ = false /\ w.frozen? ⟨g, 6, none⟩ = false /\ w.frozen? ⟨g, 7, none⟩ = false /\ w.frozen? ⟨g, 8, none⟩ = false /\ w.frozen? ⟨g, 9, none⟩ = false /\ w.frozen? ⟨g, 10, none⟩ = false /\ w.frozen? ⟨g, 11, none⟩ = false :=
 ⟨zf h 0, zf h 1, zf h 2, zf h 3, zf h 4, zf h 5, zf h 6, zf h 7, zf h 8, zf h 9, zf h 10, zf h 11⟩
theorem z4P (w : World) (o0 o1 : Obj) : Below w.heap.size w ((w.alloc o0).alloc o1) /\ ((w.alloc o0).alloc o1).heap.size = w.heap.size + 2 /\ ((w.alloc o0).alloc o1).heap[w.heap.size]? = some o0 /\ ((w.alloc o0).alloc o1).heap[w.heap.size + 1]? = some o1 :=
 ⟨bal (bal (jc w.heap.size w) o0) o1, by simp, (kal (zI w o0) o1), by have := zI (w.alloc o0) o1; rwa [show (w.alloc o0).heap.size = w.heap.size + 1 by simp] at this⟩
theorem z7F (w : World) (o0 o1 o2 : Obj) : Below w.heap.size w (((w.alloc o0).alloc o1).alloc o2) /\ (((w.alloc o0).alloc o1).alloc o2).heap.size = w.heap.size + 3 /\ (((w.alloc o0).alloc o1).alloc o2).heap[w.heap.size]? = some o0 /\ (((w.alloc o0).alloc o1).alloc o2).heap[w.heap.size + 1]? = some o1 /\ (((w.alloc o0).alloc o1).alloc o2).heap[w.heap.size + 2]? = some o2 :=
 ⟨bal (bal (bal (jc w.heap.size w) o0) o1) o2, by simp, (kal (kal (zI w o0) o1) o2), (kal (by have := zI (w.alloc o0) o1; rwa [show (w.alloc o0).heap.size = w.heap.size + 1 by simp] at this) o2), by have := zI ((w.alloc o0).alloc o1) o2; rwa [show ((w.alloc o0).alloc o1).heap.size = w.heap.size + 2 by simp] at this⟩
theorem z7E (w : World) (o0 o1 o2 o3 : Obj) : Below w.heap.size w ((((w.alloc o0).alloc o1).alloc o2).alloc o3) /\ ((((w.alloc o0).alloc o1).alloc o2).alloc o3).heap.size = w.heap.size + 4 /\ ((((w.alloc o0).alloc o1).alloc o2).alloc o3).heap[w.heap.size]? = some o0 /\ ((((w.alloc o0).alloc o1).alloc o2).alloc o3).heap[w.heap.size + 1]? = some o1 /\ ((((w.alloc o0).alloc o1).alloc o2).alloc o3).heap[w.heap.size + 2]? = some o2 /\ ((((w.alloc o0).alloc o1).alloc o2).alloc o3).heap[w.heap.size + 3]? = some o3 :=
 ⟨bal (bal (bal (bal (jc w.heap.size w) o0) o1) o2) o3, by simp, (kal (kal (kal (zI w o0) o1) o2) o3), (kal (kal (by have := zI (w.alloc o0) o1; rwa [show (w.alloc o0).heap.size = w.heap.size + 1 by simp] at this) o2) o3), (kal (by have := zI ((w.alloc o0).alloc o1) o2; rwa [show ((w.alloc o0).alloc o1).heap.size = w.heap.size + 2 by simp] at this) o3), by have := zI (((w.alloc o0).alloc o1).alloc o2) o3; rwa [show (((w.alloc o0).alloc o1).alloc o2).heap.size = w.heap.size + 3 by simp] at this⟩
def Ap (a b : Value) : Prop := ∀ k, a.ownBlock = some k -> b.ownBlock ≠ some k
theorem Ap.symm {a b : Value} (h : Ap a b) : Ap b a := fun k hk e => h k e hk
structure VC where
 ed : Int
 st : List Int
 ou : List z1v
 tr : List Z4
 co : Int
 us : Int
 wh : Int
 re : List Int
 tl : List Int
 pc : Int
 fu : Int
 ov : Bool
def VR (W : World) (B : Nat) (Q : Nat -> Prop) (cs : Array Value) (c : VC) : Prop :=
 ∃ A1 n1 A2 n2 A3 n3 A7 n7 A8 n8, cs = #[.int .i64 c.ed, .slice A1 c.st.length n1, .slice A2 c.ou.length n2, .slice A3 c.tr.length n3, .int .i64 c.co, .int .i64 c.us, .int .i64 c.wh, .slice A7 c.re.length n7, .slice A8 c.tl.length n8, .int .i64 c.pc, .int .i64 c.fu, .bool c.ov] /\
  Kd.R (Kd.int .i64) 3 W B Q (.slice A1 c.st.length n1) c.st /\ Kd.R z32 134 W B Q (.slice A2 c.ou.length n2) c.ou /\ Kd.R Ye 144 W B Q (.slice A3 c.tr.length n3) c.tr /\ Kd.R (Kd.int .i64) 3 W B Q (.slice A7 c.re.length n7) c.re /\ Kd.R (Kd.int .i64) 3 W B Q (.slice A8 c.tl.length n8) c.tl /\
  Ap (.slice A1 c.st.length n1) (.slice A7 c.re.length n7) /\ Ap (.slice A1 c.st.length n1) (.slice A8 c.tl.length n8) /\ Ap (.slice A7 c.re.length n7) (.slice A8 c.tl.length n8)
section
variable {W W' : World} {B : Nat} {Q Q' : Nat -> Prop} {cs : Array Value} {c : VC}
theorem VR.step (h : VR W B Q cs c) (hm : ∀ k, Q k -> k < W.heap.size -> W'.heap[k]? = W.heap[k]?) : VR W' B Q cs c := by
 obtain ⟨A1, n1, A2, n2, A3, n3, A7, n7, A8, n8, e, h1, h2, h3, h7, h8, a⟩ := h
 exact ⟨A1, n1, A2, n2, A3, n3, A7, n7, A8, n8, e, Kd.R_step h1 hm, Kd.R_step h2 hm, Kd.R_step h3 hm, Kd.R_step h7 hm, Kd.R_step h8 hm, a⟩
theorem VR.below (h : VR W B Q cs c) (hb : Below W.heap.size W W') : VR W' B Q cs c := h.step (fun k _ hk => hb.block k hk)
theorem VR.mono (h : VR W B Q cs c) (hq : ∀ k, Q k -> k < W.heap.size -> Q' k) : VR W B Q' cs c := by
 obtain ⟨A1, n1, A2, n2, A3, n3, A7, n7, A8, n8, e, h1, h2, h3, h7, h8, a⟩ := h
 exact ⟨A1, n1, A2, n2, A3, n3, A7, n7, A8, n8, e, jr (Kd.R_bound h1) (fun k hk => hq k hk.1 hk.2.2.1), jr (Kd.R_bound h2) (fun k hk => hq k hk.1 hk.2.2.1), jr (Kd.R_bound h3) (fun k hk => hq k hk.1 hk.2.2.1), jr (Kd.R_bound h7) (fun k hk => hq k hk.1 hk.2.2.1), jr (Kd.R_bound h8) (fun k hk => hq k hk.1 hk.2.2.1), a⟩
theorem VR.bound (h : VR W B Q cs c) : VR W B (fun k => Q k /\ k < W.heap.size) cs c := h.mono (fun _ h1 h2 => ⟨h1, h2⟩)
theorem VR.set (h : VR W B Q cs c) {p : Addr} (hp : ¬ Q p.block) (u : Value) : VR (W.setCell p u) B Q cs c := h.step (fun k hk _ => jl _ _ _ _ (fun e => hp (e ▸ hk)))
theorem VR.fill (h : VR W B Q cs c) {g : Nat} (hp : ¬ Q g) (vs : List Value) : VR (W.setCells g 0 vs) B Q cs c := h.step (fun k hk _ => Zj (fun e => hp (e ▸ hk)))
theorem z5V {α : Type} {xs ys : List Int} {A : Option Addr} {n : Nat} {v : Value} (h : Kd.R (Kd.int .i64) 3 W B Q (.slice A xs.length n) xs) (i : Nat) (hi : i < xs.length) :
  ∃ g, A = some ⟨g, 0, none⟩ /\ W.cell? ⟨g, i, none⟩ = some (.int .i64 (xs.getD i 0)) /\ (∀ j, W.frozen? ⟨g, j, none⟩ = false) /\ Q g /\ B <= g /\ g < W.heap.size /\ (∃ cur, W.heap[g]? = some (.cells cur 3 (0, 0))) /\
   ∀ x : Int, Kd.R (Kd.int .i64) 3 (W.setCell ⟨g, i, none⟩ (.int .i64 x)) B Q (.slice A (xs.set i x).length n) (xs.set i x) := by
 obtain ⟨g, rfl⟩ : ∃ g, A = some ⟨g, 0, none⟩ := by
  obtain ⟨_, inner, ⟨_, ho⟩, _⟩ := h
  rcases ho with ⟨hv, h0⟩ | ⟨g, cap, cur, hv, _⟩
  ·omega
  ·injection hv with e1 e2 e3
   exact ⟨g, e1⟩
 obtain ⟨cl, hcl, hM, hcc, hfz⟩ := Kd.R_elem h (0 : Int) (i : Int) (by omega) (by omega)
 obtain ⟨cur, ht⟩ := Kd.R_typed h g rfl
 have hM' : cl = [.int .i64 (xs.getD (i : Int).toNat 0)] := hM
 subst hM'
 refine ⟨g, rfl, ?_, fun j => zf ht j, h.1 g rfl, Kd.R_base h g rfl, zM ht, ⟨cur, ht⟩, fun x => ?_⟩
 ·have := hcc 0 _ rfl
  rw [jh] at this
  have hz : (Kd.int .i64).sz = 1 := rfl
  rw [hz, Nat.mul_one, Nat.add_zero] at this
  exact this
 ·have := Kd.R_putn h (i : Int) x
  rw [jh] at this
  rw [List.length_set]
  exact this
theorem z06 {α : Type} {d : Kd α} {e : Nat} {v : Value} {xs : List α} (h : d.R e W B Q v xs) (hE : d.E = []) {g i : Nat} (hne : v.ownBlock ≠ some g) (u : Value) : d.R e (W.setCell ⟨g, i, none⟩ u) B Q v xs :=
 jr (Kd.R_far (p := ⟨g, i, none⟩) (Kd.R_far1 h hE (g := g) (fun e => hne e.symm)) (fun k hk => hk.2) u) (fun k hk => hk.1)
theorem z1E {α : Type} {d : Kd α} {e t : Nat} {v : Value} {xs : List α} (h : d.R e W B Q v xs) {g : Nat} {cur : Array Value} (hg : W.heap[g]? = some (.cells cur t (0, 0))) (hne : e ≠ t) : v.ownBlock ≠ some g := fun e' => by
 obtain ⟨cells, hc⟩ := Kd.R_typed h g e'
 rw [hg] at hc
 injection hc with hc
 injection hc with _ hc
 exact hne hc.symm
theorem VR.reg (h : VR W B Q cs c) (i : Nat) (hi : i < c.re.length) : ∃ g n7, cs[7]? = some (.slice (some ⟨g, 0, none⟩) c.re.length n7) /\ W.cell? ⟨g, i, none⟩ = some (.int .i64 (c.re.getD i 0)) /\ (∀ j, W.frozen? ⟨g, j, none⟩ = false) /\ Q g /\ B <= g /\ g < W.heap.size /\
  ∀ x : Int, VR (W.setCell ⟨g, i, none⟩ (.int .i64 x)) B Q cs { c with re := c.re.set i x } := by
 obtain ⟨A1, n1, A2, n2, A3, n3, A7, n7, A8, n8, e, h1, h2, h3, h7, h8, a1, a2, a3⟩ := h
 obtain ⟨g, rfl, q1, q2, q3, q4, q5, ⟨cur, q6⟩, q7⟩ := z5V (α := Int) (ys := []) (v := undef) h7 i hi
 subst e
 refine ⟨g, n7, rfl, q1, q2, q3, q4, q5, fun x => ⟨A1, n1, A2, n2, A3, n3, some ⟨g, 0, none⟩, n7, A8, n8, ?_, z06 h1 rfl (fun e => a1 g e rfl) _, z06 h2 rfl (z1E h2 q6 (by decide)) _, z06 h3 rfl (z1E h3 q6 (by decide)) _, q7 x, z06 h8 rfl (fun e => a3 g rfl e) _, ?_, a2, ?_⟩⟩
 ·simp only [List.length_set]
 ·simpa only [List.length_set] using a1
 ·simpa only [List.length_set] using a3
theorem VR.cell (h : VR W B Q cs c) (i : Nat) (hi : i < c.st.length) : ∃ g n1, cs[1]? = some (.slice (some ⟨g, 0, none⟩) c.st.length n1) /\ W.cell? ⟨g, i, none⟩ = some (.int .i64 (c.st.getD i 0)) /\ (∀ j, W.frozen? ⟨g, j, none⟩ = false) /\ Q g /\ B <= g /\ g < W.heap.size /\
  ∀ x : Int, VR (W.setCell ⟨g, i, none⟩ (.int .i64 x)) B Q cs { c with st := c.st.set i x } := by
 obtain ⟨A1, n1, A2, n2, A3, n3, A7, n7, A8, n8, e, h1, h2, h3, h7, h8, a1, a2, a3⟩ := h
 obtain ⟨g, rfl, q1, q2, q3, q4, q5, ⟨cur, q6⟩, q7⟩ := z5V (α := Int) (ys := []) (v := undef) h1 i hi
 subst e
 refine ⟨g, n1, rfl, q1, q2, q3, q4, q5, fun x => ⟨some ⟨g, 0, none⟩, n1, A2, n2, A3, n3, A7, n7, A8, n8, ?_, q7 x, z06 h2 rfl (z1E h2 q6 (by decide)) _, z06 h3 rfl (z1E h3 q6 (by decide)) _, z06 h7 rfl (fun e => a1 g rfl e) _, z06 h8 rfl (fun e => a2 g rfl e) _, ?_, ?_, a3⟩⟩
 ·simp only [List.length_set]
 ·simpa only [List.length_set] using a1
 ·simpa only [List.length_set] using a2
theorem VR.ed' (h : VR W B Q cs c) (x : Int) : VR W B Q (cs.setIfInBounds 0 (.int .i64 x)) { c with ed := x } := by
 obtain ⟨A1, n1, A2, n2, A3, n3, A7, n7, A8, n8, rfl, h⟩ := h
 exact ⟨A1, n1, A2, n2, A3, n3, A7, n7, A8, n8, rfl, h⟩
theorem VR.co' (h : VR W B Q cs c) (x : Int) : VR W B Q (cs.setIfInBounds 4 (.int .i64 x)) { c with co := x } := by
 obtain ⟨A1, n1, A2, n2, A3, n3, A7, n7, A8, n8, rfl, h⟩ := h
 exact ⟨A1, n1, A2, n2, A3, n3, A7, n7, A8, n8, rfl, h⟩
theorem VR.us' (h : VR W B Q cs c) (x : Int) : VR W B Q (cs.setIfInBounds 5 (.int .i64 x)) { c with us := x } := by
 obtain ⟨A1, n1, A2, n2, A3, n3, A7, n7, A8, n8, rfl, h⟩ := h
 exact ⟨A1, n1, A2, n2, A3, n3, A7, n7, A8, n8, rfl, h⟩
theorem VR.wh' (h : VR W B Q cs c) (x : Int) : VR W B Q (cs.setIfInBounds 6 (.int .i64 x)) { c with wh := x } := by
 obtain ⟨A1, n1, A2, n2, A3, n3, A7, n7, A8, n8, rfl, h⟩ := h
 exact ⟨A1, n1, A2, n2, A3, n3, A7, n7, A8, n8, rfl, h⟩
theorem VR.pc' (h : VR W B Q cs c) (x : Int) : VR W B Q (cs.setIfInBounds 9 (.int .i64 x)) { c with pc := x } := by
 obtain ⟨A1, n1, A2, n2, A3, n3, A7, n7, A8, n8, rfl, h⟩ := h
 exact ⟨A1, n1, A2, n2, A3, n3, A7, n7, A8, n8, rfl, h⟩
theorem VR.fu' (h : VR W B Q cs c) (x : Int) : VR W B Q (cs.setIfInBounds 10 (.int .i64 x)) { c with fu := x } := by
 obtain ⟨A1, n1, A2, n2, A3, n3, A7, n7, A8, n8, rfl, h⟩ := h
 exact ⟨A1, n1, A2, n2, A3, n3, A7, n7, A8, n8, rfl, h⟩
theorem VR.ov' (h : VR W B Q cs c) (x : Bool) : VR W B Q (cs.setIfInBounds 11 (.bool x)) { c with ov := x } := by
 obtain ⟨A1, n1, A2, n2, A3, n3, A7, n7, A8, n8, rfl, h⟩ := h
 exact ⟨A1, n1, A2, n2, A3, n3, A7, n7, A8, n8, rfl, h⟩
theorem VR.grow_tr (h : VR W B Q cs c) : ∃ A3 n3, cs[3]? = some (.slice A3 c.tr.length n3) /\ Kd.R Ye 144 W B Q (.slice A3 c.tr.length n3) c.tr /\
  ∀ (W1 : World) (v1 : Value) (ys : List Z4) (Q' : Nat -> Prop), (∀ k, Q k -> Q' k) -> Kd.R Ye 144 W1 B Q' v1 ys -> W.grownBy W1 (Value.slice A3 c.tr.length n3).ownBlock -> VR W1 B Q' (cs.setIfInBounds 3 v1) { c with tr := ys } := by
 obtain ⟨A1, n1, A2, n2, A3, n3, A7, n7, A8, n8, rfl, h1, h2, h3, h7, h8, a⟩ := h
 refine ⟨A3, n3, rfl, h3, fun W1 v1 ys Q' hq ho hg => ?_⟩
 obtain ⟨A, n, rfl⟩ := js ho
 exact ⟨A1, n1, A2, n2, A, n, A7, n7, A8, n8, rfl, jr (Kd.R_over' h1 (Kd.R_typed h3) (by decide) hg) hq, jr (Kd.R_over' h2 (Kd.R_typed h3) (by decide) hg) hq, ho, jr (Kd.R_over' h7 (Kd.R_typed h3) (by decide) hg) hq, jr (Kd.R_over' h8 (Kd.R_typed h3) (by decide) hg) hq, a⟩
theorem VR.grow_ou (h : VR W B Q cs c) : ∃ A2 n2, cs[2]? = some (.slice A2 c.ou.length n2) /\ Kd.R z32 134 W B Q (.slice A2 c.ou.length n2) c.ou /\
  ∀ (W1 : World) (v1 : Value) (ys : List z1v) (Q' : Nat -> Prop), (∀ k, Q k -> Q' k) -> Kd.R z32 134 W1 B Q' v1 ys -> W.grownBy W1 (Value.slice A2 c.ou.length n2).ownBlock -> VR W1 B Q' (cs.setIfInBounds 2 v1) { c with ou := ys } := by
 obtain ⟨A1, n1, A2, n2, A3, n3, A7, n7, A8, n8, rfl, h1, h2, h3, h7, h8, a⟩ := h
 refine ⟨A2, n2, rfl, h2, fun W1 v1 ys Q' hq ho hg => ?_⟩
 obtain ⟨A, n, rfl⟩ := js ho
 exact ⟨A1, n1, A, n, A3, n3, A7, n7, A8, n8, rfl, jr (Kd.R_over' h1 (Kd.R_typed h2) (by decide) hg) hq, ho, jr (Kd.R_over' h3 (Kd.R_typed h2) (by decide) hg) hq, jr (Kd.R_over' h7 (Kd.R_typed h2) (by decide) hg) hq, jr (Kd.R_over' h8 (Kd.R_typed h2) (by decide) hg) hq, a⟩
theorem VR.grow_tl (h : VR W B Q cs c) : ∃ A8 n8, cs[8]? = some (.slice A8 c.tl.length n8) /\ Kd.R (Kd.int .i64) 3 W B Q (.slice A8 c.tl.length n8) c.tl /\
  ∀ (W1 : World) (v1 : Value) (ys : List Int) (Q' : Nat -> Prop), (∀ k, Q k -> Q' k) -> Kd.R (Kd.int .i64) 3 W1 B Q' v1 ys -> W.grownBy W1 (Value.slice A8 c.tl.length n8).ownBlock -> (v1.ownBlock = (Value.slice A8 c.tl.length n8).ownBlock \/ ∃ b, v1.ownBlock = some b /\ W.heap.size <= b) -> VR W1 B Q' (cs.setIfInBounds 8 v1) { c with tl := ys } := by
 obtain ⟨A1, n1, A2, n2, A3, n3, A7, n7, A8, n8, rfl, h1, h2, h3, h7, h8, a1, a2, a3⟩ := h
 refine ⟨A8, n8, rfl, h8, fun W1 v1 ys Q' hq ho hg hat => ?_⟩
 obtain ⟨A, n, rfl⟩ := js ho
 have ap : ∀ {v : Value} {xs : List Int}, Kd.R (Kd.int .i64) 3 W B Q v xs -> Ap v (.slice A8 c.tl.length n8) -> Ap v (.slice A ys.length n) := fun {v xs} hv ha k hk => by
  rcases hat with h | ⟨b, h, hb⟩
  ·rw [h]; exact ha k hk
  ·rw [h]
   intro e
   have := Kd.R_lt hv k hk
   injection e with e
   omega
 have mv : ∀ {v : Value} {xs : List Int}, Kd.R (Kd.int .i64) 3 W B Q v xs -> Ap v (.slice A8 c.tl.length n8) -> Kd.R (Kd.int .i64) 3 W1 B Q' v xs := fun {v xs} hv ha => by
  refine jr (Kd.R_grown (Kd.R_tight2 rfl hv) hg (fun k hk e => ha k hk.1.symm e.symm)) (fun k hk => hq k hk.2)
 exact ⟨A1, n1, A2, n2, A3, n3, A7, n7, A, n, rfl, mv h1 a2, jr (Kd.R_over' h2 (Kd.R_typed h8) (by decide) hg) hq, jr (Kd.R_over' h3 (Kd.R_typed h8) (by decide) hg) hq, mv h7 a3, ho, a1, ap h1 a2, ap h7 a3⟩
theorem yN {fn : Func} {a : Act} {p : Tmp} {w0 w W W2 : World} {g : Nat} {Q Q2 : Nat -> Prop} {zs cs2 : Array Value} {c2 c' : VC} (HV : VR W2 w0.heap.size Q2 cs2 c2) (hc : c2 = c') (X : W2.heap[g]? = some (.cells zs 48 (0, 0))) (hz : cs2.size = zs.size) (hB : Below w0.heap.size w0 W2) (hK : zN w W2 Q) (hg : w.heap.size <= g) (hb : w0.heap.size <= g)
  (hn : ¬ Q2 g) (hQ : ∀ k, Q2 k -> Q k \/ w.heap.size <= k) (hr : fn.results = #[.cell p 48]) (hp : a.tmps.getD p undef = .pointer (some ⟨g, 0, none⟩)) (hd : a.defers = []) (hW : W = W2.setCells g 0 cs2.toList) :
  bodyPost Tryz.prog fn (fun e w' => ∃ cs', e = .returned (.agg cs') /\ VR w' w0.heap.size (fun k => Q k \/ w.heap.size <= k) cs' c' /\ Below w0.heap.size w0 w' /\ zN w w' Q) .ret a W := by
 subst hW
 subst hc
 have hf := Za (vs := cs2.toList) X (by simpa using hz)
 have hi : (Tryz.prog.info? 48).map (·.size) = some cs2.size := by
  obtain ⟨A1, n1, A2, n2, A3, n3, A7, n7, A8, n8, rfl, _⟩ := HV
  kernel_rfl
 refine bodyPost_ret (results_cell_row hr _ _ g 48 cs2 (0, 0) _ hp (by simpa using hf) Tryz.underlying48 rfl hi) hd ?_
 exact ⟨_, rfl, (HV.fill hn _).mono (fun k hk _ => hQ k hk), Zb hB hb, yk hK (.inr hg)⟩
end
theorem infoEv : (Tryz.prog.info? 144).map (fun i => (i.zero, i.size, i.bytes)) = some (some (.agg #[(.int .i64 0), (.int .i64 0), (.int .i64 0)]), 3, 24) := by kernel_rfl
theorem z5x.calls (w0 w : World) (Q : Nat -> Prop) (cs : Array Value) (c : VC) (r : Nat) (a : Int) (hB : Below w0.heap.size w0 w) (hV : VR w w0.heap.size Q cs c) (hQ : ∀ k, Q k -> k < w.heap.size) (hr : r < c.re.length) (hp0 : 0 <= c.pc) (hp1 : c.pc < 1000000000) :
  Calls Tryz.prog 74 #[.agg cs, .int .i64 (r : Int), .int .i64 a] w fun e w' => ∃ cs', e = .returned (.agg cs') /\ VR w' w0.heap.size (fun k => Q k \/ w.heap.size <= k) cs' { c with re := c.re.set r a, pc := c.pc + 1 } /\ Below w0.heap.size w0 w' /\ zN w w' Q := by
 have HV := am hV
 obtain ⟨A1, n1, A2, n2, A3, n3, A7, n7, A8, n8, rfl, hh⟩ := hV
 clear hh
 have hu := Tryz.underlying48
 have huR := Tryz.underlying44
 obtain ⟨b2, _, x1, x2⟩ := z4P w (.cells (Vc c.ed A1 c.st n1 A2 c.ou n2 A3 c.tr n3 c.co c.us c.wh A7 c.re n7 A8 c.tl n8 c.pc c.fu c.ov) 48) (.cells (Vd false) 48)
 have HV0 := am (HV.out.below b2)
 have HB0 := am (hB.trans (b2.mono hB.size))
 have HK0 := am (show zN w _ Q from zN.of_below b2 _)
 have X1 := am x1
 have X2 := am x2
 have HQ := am hQ
 have hBs := hB.size
 clear x1 b2 x2 hB hQ
 go_enter Tryz.func74, Tryz.ntmps74
 go_upto_region 1 with (fail)
 generalize ((w.alloc (.cells (Vc c.ed A1 c.st n1 A2 c.ou n2 A3 c.tr n3 c.co c.us c.wh A7 c.re n7 A8 c.tl n8 c.pc c.fu c.ov) 48)).alloc (.cells (Vd false) 48)) = W0 at HV0 HB0 HK0 X1 X2 ⊢
 obtain ⟨g, m7, e7, q0, qf, hQg, hBg, hgl, hput⟩ := HV0.out.reg r hr
 obtain ⟨rfl, rfl⟩ : A7 = some ⟨g, 0, none⟩ /\ n7 = m7 := by
  have := sj e7
  injection this with h1 h2 h3
  exact ⟨h1, h3⟩
 clear e7
 have hgw := HQ.out g hQg
 have c_q := bq X1.out
 have f9 := zf X1.out 9
 have z_q := bq X2.out
 have g_q := bq X2.out
 have qfr := qf r
 have hw1 : IntKind.i64.wrap (c.pc + 1) = c.pc + 1 := by rw [zP]; unfold wrap64; omega
 have hne1 : g ≠ w.heap.size := by omega
 have hne2 : g ≠ w.heap.size + 1 := by omega
 have hlt : (r : Int) < (c.re.length : Int) := by omega
 have HP := am hput
 have QF := am qf
 clear hput qf
 go_wp2
 obtain ⟨hv, hb, hk, cur, hcs, hx⟩ : VR ((W0.setCell ⟨g, r, none⟩ (.int .i64 a)).setCell ⟨w.heap.size, 9, none⟩ (.int .i64 (c.pc + 1))) w0.heap.size Q (Vc c.ed A1 c.st n1 A2 c.ou n2 A3 c.tr n3 c.co c.us c.wh (some ⟨g, 0, none⟩) c.re n7 A8 c.tl n8 (c.pc + 1) c.fu c.ov) { c with re := c.re.set r a, pc := c.pc + 1 } /\ Below w0.heap.size w0 ((W0.setCell ⟨g, r, none⟩ (.int .i64 a)).setCell ⟨w.heap.size, 9, none⟩ (.int .i64 (c.pc + 1))) /\ zN w ((W0.setCell ⟨g, r, none⟩ (.int .i64 a)).setCell ⟨w.heap.size, 9, none⟩ (.int .i64 (c.pc + 1))) Q /\ ∃ cur : Array Value, cur.size = 12 /\ ((W0.setCell ⟨g, r, none⟩ (.int .i64 a)).setCell ⟨w.heap.size, 9, none⟩ (.int .i64 (c.pc + 1))).heap[w.heap.size + 1]? = some (.cells cur 48 (0, 0)) := ⟨((HP.out a).set (p := ⟨w.heap.size, 9, none⟩) (fun h => by have := HQ.out _ h; exact jm this (Nat.lt_irrefl _)) _).pc' _, (HB0.out.setCell (p := ⟨g, r, none⟩) hBg _).setCell (p := ⟨w.heap.size, 9, none⟩) hBs _, (HK0.out.setCell (p := ⟨g, r, none⟩) (.inl hQg) _).setCell (p := ⟨w.heap.size, 9, none⟩) (.inr (jk _)) _, _, rfl, (jl _ _ _ _ (by show w.heap.size + 1 ≠ w.heap.size; omega)).trans ((jl _ _ _ _ (by show w.heap.size + 1 ≠ g; omega)).trans X2.out)⟩
 exact yN (g := w.heap.size + 1) hv rfl hx hcs.symm hb hk (by omega) (by omega) (fun h => by have := HQ.out _ h; omega) (fun k hk => .inl hk) rfl rfl rfl rfl
theorem z1x.calls (w0 w : World) (Q : Nat -> Prop) (cs : Array Value) (c : VC) (jumps : Bool) (j : Int) (hB : Below w0.heap.size w0 w) (hV : VR w w0.heap.size Q cs c) (hQ : ∀ k, Q k -> k < w.heap.size) (hp0 : 0 <= c.pc) (hp1 : c.pc < 1000000000) :
  Calls Tryz.prog 78 #[.agg cs, .bool jumps, .int .i64 j] w fun e w' => ∃ cs', e = .returned (.agg cs') /\ VR w' w0.heap.size (fun k => Q k \/ w.heap.size <= k) cs' { c with pc := if jumps = true then j else c.pc + 1 } /\ Below w0.heap.size w0 w' /\ zN w w' Q := by
 have HV := am hV
 obtain ⟨A1, n1, A2, n2, A3, n3, A7, n7, A8, n8, rfl, hh⟩ := hV
 clear hh
 have hu := Tryz.underlying48
 have huR := Tryz.underlying44
 obtain ⟨b2, _, x1, x2⟩ := z4P w (.cells (Vc c.ed A1 c.st n1 A2 c.ou n2 A3 c.tr n3 c.co c.us c.wh A7 c.re n7 A8 c.tl n8 c.pc c.fu c.ov) 48) (.cells (Vd false) 48)
 have HV0 := am (HV.out.below b2)
 have HB0 := am (hB.trans (b2.mono hB.size))
 have HK0 := am (show zN w _ Q from zN.of_below b2 _)
 have X1 := am x1
 have X2 := am x2
 have HQ := am hQ
 have hBs := hB.size
 clear x1 b2 x2 hB hQ
 go_enter Tryz.func78, Tryz.ntmps78
 go_upto_region 1 with (fail)
 generalize ((w.alloc (.cells (Vc c.ed A1 c.st n1 A2 c.ou n2 A3 c.tr n3 c.co c.us c.wh A7 c.re n7 A8 c.tl n8 c.pc c.fu c.ov) 48)).alloc (.cells (Vd false) 48)) = W0 at HV0 HB0 HK0 X1 X2 ⊢
 have c_q := bq X1.out
 have f0 := zf X1.out 0
 have f3 := zf X1.out 3
 have f6 := zf X1.out 6
 have f9 := zf X1.out 9
 have f11 := zf X1.out 11
 have z_q := bq X2.out
 have g_q := bq X2.out
 have hw1 : IntKind.i64.wrap (c.pc + 1) = c.pc + 1 := by rw [zP]; unfold wrap64; omega
 cases jumps with
 | false =>
  go_wp2
  obtain ⟨hv, hb, hk, cur, hcs, hx⟩ : VR ((W0).setCell ⟨w.heap.size, 9, none⟩ (.int .i64 (c.pc + 1))) w0.heap.size Q (Vc c.ed A1 c.st n1 A2 c.ou n2 A3 c.tr n3 c.co c.us c.wh A7 c.re n7 A8 c.tl n8 (c.pc + 1) c.fu c.ov) { c with pc := c.pc + 1 } /\ Below w0.heap.size w0 ((W0).setCell ⟨w.heap.size, 9, none⟩ (.int .i64 (c.pc + 1))) /\ zN w ((W0).setCell ⟨w.heap.size, 9, none⟩ (.int .i64 (c.pc + 1))) Q /\ ∃ cur : Array Value, cur.size = 12 /\ ((W0).setCell ⟨w.heap.size, 9, none⟩ (.int .i64 (c.pc + 1))).heap[w.heap.size + 1]? = some (.cells cur 48 (0, 0)) := ⟨((HV0.out.set (p := ⟨w.heap.size, _, none⟩) (fun h => by have := HQ.out _ h; exact jm this (Nat.lt_irrefl _)) _).pc' _), (HB0.out.setCell (p := ⟨w.heap.size, _, none⟩) hBs _), (HK0.out.setCell (p := ⟨w.heap.size, _, none⟩) (.inr (jk _)) _), _, rfl, ((jl _ _ _ _ (by show w.heap.size + 1 ≠ w.heap.size; omega)).trans (X2.out))⟩
  exact yN (g := w.heap.size + 1) hv rfl hx hcs.symm hb hk (by omega) (by omega) (fun h => by have := HQ.out _ h; omega) (fun k hk => .inl hk) rfl rfl rfl rfl
 | true =>
  go_wp2
  obtain ⟨hv, hb, hk, cur, hcs, hx⟩ : VR ((((W0).setCell ⟨w.heap.size, 9, none⟩ (.int .i64 (c.pc + 1)))).setCell ⟨w.heap.size, 9, none⟩ (.int .i64 j)) w0.heap.size Q (Vc c.ed A1 c.st n1 A2 c.ou n2 A3 c.tr n3 c.co c.us c.wh A7 c.re n7 A8 c.tl n8 j c.fu c.ov) { c with pc := j } /\ Below w0.heap.size w0 ((((W0).setCell ⟨w.heap.size, 9, none⟩ (.int .i64 (c.pc + 1)))).setCell ⟨w.heap.size, 9, none⟩ (.int .i64 j)) /\ zN w ((((W0).setCell ⟨w.heap.size, 9, none⟩ (.int .i64 (c.pc + 1)))).setCell ⟨w.heap.size, 9, none⟩ (.int .i64 j)) Q /\ ∃ cur : Array Value, cur.size = 12 /\ ((((W0).setCell ⟨w.heap.size, 9, none⟩ (.int .i64 (c.pc + 1)))).setCell ⟨w.heap.size, 9, none⟩ (.int .i64 j)).heap[w.heap.size + 1]? = some (.cells cur 48 (0, 0)) := ⟨((((HV0.out.set (p := ⟨w.heap.size, _, none⟩) (fun h => by have := HQ.out _ h; exact jm this (Nat.lt_irrefl _)) _).pc' _).set (p := ⟨w.heap.size, _, none⟩) (fun h => by have := HQ.out _ h; exact jm this (Nat.lt_irrefl _)) _).pc' _), ((HB0.out.setCell (p := ⟨w.heap.size, _, none⟩) hBs _).setCell (p := ⟨w.heap.size, _, none⟩) hBs _), ((HK0.out.setCell (p := ⟨w.heap.size, _, none⟩) (.inr (jk _)) _).setCell (p := ⟨w.heap.size, _, none⟩) (.inr (jk _)) _), _, rfl, ((jl _ _ _ _ (by show w.heap.size + 1 ≠ w.heap.size; omega)).trans (((jl _ _ _ _ (by show w.heap.size + 1 ≠ w.heap.size; omega)).trans (X2.out))))⟩
  exact yN (g := w.heap.size + 1) hv rfl hx hcs.symm hb hk (by omega) (by omega) (fun h => by have := HQ.out _ h; omega) (fun k hk => .inl hk) rfl rfl rfl rfl
theorem z1w.calls (w0 w : World) (Q : Nat -> Prop) (cs : Array Value) (c : VC) (x : Int) (hB : Below w0.heap.size w0 w) (hV : VR w w0.heap.size Q cs c) (hQ : ∀ k, Q k -> k < w.heap.size) :
  Calls Tryz.prog 45 #[.agg cs, .int .i64 x] w fun e w' => ∃ cs', e = .returned (.agg cs') /\ VR w' w0.heap.size (fun k => Q k \/ w.heap.size <= k) cs' { c with ed := x, ov := true, wh := if x = 0 then c.wh else c.pc } /\ Below w0.heap.size w0 w' /\ zN w w' Q := by
 have HV := am hV
 obtain ⟨A1, n1, A2, n2, A3, n3, A7, n7, A8, n8, rfl, hh⟩ := hV
 clear hh
 have hu := Tryz.underlying48
 have huR := Tryz.underlying44
 obtain ⟨b2, _, x1, x2⟩ := z4P w (.cells (Vc c.ed A1 c.st n1 A2 c.ou n2 A3 c.tr n3 c.co c.us c.wh A7 c.re n7 A8 c.tl n8 c.pc c.fu c.ov) 48) (.cells (Vd false) 48)
 have HV0 := am (HV.out.below b2)
 have HB0 := am (hB.trans (b2.mono hB.size))
 have HK0 := am (show zN w _ Q from zN.of_below b2 _)
 have X1 := am x1
 have X2 := am x2
 have HQ := am hQ
 have hBs := hB.size
 clear x1 b2 x2 hB hQ
 go_enter Tryz.func45, Tryz.ntmps45
 go_upto_region 1 with (fail)
 generalize ((w.alloc (.cells (Vc c.ed A1 c.st n1 A2 c.ou n2 A3 c.tr n3 c.co c.us c.wh A7 c.re n7 A8 c.tl n8 c.pc c.fu c.ov) 48)).alloc (.cells (Vd false) 48)) = W0 at HV0 HB0 HK0 X1 X2 ⊢
 have c_q := bq X1.out
 have f0 := zf X1.out 0
 have f3 := zf X1.out 3
 have f6 := zf X1.out 6
 have f9 := zf X1.out 9
 have f11 := zf X1.out 11
 have z_q := bq X2.out
 have g_q := bq X2.out
 by_cases hx0 : x = 0
 ·subst hx0
  go_wp2
  obtain ⟨hv, hb, hk, cur, hcs, hx⟩ : VR ((((W0).setCell ⟨w.heap.size, 0, none⟩ (.int .i64 0))).setCell ⟨w.heap.size, 11, none⟩ (.bool true)) w0.heap.size Q #[.int .i64 0, .slice A1 c.st.length n1, .slice A2 c.ou.length n2, .slice A3 c.tr.length n3, .int .i64 c.co, .int .i64 c.us, .int .i64 c.wh, .slice A7 c.re.length n7, .slice A8 c.tl.length n8, .int .i64 c.pc, .int .i64 c.fu, .bool true] { c with ed := 0, ov := true, wh := c.wh } /\ Below w0.heap.size w0 ((((W0).setCell ⟨w.heap.size, 0, none⟩ (.int .i64 0))).setCell ⟨w.heap.size, 11, none⟩ (.bool true)) /\ zN w ((((W0).setCell ⟨w.heap.size, 0, none⟩ (.int .i64 0))).setCell ⟨w.heap.size, 11, none⟩ (.bool true)) Q /\ ∃ cur : Array Value, cur.size = 12 /\ ((((W0).setCell ⟨w.heap.size, 0, none⟩ (.int .i64 0))).setCell ⟨w.heap.size, 11, none⟩ (.bool true)).heap[w.heap.size + 1]? = some (.cells cur 48 (0, 0)) := ⟨((((HV0.out.set (p := ⟨w.heap.size, _, none⟩) (fun h => by have := HQ.out _ h; exact jm this (Nat.lt_irrefl _)) _).ed' _).set (p := ⟨w.heap.size, _, none⟩) (fun h => by have := HQ.out _ h; exact jm this (Nat.lt_irrefl _)) _).ov' _), ((HB0.out.setCell (p := ⟨w.heap.size, _, none⟩) hBs _).setCell (p := ⟨w.heap.size, _, none⟩) hBs _), ((HK0.out.setCell (p := ⟨w.heap.size, _, none⟩) (.inr (jk _)) _).setCell (p := ⟨w.heap.size, _, none⟩) (.inr (jk _)) _), _, rfl, ((jl _ _ _ _ (by show w.heap.size + 1 ≠ w.heap.size; omega)).trans (((jl _ _ _ _ (by show w.heap.size + 1 ≠ w.heap.size; omega)).trans (X2.out))))⟩
  exact yN (g := w.heap.size + 1) hv rfl hx hcs.symm hb hk (by omega) (by omega) (fun h => by have := HQ.out _ h; omega) (fun k hk => .inl hk) rfl rfl rfl rfl
 ·have n0 := bN hx0
  go_wp2
  obtain ⟨hv, hb, hk, cur, hcs, hx⟩ : VR ((((((W0).setCell ⟨w.heap.size, 0, none⟩ (.int .i64 x))).setCell ⟨w.heap.size, 11, none⟩ (.bool true))).setCell ⟨w.heap.size, 6, none⟩ (.int .i64 c.pc)) w0.heap.size Q (Vc x A1 c.st n1 A2 c.ou n2 A3 c.tr n3 c.co c.us c.pc A7 c.re n7 A8 c.tl n8 c.pc c.fu true) { c with ed := x, ov := true, wh := c.pc } /\ Below w0.heap.size w0 ((((((W0).setCell ⟨w.heap.size, 0, none⟩ (.int .i64 x))).setCell ⟨w.heap.size, 11, none⟩ (.bool true))).setCell ⟨w.heap.size, 6, none⟩ (.int .i64 c.pc)) /\ zN w ((((((W0).setCell ⟨w.heap.size, 0, none⟩ (.int .i64 x))).setCell ⟨w.heap.size, 11, none⟩ (.bool true))).setCell ⟨w.heap.size, 6, none⟩ (.int .i64 c.pc)) Q /\ ∃ cur : Array Value, cur.size = 12 /\ ((((((W0).setCell ⟨w.heap.size, 0, none⟩ (.int .i64 x))).setCell ⟨w.heap.size, 11, none⟩ (.bool true))).setCell ⟨w.heap.size, 6, none⟩ (.int .i64 c.pc)).heap[w.heap.size + 1]? = some (.cells cur 48 (0, 0)) := ⟨((((((HV0.out.set (p := ⟨w.heap.size, _, none⟩) (fun h => by have := HQ.out _ h; exact jm this (Nat.lt_irrefl _)) _).ed' _).set (p := ⟨w.heap.size, _, none⟩) (fun h => by have := HQ.out _ h; exact jm this (Nat.lt_irrefl _)) _).ov' _).set (p := ⟨w.heap.size, _, none⟩) (fun h => by have := HQ.out _ h; exact jm this (Nat.lt_irrefl _)) _).wh' _), (((HB0.out.setCell (p := ⟨w.heap.size, _, none⟩) hBs _).setCell (p := ⟨w.heap.size, _, none⟩) hBs _).setCell (p := ⟨w.heap.size, _, none⟩) hBs _), (((HK0.out.setCell (p := ⟨w.heap.size, _, none⟩) (.inr (jk _)) _).setCell (p := ⟨w.heap.size, _, none⟩) (.inr (jk _)) _).setCell (p := ⟨w.heap.size, _, none⟩) (.inr (jk _)) _), _, rfl, ((jl _ _ _ _ (by show w.heap.size + 1 ≠ w.heap.size; omega)).trans (((jl _ _ _ _ (by show w.heap.size + 1 ≠ w.heap.size; omega)).trans (((jl _ _ _ _ (by show w.heap.size + 1 ≠ w.heap.size; omega)).trans (X2.out))))))⟩
  exact yN (g := w.heap.size + 1) hv rfl hx hcs.symm hb hk (by omega) (by omega) (fun h => by have := HQ.out _ h; omega) (fun k hk => .inl hk) rfl rfl rfl rfl
theorem z2E.calls (w0 w : World) (Q : Nat -> Prop) (cs : Array Value) (c : VC) (k0 k1 k2 : Int) (hB : Below w0.heap.size w0 w) (hV : VR w w0.heap.size Q cs c) (hQ : ∀ k, Q k -> k < w.heap.size) (hl : c.tr.length < 1000000000) :
  Calls Tryz.prog 79 #[.agg cs, .int .i64 k0, .int .i64 k1, .int .i64 k2] w fun e w' => ∃ cs', e = .returned (.agg cs') /\ VR w' w0.heap.size (fun k => Q k \/ w.heap.size <= k) cs' { c with tr := c.tr ++ [⟨k0, k1, k2⟩] } /\ Below w0.heap.size w0 w' /\ zN w w' Q := by
 have HV := am hV
 obtain ⟨A1, n1, A2, n2, A3, n3, A7, n7, A8, n8, rfl, hh⟩ := hV
 clear hh
 have hu := Tryz.underlying48
 have huR := Tryz.underlying44
 obtain ⟨b2, _, x1, x2⟩ := z4P w (.cells (Vc c.ed A1 c.st n1 A2 c.ou n2 A3 c.tr n3 c.co c.us c.wh A7 c.re n7 A8 c.tl n8 c.pc c.fu c.ov) 48) (.cells (Vd false) 48)
 have HV0 := am (HV.out.below b2)
 have HB0 := am (hB.trans (b2.mono hB.size))
 have HK0 := am (show zN w _ Q from zN.of_below b2 _)
 have X1 := am x1
 have X2 := am x2
 have HQ := am hQ
 have hBs := hB.size
 clear x1 b2 x2 hB hQ
 go_enter Tryz.func79, Tryz.ntmps79
 go_upto_region 1 with (fail)
 generalize ((w.alloc (.cells (Vc c.ed A1 c.st n1 A2 c.ou n2 A3 c.tr n3 c.co c.us c.wh A7 c.re n7 A8 c.tl n8 c.pc c.fu c.ov) 48)).alloc (.cells (Vd false) 48)) = W0 at HV0 HB0 HK0 X1 X2 ⊢
 have huE := Tryz.underlying42
 obtain ⟨A, n, e3, h3, hg3⟩ := HV0.out.grow_tr
 obtain ⟨rfl, rfl⟩ : A3 = A /\ n3 = n := by
  have := sj e3
  injection this with h1 h2 h3
  exact ⟨h1, h3⟩
 clear e3
 have H3 := am h3
 have HG := am hg3
 have HL := am hl
 clear h3 hg3 hl
 obtain ⟨c0, c1, c2, c3, c4, c5, c6, c7, c8, c9, c10, c11⟩ := z0S X1.out
 have f0 := zf X1.out 0
 have f3 := zf X1.out 3
 have f6 := zf X1.out 6
 have f9 := zf X1.out 9
 have f11 := zf X1.out 11
 have z_q := bq X2.out
 have g_q := bq X2.out
 go_upto_region 2 with (first | ((with_reducible refine Zq (b := .append) (xs := #[.tmp 11, .tmp 16]) rfl ?_); at_builtin; refine Kd.R_append Ye (w0 := w0) w0.heap.size rfl (.tmp 11) (.tmp 16) 42 144 (.agg #[(.int .i64 0), (.int .i64 0), (.int .i64 0)]) 24 rfl huE infoEv rfl (by decide) (by omega) (.slice A3 c.tr.length n3) c.tr (⟨k0, k1, k2⟩ : Z4) [.int .i64 k0, .int .i64 k1, .int .i64 k2] (fun k => Q k \/ w.heap.size + 2 <= k) (fun _ => False) rfl rfl ?aP (fun _ hk => hk.elim) ?aF ?aO ?aB ?aS ?aL ?_; (case aP => exact z1O _ _ _ (⟨k0, k1, k2⟩ : Z4)); (case aF => exact fun k hk => .inr (by have := zM X2.out; omega)); (case aO => exact jr H3.out (fun k hk => .inl hk)); (case aB => exact HB0.out); (case aS => exact HB0.out.size); (case aL => have := HL.out; omega); intro v1 W1 ho hb hg hat; have V1 := HG.out W1 v1 _ (fun k => Q k \/ w.heap.size + 2 <= k) (fun k hk => .inl hk) ho hg; obtain ⟨A', n', ev⟩ := js ho; have el : (c.tr ++ [(⟨k0, k1, k2⟩ : Z4)]).length = c.tr.length + 1 := (by simp); rw [el] at ev; subst ev; have HV1 := am V1; have HB1 := am hb; have HK1 := am (zN.of_grown hg HK0.out (fun k e => .inl (H3.out.1 k e))); have Y1 := am (zO X1.out hg (Kd.R_ne H3.out X1.out (by decide))); have Y2 := am (zO X2.out hg (Kd.R_ne H3.out X2.out (by decide))); clear V1 ho hb hg hat; clear c0 c1 c2 c3 c4 c5 c6 c7 c8 c9 c10 c11 z_q f0 f3 f6 f9 f11 g_q; have c3 : W1.cell? ⟨w.heap.size, 3, none⟩ = some (.slice A3 c.tr.length n3) := (za Y1.out 3).trans rfl; have f3 := zf Y1.out 3))
 have Z1 := am (zJ Y1.out 3 (.slice A' (c.tr.length + 1) n') (cs' := (Vt c.ed A1 c.st n1 A2 c.ou n2 A' (c.tr.length + 1) n' c.co c.us c.wh A7 c.re n7 A8 c.tl n8 c.pc c.fu c.ov)) rfl)
 have Z2 := am ((jl W1 ⟨w.heap.size, 3, none⟩ (.slice A' (c.tr.length + 1) n') (w.heap.size + 1) (by show w.heap.size + 1 ≠ w.heap.size; omega)).trans Y2.out)
 have ZV := am (HV1.out.set (p := ⟨w.heap.size, 3, none⟩) (fun h => by rcases h with h | h; exact jm (HQ.out _ h) (Nat.lt_irrefl _); exact jm h (by show ¬ w.heap.size + 2 <= w.heap.size; omega)) (.slice A' (c.tr.length + 1) n'))
 have ZB := am (HB1.out.setCell (p := ⟨w.heap.size, 3, none⟩) hBs (.slice A' (c.tr.length + 1) n'))
 have ZK := am (HK1.out.setCell (p := ⟨w.heap.size, 3, none⟩) (.inr (jk _)) (.slice A' (c.tr.length + 1) n'))
 clear c3 f3 Y1 Y2 HV1 HB1 HK1
 generalize W1.setCell ⟨w.heap.size, 3, none⟩ (.slice A' (c.tr.length + 1) n') = W2 at Z1 Z2 ZV ZB ZK ⊢
 obtain ⟨c0, c1, c2, c3, c4, c5, c6, c7, c8, c9, c10, c11⟩ := z0S Z1.out
 have z_q := bq Z2.out
 have g_q := bq Z2.out
 go_wp2
 obtain ⟨hv, hb, hk, cur, hcs, hx⟩ : VR (W2) w0.heap.size (fun k => Q k \/ w.heap.size + 2 <= k) (Vt c.ed A1 c.st n1 A2 c.ou n2 A' (c.tr.length + 1) n' c.co c.us c.wh A7 c.re n7 A8 c.tl n8 c.pc c.fu c.ov) { c with tr := c.tr ++ [⟨k0, k1, k2⟩] } /\ Below w0.heap.size w0 (W2) /\ zN w (W2) Q /\ ∃ cur : Array Value, cur.size = 12 /\ (W2).heap[w.heap.size + 1]? = some (.cells cur 48 (0, 0)) := ⟨ZV.out, ZB.out, ZK.out, _, rfl, Z2.out⟩
 exact yN (g := w.heap.size + 1) hv rfl hx hcs.symm hb hk (by omega) (by omega) (fun h => by rcases h with h | h; (have := HQ.out _ h; omega); omega) (fun k hk => by rcases hk with hk | hk; exact .inl hk; exact .inr (by omega)) rfl rfl rfl rfl
def z0V.f (k : Nat) (a0 : Int) : Option (Int) := (Ze.f k a0).bind fun t165 => (some (wrap64 (t165 - 1)))
theorem z0V.calls (k : Nat) (a0 : Int) (r : Int) (w : World) (h : z0V.f k a0 = some r) :
  Calls Tryz.prog 107 #[.int .i64 a0] w fun e w' => e = .returned (.int .i64 r) /\ zT w w' := by
 have H := h
 clear h
 obtain ⟨t165, A2, H⟩ := be H
 obtain rfl := sj H
 go_enter Tryz.func107, Tryz.ntmps107
 go_wp2_with (first | ((with_reducible refine zz (f := 105) rfl ?_); refine gL (some 4) rfl rfl Tryz.func105 #[.int .i64 a0] rfl ?_; (with_reducible refine (Ze.calls k a0 t165 _ A2.out).mono ?_); rintro e w' ⟨rfl, ⟨nd, rfl⟩⟩; refine ⟨_, rfl, ?_⟩))
 go_ret
 exact ⟨rs, dr⟩
def YE.f (k : Nat) (a0 : Int) (a1 : Int) : Option (Int) := (z0V.f k a0).bind fun t166 => (some (wrap64 (t166 - a1)))
theorem YE.calls (k : Nat) (a0 : Int) (a1 : Int) (r : Int) (w : World) (h : YE.f k a0 a1 = some r) :
  Calls Tryz.prog 88 (Veq a0 a1) w fun e w' => e = .returned (.int .i64 r) /\ zT w w' := by
 have H := h
 clear h
 obtain ⟨t166, A3, H⟩ := be H
 obtain rfl := sj H
 go_enter Tryz.func88, Tryz.ntmps88
 go_wp2_with (first | ((with_reducible refine zz (f := 107) rfl ?_); refine gL (some 6) rfl rfl Tryz.func107 #[.int .i64 a0] rfl ?_; (with_reducible refine (z0V.calls k a0 t166 _ A3.out).mono ?_); rintro e w' ⟨rfl, ⟨nd, rfl⟩⟩; refine ⟨_, rfl, ?_⟩))
 go_ret
 exact ⟨rs, dr⟩
def z0W.f (k : Nat) (a0 : Int) (a1 : Int) : Option (Int) := (Ze.f k a1).bind fun t167 => (if t167 = 0 then (none) else (some (Int.tmod (wrap64 (Int.tdiv a0 t167)) 2)))
theorem z0W.calls (k : Nat) (a0 : Int) (a1 : Int) (r : Int) (w : World) (h : z0W.f k a0 a1 = some r) :
  Calls Tryz.prog 121 (Veq a0 a1) w fun e w' => e = .returned (.int .i64 r) /\ zT w w' := by
 have H := h
 clear h
 obtain ⟨t167, A3, H⟩ := be H
 obtain ⟨c4b9, _, H⟩ | ⟨c4, c4b0, c4b1, H⟩ := iq H
 ·have c4 := beq_iff_eq.mp c4b9
  exact jm H (by simp)
 obtain rfl := sj H
 go_enter Tryz.func121, Tryz.ntmps121
 go_wp2_with (first | ((with_reducible refine zz (f := 105) rfl ?_); refine gL (some 7) rfl rfl Tryz.func105 #[.int .i64 a1] rfl ?_; (with_reducible refine (Ze.calls k a1 t167 _ A3.out).mono ?_); rintro e w' ⟨rfl, ⟨nd, rfl⟩⟩; refine ⟨_, rfl, ?_⟩))
 go_ret
 exact ⟨rs, dr⟩
def z0C.f (a0 : Int) (a1 : Int) (a2 : Int) : Option (Int) := if a0 = 7 then (some (wrap64 (a1 * a2))) else (if a0 = 8 then (some (wrap64 ((wrap64 (a1 + a2)) - (wrap64 (a1 * a2))))) else (some (Int.tmod (wrap64 (a1 + a2)) 2)))
theorem z0C.calls (a0 : Int) (a1 : Int) (a2 : Int) (r : Int) (w : World) (h : z0C.f a0 a1 a2 = some r) :
  Calls Tryz.prog 120 #[.int .i64 a0, .int .i64 a1, .int .i64 a2] w fun e w' => e = .returned (.int .i64 r) /\ zT w w' := by
 have H := h
 clear h
 obtain ⟨c4b0, c4b1, H⟩ | ⟨c4, c4b0, c4b1, H⟩ := iq H
 ·obtain rfl := sj H
  go_enter Tryz.func120, Tryz.ntmps120
  go_wp2
  go_ret
  exact ⟨rs, dr⟩
 obtain ⟨c5, c5b0, c5b1, H⟩ | ⟨c5b0, c5b1, H⟩ := qi H
 ·obtain rfl := sj H
  go_enter Tryz.func120, Tryz.ntmps120
  go_wp2
  go_ret
  exact ⟨rs, dr⟩
 obtain rfl := sj H
 go_enter Tryz.func120, Tryz.ntmps120
 go_wp2
 go_ret
 exact ⟨rs, dr⟩
def z0a.l0 : Nat -> List Int -> Int -> Int -> Option (Int)
 | 0, _, _, _ => none
 | k + 1, x0, x3, x4 => if x4 < (x0.length : Int) then (if 0 <= x4 then ((Ze.f k x4).bind fun t169 => (z0a.l0 k x0 (wrap64 (x3 + (wrap64 ((rd x0 x4) * t169)))) (wrap64 (x4 + 1)))) else (none)) else (some x3)
def z0a.f (k : Nat) (l0 : List Int) : Option (Int) := z0a.l0 k l0 0 0
theorem z0a.calls (k : Nat) (A0 : Option Addr) (c0 : Nat) (l0 : List Int) (r : Int) (w : World) (hr0 : Kd.C (Kd.int .i64) w A0 l0.length l0) (hc0 : l0.length <= c0) (h : z0a.f k l0 = some r) :
  Calls Tryz.prog 122 #[.slice A0 l0.length c0] w fun e w' => e = .returned (.int .i64 r) /\ zT w w' := by
 have HR0 := am hr0
 have HC0 := am hc0
 clear hr0 hc0
 have H := h
 clear h
 have H' := am H
 clear H
 go_enter Tryz.func122, Tryz.ntmps122
 go_wp2
 repeat (go_quiet (fail); try go_wp2)
 go_loopg [3, 4] k (fun kq v3 v4 w' => ∃ (x3_1 : Int) (x4_1 : Int), v3 = .int .i64 x3_1 /\ v4 = .int .i64 x4_1 /\ Aside0 (z0a.l0 kq l0 x3_1 x4_1 = some r) /\ Aside0 (kq <= k) /\ zT w w')
 case atStart => exact ⟨(0), (0), rs, rs, H', ⟨jk _⟩, dr⟩
 case round =>
  clear H'
  obtain ⟨x3_1, x4_1, rfl, rfl, HA, HK1, ⟨m1, rfl⟩⟩ := hrel
  cases gk with
  | zero => exact jm HA.out (by simp [z0a.l0])
  | succ k1 =>
   have H := HA.out
   clear HA
   simp only [z0a.l0] at H
   obtain ⟨c2b0, H⟩ | ⟨c2b0, H⟩ := ei H
   ·obtain rfl := sj H
    go_wp2
    repeat (go_quiet (fail); try go_wp2)
    go_ret
    exact ⟨rs, dr⟩
   obtain ⟨c3b0, H⟩ := pd H
   obtain ⟨t169, A4, H⟩ := be H
   have H' := am H
   clear H
   have p168 : 0 <= (x4_1 : Int) := od
   have q168 : x4_1 < (l0.length : Int) := od
   obtain ⟨ad168, e168, hx168_0⟩ := Kd.at_int HR0.out x4_1 p168 q168
   cases e168
   replace p168 := eT p168
   replace q168 := eT q168
   go_wp2_with (first | (go_at_call 105; (with_reducible refine (Ze.calls k1 x4_1 t169 _ A4.out).mono ?_); rintro e w' ⟨rfl, ⟨nd, rfl⟩⟩; (try first | exact ⟨rfl, _, jo _ _ _⟩ | exact ⟨rfl, _, Eq.trans (jo _ _ _) (congrArg (World.drewN _) (Nat.add_assoc _ _ _))⟩)))
   repeat (go_quiet (first | (go_at_call 105; (with_reducible refine (Ze.calls k1 x4_1 t169 _ A4.out).mono ?_); rintro e w' ⟨rfl, ⟨nd, rfl⟩⟩; (try first | exact ⟨rfl, _, jo _ _ _⟩ | exact ⟨rfl, _, Eq.trans (jo _ _ _) (congrArg (World.drewN _) (Nat.add_assoc _ _ _))⟩))); try go_wp2)
   go_roundg k1
   case measure => have := HK1.out; omega
   case rel => exact ⟨(wrap64 (x3_1 + (wrap64 ((rd l0 x4_1) * t169)))), (wrap64 (x4_1 + 1)), rs, rs, H', ⟨by have := HK1.out; omega⟩, dr⟩
def yd.l0 : Nat -> Int -> Int -> Int -> Int -> List Int -> Int -> Option (Int)
 | 0, _, _, _, _, _, _ => none
 | k + 1, x0, x1, x2, x3, x9, x10 => if x10 < x1 then ((z0W.f k x2 x10).bind fun t170 => ((z0W.f k x3 x10).bind fun t171 => ((z0C.f x0 t170 t171).bind fun t172 => (if x9.length < 17592186044416 then (yd.l0 k x0 x1 x2 x3 (x9 ++ [t172]) (wrap64 (x10 + 1))) else (none))))) else ((z0a.f k x9).bind fun t176 => (some t176))
def yd.f (k : Nat) (a0 : Int) (a1 : Int) (a2 : Int) (a3 : Int) : Option (Int) := yd.l0 k a0 a1 a2 a3 ([] : List Int) 0
theorem yd.calls (k : Nat) (a0 : Int) (a1 : Int) (a2 : Int) (a3 : Int) (r : Int) (w : World) (h : yd.f k a0 a1 a2 a3 = some r) :
  Calls Tryz.prog 108 #[.int .i64 a0, .int .i64 a1, .int .i64 a2, .int .i64 a3] w fun e w' => e = .returned (.int .i64 r) /\ Below w.heap.size w w' := by
 have HB := am (jc w.heap.size w)
 have H := h
 clear h
 have H' := am H
 clear H
 go_enter Tryz.func108, Tryz.ntmps108
 go_wp2
 go_loopg [9, 10] k (fun kq v9 v10 w' => ∃ (x9_1 : List Int) (x10_1 : Int), v10 = .int .i64 x10_1 /\ Aside0 (yd.l0 kq a0 a1 a2 a3 x9_1 x10_1 = some r) /\ Aside0 (kq <= k) /\ Aside0 (Kd.R (Kd.int .i64) 3 w' w.heap.size (fun _ => True) v9 x9_1) /\ Aside0 (Below w.heap.size w w'))
 case atStart => exact ⟨(([] : List Int)), (0), rs, H', ⟨jk _⟩, ⟨by first | exact Kd.R_nil _ _ _ _ _ | exact Kd.N_nil _ _ _ _ _ | exact Kd.V_nil _ _ _ _ _ | exact Kd.Q_nil _ _ _ _ _ | exact Kd.S_nil _ _ _ _ _⟩, ⟨bb HB⟩⟩
 case round =>
  clear H'
  obtain ⟨x9_1, x10_1, rfl, HA, HK1, HO_9, HB⟩ := hrel
  cases gk with
  | zero => exact jm HA.out (by simp [yd.l0])
  | succ k1 =>
   have H := HA.out
   clear HA
   simp only [yd.l0] at H
   obtain ⟨c5b0, H⟩ | ⟨c5b0, H⟩ := ei H
   ·obtain ⟨t176, A11, H⟩ := be H
    obtain rfl := sj H
    obtain ⟨Ao12, co12, eo12⟩ := js HO_9.out
    subst eo12
    go_wp2_with (first | ((with_reducible refine zz (f := 122) rfl ?_); refine gL (some 28) rfl rfl Tryz.func122 #[.slice Ao12 x9_1.length co12] rfl ?_; (with_reducible refine (z0a.calls k1 _ _ x9_1 t176 _ ?side1 ((Kd.R_reads' HO_9.out).2.1) A11.out).mono ?_); (case side1 => repeat (first | exact (Kd.R_reads' HO_9.out).2.2 | with_reducible first | apply Kd.C_alloc | apply Kd.C_drewN | apply Kd.C_drew)); rintro e w' ⟨rfl, ⟨nd, rfl⟩⟩; refine ⟨_, rfl, ?_⟩))
    go_ret
    exact ⟨rr, bb HB⟩
   obtain ⟨t170, A6, H⟩ := be H
   obtain ⟨t171, A7, H⟩ := be H
   obtain ⟨t172, A8, H⟩ := be H
   by_cases c9 : x9_1.length < 17592186044416
   rotate_left
   ·rw [ja c9] at H
    exact jm H (by simp)
   rw [jb c9] at H
   have LMc9 := am c9
   clear c9
   obtain ⟨y173, hy173⟩ : ∃ y_ : List Int, y_ = (x9_1 ++ [t172]) := ⟨_, rfl⟩
   replace H : (yd.l0 k1 a0 a1 a2 a3 y173 (wrap64 (x10_1 + 1))) = some r := by first | (rw [hy173]; with_reducible exact H) | (have H2_ := (jv _ _).symm.trans H; rw [hy173]; with_reducible exact H2_) | (have H2_ := (jv _ _).symm.trans H; with_reducible exact H2_) | with_reducible exact H | (rw [hy173]; exact H) | exact H
   have Ny173 := am hy173
   clear hy173
   have H' := am H
   clear H
   go_wp2_with (first | ((with_reducible refine zz (f := 121) rfl ?_); refine gL (some 20) rfl rfl Tryz.func121 (Veq a2 x10_1) rfl ?_; (with_reducible refine (z0W.calls k1 a2 x10_1 t170 _ A6.out).mono ?_); rintro e w' ⟨rfl, ⟨nd, rfl⟩⟩; refine ⟨_, rfl, ?_⟩) | ((with_reducible refine zz (f := 121) rfl ?_); refine gL (some 23) rfl rfl Tryz.func121 (Veq a3 x10_1) rfl ?_; (with_reducible refine (z0W.calls k1 a3 x10_1 t171 _ A7.out).mono ?_); rintro e w' ⟨rfl, ⟨nd, rfl⟩⟩; refine ⟨_, rfl, ?_⟩) | ((with_reducible refine zz (f := 120) rfl ?_); refine gL (some 24) rfl rfl Tryz.func120 #[.int .i64 a0, .int .i64 t170, .int .i64 t171] rfl ?_; (with_reducible refine (z0C.calls a0 t170 t171 t172 _ A8.out).mono ?_); rintro e w' ⟨rfl, ⟨nd, rfl⟩⟩; refine ⟨_, rfl, ?_⟩) | ((with_reducible refine Zq (b := .append) (xs := #[.tmp 16, .tmp 25]) rfl ?_); at_builtin; refine Kd.R_append (Kd.int .i64) (w0 := w) w.heap.size rfl (.tmp 16) (.tmp 25) 26 3 (.int .i64 0) 8 rfl Tryz.underlying26 z5X rfl (by decide) (by omega) u9 x9_1 t172 [.int .i64 t172] (fun _ => True) (fun _ => False) rfl rfl ?aP (fun _ hk => hk.elim) ?aF ?aO ?aB ?aS ?aL ?_; (case aP => exact rfl); (case aB => exact (bb HB)); (case aF => exact (fun _ _ => trivial)); (case aO => exact (iR HO_9)); (case aS => exact (bsz (bb HB))); (case aL => have := LMc9.out; omega); intro v174 w10 ho hb hg hat; rw [<- Ny173.out] at ho; have HO175 := am (ho); replace HB := am (hb); clear HO_9; clear ho hb hg hat))
   go_roundg k1
   case measure => have := HK1.out; omega
   case rel => exact ⟨(y173), (wrap64 (x10_1 + 1)), rs, H', ⟨by have := HK1.out; omega⟩, ⟨iR HO175⟩, ⟨bb HB⟩⟩
def yi.j0 : Nat -> Int -> Int -> Int -> Int -> Int -> Bool -> Option (Int)
 | 0, _, _, _, _, _, _ => none
 | k + 1, x0, x1, x2, x3, x9, x54 => if x54 = true then ((yd.f k x0 x1 x2 x3).bind fun t182 => (some t182)) else (if x9 = 10 then (if x3 >= x1 then (some 0) else ((Ze.f k x3).bind fun t183 => ((Ze.f k x1).bind fun t184 => (if t184 = 0 then (none) else (some (Int.tmod (wrap64 (x2 * t183)) t184)))))) else (if x9 = 11 then (if x3 >= x1 then (some 0) else ((Ze.f k x3).bind fun t185 => (if t185 = 0 then (none) else (some (wrap64 (Int.tdiv x2 t185)))))) else (if x9 = 13 then ((ZG.f (x2 == x3)).bind fun t186 => (some t186)) else ((ZG.f (decide (x2 < x3))).bind fun t187 => (some t187)))))
def yi.f (k : Nat) (a0 : Int) (a1 : Int) (a2 : Int) (a3 : Int) : Option (Int) := if a0 = 2 then ((Ze.f k a1).bind fun t177 => (if t177 = 0 then (none) else (some (Int.tmod (wrap64 (a2 + a3)) t177)))) else (if a0 = 3 then ((Ze.f k a1).bind fun t178 => ((Ze.f k a1).bind fun t179 => (if t179 = 0 then (none) else (some (Int.tmod (wrap64 ((wrap64 (a2 + t178)) - a3)) t179))))) else (if a0 = 4 then ((Ze.f k a1).bind fun t180 => (if t180 = 0 then (none) else (some (Int.tmod (wrap64 (a2 * a3)) t180)))) else (if a0 = 5 then (if a3 = 0 then ((z0V.f k a1).bind fun t181 => (some t181)) else (some (wrap64 (Int.tdiv a2 a3)))) else (if a0 = 6 then (if a3 = 0 then (some a2) else (some (Int.tmod a2 a3))) else (if a0 = 7 then (yi.j0 k a0 a1 a2 a3 a0 (a0 == 7)) else (if a0 = 8 then (yi.j0 k a0 a1 a2 a3 a0 (a0 == 8)) else (yi.j0 k a0 a1 a2 a3 a0 (a0 == 9))))))))
theorem yi.calls (k : Nat) (a0 : Int) (a1 : Int) (a2 : Int) (a3 : Int) (r : Int) (w : World) (h : yi.f k a0 a1 a2 a3 = some r) :
  Calls Tryz.prog 89 #[.int .i64 a0, .int .i64 a1, .int .i64 a2, .int .i64 a3] w fun e w' => e = .returned (.int .i64 r) /\ Below w.heap.size w w' := by
 have HB := am (jc w.heap.size w)
 have H := h
 clear h
 obtain ⟨c5b0, c5b1, H⟩ | ⟨c5, c5b0, c5b1, H⟩ := iq H
 ·obtain ⟨t177, A6, H⟩ := be H
  obtain ⟨c7b9, _, H⟩ | ⟨c7, c7b0, c7b1, H⟩ := iq H
  ·have c7 := beq_iff_eq.mp c7b9
   exact jm H (by simp)
  obtain rfl := sj H
  go_enter Tryz.func89, Tryz.ntmps89
  go_wp2_with (first | ((with_reducible refine zz (f := 105) rfl ?_); refine gL (some 16) rfl rfl Tryz.func105 #[.int .i64 a1] rfl ?_; (with_reducible refine (Ze.calls k a1 t177 _ A6.out).mono ?_); rintro e w' ⟨rfl, ⟨nd, rfl⟩⟩; refine ⟨_, rfl, ?_⟩))
  go_ret
  exact ⟨rr, bb HB⟩
 obtain ⟨c8b0, c8b1, H⟩ | ⟨c8, c8b0, c8b1, H⟩ := iq H
 ·obtain ⟨t178, A9, H⟩ := be H
  obtain ⟨t179, A10, H⟩ := be H
  obtain ⟨c11b9, _, H⟩ | ⟨c11, c11b0, c11b1, H⟩ := iq H
  ·have c11 := beq_iff_eq.mp c11b9
   exact jm H (by simp)
  obtain rfl := sj H
  go_enter Tryz.func89, Tryz.ntmps89
  go_wp2_with (first | ((with_reducible refine zz (f := 105) rfl ?_); refine gL (some 22) rfl rfl Tryz.func105 #[.int .i64 a1] rfl ?_; (with_reducible refine (Ze.calls k a1 t178 _ A9.out).mono ?_); rintro e w' ⟨rfl, ⟨nd, rfl⟩⟩; refine ⟨_, rfl, ?_⟩) | ((with_reducible refine zz (f := 105) rfl ?_); refine gL (some 27) rfl rfl Tryz.func105 #[.int .i64 a1] rfl ?_; (with_reducible refine (Ze.calls k a1 t179 _ A10.out).mono ?_); rintro e w' ⟨rfl, ⟨nd, rfl⟩⟩; refine ⟨_, rfl, ?_⟩))
  go_ret
  exact ⟨rr, bb HB⟩
 obtain ⟨c12b0, c12b1, H⟩ | ⟨c12, c12b0, c12b1, H⟩ := iq H
 ·obtain ⟨t180, A13, H⟩ := be H
  obtain ⟨c14b9, _, H⟩ | ⟨c14, c14b0, c14b1, H⟩ := iq H
  ·have c14 := beq_iff_eq.mp c14b9
   exact jm H (by simp)
  obtain rfl := sj H
  go_enter Tryz.func89, Tryz.ntmps89
  go_wp2_with (first | ((with_reducible refine zz (f := 105) rfl ?_); refine gL (some 35) rfl rfl Tryz.func105 #[.int .i64 a1] rfl ?_; (with_reducible refine (Ze.calls k a1 t180 _ A13.out).mono ?_); rintro e w' ⟨rfl, ⟨nd, rfl⟩⟩; refine ⟨_, rfl, ?_⟩))
  go_ret
  exact ⟨rr, bb HB⟩
 obtain ⟨c15b0, c15b1, H⟩ | ⟨c15, c15b0, c15b1, H⟩ := iq H
 ·obtain ⟨c16, c16b0, c16b1, H⟩ | ⟨c16b0, c16b1, H⟩ := qi H
  ·obtain rfl := sj H
   go_enter Tryz.func89, Tryz.ntmps89
   go_wp2
   go_ret
   exact ⟨rr, bb HB⟩
  obtain ⟨t181, A17, H⟩ := be H
  obtain rfl := sj H
  go_enter Tryz.func89, Tryz.ntmps89
  go_wp2_with (first | ((with_reducible refine zz (f := 107) rfl ?_); refine gL (some 42) rfl rfl Tryz.func107 #[.int .i64 a1] rfl ?_; (with_reducible refine (z0V.calls k a1 t181 _ A17.out).mono ?_); rintro e w' ⟨rfl, ⟨nd, rfl⟩⟩; refine ⟨_, rfl, ?_⟩))
  go_ret
  exact ⟨rr, bb HB⟩
 obtain ⟨c18b0, c18b1, H⟩ | ⟨c18, c18b0, c18b1, H⟩ := iq H
 ·obtain ⟨c19, c19b0, c19b1, H⟩ | ⟨c19b0, c19b1, H⟩ := qi H
  ·obtain rfl := sj H
   go_enter Tryz.func89, Tryz.ntmps89
   go_wp2
   go_ret
   exact ⟨rr, bb HB⟩
  obtain rfl := sj H
  go_enter Tryz.func89, Tryz.ntmps89
  go_wp2
  go_ret
  exact ⟨rr, bb HB⟩
 have HC20 := am H
 clear H
 go_enter Tryz.func89, Tryz.ntmps89
 go_upto_if 54 with (fail)
 go_cut [54] (fun v54 wc => ∃ (kq : Nat) (x54_19 : Bool), v54 = .bool x54_19 /\ Aside0 (yi.j0 kq a0 a1 a2 a3 a0 x54_19 = some r) /\ Aside0 (kq <= k) /\ Aside0 (Below w.heap.size w wc))
 case first =>
  have H := HC20.out
  clear HC20
  obtain ⟨c21b0, c21b1, H⟩ | ⟨c21, c21b0, c21b1, H⟩ := iq H
  ·(first | rw [c21b0] | (simp only [zP, Zr]; rw [c21b0]) | skip)
   have H' := am H
   clear H
   go_wp2
   go_meet
   case rel => exact ⟨_, ((a0 == 7)), rs, H', ⟨by first | omega | exact jk _⟩, ⟨bb HB⟩⟩
  (first | rw [c21b0] | (simp only [zP, Zr]; rw [c21b0]) | skip)
  obtain ⟨c22, c22b0, c22b1, H⟩ | ⟨c22b0, c22b1, H⟩ := qi H
  ·have H' := am H
   clear H
   go_wp2
   go_meet
   case rel => exact ⟨_, ((a0 == 9)), rs, H', ⟨by first | omega | exact jk _⟩, ⟨bb HB⟩⟩
  have H' := am H
  clear H
  go_wp2
  go_meet
  case rel => exact ⟨_, ((a0 == 8)), rs, H', ⟨by first | omega | exact jk _⟩, ⟨bb HB⟩⟩
 case rest =>
  clear HC20
  obtain ⟨kq, x54_19, rfl, HA, HJ19, HB⟩ := hcut
  cases kq with
  | zero => exact jm HA.out (by simp [yi.j0])
  | succ kj19 =>
   have H := HA.out
   clear HA
   simp only [yi.j0] at H
   replace H := bo H
   obtain ⟨rfl, H⟩ | ⟨rfl, H⟩ := H
   ·obtain ⟨t182, A24, H⟩ := be H
    obtain rfl := sj H
    go_wp2_with (first | (go_at_call 108; (with_reducible refine (yd.calls kj19 a0 a1 a2 a3 t182 _ A24.out).mono ?_); rintro e w25 ⟨rfl, hb⟩; replace HB := sb HB hb))
    go_ret
    exact ⟨rr, bb HB⟩
   obtain ⟨c26b0, c26b1, H⟩ | ⟨c26, c26b0, c26b1, H⟩ := iq H
   ·obtain ⟨c27b0, H⟩ | ⟨c27b0, H⟩ := iE H
    ·obtain rfl := sj H
     go_wp2
     go_ret
     exact ⟨rr, bb HB⟩
    obtain ⟨t183, A28, H⟩ := be H
    obtain ⟨t184, A29, H⟩ := be H
    obtain ⟨c30b9, _, H⟩ | ⟨c30, c30b0, c30b1, H⟩ := iq H
    ·have c30 := beq_iff_eq.mp c30b9
     exact jm H (by simp)
    obtain rfl := sj H
    go_wp2_with (first | ((with_reducible refine zz (f := 105) rfl ?_); refine gL (some 70) rfl rfl Tryz.func105 #[.int .i64 a3] rfl ?_; (with_reducible refine (Ze.calls kj19 a3 t183 _ A28.out).mono ?_); rintro e w' ⟨rfl, ⟨nd, rfl⟩⟩; refine ⟨_, rfl, ?_⟩) | ((with_reducible refine zz (f := 105) rfl ?_); refine gL (some 73) rfl rfl Tryz.func105 #[.int .i64 a1] rfl ?_; (with_reducible refine (Ze.calls kj19 a1 t184 _ A29.out).mono ?_); rintro e w' ⟨rfl, ⟨nd, rfl⟩⟩; refine ⟨_, rfl, ?_⟩))
    go_ret
    exact ⟨rr, bb HB⟩
   obtain ⟨c31b0, c31b1, H⟩ | ⟨c31, c31b0, c31b1, H⟩ := iq H
   ·obtain ⟨c32b0, H⟩ | ⟨c32b0, H⟩ := iE H
    ·obtain rfl := sj H
     go_wp2
     go_ret
     exact ⟨rr, bb HB⟩
    obtain ⟨t185, A33, H⟩ := be H
    obtain ⟨c34b9, _, H⟩ | ⟨c34, c34b0, c34b1, H⟩ := iq H
    ·have c34 := beq_iff_eq.mp c34b9
     exact jm H (by simp)
    obtain rfl := sj H
    go_wp2_with (first | ((with_reducible refine zz (f := 105) rfl ?_); refine gL (some 82) rfl rfl Tryz.func105 #[.int .i64 a3] rfl ?_; (with_reducible refine (Ze.calls kj19 a3 t185 _ A33.out).mono ?_); rintro e w' ⟨rfl, ⟨nd, rfl⟩⟩; refine ⟨_, rfl, ?_⟩))
    go_ret
    exact ⟨rr, bb HB⟩
   obtain ⟨c35b0, c35b1, H⟩ | ⟨c35, c35b0, c35b1, H⟩ := iq H
   ·obtain ⟨t186, A36, H⟩ := be H
    obtain rfl := sj H
    go_wp2_with (first | ((with_reducible refine zz (f := 80) rfl ?_); refine gL (some 89) rfl rfl Tryz.func80 #[.bool (a2 == a3)] rfl ?_; (with_reducible refine (ZG.calls (a2 == a3) t186 _ A36.out).mono ?_); rintro e w' ⟨rfl, ⟨nd, rfl⟩⟩; refine ⟨_, rfl, ?_⟩))
    go_ret
    exact ⟨rr, bb HB⟩
   obtain ⟨t187, A37, H⟩ := be H
   obtain rfl := sj H
   go_wp2_with (first | ((with_reducible refine zz (f := 80) rfl ?_); refine gL (some 93) rfl rfl Tryz.func80 #[.bool (decide (a2 < a3))] rfl ?_; (with_reducible refine (ZG.calls (decide (a2 < a3)) t187 _ A37.out).mono ?_); rintro e w' ⟨rfl, ⟨nd, rfl⟩⟩; refine ⟨_, rfl, ?_⟩))
   go_ret
   exact ⟨rr, bb HB⟩
def zW.l0 : Nat -> List (S76) -> Int -> Int -> Int -> Option (Int)
 | 0, _, _, _, _ => none
 | k + 1, x0, x1, x5, x6 => if x6 < x1 then (if 0 <= x6 then (if x6 < (x0.length : Int) then (zW.l0 k x0 x1 (wrap64 (x5 + ((zp x0 x6).f2))) (wrap64 (x6 + 1))) else (none)) else (none)) else (some x5)
def zW.f (k : Nat) (l0 : List (S76)) (a1 : Int) : Option (Int) := zW.l0 k l0 a1 0 0
theorem zW.calls (k : Nat) (A0 : Option Addr) (c0 : Nat) (l0 : List (S76)) (a1 : Int) (r : Int) (w : World) (hr0 : Kd.C k76 w A0 l0.length l0) (hc0 : l0.length <= c0) (h : zW.f k l0 a1 = some r) :
  Calls Tryz.prog 48 #[.slice A0 l0.length c0, .int .i64 a1] w fun e w' => e = .returned (.int .i64 r) /\ zT w w' := by
 have HR0 := am hr0
 have HC0 := am hc0
 clear hr0 hc0
 have H := h
 clear h
 have H' := am H
 clear H
 go_enter Tryz.func48, Tryz.ntmps48
 go_wp2
 go_loopg [5, 6] k (fun kq v5 v6 w' => ∃ (x5_1 : Int) (x6_1 : Int), v5 = .int .i64 x5_1 /\ v6 = .int .i64 x6_1 /\ Aside0 (zW.l0 kq l0 a1 x5_1 x6_1 = some r) /\ Aside0 (kq <= k) /\ zT w w')
 case atStart => exact ⟨(0), (0), rs, rs, H', ⟨jk _⟩, dr⟩
 case round =>
  clear H'
  obtain ⟨x5_1, x6_1, rfl, rfl, HA, HK1, ⟨m1, rfl⟩⟩ := hrel
  cases gk with
  | zero => exact jm HA.out (by simp [zW.l0])
  | succ k1 =>
   have H := HA.out
   clear HA
   simp only [zW.l0] at H
   obtain ⟨c3b0, H⟩ | ⟨c3b0, H⟩ := ei H
   ·obtain rfl := sj H
    go_wp2
    go_ret
    exact ⟨rs, dr⟩
   obtain ⟨c4b0, H⟩ := pd H
   obtain ⟨c5b0, H⟩ := pd H
   have H' := am H
   clear H
   have p196 : 0 <= (x6_1 : Int) := od
   have q196 : x6_1 < (l0.length : Int) := od
   obtain ⟨ad196, e196, hx196_0, hx196_1, hx196_2⟩ := Zs HR0.out x6_1 p196 q196
   cases e196
   replace p196 := eT p196
   replace q196 := eT q196
   go_wp2
   go_roundg k1
   case measure => have := HK1.out; omega
   case rel => exact ⟨(wrap64 (x5_1 + ((zp l0 x6_1).f2))), (wrap64 (x6_1 + 1)), rs, rs, H', ⟨by have := HK1.out; omega⟩, dr⟩
def rg (l : List Int) (i : Int) : Int := l.getD i.toNat 0
def z6h (k : Nat) (wd : Int) (re : List Int) (i : S93) : Option Int := if i.f2 = 12 then YE.f k wd (rg re i.f3) else yi.f k i.f2 wd (rg re i.f3) (rg re i.f4)
def yt (l1 : List S76) (re : List Int) (v : Nat) (s : Int) : Int := if (zp l1 v).f2 < 2 then 0 else Int.tmod (rg re s) (zp l1 v).f2
theorem YL {w w' : World} (h : zT w w') : Below w.heap.size w w' := by
 obtain ⟨n, rfl⟩ := h
 exact bdN (jc _ _) n
theorem z4g.calls (w0 w : World) (Q : Nat -> Prop) (cs : Array Value) (c : VC) (wd : Int) (Av : Option Addr) (cv : Nat) (l1 : List S76) (Ai : Option Addr) (L ci : Nat) (v : Nat) (s : Int) (hB : Below w0.heap.size w0 w) (hV : VR w w0.heap.size Q cs c) (hQ : ∀ k, Q k -> k < w.heap.size) (hr1 : Kd.C k76 w0 Av l1.length l1) (hc1 : l1.length <= cv) (hv : v < l1.length) (hs : ¬ (zp l1 v).f2 < 2 -> 0 <= s /\ s < c.re.length) :
  Calls Tryz.prog 104 #[.agg (Vo wd Av l1 cv Ai L ci), .agg cs, .int .i64 (v : Int), .int .i64 s] w fun e w' => e = .returned (.int .i64 (yt l1 c.re v s)) /\ Below w.heap.size w w' := by
 obtain ⟨A1, n1, A2, n2, A3, n3, A7, n7, A8, n8, rfl, hh⟩ := id hV
 clear hh
 obtain ⟨b_, hsz_, x0_, x1_⟩ := z4P w (.cells (Vo wd Av l1 cv Ai L ci) 33) (.cells (Vc c.ed A1 c.st n1 A2 c.ou n2 A3 c.tr n3 c.co c.us c.wh A7 c.re n7 A8 c.tl n8 c.pc c.fu c.ov) 48)
 have HV0 := am (hV.below b_)
 have HB0 := am (hB.trans (b_.mono hB.size))
 have HK0 := am (show zN w _ Q from zN.of_below b_ _)
 have HBW := am b_
 have HSZ := am hsz_
 have XB0 := am x0_
 have XB1 := am x1_
 have HQ := am hQ
 have hBs := hB.size
 have HR1 := am hr1
 have HC1 := am hc1
 clear hsz_ hQ hB hr1 hc1 b_ x0_ x1_
 have hlen := HR1.out.2.1
 obtain ⟨ad, rfl, q0, q1, q2⟩ := Zs HR1.out (v : Int) (by omega) (by omega)
 replace q2 := (HB0.out.cell (jd w0 _ q2)).trans q2
 rw [jh] at q2
 clear q0 q1
 go_enter Tryz.func104, Tryz.ntmps104
 go_upto_region 1 with (fail)
 generalize (w.alloc (.cells (Vo wd (some ad) l1 cv Ai L ci) 33)).alloc (.cells (Vc c.ed A1 c.st n1 A2 c.ou n2 A3 c.tr n3 c.co c.us c.wh A7 c.re n7 A8 c.tl n8 c.pc c.fu c.ov) 48) = W0 at HV0 HB0 HK0 HBW HSZ XB0 XB1 q2 ⊢
 have p1 : W0.cell? ⟨w.heap.size, 1, none⟩ = some (.slice (some ad) l1.length cv) := (za XB0.out 1).trans rfl
 have hlt : (v : Int) < (l1.length : Int) := by omega
 obtain ⟨z, hz⟩ : ∃ z, (zp l1 v).f2 = z := ⟨_, rfl⟩
 rw [hz] at q2 hs
 have HZ := am hz
 clear hz
 by_cases hz2 : z < 2
 ·have d2 : decide (z < 2) = true := dT hz2
  go_wp2
  go_ret
  exact ⟨by rw [yt, HZ.out, jb hz2]; rfl, HBW.out⟩
 ·have d2 : decide (z < 2) = false := dF hz2
  obtain ⟨s0, s1⟩ := hs hz2
  have hn0 : z ≠ 0 := by omega
  have HD := am (zj HBW.out)
  have q2d : W0.drew.cell? ⟨(ad.add (v * 3)).block, (ad.add (v * 3)).off + 2, none⟩ = some (.int .i64 z) := q2
  obtain ⟨g, m7, e7, qg, qf, hQg, hBg, hgl, hput⟩ := (HV0.out.below (zj (jc _ _))).reg s.toNat (by omega)
  obtain ⟨rfl, rfl⟩ : A7 = some ⟨g, 0, none⟩ /\ n7 = m7 := by
   have := sj e7
   injection this with h1 h2 h3
   exact ⟨h1, h3⟩
  clear e7 hput qf hs
  have XD0 := am (kdr XB0.out)
  have XD1 := am (kdr XB1.out)
  have Q2 := am q2d
  have QG := am (show W0.drew.cell? ⟨g, s.toNat, none⟩ = some (.int .i64 (rg c.re s)) from qg)
  clear q2d qg
  go_wp2
  refine sT 13 [0, 1, 2, 3, 4, 5, 6, 7, 8, 9, 10, 11, 12] [] fun hHeld => ?_
  have hq0_0 := bq XD1.out
  have hq0_1 := bq XD0.out
  have hq0_2 : World.cell? _ ⟨g, s.toNat, none⟩ = some (.int .i64 (rg c.re s)) := QG.out
  have hq0_3 : World.cell? _ ⟨(ad.add (v * 3)).block, (ad.add (v * 3)).off + 2, none⟩ = some (.int .i64 z) := Q2.out
  repeat first | refine nx ?_ | refine ldT hHeld ?_ | refine un ?_
  refine dn ?_
  go_wp2
  go_ret
  exact ⟨by rw [yt, HZ.out, ja (by omega)]; rfl, HD.out⟩
theorem z6L.calls (k : Nat) (w0 w : World) (Q : Nat -> Prop) (cs : Array Value) (c : VC) (wd : Int) (Av : Option Addr) (cv : Nat) (l1 : List S76) (Ai : Option Addr) (L ci : Nat) (i : S93) (r : Int) (hB : Below w0.heap.size w0 w) (hV : VR w w0.heap.size Q cs c) (hQ : ∀ k, Q k -> k < w.heap.size) (hr1 : Kd.C k76 w0 Av l1.length l1) (hc1 : l1.length <= cv) (hc3 : 0 <= i.f3 /\ i.f3 < c.re.length) (hc4 : i.f2 ≠ 12 -> 0 <= i.f4 /\ i.f4 < c.re.length) (h : z6h k wd c.re i = some r) :
  Calls Tryz.prog 75 #[.agg (Vo wd Av l1 cv Ai L ci), .agg cs, .agg (Vl i.f0 i.f1 i.f2 i.f3 i.f4)] w fun e w' => e = .returned (.int .i64 r) /\ Below w.heap.size w w' := by
 obtain ⟨A1, n1, A2, n2, A3, n3, A7, n7, A8, n8, rfl, hh⟩ := id hV
 clear hh
 obtain ⟨b_, hsz_, x0_, x1_, x2_⟩ := z7F w (.cells (Vo wd Av l1 cv Ai L ci) 33) (.cells (Vc c.ed A1 c.st n1 A2 c.ou n2 A3 c.tr n3 c.co c.us c.wh A7 c.re n7 A8 c.tl n8 c.pc c.fu c.ov) 48) (.cells (Vl i.f0 i.f1 i.f2 i.f3 i.f4) 93)
 have HV0 := am (hV.below b_)
 have HB0 := am (hB.trans (b_.mono hB.size))
 have HK0 := am (show zN w _ Q from zN.of_below b_ _)
 have HBW := am b_
 have HSZ := am hsz_
 have XB0 := am x0_
 have XB1 := am x1_
 have XB2 := am x2_
 have HQ := am hQ
 have hBs := hB.size
 have HR1 := am hr1
 have HC1 := am hc1
 clear hsz_ hQ hB hr1 hc1 b_ x0_ x1_ x2_
 go_enter Tryz.func75, Tryz.ntmps75
 go_upto_region 1 with (fail)
 generalize ((w.alloc (.cells (Vo wd Av l1 cv Ai L ci) 33)).alloc (.cells (Vc c.ed A1 c.st n1 A2 c.ou n2 A3 c.tr n3 c.co c.us c.wh A7 c.re n7 A8 c.tl n8 c.pc c.fu c.ov) 48)).alloc (.cells (Vl i.f0 i.f1 i.f2 i.f3 i.f4) 93) = W0 at HV0 HB0 HK0 HBW HSZ XB0 XB1 XB2 ⊢
 have i2 : W0.cell? ⟨w.heap.size + 2, 2, none⟩ = some (.int .i64 i.f2) := (za XB2.out 2).trans rfl
 have hl0 := hc3.1
 have hl1 := hc3.2
 have HV1 := am (HV0.out.below (zj (jc _ _)))
 have HD := am (zj HBW.out)
 have XD0 := am (kdr XB0.out)
 have XD1 := am (kdr XB1.out)
 have XD2 := am (kdr XB2.out)
 by_cases hn : i.f2 = 12
 ·have H := am (show YE.f k wd (rg c.re i.f3) = some r by rw [z6h, jb hn] at h; exact h)
  have hnb : (i.f2 == 12) = true := bT hn
  clear h hc4
  obtain ⟨g0, m0, e0, qg0, qf0, hQg0, hBg0, hgl0, hput0⟩ := HV1.out.reg (i.f3).toNat (by have h1 := hl0; have h2 := hl1; omega)
  have QG0 := am (show (W0.drew).cell? ⟨g0, (i.f3).toNat, none⟩ = some (.int .i64 (rg c.re (i.f3))) from qg0)
  obtain ⟨rfl, rfl⟩ : A7 = some ⟨g0, 0, none⟩ /\ n7 = m0 := by
   have := sj e0
   injection this with h1 h2 h3
   exact ⟨h1, h3⟩
  clear e0 hput0 qf0 qg0
  go_wp2
  refine sT 10 [0, 1, 2, 3, 4, 5, 6, 7, 8, 9] [8] fun hHeld => ?_
  have hq0_0 := bq XD0.out
  have hq0_1 := bq XD1.out
  have hq0_2 := bq XD2.out
  have hq0_3 : World.cell? _ ⟨g0, i.f3.toNat, none⟩ = some (.int .i64 (rg c.re i.f3)) := QG0.out
  repeat first | refine nx ?_ | refine ldT hHeld ?_ | refine un ?_
  refine la fun K hK => ?_
  refine gC Tryz.func88 ?_
  refine (YE.calls k _ _ r _ H.out).mono ?_
  rintro e Y ⟨rfl, hy⟩
  have HY := am (HD.out.trans ((YL hy).mono HD.out.size))
  refine ⟨_, rfl, ?_⟩
  refine hK.out _ _ ?_
  clear hK K
  refine nM ?_
  repeat first | refine nx ?_ | refine ldT hHeld ?_ | refine un ?_
  refine dn ?_
  go_wp2
  go_ret
  exact ⟨rfl, HY.out⟩
 ·have H := am (show yi.f k i.f2 wd (rg c.re i.f3) (rg c.re i.f4) = some r by rw [z6h, ja hn] at h; exact h)
  have hnb : (i.f2 == 12) = false := bF hn
  have hl2 := (hc4 hn).1
  have hl3 := (hc4 hn).2
  clear h hc4
  obtain ⟨g0, m0, e0, qg0, qf0, hQg0, hBg0, hgl0, hput0⟩ := HV1.out.reg (i.f3).toNat (by have h1 := hl0; have h2 := hl1; omega)
  have QG0 := am (show (W0.drew).cell? ⟨g0, (i.f3).toNat, none⟩ = some (.int .i64 (rg c.re (i.f3))) from qg0)
  obtain ⟨g1, m1, e1, qg1, qf1, hQg1, hBg1, hgl1, hput1⟩ := HV1.out.reg (i.f4).toNat (by have h1 := hl2; have h2 := hl3; omega)
  have QG1 := am (show (W0.drew).cell? ⟨g1, (i.f4).toNat, none⟩ = some (.int .i64 (rg c.re (i.f4))) from qg1)
  obtain ⟨rfl, rfl⟩ : A7 = some ⟨g0, 0, none⟩ /\ n7 = m0 := by
   have := sj e0
   injection this with h1 h2 h3
   exact ⟨h1, h3⟩
  obtain rfl : g0 = g1 := by
   have := sj e1
   injection this with h1 h2 h3
   injection h1 with h1
   injection h1
  clear e0 hput0 qf0 qg0 e1 hput1 qf1 qg1
  go_wp2
  refine sT 18 [0, 1, 2, 3, 4, 5, 6, 7, 8, 9, 10, 11, 12, 13, 14, 15, 16, 17] [16] fun hHeld => ?_
  have hq1_0 := bq XD0.out
  have hq1_1 := bq XD1.out
  have hq1_2 := bq XD2.out
  have hq1_3 : World.cell? _ ⟨g0, i.f3.toNat, none⟩ = some (.int .i64 (rg c.re i.f3)) := QG0.out
  have hq1_4 : World.cell? _ ⟨g0, i.f4.toNat, none⟩ = some (.int .i64 (rg c.re i.f4)) := QG1.out
  repeat first | refine nx ?_ | refine ldT hHeld ?_ | refine un ?_
  refine la fun K hK => ?_
  refine gC Tryz.func89 ?_
  refine (yi.calls k _ _ _ _ r _ H.out).mono ?_
  rintro e Y ⟨rfl, hy⟩
  have HY := am (HD.out.trans (hy.mono HD.out.size))
  refine ⟨_, rfl, ?_⟩
  refine hK.out _ _ ?_
  clear hK K
  refine nM ?_
  repeat first | refine nx ?_ | refine ldT hHeld ?_ | refine un ?_
  refine dn ?_
  go_wp2
  go_ret
  exact ⟨rfl, HY.out⟩
def vEv (l1 : List S76) (kind : Int) (v : Nat) (n : Int) (c : VC) : VC := if 1 < (zp l1 v).f2 then { c with tr := c.tr ++ [⟨kind, v, n⟩] } else c
theorem z2G (l1 : List S76) (kind : Int) (v : Nat) (n : Int) (c : VC) : (vEv l1 kind v n c).ed = c.ed /\ (vEv l1 kind v n c).st = c.st /\ (vEv l1 kind v n c).ou = c.ou /\ (vEv l1 kind v n c).re = c.re /\ (vEv l1 kind v n c).tl = c.tl /\ (vEv l1 kind v n c).pc = c.pc /\ (vEv l1 kind v n c).tr.length <= c.tr.length + 1 := by
 unfold vEv
 split <;> simp
def z0H (l1 : List S76) (fst : Int) (ra v : Nat) (s : Int) (c : VC) : VC :=
 { vEv l1 1 v (yt l1 c.re v s) c with re := c.re.set ra (rg c.st (fst + yt l1 c.re v s)), pc := c.pc + 1 }
def Yz (l1 : List S76) (fst : Int) (v : Nat) (s r : Int) (c : VC) : VC :=
 { vEv l1 2 v (yt l1 c.re v s) { c with st := c.st.set (fst + yt l1 c.re v s).toNat (rg c.re r) } with pc := c.pc + 1 }
theorem vm_load.calls (k : Nat) (w0 w : World) (Q : Nat -> Prop) (cs : Array Value) (c : VC) (wd : Int) (Av : Option Addr) (cv : Nat) (l1 : List S76) (Ai : Option Addr) (L ci : Nat) (op s f4 fst : Int) (ra v : Nat) (hB : Below w0.heap.size w0 w) (hV : VR w w0.heap.size Q cs c) (hQ : ∀ k, Q k -> k < w.heap.size) (hr1 : Kd.C k76 w0 Av l1.length l1) (hc1 : l1.length <= cv) (hv : v < l1.length) (hs : ¬ (zp l1 v).f2 < 2 -> 0 <= s /\ s < c.re.length) (hra : ra < c.re.length) (hF : zW.f k l1 v = some fst) (hf0 : 0 <= fst + yt l1 c.re v s) (hf1 : fst + yt l1 c.re v s < c.st.length) (hp0 : 0 <= c.pc) (hp1 : c.pc < 1000000000) (htr : c.tr.length < 1000000000) :
  Calls Tryz.prog 76 #[.agg #[.int .i64 wd, .slice Av l1.length cv, .slice Ai L ci], .agg cs, .agg #[.int .i64 (op), .int .i64 ((ra : Int)), .int .i64 ((v : Int)), .int .i64 (s), .int .i64 (f4)]] w fun e w' => ∃ cs', e = .returned (.agg cs') /\ VR w' w0.heap.size (fun k => Q k \/ w.heap.size <= k) cs' (z0H l1 fst ra v s c) /\ Below w0.heap.size w0 w' /\ zN w w' Q := by
 obtain ⟨A1, n1, A2, n2, A3, n3, A7, n7, A8, n8, rfl, hh⟩ := id hV
 clear hh
 obtain ⟨b_, hsz_, x0_, x1_, x2_, x3_⟩ := z7E w (.cells #[.int .i64 wd, .slice Av l1.length cv, .slice Ai L ci] 33) (.cells #[.int .i64 c.ed, .slice A1 c.st.length n1, .slice A2 c.ou.length n2, .slice A3 c.tr.length n3, .int .i64 c.co, .int .i64 c.us, .int .i64 c.wh, .slice A7 c.re.length n7, .slice A8 c.tl.length n8, .int .i64 c.pc, .int .i64 c.fu, .bool c.ov] 48) (.cells #[.int .i64 (op), .int .i64 ((ra : Int)), .int .i64 ((v : Int)), .int .i64 (s), .int .i64 (f4)] 93) (.cells #[.int .i64 0, .slice none 0 0, .slice none 0 0, .slice none 0 0, .int .i64 0, .int .i64 0, .int .i64 0, .slice none 0 0, .slice none 0 0, .int .i64 0, .int .i64 0, .bool false] 48)
 have HV0 := am (hV.below b_)
 have HB0 := am (hB.trans (b_.mono hB.size))
 have HK0 := am (show zN w _ Q from zN.of_below b_ _)
 have HBW := am b_
 have HSZ := am hsz_
 have XB0 := am x0_
 have XB1 := am x1_
 have XB2 := am x2_
 have XB3 := am x3_
 have HQ := am hQ
 have hBs := hB.size
 have HR1 := am hr1
 have HC1 := am hc1
 clear hsz_ hQ hB hr1 hc1 b_ x0_ x1_ x2_ x3_
 have hlen := HR1.out.2.1
 obtain ⟨ad, rfl, q0, q1, q2⟩ := Zs HR1.out (v : Int) (by omega) (by omega)
 rw [jh] at q2
 have Q2 := am q2
 clear q0 q1 q2
 have huV := Tryz.underlying48
 have huC := Tryz.underlying33
 have huI := Tryz.underlying93
 have huR := Tryz.underlying44
 obtain ⟨kx, hkx⟩ : ∃ kx, yt l1 c.re v s = kx := ⟨_, rfl⟩
 rw [hkx] at hf0 hf1
 have HKX := am hkx
 clear hkx
 have hltv : (v : Int) < (l1.length : Int) := by omega
 go_enter Tryz.func76, Tryz.ntmps76
 go_upto_region 1 with (fail)
 generalize (((w.alloc (.cells #[.int .i64 wd, .slice (some ad) l1.length cv, .slice Ai L ci] 33)).alloc (.cells #[.int .i64 c.ed, .slice A1 c.st.length n1, .slice A2 c.ou.length n2, .slice A3 c.tr.length n3, .int .i64 c.co, .int .i64 c.us, .int .i64 c.wh, .slice A7 c.re.length n7, .slice A8 c.tl.length n8, .int .i64 c.pc, .int .i64 c.fu, .bool c.ov] 48)).alloc (.cells #[.int .i64 (op), .int .i64 ((ra : Int)), .int .i64 ((v : Int)), .int .i64 (s), .int .i64 (f4)] 93)).alloc (.cells #[.int .i64 0, .slice none 0 0, .slice none 0 0, .slice none 0 0, .int .i64 0, .int .i64 0, .int .i64 0, .slice none 0 0, .slice none 0 0, .int .i64 0, .int .i64 0, .bool false] 48) = W0 at HV0 HB0 HK0 HBW HSZ XB0 XB1 XB2 XB3 ⊢
 obtain ⟨p0, p1, p2⟩ := row3 XB0.out
 obtain ⟨c0, c1, c2, c3, c4, c5, c6, c7, c8, c9, c10, c11⟩ := z0S XB1.out
 obtain ⟨i0, i1, i2, i3, i4⟩ := row5 XB2.out
 go_upto_region 2 with (first | (go_at_call 104; refine (z4g.calls w0 W0 Q _ c wd (some ad) cv l1 Ai L ci v s HB0.out HV0.out (fun k hk => by have := HQ.out k hk; have := HSZ.out; omega) HR1.out HC1.out hv hs).mono ?_; rintro e W1 ⟨rfl, hb1⟩; rw [HKX.out]; have BW1 := am hb1; clear hb1))
 clear p0 p1 p2 c0 c1 c2 c3 c4 c5 c6 c7 c8 c9 c10 c11 i0 i1 i2 i3 i4
 have hs0 := HSZ.out
 have hs1 := BW1.out.size
 have Y0 := am (zd XB0.out BW1.out)
 have Y1 := am (zd XB1.out BW1.out)
 have Y2 := am (zd XB2.out BW1.out)
 have Y3 := am (zd XB3.out BW1.out)
 have V1 := am (HV0.out.below BW1.out)
 have B1 := am (HB0.out.trans (BW1.out.mono HB0.out.size))
 have K1 := am (HK0.out.below BW1.out)
 clear XB0 XB1 XB2 XB3 HV0 HB0 HK0 BW1 HBW
 have hsW1 : w.heap.size + 4 <= W1.heap.size := by omega
 have p1 : W1.cell? ⟨w.heap.size, 1, none⟩ = some (.slice (some ad) l1.length cv) := (za Y0.out 1).trans rfl
 have i2 : W1.cell? ⟨w.heap.size + 2, 2, none⟩ = some (.int .i64 (v : Int)) := (za Y2.out 2).trans rfl
 obtain ⟨z, hz⟩ : ∃ z, (zp l1 v).f2 = z := ⟨_, rfl⟩
 have q2 := (B1.out.cell (jd w0 _ Q2.out)).trans Q2.out
 rw [hz] at q2
 have HZ := am hz
 clear hz
 go_upto_if 22 with (fail)
 go_cut [] (fun wc => Aside0 (∃ cs1, VR wc w0.heap.size (fun k => Q k \/ w.heap.size + 4 <= k) cs1 (vEv l1 1 v kx c) /\ wc.heap[w.heap.size + 1]? = some (.cells cs1 48 (0, 0))) /\ Aside0 (wc.heap[w.heap.size]? = some (.cells #[.int .i64 wd, .slice (some ad) l1.length cv, .slice Ai L ci] 33 (0, 0))) /\ Aside0 (wc.heap[w.heap.size + 2]? = some (.cells #[.int .i64 (op), .int .i64 ((ra : Int)), .int .i64 ((v : Int)), .int .i64 (s), .int .i64 (f4)] 93 (0, 0))) /\ Aside0 (wc.heap[w.heap.size + 3]? = some (.cells #[.int .i64 0, .slice none 0 0, .slice none 0 0, .slice none 0 0, .int .i64 0, .int .i64 0, .int .i64 0, .slice none 0 0, .slice none 0 0, .int .i64 0, .int .i64 0, .bool false] 48 (0, 0))) /\ Aside0 (Below w0.heap.size w0 wc) /\ Aside0 (zN w wc Q))
 case first =>
  by_cases hz1 : 1 < z
  ·have d1 : decide (1 < z) = true := dT hz1
   obtain ⟨c0, c1, c2, c3, c4, c5, c6, c7, c8, c9, c10, c11⟩ := z0S Y1.out
   have YY0 := Y0
   have YY1 := Y1
   have YY2 := Y2
   have YY3 := Y3
   go_upto_region 4 with (first | (go_at_call 79; refine (z2E.calls w0 W1 _ _ c 1 v kx B1.out V1.out (fun k hk => by have := HQ.out k hk; omega) (by simpa using htr)).mono ?_; rintro e W2 ⟨cs', rfl, hv2, hb2, hk2⟩; obtain ⟨A1', n1', A2', n2', A3', n3', A7', n7', A8', n8', rfl, hh_⟩ := id hv2; clear hh_; have V2 := am hv2; have B2 := am hb2; have K2 := am hk2; clear hv2 hb2 hk2; have Z1 := am ((K2.out.2 (w.heap.size + 1) (by omega) (fun h => by have := HQ.out _ h; omega)).trans YY1.out); clear c0 c1 c2 c3 c4 c5 c6 c7 c8 c9 c10 c11 p1 i2 q2; have z0 : W2.cell? ⟨w.heap.size + 1, 0, none⟩ = some (.int .i64 c.ed) := (za Z1.out 0).trans rfl; have z1 : W2.cell? ⟨w.heap.size + 1, 1, none⟩ = some (.slice A1 c.st.length n1) := (za Z1.out 1).trans rfl; have z2 : W2.cell? ⟨w.heap.size + 1, 2, none⟩ = some (.slice A2 c.ou.length n2) := (za Z1.out 2).trans rfl; have z3 : W2.cell? ⟨w.heap.size + 1, 3, none⟩ = some (.slice A3 c.tr.length n3) := (za Z1.out 3).trans rfl; have z4 : W2.cell? ⟨w.heap.size + 1, 4, none⟩ = some (.int .i64 c.co) := (za Z1.out 4).trans rfl; have z5 : W2.cell? ⟨w.heap.size + 1, 5, none⟩ = some (.int .i64 c.us) := (za Z1.out 5).trans rfl; have z6 : W2.cell? ⟨w.heap.size + 1, 6, none⟩ = some (.int .i64 c.wh) := (za Z1.out 6).trans rfl; have z7 : W2.cell? ⟨w.heap.size + 1, 7, none⟩ = some (.slice A7 c.re.length n7) := (za Z1.out 7).trans rfl; have z8 : W2.cell? ⟨w.heap.size + 1, 8, none⟩ = some (.slice A8 c.tl.length n8) := (za Z1.out 8).trans rfl; have z9 : W2.cell? ⟨w.heap.size + 1, 9, none⟩ = some (.int .i64 c.pc) := (za Z1.out 9).trans rfl; have z10 : W2.cell? ⟨w.heap.size + 1, 10, none⟩ = some (.int .i64 c.fu) := (za Z1.out 10).trans rfl; have z11 : W2.cell? ⟨w.heap.size + 1, 11, none⟩ = some (.bool c.ov) := (za Z1.out 11).trans rfl; have g0 := zf Z1.out 0; have g1 := zf Z1.out 1; have g2 := zf Z1.out 2; have g3 := zf Z1.out 3; have g4 := zf Z1.out 4; have g5 := zf Z1.out 5; have g6 := zf Z1.out 6; have g7 := zf Z1.out 7; have g8 := zf Z1.out 8; have g9 := zf Z1.out 9; have g10 := zf Z1.out 10; have g11 := zf Z1.out 11))
   go_meet
   case rel =>
    have hw1 := hsW1
    have far : ∀ k, k ≠ w.heap.size + 1 -> k < W1.heap.size -> ¬ Q k -> ∀ o, W1.heap[k]? = some o -> (W2.setCells (w.heap.size + 1) 0 [.int .i64 c.ed, .slice A1' c.st.length n1', .slice A2' c.ou.length n2', .slice A3' (c.tr.length + 1) n3', .int .i64 c.co, .int .i64 c.us, .int .i64 c.wh, .slice A7' c.re.length n7', .slice A8' c.tl.length n8', .int .i64 c.pc, .int .i64 c.fu, .bool c.ov]).heap[k]? = some o := fun k h1 h2 h3 o ho => (Zj h1).trans ((K2.out.2 k h2 h3).trans ho)
    have nq : ∀ k, w.heap.size <= k -> ¬ Q k := fun k h hq => by have := HQ.out k hq; omega
    have hl3 : (c.tr ++ [(⟨1, v, kx⟩ : Z4)]).length = c.tr.length + 1 := by simp
    have v2 : VR W2 w0.heap.size (fun k => Q k \/ W1.heap.size <= k) #[.int .i64 c.ed, .slice A1' c.st.length n1', .slice A2' c.ou.length n2', .slice A3' (c.tr ++ [(⟨1, v, kx⟩ : Z4)]).length n3', .int .i64 c.co, .int .i64 c.us, .int .i64 c.wh, .slice A7' c.re.length n7', .slice A8' c.tl.length n8', .int .i64 c.pc, .int .i64 c.fu, .bool c.ov] { c with tr := c.tr ++ [⟨1, v, kx⟩] } := V2.out
    rw [hl3] at v2
    have hfill := Za (vs := [.int .i64 c.ed, .slice A1' c.st.length n1', .slice A2' c.ou.length n2', .slice A3' (c.tr.length + 1) n3', .int .i64 c.co, .int .i64 c.us, .int .i64 c.wh, .slice A7' c.re.length n7', .slice A8' c.tl.length n8', .int .i64 c.pc, .int .i64 c.fu, .bool c.ov]) Z1.out rfl
    have hb9 := Zb (vs := [.int .i64 c.ed, .slice A1' c.st.length n1', .slice A2' c.ou.length n2', .slice A3' (c.tr.length + 1) n3', .int .i64 c.co, .int .i64 c.us, .int .i64 c.wh, .slice A7' c.re.length n7', .slice A8' c.tl.length n8', .int .i64 c.pc, .int .i64 c.fu, .bool c.ov]) (g := w.heap.size + 1) B2.out (by omega)
    have hk9 := yk (vs := [.int .i64 c.ed, .slice A1' c.st.length n1', .slice A2' c.ou.length n2', .slice A3' (c.tr.length + 1) n3', .int .i64 c.co, .int .i64 c.us, .int .i64 c.wh, .slice A7' c.re.length n7', .slice A8' c.tl.length n8', .int .i64 c.pc, .int .i64 c.fu, .bool c.ov]) (g := w.heap.size + 1) (K1.out.then_ K2.out (fun k h => .inl h)) (.inr (by omega))
    refine ⟨⟨#[.int .i64 c.ed, .slice A1' c.st.length n1', .slice A2' c.ou.length n2', .slice A3' (c.tr.length + 1) n3', .int .i64 c.co, .int .i64 c.us, .int .i64 c.wh, .slice A7' c.re.length n7', .slice A8' c.tl.length n8', .int .i64 c.pc, .int .i64 c.fu, .bool c.ov], ?_, hfill⟩, ⟨far _ (by omega) (by omega) (nq _ (by omega)) _ YY0.out⟩, ⟨far _ (by omega) (by omega) (nq _ (by omega)) _ YY2.out⟩, ⟨far _ (by omega) (by omega) (nq _ (by omega)) _ YY3.out⟩, ⟨hb9⟩, ⟨hk9⟩⟩
    have hve : vEv l1 1 v kx c = { c with tr := c.tr ++ [⟨1, v, kx⟩] } := by rw [vEv, HZ.out, jb hz1]
    rw [hve]
    exact (v2.fill (g := w.heap.size + 1) (fun h => by rcases h with h | h; exact nq _ (by omega) h; omega) [.int .i64 c.ed, .slice A1' c.st.length n1', .slice A2' c.ou.length n2', .slice A3' (c.tr.length + 1) n3', .int .i64 c.co, .int .i64 c.us, .int .i64 c.wh, .slice A7' c.re.length n7', .slice A8' c.tl.length n8', .int .i64 c.pc, .int .i64 c.fu, .bool c.ov]).mono (fun k hk _ => by rcases hk with hk | hk; exact .inl hk; exact .inr (by omega))
  ·have d1 : decide (1 < z) = false := dF hz1
   go_wp2
   go_meet
   case rel =>
    have hve : vEv l1 1 v kx c = c := by rw [vEv, HZ.out, ja (by omega)]
    exact ⟨⟨_, by rw [hve]; exact V1.out.mono (fun k hk _ => .inl hk), Y1.out⟩, Y0, Y2, Y3, B1, K1⟩
 case rest =>
  clear p1 i2 q2 Y0 Y1 Y2 Y3 V1 B1 K1
  obtain ⟨HV, Y0, Y2, Y3, B1, K1⟩ := hcut
  obtain ⟨cs1, hv1, hy1⟩ := HV.out
  obtain ⟨c1, hc1⟩ : ∃ c1, c1 = vEv l1 1 v kx c := ⟨_, rfl⟩
  rw [<- hc1] at hv1
  obtain ⟨e1, e2, e3, e4, e5, e6, e7⟩ := z2G l1 1 v kx c
  rw [<- hc1] at e1 e2 e3 e4 e5 e6 e7
  obtain ⟨A1', n1', A2', n2', A3', n3', A7', n7', A8', n8', rfl, hh__, hh_⟩ := id hv1
  clear hh_ HV
  have hv2 := hv1.below (zj (jc _ _))
  obtain ⟨gs, ms, es, qs, qf, hQs, hBs', hgl, hput⟩ := hv2.cell (fst + kx).toNat (by rw [e2]; omega)
  obtain ⟨rfl, rfl⟩ : A1' = some ⟨gs, 0, none⟩ /\ n1' = ms := by
   have := sj es
   injection this with h1 h2 h3
   exact ⟨h1, h3⟩
  have HC := am hc1
  have Y1 := am (kdr hy1)
  have V1 := am hv2
  have hzw := HSZ.out
  have hlc : w.heap.size + 3 < wc.drew.heap.size := zM (kdr Y3.out)
  have D0 := am (kdr Y0.out)
  have D2 := am (kdr Y2.out)
  have D3 := am (kdr Y3.out)
  have DB := am (B1.out.trans ((zj (jc _ _)).mono B1.out.size))
  have DK := am (K1.out.below (zj (jc _ _)))
  have QS := am (show wc.drew.cell? ⟨gs, (fst + kx).toNat, none⟩ = some (.int .i64 (rg c1.st (fst + kx))) from qs)
  have E2 := am e2
  have hst : fst + kx < (c1.st.length : Int) := by rw [e2]; exact hf1
  have hre : ra < c1.re.length := by rw [e4]; exact hra
  have E4 := am e4
  have hpc1 : 0 <= c1.pc := by omega
  have hpc2 : c1.pc < 1000000000 := by omega
  have E6 := am e6
  have hwk : IntKind.i64.wrap (fst + kx) = fst + kx := by
   have := (Kd.R_reads' hh__).2.2.2.1
   rw [zP]; unfold wrap64; omega
  clear e1 e2 e3 e4 e5 e6 es hc1 hv1 hy1 hv2 qs qf hput Y0 Y2 Y3 B1 K1
  go_wp2
  refine sT 17 [1, 3, 4, 6, 8, 11, 0, 2, 5, 7, 9, 10, 12, 13, 14, 15, 16] [15, 16] fun hHeld => ?_
  generalize wc.drew = Y at Y1 V1 D0 D2 D3 DB DK QS hHeld hgl hlc ⊢
  have hq0_0 := bq Y1.out
  have hq0_1 := bq D2.out
  have hq0_2 := bq D0.out
  have hq0_3 : World.cell? _ ⟨gs, (fst + kx).toNat, none⟩ = some (.int .i64 (rg c1.st (fst + kx))) := QS.out
  repeat first | refine nx ?_ | refine ldT hHeld ?_ | refine un ?_
  refine on fun K hK => ?_
  refine gC Tryz.func48 ?_
  refine (zW.calls k _ _ l1 _ fst _ (ji HR1.out DB.out) HC1.out hF).mono ?_
  rintro e Y' ⟨rfl, hy'⟩
  have hyb := YL hy'
  have HYB := am hyb
  have Y1' := am (zd Y1.out hyb)
  have V1' := am (V1.out.below hyb)
  have D0' := am (zd D0.out hyb)
  have D2' := am (zd D2.out hyb)
  have D3' := am (zd D3.out hyb)
  have DB' := am (DB.out.trans (hyb.mono DB.out.size))
  have DK' := am (DK.out.below hyb)
  have QS' := am ((hyb.cell hgl).trans QS.out)
  have hys := hyb.size
  clear hy' Y1 V1 D0 D2 D3 DB DK QS
  refine ⟨_, rfl, ?_⟩
  refine hK.out _ _ (kp hHeld) fun hHeld => ?_
  clear hK K
  refine nM ?_
  repeat first | refine nx ?_ | refine ldT hHeld ?_ | refine un ?_
  refine la fun K hK => ?_
  refine gC Tryz.func74 ?_
  refine (z5x.calls w0 Y' _ _ c1 ra (rg c1.st (fst + kx)) DB'.out V1'.out.bound (fun k hk => hk.2) hre hpc1 hpc2).mono ?_
  rintro e W2 ⟨cs2, rfl, hv2, hb2, hk2⟩
  have X3 := am ((hk2.2 (w.heap.size + 3) (by omega) (fun h => by rcases h with ⟨h | h, _⟩; exact jm (HQ.out _ h) (by omega); omega)).trans D3'.out)
  obtain ⟨B1_, m1_, B2_, m2_, B3_, m3_, B7_, m7_, B8_, m8_, rfl, hh2⟩ := id hv2
  clear hh2
  have HV2 := am hv2
  have HB2 := am hb2
  have HK2 := am (DK'.out.then_ hk2 (fun k hk => by rcases hk with ⟨h | h, _⟩; exact .inl h; exact .inr (by omega)))
  have hs2 := hk2.1
  clear hv2 hk2 Y1' V1' D0' D2' D3' DB' DK' QS' hHeld
  refine ⟨_, rfl, ?_⟩
  refine hK.out _ _ ?_
  clear hK K
  refine nM ?_
  refine la fun K hK => ?_
  obtain ⟨z0, z1, z2, z3, z4, z5, z6, z7, z8, z9, z10, z11⟩ := z0S X3.out
  obtain ⟨g0, g1, g2, g3, g4, g5, g6, g7, g8, g9, g10, g11⟩ := yA X3.out
  refine ZX (w1 := ?_) (by rfl) rfl ?_ ?_
  rotate_left
  ·go_simp
   rfl
  refine hK.out _ _ ?_
  clear hK K
  refine dn ?_
  go_wp2
  change bodyPost _ _ _ _ _ (W2.setCells (w.heap.size + 3) 0 [.int .i64 c1.ed, .slice B1_ c1.st.length m1_, .slice B2_ c1.ou.length m2_, .slice B3_ c1.tr.length m3_, .int .i64 c1.co, .int .i64 c1.us, .int .i64 c1.wh, .slice B7_ c1.re.length m7_, .slice B8_ c1.tl.length m8_, .int .i64 (c1.pc + 1), .int .i64 c1.fu, .bool c1.ov])
  have hfill := Za (vs := [.int .i64 c1.ed, .slice B1_ c1.st.length m1_, .slice B2_ c1.ou.length m2_, .slice B3_ c1.tr.length m3_, .int .i64 c1.co, .int .i64 c1.us, .int .i64 c1.wh, .slice B7_ c1.re.length m7_, .slice B8_ c1.tl.length m8_, .int .i64 (c1.pc + 1), .int .i64 c1.fu, .bool c1.ov]) X3.out rfl
  refine bodyPost_ret (results_cell_row rfl _ _ (w.heap.size + 3) 48 #[.int .i64 c1.ed, .slice B1_ c1.st.length m1_, .slice B2_ c1.ou.length m2_, .slice B3_ c1.tr.length m3_, .int .i64 c1.co, .int .i64 c1.us, .int .i64 c1.wh, .slice B7_ c1.re.length m7_, .slice B8_ c1.tl.length m8_, .int .i64 (c1.pc + 1), .int .i64 c1.fu, .bool c1.ov] (0, 0) _ rfl hfill huV rfl (by kernel_rfl)) rfl ?_
  refine ⟨_, rfl, ?_, Zb HB2.out (by omega), yk HK2.out (.inr (by omega))⟩
  have hvf := (HV2.out.fill (g := w.heap.size + 3) (fun h => by rcases h with ⟨h | h, _⟩ | h; exact jm (HQ.out _ h) (by omega); omega; omega) [.int .i64 c1.ed, .slice B1_ c1.st.length m1_, .slice B2_ c1.ou.length m2_, .slice B3_ c1.tr.length m3_, .int .i64 c1.co, .int .i64 c1.us, .int .i64 c1.wh, .slice B7_ c1.re.length m7_, .slice B8_ c1.tl.length m8_, .int .i64 (c1.pc + 1), .int .i64 c1.fu, .bool c1.ov]).mono (Q' := fun k => Q k \/ w.heap.size <= k) (fun k hk _ => by rcases hk with ⟨h | h, _⟩ | h; exact .inl h; exact .inr (by omega); exact .inr (by omega))
  have hfin : z0H l1 fst ra v s c = { c1 with re := c1.re.set ra (rg c1.st (fst + kx)), pc := c1.pc + 1 } := by rw [z0H, HKX.out, <- HC.out, E2.out, E4.out, E6.out]
  rw [hfin]
  have hvg : VR _ _ _ #[.int .i64 c1.ed, .slice B1_ c1.st.length m1_, .slice B2_ c1.ou.length m2_, .slice B3_ c1.tr.length m3_, .int .i64 c1.co, .int .i64 c1.us, .int .i64 c1.wh, .slice B7_ (c1.re.set ra (rg c1.st (fst + kx))).length m7_, .slice B8_ c1.tl.length m8_, .int .i64 (c1.pc + 1), .int .i64 c1.fu, .bool c1.ov] _ := hvf
  rw [List.length_set] at hvg
  exact hvg
theorem z6M.calls (k : Nat) (w0 w : World) (Q : Nat -> Prop) (cs : Array Value) (c : VC) (wd : Int) (Av : Option Addr) (cv : Nat) (l1 : List S76) (Ai : Option Addr) (L ci : Nat) (op s r f4 fst : Int) (v : Nat) (hB : Below w0.heap.size w0 w) (hV : VR w w0.heap.size Q cs c) (hQ : ∀ k, Q k -> k < w.heap.size) (hr1 : Kd.C k76 w0 Av l1.length l1) (hc1 : l1.length <= cv) (hv : v < l1.length) (hs : ¬ (zp l1 v).f2 < 2 -> 0 <= s /\ s < c.re.length) (hr0 : 0 <= r) (hr1' : r < c.re.length) (hF : zW.f k l1 v = some fst) (hf0 : 0 <= fst + yt l1 c.re v s) (hf1 : fst + yt l1 c.re v s < c.st.length) (hp0 : 0 <= c.pc) (hp1 : c.pc < 1000000000) (htr : c.tr.length < 1000000000) :
  Calls Tryz.prog 77 #[.agg #[.int .i64 wd, .slice Av l1.length cv, .slice Ai L ci], .agg cs, .agg #[.int .i64 (op), .int .i64 ((v : Int)), .int .i64 (s), .int .i64 (r), .int .i64 (f4)]] w fun e w' => ∃ cs', e = .returned (.agg cs') /\ VR w' w0.heap.size (fun k => Q k \/ w.heap.size <= k) cs' (Yz l1 fst v s r c) /\ Below w0.heap.size w0 w' /\ zN w w' Q := by
 obtain ⟨A1, n1, A2, n2, A3, n3, A7, n7, A8, n8, rfl, hhst, hh⟩ := id hV
 clear hh
 obtain ⟨b_, hsz_, x0_, x1_, x2_, x3_⟩ := z7E w (.cells #[.int .i64 wd, .slice Av l1.length cv, .slice Ai L ci] 33) (.cells #[.int .i64 c.ed, .slice A1 c.st.length n1, .slice A2 c.ou.length n2, .slice A3 c.tr.length n3, .int .i64 c.co, .int .i64 c.us, .int .i64 c.wh, .slice A7 c.re.length n7, .slice A8 c.tl.length n8, .int .i64 c.pc, .int .i64 c.fu, .bool c.ov] 48) (.cells #[.int .i64 (op), .int .i64 ((v : Int)), .int .i64 (s), .int .i64 (r), .int .i64 (f4)] 93) (.cells #[.int .i64 0, .slice none 0 0, .slice none 0 0, .slice none 0 0, .int .i64 0, .int .i64 0, .int .i64 0, .slice none 0 0, .slice none 0 0, .int .i64 0, .int .i64 0, .bool false] 48)
 have HV0 := am (hV.below b_)
 have HB0 := am (hB.trans (b_.mono hB.size))
 have HK0 := am (show zN w _ Q from zN.of_below b_ _)
 have HBW := am b_
 have HSZ := am hsz_
 have XB0 := am x0_
 have XB1 := am x1_
 have XB2 := am x2_
 have XB3 := am x3_
 have HQ := am hQ
 have hBs := hB.size
 have HR1 := am hr1
 have HC1 := am hc1
 clear hsz_ hQ hB hr1 hc1 b_ x0_ x1_ x2_ x3_
 have hlen := HR1.out.2.1
 have hlst := (Kd.R_reads' hhst).2.2.2.1
 obtain ⟨ad, rfl, q0, q1, q2⟩ := Zs HR1.out (v : Int) (by omega) (by omega)
 rw [jh] at q2
 have Q2 := am q2
 clear q0 q1 q2 hhst
 have huV := Tryz.underlying48
 have huC := Tryz.underlying33
 have huI := Tryz.underlying93
 have huR := Tryz.underlying44
 obtain ⟨kx, hkx⟩ : ∃ kx, yt l1 c.re v s = kx := ⟨_, rfl⟩
 rw [hkx] at hf0 hf1
 have HKX := am hkx
 clear hkx
 have hltv : (v : Int) < (l1.length : Int) := by omega
 go_enter Tryz.func77, Tryz.ntmps77
 go_upto_region 1 with (fail)
 generalize (((w.alloc (.cells #[.int .i64 wd, .slice (some ad) l1.length cv, .slice Ai L ci] 33)).alloc (.cells #[.int .i64 c.ed, .slice A1 c.st.length n1, .slice A2 c.ou.length n2, .slice A3 c.tr.length n3, .int .i64 c.co, .int .i64 c.us, .int .i64 c.wh, .slice A7 c.re.length n7, .slice A8 c.tl.length n8, .int .i64 c.pc, .int .i64 c.fu, .bool c.ov] 48)).alloc (.cells #[.int .i64 (op), .int .i64 ((v : Int)), .int .i64 (s), .int .i64 (r), .int .i64 (f4)] 93)).alloc (.cells #[.int .i64 0, .slice none 0 0, .slice none 0 0, .slice none 0 0, .int .i64 0, .int .i64 0, .int .i64 0, .slice none 0 0, .slice none 0 0, .int .i64 0, .int .i64 0, .bool false] 48) = W0 at HV0 HB0 HK0 HBW HSZ XB0 XB1 XB2 XB3 ⊢
 obtain ⟨p0, p1, p2⟩ := row3 XB0.out
 obtain ⟨c0, c1, c2, c3, c4, c5, c6, c7, c8, c9, c10, c11⟩ := z0S XB1.out
 obtain ⟨i0, i1, i2, i3, i4⟩ := row5 XB2.out
 go_upto_region 2 with (first | (go_at_call 104; refine (z4g.calls w0 W0 Q _ c wd (some ad) cv l1 Ai L ci v s HB0.out HV0.out (fun k hk => by have := HQ.out k hk; have := HSZ.out; omega) HR1.out HC1.out hv hs).mono ?_; rintro e W1 ⟨rfl, hb1⟩; rw [HKX.out]; have BW1 := am hb1; clear hb1))
 clear p0 p1 p2 c0 c1 c2 c3 c4 c5 c6 c7 c8 c9 c10 c11 i0 i1 i2 i3 i4
 have hs0 := HSZ.out
 have hs1 := BW1.out.size
 have D0 := am (kdr (zd XB0.out BW1.out))
 have D1 := am (kdr (zd XB1.out BW1.out))
 have D2 := am (kdr (zd XB2.out BW1.out))
 have D3 := am (kdr (zd XB3.out BW1.out))
 have VD := am ((HV0.out.below BW1.out).below (zj (jc _ _)))
 have DB := am ((HB0.out.trans (BW1.out.mono HB0.out.size)).trans ((zj (jc _ _)).mono (Nat.le_trans HB0.out.size hs1)))
 have DK := am ((HK0.out.below BW1.out).below (zj (jc _ _)))
 have hsW1 : w.heap.size + 4 <= W1.drew.heap.size := by show w.heap.size + 4 <= W1.heap.size; omega
 clear XB0 XB1 XB2 XB3 HV0 HB0 HK0 BW1 HBW hs0 hs1
 obtain ⟨g0, m0, e0, qg, qf0, hQg, hBg, hgl0, hput0⟩ := VD.out.reg r.toNat (by omega)
 obtain ⟨rfl, rfl⟩ : A7 = some ⟨g0, 0, none⟩ /\ n7 = m0 := by
  have := sj e0
  injection this with h1 h2 h3
  exact ⟨h1, h3⟩
 obtain ⟨gs, ms, es, qs, qf, hQs, hBs', hgl, hput⟩ := VD.out.cell (fst + kx).toNat (by omega)
 obtain ⟨rfl, rfl⟩ : A1 = some ⟨gs, 0, none⟩ /\ n1 = ms := by
  have := sj es
  injection this with h1 h2 h3
  exact ⟨h1, h3⟩
 have QG := am (show W1.drew.cell? ⟨g0, r.toNat, none⟩ = some (.int .i64 (rg c.re r)) from qg)
 have hwk : IntKind.i64.wrap (fst + kx) = fst + kx := by rw [zP]; unfold wrap64; omega
 clear e0 es qg qf0 hput0 qs qf hput
 go_wp2
 refine sT 18 [0, 1, 3, 5, 8, 10, 12, 2, 4, 6, 11, 13, 14, 15, 7, 9, 16, 17] [17] fun hHeld => ?_
 generalize W1.drew = Y at D0 D1 D2 D3 VD DB DK QG hHeld hgl0 hgl hsW1 ⊢
 have hq0_0 := bq D1.out
 have hq0_1 := bq D2.out
 have hq0_2 := bq D0.out
 have hq0_3 : World.cell? _ ⟨g0, r.toNat, none⟩ = some (.int .i64 (rg c.re r)) := QG.out
 repeat first | refine nx ?_ | refine ldT hHeld ?_ | refine un ?_
 refine on fun K hK => ?_
 refine gC Tryz.func48 ?_
 refine (zW.calls k _ _ l1 _ fst _ (ji HR1.out DB.out) HC1.out hF).mono ?_
 rintro e Y' ⟨rfl, hy'⟩
 have hyb := YL hy'
 have D0' := am (zd D0.out hyb)
 have D1' := am (zd D1.out hyb)
 have D2' := am (zd D2.out hyb)
 have D3' := am (zd D3.out hyb)
 have VD' := am (VD.out.below hyb)
 have DB' := am (DB.out.trans (hyb.mono DB.out.size))
 have DK' := am (DK.out.below hyb)
 have QG' := am ((hyb.cell hgl0).trans QG.out)
 have hys := hyb.size
 clear hy' D0 D1 D2 D3 VD DB DK QG
 refine ⟨_, rfl, ?_⟩
 refine hK.out _ _ (kp hHeld) fun hHeld => ?_
 clear hK K
 refine nM ?_
 repeat first | refine nx ?_ | refine ldT hHeld ?_ | refine un ?_
 refine la fun K hK => ?_
 obtain ⟨gs', ms, es, qs, qf, hQs', hBs9, hgl9, hput⟩ := VD'.out.cell (fst + kx).toNat (by omega)
 obtain rfl : gs = gs' := by
  have := sj es
  injection this with h1 h2 h3
  injection h1 with h1
  injection h1
 have hq9 := qf (fst + kx).toNat
 have HPUT := am (hput (rg c.re r))
 clear hput qf es
 refine ZX (w1 := ?_) (by rfl) rfl ?_ ?_
 rotate_left
 ·go_simp
  rfl
 refine hK.out _ _ ?_
 clear hK K
 refine dn ?_
 have hfar : ∀ k, w.heap.size <= k -> k < w.heap.size + 4 -> ∀ o, Y'.heap[k]? = some o -> (Y'.setCell ⟨gs, (fst + kx).toNat, none⟩ (.int .i64 (rg c.re r))).heap[k]? = some o := fun k h1 h2 o ho => (jl _ _ _ _ (by have := HQ.out _ hQs; show k ≠ gs; omega)).trans ho
 have Y0 := am (hfar _ (by omega) (by omega) _ D0'.out)
 have y1 := hfar _ (by omega) (by omega) _ D1'.out
 have Y2 := am (hfar _ (by omega) (by omega) _ D2'.out)
 have Y3 := am (hfar _ (by omega) (by omega) _ D3'.out)
 have B1 := am (DB'.out.setCell (p := ⟨gs, (fst + kx).toNat, none⟩) hBs9 (.int .i64 (rg c.re r)))
 have K1 := am (DK'.out.setCell (p := ⟨gs, (fst + kx).toNat, none⟩) (.inl hQs) (.int .i64 (rg c.re r)))
 have hsW : w.heap.size + 4 <= (Y'.setCell ⟨gs, (fst + kx).toNat, none⟩ (.int .i64 (rg c.re r))).heap.size := by simp; omega
 generalize Y'.setCell ⟨gs, (fst + kx).toNat, none⟩ (.int .i64 (rg c.re r)) = W2 at HPUT Y0 y1 Y2 Y3 B1 K1 hsW ⊢
 obtain ⟨cx, hcx⟩ : ∃ cx : VC, cx = { c with st := c.st.set (fst + kx).toNat (rg c.re r) } := ⟨_, rfl⟩
 have v1 := HPUT.out
 rw [<- hcx] at v1
 obtain ⟨A1x, n1x, A2x, n2x, A3x, n3x, A7x, n7x, A8x, n8x, ecs, hh9⟩ := id v1
 clear hh9
 rw [ecs] at y1 v1
 have Y1 := am y1
 have V1 := am v1
 have HCX := am hcx
 have htr9 : cx.tr.length < 1000000000 := by rw [hcx]; exact htr
 clear hfar HPUT hcx v1 y1 ecs D0' D1' D2' D3' VD' DB' DK' QG' hHeld hq9 qs htr
 have p1 : W2.cell? ⟨w.heap.size, 1, none⟩ = some (.slice (some ad) l1.length cv) := (za Y0.out 1).trans rfl
 have i2 : W2.cell? ⟨w.heap.size + 2, 1, none⟩ = some (.int .i64 (v : Int)) := (za Y2.out 1).trans rfl
 obtain ⟨z, hz⟩ : ∃ z, (zp l1 v).f2 = z := ⟨_, rfl⟩
 have q2 := (B1.out.cell (jd w0 _ Q2.out)).trans Q2.out
 rw [hz] at q2
 have HZ := am hz
 clear hz
 go_upto_if 39 with (fail)
 go_cut [] (fun wc => Aside0 (∃ cs1, VR wc w0.heap.size (fun k => Q k \/ w.heap.size + 4 <= k) cs1 (vEv l1 2 v kx cx) /\ wc.heap[w.heap.size + 1]? = some (.cells cs1 48 (0, 0))) /\ Aside0 (wc.heap[w.heap.size]? = some (.cells #[.int .i64 wd, .slice (some ad) l1.length cv, .slice Ai L ci] 33 (0, 0))) /\ Aside0 (wc.heap[w.heap.size + 2]? = some (.cells #[.int .i64 (op), .int .i64 ((v : Int)), .int .i64 (s), .int .i64 (r), .int .i64 (f4)] 93 (0, 0))) /\ Aside0 (wc.heap[w.heap.size + 3]? = some (.cells #[.int .i64 0, .slice none 0 0, .slice none 0 0, .slice none 0 0, .int .i64 0, .int .i64 0, .int .i64 0, .slice none 0 0, .slice none 0 0, .int .i64 0, .int .i64 0, .bool false] 48 (0, 0))) /\ Aside0 (Below w0.heap.size w0 wc) /\ Aside0 (zN w wc Q))
 case first =>
  by_cases hz1 : 1 < z
  ·have d1 : decide (1 < z) = true := dT hz1
   obtain ⟨c0, c1, c2, c3, c4, c5, c6, c7, c8, c9, c10, c11⟩ := z0S Y1.out
   have YY0 := Y0
   have YY1 := Y1
   have YY2 := Y2
   have YY3 := Y3
   go_upto_region 5 with (first | (go_at_call 79; refine (z2E.calls w0 W2 _ _ cx 2 v kx B1.out V1.out (fun k hk => by have := HQ.out k hk; omega) htr9).mono ?_; rintro e W3 ⟨cs', rfl, hv2, hb2, hk2⟩; obtain ⟨A1', n1', A2', n2', A3', n3', A7', n7', A8', n8', rfl, hh_⟩ := id hv2; clear hh_; have V2 := am hv2; have B2 := am hb2; have K2 := am hk2; clear hv2 hb2 hk2; have Z1 := am ((K2.out.2 (w.heap.size + 1) (by omega) (fun h => by have := HQ.out _ h; omega)).trans YY1.out); clear c0 c1 c2 c3 c4 c5 c6 c7 c8 c9 c10 c11 p1 i2 q2; have z0 : W3.cell? ⟨w.heap.size + 1, 0, none⟩ = some (.int .i64 cx.ed) := (za Z1.out 0).trans rfl; have z1 : W3.cell? ⟨w.heap.size + 1, 1, none⟩ = some (.slice A1x cx.st.length n1x) := (za Z1.out 1).trans rfl; have z2 : W3.cell? ⟨w.heap.size + 1, 2, none⟩ = some (.slice A2x cx.ou.length n2x) := (za Z1.out 2).trans rfl; have z3 : W3.cell? ⟨w.heap.size + 1, 3, none⟩ = some (.slice A3x cx.tr.length n3x) := (za Z1.out 3).trans rfl; have z4 : W3.cell? ⟨w.heap.size + 1, 4, none⟩ = some (.int .i64 cx.co) := (za Z1.out 4).trans rfl; have z5 : W3.cell? ⟨w.heap.size + 1, 5, none⟩ = some (.int .i64 cx.us) := (za Z1.out 5).trans rfl; have z6 : W3.cell? ⟨w.heap.size + 1, 6, none⟩ = some (.int .i64 cx.wh) := (za Z1.out 6).trans rfl; have z7 : W3.cell? ⟨w.heap.size + 1, 7, none⟩ = some (.slice A7x cx.re.length n7x) := (za Z1.out 7).trans rfl; have z8 : W3.cell? ⟨w.heap.size + 1, 8, none⟩ = some (.slice A8x cx.tl.length n8x) := (za Z1.out 8).trans rfl; have z9 : W3.cell? ⟨w.heap.size + 1, 9, none⟩ = some (.int .i64 cx.pc) := (za Z1.out 9).trans rfl; have z10 : W3.cell? ⟨w.heap.size + 1, 10, none⟩ = some (.int .i64 cx.fu) := (za Z1.out 10).trans rfl; have z11 : W3.cell? ⟨w.heap.size + 1, 11, none⟩ = some (.bool cx.ov) := (za Z1.out 11).trans rfl; have g0 := zf Z1.out 0; have g1 := zf Z1.out 1; have g2 := zf Z1.out 2; have g3 := zf Z1.out 3; have g4 := zf Z1.out 4; have g5 := zf Z1.out 5; have g6 := zf Z1.out 6; have g7 := zf Z1.out 7; have g8 := zf Z1.out 8; have g9 := zf Z1.out 9; have g10 := zf Z1.out 10; have g11 := zf Z1.out 11))
   go_meet
   case rel =>
    have hw1 := hsW
    have far : ∀ k, k ≠ w.heap.size + 1 -> k < W2.heap.size -> ¬ Q k -> ∀ o, W2.heap[k]? = some o -> (W3.setCells (w.heap.size + 1) 0 [.int .i64 cx.ed, .slice A1' cx.st.length n1', .slice A2' cx.ou.length n2', .slice A3' (cx.tr.length + 1) n3', .int .i64 cx.co, .int .i64 cx.us, .int .i64 cx.wh, .slice A7' cx.re.length n7', .slice A8' cx.tl.length n8', .int .i64 cx.pc, .int .i64 cx.fu, .bool cx.ov]).heap[k]? = some o := fun k h1 h2 h3 o ho => (Zj h1).trans ((K2.out.2 k h2 h3).trans ho)
    have nq : ∀ k, w.heap.size <= k -> ¬ Q k := fun k h hq => by have := HQ.out k hq; omega
    have hl3 : (cx.tr ++ [(⟨2, v, kx⟩ : Z4)]).length = cx.tr.length + 1 := by simp
    have v2 : VR W3 w0.heap.size (fun k => Q k \/ W2.heap.size <= k) #[.int .i64 cx.ed, .slice A1' cx.st.length n1', .slice A2' cx.ou.length n2', .slice A3' (cx.tr ++ [(⟨2, v, kx⟩ : Z4)]).length n3', .int .i64 cx.co, .int .i64 cx.us, .int .i64 cx.wh, .slice A7' cx.re.length n7', .slice A8' cx.tl.length n8', .int .i64 cx.pc, .int .i64 cx.fu, .bool cx.ov] { cx with tr := cx.tr ++ [⟨2, v, kx⟩] } := V2.out
    rw [hl3] at v2
    have hfill := Za (vs := [.int .i64 cx.ed, .slice A1' cx.st.length n1', .slice A2' cx.ou.length n2', .slice A3' (cx.tr.length + 1) n3', .int .i64 cx.co, .int .i64 cx.us, .int .i64 cx.wh, .slice A7' cx.re.length n7', .slice A8' cx.tl.length n8', .int .i64 cx.pc, .int .i64 cx.fu, .bool cx.ov]) Z1.out rfl
    have hb9 := Zb (vs := [.int .i64 cx.ed, .slice A1' cx.st.length n1', .slice A2' cx.ou.length n2', .slice A3' (cx.tr.length + 1) n3', .int .i64 cx.co, .int .i64 cx.us, .int .i64 cx.wh, .slice A7' cx.re.length n7', .slice A8' cx.tl.length n8', .int .i64 cx.pc, .int .i64 cx.fu, .bool cx.ov]) (g := w.heap.size + 1) B2.out (by omega)
    have hk9 := yk (vs := [.int .i64 cx.ed, .slice A1' cx.st.length n1', .slice A2' cx.ou.length n2', .slice A3' (cx.tr.length + 1) n3', .int .i64 cx.co, .int .i64 cx.us, .int .i64 cx.wh, .slice A7' cx.re.length n7', .slice A8' cx.tl.length n8', .int .i64 cx.pc, .int .i64 cx.fu, .bool cx.ov]) (g := w.heap.size + 1) (K1.out.then_ K2.out (fun k h => .inl h)) (.inr (by omega))
    refine ⟨⟨#[.int .i64 cx.ed, .slice A1' cx.st.length n1', .slice A2' cx.ou.length n2', .slice A3' (cx.tr.length + 1) n3', .int .i64 cx.co, .int .i64 cx.us, .int .i64 cx.wh, .slice A7' cx.re.length n7', .slice A8' cx.tl.length n8', .int .i64 cx.pc, .int .i64 cx.fu, .bool cx.ov], ?_, hfill⟩, ⟨far _ (by omega) (by omega) (nq _ (by omega)) _ YY0.out⟩, ⟨far _ (by omega) (by omega) (nq _ (by omega)) _ YY2.out⟩, ⟨far _ (by omega) (by omega) (nq _ (by omega)) _ YY3.out⟩, ⟨hb9⟩, ⟨hk9⟩⟩
    have hve : vEv l1 2 v kx cx = { cx with tr := cx.tr ++ [⟨2, v, kx⟩] } := by rw [vEv, HZ.out, jb hz1]
    rw [hve]
    exact (v2.fill (g := w.heap.size + 1) (fun h => by rcases h with h | h; exact nq _ (by omega) h; omega) [.int .i64 cx.ed, .slice A1' cx.st.length n1', .slice A2' cx.ou.length n2', .slice A3' (cx.tr.length + 1) n3', .int .i64 cx.co, .int .i64 cx.us, .int .i64 cx.wh, .slice A7' cx.re.length n7', .slice A8' cx.tl.length n8', .int .i64 cx.pc, .int .i64 cx.fu, .bool cx.ov]).mono (fun k hk _ => by rcases hk with hk | hk; exact .inl hk; exact .inr (by omega))
  ·have d1 : decide (1 < z) = false := dF hz1
   go_wp2
   go_meet
   case rel =>
    have hve : vEv l1 2 v kx cx = cx := by rw [vEv, HZ.out, ja (by omega)]
    exact ⟨⟨_, by rw [hve]; exact V1.out.mono (fun k hk _ => .inl hk), Y1.out⟩, Y0, Y2, Y3, B1, K1⟩
 case rest =>
  clear p1 i2 q2 Y0 Y1 Y2 Y3 V1 B1 K1
  obtain ⟨HV, Y0, Y2, Y3, B1, K1⟩ := hcut
  obtain ⟨cs1, hv1, hy1⟩ := HV.out
  obtain ⟨c1, hc1⟩ : ∃ c1, c1 = vEv l1 2 v kx cx := ⟨_, rfl⟩
  rw [<- hc1] at hv1
  obtain ⟨e1, e2, e3, e4, e5, e6, e7⟩ := z2G l1 2 v kx cx
  rw [<- hc1] at e6
  obtain ⟨A1', n1', A2', n2', A3', n3', A7', n7', A8', n8', rfl, hh_⟩ := id hv1
  clear hh_ HV e1 e2 e3 e4 e5 e7
  have e8 : c1.pc = c.pc := by rw [e6, HCX.out]
  have hpc1 : 0 <= c1.pc := by omega
  have hpc2 : c1.pc < 1000000000 := by omega
  have hwp : IntKind.i64.wrap (c1.pc + 1) = c1.pc + 1 := by rw [zP]; unfold wrap64; omega
  have HC := am hc1
  have Y1 := am hy1
  have V1 := am hv1
  clear hc1 hv1 hy1 e6 e8
  have u_q := bq Y1.out
  have f9 := zf Y1.out 9
  obtain ⟨z0, z1, z2, z3, z4, z5, z6, z7, z8, z9, z10, z11⟩ := z0S Y3.out
  obtain ⟨g0, g1, g2, g3, g4, g5, g6, g7, g8, g9, g10, g11⟩ := yA Y3.out
  go_wp2
  change bodyPost _ _ _ _ _ ((wc.setCell ⟨w.heap.size + 1, 9, none⟩ (.int .i64 (c1.pc + 1))).setCells (w.heap.size + 3) 0 [.int .i64 c1.ed, .slice A1' c1.st.length n1', .slice A2' c1.ou.length n2', .slice A3' c1.tr.length n3', .int .i64 c1.co, .int .i64 c1.us, .int .i64 c1.wh, .slice A7' c1.re.length n7', .slice A8' c1.tl.length n8', .int .i64 (c1.pc + 1), .int .i64 c1.fu, .bool c1.ov])
  have x3 := (jl wc ⟨w.heap.size + 1, 9, none⟩ (.int .i64 (c1.pc + 1)) (w.heap.size + 3) (by show w.heap.size + 3 ≠ w.heap.size + 1; omega)).trans Y3.out
  have nq : ¬ (Q (w.heap.size + 1) \/ w.heap.size + 4 <= w.heap.size + 1) := fun h => by rcases h with h | h; (have := HQ.out _ h; omega); omega
  have nq3 : ¬ (Q (w.heap.size + 3) \/ w.heap.size + 4 <= w.heap.size + 3) := fun h => by rcases h with h | h; (have := HQ.out _ h; omega); omega
  have v9 := (V1.out.set (p := ⟨w.heap.size + 1, 9, none⟩) nq (.int .i64 (c1.pc + 1))).pc' (c1.pc + 1)
  have b9 := B1.out.setCell (p := ⟨w.heap.size + 1, 9, none⟩) (by show w0.heap.size <= w.heap.size + 1; omega) (.int .i64 (c1.pc + 1))
  have k9 := K1.out.setCell (p := ⟨w.heap.size + 1, 9, none⟩) (.inr (Nat.le_succ _)) (.int .i64 (c1.pc + 1))
  generalize wc.setCell ⟨w.heap.size + 1, 9, none⟩ (.int .i64 (c1.pc + 1)) = Wf at x3 v9 b9 k9 ⊢
  have hfill := Za (vs := [.int .i64 c1.ed, .slice A1' c1.st.length n1', .slice A2' c1.ou.length n2', .slice A3' c1.tr.length n3', .int .i64 c1.co, .int .i64 c1.us, .int .i64 c1.wh, .slice A7' c1.re.length n7', .slice A8' c1.tl.length n8', .int .i64 (c1.pc + 1), .int .i64 c1.fu, .bool c1.ov]) x3 rfl
  refine bodyPost_ret (results_cell_row rfl _ _ (w.heap.size + 3) 48 #[.int .i64 c1.ed, .slice A1' c1.st.length n1', .slice A2' c1.ou.length n2', .slice A3' c1.tr.length n3', .int .i64 c1.co, .int .i64 c1.us, .int .i64 c1.wh, .slice A7' c1.re.length n7', .slice A8' c1.tl.length n8', .int .i64 (c1.pc + 1), .int .i64 c1.fu, .bool c1.ov] (0, 0) _ rfl hfill huV rfl (by kernel_rfl)) rfl ?_
  have hfin : Yz l1 fst v s r c = { c1 with pc := c1.pc + 1 } := by
   rw [Yz, HKX.out, <- HCX.out, <- HC.out]
   have : c1.pc = c.pc := by rw [HC.out, (z2G l1 2 v kx cx).2.2.2.2.2.1, HCX.out]
   rw [this]
  rw [hfin]
  exact ⟨_, rfl, (v9.fill (g := w.heap.size + 3) nq3 [.int .i64 c1.ed, .slice A1' c1.st.length n1', .slice A2' c1.ou.length n2', .slice A3' c1.tr.length n3', .int .i64 c1.co, .int .i64 c1.us, .int .i64 c1.wh, .slice A7' c1.re.length n7', .slice A8' c1.tl.length n8', .int .i64 (c1.pc + 1), .int .i64 c1.fu, .bool c1.ov]).mono (fun k hk _ => by rcases hk with h | h; exact .inl h; exact .inr (by omega)), Zb b9 (by omega), yk k9 (.inr (by omega))⟩
def Yf (x : Int) (c : VC) : VC := { c with ed := x, ov := true, wh := if x = 0 then c.wh else c.pc }
def ZN (r a : Int) (c : VC) : VC := { c with re := c.re.set r.toNat a, pc := c.pc + 1 }
def vDo (k : Nat) (wd : Int) (l1 : List S76) (picks : List Int) (c : VC) (i : S93) : Option VC :=
 if i.f0 = 0 then some (ZN i.f1 i.f2 c)
 else if i.f0 = 1 then (z6h k wd c.re i).map fun r => ZN i.f1 r c
 else if i.f0 = 2 then some (ZN i.f1 (if rg c.re i.f2 = 0 then rg c.re i.f4 else rg c.re i.f3) c)
 else if i.f0 = 3 then (zW.f k l1 i.f2).map fun fst => z0H l1 fst i.f1.toNat i.f2.toNat i.f3 c
 else if i.f0 = 4 then (zW.f k l1 i.f1).map fun fst => Yz l1 fst i.f1.toNat i.f2 i.f3 c
 else if i.f0 = 5 then some { c with pc := i.f1 }
 else if i.f0 = 6 then some { c with tr := c.tr ++ [⟨0, c.pc, if rg c.re i.f1 = 0 then 1 else 0⟩], pc := if rg c.re i.f1 = 0 then i.f2 else c.pc + 1 }
 else if i.f0 = 7 then some { c with ou := c.ou ++ [⟨i.f1, rg c.re i.f2⟩], pc := c.pc + 1 }
 else if i.f0 = 8 then (if (picks.length : Int) <= c.us then some (Yf 4 c) else some (ZN i.f1 (rg picks c.us) { c with us := c.us + 1 }))
 else if i.f0 = 9 then (if rg c.re i.f1 = 0 then some (Yf 1 c) else some { c with pc := c.pc + 1 })
 else if i.f0 = 10 then (if rg c.re i.f1 = 0 then some (Yf 2 c) else some { c with pc := c.pc + 1 })
 else some (Yf 0 c)
def z01 (c : VC) (r : Int) : Prop := 0 <= r /\ r < c.re.length
def z4i (l1 : List S76) (fst : Int) (v s : Int) (c : VC) : Prop := 0 <= v /\ v < l1.length /\ (¬ (zp l1 v.toNat).f2 < 2 -> z01 c s) /\ 0 <= fst + yt l1 c.re v.toNat s /\ fst + yt l1 c.re v.toNat s < c.st.length
def vFit (k : Nat) (l1 : List S76) (c : VC) (i : S93) : Prop :=
 (0 <= c.pc /\ c.pc < 1000000000 /\ c.tr.length < 1000000000 /\ c.ou.length < 1000000000 /\ 0 <= c.us /\ c.us < 1000000000) /\
 (i.f0 = 0 -> z01 c i.f1) /\ (i.f0 = 1 -> z01 c i.f1 /\ z01 c i.f3 /\ (i.f2 ≠ 12 -> z01 c i.f4)) /\ (i.f0 = 2 -> z01 c i.f1 /\ z01 c i.f2 /\ z01 c i.f3 /\ z01 c i.f4) /\
 (i.f0 = 3 -> z01 c i.f1 /\ ∀ fst, zW.f k l1 i.f2 = some fst -> z4i l1 fst i.f2 i.f3 c) /\ (i.f0 = 4 -> z01 c i.f3 /\ ∀ fst, zW.f k l1 i.f1 = some fst -> z4i l1 fst i.f1 i.f2 c) /\
 (i.f0 = 6 -> z01 c i.f1) /\ (i.f0 = 7 -> z01 c i.f2) /\ (i.f0 = 8 -> z01 c i.f1) /\ (i.f0 = 9 -> z01 c i.f1) /\ (i.f0 = 10 -> z01 c i.f1)
theorem infoOut : (Tryz.prog.info? 134).map (fun i => (i.zero, i.size, i.bytes)) = some (some (.agg Vnq), 2, 16) := by kernel_rfl
theorem z0M (w0 w : World) (Q : Nat -> Prop) (cs : Array Value) (c : VC) (r a : Int) (hB : Below w0.heap.size w0 w) (hV : VR w w0.heap.size Q cs c) (hQ : ∀ k, Q k -> k < w.heap.size) (hr : z01 c r) (hp0 : 0 <= c.pc) (hp1 : c.pc < 1000000000) :
  Calls Tryz.prog 74 #[.agg cs, .int .i64 r, .int .i64 a] w fun e w' => ∃ cs', e = .returned (.agg cs') /\ VR w' w0.heap.size (fun k => Q k \/ w.heap.size <= k) cs' (ZN r a c) /\ Below w0.heap.size w0 w' /\ zN w w' Q := by
 obtain ⟨n, rfl⟩ := Int.eq_ofNat_of_zero_le hr.1
 have := z5x.calls w0 w Q cs c n a hB hV hQ (by have := hr.2; omega) hp0 hp1
 rw [ZN, jh]
 exact this
theorem z6N (k : Nat) (w0 w : World) (Q : Nat -> Prop) (cs : Array Value) (c : VC) (wd : Int) (Av : Option Addr) (cv : Nat) (l1 : List S76) (Ai : Option Addr) (L ci : Nat) (i : S93) (fst : Int) (hB : Below w0.heap.size w0 w) (hV : VR w w0.heap.size Q cs c) (hQ : ∀ k, Q k -> k < w.heap.size) (hr1 : Kd.C k76 w0 Av l1.length l1) (hc1 : l1.length <= cv) (hra : z01 c i.f1) (hc : z4i l1 fst i.f2 i.f3 c) (hF : zW.f k l1 i.f2 = some fst) (hp0 : 0 <= c.pc) (hp1 : c.pc < 1000000000) (htr : c.tr.length < 1000000000) :
  Calls Tryz.prog 76 #[.agg (Vo wd Av l1 cv Ai L ci), .agg cs, .agg (Vl i.f0 i.f1 i.f2 i.f3 i.f4)] w fun e w' => ∃ cs', e = .returned (.agg cs') /\ VR w' w0.heap.size (fun k => Q k \/ w.heap.size <= k) cs' (z0H l1 fst i.f1.toNat i.f2.toNat i.f3 c) /\ Below w0.heap.size w0 w' /\ zN w w' Q := by
 obtain ⟨op, a, v, s, f4⟩ := i
 dsimp only at hra hc hF ⊢
 obtain ⟨n, rfl⟩ := Int.eq_ofNat_of_zero_le hra.1
 obtain ⟨h1, h2, h3, h4, h5⟩ := hc
 obtain ⟨m, rfl⟩ := Int.eq_ofNat_of_zero_le h1
 simp only [Int.ofNat_eq_natCast, jh] at *
 exact vm_load.calls k w0 w Q cs c wd Av cv l1 Ai L ci op s f4 fst n m hB hV hQ hr1 hc1 (by omega) h3 (by have := hra.2; omega) hF h4 h5 hp0 hp1 htr
theorem z6f (k : Nat) (w0 w : World) (Q : Nat -> Prop) (cs : Array Value) (c : VC) (wd : Int) (Av : Option Addr) (cv : Nat) (l1 : List S76) (Ai : Option Addr) (L ci : Nat) (i : S93) (fst : Int) (hB : Below w0.heap.size w0 w) (hV : VR w w0.heap.size Q cs c) (hQ : ∀ k, Q k -> k < w.heap.size) (hr1 : Kd.C k76 w0 Av l1.length l1) (hc1 : l1.length <= cv) (hr : z01 c i.f3) (hc : z4i l1 fst i.f1 i.f2 c) (hF : zW.f k l1 i.f1 = some fst) (hp0 : 0 <= c.pc) (hp1 : c.pc < 1000000000) (htr : c.tr.length < 1000000000) :
  Calls Tryz.prog 77 #[.agg (Vo wd Av l1 cv Ai L ci), .agg cs, .agg (Vl i.f0 i.f1 i.f2 i.f3 i.f4)] w fun e w' => ∃ cs', e = .returned (.agg cs') /\ VR w' w0.heap.size (fun k => Q k \/ w.heap.size <= k) cs' (Yz l1 fst i.f1.toNat i.f2 i.f3 c) /\ Below w0.heap.size w0 w' /\ zN w w' Q := by
 obtain ⟨op, v, s, r, f4⟩ := i
 dsimp only at hr hc hF ⊢
 obtain ⟨h1, h2, h3, h4, h5⟩ := hc
 obtain ⟨m, rfl⟩ := Int.eq_ofNat_of_zero_le h1
 simp only [Int.ofNat_eq_natCast, jh] at *
 exact z6M.calls k w0 w Q cs c wd Av cv l1 Ai L ci op s r f4 fst m hB hV hQ hr1 hc1 (by omega) h3 hr.1 hr.2 hF h4 h5 hp0 hp1 htr
theorem vm_do.calls (k : Nat) (w0 w : World) (Q : Nat -> Prop) (cs : Array Value) (c : VC) (wd : Int) (Av : Option Addr) (cv : Nat) (l1 : List S76) (Ai : Option Addr) (L ci : Nat) (Ap_ : Option Addr) (np : Nat) (picks : List Int) (i : S93) (c' : VC) (hB : Below w0.heap.size w0 w) (hV : VR w w0.heap.size Q cs c) (hQ : ∀ k, Q k -> k < w.heap.size) (hr1 : Kd.C k76 w0 Av l1.length l1) (hc1 : l1.length <= cv) (hpk : Kd.C (Kd.int .i64) w0 Ap_ picks.length picks) (hpn : picks.length <= np) (hf : vFit k l1 c i) (h : vDo k wd l1 picks c i = some c') :
  Calls Tryz.prog 46 #[.agg (Vo wd Av l1 cv Ai L ci), .slice Ap_ picks.length np, .agg cs, .agg (Vl i.f0 i.f1 i.f2 i.f3 i.f4)] w fun e w' => ∃ cs', e = .returned (.agg cs') /\ VR w' w0.heap.size (fun k => Q k \/ w.heap.size <= k) cs' c' /\ Below w0.heap.size w0 w' /\ zN w w' Q := by
 obtain ⟨A1, n1, A2, n2, A3, n3, A7, n7, A8, n8, rfl, hh⟩ := id hV
 clear hh
 obtain ⟨b_, hsz_, x0_, x1_, x2_, x3_⟩ := z7E w (.cells (Vo wd Av l1 cv Ai L ci) 33) (.cells (Vc c.ed A1 c.st n1 A2 c.ou n2 A3 c.tr n3 c.co c.us c.wh A7 c.re n7 A8 c.tl n8 c.pc c.fu c.ov) 48) (.cells (Vl i.f0 i.f1 i.f2 i.f3 i.f4) 93) (.cells (Vd false) 48)
 have HV0 := am (hV.below b_)
 have HB0 := am (hB.trans (b_.mono hB.size))
 have HK0 := am (show zN w _ Q from zN.of_below b_ _)
 have HBW := am b_
 have HSZ := am hsz_
 have XB0 := am x0_
 have XB1 := am x1_
 have XB2 := am x2_
 have XB3 := am x3_
 have HQ := am hQ
 have hBs := hB.size
 have HR1 := am hr1
 have HC1 := am hc1
 clear hsz_ hQ hB hr1 hc1 b_ x0_ x1_ x2_ x3_
 have huV := Tryz.underlying48
 have huR := Tryz.underlying44
 have huC := Tryz.underlying33
 have huI := Tryz.underlying93
 have HPK := am hpk
 obtain ⟨⟨hp0, hp1, htr, hou, hu0, hu1⟩, F0, F1, F2, F3, F4, F6, F7, F8, F9, F10⟩ := hf
 have HF0 := am F0
 have HF1 := am F1
 have HF2 := am F2
 have HF3 := am F3
 have HF4 := am F4
 have HF6 := am F6
 have HF7 := am F7
 have HF8 := am F8
 have HF9 := am F9
 have HF10 := am F10
 clear F0 F1 F2 F3 F4 F6 F7 F8 F9 F10 hpk hV
 go_enter Tryz.func46, Tryz.ntmps46
 go_upto_region 1 with (fail)
 generalize (((w.alloc (.cells (Vo wd Av l1 cv Ai L ci) 33)).alloc (.cells (Vc c.ed A1 c.st n1 A2 c.ou n2 A3 c.tr n3 c.co c.us c.wh A7 c.re n7 A8 c.tl n8 c.pc c.fu c.ov) 48)).alloc (.cells (Vl i.f0 i.f1 i.f2 i.f3 i.f4) 93)).alloc (.cells (Vd false) 48) = W0 at HV0 HB0 HK0 HBW HSZ XB0 XB1 XB2 XB3 ⊢
 have p_q := bq XB0.out
 obtain ⟨c0, c1, c2, c3, c4, c5, c6, c7, c8, c9, c10, c11⟩ := z0S XB1.out
 have i_q := bq XB2.out
 by_cases h0 : i.f0 = 0
 ·rw [vDo, jb h0] at h
  have e0 : (i.f0 == 0) = true := bT h0
  have H0 := am h0
  clear h0
  have h := sj h
  have HH := am h
  clear h
  go_wp2_with (first | (go_at_call 74; refine (z0M w0 W0 Q _ c i.f1 i.f2 HB0.out HV0.out (fun k hk => by have := HQ.out k hk; have := HSZ.out; omega) (HF0.out H0.out) hp0 hp1).mono ?_; rintro e W2 ⟨cs2, rfl, hv2, hb2, hk2⟩; have X3 := am ((hk2.2 (w.heap.size + 3) (by have := HSZ.out; omega) (fun h => jm (HQ.out _ h) (by omega))).trans XB3.out); obtain ⟨c2, hc2⟩ : ∃ c2 : VC, c2 = ZN i.f1 i.f2 c := ⟨_, rfl⟩; have HV2 := am (show VR W2 w0.heap.size (fun k => Q k \/ W0.heap.size <= k) cs2 c2 by rw [hc2]; exact hv2); have HC2 := am hc2; obtain ⟨B1_, m1_, B2_, m2_, B3_, m3_, B7_, m7_, B8_, m8_, rfl, hh2⟩ := id HV2.out; clear hh2; have HB2 := am hb2; have HK2 := am (HK0.out.then_ hk2 (fun k hk => .inl hk)); have hs2 := hk2.1; have hlc : w.heap.size + 3 < W0.heap.size := (by have := HSZ.out; omega); clear hv2 hb2 hk2 hc2; have z_q := bq X3.out; obtain ⟨g0, g1, g2, g3, g4, g5, g6, g7, g8, g9, g10, g11⟩ := yA X3.out))
  exact yN (g := w.heap.size + 3) HV2.out (HC2.out.trans HH.out) X3.out rfl HB2.out HK2.out (by omega) (by omega) (fun h => by rcases h with h | h; exact jm (HQ.out _ h) (by omega); omega) (fun k hk => by rcases hk with h | h; exact .inl h; exact .inr (by omega)) rfl rfl rfl rfl
 have e0 := (beq_eq_false_iff_ne (a := i.f0)).mpr h0
 by_cases h5 : i.f0 = 5
 ·rw [vDo, ja (by rw [h5]; decide), ja (by rw [h5]; decide), ja (by rw [h5]; decide), ja (by rw [h5]; decide), ja (by rw [h5]; decide), jb h5] at h
  have e5 : (i.f0 == 5) = true := bT h5
  have e1 : (i.f0 == 1) = false := bF (by rw [h5]; decide)
  have e2 : (i.f0 == 2) = false := bF (by rw [h5]; decide)
  have e3 : (i.f0 == 3) = false := bF (by rw [h5]; decide)
  have e4 : (i.f0 == 4) = false := bF (by rw [h5]; decide)
  have H5 := am h5
  clear h5
  have h := sj h
  have HH := am h
  clear h
  go_wp2_with (first | (go_at_call 78; refine (z1x.calls w0 W0 Q _ c true i.f1 HB0.out HV0.out (fun k hk => by have := HQ.out k hk; have := HSZ.out; omega) hp0 hp1).mono ?_; rintro e W2 ⟨cs2, rfl, hv2, hb2, hk2⟩; have X3 := am ((hk2.2 (w.heap.size + 3) (by have := HSZ.out; omega) (fun h => jm (HQ.out _ h) (by omega))).trans XB3.out); obtain ⟨c2, hc2⟩ : ∃ c2 : VC, c2 = { c with pc := i.f1 } := ⟨_, rfl⟩; have HV2 := am (show VR W2 w0.heap.size (fun k => Q k \/ W0.heap.size <= k) cs2 c2 by rw [hc2]; exact hv2); have HC2 := am hc2; obtain ⟨B1_, m1_, B2_, m2_, B3_, m3_, B7_, m7_, B8_, m8_, rfl, hh2⟩ := id HV2.out; clear hh2; have HB2 := am hb2; have HK2 := am (HK0.out.then_ hk2 (fun k hk => .inl hk)); have hs2 := hk2.1; have hlc : w.heap.size + 3 < W0.heap.size := (by have := HSZ.out; omega); clear hv2 hb2 hk2 hc2; have z_q := bq X3.out; obtain ⟨g0, g1, g2, g3, g4, g5, g6, g7, g8, g9, g10, g11⟩ := yA X3.out))
  exact yN (g := w.heap.size + 3) HV2.out (HC2.out.trans HH.out) X3.out rfl HB2.out HK2.out (by omega) (by omega) (fun h => by rcases h with h | h; exact jm (HQ.out _ h) (by omega); omega) (fun k hk => by rcases hk with h | h; exact .inl h; exact .inr (by omega)) rfl rfl rfl rfl
 have e5 := (beq_eq_false_iff_ne (a := i.f0)).mpr h5
 by_cases h3 : i.f0 = 3
 ·rw [vDo, ja (by rw [h3]; decide), ja (by rw [h3]; decide), ja (by rw [h3]; decide), jb h3] at h
  have e3 : (i.f0 == 3) = true := bT h3
  have e1 : (i.f0 == 1) = false := bF (by rw [h3]; decide)
  have e2 : (i.f0 == 2) = false := bF (by rw [h3]; decide)
  have H3 := am h3
  clear h3
  obtain ⟨fst, hF, h⟩ := Option.map_eq_some_iff.mp h
  have HH := am h
  clear h
  go_wp2_with (first | (go_at_call 76; refine (z6N k w0 W0 Q _ c wd Av cv l1 Ai L ci i fst HB0.out HV0.out (fun k hk => by have := HQ.out k hk; have := HSZ.out; omega) HR1.out HC1.out (HF3.out H3.out).1 ((HF3.out H3.out).2 fst hF) hF hp0 hp1 htr).mono ?_; rintro e W2 ⟨cs2, rfl, hv2, hb2, hk2⟩; have X3 := am ((hk2.2 (w.heap.size + 3) (by have := HSZ.out; omega) (fun h => jm (HQ.out _ h) (by omega))).trans XB3.out); obtain ⟨c2, hc2⟩ : ∃ c2 : VC, c2 = z0H l1 fst i.f1.toNat i.f2.toNat i.f3 c := ⟨_, rfl⟩; have HV2 := am (show VR W2 w0.heap.size (fun k => Q k \/ W0.heap.size <= k) cs2 c2 by rw [hc2]; exact hv2); have HC2 := am hc2; obtain ⟨B1_, m1_, B2_, m2_, B3_, m3_, B7_, m7_, B8_, m8_, rfl, hh2⟩ := id HV2.out; clear hh2; have HB2 := am hb2; have HK2 := am (HK0.out.then_ hk2 (fun k hk => .inl hk)); have hs2 := hk2.1; have hlc : w.heap.size + 3 < W0.heap.size := (by have := HSZ.out; omega); clear hv2 hb2 hk2 hc2; have z_q := bq X3.out; obtain ⟨g0, g1, g2, g3, g4, g5, g6, g7, g8, g9, g10, g11⟩ := yA X3.out))
  exact yN (g := w.heap.size + 3) HV2.out (HC2.out.trans HH.out) X3.out rfl HB2.out HK2.out (by omega) (by omega) (fun h => by rcases h with h | h; exact jm (HQ.out _ h) (by omega); omega) (fun k hk => by rcases hk with h | h; exact .inl h; exact .inr (by omega)) rfl rfl rfl rfl
 have e3 := (beq_eq_false_iff_ne (a := i.f0)).mpr h3
 by_cases h4 : i.f0 = 4
 ·rw [vDo, ja (by rw [h4]; decide), ja (by rw [h4]; decide), ja (by rw [h4]; decide), ja (by rw [h4]; decide), jb h4] at h
  have e4 : (i.f0 == 4) = true := bT h4
  have e1 : (i.f0 == 1) = false := bF (by rw [h4]; decide)
  have e2 : (i.f0 == 2) = false := bF (by rw [h4]; decide)
  have H4 := am h4
  clear h4
  obtain ⟨fst, hF, h⟩ := Option.map_eq_some_iff.mp h
  have HH := am h
  clear h
  go_wp2_with (first | (go_at_call 77; refine (z6f k w0 W0 Q _ c wd Av cv l1 Ai L ci i fst HB0.out HV0.out (fun k hk => by have := HQ.out k hk; have := HSZ.out; omega) HR1.out HC1.out (HF4.out H4.out).1 ((HF4.out H4.out).2 fst hF) hF hp0 hp1 htr).mono ?_; rintro e W2 ⟨cs2, rfl, hv2, hb2, hk2⟩; have X3 := am ((hk2.2 (w.heap.size + 3) (by have := HSZ.out; omega) (fun h => jm (HQ.out _ h) (by omega))).trans XB3.out); obtain ⟨c2, hc2⟩ : ∃ c2 : VC, c2 = Yz l1 fst i.f1.toNat i.f2 i.f3 c := ⟨_, rfl⟩; have HV2 := am (show VR W2 w0.heap.size (fun k => Q k \/ W0.heap.size <= k) cs2 c2 by rw [hc2]; exact hv2); have HC2 := am hc2; obtain ⟨B1_, m1_, B2_, m2_, B3_, m3_, B7_, m7_, B8_, m8_, rfl, hh2⟩ := id HV2.out; clear hh2; have HB2 := am hb2; have HK2 := am (HK0.out.then_ hk2 (fun k hk => .inl hk)); have hs2 := hk2.1; have hlc : w.heap.size + 3 < W0.heap.size := (by have := HSZ.out; omega); clear hv2 hb2 hk2 hc2; have z_q := bq X3.out; obtain ⟨g0, g1, g2, g3, g4, g5, g6, g7, g8, g9, g10, g11⟩ := yA X3.out))
  exact yN (g := w.heap.size + 3) HV2.out (HC2.out.trans HH.out) X3.out rfl HB2.out HK2.out (by omega) (by omega) (fun h => by rcases h with h | h; exact jm (HQ.out _ h) (by omega); omega) (fun k hk => by rcases hk with h | h; exact .inl h; exact .inr (by omega)) rfl rfl rfl rfl
 have e4 := (beq_eq_false_iff_ne (a := i.f0)).mpr h4
 by_cases h9 : i.f0 = 9
 ·rw [vDo, ja (by rw [h9]; decide), ja (by rw [h9]; decide), ja (by rw [h9]; decide), ja (by rw [h9]; decide), ja (by rw [h9]; decide), ja (by rw [h9]; decide), ja (by rw [h9]; decide), ja (by rw [h9]; decide), ja (by rw [h9]; decide), jb h9] at h
  have e9 : (i.f0 == 9) = true := bT h9
  have e1 : (i.f0 == 1) = false := bF (by rw [h9]; decide)
  have e2 : (i.f0 == 2) = false := bF (by rw [h9]; decide)
  have e6 : (i.f0 == 6) = false := bF (by rw [h9]; decide)
  have e7 : (i.f0 == 7) = false := bF (by rw [h9]; decide)
  have e8 : (i.f0 == 8) = false := bF (by rw [h9]; decide)
  have H9 := am h9
  clear h9
  obtain ⟨g0, m0, e0, qg0, qf0, hQg0, hBg0, hgl0, hput0⟩ := HV0.out.reg (i.f1).toNat (by have h1 := (HF9.out H9.out).1; have h2 := (HF9.out H9.out).2; omega)
  have QG0 := am (show (W0).cell? ⟨g0, (i.f1).toNat, none⟩ = some (.int .i64 (rg c.re (i.f1))) from qg0)
  obtain ⟨rfl, rfl⟩ : A7 = some ⟨g0, 0, none⟩ /\ n7 = m0 := by
   have := sj e0
   injection this with h1 h2 h3
   exact ⟨h1, h3⟩
  clear e0 hput0 qf0 qg0
  obtain ⟨ra0, ra1⟩ := HF9.out H9.out
  have r0 := QG0.out
  by_cases hz : rg c.re i.f1 = 0
  ·rw [jb hz] at h
   have hzb : (rg c.re i.f1 == 0) = true := bT hz
   have h := sj h
   have HH := am h
   clear h
   clear hz
   go_wp2_with (first | (go_at_call 45; refine (z1w.calls w0 W0 Q _ c 1 HB0.out HV0.out (fun k hk => by have := HQ.out k hk; have := HSZ.out; omega)).mono ?_; rintro e W2 ⟨cs2, rfl, hv2, hb2, hk2⟩; have X3 := am ((hk2.2 (w.heap.size + 3) (by have := HSZ.out; omega) (fun h => jm (HQ.out _ h) (by omega))).trans XB3.out); obtain ⟨c2, hc2⟩ : ∃ c2 : VC, c2 = Yf 1 c := ⟨_, rfl⟩; have HV2 := am (show VR W2 w0.heap.size (fun k => Q k \/ W0.heap.size <= k) cs2 c2 by rw [hc2]; exact hv2); have HC2 := am hc2; obtain ⟨B1_, m1_, B2_, m2_, B3_, m3_, B7_, m7_, B8_, m8_, rfl, hh2⟩ := id HV2.out; clear hh2; have HB2 := am hb2; have HK2 := am (HK0.out.then_ hk2 (fun k hk => .inl hk)); have hs2 := hk2.1; have hlc : w.heap.size + 3 < W0.heap.size := (by have := HSZ.out; omega); clear hv2 hb2 hk2 hc2; have z_q := bq X3.out; obtain ⟨g0, g1, g2, g3, g4, g5, g6, g7, g8, g9, g10, g11⟩ := yA X3.out))
   exact yN (g := w.heap.size + 3) HV2.out (HC2.out.trans HH.out) X3.out rfl HB2.out HK2.out (by omega) (by omega) (fun h => by rcases h with h | h; exact jm (HQ.out _ h) (by omega); omega) (fun k hk => by rcases hk with h | h; exact .inl h; exact .inr (by omega)) rfl rfl rfl rfl
  ·rw [ja hz] at h
   have hzb : (rg c.re i.f1 == 0) = false := bF hz
   have h := sj h
   have HH := am h
   clear h
   clear hz
   go_wp2_with (first | (go_at_call 78; refine (z1x.calls w0 W0 Q _ c false 0 HB0.out HV0.out (fun k hk => by have := HQ.out k hk; have := HSZ.out; omega) hp0 hp1).mono ?_; rintro e W2 ⟨cs2, rfl, hv2, hb2, hk2⟩; have X3 := am ((hk2.2 (w.heap.size + 3) (by have := HSZ.out; omega) (fun h => jm (HQ.out _ h) (by omega))).trans XB3.out); obtain ⟨c2, hc2⟩ : ∃ c2 : VC, c2 = { c with pc := c.pc + 1 } := ⟨_, rfl⟩; have HV2 := am (show VR W2 w0.heap.size (fun k => Q k \/ W0.heap.size <= k) cs2 c2 by rw [hc2]; exact hv2); have HC2 := am hc2; obtain ⟨B1_, m1_, B2_, m2_, B3_, m3_, B7_, m7_, B8_, m8_, rfl, hh2⟩ := id HV2.out; clear hh2; have HB2 := am hb2; have HK2 := am (HK0.out.then_ hk2 (fun k hk => .inl hk)); have hs2 := hk2.1; have hlc : w.heap.size + 3 < W0.heap.size := (by have := HSZ.out; omega); clear hv2 hb2 hk2 hc2; have z_q := bq X3.out; obtain ⟨g0, g1, g2, g3, g4, g5, g6, g7, g8, g9, g10, g11⟩ := yA X3.out))
   exact yN (g := w.heap.size + 3) HV2.out (HC2.out.trans HH.out) X3.out rfl HB2.out HK2.out (by omega) (by omega) (fun h => by rcases h with h | h; exact jm (HQ.out _ h) (by omega); omega) (fun k hk => by rcases hk with h | h; exact .inl h; exact .inr (by omega)) rfl rfl rfl rfl
 have e9 := (beq_eq_false_iff_ne (a := i.f0)).mpr h9
 by_cases h10 : i.f0 = 10
 ·rw [vDo, ja (by rw [h10]; decide), ja (by rw [h10]; decide), ja (by rw [h10]; decide), ja (by rw [h10]; decide), ja (by rw [h10]; decide), ja (by rw [h10]; decide), ja (by rw [h10]; decide), ja (by rw [h10]; decide), ja (by rw [h10]; decide), ja (by rw [h10]; decide), jb h10] at h
  have e10 : (i.f0 == 10) = true := bT h10
  have e1 : (i.f0 == 1) = false := bF (by rw [h10]; decide)
  have e2 : (i.f0 == 2) = false := bF (by rw [h10]; decide)
  have e6 : (i.f0 == 6) = false := bF (by rw [h10]; decide)
  have e7 : (i.f0 == 7) = false := bF (by rw [h10]; decide)
  have e8 : (i.f0 == 8) = false := bF (by rw [h10]; decide)
  have H10 := am h10
  clear h10
  obtain ⟨g0, m0, e0, qg0, qf0, hQg0, hBg0, hgl0, hput0⟩ := HV0.out.reg (i.f1).toNat (by have h1 := (HF10.out H10.out).1; have h2 := (HF10.out H10.out).2; omega)
  have QG0 := am (show (W0).cell? ⟨g0, (i.f1).toNat, none⟩ = some (.int .i64 (rg c.re (i.f1))) from qg0)
  obtain ⟨rfl, rfl⟩ : A7 = some ⟨g0, 0, none⟩ /\ n7 = m0 := by
   have := sj e0
   injection this with h1 h2 h3
   exact ⟨h1, h3⟩
  clear e0 hput0 qf0 qg0
  obtain ⟨ra0, ra1⟩ := HF10.out H10.out
  have r0 := QG0.out
  by_cases hz : rg c.re i.f1 = 0
  ·rw [jb hz] at h
   have hzb : (rg c.re i.f1 == 0) = true := bT hz
   have h := sj h
   have HH := am h
   clear h
   clear hz
   go_wp2_with (first | (go_at_call 45; refine (z1w.calls w0 W0 Q _ c 2 HB0.out HV0.out (fun k hk => by have := HQ.out k hk; have := HSZ.out; omega)).mono ?_; rintro e W2 ⟨cs2, rfl, hv2, hb2, hk2⟩; have X3 := am ((hk2.2 (w.heap.size + 3) (by have := HSZ.out; omega) (fun h => jm (HQ.out _ h) (by omega))).trans XB3.out); obtain ⟨c2, hc2⟩ : ∃ c2 : VC, c2 = Yf 2 c := ⟨_, rfl⟩; have HV2 := am (show VR W2 w0.heap.size (fun k => Q k \/ W0.heap.size <= k) cs2 c2 by rw [hc2]; exact hv2); have HC2 := am hc2; obtain ⟨B1_, m1_, B2_, m2_, B3_, m3_, B7_, m7_, B8_, m8_, rfl, hh2⟩ := id HV2.out; clear hh2; have HB2 := am hb2; have HK2 := am (HK0.out.then_ hk2 (fun k hk => .inl hk)); have hs2 := hk2.1; have hlc : w.heap.size + 3 < W0.heap.size := (by have := HSZ.out; omega); clear hv2 hb2 hk2 hc2; have z_q := bq X3.out; obtain ⟨g0, g1, g2, g3, g4, g5, g6, g7, g8, g9, g10, g11⟩ := yA X3.out))
   exact yN (g := w.heap.size + 3) HV2.out (HC2.out.trans HH.out) X3.out rfl HB2.out HK2.out (by omega) (by omega) (fun h => by rcases h with h | h; exact jm (HQ.out _ h) (by omega); omega) (fun k hk => by rcases hk with h | h; exact .inl h; exact .inr (by omega)) rfl rfl rfl rfl
  ·rw [ja hz] at h
   have hzb : (rg c.re i.f1 == 0) = false := bF hz
   have h := sj h
   have HH := am h
   clear h
   clear hz
   go_wp2_with (first | (go_at_call 78; refine (z1x.calls w0 W0 Q _ c false 0 HB0.out HV0.out (fun k hk => by have := HQ.out k hk; have := HSZ.out; omega) hp0 hp1).mono ?_; rintro e W2 ⟨cs2, rfl, hv2, hb2, hk2⟩; have X3 := am ((hk2.2 (w.heap.size + 3) (by have := HSZ.out; omega) (fun h => jm (HQ.out _ h) (by omega))).trans XB3.out); obtain ⟨c2, hc2⟩ : ∃ c2 : VC, c2 = { c with pc := c.pc + 1 } := ⟨_, rfl⟩; have HV2 := am (show VR W2 w0.heap.size (fun k => Q k \/ W0.heap.size <= k) cs2 c2 by rw [hc2]; exact hv2); have HC2 := am hc2; obtain ⟨B1_, m1_, B2_, m2_, B3_, m3_, B7_, m7_, B8_, m8_, rfl, hh2⟩ := id HV2.out; clear hh2; have HB2 := am hb2; have HK2 := am (HK0.out.then_ hk2 (fun k hk => .inl hk)); have hs2 := hk2.1; have hlc : w.heap.size + 3 < W0.heap.size := (by have := HSZ.out; omega); clear hv2 hb2 hk2 hc2; have z_q := bq X3.out; obtain ⟨g0, g1, g2, g3, g4, g5, g6, g7, g8, g9, g10, g11⟩ := yA X3.out))
   exact yN (g := w.heap.size + 3) HV2.out (HC2.out.trans HH.out) X3.out rfl HB2.out HK2.out (by omega) (by omega) (fun h => by rcases h with h | h; exact jm (HQ.out _ h) (by omega); omega) (fun k hk => by rcases hk with h | h; exact .inl h; exact .inr (by omega)) rfl rfl rfl rfl
 have e10 := (beq_eq_false_iff_ne (a := i.f0)).mpr h10
 by_cases h1 : i.f0 = 1
 ·rw [vDo, ja (by rw [h1]; decide), jb h1] at h
  have e1 : (i.f0 == 1) = true := bT h1
  have H1 := am h1
  clear h1
  obtain ⟨r, hval, h⟩ := Option.map_eq_some_iff.mp h
  have HH := am h
  have HVAL := am hval
  clear h hval
  obtain ⟨ra, rc, rd⟩ := HF1.out H1.out
  have RD := am rd
  clear rd
  have D0 := am (kdr XB0.out)
  have D1 := am (kdr XB1.out)
  have D2 := am (kdr XB2.out)
  have D3 := am (kdr XB3.out)
  have DV := am (HV0.out.below (zj (jc _ _)))
  have DB := am (HB0.out.trans ((zj (jc _ _)).mono HB0.out.size))
  have DK := am (HK0.out.below (zj (jc _ _)))
  have hlw : w.heap.size + 4 <= W0.drew.heap.size := by have := HSZ.out; show w.heap.size + 4 <= W0.heap.size; omega
  go_wp2
  clear p_q c0 c1 c2 c3 c4 c5 c6 c7 c8 c9 c10 c11 i_q
  refine sT 9 [0, 1, 2, 3, 4, 5, 6, 7, 8] [7, 8] fun hHeld => ?_
  generalize W0.drew = Y at D0 D1 D2 D3 DV DB DK hlw hHeld ⊢
  have hq0_0 := bq D0.out
  have hq0_1 := bq D1.out
  have hq0_2 := bq D2.out
  repeat first | refine nx ?_ | refine ldT hHeld ?_ | refine un ?_
  refine on fun K hK => ?_
  refine gC Tryz.func75 ?_
  refine (z6L.calls k w0 Y Q _ c wd Av cv l1 Ai L ci i r DB.out DV.out (fun k hk => by have := HQ.out k hk; omega) HR1.out HC1.out rc RD.out HVAL.out).mono ?_
  rintro e Y' ⟨rfl, hyb⟩
  have D0' := am (zd D0.out hyb)
  have D1' := am (zd D1.out hyb)
  have D2' := am (zd D2.out hyb)
  have D3' := am (zd D3.out hyb)
  have DV' := am (DV.out.below hyb)
  have DB' := am (DB.out.trans (hyb.mono DB.out.size))
  have DK' := am (DK.out.below hyb)
  have hlw' := Nat.le_trans hlw hyb.size
  clear D0 D1 D2 D3 DV DB DK hlw
  refine ⟨_, rfl, ?_⟩
  refine hK.out _ _ (kp hHeld) fun hHeld => ?_
  clear hK K
  refine nM ?_
  refine la fun K hK => ?_
  refine gC Tryz.func74 ?_
  refine (z0M w0 Y' Q _ c i.f1 r DB'.out DV'.out (fun k hk => by have := HQ.out k hk; omega) ra hp0 hp1).mono ?_
  rintro e W2 ⟨cs2, rfl, hv2, hb2, hk2⟩
  have X3 := am ((hk2.2 (w.heap.size + 3) (by omega) (fun h => jm (HQ.out _ h) (by omega))).trans D3'.out)
  obtain ⟨c2, hc2⟩ : ∃ c2 : VC, c2 = ZN i.f1 r c := ⟨_, rfl⟩
  have HV2 := am (show VR W2 w0.heap.size (fun k => Q k \/ Y'.heap.size <= k) cs2 c2 by rw [hc2]; exact hv2)
  have HC2 := am hc2
  obtain ⟨B1_, m1_, B2_, m2_, B3_, m3_, B7_, m7_, B8_, m8_, rfl, hh2⟩ := id HV2.out
  clear hh2
  have HB2 := am hb2
  have HK2 := am (DK'.out.then_ hk2 (fun k hk => .inl hk))
  have hs2 := hk2.1
  have hlc : w.heap.size + 3 < Y'.heap.size := (by omega)
  clear hv2 hk2 hc2
  have z_q := bq X3.out
  obtain ⟨g0, g1, g2, g3, g4, g5, g6, g7, g8, g9, g10, g11⟩ := yA X3.out
  refine ⟨_, rfl, ?_⟩
  refine hK.out _ _ ?_
  clear hK K
  refine nM ?_
  refine la fun K hK => ?_
  refine ZX (w1 := ?_) (by rfl) rfl ?_ ?_
  rotate_left
  ·go_simp
   rfl
  refine hK.out _ _ ?_
  clear hK K
  refine dn ?_
  go_wp2
  exact yN (g := w.heap.size + 3) HV2.out (HC2.out.trans HH.out) X3.out rfl HB2.out HK2.out (by omega) (by omega) (fun h => by rcases h with h | h; exact jm (HQ.out _ h) (by omega); omega) (fun k hk => by rcases hk with h | h; exact .inl h; exact .inr (by omega)) rfl rfl rfl rfl
 have e1 := (beq_eq_false_iff_ne (a := i.f0)).mpr h1
 by_cases h2 : i.f0 = 2
 ·rw [vDo, ja (by rw [h2]; decide), ja (by rw [h2]; decide), jb h2] at h
  have e2 : (i.f0 == 2) = true := bT h2
  have H2 := am h2
  clear h2
  obtain ⟨ra, rb, rc, rd⟩ := HF2.out H2.out
  obtain ⟨g0, m0, e0, qg0, qf0, hQg0, hBg0, hgl0, hput0⟩ := HV0.out.reg (i.f2).toNat (by have h1 := rb.1; have h2 := rb.2; omega)
  have QG0 := am (show (W0).cell? ⟨g0, (i.f2).toNat, none⟩ = some (.int .i64 (rg c.re (i.f2))) from qg0)
  obtain ⟨g1, m1, e1, qg1, qf1, hQg1, hBg1, hgl1, hput1⟩ := HV0.out.reg (i.f3).toNat (by have h1 := rc.1; have h2 := rc.2; omega)
  have QG1 := am (show (W0).cell? ⟨g1, (i.f3).toNat, none⟩ = some (.int .i64 (rg c.re (i.f3))) from qg1)
  obtain ⟨g2, m2, e2, qg2, qf2, hQg2, hBg2, hgl2, hput2⟩ := HV0.out.reg (i.f4).toNat (by have h1 := rd.1; have h2 := rd.2; omega)
  have QG2 := am (show (W0).cell? ⟨g2, (i.f4).toNat, none⟩ = some (.int .i64 (rg c.re (i.f4))) from qg2)
  obtain ⟨rfl, rfl⟩ : A7 = some ⟨g0, 0, none⟩ /\ n7 = m0 := by
   have := sj e0
   injection this with h1 h2 h3
   exact ⟨h1, h3⟩
  obtain rfl : g0 = g1 := by
   have := sj e1
   injection this with h1 h2 h3
   injection h1 with h1
   injection h1
  obtain rfl : g0 = g2 := by
   have := sj e2
   injection this with h1 h2 h3
   injection h1 with h1
   injection h1
  clear e0 hput0 qf0 qg0 e1 hput1 qf1 qg1 e2 hput2 qf2 qg2
  have r0 := QG0.out
  have QD3 := am (show W0.drew.cell? ⟨g0, i.f3.toNat, none⟩ = some (.int .i64 (rg c.re i.f3)) from QG1.out)
  have QD4 := am (show W0.drew.cell? ⟨g0, i.f4.toNat, none⟩ = some (.int .i64 (rg c.re i.f4)) from QG2.out)
  obtain ⟨rb0, rb1⟩ := rb
  obtain ⟨rc0, rc1⟩ := rc
  obtain ⟨rd0, rd1⟩ := rd
  have D0 := am (kdr XB0.out)
  have D1 := am (kdr XB1.out)
  have D2 := am (kdr XB2.out)
  have D3 := am (kdr XB3.out)
  have DV := am (HV0.out.below (zj (jc _ _)))
  have DB := am (HB0.out.trans ((zj (jc _ _)).mono HB0.out.size))
  have DK := am (HK0.out.below (zj (jc _ _)))
  have hlw : w.heap.size + 4 <= W0.drew.heap.size := by have := HSZ.out; show w.heap.size + 4 <= W0.heap.size; omega
  by_cases hz : rg c.re i.f2 = 0
  ·rw [jb hz] at h
   have HH := am (sj h)
   have hzb : (rg c.re i.f2 != 0) = false := bQ hz
   clear h hz
   go_wp2
   clear p_q c0 c1 c2 c3 c4 c5 c6 c7 c8 c9 c10 c11 i_q
   refine sT 11 [0, 1, 2, 3, 4, 5, 6, 7, 8, 9, 10] [9, 10] fun hHeld => ?_
   generalize W0.drew = Y at D0 D1 D2 D3 DV DB DK hlw QD4 hHeld ⊢
   have hq1_0 := bq D0.out
   have hq1_1 := bq D1.out
   have hq1_2 := bq D2.out
   have hq1_3 : World.cell? _ ⟨g0, i.f4.toNat, none⟩ = some (.int .i64 (rg c.re i.f4)) := QD4.out
   repeat first | refine nx ?_ | refine ldT hHeld ?_ | refine un ?_
   refine la fun K hK => ?_
   refine gC Tryz.func74 ?_
   refine (z0M w0 Y Q _ c i.f1 (rg c.re i.f4) DB.out DV.out (fun k hk => by have := HQ.out k hk; omega) ra hp0 hp1).mono ?_
   rintro e W2 ⟨cs2, rfl, hv2, hb2, hk2⟩
   have X3 := am ((hk2.2 (w.heap.size + 3) (by omega) (fun h => jm (HQ.out _ h) (by omega))).trans D3.out)
   obtain ⟨c2, hc2⟩ : ∃ c2 : VC, c2 = ZN i.f1 (rg c.re i.f4) c := ⟨_, rfl⟩
   have HV2 := am (show VR W2 w0.heap.size (fun k => Q k \/ Y.heap.size <= k) cs2 c2 by rw [hc2]; exact hv2)
   have HC2 := am hc2
   obtain ⟨B1_, m1_, B2_, m2_, B3_, m3_, B7_, m7_, B8_, m8_, rfl, hh2⟩ := id HV2.out
   clear hh2
   have HB2 := am hb2
   have HK2 := am (DK.out.then_ hk2 (fun k hk => .inl hk))
   have hs2 := hk2.1
   have hlc : w.heap.size + 3 < Y.heap.size := (by omega)
   clear hv2 hk2 hc2
   have z_q := bq X3.out
   obtain ⟨g0, g1, g2, g3, g4, g5, g6, g7, g8, g9, g10, g11⟩ := yA X3.out
   refine ⟨_, rfl, ?_⟩
   refine hK.out _ _ ?_
   clear hK K
   refine nM ?_
   refine la fun K hK => ?_
   refine ZX (w1 := ?_) (by rfl) rfl ?_ ?_
   rotate_left
   ·go_simp
    rfl
   refine hK.out _ _ ?_
   clear hK K
   refine dn ?_
   go_wp2
   exact yN (g := w.heap.size + 3) HV2.out (HC2.out.trans HH.out) X3.out rfl HB2.out HK2.out (by omega) (by omega) (fun h => by rcases h with h | h; exact jm (HQ.out _ h) (by omega); omega) (fun k hk => by rcases hk with h | h; exact .inl h; exact .inr (by omega)) rfl rfl rfl rfl
  ·rw [ja hz] at h
   have HH := am (sj h)
   have hzb : (rg c.re i.f2 != 0) = true := bN hz
   clear h hz
   go_wp2
   clear p_q c0 c1 c2 c3 c4 c5 c6 c7 c8 c9 c10 c11 i_q
   refine sT 11 [0, 1, 2, 3, 4, 5, 6, 7, 8, 9, 10] [9, 10] fun hHeld => ?_
   generalize W0.drew = Y at D0 D1 D2 D3 DV DB DK hlw QD3 hHeld ⊢
   have hq2_0 := bq D0.out
   have hq2_1 := bq D1.out
   have hq2_2 := bq D2.out
   have hq2_3 : World.cell? _ ⟨g0, i.f3.toNat, none⟩ = some (.int .i64 (rg c.re i.f3)) := QD3.out
   repeat first | refine nx ?_ | refine ldT hHeld ?_ | refine un ?_
   refine la fun K hK => ?_
   refine gC Tryz.func74 ?_
   refine (z0M w0 Y Q _ c i.f1 (rg c.re i.f3) DB.out DV.out (fun k hk => by have := HQ.out k hk; omega) ra hp0 hp1).mono ?_
   rintro e W2 ⟨cs2, rfl, hv2, hb2, hk2⟩
   have X3 := am ((hk2.2 (w.heap.size + 3) (by omega) (fun h => jm (HQ.out _ h) (by omega))).trans D3.out)
   obtain ⟨c2, hc2⟩ : ∃ c2 : VC, c2 = ZN i.f1 (rg c.re i.f3) c := ⟨_, rfl⟩
   have HV2 := am (show VR W2 w0.heap.size (fun k => Q k \/ Y.heap.size <= k) cs2 c2 by rw [hc2]; exact hv2)
   have HC2 := am hc2
   obtain ⟨B1_, m1_, B2_, m2_, B3_, m3_, B7_, m7_, B8_, m8_, rfl, hh2⟩ := id HV2.out
   clear hh2
   have HB2 := am hb2
   have HK2 := am (DK.out.then_ hk2 (fun k hk => .inl hk))
   have hs2 := hk2.1
   have hlc : w.heap.size + 3 < Y.heap.size := (by omega)
   clear hv2 hk2 hc2
   have z_q := bq X3.out
   obtain ⟨g0, g1, g2, g3, g4, g5, g6, g7, g8, g9, g10, g11⟩ := yA X3.out
   refine ⟨_, rfl, ?_⟩
   refine hK.out _ _ ?_
   clear hK K
   refine nM ?_
   refine la fun K hK => ?_
   refine ZX (w1 := ?_) (by rfl) rfl ?_ ?_
   rotate_left
   ·go_simp
    rfl
   refine hK.out _ _ ?_
   clear hK K
   refine dn ?_
   go_wp2
   exact yN (g := w.heap.size + 3) HV2.out (HC2.out.trans HH.out) X3.out rfl HB2.out HK2.out (by omega) (by omega) (fun h => by rcases h with h | h; exact jm (HQ.out _ h) (by omega); omega) (fun k hk => by rcases hk with h | h; exact .inl h; exact .inr (by omega)) rfl rfl rfl rfl
 have e2 := (beq_eq_false_iff_ne (a := i.f0)).mpr h2
 by_cases h6 : i.f0 = 6
 ·rw [vDo, ja (by rw [h6]; decide), ja (by rw [h6]; decide), ja (by rw [h6]; decide), ja (by rw [h6]; decide), ja (by rw [h6]; decide), ja (by rw [h6]; decide), jb h6] at h
  have e6 : (i.f0 == 6) = true := bT h6
  have H6 := am h6
  clear h6
  have h := sj h
  have HH := am h
  clear h
  have ra := HF6.out H6.out
  obtain ⟨g0, m0, e0, qg0, qf0, hQg0, hBg0, hgl0, hput0⟩ := HV0.out.reg (i.f1).toNat (by have h1 := ra.1; have h2 := ra.2; omega)
  have QG0 := am (show (W0).cell? ⟨g0, (i.f1).toNat, none⟩ = some (.int .i64 (rg c.re (i.f1))) from qg0)
  obtain ⟨rfl, rfl⟩ : A7 = some ⟨g0, 0, none⟩ /\ n7 = m0 := by
   have := sj e0
   injection this with h1 h2 h3
   exact ⟨h1, h3⟩
  clear e0 hput0 qf0 qg0
  have r0 := QG0.out
  obtain ⟨ra0, ra1⟩ := ra
  have D0 := am (kdr XB0.out)
  have D1 := am (kdr XB1.out)
  have D2 := am (kdr XB2.out)
  have D3 := am (kdr XB3.out)
  have DV := am (HV0.out.below (zj (jc _ _)))
  have DB := am (HB0.out.trans ((zj (jc _ _)).mono HB0.out.size))
  have DK := am (HK0.out.below (zj (jc _ _)))
  have hlw : w.heap.size + 4 <= W0.drew.heap.size := by have := HSZ.out; show w.heap.size + 4 <= W0.heap.size; omega
  obtain ⟨z, hz⟩ : ∃ z : Bool, (rg c.re i.f1 == 0) = z := ⟨_, rfl⟩
  go_wp2
  clear p_q c0 c1 c2 c3 c4 c5 c6 c7 c8 c9 c10 c11 i_q
  have HZ := am hz
  clear hz
  have hon : ZG.f z = some (if z = true then 1 else 0) := by unfold ZG.f; split <;> rfl
  obtain ⟨o, ho⟩ : ∃ o : Int, (if z = true then 1 else 0) = o := ⟨_, rfl⟩
  rw [ho] at hon
  have HO := am ho
  have HON := am hon
  clear ho hon
  refine z20 (n := 11) (S := fun w' => w'.cell? ⟨w.heap.size, 0, none⟩ = some (.int .i64 wd) /\ w'.cell? ⟨w.heap.size, 1, none⟩ = some (.slice Av l1.length cv) /\ w'.cell? ⟨w.heap.size, 2, none⟩ = some (.slice Ai L ci) /\ w'.cell? ⟨w.heap.size + 1, 0, none⟩ = some (.int .i64 c.ed) /\ w'.cell? ⟨w.heap.size + 1, 1, none⟩ = some (.slice A1 c.st.length n1) /\ w'.cell? ⟨w.heap.size + 1, 2, none⟩ = some (.slice A2 c.ou.length n2) /\ w'.cell? ⟨w.heap.size + 1, 3, none⟩ = some (.slice A3 c.tr.length n3) /\ w'.cell? ⟨w.heap.size + 1, 4, none⟩ = some (.int .i64 c.co) /\ w'.cell? ⟨w.heap.size + 1, 5, none⟩ = some (.int .i64 c.us) /\ w'.cell? ⟨w.heap.size + 1, 6, none⟩ = some (.int .i64 c.wh) /\ w'.cell? ⟨w.heap.size + 1, 7, none⟩ = some (.slice (some ⟨g0, 0, none⟩) c.re.length n7) /\ w'.cell? ⟨w.heap.size + 1, 8, none⟩ = some (.slice A8 c.tl.length n8) /\ w'.cell? ⟨w.heap.size + 1, 9, none⟩ = some (.int .i64 c.pc) /\ w'.cell? ⟨w.heap.size + 1, 10, none⟩ = some (.int .i64 c.fu) /\ w'.cell? ⟨w.heap.size + 1, 11, none⟩ = some (.bool c.ov) /\ w'.cell? ⟨w.heap.size + 2, 0, none⟩ = some (.int .i64 i.f0) /\ w'.cell? ⟨w.heap.size + 2, 1, none⟩ = some (.int .i64 i.f1) /\ w'.cell? ⟨w.heap.size + 2, 2, none⟩ = some (.int .i64 i.f2) /\ w'.cell? ⟨w.heap.size + 2, 3, none⟩ = some (.int .i64 i.f3) /\ w'.cell? ⟨w.heap.size + 2, 4, none⟩ = some (.int .i64 i.f4)) (ds := [9, 10]) #[false, false, false, false, false, false, false, false, false, false, false] (by kernel_rfl) rfl rfl ⟨(za D0.out 0).trans rfl, (za D0.out 1).trans rfl, (za D0.out 2).trans rfl, (za D1.out 0).trans rfl, (za D1.out 1).trans rfl, (za D1.out 2).trans rfl, (za D1.out 3).trans rfl, (za D1.out 4).trans rfl, (za D1.out 5).trans rfl, (za D1.out 6).trans rfl, (za D1.out 7).trans rfl, (za D1.out 8).trans rfl, (za D1.out 9).trans rfl, (za D1.out 10).trans rfl, (za D1.out 11).trans rfl, (za D2.out 0).trans rfl, (za D2.out 1).trans rfl, (za D2.out 2).trans rfl, (za D2.out 3).trans rfl, (za D2.out 4).trans rfl⟩ (fun hHeld => ?_)
  generalize W0.drew = Y at D0 D1 D2 D3 DV DB DK hlw hHeld ⊢
  refine tk (i := 0) (N := some 86) (bl 11 1) rfl rfl (by kernel_rfl) hHeld ?_
  refine pu (i := 1) (N := some 87) (bl 11 3) rfl rfl (by kernel_rfl) ?_
  refine tk (i := 2) (N := some 88) (bl 11 7) rfl rfl (by kernel_rfl) hHeld ?_
  refine pu (i := 3) (N := some 89) (bl 11 15) rfl rfl (by kernel_rfl) ?_
  refine pu (i := 6) (N := some 92) (bl 11 79) rfl rfl (by kernel_rfl) ?_
  refine pu (i := 7) (N := some 93) (bl 11 207) rfl rfl (by kernel_rfl) ?_
  refine tk (i := 8) (N := some 94) (bl 11 463) rfl rfl (by kernel_rfl) hHeld ?_
  refine z2T (i := 4) (N := (some 90)) (bl 11 479) rfl rfl (by kernel_rfl) (by decide) (fun K hK => ?_)
  refine gC Tryz.func80 ?_
  refine (ZG.calls z o _ HON.out).mono ?_
  rintro e Y' ⟨rfl, hyd⟩
  have hyb := YL hyd
  have D0' := am (zd D0.out hyb)
  have D1' := am (zd D1.out hyb)
  have D2' := am (zd D2.out hyb)
  have D3' := am (zd D3.out hyb)
  have DV' := am (DV.out.below hyb)
  have DB' := am (DB.out.trans (hyb.mono DB.out.size))
  have DK' := am (DK.out.below hyb)
  have hlw' := Nat.le_trans hlw hyb.size
  clear hyb hyd D0 D1 D2 D3 DV DB DK hlw
  refine ⟨_, rfl, ?_⟩
  refine hK.out _ _ ⟨(za D0'.out 0).trans rfl, (za D0'.out 1).trans rfl, (za D0'.out 2).trans rfl, (za D1'.out 0).trans rfl, (za D1'.out 1).trans rfl, (za D1'.out 2).trans rfl, (za D1'.out 3).trans rfl, (za D1'.out 4).trans rfl, (za D1'.out 5).trans rfl, (za D1'.out 6).trans rfl, (za D1'.out 7).trans rfl, (za D1'.out 8).trans rfl, (za D1'.out 9).trans rfl, (za D1'.out 10).trans rfl, (za D1'.out 11).trans rfl, (za D2'.out 0).trans rfl, (za D2'.out 1).trans rfl, (za D2'.out 2).trans rfl, (za D2'.out 3).trans rfl, (za D2'.out 4).trans rfl⟩ (fun hHeld => ?_)
  clear hK K
  refine nm 90 ?_
  refine z2T (i := 5) (N := (some 91)) (bl 11 511) rfl rfl (by kernel_rfl) (by decide) (fun K hK => ?_)
  refine gC Tryz.func79 ?_
  refine (z2E.calls w0 Y' Q _ c 0 c.pc o DB'.out DV'.out (fun k hk => by have := HQ.out k hk; omega) htr).mono ?_
  rintro e Y2 ⟨cs1, rfl, hv1, hb1, hk1⟩
  have nq : ∀ k, w.heap.size <= k -> ¬ Q k := fun k h hq => by have := HQ.out k hq; omega
  have E0 := am ((hk1.2 (w.heap.size) (by omega) (nq _ (by omega))).trans D0'.out)
  have E1 := am ((hk1.2 (w.heap.size + 1) (by omega) (nq _ (by omega))).trans D1'.out)
  have E2 := am ((hk1.2 (w.heap.size + 2) (by omega) (nq _ (by omega))).trans D2'.out)
  have E3 := am ((hk1.2 (w.heap.size + 3) (by omega) (nq _ (by omega))).trans D3'.out)
  obtain ⟨c1, hc1⟩ : ∃ c1 : VC, c1 = { c with tr := c.tr ++ [⟨0, c.pc, o⟩] } := ⟨_, rfl⟩
  have EV := am (show VR Y2 w0.heap.size (fun k => Q k \/ Y'.heap.size <= k) cs1 c1 by rw [hc1]; exact hv1)
  have EB := am hb1
  have EK := am (DK'.out.then_ hk1 (fun k hk => .inl hk))
  have hp1' : 0 <= c1.pc /\ c1.pc < 1000000000 := by rw [hc1]; exact ⟨hp0, hp1⟩
  have HC1' := am hc1
  have hlw2 := Nat.le_trans hlw' hk1.1
  have hlY : w.heap.size + 4 <= Y'.heap.size := hlw'
  obtain ⟨a11, b11, a21, b21, a31, b31, a71, b71, a81, b81, rfl, hh1⟩ := id EV.out
  clear hh1 hv1 hb1 hk1 hc1 nq D0' D1' D2' D3' DV' DB' DK'
  refine ⟨_, rfl, ?_⟩
  refine hK.out _ _ ⟨(za E0.out 0).trans rfl, (za E0.out 1).trans rfl, (za E0.out 2).trans rfl, (za E1.out 0).trans rfl, (za E1.out 1).trans rfl, (za E1.out 2).trans rfl, (za E1.out 3).trans rfl, (za E1.out 4).trans rfl, (za E1.out 5).trans rfl, (za E1.out 6).trans rfl, (za E1.out 7).trans rfl, (za E1.out 8).trans rfl, (za E1.out 9).trans rfl, (za E1.out 10).trans rfl, (za E1.out 11).trans rfl, (za E2.out 0).trans rfl, (za E2.out 1).trans rfl, (za E2.out 2).trans rfl, (za E2.out 3).trans rfl, (za E2.out 4).trans rfl⟩ (fun hHeld => ?_)
  clear hK K
  refine nm 91 ?_
  refine z1h (i := 9) (N := (some 95)) (bl 11 1023) rfl rfl (by kernel_rfl) (by decide) (fun K hK => ?_)
  refine gC Tryz.func78 ?_
  refine (z1x.calls w0 Y2 (fun k => (Q k \/ Y'.heap.size <= k) /\ k < Y2.heap.size) _ c1 z i.f2 EB.out EV.out.bound (fun k hk => hk.2) hp1'.1 hp1'.2).mono ?_
  rintro e W2 ⟨cs2, rfl, hv2, hb2, hk2⟩
  have X3 := am ((hk2.2 (w.heap.size + 3) (by omega) (fun h => by rcases h with ⟨h | h, _⟩; exact jm (HQ.out _ h) (by omega); omega)).trans E3.out)
  obtain ⟨c2, hc2⟩ : ∃ c2 : VC, c2 = { c1 with pc := if z = true then i.f2 else c1.pc + 1 } := ⟨_, rfl⟩
  have HV2 := am (show VR W2 w0.heap.size (fun k => ((Q k \/ Y'.heap.size <= k) /\ k < Y2.heap.size) \/ Y2.heap.size <= k) cs2 c2 by rw [hc2]; exact hv2)
  have HC2 := am hc2
  obtain ⟨B1_, m1_, B2_, m2_, B3_, m3_, B7_, m7_, B8_, m8_, rfl, hh2⟩ := id HV2.out
  clear hh2
  have HB2 := am hb2
  have HK2 := am (EK.out.then_ hk2 (fun k hk => by rcases hk with ⟨h | h, _⟩; exact .inl h; exact .inr (by omega)))
  have hs2 := hk2.1
  have hlc : w.heap.size + 3 < Y2.heap.size := (by omega)
  clear hv2 hb2 hk2 hc2
  have z_q := bq X3.out
  obtain ⟨g0, g1, g2, g3, g4, g5, g6, g7, g8, g9, g10, g11⟩ := yA X3.out
  refine ⟨_, rfl, ?_⟩
  refine hK.out _ _ ?_
  clear hK K
  refine nm 95 ?_
  refine z1h (i := 10) (N := none) (bl 11 2047) rfl rfl (by kernel_rfl) (by decide) (fun K hK => ?_)
  refine ZX (w1 := ?_) (by rfl) rfl ?_ ?_
  rotate_left
  ·go_simp
   rfl
  refine hK.out _ _ ?_
  clear hK K
  refine z38 (by kernel_rfl) ?_
  go_wp2
  have hfin : c2 = c' := by
   rw [<- HH.out, HC2.out, HC1'.out, <- HO.out, <- HZ.out]
   by_cases h0 : rg c.re i.f1 = 0
   ·simp [h0]
   ·simp [h0, beq_eq_false_iff_ne.mpr h0]
  exact yN (g := w.heap.size + 3) HV2.out (hfin) X3.out rfl HB2.out HK2.out (by omega) (by omega) (fun h => by rcases h with ⟨h | h, _⟩ | h; exact jm (HQ.out _ h) (by omega); omega; omega) (fun k hk => by rcases hk with ⟨h | h, _⟩ | h; exact .inl h; exact .inr (by omega); exact .inr (by omega)) rfl rfl rfl rfl
 have e6 := (beq_eq_false_iff_ne (a := i.f0)).mpr h6
 by_cases h7 : i.f0 = 7
 ·rw [vDo, ja (by rw [h7]; decide), ja (by rw [h7]; decide), ja (by rw [h7]; decide), ja (by rw [h7]; decide), ja (by rw [h7]; decide), ja (by rw [h7]; decide), ja (by rw [h7]; decide), jb h7] at h
  have e7 : (i.f0 == 7) = true := bT h7
  have H7 := am h7
  clear h7
  have h := sj h
  have HH := am h
  clear h
  have ra := HF7.out H7.out
  obtain ⟨g0, m0, e0, qg0, qf0, hQg0, hBg0, hgl0, hput0⟩ := HV0.out.reg (i.f2).toNat (by have h1 := ra.1; have h2 := ra.2; omega)
  have QG0 := am (show (W0).cell? ⟨g0, (i.f2).toNat, none⟩ = some (.int .i64 (rg c.re (i.f2))) from qg0)
  obtain ⟨rfl, rfl⟩ : A7 = some ⟨g0, 0, none⟩ /\ n7 = m0 := by
   have := sj e0
   injection this with h1 h2 h3
   exact ⟨h1, h3⟩
  clear e0 hput0 qf0 qg0
  have QD := am (show W0.drew.cell? ⟨g0, i.f2.toNat, none⟩ = some (.int .i64 (rg c.re i.f2)) from QG0.out)
  obtain ⟨ra0, ra1⟩ := ra
  have D0 := am (kdr XB0.out)
  have D1 := am (kdr XB1.out)
  have D2 := am (kdr XB2.out)
  have D3 := am (kdr XB3.out)
  have DV := am (HV0.out.below (zj (jc _ _)))
  have DB := am (HB0.out.trans ((zj (jc _ _)).mono HB0.out.size))
  have DK := am (HK0.out.below (zj (jc _ _)))
  have hlw : w.heap.size + 4 <= W0.drew.heap.size := by have := HSZ.out; show w.heap.size + 4 <= W0.heap.size; omega
  have huO := Tryz.underlying41
  go_wp2
  clear p_q c0 c1 c2 c3 c4 c5 c6 c7 c8 c9 c10 c11 i_q
  obtain ⟨A2g, n2g, e2g, h2g, hgr⟩ := DV.out.grow_ou
  obtain ⟨rfl, rfl⟩ : A2 = A2g /\ n2 = n2g := by
   have := sj e2g
   injection this with h1 h2 h3
   exact ⟨h1, h3⟩
  have H2G := am h2g
  have HGR := am hgr
  clear e2g h2g hgr
  refine sT 17 [0, 1, 2, 3, 4, 5, 6, 7, 8, 9, 10, 11, 12, 13, 14, 15, 16] [13, 16] fun hHeld => ?_
  generalize W0.drew = Y at D0 D1 D2 D3 DV DB DK hlw QD H2G HGR hHeld ⊢
  have hq4_0 := bq D0.out
  have hq4_1 := bq D1.out
  have hq4_2 := bq D2.out
  have hq4_3 : World.cell? _ ⟨g0, i.f2.toNat, none⟩ = some (.int .i64 (rg c.re i.f2)) := QD.out
  repeat first | refine nx ?_ | refine ldT hHeld ?_ | refine un ?_
  refine on fun K hK => ?_
  refine z1m (w1 := ?_) (v := ?_) (by rfl) rfl ?_ ?_
  rotate_left 2
  ·go_simp
   constructor
   ·rfl
   ·rfl
  refine hK.out _ _ (kp hHeld) fun hHeld => ?_
  clear hK K
  refine nM ?_
  refine la fun K hK => ?_
  refine Kd.R_append_step z32 (w0 := w0) w0.heap.size (by rfl) (.tmp 100) (.tmp 110) 41 134 (.agg Vnq) 16 rfl huO infoOut rfl (by decide) (by omega) (.slice A2 c.ou.length n2) c.ou (⟨i.f1, rg c.re i.f2⟩ : z1v) [.int .i64 i.f1, .int .i64 (rg c.re i.f2)] (fun k => Q k \/ w.heap.size + 4 <= k) (fun _ => False) rfl rfl (z4I _ _ _ _) (fun _ hk => hk.elim) (fun k hk => .inr (Nat.le_trans hlw hk)) (jr H2G.out (fun k hk => .inl hk)) DB.out DB.out.size (by omega) ?_
  intro v1 W1 ho hb hg hat
  have V1 := HGR.out W1 v1 _ (fun k => Q k \/ w.heap.size + 4 <= k) (fun k hk => .inl hk) ho hg
  obtain ⟨A', n', ev⟩ := js ho
  have el : (c.ou ++ [(⟨i.f1, rg c.re i.f2⟩ : z1v)]).length = c.ou.length + 1 := by simp
  rw [el] at ev
  subst ev
  have E0 := am (zO D0.out hg (Kd.R_ne H2G.out D0.out (by decide)))
  have E1 := am (zO D1.out hg (Kd.R_ne H2G.out D1.out (by decide)))
  have E2 := am (zO D2.out hg (Kd.R_ne H2G.out D2.out (by decide)))
  have E3 := am (zO D3.out hg (Kd.R_ne H2G.out D3.out (by decide)))
  have V1 := am V1
  have EB := am hb
  have EK := am (zN.of_grown hg DK.out (fun k e => .inl (H2G.out.1 k e)))
  have hl1 := hg.size
  clear ho hat D0 D1 D2 D3 DV DB DK QD H2G HGR
  refine hK.out _ _ ?_
  clear hK K
  refine nM ?_
  repeat first | refine nx ?_ | refine ldT hHeld ?_ | refine un ?_
  refine la fun K hK => ?_
  have y2 : W1.cell? ⟨w.heap.size + 1, 2, none⟩ = some (.slice A2 c.ou.length n2) := (za E1.out 2).trans rfl
  have f2 := zf E1.out 2
  refine ZX (w1 := ?_) (by rfl) rfl ?_ ?_
  rotate_left
  ·go_simp
   rfl
  refine hK.out _ _ ?_
  clear hK K
  refine dn ?_
  have G1 := am (zJ E1.out 2 (.slice A' (c.ou.length + 1) n') (cs' := #[.int .i64 c.ed, .slice A1 c.st.length n1, .slice A' (c.ou.length + 1) n', .slice A3 c.tr.length n3, .int .i64 c.co, .int .i64 c.us, .int .i64 c.wh, .slice (some ⟨g0, 0, none⟩) c.re.length n7, .slice A8 c.tl.length n8, .int .i64 c.pc, .int .i64 c.fu, .bool c.ov]) rfl)
  have G3 := am ((jl W1 ⟨w.heap.size + 1, 2, none⟩ (.slice A' (c.ou.length + 1) n') (w.heap.size + 3) (by show w.heap.size + 3 ≠ w.heap.size + 1; omega)).trans E3.out)
  have nq1 : ¬ (Q (w.heap.size + 1) \/ w.heap.size + 4 <= w.heap.size + 1) := fun h => by rcases h with h | h; (have := HQ.out _ h; omega); omega
  have GV := am (V1.out.set (p := ⟨w.heap.size + 1, 2, none⟩) nq1 (.slice A' (c.ou.length + 1) n'))
  have GB := am (EB.out.setCell (p := ⟨w.heap.size + 1, 2, none⟩) (by show w0.heap.size <= w.heap.size + 1; omega) (.slice A' (c.ou.length + 1) n'))
  have GK := am (EK.out.setCell (p := ⟨w.heap.size + 1, 2, none⟩) (.inr (Nat.le_succ _)) (.slice A' (c.ou.length + 1) n'))
  have hlx : w.heap.size + 4 <= (W1.setCell ⟨w.heap.size + 1, 2, none⟩ (.slice A' (c.ou.length + 1) n')).heap.size := by simp; omega
  generalize W1.setCell ⟨w.heap.size + 1, 2, none⟩ (.slice A' (c.ou.length + 1) n') = W3 at G1 G3 GV GB GK hlx ⊢
  obtain ⟨cx, hcx⟩ : ∃ cx : VC, cx = { c with ou := c.ou ++ [⟨i.f1, rg c.re i.f2⟩] } := ⟨_, rfl⟩
  have hpx : 0 <= cx.pc /\ cx.pc < 1000000000 := by rw [hcx]; exact ⟨hp0, hp1⟩
  have HCX := am hcx
  have GVX := am (show VR W3 w0.heap.size _ #[.int .i64 c.ed, .slice A1 c.st.length n1, .slice A' (c.ou.length + 1) n', .slice A3 c.tr.length n3, .int .i64 c.co, .int .i64 c.us, .int .i64 c.wh, .slice (some ⟨g0, 0, none⟩) c.re.length n7, .slice A8 c.tl.length n8, .int .i64 c.pc, .int .i64 c.fu, .bool c.ov] cx by rw [hcx]; exact GV.out)
  clear y2 f2 E0 E1 E2 E3 V1 EB EK nq1 hcx GV
  have u_q := bq G1.out
  go_wp2_with (first | (go_at_call 78; refine (z1x.calls w0 W3 (fun k => (Q k \/ w.heap.size + 4 <= k) /\ k < W3.heap.size) _ cx false 0 GB.out GVX.out.bound (fun k hk => hk.2) hpx.1 hpx.2).mono ?_; rintro e W2 ⟨cs2, rfl, hv2, hb2, hk2⟩; have X3 := am ((hk2.2 (w.heap.size + 3) (by omega) (fun h => by rcases h with ⟨h | h, _⟩; exact jm (HQ.out _ h) (by omega); omega)).trans G3.out); obtain ⟨c2, hc2⟩ : ∃ c2 : VC, c2 = { cx with pc := cx.pc + 1 } := ⟨_, rfl⟩; have HV2 := am (show VR W2 w0.heap.size (fun k => ((Q k \/ w.heap.size + 4 <= k) /\ k < W3.heap.size) \/ W3.heap.size <= k) cs2 c2 by rw [hc2]; exact hv2); have HC2 := am hc2; obtain ⟨B1_, m1_, B2_, m2_, B3_, m3_, B7_, m7_, B8_, m8_, rfl, hh2⟩ := id HV2.out; clear hh2; have HB2 := am hb2; have HK2 := am (GK.out.then_ hk2 (fun k hk => by rcases hk with ⟨h | h, _⟩; exact .inl h; exact .inr (by omega))); have hs2 := hk2.1; have hlc : w.heap.size + 3 < W3.heap.size := (by omega); clear hv2 hb2 hk2 hc2; have z_q := bq X3.out; obtain ⟨g0, g1, g2, g3, g4, g5, g6, g7, g8, g9, g10, g11⟩ := yA X3.out))
  exact yN (g := w.heap.size + 3) HV2.out (by rw [<- HH.out, HC2.out, HCX.out]) X3.out rfl HB2.out HK2.out (by omega) (by omega) (fun h => by rcases h with ⟨h | h, _⟩ | h; exact jm (HQ.out _ h) (by omega); omega; omega) (fun k hk => by rcases hk with ⟨h | h, _⟩ | h; exact .inl h; exact .inr (by omega); exact .inr (by omega)) rfl rfl rfl rfl
 have e7 := (beq_eq_false_iff_ne (a := i.f0)).mpr h7
 by_cases h8 : i.f0 = 8
 ·rw [vDo, ja (by rw [h8]; decide), ja (by rw [h8]; decide), ja (by rw [h8]; decide), ja (by rw [h8]; decide), ja (by rw [h8]; decide), ja (by rw [h8]; decide), ja (by rw [h8]; decide), ja (by rw [h8]; decide), jb h8] at h
  have e8 : (i.f0 == 8) = true := bT h8
  have H8 := am h8
  clear h8
  have ra := HF8.out H8.out
  by_cases hu : (picks.length : Int) <= c.us
  ·rw [jb hu] at h
   have HH := am (sj h)
   have hub : decide ((picks.length : Int) <= c.us) = true := dT hu
   clear h
   go_wp2_with (first | (go_at_call 45; refine (z1w.calls w0 W0 Q _ c 4 HB0.out HV0.out (fun k hk => by have := HQ.out k hk; have := HSZ.out; omega)).mono ?_; rintro e W2 ⟨cs2, rfl, hv2, hb2, hk2⟩; have X3 := am ((hk2.2 (w.heap.size + 3) (by have := HSZ.out; omega) (fun h => jm (HQ.out _ h) (by omega))).trans XB3.out); obtain ⟨c2, hc2⟩ : ∃ c2 : VC, c2 = Yf 4 c := ⟨_, rfl⟩; have HV2 := am (show VR W2 w0.heap.size (fun k => Q k \/ W0.heap.size <= k) cs2 c2 by rw [hc2]; exact hv2); have HC2 := am hc2; obtain ⟨B1_, m1_, B2_, m2_, B3_, m3_, B7_, m7_, B8_, m8_, rfl, hh2⟩ := id HV2.out; clear hh2; have HB2 := am hb2; have HK2 := am (HK0.out.then_ hk2 (fun k hk => .inl hk)); have hs2 := hk2.1; have hlc : w.heap.size + 3 < W0.heap.size := (by have := HSZ.out; omega); clear hv2 hb2 hk2 hc2; have z_q := bq X3.out; obtain ⟨g0, g1, g2, g3, g4, g5, g6, g7, g8, g9, g10, g11⟩ := yA X3.out))
   exact yN (g := w.heap.size + 3) HV2.out (HC2.out.trans HH.out) X3.out rfl HB2.out HK2.out (by omega) (by omega) (fun h => by rcases h with h | h; exact jm (HQ.out _ h) (by omega); omega) (fun k hk => by rcases hk with h | h; exact .inl h; exact .inr (by omega)) rfl rfl rfl rfl
  ·rw [ja hu] at h
   have HH := am (sj h)
   have hub : decide ((picks.length : Int) <= c.us) = false := dF hu
   clear h
   have f5 := zf XB1.out 5
   have hwu : IntKind.i64.wrap (c.us + 1) = c.us + 1 := by rw [zP]; unfold wrap64; omega
   have hwv : IntKind.i64.wrap (c.us + 1 - 1) = c.us := by rw [zP]; unfold wrap64; omega
   have hw64 : wrap64 c.us = c.us := by unfold wrap64; omega
   have hult : c.us < (picks.length : Int) := by omega
   have hpk9 := HPK.out.2.1
   obtain ⟨ad, cl, e1, _, hK_, hcl⟩ := Kd.C_get HPK.out (0 : Int) c.us hu0 (by omega)
   subst e1
   have hcl0 : cl = [.int .i64 (rg picks c.us)] := hK_
   subst hcl0
   have qp := hcl 0 _ rfl
   rw [show (Kd.int .i64).sz = 1 from rfl, Nat.mul_one, Nat.add_zero] at qp
   have qpl := jd w0 _ qp
   clear hcl hK_
   go_wp2
   clear p_q c0 c1 c2 c3 c4 c5 c6 c7 c8 c9 c10 c11 i_q
   have G0 := am (kdr ((jl W0 ⟨w.heap.size + 1, 5, none⟩ (.int .i64 (c.us + 1)) w.heap.size (by show w.heap.size ≠ w.heap.size + 1; omega)).trans XB0.out))
   have G1 := am (kdr (zJ XB1.out 5 (.int .i64 (c.us + 1)) (cs' := (Vc c.ed A1 c.st n1 A2 c.ou n2 A3 c.tr n3 c.co (c.us + 1) c.wh A7 c.re n7 A8 c.tl n8 c.pc c.fu c.ov)) rfl))
   have G2 := am (kdr ((jl W0 ⟨w.heap.size + 1, 5, none⟩ (.int .i64 (c.us + 1)) (w.heap.size + 2) (by show w.heap.size + 2 ≠ w.heap.size + 1; omega)).trans XB2.out))
   have G3 := am (kdr ((jl W0 ⟨w.heap.size + 1, 5, none⟩ (.int .i64 (c.us + 1)) (w.heap.size + 3) (by show w.heap.size + 3 ≠ w.heap.size + 1; omega)).trans XB3.out))
   have nq1 : ¬ Q (w.heap.size + 1) := fun h => by have := HQ.out _ h; omega
   have GV := am (((HV0.out.set (p := ⟨w.heap.size + 1, 5, none⟩) nq1 (.int .i64 (c.us + 1))).us' (c.us + 1)).below (zj (jc _ _)))
   have gb := HB0.out.setCell (p := ⟨w.heap.size + 1, 5, none⟩) (by show w0.heap.size <= w.heap.size + 1; omega) (.int .i64 (c.us + 1))
   have GB := am (gb.trans ((zj (jc _ _)).mono gb.size))
   have GK := am ((HK0.out.setCell (p := ⟨w.heap.size + 1, 5, none⟩) (.inr (Nat.le_succ _)) (.int .i64 (c.us + 1))).below (zj (jc _ _)))
   have QP := am ((GB.out.cell qpl).trans qp)
   have hlw : w.heap.size + 4 <= (W0.setCell ⟨w.heap.size + 1, 5, none⟩ (.int .i64 (c.us + 1))).drew.heap.size := by have := HSZ.out; show w.heap.size + 4 <= (W0.setCell ⟨w.heap.size + 1, 5, none⟩ (.int .i64 (c.us + 1))).heap.size; simp; omega
   clear nq1 gb qp f5
   refine sT 12 [0, 1, 2, 3, 4, 5, 6, 7, 8, 9, 10, 11] [10, 11] fun hHeld => ?_
   generalize (W0.setCell ⟨w.heap.size + 1, 5, none⟩ (.int .i64 (c.us + 1))).drew = Y at G0 G1 G2 G3 GV GB GK QP hlw hHeld ⊢
   have hq5_0 := bq G1.out
   have hq5_1 := bq G2.out
   have hq5_2 : World.cell? _ (ad.add c.us.toNat) = some (.int .i64 (rg picks c.us)) := QP.out
   repeat first | refine nx ?_ | refine ldT hHeld ?_ | refine un ?_
   refine la fun K hK => ?_
   refine gC Tryz.func74 ?_
   refine (z0M w0 Y Q _ { c with us := c.us + 1 } i.f1 (rg picks c.us) GB.out GV.out (fun k hk => by have := HQ.out k hk; omega) ra hp0 hp1).mono ?_
   rintro e W2 ⟨cs2, rfl, hv2, hb2, hk2⟩
   have X3 := am ((hk2.2 (w.heap.size + 3) (by omega) (fun h => jm (HQ.out _ h) (by omega))).trans G3.out)
   obtain ⟨c2, hc2⟩ : ∃ c2 : VC, c2 = ZN i.f1 (rg picks c.us) { c with us := c.us + 1 } := ⟨_, rfl⟩
   have HV2 := am (show VR W2 w0.heap.size (fun k => Q k \/ Y.heap.size <= k) cs2 c2 by rw [hc2]; exact hv2)
   have HC2 := am hc2
   obtain ⟨B1_, m1_, B2_, m2_, B3_, m3_, B7_, m7_, B8_, m8_, rfl, hh2⟩ := id HV2.out
   clear hh2
   have HB2 := am hb2
   have HK2 := am (GK.out.then_ hk2 (fun k hk => .inl hk))
   have hs2 := hk2.1
   have hlc : w.heap.size + 3 < Y.heap.size := (by omega)
   clear hv2 hk2 hc2
   have z_q := bq X3.out
   obtain ⟨g0, g1, g2, g3, g4, g5, g6, g7, g8, g9, g10, g11⟩ := yA X3.out
   refine ⟨_, rfl, ?_⟩
   refine hK.out _ _ ?_
   clear hK K
   refine nM ?_
   refine la fun K hK => ?_
   refine ZX (w1 := ?_) (by rfl) rfl ?_ ?_
   rotate_left
   ·go_simp
    rfl
   refine hK.out _ _ ?_
   clear hK K
   refine dn ?_
   go_wp2
   exact yN (g := w.heap.size + 3) HV2.out (HC2.out.trans HH.out) X3.out rfl HB2.out HK2.out (by omega) (by omega) (fun h => by rcases h with h | h; exact jm (HQ.out _ h) (by omega); omega) (fun k hk => by rcases hk with h | h; exact .inl h; exact .inr (by omega)) rfl rfl rfl rfl
 have e8 := (beq_eq_false_iff_ne (a := i.f0)).mpr h8
 rw [vDo, ja h0, ja h1, ja h2, ja h3, ja h4, ja h5, ja h6, ja h7, ja h8, ja h9, ja h10] at h
 have HH := am (sj h)
 clear h h0 h1 h2 h3 h4 h5 h6 h7 h8 h9 h10
 go_wp2_with (first | (go_at_call 45; refine (z1w.calls w0 W0 Q _ c 0 HB0.out HV0.out (fun k hk => by have := HQ.out k hk; have := HSZ.out; omega)).mono ?_; rintro e W2 ⟨cs2, rfl, hv2, hb2, hk2⟩; have X3 := am ((hk2.2 (w.heap.size + 3) (by have := HSZ.out; omega) (fun h => jm (HQ.out _ h) (by omega))).trans XB3.out); obtain ⟨c2, hc2⟩ : ∃ c2 : VC, c2 = Yf 0 c := ⟨_, rfl⟩; have HV2 := am (show VR W2 w0.heap.size (fun k => Q k \/ W0.heap.size <= k) cs2 c2 by rw [hc2]; exact hv2); have HC2 := am hc2; obtain ⟨B1_, m1_, B2_, m2_, B3_, m3_, B7_, m7_, B8_, m8_, rfl, hh2⟩ := id HV2.out; clear hh2; have HB2 := am hb2; have HK2 := am (HK0.out.then_ hk2 (fun k hk => .inl hk)); have hs2 := hk2.1; have hlc : w.heap.size + 3 < W0.heap.size := (by have := HSZ.out; omega); clear hv2 hb2 hk2 hc2; have z_q := bq X3.out; obtain ⟨g0, g1, g2, g3, g4, g5, g6, g7, g8, g9, g10, g11⟩ := yA X3.out))
 exact yN (g := w.heap.size + 3) HV2.out (HC2.out.trans HH.out) X3.out rfl HB2.out HK2.out (by omega) (by omega) (fun h => by rcases h with h | h; exact jm (HQ.out _ h) (by omega); omega) (fun k hk => by rcases hk with h | h; exact .inl h; exact .inr (by omega)) rfl rfl rfl rfl
def Zm.l0 : Nat -> List Int -> List Int -> Int -> Option (List Int)
 | 0, _, _, _ => none
 | k + 1, x0, x3, x4 => if x4 < (x0.length : Int) then (if 0 <= x4 then (if x3.length < 17592186044416 then (Zm.l0 k x0 (x3 ++ [rd x0 x4]) (wrap64 (x4 + 1))) else (none)) else (none)) else (some x3)
def Zm.f (k : Nat) (l0 : List Int) : Option (List Int) := Zm.l0 k l0 ([] : List Int) 0
theorem Zm.calls (k : Nat) (A0 : Option Addr) (c0 : Nat) (l0 : List Int) (r : List Int) (w : World) (hr0 : Kd.C (Kd.int .i64) w A0 l0.length l0) (hc0 : l0.length <= c0) (h : Zm.f k l0 = some r) :
  Calls Tryz.prog 68 #[.slice A0 l0.length c0] w fun e w' => ∃ v0_ : Value, e = .returned (v0_) /\ Kd.R (Kd.int .i64) 3 w' w.heap.size (fun _ => True) v0_ r /\ Below w.heap.size w w' := by
 have HR0 := am hr0
 have HC0 := am hc0
 clear hr0 hc0
 have HB := am (jc w.heap.size w)
 have H := h
 clear h
 have H' := am H
 clear H
 go_enter Tryz.func68, Tryz.ntmps68
 go_wp2
 go_loopg [3, 4] k (fun kq v3 v4 w' => ∃ (x3_1 : List Int) (x4_1 : Int), v4 = .int .i64 x4_1 /\ Aside0 (Zm.l0 kq l0 x3_1 x4_1 = some r) /\ Aside0 (kq <= k) /\ Aside0 (Kd.R (Kd.int .i64) 3 w' w.heap.size (fun _ => True) v3 x3_1) /\ Aside0 (Below w.heap.size w w'))
 case atStart => exact ⟨(([] : List Int)), (0), rs, H', ⟨jk _⟩, ⟨by first | exact Kd.R_nil _ _ _ _ _ | exact Kd.N_nil _ _ _ _ _ | exact Kd.V_nil _ _ _ _ _ | exact Kd.Q_nil _ _ _ _ _ | exact Kd.S_nil _ _ _ _ _⟩, ⟨bb HB⟩⟩
 case round =>
  clear H'
  obtain ⟨x3_1, x4_1, rfl, HA, HK1, HO_3, HB⟩ := hrel
  cases gk with
  | zero => exact jm HA.out (by simp [Zm.l0])
  | succ k1 =>
   have H := HA.out
   clear HA
   simp only [Zm.l0] at H
   obtain ⟨c2b0, H⟩ | ⟨c2b0, H⟩ := ei H
   ·obtain rfl := sj H
    go_wp2
    go_ret
    exact ⟨_, rr, iR HO_3, bb HB⟩
   obtain ⟨c3b0, H⟩ := pd H
   by_cases c4 : x3_1.length < 17592186044416
   rotate_left
   ·rw [ja c4] at H
    exact jm H (by simp)
   rw [jb c4] at H
   have LMc4 := am c4
   clear c4
   obtain ⟨y149, hy149⟩ : ∃ y_ : List Int, y_ = (x3_1 ++ [rd l0 x4_1]) := ⟨_, rfl⟩
   replace H : (Zm.l0 k1 l0 y149 (wrap64 (x4_1 + 1))) = some r := by first | (rw [hy149]; with_reducible exact H) | (have H2_ := (jv _ _).symm.trans H; rw [hy149]; with_reducible exact H2_) | (have H2_ := (jv _ _).symm.trans H; with_reducible exact H2_) | with_reducible exact H | (rw [hy149]; exact H) | exact H
   have Ny149 := am hy149
   clear hy149
   have H' := am H
   clear H
   have p148 : 0 <= (x4_1 : Int) := od
   have q148 : x4_1 < (l0.length : Int) := od
   obtain ⟨ad148, e148, hx148_0⟩ := Kd.at_int HR0.out x4_1 p148 q148
   cases e148
   replace hx148_0 := zo HB.out hx148_0
   replace p148 := eT p148
   replace q148 := eT q148
   go_wp2_with (first | ((with_reducible refine Zq (b := .append) (xs := #[.tmp 11, .tmp 16]) rfl ?_); at_builtin; refine Kd.R_append (Kd.int .i64) (w0 := w) w.heap.size rfl (.tmp 11) (.tmp 16) 26 3 (.int .i64 0) 8 rfl Tryz.underlying26 z5X rfl (by decide) (by omega) u3 x3_1 (rd l0 x4_1) [.int .i64 (rd l0 x4_1)] (fun _ => True) (fun _ => False) rfl rfl ?aP (fun _ hk => hk.elim) ?aF ?aO ?aB ?aS ?aL ?_; (case aP => exact rfl); (case aB => exact (bb HB)); (case aF => exact (fun _ _ => trivial)); (case aO => exact (iR HO_3)); (case aS => exact (bsz (bb HB))); (case aL => have := LMc4.out; omega); intro v150 w5 ho hb hg hat; rw [<- Ny149.out] at ho; have HO151 := am (ho); replace HB := am (hb); clear HO_3; clear ho hb hg hat))
   go_roundg k1
   case measure => have := HK1.out; omega
   case rel => exact ⟨(y149), (wrap64 (x4_1 + 1)), rs, H', ⟨by have := HK1.out; omega⟩, ⟨iR HO151⟩, ⟨bb HB⟩⟩
def yg.f (k : Nat) (a0 : Int) (l1_0 : List Int) (l1_1 : List Int) : Option (Int × List Int × (List (z1v)) × (List (Z4)) × Int × Int × Int × List Int × List Int × Int × Int × Bool) := (Zm.f k l1_0).bind fun t154 => (if 64 <= 35184372088832 then (some (0, t154, ([] : List (z1v)), ([] : List (Z4)), 0, 0, 0, (List.replicate 64 0), ([] : List Int), 0, a0, false)) else (none))
def yg.T1 : Bool × List (List Nat × List Nat) := (true, [([], []), ([0], [0]), ([1], [1]), ([2], [2]), ([], []), ([], []), ([3, 4, 5], [3, 4, 5]), ([6, 2, 0, 1, 2, 3, 4, 5, 6], [6])])
def yg.B1 : List Nat := [0, 1, 3, 7, 0, 0, 63, 127]
theorem yg.tab1 : Yh .any (z5H Tryz.f44 1) = yg.T1 := by kernel_rfl
theorem yg.bits1 : z03 yg.T1.2 yg.B1 = true := by kernel_rfl
theorem yg.calls (k : Nat) (a0 : Int) (A1_0 : Option Addr) (c1_0 : Nat) (l1_0 : List Int) (A1_1 : Option Addr) (c1_1 : Nat) (l1_1 : List Int) (r1 : Int) (r2 : List Int) (r3 : List (z1v)) (r4 : List (Z4)) (r5 : Int) (r6 : Int) (r7 : Int) (r8 : List Int) (r9 : List Int) (r10 : Int) (r11 : Int) (r12 : Bool) (w : World) (hr1_0 : Kd.C (Kd.int .i64) w A1_0 l1_0.length l1_0) (hc1_0 : l1_0.length <= c1_0) (hr1_1 : Kd.C (Kd.int .i64) w A1_1 l1_1.length l1_1) (hc1_1 : l1_1.length <= c1_1) (h : yg.f k a0 l1_0 l1_1 = some (r1, r2, r3, r4, r5, r6, r7, r8, r9, r10, r11, r12)) :
  Calls Tryz.prog 44 #[.int .i64 a0, .agg (Vn A1_0 l1_0 c1_0 A1_1 l1_1 c1_1)] w fun e w' => ∃ v1_ v2_ v3_ v7_ v8_ : Value, e = .returned (.agg #[.int .i64 r1, v1_, v2_, v3_, .int .i64 r5, .int .i64 r6, .int .i64 r7, v7_, v8_, .int .i64 r10, .int .i64 r11, .bool r12]) /\ Kd.R (Kd.int .i64) 3 w' w.heap.size (fun k_ => some k_ ≠ (v7_ : Value).ownBlock /\ some k_ ≠ (v8_ : Value).ownBlock) v1_ r2 /\ Kd.R z32 134 w' w.heap.size (fun _ => True) v2_ r3 /\ Kd.R Ye 144 w' w.heap.size (fun _ => True) v3_ r4 /\ Kd.R (Kd.int .i64) 3 w' w.heap.size (fun k_ => some k_ ≠ (v1_ : Value).ownBlock /\ some k_ ≠ (v8_ : Value).ownBlock) v7_ r8 /\ Kd.R (Kd.int .i64) 3 w' w.heap.size (fun k_ => some k_ ≠ (v1_ : Value).ownBlock /\ some k_ ≠ (v7_ : Value).ownBlock) v8_ r9 /\ Below w.heap.size w w' := by
 have hu28 := Tryz.underlying28
 have hu48 := Tryz.underlying48
 have hu44 := Tryz.underlying44
 have HR1_0 := am hr1_0
 have HC1_0 := am hc1_0
 clear hr1_0 hc1_0
 have HR1_1 := am hr1_1
 have HC1_1 := am hc1_1
 clear hr1_1 hc1_1
 have HB := am (jc w.heap.size w)
 have H := h
 clear h
 obtain ⟨t154, A3, H⟩ := be H
 by_cases c4 : 64 <= 35184372088832
 rotate_left
 ·rw [ja c4] at H
  exact jm H (by simp)
 rw [jb c4] at H
 have c4b0 := eT c4
 have c4b1 : decide (64 <= 35184372088832) = true := dT c4
 clear c4
 obtain ⟨y157, hy157⟩ : ∃ y_ : List Int, y_ = (List.replicate 64 0) := ⟨_, rfl⟩
 replace H : (some (0, t154, ([] : List (z1v)), ([] : List (Z4)), 0, 0, 0, y157, ([] : List Int), 0, a0, false)) = some (r1, r2, r3, r4, r5, r6, r7, r8, r9, r10, r11, r12) := by first | (rw [hy157]; with_reducible exact H) | (have H2_ := (jv _ _).symm.trans H; rw [hy157]; with_reducible exact H2_) | (have H2_ := (jv _ _).symm.trans H; with_reducible exact H2_) | with_reducible exact H | (rw [hy157]; exact H) | exact H
 have Ny157 := am hy157
 clear hy157
 simp only [Option.some.injEq, Prod.mk.injEq] at H
 obtain ⟨rfl, rfl, rfl, rfl, rfl, rfl, rfl, rfl, rfl, rfl, rfl, rfl⟩ := H
 go_enter Tryz.func44, Tryz.ntmps44
 try go_wp2_with (first | ((with_reducible refine zw (N := 3) rfl ?_); refine bz HB 3 rfl rfl (Vn A1_0 l1_0 c1_0 A1_1 l1_1 c1_1) 28 ?_; intro gb152 w5 BK152 GE152 HB) | ((with_reducible refine zw (N := 4) rfl ?_); refine bx 4 rfl rfl (Vd false) 48 ?_; intro gb153 hg w6 hbox hb; have BK153 := am (hbox); have GE153 := ge HB hg; have NB152_153 := nl BK152 hg; have NB153_152 := ng BK152 hg; replace BK152 := kb BK152 hb; replace HB := sb HB hb; clear hb hbox hg))
 replace BK152 := am (kdr BK152.out)
 replace BK153 := am (kdr BK153.out)
 replace HB := am (bd1 HB.out)
 refine z20 (n := 8) (S := fun w' => w'.cell? ⟨gb152, 0, none⟩ = some (.slice A1_0 l1_0.length c1_0) /\ w'.cell? ⟨gb152, 1, none⟩ = some (.slice A1_1 l1_1.length c1_1)) (ds := []) #[false, false, false, false, false, false, false, false] (by kernel_rfl) rfl rfl ⟨(za BK152.out 0).trans rfl, (za BK152.out 1).trans rfl⟩ (fun hHeld => ?_); refine z3r yg.tab1 yg.bits1 (fun HT_ HW_ => ?_)
 generalize w6.drew = w7 at BK152 BK153 HB hHeld ⊢
 refine pT 0 5 (bl 8 1) HT_ rfl rfl ?_
 refine pT 5 10 (bl 8 33) HT_ rfl rfl ?_
 refine tk (i := 1) (N := some 6) (bl 8 35) rfl rfl (z1B HT_.out HW_.out (by kernel_rfl)) hHeld ?_
 refine join_ (σ := Value × Value) 2 #[true, true, true, true, true, true, false, false] (fun s_ => [(7, s_.1), (9, s_.2), (8, .agg #[.int .i64 0, s_.1, .slice none 0 0, .slice none 0 0, .int .i64 0, .int .i64 0, .int .i64 0])]) (fun s_ w' => (w'.cell? ⟨gb152, 0, none⟩ = some (.slice A1_0 l1_0.length c1_0) /\ w'.cell? ⟨gb152, 1, none⟩ = some (.slice A1_1 l1_1.length c1_1)) /\ (Kd.R (Kd.int .i64) 3 w' w.heap.size (fun k_ => some k_ ≠ (s_.2 : Value).ownBlock) s_.1 t154) /\ (Kd.R (Kd.int .i64) 3 w' w.heap.size (fun k_ => some k_ ≠ (s_.1 : Value).ownBlock) s_.2 y157) /\ (w'.heap[gb152]? = some (.cells (Vn A1_0 l1_0 c1_0 A1_1 l1_1 c1_1) 28 (0, 0))) /\ (w'.heap[gb153]? = some (.cells (Vd false) 48 (0, 0))) /\ (Below w.heap.size w w')) ?_ ?_
 rotate_left
 ·intro hCont
  refine two_ (i := 2) (j := 4) (Ni := some 7) (Nj := some 9) #[true, true, true, false, false, true, false, false] #[true, true, false, false, true, true, false, false] rfl rfl rfl rfl (z51 HT_.out (by kernel_rfl)) (by decide) (by decide) (fun K hK => ?_) (fun K hK => ?_)
  ·skip
   refine gC Tryz.func68 ?_
   with_reducible refine (Zm.calls k _ _ l1_0 t154 _ (cb HR1_0 HB) HC1_0.out A3.out).mono ?_
   rintro e w8 ⟨v155, rfl, ho0, hb⟩
   refine ⟨_, rfl, ?_⟩
   have HO156 := am (Kd.R_lower ho0 (bsz (bb HB)))
   replace BK152 := kb BK152 hb
   replace BK153 := kb BK153 hb
   replace HB := sb HB hb
   obtain ⟨Ao9, co9, eo9⟩ := js HO156.out
   (first | subst eo9 | (injection eo9 with f1_ f2_ f3_; have f4_ := f1_.symm; have f5_ := f3_.symm; clear f1_ f2_ f3_; subst f4_; subst f5_))
   refine hK.out _ _ ⟨(za BK152.out 0).trans rfl, (za BK152.out 1).trans rfl⟩ (fun hHeld => ?_)
   clear hK K
   refine nm 7 ?_
   refine pT 3 8 (bl 8 47) HT_ rfl rfl ?_
   refine z2T (i := 4) (N := some 9) (bl 8 63) rfl rfl (z2S HT_.out (by kernel_rfl)) (by decide) (fun K hK => ?_)
   refine Kd.R_make_step (Kd.int .i64) _ 3 (by rfl) (N := 9) rfl 26 _ _ rfl 64 rfl rfl Tryz.underlying26 (.int .i64 0) 8 z5X rfl (by decide) (by omega) 0 (ok := fun _ => True) (okp := fun _ => True) rfl (fun _ hk => hk) trivial (by omega) (by omega) (jc _ _) (jk _) ?_
   intro v158 w10 ho11 hb hg_ hnew_
   clear hg_ hnew_
   (first | rw [<- Ny157.out] at ho11 | (simp only [Int.reduceToNat] at ho11; rw [<- Ny157.out] at ho11))
   have HO159 := am (Kd.R_lower (Kd.R_new' ho11 (Kd.R_lt (iR HO156))) (bsz (bb HB)))
   replace HO156 := am (Kd.R_elder' (iR HO156) (Kd.R_base ho11) hb)
   replace BK152 := kb BK152 hb
   replace BK153 := kb BK153 hb
   replace HB := sb HB hb
   clear hb ho11
   obtain ⟨Ao12, co12, eo12⟩ := js HO159.out
   (first | subst eo12 | (injection eo12 with f1_ f2_ f3_; have f4_ := f1_.symm; have f5_ := f3_.symm; clear f1_ f2_ f3_; subst f4_; subst f5_))
   refine hK.out _ _ ⟨(za BK152.out 0).trans rfl, (za BK152.out 1).trans rfl⟩ (fun hHeld => ?_)
   clear hK K
   refine nm 9 ?_
   exact z4A (by simp only [z23, Act.put, List.setIfInBounds_toArray, List.set_cons_zero, List.set_cons_succ]) (hCont (.slice Ao9 t154.length co9, .slice Ao12 y157.length co12) _ ⟨hHeld, (by (with_reducible repeat (first | apply Kd.R_alloc | apply Kd.R_drewN | apply Kd.R_drew)); exact jr HO156.out (fun _ hk => hk.2)), (by (with_reducible repeat (first | apply Kd.R_alloc | apply Kd.R_drewN | apply Kd.R_drew)); exact jr HO159.out (fun _ hk => hk.2)), (kk BK152), (kk BK153), (bb HB)⟩)
  ·skip
   refine Kd.R_make_step (Kd.int .i64) _ 3 (by rfl) (N := 9) rfl 26 _ _ rfl 64 rfl rfl Tryz.underlying26 (.int .i64 0) 8 z5X rfl (by decide) (by omega) 0 (ok := fun _ => True) (okp := fun _ => True) rfl (fun _ hk => hk) trivial (by omega) (by omega) (jc _ _) (jk _) ?_
   intro v158 w8 ho9 hb hg_ hnew_
   clear hg_ hnew_
   (first | rw [<- Ny157.out] at ho9 | (simp only [Int.reduceToNat] at ho9; rw [<- Ny157.out] at ho9))
   have HO159 := am (Kd.R_lower ho9 (bsz (bb HB)))
   replace BK152 := kb BK152 hb
   replace BK153 := kb BK153 hb
   replace HB := sb HB hb
   clear hb ho9
   refine hK.out _ _ ⟨(za BK152.out 0).trans rfl, (za BK152.out 1).trans rfl⟩ (fun hHeld => ?_)
   clear hK K
   refine nm 9 ?_
   refine z2T (i := 2) (N := some 7) (bl 8 55) rfl rfl (z2S HT_.out (by kernel_rfl)) (by decide) (fun K hK => ?_)
   refine gC Tryz.func68 ?_
   with_reducible refine (Zm.calls k _ _ l1_0 t154 _ (cb HR1_0 HB) HC1_0.out A3.out).mono ?_
   rintro e w10 ⟨v155, rfl, ho0, hb⟩
   refine ⟨_, rfl, ?_⟩
   have HO156 := am (Kd.R_lower (Kd.R_new' ho0 (Kd.R_lt (iR HO159))) (bsz (bb HB)))
   replace HO159 := am (Kd.R_elder' (iR HO159) (Kd.R_base ho0) hb)
   replace BK152 := kb BK152 hb
   replace BK153 := kb BK153 hb
   replace HB := sb HB hb
   obtain ⟨Ao11, co11, eo11⟩ := js HO156.out
   (first | subst eo11 | (injection eo11 with f1_ f2_ f3_; have f4_ := f1_.symm; have f5_ := f3_.symm; clear f1_ f2_ f3_; subst f4_; subst f5_))
   obtain ⟨Ao12, co12, eo12⟩ := js HO159.out
   (first | subst eo12 | (injection eo12 with f1_ f2_ f3_; have f4_ := f1_.symm; have f5_ := f3_.symm; clear f1_ f2_ f3_; subst f4_; subst f5_))
   refine hK.out _ _ ⟨(za BK152.out 0).trans rfl, (za BK152.out 1).trans rfl⟩ (fun hHeld => ?_)
   clear hK K
   refine nm 7 ?_
   refine pT 3 8 (bl 8 63) HT_ rfl rfl ?_
   exact z4A (by simp only [z23, Act.put, List.setIfInBounds_toArray, List.set_cons_zero, List.set_cons_succ]) (hCont (.slice Ao11 t154.length co11, .slice Ao12 y157.length co12) _ ⟨hHeld, (by (with_reducible repeat (first | apply Kd.R_alloc | apply Kd.R_drewN | apply Kd.R_drew)); exact jr HO156.out (fun _ hk => hk.2)), (by (with_reducible repeat (first | apply Kd.R_alloc | apply Kd.R_drewN | apply Kd.R_drew)); exact jr HO159.out (fun _ hk => hk.2)), (kk BK152), (kk BK153), (bb HB)⟩)
 rintro ⟨v155, v158⟩ w13 ⟨hS_, h0_, h1_, h2_, h3_, h4_⟩
 have n0_ : Aside0 (Kd.R (Kd.int .i64) 3 w13 w.heap.size (fun k_ => some k_ ≠ (v158 : Value).ownBlock) v155 t154) := ⟨h0_⟩
 have n1_ : Aside0 (Kd.R (Kd.int .i64) 3 w13 w.heap.size (fun k_ => some k_ ≠ (v155 : Value).ownBlock) v158 y157) := ⟨h1_⟩
 have n2_ : Aside0 (w13.heap[gb152]? = some (.cells (Vn A1_0 l1_0 c1_0 A1_1 l1_1 c1_1) 28 (0, 0))) := ⟨h2_⟩
 have n3_ : Aside0 (w13.heap[gb153]? = some (.cells (Vd false) 48 (0, 0))) := ⟨h3_⟩
 have n4_ : Aside0 (Below w.heap.size w w13) := ⟨h4_⟩
 clear BK152
 clear BK153
 clear HB
 clear h0_ h1_ h2_ h3_ h4_
 have HO156 := n0_
 have HO159 := n1_
 have BK152 := n2_
 have BK153 := n3_
 have HB := n4_
 clear n0_ n1_ n2_ n3_ n4_
 have hHeld : w13.cell? ⟨gb152, 0, none⟩ = some (.slice A1_0 l1_0.length c1_0) /\ w13.cell? ⟨gb152, 1, none⟩ = some (.slice A1_1 l1_1.length c1_1) := hS_
 obtain ⟨Ao14, co14, eo14⟩ := js HO156.out
 (first | subst eo14 | (injection eo14 with f1_ f2_ f3_; have f4_ := f1_.symm; have f5_ := f3_.symm; clear f1_ f2_ f3_; subst f4_; subst f5_))
 obtain ⟨Ao15, co15, eo15⟩ := js HO159.out
 (first | subst eo15 | (injection eo15 with f1_ f2_ f3_; have f4_ := f1_.symm; have f5_ := f3_.symm; clear f1_ f2_ f3_; subst f4_; subst f5_))
 refine z4A (a' := ?_) ?_ ?_
 rotate_left
 ·simp only [z23, Act.put, List.setIfInBounds_toArray, List.set_cons_zero, List.set_cons_succ]
  rfl
 refine pT 6 11 (bl 8 127) HT_ rfl rfl ?_
 refine z2T (i := 7) (N := none) (bl 8 255) rfl rfl (z2S HT_.out (by kernel_rfl)) (by decide) (fun K hK => ?_)
 have hs16 : w13.cell? ⟨gb153, 0, none⟩ = some (.int .i64 0) := (za BK153.out 0).trans rfl
 have hfs16 := zf BK153.out 0
 have hns16_0 := NB152_153.out
 have hms16_0 := NB153_152.out
 have hs17 : w13.cell? ⟨gb153, 1, none⟩ = some (.slice none 0 0) := (za BK153.out 1).trans rfl
 have hfs17 := zf BK153.out 1
 have hns17_0 := NB152_153.out
 have hms17_0 := NB153_152.out
 have hs18 : w13.cell? ⟨gb153, 2, none⟩ = some (.slice none 0 0) := (za BK153.out 2).trans rfl
 have hfs18 := zf BK153.out 2
 have hns18_0 := NB152_153.out
 have hms18_0 := NB153_152.out
 have hs19 : w13.cell? ⟨gb153, 3, none⟩ = some (.slice none 0 0) := (za BK153.out 3).trans rfl
 have hfs19 := zf BK153.out 3
 have hns19_0 := NB152_153.out
 have hms19_0 := NB153_152.out
 have hs20 : w13.cell? ⟨gb153, 4, none⟩ = some (.int .i64 0) := (za BK153.out 4).trans rfl
 have hfs20 := zf BK153.out 4
 have hns20_0 := NB152_153.out
 have hms20_0 := NB153_152.out
 have hs21 : w13.cell? ⟨gb153, 5, none⟩ = some (.int .i64 0) := (za BK153.out 5).trans rfl
 have hfs21 := zf BK153.out 5
 have hns21_0 := NB152_153.out
 have hms21_0 := NB153_152.out
 have hs22 : w13.cell? ⟨gb153, 6, none⟩ = some (.int .i64 0) := (za BK153.out 6).trans rfl
 have hfs22 := zf BK153.out 6
 have hns22_0 := NB152_153.out
 have hms22_0 := NB153_152.out
 have hs23 : w13.cell? ⟨gb153, 7, none⟩ = some (.slice none 0 0) := (za BK153.out 7).trans rfl
 have hfs23 := zf BK153.out 7
 have hns23_0 := NB152_153.out
 have hms23_0 := NB153_152.out
 have hs24 : w13.cell? ⟨gb153, 8, none⟩ = some (.slice none 0 0) := (za BK153.out 8).trans rfl
 have hfs24 := zf BK153.out 8
 have hns24_0 := NB152_153.out
 have hms24_0 := NB153_152.out
 have hs25 : w13.cell? ⟨gb153, 9, none⟩ = some (.int .i64 0) := (za BK153.out 9).trans rfl
 have hfs25 := zf BK153.out 9
 have hns25_0 := NB152_153.out
 have hms25_0 := NB153_152.out
 have hs26 : w13.cell? ⟨gb153, 10, none⟩ = some (.int .i64 0) := (za BK153.out 10).trans rfl
 have hfs26 := zf BK153.out 10
 have hns26_0 := NB152_153.out
 have hms26_0 := NB153_152.out
 have hs27 : w13.cell? ⟨gb153, 11, none⟩ = some (.bool false) := (za BK153.out 11).trans rfl
 have hfs27 := zf BK153.out 11
 have hns27_0 := NB152_153.out
 have hms27_0 := NB153_152.out
 refine ZX (w1 := ?_) (by rfl) rfl ?_ ?_
 rotate_left
 ·go_simp
  rfl
 refine hK.out _ _ ⟨((Zc (p := ⟨gb153, _, none⟩) NB152_153.out _).trans (((Zc (p := ⟨gb153, _, none⟩) NB152_153.out _).trans (((Zc (p := ⟨gb153, _, none⟩) NB152_153.out _).trans (((Zc (p := ⟨gb153, _, none⟩) NB152_153.out _).trans (((Zc (p := ⟨gb153, _, none⟩) NB152_153.out _).trans (((Zc (p := ⟨gb153, _, none⟩) NB152_153.out _).trans (((Zc (p := ⟨gb153, _, none⟩) NB152_153.out _).trans (((Zc (p := ⟨gb153, _, none⟩) NB152_153.out _).trans (((Zc (p := ⟨gb153, _, none⟩) NB152_153.out _).trans (((Zc (p := ⟨gb153, _, none⟩) NB152_153.out _).trans (((Zc (p := ⟨gb153, _, none⟩) NB152_153.out _).trans (((Zc (p := ⟨gb153, _, none⟩) NB152_153.out _).trans (hHeld.1)))))))))))))))))))))))), ((Zc (p := ⟨gb153, _, none⟩) NB152_153.out _).trans (((Zc (p := ⟨gb153, _, none⟩) NB152_153.out _).trans (((Zc (p := ⟨gb153, _, none⟩) NB152_153.out _).trans (((Zc (p := ⟨gb153, _, none⟩) NB152_153.out _).trans (((Zc (p := ⟨gb153, _, none⟩) NB152_153.out _).trans (((Zc (p := ⟨gb153, _, none⟩) NB152_153.out _).trans (((Zc (p := ⟨gb153, _, none⟩) NB152_153.out _).trans (((Zc (p := ⟨gb153, _, none⟩) NB152_153.out _).trans (((Zc (p := ⟨gb153, _, none⟩) NB152_153.out _).trans (((Zc (p := ⟨gb153, _, none⟩) NB152_153.out _).trans (((Zc (p := ⟨gb153, _, none⟩) NB152_153.out _).trans (((Zc (p := ⟨gb153, _, none⟩) NB152_153.out _).trans (hHeld.2))))))))))))))))))))))))⟩ (fun hHeld => ?_)
 clear hK K
 refine z38 (z65 HT_.out (by kernel_rfl)) ?_
 try go_wp2
 refine bodyPost_ret (results_cell_row rfl _ _ gb153 48 (Vfq Ao14 t154 co14 Ao15 y157 co15 a0 false) (0, 0) _ rfl (by (with_reducible repeat (first | refine kdN ?_ _ | refine kdr ?_ | refine kal ?_ _)); refine zJ (cs := (Vfq Ao14 t154 co14 Ao15 y157 co15 a0 false)) ?_ 11 _ rfl; (with_reducible repeat (first | refine kdN ?_ _ | refine kdr ?_ | refine kal ?_ _)); refine zJ (cs := (Vw Ao14 t154 co14 Ao15 y157 co15 false)) ?_ 10 _ rfl; (with_reducible repeat (first | refine kdN ?_ _ | refine kdr ?_ | refine kal ?_ _)); refine zJ (cs := (Vw Ao14 t154 co14 Ao15 y157 co15 false)) ?_ 9 _ rfl; (with_reducible repeat (first | refine kdN ?_ _ | refine kdr ?_ | refine kal ?_ _)); refine zJ (cs := (Vw Ao14 t154 co14 Ao15 y157 co15 false)) ?_ 8 _ rfl; (with_reducible repeat (first | refine kdN ?_ _ | refine kdr ?_ | refine kal ?_ _)); refine zJ (cs := (Vp Ao14 t154 co14 false)) ?_ 7 _ rfl; (with_reducible repeat (first | refine kdN ?_ _ | refine kdr ?_ | refine kal ?_ _)); refine zJ (cs := (Vp Ao14 t154 co14 false)) ?_ 6 _ rfl; (with_reducible repeat (first | refine kdN ?_ _ | refine kdr ?_ | refine kal ?_ _)); refine zJ (cs := (Vp Ao14 t154 co14 false)) ?_ 5 _ rfl; (with_reducible repeat (first | refine kdN ?_ _ | refine kdr ?_ | refine kal ?_ _)); refine zJ (cs := (Vp Ao14 t154 co14 false)) ?_ 4 _ rfl; (with_reducible repeat (first | refine kdN ?_ _ | refine kdr ?_ | refine kal ?_ _)); refine zJ (cs := (Vp Ao14 t154 co14 false)) ?_ 3 _ rfl; (with_reducible repeat (first | refine kdN ?_ _ | refine kdr ?_ | refine kal ?_ _)); refine zJ (cs := (Vp Ao14 t154 co14 false)) ?_ 2 _ rfl; (with_reducible repeat (first | refine kdN ?_ _ | refine kdr ?_ | refine kal ?_ _)); refine zJ (cs := (Vd false)) ?_ 1 _ rfl; (with_reducible repeat (first | refine kdN ?_ _ | refine kdr ?_ | refine kal ?_ _)); refine zJ (cs := (Vd false)) ?_ 0 _ rfl; (with_reducible repeat (first | refine kdN ?_ _ | refine kdr ?_ | refine kal ?_ _)); exact BK153.out) Tryz.underlying48 rfl (by kernel_rfl)) rfl ?_
 exact ⟨_, _, _, _, _, rr, by (with_reducible repeat (first | apply Kd.R_alloc | apply Kd.R_drewN | apply Kd.R_drew)); exact jr (Kd.R_far (p := ⟨gb153, 11, none⟩) (Kd.R_far (p := ⟨gb153, 10, none⟩) (Kd.R_far (p := ⟨gb153, 9, none⟩) (Kd.R_far (p := ⟨gb153, 8, none⟩) (Kd.R_far (p := ⟨gb153, 7, none⟩) (Kd.R_far (p := ⟨gb153, 6, none⟩) (Kd.R_far (p := ⟨gb153, 5, none⟩) (Kd.R_far (p := ⟨gb153, 4, none⟩) (Kd.R_far (p := ⟨gb153, 3, none⟩) (Kd.R_far (p := ⟨gb153, 2, none⟩) (Kd.R_far (p := ⟨gb153, 1, none⟩) (Kd.R_far (p := ⟨gb153, 0, none⟩) (Kd.R_types HO156.out BK153.out (by decide)) (fun _ hk => hk.2) (.int .i64 0)) (fun _ hk => hk.2) (.slice Ao14 t154.length co14)) (fun _ hk => hk.2) (.slice none 0 0)) (fun _ hk => hk.2) (.slice none 0 0)) (fun _ hk => hk.2) (.int .i64 0)) (fun _ hk => hk.2) (.int .i64 0)) (fun _ hk => hk.2) (.int .i64 0)) (fun _ hk => hk.2) (.slice Ao15 y157.length co15)) (fun _ hk => hk.2) (.slice none 0 0)) (fun _ hk => hk.2) (.int .i64 0)) (fun _ hk => hk.2) (.int .i64 a0)) (fun _ hk => hk.2) (.bool false)) (fun _ hk => ⟨hk.1, (by simp [Value.ownBlock])⟩), by first | exact Kd.R_nil _ _ _ _ _ | exact Kd.N_nil _ _ _ _ _ | exact Kd.V_nil _ _ _ _ _ | exact Kd.Q_nil _ _ _ _ _ | exact Kd.S_nil _ _ _ _ _, by first | exact Kd.R_nil _ _ _ _ _ | exact Kd.N_nil _ _ _ _ _ | exact Kd.V_nil _ _ _ _ _ | exact Kd.Q_nil _ _ _ _ _ | exact Kd.S_nil _ _ _ _ _, by (with_reducible repeat (first | apply Kd.R_alloc | apply Kd.R_drewN | apply Kd.R_drew)); exact jr (Kd.R_far (p := ⟨gb153, 11, none⟩) (Kd.R_far (p := ⟨gb153, 10, none⟩) (Kd.R_far (p := ⟨gb153, 9, none⟩) (Kd.R_far (p := ⟨gb153, 8, none⟩) (Kd.R_far (p := ⟨gb153, 7, none⟩) (Kd.R_far (p := ⟨gb153, 6, none⟩) (Kd.R_far (p := ⟨gb153, 5, none⟩) (Kd.R_far (p := ⟨gb153, 4, none⟩) (Kd.R_far (p := ⟨gb153, 3, none⟩) (Kd.R_far (p := ⟨gb153, 2, none⟩) (Kd.R_far (p := ⟨gb153, 1, none⟩) (Kd.R_far (p := ⟨gb153, 0, none⟩) (Kd.R_types HO159.out BK153.out (by decide)) (fun _ hk => hk.2) (.int .i64 0)) (fun _ hk => hk.2) (.slice Ao14 t154.length co14)) (fun _ hk => hk.2) (.slice none 0 0)) (fun _ hk => hk.2) (.slice none 0 0)) (fun _ hk => hk.2) (.int .i64 0)) (fun _ hk => hk.2) (.int .i64 0)) (fun _ hk => hk.2) (.int .i64 0)) (fun _ hk => hk.2) (.slice Ao15 y157.length co15)) (fun _ hk => hk.2) (.slice none 0 0)) (fun _ hk => hk.2) (.int .i64 0)) (fun _ hk => hk.2) (.int .i64 a0)) (fun _ hk => hk.2) (.bool false)) (fun _ hk => ⟨hk.1, (by simp [Value.ownBlock])⟩), by first | exact Kd.R_nil _ _ _ _ _ | exact Kd.N_nil _ _ _ _ _ | exact Kd.V_nil _ _ _ _ _ | exact Kd.Q_nil _ _ _ _ _ | exact Kd.S_nil _ _ _ _ _, bb HB⟩
theorem z7t : (Tryz.prog.info? 3).map (fun i => (i.zero, i.size, i.bytes)) = some (some (.int .i64 0), 1, 8) := by kernel_rfl
def zC (fuel : Int) (st : List Int) : VC := ⟨0, st, [], [], 0, 0, 0, List.replicate 64 0, [], 0, fuel, false⟩
def zV (c : VC) : VC := { c with fu := c.fu - 1, co := c.co + 1, tl := c.tl ++ [c.pc] }
def yB (k : Nat) (wd : Int) (l1 : List S76) (picks : List Int) (ins : List S93) : Nat -> VC -> Option VC
 | 0, _ => none
 | n + 1, c => if c.ov = true then some c else if c.fu = 0 then some (Yf 3 c) else (vDo k wd l1 picks (zV c) (ya ins c.pc)).bind (yB k wd l1 picks ins n)
def z50 (k : Nat) (wd : Int) (l1 : List S76) (picks : List Int) (ins : List S93) : Nat -> VC -> Prop
 | 0, _ => True
 | n + 1, c => c.ov = false -> c.fu ≠ 0 -> (0 <= c.pc /\ c.pc < ins.length /\ 0 < c.fu /\ c.fu < 1000000000 /\ 0 <= c.co /\ c.co < 1000000000 /\ c.tl.length < 1000000000 /\ vFit k l1 (zV c) (ya ins c.pc)) /\ ∀ c', vDo k wd l1 picks (zV c) (ya ins c.pc) = some c' -> z50 k wd l1 picks ins n c'
theorem VR.lower {W : World} {B B' : Nat} {Q : Nat -> Prop} {cs : Array Value} {c : VC} (h : VR W B Q cs c) (hb : B' <= B) : VR W B' Q cs c := by
 obtain ⟨A1, n1, A2, n2, A3, n3, A7, n7, A8, n8, e, h1, h2, h3, h7, h8, a⟩ := h
 exact ⟨A1, n1, A2, n2, A3, n3, A7, n7, A8, n8, e, Kd.R_lower h1 hb, Kd.R_lower h2 hb, Kd.R_lower h3 hb, Kd.R_lower h7 hb, Kd.R_lower h8 hb, a⟩
theorem VR.base {W : World} {B : Nat} {Q : Nat -> Prop} {cs : Array Value} {c : VC} (h : VR W B Q cs c) : VR W B (fun k => B <= k /\ k < W.heap.size) cs c := by
 obtain ⟨A1, n1, A2, n2, A3, n3, A7, n7, A8, n8, e, h1, h2, h3, h7, h8, a⟩ := h
 exact ⟨A1, n1, A2, n2, A3, n3, A7, n7, A8, n8, e, jr (Kd.R_bound h1) (fun k hk => ⟨hk.2.1, hk.2.2.1⟩), jr (Kd.R_bound h2) (fun k hk => ⟨hk.2.1, hk.2.2.1⟩), jr (Kd.R_bound h3) (fun k hk => ⟨hk.2.1, hk.2.2.1⟩), jr (Kd.R_bound h7) (fun k hk => ⟨hk.2.1, hk.2.2.1⟩), jr (Kd.R_bound h8) (fun k hk => ⟨hk.2.1, hk.2.2.1⟩), a⟩
theorem z6O.calls (k : Nat) (fuel : Int) (As : Option Addr) (ns : Nat) (st : List Int) (Ap_ : Option Addr) (np : Nat) (picks : List Int) (st' : List Int) (w : World) (hs : Kd.C (Kd.int .i64) w As st.length st) (hsn : st.length <= ns) (hp : Kd.C (Kd.int .i64) w Ap_ picks.length picks) (hpn : picks.length <= np) (h : Zm.f k st = some st') :
  Calls Tryz.prog 44 #[.int .i64 fuel, .agg (Vn As st ns Ap_ picks np)] w fun e w' => ∃ cs, e = .returned (.agg cs) /\ VR w' w.heap.size (fun _ => True) cs (zC fuel st') /\ Below w.heap.size w w' := by
 refine (yg.calls k fuel As ns st Ap_ np picks 0 st' [] [] 0 0 0 (List.replicate 64 0) [] 0 fuel false w hs hsn hp hpn (by unfold yg.f; rw [h]; rfl)).mono ?_
 rintro e w' ⟨v1, v2, v3, v7, v8, rfl, h1, h2, h3, h7, h8, hb⟩
 obtain ⟨A1, n1, rfl⟩ := js h1
 obtain ⟨A2, n2, rfl⟩ := js h2
 obtain ⟨A3, n3, rfl⟩ := js h3
 obtain ⟨A7, n7, rfl⟩ := js h7
 obtain ⟨A8, n8, rfl⟩ := js h8
 exact ⟨_, rfl, ⟨A1, n1, A2, n2, A3, n3, A7, n7, A8, n8, rfl, jr h1 (fun _ _ => trivial), h2, h3, jr h7 (fun _ _ => trivial), jr h8 (fun _ _ => trivial), fun k hk e => (h1.1 k hk).1 e.symm, fun k hk e => (h1.1 k hk).2 e.symm, fun k hk e => (h7.1 k hk).2 e.symm⟩, hb⟩
theorem z4Y.calls (k n : Nat) (w : World) (wd : Int) (Av : Option Addr) (cv : Nat) (l1 : List S76) (Ai : Option Addr) (ci : Nat) (ins : List S93) (fuel : Int) (As : Option Addr) (ns : Nat) (st : List Int) (Ap_ : Option Addr) (np : Nat) (picks : List Int) (st' : List Int) (c' : VC) (hr1 : Kd.C k76 w Av l1.length l1) (hc1 : l1.length <= cv) (hr2 : Kd.C k93 w Ai ins.length ins) (hc2 : ins.length <= ci)
  (hs : Kd.C (Kd.int .i64) w As st.length st) (hsn : st.length <= ns) (hp : Kd.C (Kd.int .i64) w Ap_ picks.length picks) (hpn : picks.length <= np) (h : Zm.f k st = some st') (hL : yB k wd l1 picks ins n (zC fuel st') = some c') (hA : z50 k wd l1 picks ins n (zC fuel st')) :
  Calls Tryz.prog 16 #[.agg (Vf wd Av l1 cv Ai ins ci), .int .i64 fuel, .agg (Vn As st ns Ap_ picks np)] w fun e w' => ∃ cs, e = .returned (.agg cs) /\ VR w' w.heap.size (fun _ => True) cs c' /\ Below w.heap.size w w' := by
 have huV := Tryz.underlying48
 have huR := Tryz.underlying44
 have huC := Tryz.underlying33
 have huS := Tryz.underlying28
 have huI := Tryz.underlying26
 have huX := Tryz.underlying31
 have huY := Tryz.underlying93
 have HR1 := am hr1
 have HC1 := am hc1
 have HR2 := am hr2
 have HC2 := am hc2
 have HS := am hs
 have HSN := am hsn
 have HP := am hp
 have HPN := am hpn
 have HCP := am h
 have HL := am hL
 have HAL := am hA
 have hil := hr2.2.1
 have BA := am (bal (bal (bal (jc w.heap.size w) (.cells (Vf wd Av l1 cv Ai ins ci) 33)) (.cells (Vn As st ns Ap_ picks np) 28)) (.cells (Vd false) 48))
 have x0 := kal (kal (zI w (.cells (Vf wd Av l1 cv Ai ins ci) 33)) (.cells (Vn As st ns Ap_ picks np) 28)) (.cells (Vd false) 48)
 have x1 := kal (zI (w.alloc (.cells (Vf wd Av l1 cv Ai ins ci) 33)) (.cells (Vn As st ns Ap_ picks np) 28)) (.cells (Vd false) 48)
 have x2 := zI ((w.alloc (.cells (Vf wd Av l1 cv Ai ins ci) 33)).alloc (.cells (Vn As st ns Ap_ picks np) 28)) (.cells (Vd false) 48)
 rw [show (w.alloc (.cells (Vf wd Av l1 cv Ai ins ci) 33)).heap.size = w.heap.size + 1 by simp] at x1
 rw [show ((w.alloc (.cells (Vf wd Av l1 cv Ai ins ci) 33)).alloc (.cells (Vn As st ns Ap_ picks np) 28)).heap.size = w.heap.size + 2 by simp] at x2
 have HSZ := am (show (((w.alloc (.cells (Vf wd Av l1 cv Ai ins ci) 33)).alloc (.cells (Vn As st ns Ap_ picks np) 28)).alloc (.cells (Vd false) 48)).heap.size = w.heap.size + 3 by simp)
 have X0 := am x0
 have X1 := am x1
 have X2 := am x2
 clear hr1 hc1 hr2 hc2 hs hsn hp hpn h hL hA x0 x1 x2
 go_enter Tryz.func16, Tryz.ntmps16
 go_upto_region 1 with (fail)
 generalize ((w.alloc (.cells (Vf wd Av l1 cv Ai ins ci) 33)).alloc (.cells (Vn As st ns Ap_ picks np) 28)).alloc (.cells (Vd false) 48) = W0 at BA X0 X1 X2 HSZ ⊢
 have s0 : W0.cell? ⟨w.heap.size + 1, 0, none⟩ = some (.slice As st.length ns) := (za X1.out 0).trans rfl
 have s1 : W0.cell? ⟨w.heap.size + 1, 1, none⟩ = some (.slice Ap_ picks.length np) := (za X1.out 1).trans rfl
 go_wp2_with (first | (go_at_call 44; refine (z6O.calls k fuel As ns st Ap_ np picks st' W0 (ji HS.out BA.out) HSN.out (ji HP.out BA.out) HPN.out HCP.out).mono ?_; rintro e W1 ⟨cs, rfl, hv, hb⟩; obtain ⟨A1, n1, A2, n2, A3, n3, A7, n7, A8, n8, rfl, hh⟩ := id hv; clear hh; have V1 := am hv; have B1 := am hb; clear hv hb))
 have hlw1 := B1.out.size
 have hsz := HSZ.out
 have X0a := am (kal (zd X0.out B1.out) (.cells (Vr ((zC fuel st').ed) A1 ((zC fuel st').st.length) n1 A2 ((zC fuel st').ou.length) n2 A3 ((zC fuel st').tr.length) n3 ((zC fuel st').co) ((zC fuel st').us) ((zC fuel st').wh) A7 ((zC fuel st').re.length) n7 A8 ((zC fuel st').tl.length) n8 ((zC fuel st').pc) ((zC fuel st').fu) ((zC fuel st').ov)) 48))
 have X1a := am (kal (zd X1.out B1.out) (.cells (Vr ((zC fuel st').ed) A1 ((zC fuel st').st.length) n1 A2 ((zC fuel st').ou.length) n2 A3 ((zC fuel st').tr.length) n3 ((zC fuel st').co) ((zC fuel st').us) ((zC fuel st').wh) A7 ((zC fuel st').re.length) n7 A8 ((zC fuel st').tl.length) n8 ((zC fuel st').pc) ((zC fuel st').fu) ((zC fuel st').ov)) 48))
 have X2a := am (kal (zd X2.out B1.out) (.cells (Vr ((zC fuel st').ed) A1 ((zC fuel st').st.length) n1 A2 ((zC fuel st').ou.length) n2 A3 ((zC fuel st').tr.length) n3 ((zC fuel st').co) ((zC fuel st').us) ((zC fuel st').wh) A7 ((zC fuel st').re.length) n7 A8 ((zC fuel st').tl.length) n8 ((zC fuel st').pc) ((zC fuel st').fu) ((zC fuel st').ov)) 48))
 have X7a := am (zI W1 (.cells (Vr ((zC fuel st').ed) A1 ((zC fuel st').st.length) n1 A2 ((zC fuel st').ou.length) n2 A3 ((zC fuel st').tr.length) n3 ((zC fuel st').co) ((zC fuel st').us) ((zC fuel st').wh) A7 ((zC fuel st').re.length) n7 A8 ((zC fuel st').tl.length) n8 ((zC fuel st').pc) ((zC fuel st').fu) ((zC fuel st').ov)) 48))
 have BB := am (bal (BA.out.trans (B1.out.mono BA.out.size)) (.cells (Vr ((zC fuel st').ed) A1 ((zC fuel st').st.length) n1 A2 ((zC fuel st').ou.length) n2 A3 ((zC fuel st').tr.length) n3 ((zC fuel st').co) ((zC fuel st').us) ((zC fuel st').wh) A7 ((zC fuel st').re.length) n7 A8 ((zC fuel st').tl.length) n8 ((zC fuel st').pc) ((zC fuel st').fu) ((zC fuel st').ov)) 48))
 have VV := am ((((VR.base V1.out).lower (by omega : w.heap.size <= W0.heap.size)).below (bal (jc _ _) (.cells (Vr ((zC fuel st').ed) A1 ((zC fuel st').st.length) n1 A2 ((zC fuel st').ou.length) n2 A3 ((zC fuel st').tr.length) n3 ((zC fuel st').co) ((zC fuel st').us) ((zC fuel st').wh) A7 ((zC fuel st').re.length) n7 A8 ((zC fuel st').tl.length) n8 ((zC fuel st').pc) ((zC fuel st').fu) ((zC fuel st').ov)) 48))).mono (Q' := (fun k => w.heap.size + 3 <= k /\ k ≠ W1.heap.size)) (fun k hk _ => ⟨by have := hk.1; omega, by have := hk.2; omega⟩))
 clear V1 B1 X0 X1 X2 s0 s1
 go_loopg [] n (fun kq X => Aside0 (∃ (c : VC) (cs : Array Value), yB k wd l1 picks ins kq c = some c' /\ z50 k wd l1 picks ins kq c /\ VR X w.heap.size (fun k => w.heap.size + 3 <= k /\ k ≠ W1.heap.size) cs c /\ X.heap[W1.heap.size]? = some (.cells cs 48 (0, 0))) /\ Aside0 (X.heap[w.heap.size]? = some (.cells (Vf wd Av l1 cv Ai ins ci) 33 (0, 0))) /\ Aside0 (X.heap[w.heap.size + 1]? = some (.cells (Vn As st ns Ap_ picks np) 28 (0, 0))) /\ Aside0 (X.heap[w.heap.size + 2]? = some (.cells (Vd false) 48 (0, 0))) /\ Aside0 (Below w.heap.size w X))
 case atStart => exact ⟨⟨_, _, HL.out, HAL.out, VV.out, X7a.out⟩, X0a, X1a, X2a, BB⟩
 case round =>
  clear X0a X1a X2a X7a BB VV HL HAL
  obtain ⟨HC, X0, X1, X2, BB⟩ := hrel
  obtain ⟨c, cs, hl, ha, hv, x7⟩ := HC.out
  obtain ⟨A1, n1, A2, n2, A3, n3, A7, n7, A8, n8, rfl, hh⟩ := id hv
  clear hh HC
  have HL := am hl
  have HA := am ha
  have HV := am hv
  have X7 := am x7
  have hl7 := zM x7
  clear hl ha hv x7
  cases gk with
  | zero => exact jm HL.out (by simp [yB])
  | succ gn =>
   obtain ⟨c0, c1, c2, c3, c4, c5, c6, c7, c8, c9, c10, c11⟩ := z0S X7.out
   by_cases ho : c.ov = true
   ·have hl := HL.out
    rw [yB, jb ho] at hl
    obtain rfl := sj hl
    clear hl
    have z_q := bq X2.out
    have g_q := bq X2.out
    go_wp2
    have hv := HV.out
    rw [ho] at hv
    change bodyPost _ _ _ _ _ (wr.setCells (w.heap.size + 2) 0 (Vg c.ed A1 c.st n1 A2 c.ou n2 A3 c.tr n3 c.co c.us c.wh A7 c.re n7 A8 c.tl n8 c.pc c.fu true))
    have hfill := Za (vs := (Vg c.ed A1 c.st n1 A2 c.ou n2 A3 c.tr n3 c.co c.us c.wh A7 c.re n7 A8 c.tl n8 c.pc c.fu true)) X2.out rfl
    refine bodyPost_ret (results_cell_row rfl _ _ (w.heap.size + 2) 48 (Vc c.ed A1 c.st n1 A2 c.ou n2 A3 c.tr n3 c.co c.us c.wh A7 c.re n7 A8 c.tl n8 c.pc c.fu true) (0, 0) _ rfl hfill huV rfl (by kernel_rfl)) rfl ?_
    exact ⟨_, rfl, (hv.fill (g := w.heap.size + 2) (fun h => by omega) (Vg c.ed A1 c.st n1 A2 c.ou n2 A3 c.tr n3 c.co c.us c.wh A7 c.re n7 A8 c.tl n8 c.pc c.fu true)).mono (fun _ _ _ => trivial), Zb BB.out (by omega)⟩
   ·have ho' : c.ov = false := by simpa using ho
    have hl := HL.out
    rw [yB, ja ho] at hl
    have hv := HV.out
    have x7 := X7.out
    rw [ho'] at hv x7
    clear c0 c1 c2 c3 c4 c5 c6 c7 c8 c9 c10 c11 HV X7
    have HV := am hv
    have X7 := am x7
    have HO := am ho'
    clear hv x7 ho' ho
    obtain ⟨c0, c1, c2, c3, c4, c5, c6, c7, c8, c9, c10, c11⟩ := z0S X7.out
    have z_q := bq X2.out
    by_cases hf : c.fu = 0
    ·rw [jb hf] at hl
     have HH := am (sj hl)
     have hfb : (c.fu == 0) = true := bT hf
     clear hl hf
     go_wp2_with (first | (go_at_call 45; refine (z1w.calls w wr (fun k => (w.heap.size + 3 <= k /\ k ≠ W1.heap.size) /\ k < wr.heap.size) _ c 3 BB.out HV.out.bound (fun k hk => hk.2)).mono ?_; rintro e W2 ⟨cs2, rfl, hv2, hb2, hk2⟩; have X3 := am ((hk2.2 (w.heap.size + 2) (by omega) (fun h => by omega)).trans X2.out); obtain ⟨c2, hc2⟩ : ∃ c2 : VC, c2 = Yf 3 c := ⟨_, rfl⟩; have HV2 := am (show VR W2 w.heap.size (fun k => ((w.heap.size + 3 <= k /\ k ≠ W1.heap.size) /\ k < wr.heap.size) \/ wr.heap.size <= k) cs2 c2 by rw [hc2]; exact hv2); have HC2 := am hc2; obtain ⟨B1_, m1_, B2_, m2_, B3_, m3_, B7_, m7_, B8_, m8_, rfl, hh2⟩ := id HV2.out; clear hh2; have HB2 := am hb2; clear hv2 hb2 hk2 hc2; have z_q := bq X3.out; have g_q := bq X3.out))
     change bodyPost _ _ _ _ _ (W2.setCells (w.heap.size + 2) 0 (Vg c2.ed B1_ c2.st m1_ B2_ c2.ou m2_ B3_ c2.tr m3_ c2.co c2.us c2.wh B7_ c2.re m7_ B8_ c2.tl m8_ c2.pc c2.fu c2.ov))
     have hfill := Za (vs := (Vg c2.ed B1_ c2.st m1_ B2_ c2.ou m2_ B3_ c2.tr m3_ c2.co c2.us c2.wh B7_ c2.re m7_ B8_ c2.tl m8_ c2.pc c2.fu c2.ov)) X3.out rfl
     refine bodyPost_ret (results_cell_row rfl _ _ (w.heap.size + 2) 48 (Vc c2.ed B1_ c2.st m1_ B2_ c2.ou m2_ B3_ c2.tr m3_ c2.co c2.us c2.wh B7_ c2.re m7_ B8_ c2.tl m8_ c2.pc c2.fu c2.ov) (0, 0) _ rfl hfill huV rfl (by kernel_rfl)) rfl ?_
     exact ⟨_, rfl, by rw [<- HH.out, <- HC2.out]; exact (HV2.out.fill (g := w.heap.size + 2) (fun h => by omega) (Vg c2.ed B1_ c2.st m1_ B2_ c2.ou m2_ B3_ c2.tr m3_ c2.co c2.us c2.wh B7_ c2.re m7_ B8_ c2.tl m8_ c2.pc c2.fu c2.ov)).mono (fun _ _ _ => trivial), Zb HB2.out (by omega)⟩
    ·rw [ja hf] at hl
     obtain ⟨cn, hd, hl1⟩ := Option.bind_eq_some_iff.mp hl
     obtain ⟨⟨hpc0, hpc1, hfu0, hfu1, hco0, hco1, htl, hfit⟩, hnext⟩ := HA.out HO.out hf
     have HD := am hd
     have HL1 := am hl1
     have HFIT := am hfit
     have HNX := am hnext
     have hfb : (c.fu == 0) = false := bF hf
     clear hl hd hl1 hfit hnext hf
     have f10 := zf X7.out 10
     have f4 := zf X7.out 4
     have hw1 : IntKind.i64.wrap (c.fu - 1) = c.fu - 1 := by rw [zP]; unfold wrap64; omega
     have hw2 : IntKind.i64.wrap (c.co + 1) = c.co + 1 := by rw [zP]; unfold wrap64; omega
     go_upto_region 7 with (fail)
     have Y7 := am (zJ (zJ X7.out 10 (.int .i64 (c.fu - 1)) (cs' := (Vc c.ed A1 c.st n1 A2 c.ou n2 A3 c.tr n3 c.co c.us c.wh A7 c.re n7 A8 c.tl n8 c.pc (c.fu - 1) false)) rfl) 4 (.int .i64 (c.co + 1)) (cs' := (Vc c.ed A1 c.st n1 A2 c.ou n2 A3 c.tr n3 (c.co + 1) c.us c.wh A7 c.re n7 A8 c.tl n8 c.pc (c.fu - 1) false)) rfl)
     have hfar : ∀ k, k ≠ W1.heap.size -> ((wr.setCell ⟨W1.heap.size, 10, none⟩ (.int .i64 (c.fu - 1))).setCell ⟨W1.heap.size, 4, none⟩ (.int .i64 (c.co + 1))).heap[k]? = wr.heap[k]? := fun k hk => (jl _ _ _ _ hk).trans (jl _ _ _ _ hk)
     have Y0 := am ((hfar w.heap.size (by omega)).trans X0.out)
     have Y1 := am ((hfar (w.heap.size + 1) (by omega)).trans X1.out)
     have Y2 := am ((hfar (w.heap.size + 2) (by omega)).trans X2.out)
     have nq7 : ¬ (w.heap.size + 3 <= W1.heap.size /\ W1.heap.size ≠ W1.heap.size) := fun h => h.2 rfl
     have YV := am ((((HV.out.set (p := ⟨W1.heap.size, 10, none⟩) nq7 (.int .i64 (c.fu - 1))).fu' (c.fu - 1)).set (p := ⟨W1.heap.size, 4, none⟩) nq7 (.int .i64 (c.co + 1))).co' (c.co + 1))
     have YB := am ((BB.out.setCell (p := ⟨W1.heap.size, 10, none⟩) (by show w.heap.size <= W1.heap.size; omega) (.int .i64 (c.fu - 1))).setCell (p := ⟨W1.heap.size, 4, none⟩) (by show w.heap.size <= W1.heap.size; omega) (.int .i64 (c.co + 1)))
     clear hfar nq7 c0 c1 c2 c3 c4 c5 c6 c7 c8 c9 c10 c11 z_q f10 f4 X0 X1 X2 X7 HV BB
     generalize (wr.setCell ⟨W1.heap.size, 10, none⟩ (.int .i64 (c.fu - 1))).setCell ⟨W1.heap.size, 4, none⟩ (.int .i64 (c.co + 1)) = Y at Y0 Y1 Y2 Y7 YV YB ⊢
     obtain ⟨A8', n8', e8, h8, hgt⟩ := YV.out.grow_tl
     obtain ⟨rfl, rfl⟩ : A8 = A8' /\ n8 = n8' := by
      have := sj e8
      injection this with h1 h2 h3
      exact ⟨h1, h3⟩
     have H8 := am h8
     have HGT := am hgt
     clear e8 h8 hgt
     have d9 : Y.cell? ⟨W1.heap.size, 9, none⟩ = some (.int .i64 c.pc) := (za Y7.out 9).trans rfl
     have d8 : Y.cell? ⟨W1.heap.size, 8, none⟩ = some (.slice A8 c.tl.length n8) := (za Y7.out 8).trans rfl
     go_upto_region 8 with (first | ((with_reducible refine Zq (b := .append) (xs := #[.tmp 30, .tmp 33]) rfl ?_); at_builtin; refine Kd.R_append (Kd.int .i64) (w0 := w) w.heap.size rfl (.tmp 30) (.tmp 33) 26 3 (.int .i64 0) 8 rfl huI z7t rfl (by decide) (by omega) (.slice A8 c.tl.length n8) c.tl c.pc [.int .i64 c.pc] (fun k => w.heap.size + 3 <= k /\ k ≠ W1.heap.size) (fun _ => False) rfl rfl ?aP (fun _ hk => hk.elim) ?aF ?aO ?aB ?aS ?aL ?_; (case aP => rfl); (case aF => exact fun k hk => ⟨by have := zM Y7.out; have := zM Y2.out; omega, by have := zM Y7.out; omega⟩); (case aO => exact H8.out); (case aB => exact YB.out); (case aS => exact YB.out.size); (case aL => omega); intro v1 W2 ho2 hb2 hg hat; have V2 := HGT.out W2 v1 _ (fun k => w.heap.size + 3 <= k /\ k ≠ W1.heap.size) (fun k hk => hk) ho2 hg hat; obtain ⟨A', n', ev⟩ := js ho2; have el : (c.tl ++ [c.pc]).length = c.tl.length + 1 := (by simp); rw [el] at ev; subst ev; have V2 := am V2; have B2 := am hb2; have nr : ∀ k, ¬ (w.heap.size + 3 <= k /\ k ≠ W1.heap.size) -> some k ≠ (Value.slice A8 c.tl.length n8).ownBlock := (fun k hk e => hk (H8.out.1 k e.symm)); have Z0 := am (zO Y0.out hg (nr _ (by omega))); have Z1 := am (zO Y1.out hg (nr _ (by omega))); have Z2 := am (zO Y2.out hg (nr _ (by omega))); have Z7 := am (zO Y7.out hg (nr _ (by omega))); clear ho2 hb2 hg hat nr d9 d8; have d8 : W2.cell? ⟨W1.heap.size, 8, none⟩ = some (.slice A8 c.tl.length n8) := (za Z7.out 8).trans rfl; have f8 := zf Z7.out 8))
     have T7 := am (zJ Z7.out 8 (.slice A' (c.tl.length + 1) n') (cs' := #[.int .i64 c.ed, .slice A1 c.st.length n1, .slice A2 c.ou.length n2, .slice A3 c.tr.length n3, .int .i64 (c.co + 1), .int .i64 c.us, .int .i64 c.wh, .slice A7 c.re.length n7, .slice A' (c.tl.length + 1) n', .int .i64 c.pc, .int .i64 (c.fu - 1), .bool false]) rfl)
     have hfar : ∀ k, k ≠ W1.heap.size -> (W2.setCell ⟨W1.heap.size, 8, none⟩ (.slice A' (c.tl.length + 1) n')).heap[k]? = W2.heap[k]? := fun k hk => jl _ _ _ _ hk
     have T0 := am ((hfar w.heap.size (by omega)).trans Z0.out)
     have T1 := am ((hfar (w.heap.size + 1) (by omega)).trans Z1.out)
     have T2 := am ((hfar (w.heap.size + 2) (by omega)).trans Z2.out)
     have nq7 : ¬ (w.heap.size + 3 <= W1.heap.size /\ W1.heap.size ≠ W1.heap.size) := fun h => h.2 rfl
     have TV := am (show VR _ w.heap.size _ #[.int .i64 c.ed, .slice A1 c.st.length n1, .slice A2 c.ou.length n2, .slice A3 c.tr.length n3, .int .i64 (c.co + 1), .int .i64 c.us, .int .i64 c.wh, .slice A7 c.re.length n7, .slice A' (c.tl.length + 1) n', .int .i64 c.pc, .int .i64 (c.fu - 1), .bool false] (zV c) from V2.out.set (p := ⟨W1.heap.size, 8, none⟩) nq7 (.slice A' (c.tl.length + 1) n'))
     have TB := am (B2.out.setCell (p := ⟨W1.heap.size, 8, none⟩) (by show w.heap.size <= W1.heap.size; omega) (.slice A' (c.tl.length + 1) n'))
     clear hfar nq7 d8 f8 Y0 Y1 Y2 Y7 YV YB H8 HGT Z0 Z1 Z2 Z7 V2 B2
     generalize W2.setCell ⟨W1.heap.size, 8, none⟩ (.slice A' (c.tl.length + 1) n') = X at T0 T1 T2 T7 TV TB ⊢
     obtain ⟨ad, rfl, i0, i1, i2, i3, i4⟩ := z5q HR2.out c.pc hpc0 hpc1
     have TBD := am (TB.out.trans ((zj (jc _ _)).mono TB.out.size))
     replace i0 := (TBD.out.cell (jd w _ i0)).trans i0
     replace i1 := (TBD.out.cell (jd w _ i1)).trans i1
     replace i2 := (TBD.out.cell (jd w _ i2)).trans i2
     replace i3 := (TBD.out.cell (jd w _ i3)).trans i3
     replace i4 := (TBD.out.cell (jd w _ i4)).trans i4
     generalize hri : ya ins c.pc = i at i0 i1 i2 i3 i4
     have HRI := am hri
     have I0 := am i0
     have I1 := am i1
     have I2 := am i2
     have I3 := am i3
     have I4 := am i4
     have U0 := am (kdr T0.out)
     have U1 := am (kdr T1.out)
     have U2 := am (kdr T2.out)
     have U7 := am (kdr T7.out)
     have UV := am (TV.out.below (zj (jc _ _)))
     clear hri i0 i1 i2 i3 i4 T0 T1 T2 T7 TV TB
     go_wp2
     refine sT 12 [0, 1, 2, 3, 4, 5, 6, 7, 8, 9, 10, 11] [10, 11] fun hHeld => ?_
     generalize X.drew = Y at U0 U1 U2 U7 UV TBD I0 I1 I2 I3 I4 hHeld ⊢
     have hq0_0 := bq U0.out
     have hq0_1 := bq U1.out
     have hq0_2 := bq U7.out
     have hq0_3 : World.cell? _ (ad.add (c.pc.toNat * 5)) = some (.int .i64 i.f0) := I0.out
     have hq0_4 : World.cell? _ ⟨(ad.add (c.pc.toNat * 5)).block, (ad.add (c.pc.toNat * 5)).off + 1, none⟩ = some (.int .i64 i.f1) := I1.out
     have hq0_5 : World.cell? _ ⟨(ad.add (c.pc.toNat * 5)).block, (ad.add (c.pc.toNat * 5)).off + 2, none⟩ = some (.int .i64 i.f2) := I2.out
     have hq0_6 : World.cell? _ ⟨(ad.add (c.pc.toNat * 5)).block, (ad.add (c.pc.toNat * 5)).off + 3, none⟩ = some (.int .i64 i.f3) := I3.out
     have hq0_7 : World.cell? _ ⟨(ad.add (c.pc.toNat * 5)).block, (ad.add (c.pc.toNat * 5)).off + 4, none⟩ = some (.int .i64 i.f4) := I4.out
     repeat first | refine nx ?_ | refine ldT hHeld ?_ | refine un ?_
     refine la fun K hK => ?_
     refine gC Tryz.func46 ?_
     refine (vm_do.calls k w Y (fun k => (w.heap.size + 3 <= k /\ k ≠ W1.heap.size) /\ k < Y.heap.size) _ (zV c) wd Av cv l1 (some ad) ins.length ci Ap_ np picks i cn TBD.out UV.out.bound (fun k hk => hk.2) HR1.out HC1.out HP.out HPN.out (HRI.out ▸ HFIT.out) (HRI.out ▸ HD.out)).mono ?_
     rintro e Y2 ⟨cs2, rfl, hv2, hb2, hk2⟩
     have hly := zM U7.out
     have hl2 := zM U2.out
     have F0 := am ((hk2.2 w.heap.size (by omega) (fun h => by omega)).trans U0.out)
     have F1 := am ((hk2.2 (w.heap.size + 1) (by omega) (fun h => by omega)).trans U1.out)
     have F2 := am ((hk2.2 (w.heap.size + 2) (by omega) (fun h => by omega)).trans U2.out)
     have F7 := am ((hk2.2 W1.heap.size (by omega) (fun h => h.1.2 rfl)).trans U7.out)
     obtain ⟨B1_, m1_, B2_, m2_, B3_, m3_, B7_, m7_, B8_, m8_, rfl, hh2⟩ := id hv2
     clear hh2
     have HV2 := am hv2
     have HB2 := am hb2
     have hlk := hk2.1
     clear hv2 hk2 U0 U1 U2 U7 UV TBD I0 I1 I2 I3 I4 hHeld
     refine ⟨_, rfl, ?_⟩
     refine hK.out _ _ ?_
     clear hK K
     refine nM ?_
     refine la fun K hK => ?_
     have y_q := bq F7.out
     have g_q := bq F7.out
     refine ZX (w1 := ?_) (by rfl) rfl ?_ ?_
     rotate_left
     ·go_simp
      rfl
     refine hK.out _ _ ?_
     clear hK K
     refine dn ?_
     have hfill := am (Za (vs := (Vg cn.ed B1_ cn.st m1_ B2_ cn.ou m2_ B3_ cn.tr m3_ cn.co cn.us cn.wh B7_ cn.re m7_ B8_ cn.tl m8_ cn.pc cn.fu cn.ov)) F7.out rfl)
     have G0 := am ((Zj (vs := (Vg cn.ed B1_ cn.st m1_ B2_ cn.ou m2_ B3_ cn.tr m3_ cn.co cn.us cn.wh B7_ cn.re m7_ B8_ cn.tl m8_ cn.pc cn.fu cn.ov)) (g := W1.heap.size) (k := w.heap.size) (w := Y2) (by omega)).trans F0.out)
     have G1 := am ((Zj (vs := (Vg cn.ed B1_ cn.st m1_ B2_ cn.ou m2_ B3_ cn.tr m3_ cn.co cn.us cn.wh B7_ cn.re m7_ B8_ cn.tl m8_ cn.pc cn.fu cn.ov)) (g := W1.heap.size) (k := w.heap.size + 1) (w := Y2) (by omega)).trans F1.out)
     have G2 := am ((Zj (vs := (Vg cn.ed B1_ cn.st m1_ B2_ cn.ou m2_ B3_ cn.tr m3_ cn.co cn.us cn.wh B7_ cn.re m7_ B8_ cn.tl m8_ cn.pc cn.fu cn.ov)) (g := W1.heap.size) (k := w.heap.size + 2) (w := Y2) (by omega)).trans F2.out)
     have GV := am ((HV2.out.fill (g := W1.heap.size) (fun h => by rcases h with h | h; exact h.1.2 rfl; omega) (Vg cn.ed B1_ cn.st m1_ B2_ cn.ou m2_ B3_ cn.tr m3_ cn.co cn.us cn.wh B7_ cn.re m7_ B8_ cn.tl m8_ cn.pc cn.fu cn.ov)).mono (Q' := fun k => w.heap.size + 3 <= k /\ k ≠ W1.heap.size) (fun k hk _ => by rcases hk with hk | hk; exact hk.1; exact ⟨by omega, by omega⟩))
     have GB := am (Zb (vs := (Vg cn.ed B1_ cn.st m1_ B2_ cn.ou m2_ B3_ cn.tr m3_ cn.co cn.us cn.wh B7_ cn.re m7_ B8_ cn.tl m8_ cn.pc cn.fu cn.ov)) (g := W1.heap.size) HB2.out (by omega))
     clear F0 F1 F2 F7 HV2 HB2 y_q g_q
     go_wp2
     go_roundg gn
     case measure => omega
     case rel =>
      exact ⟨⟨cn, (Vc cn.ed B1_ cn.st m1_ B2_ cn.ou m2_ B3_ cn.tr m3_ cn.co cn.us cn.wh B7_ cn.re m7_ B8_ cn.tl m8_ cn.pc cn.fu cn.ov), HL1.out, HNX.out _ HD.out, GV.out, hfill.out⟩, G0, G1, G2, GB⟩
end Go.Proofs.YtnlekgadadifdaaGreat.Print
