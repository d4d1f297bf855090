/- For two starts whose runs are Done, the runs of a program have equal events exactly if the runs of the code that comp.Compile makes have, and the code then has equal costs; programs of at most 600 nodes. -/
import Derived.Test.YtnlekgadadifdaaGreatQ3
import Derived.Laws.BitsLemmas
import Derived.Orders
import Derived.OrdersHeld
import Derived.Test.YtnlekgadadifdaaGreatProg
set_option maxRecDepth 100000
set_option maxHeartbeats 16000000
set_option linter.unusedVariables false
set_option linter.unusedSimpArgs false
namespace Go.Proofs.YtnlekgadadifdaaGreat.Print
open Go.RowKit Go.Proofs.YtnlekgadadifdaaGreatW.PrintWords Go.Proofs.YtnlekgadadifdaaGreatW.PrintLast Go.Proofs.YtnlekgadadifdaaGreatW.PrintMore
attribute [local go_sem] zn zl zr zq zh zg zm zk 
def z0K (c : VC) (r : Int) : Bool := decide (0 <= r) && decide (r < (c.re.length : Int))
theorem Zv {c : VC} {r : Int} (h : z0K c r = true) : z01 c r := by
 simpa [z0K, z01] using h
def z68 (k : Nat) (l1 : List S76) (v s : Int) (c : VC) : Bool :=
 match zW.f k l1 v with
 | some fst => decide (0 <= v) && decide (v < (l1.length : Int)) && (decide ((zp l1 v.toNat).f2 < 2) || z0K c s) && decide (0 <= fst + yt l1 c.re v.toNat s) && decide (fst + yt l1 c.re v.toNat s < (c.st.length : Int))
 | none => false
theorem z3c {k : Nat} {l1 : List S76} {v s : Int} {c : VC} (h : z68 k l1 v s c = true) : ∀ fst, zW.f k l1 v = some fst -> z4i l1 fst v s c := by
 intro fst e
 unfold z68 at h
 rw [e] at h
 simp only [jg, Bool.or_eq_true, decide_eq_true_eq] at h
 obtain ⟨⟨⟨⟨h1, h2⟩, h3⟩, h4⟩, h5⟩ := h
 exact ⟨h1, h2, fun hn => Zv (h3.resolve_left hn), h4, h5⟩
def z6Q (k : Nat) (l1 : List S76) (c : VC) (i : S93) : Bool :=
 (decide (0 <= c.pc) && decide (c.pc < 1000000000) && decide (c.tr.length < 1000000000) && decide (c.ou.length < 1000000000) && decide (0 <= c.us) && decide (c.us < 1000000000)) &&
 (!decide (i.f0 = 0) || z0K c i.f1) && (!decide (i.f0 = 1) || (z0K c i.f1 && z0K c i.f3 && (decide (i.f2 = 12) || z0K c i.f4))) && (!decide (i.f0 = 2) || (z0K c i.f1 && z0K c i.f2 && z0K c i.f3 && z0K c i.f4)) &&
 (!decide (i.f0 = 3) || (z0K c i.f1 && z68 k l1 i.f2 i.f3 c)) && (!decide (i.f0 = 4) || (z0K c i.f3 && z68 k l1 i.f1 i.f2 c)) &&
 (!decide (i.f0 = 6) || z0K c i.f1) && (!decide (i.f0 = 7) || z0K c i.f2) && (!decide (i.f0 = 8) || z0K c i.f1) && (!decide (i.f0 = 9) || z0K c i.f1) && (!decide (i.f0 = 10) || z0K c i.f1)
theorem z4Z {k : Nat} {l1 : List S76} {c : VC} {i : S93} (h : z6Q k l1 c i = true) : vFit k l1 c i := by
 unfold z6Q at h
 simp only [jg, Bool.or_eq_true, Bool.not_eq_true', decide_eq_true_eq, decide_eq_false_iff_not] at h
 obtain ⟨⟨⟨⟨⟨⟨⟨⟨⟨⟨⟨⟨⟨⟨⟨a1, a2⟩, a3⟩, a4⟩, a5⟩, a6⟩, h0⟩, h1⟩, h2⟩, h3⟩, h4⟩, h6⟩, h7⟩, h8⟩, h9⟩, h10⟩ := h
 refine ⟨⟨a1, a2, a3, a4, a5, a6⟩, fun e => Zv (h0.resolve_left (fun n => n e)), fun e => ?_, fun e => ?_, fun e => ?_, fun e => ?_, fun e => Zv (h6.resolve_left (fun n => n e)), fun e => Zv (h7.resolve_left (fun n => n e)), fun e => Zv (h8.resolve_left (fun n => n e)), fun e => Zv (h9.resolve_left (fun n => n e)), fun e => Zv (h10.resolve_left (fun n => n e))⟩
 ·obtain ⟨⟨q1, q2⟩, q3⟩ := h1.resolve_left (fun n => n e)
  exact ⟨Zv q1, Zv q2, fun hn => Zv (q3.resolve_left hn)⟩
 ·obtain ⟨⟨⟨q1, q2⟩, q3⟩, q4⟩ := h2.resolve_left (fun n => n e)
  exact ⟨Zv q1, Zv q2, Zv q3, Zv q4⟩
 ·obtain ⟨q1, q2⟩ := h3.resolve_left (fun n => n e)
  exact ⟨Zv q1, z3c q2⟩
 ·obtain ⟨q1, q2⟩ := h4.resolve_left (fun n => n e)
  exact ⟨Zv q1, z3c q2⟩
def z5z (k : Nat) (wd : Int) (l1 : List S76) (picks : List Int) (ins : List S93) : Nat -> VC -> Bool
 | 0, _ => true
 | n + 1, c => c.ov || decide (c.fu = 0) || (decide (0 <= c.pc) && decide (c.pc < (ins.length : Int)) && decide (0 < c.fu) && decide (c.fu < 1000000000) && decide (0 <= c.co) && decide (c.co < 1000000000) && decide (c.tl.length < 1000000000) && z6Q k l1 (zV c) (ya ins c.pc) &&
   (match vDo k wd l1 picks (zV c) (ya ins c.pc) with | some c' => z5z k wd l1 picks ins n c' | none => true))
theorem z2H {k : Nat} {wd : Int} {l1 : List S76} {picks : List Int} {ins : List S93} : ∀ (n : Nat) (c : VC), z5z k wd l1 picks ins n c = true -> z50 k wd l1 picks ins n c
 | 0, _, _ => trivial
 | n + 1, c, h => by
  intro ho hf
  rw [z5z, ho, decide_eq_false hf, Bool.false_or, Bool.false_or] at h
  simp only [jg, decide_eq_true_eq] at h
  obtain ⟨⟨⟨⟨⟨⟨⟨⟨b1, b2⟩, b3⟩, b4⟩, b5⟩, b6⟩, b7⟩, b8⟩, b9⟩ := h
  refine ⟨⟨b1, b2, b3, b4, b5, b6, b7, z4Z b8⟩, fun c' hd => ?_⟩
  rw [hd] at b9
  exact z2H n c' b9
def yb.f (a0 : Int) : Option (Bool) := if a0 >= 0 then (some (decide (a0 < 64))) else (some false)
theorem yb.calls (a0 : Int) (r : Bool) (w : World) (h : yb.f a0 = some r) :
  Calls Tryz.prog 81 #[.int .i64 a0] w fun e w' => e = .returned (.bool r) /\ zT w w' := by
 have H := h
 clear h
 obtain ⟨c2b0, H⟩ | ⟨c2b0, H⟩ := iE H
 ·obtain rfl := sj H
  go_enter Tryz.func81, Tryz.ntmps81
  go_wp2
  go_ret
  exact ⟨rs, dr⟩
 obtain rfl := sj H
 go_enter Tryz.func81, Tryz.ntmps81
 go_wp2
 go_ret
 exact ⟨rs, dr⟩
def z0k.f (a0_0 : Int) (l0_1 : List (S76)) (l0_2 : List (S93)) (a1 : Int) : Option (Bool) := if a1 >= 0 then (some (decide (a1 < (l0_2.length : Int)))) else (some false)
theorem z0k.calls (a0_0 : Int) (A0_1 : Option Addr) (c0_1 : Nat) (l0_1 : List (S76)) (A0_2 : Option Addr) (c0_2 : Nat) (l0_2 : List (S93)) (a1 : Int) (r : Bool) (w : World) (hr0_1 : Kd.C k76 w A0_1 l0_1.length l0_1) (hc0_1 : l0_1.length <= c0_1) (hr0_2 : Kd.C k93 w A0_2 l0_2.length l0_2) (hc0_2 : l0_2.length <= c0_2) (h : z0k.f a0_0 l0_1 l0_2 a1 = some r) :
  Calls Tryz.prog 85 #[.agg (Vf a0_0 A0_1 l0_1 c0_1 A0_2 l0_2 c0_2), .int .i64 a1] w fun e w' => e = .returned (.bool r) /\ Below w.heap.size w w' := by
 have hu33 := Tryz.underlying33
 have HR0_1 := am hr0_1
 have HC0_1 := am hc0_1
 clear hr0_1 hc0_1
 have HR0_2 := am hr0_2
 have HC0_2 := am hc0_2
 clear hr0_2 hc0_2
 have HB := am (jc w.heap.size w)
 have H := h
 clear h
 obtain ⟨c3b0, H⟩ | ⟨c3b0, H⟩ := ei H
 ·obtain rfl := sj H
  go_enter Tryz.func85, Tryz.ntmps85
  go_wp2_with (first | ((with_reducible refine zw (N := 2) rfl ?_); (try (refine zB (by rfl) ?_; dsimp only)); refine bx 2 rfl rfl (Vf a0_0 A0_1 l0_1 c0_1 A0_2 l0_2 c0_2) 33 ?_; intro gb796 hg w6 hbox hb; have BK796 := am (hbox); have GE796 := ge HB hg; replace HB := sb HB hb; clear hb hbox hg))
  go_ret
  exact ⟨rr, bb HB⟩
 obtain rfl := sj H
 go_enter Tryz.func85, Tryz.ntmps85
 go_wp2_with (first | ((with_reducible refine zw (N := 2) rfl ?_); (try (refine zB (by rfl) ?_; dsimp only)); refine bx 2 rfl rfl (Vf a0_0 A0_1 l0_1 c0_1 A0_2 l0_2 c0_2) 33 ?_; intro gb796 hg w4 hbox hb; have BK796 := am (hbox); have GE796 := ge HB hg; replace HB := sb HB hb; clear hb hbox hg; have hz5 := cf3 BK796.out))
 go_ret
 exact ⟨rr, bb HB⟩
def Yr.j0 : Nat -> Int -> Int -> Bool -> Int -> List (S76) -> List (S93) -> Option (Bool)
 | 0, _, _, _, _, _, _ => none
 | k + 1, x1, x2, x15, x794000, x794001, x794002 => if x15 = true then (some false) else (if 0 <= x1 then (if x1 < (x794001.length : Int) then (if ((zp x794001 x1).f2) > 1 then ((yb.f x2).bind fun t795 => (some t795)) else (some (x2 == 0))) else (none)) else (none))
def Yr.f (k : Nat) (a0_0 : Int) (l0_1 : List (S76)) (l0_2 : List (S93)) (a1 : Int) (a2 : Int) : Option (Bool) := if a1 < 0 then (Yr.j0 k a1 a2 true a0_0 l0_1 l0_2) else (Yr.j0 k a1 a2 (decide (a1 >= (l0_1.length : Int))) a0_0 l0_1 l0_2)
theorem Yr.calls (k : Nat) (a0_0 : Int) (A0_1 : Option Addr) (c0_1 : Nat) (l0_1 : List (S76)) (A0_2 : Option Addr) (c0_2 : Nat) (l0_2 : List (S93)) (a1 : Int) (a2 : Int) (r : Bool) (w : World) (hr0_1 : Kd.C k76 w A0_1 l0_1.length l0_1) (hc0_1 : l0_1.length <= c0_1) (hr0_2 : Kd.C k93 w A0_2 l0_2.length l0_2) (hc0_2 : l0_2.length <= c0_2) (h : Yr.f k a0_0 l0_1 l0_2 a1 a2 = some r) :
  Calls Tryz.prog 84 #[.agg (Vf a0_0 A0_1 l0_1 c0_1 A0_2 l0_2 c0_2), .int .i64 a1, .int .i64 a2] w fun e w' => e = .returned (.bool r) /\ Below w.heap.size w w' := by
 have hu33 := Tryz.underlying33
 have HR0_1 := am hr0_1
 have HC0_1 := am hc0_1
 clear hr0_1 hc0_1
 have HR0_2 := am hr0_2
 have HC0_2 := am hc0_2
 clear hr0_2 hc0_2
 have HB := am (jc w.heap.size w)
 have H := h
 clear h
 have HC4 := am H
 clear H
 go_enter Tryz.func84, Tryz.ntmps84
 go_upto_region 1 with (first | ((with_reducible refine zw (N := 3) rfl ?_); (try (refine zB (by rfl) ?_; dsimp only)); refine bx 3 rfl rfl (Vf a0_0 A0_1 l0_1 c0_1 A0_2 l0_2 c0_2) 33 ?_; intro gb793 hg w5 hbox hb; have BK793 := am (hbox); have GE793 := ge HB hg; replace HB := sb HB hb; clear hb hbox hg))
 (try simp only [Act.put, List.setIfInBounds_toArray, List.set_cons_zero, List.set_cons_succ])
 go_cut [15] (fun v15 wc => ∃ (kq : Nat) (x15_3 : Bool), v15 = .bool x15_3 /\ Aside0 (Yr.j0 kq a1 a2 x15_3 a0_0 l0_1 l0_2 = some r) /\ Aside0 (kq <= k) /\ Aside0 (wc.heap[gb793]? = some (.cells #[.int .i64 a0_0, (.slice A0_1 l0_1.length c0_1), (.slice A0_2 l0_2.length c0_2)] 33 (0, 0))) /\ Aside0 (Below w.heap.size w wc))
 case first =>
  have H := HC4.out
  clear HC4
  obtain ⟨c6b0, H⟩ | ⟨c6b0, H⟩ := iE H
  ·(first | rw [c6b0] | (simp only [zP, Zr]; rw [c6b0]) | skip)
   have H' := am H
   clear H
   go_wp2
   go_meet
   case rel => exact ⟨_, (true), rs, H', ⟨by first | omega | exact jk _⟩, ⟨kk BK793⟩, ⟨bb HB⟩⟩
  (first | rw [c6b0] | (simp only [zP, Zr]; rw [c6b0]) | skip)
  have H' := am H
  clear H
  have hz7 := cf3 BK793.out
  go_wp2
  go_meet
  case rel => exact ⟨_, (decide (a1 >= (l0_1.length : Int))), rs, H', ⟨by first | omega | exact jk _⟩, ⟨kk BK793⟩, ⟨bb HB⟩⟩
 case rest =>
  clear HC4
  obtain ⟨kq, x15_3, rfl, HA, HJ3, BK793, HB⟩ := hcut
  cases kq with
  | zero => exact jm HA.out (by simp [Yr.j0])
  | succ kj3 =>
   have H := HA.out
   clear HA
   simp only [Yr.j0] at H
   replace H := bo H
   obtain ⟨rfl, H⟩ | ⟨rfl, H⟩ := H
   ·obtain rfl := sj H
    go_wp2
    go_ret
    exact ⟨rr, bb HB⟩
   obtain ⟨c9b0, H⟩ := pd H
   obtain ⟨c10b0, H⟩ := pd H
   obtain ⟨c11b0, H⟩ | ⟨c11b0, H⟩ := ei H
   ·obtain rfl := sj H
    have hz14 := cf3 BK793.out
    have p794 : 0 <= (a1 : Int) := od
    have q794 : a1 < (l0_1.length : Int) := od
    obtain ⟨ad794, e794, hx794_0, hx794_1, hx794_2⟩ := Zs HR0_1.out a1 p794 q794
    cases e794
    replace hx794_0 := zo HB.out hx794_0
    replace hx794_1 := zo HB.out hx794_1
    replace hx794_2 := zo HB.out hx794_2
    replace p794 := eT p794
    replace q794 := eT q794
    go_wp2
    go_ret
    exact ⟨rr, bb HB⟩
   obtain ⟨t795, A12, H⟩ := be H
   obtain rfl := sj H
   have hz13 := cf3 BK793.out
   have p794 : 0 <= (a1 : Int) := od
   have q794 : a1 < (l0_1.length : Int) := od
   obtain ⟨ad794, e794, hx794_0, hx794_1, hx794_2⟩ := Zs HR0_1.out a1 p794 q794
   cases e794
   replace hx794_0 := zo HB.out hx794_0
   replace hx794_1 := zo HB.out hx794_1
   replace hx794_2 := zo HB.out hx794_2
   replace p794 := eT p794
   replace q794 := eT q794
   go_wp2_with (first | ((with_reducible refine zz (f := 81) rfl ?_); refine gL (some 24) rfl rfl Tryz.func81 #[.int .i64 a2] rfl ?_; (with_reducible refine (yb.calls a2 t795 _ A12.out).mono ?_); rintro e w' ⟨rfl, ⟨nd, rfl⟩⟩; refine ⟨_, rfl, ?_⟩))
   go_ret
   exact ⟨rr, bb HB⟩
theorem Z8 {w w' : World} (h : zT w w') : Below w.heap.size w w' := by
 obtain ⟨n, rfl⟩ := h
 exact bdN (jc _ _) n
def Yi (r : Int) : Prop := 0 <= r /\ r < 64
def z0A (k : Nat) (wd : Int) (l1 : List S76) (ins : List S93) (i : S93) : Prop :=
 (i.f0 = 0 /\ Yi i.f1 /\ yJ.f k wd i.f2 = some true /\ i.f3 = 0 /\ i.f4 = 0) \/
 (i.f0 = 1 /\ Yi i.f1 /\ Yi i.f3 /\ YD.f i.f2 = some true /\ Yi i.f4) \/
 (i.f0 = 1 /\ Yi i.f1 /\ Yi i.f3 /\ i.f2 = 12 /\ i.f4 = 0) \/
 (i.f0 = 2 /\ Yi i.f1 /\ Yi i.f2 /\ Yi i.f3 /\ Yi i.f4) \/
 (i.f0 = 3 /\ Yi i.f1 /\ Yr.f k wd l1 ins i.f2 i.f3 = some true /\ i.f4 = 0) \/
 (i.f0 = 4 /\ Yr.f k wd l1 ins i.f1 i.f2 = some true /\ Yi i.f3 /\ i.f4 = 0) \/
 (i.f0 = 5 /\ 0 <= i.f1 /\ i.f1 < ins.length /\ i.f2 = 0 /\ i.f3 = 0 /\ i.f4 = 0) \/
 (i.f0 = 6 /\ Yi i.f1 /\ 0 <= i.f2 /\ i.f2 < ins.length /\ i.f3 = 0 /\ i.f4 = 0) \/
 (i.f0 = 7 /\ 0 <= i.f1 /\ i.f1 <= 47 /\ Yi i.f2 /\ i.f3 = 0 /\ i.f4 = 0) \/
 ((i.f0 = 8 \/ i.f0 = 9 \/ i.f0 = 10) /\ Yi i.f1 /\ i.f2 = 0 /\ i.f3 = 0 /\ i.f4 = 0) \/
 i = ⟨11, 0, 0, 0, 0⟩
theorem ZH {r : Int} (h : Yi r) : yb.f r = some true := by
 unfold yb.f
 rw [jb h.1, decide_eq_true h.2]
theorem z5o.calls (k : Nat) (wd : Int) (Av : Option Addr) (cv : Nat) (l1 : List S76) (Ai : Option Addr) (ci : Nat) (ins : List S93) (i : S93) (w : World) (hr1 : Kd.C k76 w Av l1.length l1) (hc1 : l1.length <= cv) (hr2 : Kd.C k93 w Ai ins.length ins) (hc2 : ins.length <= ci) (h : z0A k wd l1 ins i) :
  Calls Tryz.prog 47 #[.agg (Vf wd Av l1 cv Ai ins ci), .agg (Vl i.f0 i.f1 i.f2 i.f3 i.f4)] w fun e w' => e = .returned (.bool true) /\ Below w.heap.size w w' := by
 have huC := Tryz.underlying33
 have huI := Tryz.underlying93
 obtain ⟨op, a, b, c, d⟩ := i
 have HR1 := am hr1
 have HC1 := am hc1
 have HR2 := am hr2
 have HC2 := am hc2
 unfold z0A at h
 dsimp only at h ⊢
 have BA := am (bal (bal (jc w.heap.size w) (.cells (Vf wd Av l1 cv Ai ins ci) 33)) (.cells (Vl op a b c d) 93))
 have x0 := kal (zI w (.cells (Vf wd Av l1 cv Ai ins ci) 33)) (.cells (Vl op a b c d) 93)
 have x1 := zI (w.alloc (.cells (Vf wd Av l1 cv Ai ins ci) 33)) (.cells (Vl op a b c d) 93)
 rw [show (w.alloc (.cells (Vf wd Av l1 cv Ai ins ci) 33)).heap.size = w.heap.size + 1 by simp] at x1
 have X0 := am x0
 have X1 := am x1
 clear hr1 hc1 hr2 hc2 x0 x1
 go_enter Tryz.func47, Tryz.ntmps47
 go_upto_region 1 with (fail)
 generalize (w.alloc (.cells (Vf wd Av l1 cv Ai ins ci) 33)).alloc (.cells (Vl op a b c d) 93) = W at BA X0 X1 ⊢
 have st : ∀ Y, Below W.heap.size W Y -> (Y.cell? ⟨w.heap.size, 0, none⟩ = some (.int .i64 wd) /\ Y.cell? ⟨w.heap.size, 1, none⟩ = some (.slice Av l1.length cv) /\ Y.cell? ⟨w.heap.size, 2, none⟩ = some (.slice Ai ins.length ci)) /\ (Y.cell? ⟨w.heap.size + 1, 0, none⟩ = some (.int .i64 op) /\ Y.cell? ⟨w.heap.size + 1, 1, none⟩ = some (.int .i64 a) /\ Y.cell? ⟨w.heap.size + 1, 2, none⟩ = some (.int .i64 b) /\ Y.cell? ⟨w.heap.size + 1, 3, none⟩ = some (.int .i64 c) /\ Y.cell? ⟨w.heap.size + 1, 4, none⟩ = some (.int .i64 d)) := fun Y hY => ⟨⟨(za (zd X0.out hY) 0).trans rfl, (za (zd X0.out hY) 1).trans rfl, (za (zd X0.out hY) 2).trans rfl⟩, ⟨(za (zd X1.out hY) 0).trans rfl, (za (zd X1.out hY) 1).trans rfl, (za (zd X1.out hY) 2).trans rfl, (za (zd X1.out hY) 3).trans rfl, (za (zd X1.out hY) 4).trans rfl⟩⟩
 have ST := am st
 obtain ⟨⟨p0, p1, p2⟩, i0, i1, i2, i3, i4⟩ := st W (jc _ _)
 clear st
 rcases h with h | h | h | h | h | h | h | h | h | h | h
 ·obtain ⟨rfl, h1, h2, rfl, rfl⟩ := h
  have BW := am (jc W.heap.size W)
  go_wp2_with (first | (go_at_call 81; (with_reducible refine (yb.calls a true W (ZH h1)).mono ?_); rintro e Y0 ⟨rfl, hb_⟩; have BY0 := am (BW.out.trans ((Z8 hb_).mono BW.out.size)); obtain ⟨⟨p0, p1, p2⟩, i0, i1, i2, i3, i4⟩ := ST.out _ BY0.out; clear hb_))
  go_wp2_with (first | (go_at_call 82; (with_reducible refine (yJ.calls k wd b true Y0 h2).mono ?_); rintro e Y1 ⟨rfl, hb_⟩; have BY1 := am (BY0.out.trans ((Z8 hb_).mono BY0.out.size)); obtain ⟨⟨p0, p1, p2⟩, i0, i1, i2, i3, i4⟩ := ST.out _ BY1.out; clear hb_))
  go_ret
  exact ⟨rfl, BA.out.trans (BY1.out.mono BA.out.size)⟩
 ·obtain ⟨rfl, h1, h3, h2, h4⟩ := h
  have BW := am (jc W.heap.size W)
  go_wp2_with (first | (go_at_call 81; (with_reducible refine (yb.calls a true W (ZH h1)).mono ?_); rintro e Y0 ⟨rfl, hb_⟩; have BY0 := am (BW.out.trans ((Z8 hb_).mono BW.out.size)); obtain ⟨⟨p0, p1, p2⟩, i0, i1, i2, i3, i4⟩ := ST.out _ BY0.out; clear hb_))
  go_wp2_with (first | (go_at_call 81; (with_reducible refine (yb.calls c true Y0 (ZH h3)).mono ?_); rintro e Y1 ⟨rfl, hb_⟩; have BY1 := am (BY0.out.trans ((Z8 hb_).mono BY0.out.size)); obtain ⟨⟨p0, p1, p2⟩, i0, i1, i2, i3, i4⟩ := ST.out _ BY1.out; clear hb_))
  go_wp2_with (first | (go_at_call 83; (with_reducible refine (YD.calls b true Y1 h2).mono ?_); rintro e Y2 ⟨rfl, hb_⟩; have BY2 := am (BY1.out.trans ((Z8 hb_).mono BY1.out.size)); obtain ⟨⟨p0, p1, p2⟩, i0, i1, i2, i3, i4⟩ := ST.out _ BY2.out; clear hb_))
  go_wp2_with (first | (go_at_call 81; (with_reducible refine (yb.calls d true Y2 (ZH h4)).mono ?_); rintro e Y3 ⟨rfl, hb_⟩; have BY3 := am (BY2.out.trans ((Z8 hb_).mono BY2.out.size)); obtain ⟨⟨p0, p1, p2⟩, i0, i1, i2, i3, i4⟩ := ST.out _ BY3.out; clear hb_))
  go_ret
  exact ⟨rfl, BA.out.trans (BY3.out.mono BA.out.size)⟩
 ·obtain ⟨rfl, h1, h3, rfl, rfl⟩ := h
  have BW := am (jc W.heap.size W)
  go_wp2_with (first | (go_at_call 81; (with_reducible refine (yb.calls a true W (ZH h1)).mono ?_); rintro e Y0 ⟨rfl, hb_⟩; have BY0 := am (BW.out.trans ((Z8 hb_).mono BW.out.size)); obtain ⟨⟨p0, p1, p2⟩, i0, i1, i2, i3, i4⟩ := ST.out _ BY0.out; clear hb_))
  go_wp2_with (first | (go_at_call 81; (with_reducible refine (yb.calls c true Y0 (ZH h3)).mono ?_); rintro e Y1 ⟨rfl, hb_⟩; have BY1 := am (BY0.out.trans ((Z8 hb_).mono BY0.out.size)); obtain ⟨⟨p0, p1, p2⟩, i0, i1, i2, i3, i4⟩ := ST.out _ BY1.out; clear hb_))
  go_wp2_with (first | (go_at_call 83; (with_reducible refine (YD.calls 12 false Y1 (by decide)).mono ?_); rintro e Y2 ⟨rfl, hb_⟩; have BY2 := am (BY1.out.trans ((Z8 hb_).mono BY1.out.size)); obtain ⟨⟨p0, p1, p2⟩, i0, i1, i2, i3, i4⟩ := ST.out _ BY2.out; clear hb_))
  go_ret
  exact ⟨rfl, BA.out.trans (BY2.out.mono BA.out.size)⟩
 ·obtain ⟨rfl, h1, h2, h3, h4⟩ := h
  have BW := am (jc W.heap.size W)
  go_wp2_with (first | (go_at_call 81; (with_reducible refine (yb.calls a true W (ZH h1)).mono ?_); rintro e Y0 ⟨rfl, hb_⟩; have BY0 := am (BW.out.trans ((Z8 hb_).mono BW.out.size)); obtain ⟨⟨p0, p1, p2⟩, i0, i1, i2, i3, i4⟩ := ST.out _ BY0.out; clear hb_))
  go_wp2_with (first | (go_at_call 81; (with_reducible refine (yb.calls b true Y0 (ZH h2)).mono ?_); rintro e Y1 ⟨rfl, hb_⟩; have BY1 := am (BY0.out.trans ((Z8 hb_).mono BY0.out.size)); obtain ⟨⟨p0, p1, p2⟩, i0, i1, i2, i3, i4⟩ := ST.out _ BY1.out; clear hb_))
  go_wp2_with (first | (go_at_call 81; (with_reducible refine (yb.calls c true Y1 (ZH h3)).mono ?_); rintro e Y2 ⟨rfl, hb_⟩; have BY2 := am (BY1.out.trans ((Z8 hb_).mono BY1.out.size)); obtain ⟨⟨p0, p1, p2⟩, i0, i1, i2, i3, i4⟩ := ST.out _ BY2.out; clear hb_))
  go_wp2_with (first | (go_at_call 81; (with_reducible refine (yb.calls d true Y2 (ZH h4)).mono ?_); rintro e Y3 ⟨rfl, hb_⟩; have BY3 := am (BY2.out.trans ((Z8 hb_).mono BY2.out.size)); obtain ⟨⟨p0, p1, p2⟩, i0, i1, i2, i3, i4⟩ := ST.out _ BY3.out; clear hb_))
  go_ret
  exact ⟨rfl, BA.out.trans (BY3.out.mono BA.out.size)⟩
 ·obtain ⟨rfl, h1, h2, rfl⟩ := h
  have BW := am (jc W.heap.size W)
  go_wp2_with (first | (go_at_call 81; (with_reducible refine (yb.calls a true W (ZH h1)).mono ?_); rintro e Y0 ⟨rfl, hb_⟩; have BY0 := am (BW.out.trans ((Z8 hb_).mono BW.out.size)); obtain ⟨⟨p0, p1, p2⟩, i0, i1, i2, i3, i4⟩ := ST.out _ BY0.out; clear hb_))
  go_wp2_with (first | (go_at_call 84; (with_reducible refine (Yr.calls k wd Av cv l1 Ai ci ins b c true Y0 (ji HR1.out (BA.out.trans (BY0.out.mono BA.out.size))) HC1.out (ji HR2.out (BA.out.trans (BY0.out.mono BA.out.size))) HC2.out h2).mono ?_); rintro e Y1 ⟨rfl, hb_⟩; have BY1 := am (BY0.out.trans ((hb_).mono BY0.out.size)); obtain ⟨⟨p0, p1, p2⟩, i0, i1, i2, i3, i4⟩ := ST.out _ BY1.out; clear hb_))
  go_ret
  exact ⟨rfl, BA.out.trans (BY1.out.mono BA.out.size)⟩
 ·obtain ⟨rfl, h2, h3, rfl⟩ := h
  have BW := am (jc W.heap.size W)
  go_wp2_with (first | (go_at_call 84; (with_reducible refine (Yr.calls k wd Av cv l1 Ai ci ins a b true W (ji HR1.out (BA.out.trans (BW.out.mono BA.out.size))) HC1.out (ji HR2.out (BA.out.trans (BW.out.mono BA.out.size))) HC2.out h2).mono ?_); rintro e Y0 ⟨rfl, hb_⟩; have BY0 := am (BW.out.trans ((hb_).mono BW.out.size)); obtain ⟨⟨p0, p1, p2⟩, i0, i1, i2, i3, i4⟩ := ST.out _ BY0.out; clear hb_))
  go_wp2_with (first | (go_at_call 81; (with_reducible refine (yb.calls c true Y0 (ZH h3)).mono ?_); rintro e Y1 ⟨rfl, hb_⟩; have BY1 := am (BY0.out.trans ((Z8 hb_).mono BY0.out.size)); obtain ⟨⟨p0, p1, p2⟩, i0, i1, i2, i3, i4⟩ := ST.out _ BY1.out; clear hb_))
  go_ret
  exact ⟨rfl, BA.out.trans (BY1.out.mono BA.out.size)⟩
 ·obtain ⟨rfl, h1, h2, rfl, rfl, rfl⟩ := h
  have BW := am (jc W.heap.size W)
  go_wp2_with (first | (go_at_call 85; (with_reducible refine (z0k.calls wd Av cv l1 Ai ci ins a true W (ji HR1.out (BA.out.trans (BW.out.mono BA.out.size))) HC1.out (ji HR2.out (BA.out.trans (BW.out.mono BA.out.size))) HC2.out (by unfold z0k.f; rw [jb h1, decide_eq_true h2])).mono ?_); rintro e Y0 ⟨rfl, hb_⟩; have BY0 := am (BW.out.trans ((hb_).mono BW.out.size)); obtain ⟨⟨p0, p1, p2⟩, i0, i1, i2, i3, i4⟩ := ST.out _ BY0.out; clear hb_))
  go_ret
  exact ⟨rfl, BA.out.trans (BY0.out.mono BA.out.size)⟩
 ·obtain ⟨rfl, h1, h2, h3, rfl, rfl⟩ := h
  have BW := am (jc W.heap.size W)
  go_wp2_with (first | (go_at_call 81; (with_reducible refine (yb.calls a true W (ZH h1)).mono ?_); rintro e Y0 ⟨rfl, hb_⟩; have BY0 := am (BW.out.trans ((Z8 hb_).mono BW.out.size)); obtain ⟨⟨p0, p1, p2⟩, i0, i1, i2, i3, i4⟩ := ST.out _ BY0.out; clear hb_))
  go_wp2_with (first | (go_at_call 85; (with_reducible refine (z0k.calls wd Av cv l1 Ai ci ins b true Y0 (ji HR1.out (BA.out.trans (BY0.out.mono BA.out.size))) HC1.out (ji HR2.out (BA.out.trans (BY0.out.mono BA.out.size))) HC2.out (by unfold z0k.f; rw [jb h2, decide_eq_true h3])).mono ?_); rintro e Y1 ⟨rfl, hb_⟩; have BY1 := am (BY0.out.trans ((hb_).mono BY0.out.size)); obtain ⟨⟨p0, p1, p2⟩, i0, i1, i2, i3, i4⟩ := ST.out _ BY1.out; clear hb_))
  go_ret
  exact ⟨rfl, BA.out.trans (BY1.out.mono BA.out.size)⟩
 ·obtain ⟨rfl, h1, h2, h3, rfl, rfl⟩ := h
  have d1 : decide (0 <= a) = true := dT h1
  have d2 : decide (a <= 47) = true := dT h2
  have BW := am (jc W.heap.size W)
  go_wp2_with (first | (go_at_call 81; (with_reducible refine (yb.calls b true W (ZH h3)).mono ?_); rintro e Y0 ⟨rfl, hb_⟩; have BY0 := am (BW.out.trans ((Z8 hb_).mono BW.out.size)); obtain ⟨⟨p0, p1, p2⟩, i0, i1, i2, i3, i4⟩ := ST.out _ BY0.out; clear hb_))
  go_ret
  exact ⟨rfl, BA.out.trans (BY0.out.mono BA.out.size)⟩
 ·obtain ⟨h0, h1, rfl, rfl, rfl⟩ := h
  rcases h0 with rfl | rfl | rfl
  all_goals
   have BW := am (jc W.heap.size W)
   go_wp2_with (first | (go_at_call 81; (with_reducible refine (yb.calls a true W (ZH h1)).mono ?_); rintro e Y0 ⟨rfl, hb_⟩; have BY0 := am (BW.out.trans ((Z8 hb_).mono BW.out.size)); obtain ⟨⟨p0, p1, p2⟩, i0, i1, i2, i3, i4⟩ := ST.out _ BY0.out; clear hb_))
   go_ret
   exact ⟨rfl, BA.out.trans (BY0.out.mono BA.out.size)⟩
 ·injection h with h0 h1 h2 h3 h4
  subst h0 h1 h2 h3 h4
  go_wp2
  go_ret
  exact ⟨rfl, BA.out⟩
theorem z66.calls (k : Nat) (wd : Int) (Av : Option Addr) (cv : Nat) (l1 : List S76) (Ai : Option Addr) (ci : Nat) (ins : List S93) (w : World) (hr1 : Kd.C k76 w Av l1.length l1) (hc1 : l1.length <= cv) (hr2 : Kd.C k93 w Ai ins.length ins) (hc2 : ins.length <= ci) (hH : zK.f k wd l1 = some true) (h0 : 1 <= ins.length) (h1 : ins.length <= 4000) (hR : ∀ j : Nat, j < ins.length -> z0A k wd l1 ins (ya ins j)) (hl : (ya ins ((ins.length : Int) - 1)).f0 = 5 \/ (ya ins ((ins.length : Int) - 1)).f0 = 11) :
  Calls Tryz.prog 18 #[.agg (Vf wd Av l1 cv Ai ins ci)] w fun e w' => e = .returned (.bool true) /\ Below w.heap.size w w' := by
 have huC := Tryz.underlying33
 have HR1 := am hr1
 have HC1 := am hc1
 have HR2 := am hr2
 have HC2 := am hc2
 have HRI := am hR
 have HH := am hH
 have BA := am (bal (jc w.heap.size w) (.cells (Vf wd Av l1 cv Ai ins ci) 33))
 have X0 := am (zI w (.cells (Vf wd Av l1 cv Ai ins ci) 33))
 obtain ⟨ad, rfl, j0, j1, j2, j3, j4⟩ := z5q hr2 ((ins.length : Int) - 1) (by omega) (by omega)
 have J0 := am j0
 obtain ⟨lo, hlo⟩ : ∃ lo, (ya ins ((ins.length : Int) - 1)).f0 = lo := ⟨_, rfl⟩
 rw [hlo] at hl
 have HLO := am hlo
 clear hr1 hc1 hr2 hc2 hR hH j0 j1 j2 j3 j4 hlo
 go_enter Tryz.func18, Tryz.ntmps18
 have d1 : decide ((ins.length : Int) < 1) = false := dF (by omega)
 have d2 : decide ((4000 : Int) < (ins.length : Int)) = false := dF (by omega)
 go_upto_region 3 with (first | (go_at_call 35; (with_reducible refine (zK.calls k wd _ _ l1 true _ (ji HR1.out BA.out) HC1.out HH.out).mono ?_); rintro e W1 ⟨rfl, hb⟩; have B1 := am (BA.out.trans ((hb).mono BA.out.size)); have X1 := am (zd X0.out (hb)); have p2 : W1.cell? ⟨w.heap.size, 2, none⟩ = some (.slice (some ad) ins.length ci) := (za X1.out 2).trans rfl; clear hb))
 clear p2
 go_wp2
 go_loopg [3] ins.length (fun kq v3 X => ∃ j : Nat, v3 = .int .i64 (j : Int) /\ Aside0 (j + kq = ins.length) /\ Aside0 (Below w.heap.size w X) /\ Aside0 (X.heap[w.heap.size]? = some (.cells (Vf wd Av l1 cv (some ad) ins ci) 33 (0, 0))))
 case atStart => exact ⟨0, rfl, ⟨by omega⟩, B1, X1⟩
 case round =>
  clear B1 X1
  obtain ⟨j, rfl, HJ, BB, XX⟩ := hrel
  have p2 : wr.cell? ⟨w.heap.size, 2, none⟩ = some (.slice (some ad) ins.length ci) := (za XX.out 2).trans rfl
  cases gk with
  | zero =>
   have hj : j = ins.length := by have := HJ.out; omega
   subst hj
   have hd : decide ((ins.length : Int) < (ins.length : Int)) = false := dF (by omega)
   have k0 := (BB.out.cell (jd w _ J0.out)).trans J0.out
   rw [HLO.out, show ((ins.length : Int) - 1).toNat = ins.length - 1 by omega] at k0
   have hw : IntKind.i64.wrap ((ins.length : Int) - 1) = (ins.length : Int) - 1 := by rw [zP]; unfold wrap64; omega
   have hb0 : (0 : Int) <= (ins.length : Int) - 1 := by omega
   have hb1 : (ins.length : Int) - 1 < (ins.length : Int) := by omega
   rcases hl with rfl | rfl
   all_goals
    go_wp2
    go_ret
    exact ⟨rfl, BB.out⟩
  | succ k1 =>
   have hj : j < ins.length := by have := HJ.out; omega
   have hd : decide ((j : Int) < (ins.length : Int)) = true := dT (by omega)
   have hlt : (j : Int) < (ins.length : Int) := by omega
   have hw1 : IntKind.i64.wrap ((j : Int) + 1) = (j : Int) + 1 := by rw [zP]; unfold wrap64; omega
   obtain ⟨ad2, e2, i0, i1, i2, i3, i4⟩ := z5q HR2.out (j : Int) (by omega) (by omega)
   obtain rfl : ad = ad2 := by injection e2
   clear e2
   have BD := am (BB.out.trans ((zj (jc _ _)).mono BB.out.size))
   have XD := am (kdr XX.out)
   rw [jh] at i0 i1 i2 i3 i4
   replace i0 := (BD.out.cell (jd w _ i0)).trans i0
   replace i1 := (BD.out.cell (jd w _ i1)).trans i1
   replace i2 := (BD.out.cell (jd w _ i2)).trans i2
   replace i3 := (BD.out.cell (jd w _ i3)).trans i3
   replace i4 := (BD.out.cell (jd w _ i4)).trans i4
   have RI := am (HRI.out j hj)
   generalize hri : ya ins (j : Int) = i at i0 i1 i2 i3 i4
   rw [hri] at RI
   have I0 := am i0
   have I1 := am i1
   have I2 := am i2
   have I3 := am i3
   have I4 := am i4
   clear hri i0 i1 i2 i3 i4
   go_wp2
   refine sT 8 [0, 1, 2, 3, 4, 5, 6, 7] [6] fun hHeld => ?_
   generalize wr.drew = Y at BD XD I0 I1 I2 I3 I4 hHeld ⊢
   have hq0_0 := bq XD.out
   have hq0_1 : World.cell? _ (ad.add (j * 5)) = some (.int .i64 i.f0) := I0.out
   have hq0_2 : World.cell? _ ⟨(ad.add (j * 5)).block, (ad.add (j * 5)).off + 1, none⟩ = some (.int .i64 i.f1) := I1.out
   have hq0_3 : World.cell? _ ⟨(ad.add (j * 5)).block, (ad.add (j * 5)).off + 2, none⟩ = some (.int .i64 i.f2) := I2.out
   have hq0_4 : World.cell? _ ⟨(ad.add (j * 5)).block, (ad.add (j * 5)).off + 3, none⟩ = some (.int .i64 i.f3) := I3.out
   have hq0_5 : World.cell? _ ⟨(ad.add (j * 5)).block, (ad.add (j * 5)).off + 4, none⟩ = some (.int .i64 i.f4) := I4.out
   repeat first | refine nx ?_ | refine ldT hHeld ?_ | refine un ?_
   refine la fun K hK => ?_
   refine gC Tryz.func47 ?_
   refine (z5o.calls k wd Av cv l1 (some ad) ci ins i Y (ji HR1.out BD.out) HC1.out (ji HR2.out BD.out) HC2.out RI.out).mono ?_
   rintro e Y2 ⟨rfl, hb⟩
   have BE := am (BD.out.trans (hb.mono BD.out.size))
   have XE := am (zd XD.out hb)
   clear BD XD I0 I1 I2 I3 I4
   refine ⟨_, rfl, ?_⟩
   refine hK.out _ _ ?_
   clear hK K
   refine nM ?_
   repeat first | refine nx ?_ | refine ldT hHeld ?_ | refine un ?_
   refine dn ?_
   clear p2
   go_wp2
   go_roundg k1
   case measure => omega
   case rel => exact ⟨j + 1, by simp, ⟨by have := HJ.out; omega⟩, BE, XE⟩
theorem infoIns : (Tryz.prog.info? 93).map (fun i => (i.zero, i.size, i.bytes)) = some (some (.agg #[.int .i64 0, .int .i64 0, .int .i64 0, .int .i64 0, .int .i64 0]), 5, 40) := by kernel_rfl
def CSt (W : World) (B b : Nat) (Q : Nat -> Prop) (v1 v2 v3 : Value) (I : List S93) (P : List Int) : Prop :=
 ∃ (A : Option Addr) (c : Nat) (A' : Option Addr) (c' : Nat), W.heap[b]? = some (.cells #[.slice A I.length c, v1, v2, v3, .slice A' P.length c'] 89 (0, 0)) /\ Kd.R k93 93 W B Q (.slice A I.length c) I /\ Kd.R (Kd.int .i64) 3 W B Q (.slice A' P.length c') P
theorem CSt.step {W W' : World} {B b : Nat} {Q : Nat -> Prop} {v1 v2 v3 : Value} {I : List S93} {P : List Int} (h : CSt W B b Q v1 v2 v3 I P) (hm : ∀ k, Q k \/ k = b -> k < W.heap.size -> W'.heap[k]? = W.heap[k]?) : CSt W' B b Q v1 v2 v3 I P := by
 obtain ⟨A, c, A', c', h1, h2, h3⟩ := h
 exact ⟨A, c, A', c', (hm b (.inr rfl) (zM h1)).trans h1, Kd.R_step h2 (fun k hk hl => hm k (.inl hk) hl), Kd.R_step h3 (fun k hk hl => hm k (.inl hk) hl)⟩
theorem CSt.below {W W' : World} {B b : Nat} {Q : Nat -> Prop} {v1 v2 v3 : Value} {I : List S93} {P : List Int} (h : CSt W B b Q v1 v2 v3 I P) (hb : Below W.heap.size W W') : CSt W' B b Q v1 v2 v3 I P := h.step (fun k _ hl => hb.block k hl)
theorem CSt.mono {W : World} {B b : Nat} {Q Q' : Nat -> Prop} {v1 v2 v3 : Value} {I : List S93} {P : List Int} (h : CSt W B b Q v1 v2 v3 I P) (hq : ∀ k, Q k -> k < W.heap.size -> Q' k) : CSt W B b Q' v1 v2 v3 I P := by
 obtain ⟨A, c, A', c', h1, h2, h3⟩ := h
 exact ⟨A, c, A', c', h1, jr (Kd.R_bound h2) (fun k hk => hq k hk.1 hk.2.2.1), jr (Kd.R_bound h3) (fun k hk => hq k hk.1 hk.2.2.1)⟩
theorem CSt.bound {W : World} {B b : Nat} {Q : Nat -> Prop} {v1 v2 v3 : Value} {I : List S93} {P : List Int} (h : CSt W B b Q v1 v2 v3 I P) : CSt W B b (fun k => Q k /\ k < W.heap.size) v1 v2 v3 I P := h.mono (fun _ h1 h2 => ⟨h1, h2⟩)
theorem CSt.lt {W : World} {B b : Nat} {Q : Nat -> Prop} {v1 v2 v3 : Value} {I : List S93} {P : List Int} (h : CSt W B b Q v1 v2 v3 I P) : b < W.heap.size := by
 obtain ⟨A, c, A', c', h1, h2, h3⟩ := h
 exact zM h1
theorem CSt.set {W : World} {B b : Nat} {Q : Nat -> Prop} {v1 v2 v3 : Value} {I : List S93} {P : List Int} (h : CSt W B b Q v1 v2 v3 I P) {p : Addr} (hp : ¬ Q p.block) (hb : p.block ≠ b) (u : Value) : CSt (W.setCell p u) B b Q v1 v2 v3 I P :=
 h.step (fun k hk _ => jl _ _ _ _ (fun e => by subst e; rcases hk with hk | hk; exact hp hk; exact hb hk))
theorem z1d.calls (w : World) (B b : Nat) (Q : Nat -> Prop) (v1 v2 v3 : Value) (I : List S93) (P : List Int) (h : CSt w B b Q v1 v2 v3 I P) :
  Calls Tryz.prog 92 #[.pointer (some ⟨b, 0, none⟩)] w fun e w' => e = .returned (.int .i64 I.length) /\ Below w.heap.size w w' := by
 obtain ⟨A, c, A', c', h1, h2, h3⟩ := h
 have q0 : w.cell? ⟨b, 0, none⟩ = some (.slice A I.length c) := (za h1 0).trans rfl
 have hI := (Kd.R_reads' h2).2.2.2.1
 clear h1 h2 h3
 go_enter Tryz.func92, Tryz.ntmps92
 go_wp2
 go_ret
 exact ⟨rfl, jc _ _⟩
theorem ZQ.calls (w0 w : World) (b : Nat) (Q : Nat -> Prop) (v1 v2 v3 : Value) (I : List S93) (P : List Int) (x : S93) (hB : Below w0.heap.size w0 w) (hb : w0.heap.size <= b) (h : CSt w w0.heap.size b Q v1 v2 v3 I P) (hI : I.length < 1000000) :
  Calls Tryz.prog 62 #[.pointer (some ⟨b, 0, none⟩), .agg (Vl x.f0 x.f1 x.f2 x.f3 x.f4)] w fun e w' => e = .returned (.int .i64 I.length) /\ CSt w' w0.heap.size b (fun k => Q k \/ w.heap.size <= k) v1 v2 v3 (I ++ [x]) P /\ Below w0.heap.size w0 w' /\ zN w w' (fun k => Q k \/ k = b) := by
 obtain ⟨A, c, A', c', h1, h2, h3⟩ := h
 have huI := Tryz.underlying31
 have huO := Tryz.underlying87
 have h1l := zM h1
 have hIl : ((I.length : Nat) : Int) + 1 - 1 = (I.length : Int) := by omega
 have AL := bal (jc w.heap.size w) (.cells (Vl x.f0 x.f1 x.f2 x.f3 x.f4) 93)
 have hX : (w.alloc (.cells (Vl x.f0 x.f1 x.f2 x.f3 x.f4) 93)).heap[w.heap.size]? = _ := zI w _
 have H1 := am h1
 have H2 := am h2
 have H3 := am h3
 have HB := am hB
 have HX := am hX
 have HA := am AL
 have hsz0 : (w.alloc (.cells (Vl x.f0 x.f1 x.f2 x.f3 x.f4) 93)).heap.size = w.heap.size + 1 := by simp
 have hsz := am hsz0
 clear hsz0
 clear h1 h2 h3 hB hX AL
 go_enter Tryz.func62, Tryz.ntmps62
 go_wp2
 generalize hW1 : w.alloc (.cells (Vl x.f0 x.f1 x.f2 x.f3 x.f4) 93) = W1 at HX HA hsz ⊢
 have HD := am (zj HA.out)
 have HXd := am (kdr HX.out)
 have hszd := am (show W1.drew.heap.size = w.heap.size + 1 from hsz.out)
 have HC := am ((HD.out.block _ h1l).trans H1.out)
 refine sT 11 [0, 1, 2, 3, 4, 5, 6, 7, 8, 9, 10] [7, 10] fun hHeld => ?_
 generalize W1.drew = Y at HD HXd hszd HC hHeld ⊢
 have hq0_0 := bq HC.out
 have hq0_1 := bq HXd.out
 repeat first | refine nx ?_ | refine ldT hHeld ?_ | refine un ?_
 refine on fun K hK => ?_
 refine z1m (w1 := ?_) (v := ?_) (by rfl) rfl ?_ ?_
 rotate_left 2
 ·go_simp
  constructor
  ·rfl
  ·rfl
 refine hK.out _ _ (kp hHeld) fun hHeld => ?_
 clear hK K
 refine nM ?_
 refine la fun K hK => ?_
 have hQY : ∀ k, Y.heap.size <= k -> Q k \/ w.heap.size <= k := fun k hk => .inr (by have := hszd.out; omega)
 have R2 := jr (Kd.R_below H2.out HD.out) (ok' := fun k => Q k \/ w.heap.size <= k) (fun k hk => .inl hk)
 have R3 := jr (Kd.R_below H3.out HD.out) (ok' := fun k => Q k \/ w.heap.size <= k) (fun k hk => .inl hk)
 have BY := HB.out.trans (HD.out.mono HB.out.size)
 refine Kd.R_append_step k93 (w0 := w0) w0.heap.size (by rfl) (.tmp 9) (.tmp 11) 31 93 (.agg #[.int .i64 0, .int .i64 0, .int .i64 0, .int .i64 0, .int .i64 0]) 40 rfl huI infoIns rfl (by decide) (by omega) (.slice A I.length c) I x [.int .i64 x.f0, .int .i64 x.f1, .int .i64 x.f2, .int .i64 x.f3, .int .i64 x.f4] (fun k => Q k \/ w.heap.size <= k) (fun _ => False) rfl rfl (z5S _ _ _ x) (fun _ hk => hk.elim) hQY R2 BY BY.size (by omega) ?_
 intro v2 w2 ho hb2 hg hat
 have RA := Kd.R_over' R3 (Kd.R_typed R2) (by decide) hg
 have HC2 := zO HC.out hg (Kd.R_ne R2 HC.out (by decide))
 have hK2 := zN.of_grown (S := fun k => Q k \/ k = b) hg (show zN w Y _ from zN.of_below HD.out _) (fun k e => (R2.1 k e).imp .inl id)
 obtain ⟨A2, c2, rfl⟩ := js ho
 have hl : (I ++ [x]).length = I.length + 1 := by simp
 rw [hl] at ho
 have HO2 := am ho
 have HP2 := am RA
 have HB2 := am hb2
 have HK2 := am hK2
 clear R2 R3 BY ho hat RA hK2 HX HD HXd H2 H3 HB HA H1
 refine hK.out _ _ ?_
 clear hK K
 refine nM ?_
 repeat first | refine nx ?_ | refine ldT hHeld ?_ | refine un ?_
 refine la fun K hK => ?_
 have hc0 : w2.cell? ⟨b, 0, none⟩ = some (.slice A I.length c) := (za HC2 0).trans rfl
 have hf0 := zf HC2 0
 refine ZX (w1 := ?_) (by rfl) rfl ?_ ?_
 rotate_left
 ·go_simp
  rfl
 refine hK.out _ _ ?_
 clear hK K
 refine dn ?_
 have T1 := yD HC2 0 (.slice A2 (I.length + 1) c2)
 have T2 := Kd.R_set HO2.out HC2 (by decide) 0 (.slice A2 (I.length + 1) c2)
 have T3 := Kd.R_set HP2.out HC2 (by decide) 0 (.slice A2 (I.length + 1) c2)
 have T4 := Below.setCell HB2.out (p := ⟨b, 0, none⟩) hb (.slice A2 (I.length + 1) c2)
 have T5 := zN.setCell HK2.out (p := ⟨b, 0, none⟩) (.inl (.inr rfl)) (.slice A2 (I.length + 1) c2)
 generalize w2.setCell ⟨b, 0, none⟩ (.slice A2 (I.length + 1) c2) = W3 at T1 T2 T3 T4 T5 ⊢
 have q0 : W3.cell? ⟨b, 0, none⟩ = some (.slice A2 (I.length + 1) c2) := (za T1 0).trans rfl
 have TT := am (And.intro T1 (And.intro T2 (And.intro T3 (And.intro T4 T5))))
 clear T1 T2 T3 T4 T5 HO2 HP2 HB2 HK2 hc0 hf0 HC2 HC hHeld
 go_wp2
 go_ret
 obtain ⟨T1, T2, T3, T4, T5⟩ := TT.out
 refine ⟨by go_num, ⟨A2, c2, A', c', by rw [hl]; exact T1, by rw [hl]; exact T2, T3⟩, T4, ?_⟩
 exact T5
def cI (op n : Int) (m : Nat) (r : Int) : S93 :=
 if op = 0 then ⟨0, r, n, 0, 0⟩ else if op = 1 then ⟨3, r, n, if 0 < m then r else 0, 0⟩ else if op = 12 then ⟨1, r, 12, r, 0⟩ else if op = 15 then ⟨2, r, r, r + 1, r + 2⟩ else ⟨1, r, op, r, r + 1⟩
mutual
def cE : S62 -> Int -> List S93
 | ⟨op, n, _, l⟩, r => cAs l r ++ [cI op n l.length r]
def cAs : List S62 -> Int -> List S93
 | [], _ => []
 | a :: t, r => cE a r ++ cAs t (r + 1)
end
mutual
def nE : S62 -> Nat
 | ⟨_, _, _, l⟩ => nAs l + 1
def nAs : List S62 -> Nat
 | [] => 0
 | a :: t => nE a + nAs t
end
theorem z3E {Q : List S62 -> Prop} (h : ∀ l, (∀ x ∈ l, Q x.f3) -> Q l) : ∀ l, Q l :=
 fun l => h l (S62.rec_1 (motive_1 := fun x => Q x.f3) (motive_2 := fun l => ∀ x ∈ l, Q x.f3) (fun _ _ _ l h1 => h l h1) (fun _ h => by simp at h) (fun x r h1 h2 y hy => by rcases List.mem_cons.1 hy with rfl | h; exact h1; exact h2 y h) l)
theorem z0e : ∀ (l : List S62) (r : Int), (cAs l r).length = nAs l := by
 refine z3E fun l ih => ?_
 induction l with
 | nil => intro r; rfl
 | cons a t ih2 =>
  intro r
  obtain ⟨op, n, c, l⟩ := a
  rw [cAs, nAs, je, ih2 (fun x hx => ih x (List.mem_cons_of_mem _ hx)), cE, nE, je, ih _ (List.mem_cons_self ..)]
  rfl
theorem YX (e : S62) (r : Int) : (cE e r).length = nE e := by
 obtain ⟨op, n, c, l⟩ := e
 rw [cE, nE, je, z0e]
 rfl
theorem z3d : ∀ (l : List S62) (r : Int) (i : Nat) (x : S62), l[i]? = some x -> cAs (l.take (i + 1)) r = cAs (l.take i) r ++ cE x (r + i)
 | [], _, _, _, h => by simp at h
 | a :: t, r, 0, x, h => by
  obtain rfl : a = x := by simpa using h
  simp [cAs]
 | a :: t, r, i + 1, x, h => by
  rw [List.take_succ_cons, List.take_succ_cons, cAs, cAs, z3d t (r + 1) i x (by simpa using h), ju]
  congr 3
  push_cast
  omega
theorem z2X : ∀ (l : List S62) (i : Nat) (x : S62), l[i]? = some x -> nAs (l.take i) + nE x <= nAs l
 | [], _, _, h => by simp at h
 | a :: t, 0, x, h => by
  obtain rfl : a = x := by simpa using h
  simp [nAs]
 | a :: t, i + 1, x, h => by
  rw [List.take_succ_cons, nAs, nAs]
  have := z2X t i x (by simpa using h)
  omega
theorem z2Y : ∀ (l : List S62), l.length <= nAs l
 | [] => jk _
 | a :: t => by
  obtain ⟨op, n, c, l⟩ := a
  rw [nAs, nE, jp]
  have := z2Y t
  omega
theorem z3G.go (w0 : World) (b : Nat) (v1 v2 v3 : Value) (P : List Int) (hb : w0.heap.size <= b) : ∀ (l : List S62) (op n cp : Int) (A : Option Addr) (c : Nat) (r : Int) (I : List S93) (Q : Nat -> Prop) (w : World), Kd.C k62 w0 A l.length l -> l.length <= c -> 0 <= r -> r + (nAs l : Int) + 2 < 1000000 -> I.length + nAs l + 1 < 1000000 ->
  Below w0.heap.size w0 w -> CSt w w0.heap.size b Q v1 v2 v3 I P -> (∀ k, Q k -> k < w.heap.size) ->
  Calls Tryz.prog 112 #[.pointer (some ⟨b, 0, none⟩), .agg (Ve op n cp A l c), .int .i64 r] w fun e w' => e = .returned (.tuple #[]) /\ CSt w' w0.heap.size b (fun k => Q k \/ w.heap.size <= k) v1 v2 v3 (I ++ cE ⟨op, n, cp, l⟩ r) P /\ Below w0.heap.size w0 w' /\ zN w w' (fun k => Q k \/ k = b) := by
 refine z3E fun l ih => ?_
 intro op n cp A c r I Q w hr hc hr0 hr1 hI hB h hQ
 have huE := Tryz.underlying62
 have huC := Tryz.underlying89
 have HR := am hr
 have HC := am hc
 have IH := am ih
 have hbl := h.lt
 have hll := z2Y l
 have AL := bal (jc w.heap.size w) (.cells (Ve op n cp A l c) 62)
 have HX := am (zI w (.cells (Ve op n cp A l c) 62))
 have HS := am ((h.below AL).mono (Q' := fun k => Q k \/ w.heap.size < k) (fun k hk _ => .inl hk))
 have HB := am (hB.trans (AL.mono hB.size))
 have HK := am (show zN w _ (fun k => Q k \/ k = b) from zN.of_below AL _)
 have HQ := am hQ
 have HBS := am hB.size
 clear hr hc ih hB h hQ AL
 go_enter Tryz.func112, Tryz.ntmps112
 have x3 : (w.alloc (.cells (Ve op n cp A l c) 62)).cell? ⟨w.heap.size, 3, none⟩ = some (.slice A l.length c) := (za HX.out 3).trans rfl
 go_wp2
 clear x3
 generalize w.alloc (.cells (Ve op n cp A l c) 62) = W1 at HX HS HB HK ⊢
 go_loopg [12] l.length (fun kq v12 X => ∃ j : Nat, v12 = .int .i64 (j : Int) /\ Aside0 (j + kq = l.length) /\ Aside0 (CSt X w0.heap.size b (fun k => Q k \/ w.heap.size < k) v1 v2 v3 (I ++ cAs (l.take j) r) P) /\ Aside0 (X.heap[w.heap.size]? = some (.cells (Ve op n cp A l c) 62 (0, 0))) /\ Aside0 (Below w0.heap.size w0 X) /\ Aside0 (zN w X (fun k => Q k \/ k = b)))
 case atStart => exact ⟨0, rfl, ⟨by omega⟩, ⟨by rw [List.take_zero, cAs, List.append_nil]; exact HS.out⟩, HX, HB, HK⟩
 case round =>
  clear HX HS HB HK
  obtain ⟨j, rfl, HI, HS, HX, HB, HK⟩ := hrel
  cases gk with
  | zero =>
   have hj : j = l.length := by have := HI.out; omega
   subst hj
   have hd : decide ((l.length : Int) < (l.length : Int)) = false := dF (by omega)
   have x0 : wr.cell? ⟨w.heap.size, 0, none⟩ = some (.int .i64 op) := (za HX.out 0).trans rfl
   have x1 : wr.cell? ⟨w.heap.size, 1, none⟩ = some (.int .i64 n) := (za HX.out 1).trans rfl
   have x3 : wr.cell? ⟨w.heap.size, 3, none⟩ = some (.slice A l.length c) := (za HX.out 3).trans rfl
   have hS : CSt wr w0.heap.size b (fun k => Q k \/ w.heap.size < k) v1 v2 v3 (I ++ cAs l r) P := by
    have := HS.out
    rwa [List.take_of_length_le (jk _)] at this
   have HS := am hS
   have hIl : (I ++ cAs l r).length < 1000000 := by rw [je, z0e]; omega
   clear hS
   have hw1 : IntKind.i64.wrap (r + 1) = r + 1 := by rw [zP]; unfold wrap64; omega
   have hw2 : IntKind.i64.wrap (r + 2) = r + 2 := by rw [zP]; unfold wrap64; omega
   have fin : ∀ (Y w' : World), Below wr.heap.size wr Y -> CSt w' w0.heap.size b (fun k => (Q k \/ w.heap.size < k) \/ Y.heap.size <= k) v1 v2 v3 (I ++ cAs l r ++ [cI op n l.length r]) P -> zN Y w' (fun k => (Q k \/ w.heap.size < k) \/ k = b) ->
     (CSt w' w0.heap.size b (fun k => Q k \/ w.heap.size <= k) v1 v2 v3 (I ++ cE ⟨op, n, cp, l⟩ r) P /\ zN w w' (fun k => Q k \/ k = b)) := by
    intro Y w' hY hs hk
    have hl := hY.size
    have hl2 := HK.out.1
    refine ⟨?_, (HK.out.below hY).then_ hk (fun k hk => ?_)⟩
    ·rw [cE, <- ju]
     exact hs.mono (fun k hk _ => by rcases hk with (hk | hk) | hk; exact .inl hk; exact .inr (by omega); exact .inr (by omega))
    ·rcases hk with (hk | hk) | hk
     ·exact .inl (.inl hk)
     ·exact .inr (by omega)
     ·exact .inl (.inr hk)
   have FIN := am fin
   have CL := am (show CSt wr w0.heap.size b (fun k => Q k \/ w.heap.size < k) v1 v2 v3 (I ++ cAs l r) P from HS.out)
   clear fin HI
   have hlt := zM HX.out
   by_cases h0 : op = 0
   ·subst h0
    have hci : cI 0 n l.length r = ⟨0, r, n, 0, 0⟩ := by simp [cI]
    have HCI := am hci
    clear hci
    go_wp2
    refine sT 8 [0, 1, 2, 3, 4, 5, 6, 7] [7] fun hHeld => ?_
    have hq0_0 : World.cell? _ ⟨w.heap.size, 1, none⟩ = some (.int .i64 n) := (za (kdr HX.out) 1).trans rfl
    repeat first | refine nx ?_ | refine ldT hHeld ?_ | refine un ?_
    refine la fun K hK => ?_
    refine gC Tryz.func62 ?_
    refine (ZQ.calls w0 wr.drew b _ v1 v2 v3 _ P ⟨0, r, n, 0, 0⟩ (HB.out.trans ((zj (jc _ _)).mono HB.out.size)) hb (CL.out.below (zj (jc _ _))) hIl).mono ?_
    rintro e Y2 ⟨rfl, hs, hb2, hk⟩
    refine ⟨_, rfl, ?_⟩
    refine hK.out _ _ ?_
    clear hK K
    refine nM ?_
    refine dn ?_
    have hcb := HCI.out
    have HF := am (FIN.out wr.drew Y2 (zj (jc _ _)) (by rw [HCI.out]; exact hs) hk)
    clear hs hk hcb
    go_wp2
    go_end0
    exact ⟨rfl, HF.out.1, hb2, HF.out.2⟩
   have e0 := (beq_eq_false_iff_ne (a := op)).mpr h0
   by_cases h1 : op = 1
   ·subst h1
    have hci : cI 1 n l.length r = ⟨3, r, n, if 0 < l.length then r else 0, 0⟩ := by simp [cI]
    have HCI := am hci
    clear hci h0 e0
    by_cases hm : 0 < l.length
    ·have hm2 : (0 : Int) < (l.length : Int) := by omega
     have BA := am (bal (jc wr.heap.size wr) (.cells #[.int .i64 3, .int .i64 r, .int .i64 n, .int .i64 r, .int .i64 0] 93))
     have NA := am (zI wr (.cells #[.int .i64 3, .int .i64 r, .int .i64 n, .int .i64 r, .int .i64 0] 93))
     go_wp2
     have BB := am (zj BA.out)
     have ND := am (kdr NA.out)
     generalize (wr.alloc (.cells #[.int .i64 3, .int .i64 r, .int .i64 n, .int .i64 r, .int .i64 0] 93)) = Y at ND BB ⊢
     refine sT 5 [0, 1, 2, 3, 4] [4] fun hHeld => ?_
     have hq1_0 := bq ND.out
     repeat first | refine nx ?_ | refine ldT hHeld ?_ | refine un ?_
     refine la fun K hK => ?_
     have HCI := am (HCI.out.trans (by rw [jb hm]))
     refine gC Tryz.func62 ?_
     refine (ZQ.calls w0 Y.drew b _ v1 v2 v3 _ P ⟨3, r, n, r, 0⟩ (HB.out.trans (BB.out.mono HB.out.size)) hb (CL.out.below BB.out) hIl).mono ?_
     rintro e Y2 ⟨rfl, hs, hb2, hk⟩
     refine ⟨_, rfl, ?_⟩
     refine hK.out _ _ ?_
     clear hK K
     refine nM ?_
     refine dn ?_
     have hcb := HCI.out
     have HF := am (FIN.out Y.drew Y2 BB.out (by rw [HCI.out]; exact hs) hk)
     clear hs hk hcb
     go_wp2
     go_end0
     exact ⟨rfl, HF.out.1, hb2, HF.out.2⟩
    ·have hm0 : l.length = 0 := by omega
     have BA := am (bal (jc wr.heap.size wr) (.cells #[.int .i64 3, .int .i64 r, .int .i64 n, .int .i64 0, .int .i64 0] 93))
     have NA := am (zI wr (.cells #[.int .i64 3, .int .i64 r, .int .i64 n, .int .i64 0, .int .i64 0] 93))
     go_wp2
     have BB := am (zj BA.out)
     have ND := am (kdr NA.out)
     generalize (wr.alloc (.cells #[.int .i64 3, .int .i64 r, .int .i64 n, .int .i64 0, .int .i64 0] 93)) = Y at ND BB ⊢
     refine sT 5 [0, 1, 2, 3, 4] [4] fun hHeld => ?_
     have hq2_0 := bq ND.out
     repeat first | refine nx ?_ | refine ldT hHeld ?_ | refine un ?_
     refine la fun K hK => ?_
     have HCI := am (HCI.out.trans (by rw [ja hm]))
     refine gC Tryz.func62 ?_
     refine (ZQ.calls w0 Y.drew b _ v1 v2 v3 _ P ⟨3, r, n, 0, 0⟩ (HB.out.trans (BB.out.mono HB.out.size)) hb (CL.out.below BB.out) hIl).mono ?_
     rintro e Y2 ⟨rfl, hs, hb2, hk⟩
     refine ⟨_, rfl, ?_⟩
     refine hK.out _ _ ?_
     clear hK K
     refine nM ?_
     refine dn ?_
     have hcb := HCI.out
     have HF := am (FIN.out Y.drew Y2 BB.out (by rw [HCI.out]; exact hs) hk)
     clear hs hk hcb
     go_wp2
     go_end0
     exact ⟨rfl, HF.out.1, hb2, HF.out.2⟩
   have e1 := (beq_eq_false_iff_ne (a := op)).mpr h1
   by_cases h12 : op = 12
   ·subst h12
    have HCI := am (show cI 12 n l.length r = ⟨1, r, 12, r, 0⟩ by simp [cI])
    clear h0 h1 e0 e1
    go_wp2_with (first | (go_at_call 62; refine (ZQ.calls w0 wr b _ v1 v2 v3 _ P ⟨1, r, 12, r, 0⟩ HB.out hb CL.out hIl).mono ?_; rintro e Y2 ⟨rfl, hs, hb2, hk⟩))
    go_end0
    obtain ⟨g1, g2⟩ := FIN.out wr Y2 (jc _ _) (by rw [HCI.out]; exact hs) hk
    exact ⟨rfl, g1, hb2, g2⟩
   have e12 := (beq_eq_false_iff_ne (a := op)).mpr h12
   by_cases h15 : op = 15
   ·subst h15
    have HCI := am (show cI 15 n l.length r = ⟨2, r, r, r + 1, r + 2⟩ by simp [cI])
    clear h0 h1 h12 e0 e1 e12
    go_wp2_with (first | (go_at_call 62; refine (ZQ.calls w0 wr b _ v1 v2 v3 _ P ⟨2, r, r, r + 1, r + 2⟩ HB.out hb CL.out hIl).mono ?_; rintro e Y2 ⟨rfl, hs, hb2, hk⟩))
    go_end0
    obtain ⟨g1, g2⟩ := FIN.out wr Y2 (jc _ _) (by rw [HCI.out]; exact hs) hk
    exact ⟨rfl, g1, hb2, g2⟩
   have e15 := (beq_eq_false_iff_ne (a := op)).mpr h15
   have HCI := am (show cI op n l.length r = ⟨1, r, op, r, r + 1⟩ by simp [cI, h0, h1, h12, h15])
   clear h0 h1 h12 h15
   go_wp2
   refine sT 11 [0, 1, 2, 3, 4, 5, 6, 7, 8, 9, 10] [10] fun hHeld => ?_
   have hq3_0 : World.cell? _ ⟨w.heap.size, 0, none⟩ = some (.int .i64 op) := (za (kdr HX.out) 0).trans rfl
   repeat first | refine nx ?_ | refine ldT hHeld ?_ | refine un ?_
   refine la fun K hK => ?_
   refine gC Tryz.func62 ?_
   refine (ZQ.calls w0 wr.drew b _ v1 v2 v3 _ P ⟨1, r, op, r, r + 1⟩ (HB.out.trans ((zj (jc _ _)).mono HB.out.size)) hb (CL.out.below (zj (jc _ _))) hIl).mono ?_
   rintro e Y2 ⟨rfl, hs, hb2, hk⟩
   refine ⟨_, rfl, ?_⟩
   refine hK.out _ _ ?_
   clear hK K
   refine nM ?_
   refine dn ?_
   have hcb := HCI.out
   have HF := am (FIN.out wr.drew Y2 (zj (jc _ _)) (by rw [HCI.out]; exact hs) hk)
   clear hs hk hcb
   go_wp2
   go_end0
   exact ⟨rfl, HF.out.1, hb2, HF.out.2⟩
  | succ k1 =>
   have hj : j < l.length := by have := HI.out; omega
   have hd : decide ((j : Int) < (l.length : Int)) = true := dT (by omega)
   obtain ⟨ad, A3, c3, e3, q0, q1, q2, q3, ql3, qr3⟩ := Zk HR.out (j : Int) (by omega) (by omega)
   subst e3
   have hxi : l[j]? = some (zi l (j : Int)) := by unfold zi; rw [jh, jw, jn hj]; rfl
   generalize zi l (j : Int) = x at q0 q1 q2 q3 ql3 qr3 hxi
   obtain ⟨xo, xn, xc, xl⟩ := x
   have hxm : (⟨xo, xn, xc, xl⟩ : S62) ∈ l := List.mem_of_getElem? hxi
   have hxn := z2X l j _ hxi
   rw [nE] at hxn
   have hct := z3d l r j _ hxi
   dsimp only at q0 q1 q2 q3 ql3 qr3
   replace q0 := (HB.out.cell (jd w0 _ q0)).trans q0
   replace q1 := (HB.out.cell (jd w0 _ q1)).trans q1
   replace q2 := (HB.out.cell (jd w0 _ q2)).trans q2
   replace q3 := (HB.out.cell (jd w0 _ q3)).trans q3
   simp only [jh] at q0 q1 q2 q3
   have hw1 : IntKind.i64.wrap ((j : Int) + 1) = (j : Int) + 1 := by rw [zP]; unfold wrap64; omega
   have hw2 : IntKind.i64.wrap (r + (j : Int)) = r + (j : Int) := by rw [zP]; unfold wrap64; omega
   have QR := am qr3
   have QL := am ql3
   have HCT := am hct
   have W1B := am (bal (jc wr.heap.size wr) (.cells (Ve xo xn xc A3 xl c3) 62))
   have hlI : (I ++ cAs (l.take j) r).length + nAs xl + 1 < 1000000 := by
    rw [je, z0e]
    have : nAs (l.take j) + (nAs xl + 1) <= nAs l := hxn
    omega
   have hrx : r + (j : Int) + (nAs xl : Int) + 2 < 1000000 := by
    have h1 := z2Y (l.take j)
    rw [List.length_take] at h1
    omega
   clear qr3 ql3 hct
   go_wp2_with (first | (go_at_call 112; refine (IH.out _ hxm xo xn xc A3 c3 (r + (j : Int)) (I ++ cAs (l.take j) r) (fun k => (Q k \/ w.heap.size < k) /\ k < wr.heap.size) _ QR.out QL.out (by omega) hrx hlI (HB.out.trans (W1B.out.mono HB.out.size)) (HS.out.bound.below W1B.out) ?hq).mono ?_; (case hq => intro k hk; have := hk.2; have := W1B.out.size; omega); rintro e W2 ⟨rfl, hs2, hb2, hk2⟩))
   have hsz := W1B.out.size
   obtain ⟨c0, hsw⟩ : ∃ c0 : Nat, w.heap.size < wr.heap.size := ⟨0, zM HX.out⟩
   have HX2 := am ((hk2.2 w.heap.size (by omega) (fun hq => by rcases hq with ⟨hq | hq, _⟩ | hq; exact jm (HQ.out _ hq) (by omega); omega; omega)).trans ((W1B.out.block _ hsw).trans HX.out))
   have HS2 := am hs2
   have HB2 := am hb2
   have HK2 := am ((HK.out.below W1B.out).then_ hk2 (fun k hk => by rcases hk with ⟨hq | hq, _⟩ | hq; exact .inl (.inl hq); exact .inr (by omega); exact .inl (.inr hq)))
   clear hs2 hb2 hk2 HX HS HB HK
   go_roundg k1
   case measure => omega
   case rel =>
    refine ⟨j + 1, by simp, ⟨by have := HI.out; omega⟩, ⟨?_⟩, HX2, HB2, HK2⟩
    rw [HCT.out, <- ju]
    exact HS2.out.mono (fun k hk _ => by rcases hk with ⟨hq, _⟩ | hq; exact hq; exact .inr (by omega))
def Ym (x : S93) (n : Int) : S93 := if x.f0 = 6 then ⟨x.f0, x.f1, n, x.f3, x.f4⟩ else ⟨x.f0, n, x.f2, x.f3, x.f4⟩
theorem z39.calls (w0 w : World) (b : Nat) (Q : Nat -> Prop) (v1 v2 v3 : Value) (I : List S93) (P : List Int) (v r : Int) (hB : Below w0.heap.size w0 w) (hb : w0.heap.size <= b) (h : CSt w w0.heap.size b Q v1 v2 v3 I P) (hI : I.length < 1000000) :
  Calls Tryz.prog 113 #[.pointer (some ⟨b, 0, none⟩), .int .i64 v, .int .i64 r] w fun e w' => e = .returned (.tuple #[]) /\ CSt w' w0.heap.size b (fun k => Q k \/ w.heap.size <= k) v1 v2 v3 (I ++ [⟨4, v, 0, r, 0⟩]) P /\ Below w0.heap.size w0 w' /\ zN w w' (fun k => Q k \/ k = b) := by
 have hbl := h.lt
 have huC := Tryz.underlying89
 have H := am h
 have HB := am hB
 clear h hB
 go_enter Tryz.func113, Tryz.ntmps113
 go_wp2_with (first | (go_at_call 62; refine (ZQ.calls w0 w b Q v1 v2 v3 I P ⟨4, v, 0, r, 0⟩ HB.out hb H.out hI).mono ?_; rintro e Y ⟨rfl, hs, hb2, hk⟩))
 go_end0
 exact ⟨rfl, hs, hb2, hk⟩
theorem z3a.calls (w : World) (b : Nat) (n : Int) :
  Calls Tryz.prog 127 #[.pointer (some ⟨b, 0, none⟩), .int .i64 n] w fun e w' => e = .returned (.func (.func 131) #[] #[.pointer (some ⟨w.heap.size, 0, none⟩), .pointer (some ⟨w.heap.size + 1, 0, none⟩)]) /\ w'.heap[w.heap.size]? = some (.cells #[.pointer (some ⟨b, 0, none⟩)] 83 (0, 0)) /\ w'.heap[w.heap.size + 1]? = some (.cells #[.int .i64 n] 3 (0, 0)) /\ w'.heap.size = w.heap.size + 2 /\ Below w.heap.size w w' := by
 have h1 := kal (zI w (.cells #[.pointer (some ⟨b, 0, none⟩)] 83)) (.cells #[.int .i64 n] 3)
 have h2 := zI (w.alloc (.cells #[.pointer (some ⟨b, 0, none⟩)] 83)) (.cells #[.int .i64 n] 3)
 have h3 : (w.alloc (.cells #[.pointer (some ⟨b, 0, none⟩)] 83)).heap.size = w.heap.size + 1 := by simp
 rw [h3] at h2
 have h4 : ((w.alloc (.cells #[.pointer (some ⟨b, 0, none⟩)] 83)).alloc (.cells #[.int .i64 n] 3)).heap.size = w.heap.size + 2 := by simp
 have h5 := bal (bal (jc w.heap.size w) (.cells #[.pointer (some ⟨b, 0, none⟩)] 83)) (.cells #[.int .i64 n] 3)
 have HA := am (And.intro h1 (And.intro h2 (And.intro h4 h5)))
 clear h1 h2 h3 h4 h5
 go_enter Tryz.func127, Tryz.ntmps127
 go_wp2
 go_ret
 obtain ⟨h1, h2, h4, h5⟩ := HA.out
 exact ⟨rfl, h1, h2, h4, h5⟩
theorem z2b {W : World} {B b : Nat} {Q : Nat -> Prop} {v1 v2 v3 : Value} {I : List S93} {P : List Int} {g c : Nat} {A' : Option Addr} {c' : Nat} {i : Nat} {x : S93} (h1 : W.heap[b]? = some (.cells #[.slice (some ⟨g, 0, none⟩) I.length c, v1, v2, v3, .slice A' P.length c'] 89 (0, 0))) (h2 : Kd.R k93 93 W B Q (.slice (some ⟨g, 0, none⟩) I.length c) I) (h3 : Kd.R (Kd.int .i64) 3 W B Q (.slice A' P.length c') P) (hx : I[i]? = some x) :
  (W.cell? ⟨g, i * 5, none⟩ = some (.int .i64 x.f0) /\ W.cell? ⟨g, i * 5 + 1, none⟩ = some (.int .i64 x.f1) /\ W.cell? ⟨g, i * 5 + 2, none⟩ = some (.int .i64 x.f2)) /\ (∀ j, W.frozen? ⟨g, j, none⟩ = false) /\
  ∀ n : Int, CSt (W.setCell ⟨g, i * 5 + 2, none⟩ (.int .i64 n)) B b Q v1 v2 v3 (I.set i ⟨x.f0, x.f1, n, x.f3, x.f4⟩) P /\ CSt (W.setCell ⟨g, i * 5 + 1, none⟩ (.int .i64 n)) B b Q v1 v2 v3 (I.set i ⟨x.f0, n, x.f2, x.f3, x.f4⟩) P /\ Q g /\ B <= g := by
 have hi : i < I.length := by
  rcases Nat.lt_or_ge i I.length with h | h
  ·exact h
  ·rw [List.getElem?_eq_none h] at hx; cases hx
 have hgb : b ≠ g := fun e => Kd.R_ne h2 h1 (by decide) (by rw [e]; rfl)
 obtain ⟨cs, hcl, hM, hcc, hfz⟩ := Kd.R_elem h2 z93 (i : Int) (by omega) (by omega)
 have hgx : I.getD (i : Int).toNat z93 = x := by rw [jh, jw, hx]; rfl
 rw [hgx] at hM
 obtain rfl := z6s hM
 have hz : k93.sz = 5 := rfl
 have ht := Kd.R_typed h2 g rfl
 obtain ⟨cur, ht⟩ := ht
 have hq : Q g := h2.1 g rfl
 have hgB : B <= g := Kd.R_base h2 g rfl
 have put : ∀ (n : Int) (j : Nat) (x' : S93) (hj : j + 1 <= 5), [Value.int .i64 x'.f0, .int .i64 x'.f1, .int .i64 x'.f2, .int .i64 x'.f3, .int .i64 x'.f4] = [Value.int .i64 x.f0, .int .i64 x.f1, .int .i64 x.f2, .int .i64 x.f3, .int .i64 x.f4].take j ++ [.int .i64 n] ++ [Value.int .i64 x.f0, .int .i64 x.f1, .int .i64 x.f2, .int .i64 x.f3, .int .i64 x.f4].drop (j + 1) ->
   CSt (W.setCell ⟨g, i * 5 + j, none⟩ (.int .i64 n)) B b Q v1 v2 v3 (I.set i x') P := by
  intro n j x' hj he
  obtain ⟨r1, r2⟩ := Kd.R_seg h2 (i : Int) (by omega) (by omega) (seg := [.int .i64 n]) (j := j) hcl hcc (show j + 1 <= 5 from hj) (x' := x') (okp := fun _ => False) (by show k93.M _ _ _ _ (_ ++ _ ++ List.drop (j + 1) _); rw [<- he]; exact z5S W B _ _) (fun _ hk => hk.elim)
  rw [hz, jh] at r1 r2
  have r3 := Kd.R_over' h3 (v := .slice (some ⟨g, 0, none⟩) I.length c) (Kd.R_typed h2) (by decide) (show W.grownBy (W.setCell ⟨g, i * 5 + j, none⟩ (.int .i64 n)) (some g) from r2)
  refine ⟨some ⟨g, 0, none⟩, c, A', c', ?_, ?_, r3⟩
  ·rw [List.length_set]
   exact (jl _ _ _ _ hgb).trans h1
  ·rw [List.length_set]
   exact r1
 rw [hz, jh] at hcc
 exact ⟨⟨hcc 0 _ rfl, hcc 1 _ rfl, hcc 2 _ rfl⟩, fun j => zf ht j, fun n => ⟨put n 2 _ (by decide) rfl, put n 1 _ (by decide) rfl, hq, hgB⟩⟩
theorem z26.both (w0 w : World) (b g1 g2 : Nat) (Q : Nat -> Prop) (v1 v2 v3 : Value) (I : List S93) (P : List Int) (i : Nat) (x : S93) (hB : Below w0.heap.size w0 w) (hb : w0.heap.size <= b) (h : CSt w w0.heap.size b Q v1 v2 v3 I P)
  (hg1 : w.heap[g1]? = some (.cells #[.pointer (some ⟨b, 0, none⟩)] 83 (0, 0))) (hg2 : w.heap[g2]? = some (.cells #[.int .i64 (i : Int)] 3 (0, 0))) (hx : I[i]? = some x) :
  (Calls Tryz.prog 131 #[.pointer (some ⟨g1, 0, none⟩), .pointer (some ⟨g2, 0, none⟩)] w fun e w' => e = .returned (.tuple #[]) /\ CSt w' w0.heap.size b (fun k => Q k \/ w.heap.size <= k) v1 v2 v3 (I.set i (Ym x I.length)) P /\ Below w0.heap.size w0 w' /\ zN w w' (fun k => Q k \/ k = b)) /\ ∀ u, CallsD Tryz.prog 131 #[.pointer (some ⟨g1, 0, none⟩), .pointer (some ⟨g2, 0, none⟩)] u w fun e u' w' => u' = u /\ (e = .returned (.tuple #[]) /\ CSt w' w0.heap.size b (fun k => Q k \/ w.heap.size <= k) v1 v2 v3 (I.set i (Ym x I.length)) P /\ Below w0.heap.size w0 w' /\ zN w w' (fun k => Q k \/ k = b)) := by
 suffices H : ∀ c, Tryz.f131.body = some c -> c.wp Tryz.prog (bodyPost Tryz.prog Tryz.f131 (fun e w' => e = .returned (.tuple #[]) /\ CSt w' w0.heap.size b (fun k => Q k \/ w.heap.size <= k) v1 v2 v3 (I.set i (Ym x I.length)) P /\ Below w0.heap.size w0 w' /\ zN w w' (fun k => Q k \/ k = b))) { tmps := #[.pointer (some ⟨g1, 0, none⟩), .pointer (some ⟨g2, 0, none⟩)] ++ Array.replicate (Tryz.f131.ntmps - (#[.pointer (some ⟨g1, 0, none⟩), .pointer (some ⟨g2, 0, none⟩)] : Array Value).size) undef, defers := [] } w from ⟨calls_of_wp Tryz.func131 rfl (H _ rfl), fun u => callsD_of_wp Tryz.func131 rfl (H _ rfl)⟩
 intro code hcode
 obtain rfl := sj (show some _ = some code from hcode)
 clear hcode
 obtain ⟨A, c, A', c', h1, h2, h3⟩ := h
 have huI := Tryz.underlying31
 have huO := Tryz.underlying87
 have huC := Tryz.underlying89
 have huX := Tryz.underlying93
 have hi : i < I.length := by
  rcases Nat.lt_or_ge i I.length with h | h
  ·exact h
  ·rw [List.getElem?_eq_none h] at hx; cases hx
 obtain ⟨g, rfl⟩ : ∃ g, A = some ⟨g, 0, none⟩ := by
  obtain ⟨_, inner, ⟨_, ho⟩, _⟩ := h2
  rcases ho with ⟨hv, h0⟩ | ⟨g, cap, cur, hv, _⟩
  ·injection hv with e1 e2 e3
   omega
  ·injection hv with e1 e2 e3
   exact ⟨g, e1⟩
 have hI := (Kd.R_reads' h2).2.2.2.1
 have HD := am (zj (jc w.heap.size w))
 have H1 := am (kdr h1)
 have G1 := am (kdr hg1)
 have G2 := am (kdr hg2)
 have H2 := am (Kd.R_drew h2)
 have H3 := am (Kd.R_drew h3)
 have HB := am hB
 have hbl := zM h1
 clear h1 h2 h3 hg1 hg2 hB
 simp only [Tryz.ntmps131, List.size_toArray, jp, List.length_nil, Nat.reduceAdd, Nat.reduceSub, Array.replicate_succ, Array.replicate_zero, List.push_toArray, List.append_toArray, List.nil_append, List.cons_append]
 go_wp2
 refine sT 8 [0, 1, 2, 3, 4, 5, 6, 7] [] fun hHeld => ?_
 generalize w.drew = Y at HD H1 H2 H3 G1 G2 hHeld ⊢
 have hq0_0 := bq G1.out
 have hq0_1 := bq G2.out
 have hq0_2 := bq H1.out
 repeat first | refine nx ?_ | refine ldT hHeld ?_ | refine un ?_
 refine dn ?_
 clear hHeld
 have HW := am hx
 obtain ⟨⟨p0, p1, p2⟩, hfz, hst⟩ := z2b H1.out H2.out H3.out hx
 have hs0 : CSt Y w0.heap.size b Q v1 v2 v3 I P := ⟨_, _, _, _, H1.out, H2.out, H3.out⟩
 have HS0 := am hs0
 clear hs0 hx hfz hst p1 p2
 have c1 : Y.cell? ⟨g1, 0, none⟩ = some (.pointer (some ⟨b, 0, none⟩)) := (za G1.out 0).trans rfl
 have c2 : Y.cell? ⟨g2, 0, none⟩ = some (.int .i64 (i : Int)) := (za G2.out 0).trans rfl
 have hgl : g < Y.heap.size := Kd.R_lt H2.out g rfl
 have fin : ∀ (W : World) (j : Nat), Below Y.heap.size Y W -> CSt (W.setCell ⟨g, j, none⟩ (.int .i64 (I.length : Int))) w0.heap.size b Q v1 v2 v3 (I.set i (Ym x I.length)) P -> Q g -> w0.heap.size <= g ->
   (CSt (W.setCell ⟨g, j, none⟩ (.int .i64 (I.length : Int))) w0.heap.size b (fun k => Q k \/ w.heap.size <= k) v1 v2 v3 (I.set i (Ym x I.length)) P /\ Below w0.heap.size w0 (W.setCell ⟨g, j, none⟩ (.int .i64 (I.length : Int))) /\ zN w (W.setCell ⟨g, j, none⟩ (.int .i64 (I.length : Int))) (fun k => Q k \/ k = b)) := by
  intro W j hW hs hq hg
  have hWw : Below w.heap.size w W := HD.out.trans (hW.mono HD.out.size)
  exact ⟨hs.mono (fun k hk _ => .inl hk), ((HB.out.trans (hWw.mono HB.out.size)).trans ((jc _ _).setCell hg _)), (zN.of_below hWw _).setCell (p := ⟨g, j, none⟩) (.inl (.inl hq)) _⟩
 have FIN := am fin
 clear fin
 by_cases h6 : x.f0 = 6
 ·have e6 : (x.f0 == 6) = true := bT h6
  go_wp2_with (first | (go_at_call 92; refine (z1d.calls Y w0.heap.size b Q v1 v2 v3 I P HS0.out).mono ?_; rintro e W ⟨rfl, hw⟩; obtain ⟨⟨p0', p1', p2'⟩, hfz, hst⟩ := z2b (zd H1.out hw) (Kd.R_below H2.out hw) (Kd.R_below H3.out hw) HW.out; have z2 := hfz (i * 5 + 2); have HST := am (hst (I.length : Int)); have HWW := am hw; clear hst hfz hw p0' p1'))
  go_end0
  obtain ⟨q1, q2, q3, q4⟩ := HST.out
  exact ⟨rfl, FIN.out _ _ HWW.out (by rw [Ym, jb h6]; exact q1) q3 q4⟩
 ·have e6 : (x.f0 == 6) = false := bF h6
  go_wp2_with (first | (go_at_call 92; refine (z1d.calls Y w0.heap.size b Q v1 v2 v3 I P HS0.out).mono ?_; rintro e W ⟨rfl, hw⟩; obtain ⟨⟨p0', p1', p2'⟩, hfz, hst⟩ := z2b (zd H1.out hw) (Kd.R_below H2.out hw) (Kd.R_below H3.out hw) HW.out; have z2 := hfz (i * 5 + 1); have HST := am (hst (I.length : Int)); have HWW := am hw; clear hst hfz hw p0' p2'))
  go_end0
  obtain ⟨q1, q2, q3, q4⟩ := HST.out
  exact ⟨rfl, FIN.out _ _ HWW.out (by rw [Ym, ja h6]; exact q2) q3 q4⟩
def brC (p : Nat) (C T E bs : List S93) (has : Bool) : List S93 :=
 if has = true then C ++ (⟨6, 0, ((p + C.length + 1 + T.length + 1 : Nat) : Int), 0, 0⟩ :: T) ++ (⟨5, ((p + C.length + 1 + T.length + 1 + E.length : Nat) : Int), 0, 0, 0⟩ :: E) else C ++ (⟨6, 0, ((p + C.length + 1 + T.length + bs.length : Nat) : Int), 0, 0⟩ :: T) ++ bs
def cT (op n : Int) (m : Nat) : List S93 :=
 if op = 0 then [⟨4, n, 0, (m : Int) - 1, 0⟩] else if op = 3 then [⟨7, n, 0, 0, 0⟩] else if op = 4 then [⟨8, m, 0, 0, 0⟩, ⟨4, n, 0, m, 0⟩] else if op = 5 then [⟨9, 0, 0, 0, 0⟩] else if op = 6 then [⟨10, 0, 0, 0, 0⟩] else []
def hdE (a : List S62) : S62 := a.headD ⟨0, 0, 0, []⟩
mutual
def nS : S81 -> Nat
 | ⟨op, n, a, t, e⟩ => if op = 1 \/ op = 2 then nE (hdE a) + 1 + nSs t + (if e.length = 0 then (if op = 2 then 1 else 0) else 1 + nSs e) else nAs a + (cT op n a.length).length
def nSs : List S81 -> Nat
 | [] => 0
 | x :: r => nS x + nSs r
end
mutual
def cS : S81 -> Nat -> List S93
 | ⟨op, n, a, t, e⟩, p => if op = 1 \/ op = 2 then brC p (cE (hdE a) 0) (cSs t (p + nE (hdE a) + 1)) (cSs e (p + nE (hdE a) + 1 + nSs t + 1)) (if op = 2 then [⟨5, (p : Int), 0, 0, 0⟩] else []) (decide (0 < e.length)) else cAs a 0 ++ cT op n a.length
def cSs : List S81 -> Nat -> List S93
 | [], _ => []
 | x :: r, p => cS x p ++ cSs r (p + nS x)
end
mutual
def plS : S81 -> Nat -> List Int
 | ⟨op, n, a, t, e⟩, p => if op = 1 \/ op = 2 then yy t (p + nE (hdE a) + 1) ++ yy e (p + nE (hdE a) + 1 + nSs t + 1) else []
def yy : List S81 -> Nat -> List Int
 | [], _ => []
 | x :: r, p => ((p : Int) :: plS x p) ++ yy r (p + nS x)
end
mutual
def kS : S81 -> Nat
 | ⟨op, _, _, t, e⟩ => if op = 1 \/ op = 2 then kSs t + kSs e + 1 else 1
def kSs : List S81 -> Nat
 | [] => 0
 | x :: r => kS x + kSs r
end
mutual
def okS : S81 -> Prop
 | ⟨op, _, a, t, e⟩ => (op = 1 \/ op = 2 -> a ≠ []) /\ z1J t /\ z1J e
def z1J : List S81 -> Prop
 | [] => True
 | x :: r => okS x /\ z1J r
end
theorem z1Z {Q : List S81 -> Prop} (h : ∀ l, (∀ x ∈ l, Q x.f3 /\ Q x.f4) -> Q l) : ∀ l, Q l :=
 fun l => h l (S81.rec_1 (motive_1 := fun x => Q x.f3 /\ Q x.f4) (motive_2 := fun l => ∀ x ∈ l, Q x.f3 /\ Q x.f4) (fun _ _ _ t e h1 h2 => ⟨h t h1, h e h2⟩) (fun _ h => by simp at h) (fun x r h1 h2 y hy => by rcases List.mem_cons.1 hy with rfl | h; exact h1; exact h2 y h) l)
theorem brC_len (p : Nat) (C T E bs : List S93) (has : Bool) : (brC p C T E bs has).length = C.length + 1 + T.length + (if has = true then 1 + E.length else bs.length) := by
 unfold brC
 split <;> simp <;> omega
theorem ZZ : ∀ (l : List S81) (p : Nat), (cSs l p).length = nSs l := by
 refine z1Z fun l ih => ?_
 induction l with
 | nil => intro p; rfl
 | cons x r ih2 =>
  intro p
  obtain ⟨op, n, a, t, e⟩ := x
  obtain ⟨h1, h2⟩ := ih _ (List.mem_cons_self ..)
  rw [cSs, nSs, je, ih2 (fun y hy => ih y (List.mem_cons_of_mem _ hy)), cS, nS]
  congr 1
  split
  ·rw [brC_len, YX, h1, h2]
   dsimp only
   by_cases he : e.length = 0
   ·simp [he]; split <;> simp
   ·have : 0 < e.length := by omega
    simp [he, this]
  ·rw [je, z0e]
theorem cS_len (x : S81) (p : Nat) : (cS x p).length = nS x := by
 have := ZZ [x] p
 simpa [cSs, nSs] using this
theorem YQ : ∀ (l : List S81) (p : Nat), (yy l p).length = kSs l := by
 refine z1Z fun l ih => ?_
 induction l with
 | nil => intro p; rfl
 | cons x r ih2 =>
  intro p
  obtain ⟨op, n, a, t, e⟩ := x
  obtain ⟨h1, h2⟩ := ih _ (List.mem_cons_self ..)
  rw [yy, kSs, je, ih2 (fun y hy => ih y (List.mem_cons_of_mem _ hy)), plS, kS]
  congr 1
  split
  ·rw [jp, je, h1, h2]
  ·rfl
def LC (w0 : World) (b : Nat) (v1 v2 v3 : Value) (l : List S81) : Prop :=
 ∀ (A : Option Addr) (c : Nat) (I : List S93) (P : List Int) (Q : Nat -> Prop) (w : World), Kd.C k81 w0 A l.length l -> l.length <= c -> z1J l -> I.length + nSs l + 10 < 1000000 -> P.length + kSs l < 1000000 ->
  Below w0.heap.size w0 w -> CSt w w0.heap.size b Q v1 v2 v3 I P -> (∀ k, Q k -> k < w.heap.size) ->
  Calls Tryz.prog 61 #[.pointer (some ⟨b, 0, none⟩), .slice A l.length c] w fun e w' => e = .returned (.tuple #[]) /\ CSt w' w0.heap.size b (fun k => Q k \/ w.heap.size <= k) v1 v2 v3 (I ++ cSs l I.length) (P ++ yy l I.length) /\ Below w0.heap.size w0 w' /\ zN w w' (fun k => Q k \/ k = b)
def Beh (w0 : World) (b : Nat) (v1 v2 v3 : Value) (f : FuncId) (cap : Array Value) (R : Nat -> Prop) (W : World) (bs : List S93) : Prop :=
 ∀ (Y : World) (Q : Nat -> Prop) (I : List S93) (P : List Int), (∀ k, R k -> Y.heap[k]? = W.heap[k]?) -> Below w0.heap.size w0 Y -> CSt Y w0.heap.size b Q v1 v2 v3 I P -> I.length < 1000000 ->
  Calls Tryz.prog f cap Y fun e w' => e = .returned (.tuple #[]) /\ CSt w' w0.heap.size b (fun k => Q k \/ Y.heap.size <= k) v1 v2 v3 (I ++ bs) P /\ Below w0.heap.size w0 w' /\ zN Y w' (fun k => Q k \/ k = b)
theorem z3M {α : Type} (X : List α) (a b : α) (Y : List α) (i : Nat) (hi : i = X.length) : (X ++ a :: Y).set i b = X ++ b :: Y := by
 subst hi
 simp
theorem z2p.calls (w0 : World) (b : Nat) (v1 v2 v3 : Value) (hb : w0.heap.size <= b) (op n : Int) (a : List S62) (t e : List S81) (A2 : Option Addr) (c2 : Nat) (A3 : Option Addr) (c3 : Nat) (A4 : Option Addr) (c4 : Nat) (f : FuncId) (hfb : f = 115 \/ f = 116) (cap : Array Value) (R : Nat -> Prop) (bs : List S93) (I : List S93) (P : List Int) (Q : Nat -> Prop) (w : World)
  (hr2 : Kd.C k62 w0 A2 a.length a) (hc2 : a.length <= c2) (hr3 : Kd.C k81 w0 A3 t.length t) (hc3 : t.length <= c3) (hr4 : Kd.C k81 w0 A4 e.length e) (hc4 : e.length <= c4) (hLt : LC w0 b v1 v2 v3 t) (hLe : LC w0 b v1 v2 v3 e) (ha : a ≠ []) (hot : z1J t) (hoe : z1J e)
  (hI : I.length + nE (hdE a) + 1 + nSs t + (if e.length = 0 then bs.length else 1 + nSs e) + 10 < 1000000) (hP : P.length + kSs t + kSs e < 1000000) (hB : Below w0.heap.size w0 w) (hS : CSt w w0.heap.size b Q v1 v2 v3 I P) (hQ : ∀ k, Q k -> k < w.heap.size) (hR : ∀ k, R k -> k < w.heap.size /\ ¬ Q k /\ k ≠ b) (hbeh : Beh w0 b v1 v2 v3 f cap R w bs) :
  Calls Tryz.prog 114 #[.pointer (some ⟨b, 0, none⟩), .agg #[.int .i64 op, .int .i64 n, .slice A2 a.length c2, .slice A3 t.length c3, .slice A4 e.length c4], .func (.func f) #[] cap] w fun en w' => en = .returned (.tuple #[]) /\
   CSt w' w0.heap.size b (fun k => Q k \/ w.heap.size <= k) v1 v2 v3 (I ++ brC I.length (cE (hdE a) 0) (cSs t (I.length + nE (hdE a) + 1)) (cSs e (I.length + nE (hdE a) + 1 + nSs t + 1)) bs (decide (0 < e.length))) (P ++ (yy t (I.length + nE (hdE a) + 1) ++ yy e (I.length + nE (hdE a) + 1 + nSs t + 1))) /\ Below w0.heap.size w0 w' /\ zN w w' (fun k => Q k \/ k = b) := by
 obtain ⟨⟨xo, xn, xc, xl⟩, ar, rfl⟩ : ∃ x ar, a = x :: ar := by
  cases a with
  | nil => exact jm rfl ha
  | cons x ar => exact ⟨x, ar, rfl⟩
 have huS := Tryz.underlying81
 have huC := Tryz.underlying89
 simp only [hdE, List.headD_cons] at hI ⊢
 have HI := am hI
 have hI0 : I.length + (nAs xl + 1) + 1 + nSs t + 10 < 1000000 := by rw [nE] at hI; split at hI <;> omega
 clear hI
 generalize hal : ((⟨xo, xn, xc, xl⟩ : S62) :: ar).length = al at hr2 hc2 ⊢
 have hal0 : 0 < al := by rw [<- hal]; simp
 have hal1 := hr2.2.1
 obtain ⟨ad, B3, d3, e3, q0, q1, q2, q3, ql3, qr3⟩ := Zk hr2 (0 : Int) (by omega) (by omega)
 subst e3
 have hx0 : zi ((⟨xo, xn, xc, xl⟩ : S62) :: ar) 0 = ⟨xo, xn, xc, xl⟩ := rfl
 rw [hx0] at q0 q1 q2 q3 ql3 qr3
 dsimp only at q0 q1 q2 q3 ql3 qr3
 have hbl := hS.lt
 have AL := bal (jc w.heap.size w) (.cells #[.int .i64 op, .int .i64 n, .slice (some ad) al c2, .slice A3 t.length c3, .slice A4 e.length c4] 81)
 have HX := am (zI w (.cells #[.int .i64 op, .int .i64 n, .slice (some ad) al c2, .slice A3 t.length c3, .slice A4 e.length c4] 81))
 have HS := am (hS.below AL)
 have HB := am (hB.trans (AL.mono hB.size))
 have HK := am (show zN w _ (fun k => Q k \/ k = b) from zN.of_below AL _)
 have hsz : (w.alloc (.cells #[.int .i64 op, .int .i64 n, .slice (some ad) al c2, .slice A3 t.length c3, .slice A4 e.length c4] 81)).heap.size = w.heap.size + 1 := by simp
 have HSZ := am hsz
 replace q0 := (HB.out.cell (jd w0 _ q0)).trans q0
 replace q1 := (HB.out.cell (jd w0 _ q1)).trans q1
 replace q2 := (HB.out.cell (jd w0 _ q2)).trans q2
 replace q3 := (HB.out.cell (jd w0 _ q3)).trans q3
 have HQ := am hQ
 have HR := am hR
 have QR := am qr3
 have QL := am ql3
 have R3 := am hr3
 have R4 := am hr4
 have C3 := am hc3
 have C4 := am hc4
 have LT := am hLt
 have LE := am hLe
 have OT := am hot
 have OE := am hoe
 have BH := am hbeh
 have ha3 := hr3.2.1
 have ha4 := hr4.2.1
 clear hr2 hc2 hr3 hc3 hr4 hc4 hLt hLe hot hoe hB hS hQ hR hbeh AL qr3 ql3 hsz hx0 ha hal
 have x2 : (w.alloc (.cells #[.int .i64 op, .int .i64 n, .slice (some ad) al c2, .slice A3 t.length c3, .slice A4 e.length c4] 81)).cell? ⟨w.heap.size, 2, none⟩ = some (.slice (some ad) al c2) := (za HX.out 2).trans rfl
 generalize hW1 : w.alloc (.cells #[.int .i64 op, .int .i64 n, .slice (some ad) al c2, .slice A3 t.length c3, .slice A4 e.length c4] 81) = W1 at q0 q1 q2 q3 HX HS HB HK HSZ x2
 go_enter_defers Tryz.func114, Tryz.ntmps114
 simp only [Int.toNat_zero, Nat.zero_mul, Addr.add_zero'] at q0 q1 q2 q3
 have hex : nAs xl + 2 < 1000000 := by omega
 go_wp2_with (first | (go_at_call 112; refine (z3G.go w0 b v1 v2 v3 P hb xl xo xn xc B3 d3 0 I Q _ QR.out QL.out (by omega) (by omega) (by omega) HB.out HS.out ?hq).mono ?_; (case hq => intro k hk; have := HQ.out k hk; have := HSZ.out; omega); rintro en W2 ⟨rfl, hs2, hb2, hk2⟩))
 have hsz1 := HSZ.out
 have hws : ∀ k, k = w.heap.size -> ¬ (Q k \/ k = b) := fun k e h => by subst e; rcases h with h | h; exact jm (HQ.out _ h) (by omega); omega
 have HWS := am hws
 have HX2 := am ((hk2.2 w.heap.size (by omega) (hws _ rfl)).trans HX.out)
 have HK2 := am (HK.out.then_ hk2 (fun k hk => .inl hk))
 have HB2 := am hb2
 have hsz2 := hk2.1
 obtain ⟨J, hJ⟩ : ∃ J, J = I ++ cE ⟨xo, xn, xc, xl⟩ 0 := ⟨_, rfl⟩
 rw [<- hJ] at hs2
 have hJl : J.length = I.length + nE ⟨xo, xn, xc, xl⟩ := by rw [hJ, je, YX]
 have hJl' : J.length = I.length + (nAs xl + 1) := by rw [hJl, nE]
 have hJb : J.length + nSs t + 11 < 1000000 := by omega
 have HJ := am hJ
 have HJl := am hJl
 clear hJ hJl hJl'
 have HS2 := am hs2
 clear hs2 hb2 hk2 hws x2 q0 q1 q2 q3 HX HS HB HK hW1
 go_wp2_with (first | (go_at_call 62; refine (ZQ.calls w0 W2 b _ v1 v2 v3 J P ⟨6, 0, 0, 0, 0⟩ HB2.out hb HS2.out (by omega)).mono ?_; rintro en W3 ⟨rfl, hs3, hb3, hk3⟩))
 have HX3 := am ((hk3.2 w.heap.size (by omega) (fun h => by rcases h with (h | h) | h; exact HWS.out _ rfl (.inl h); omega; exact HWS.out _ rfl (.inr h))).trans HX2.out)
 have HK3 := am (HK2.out.then_ hk3 (fun k hk => by rcases hk with (hk | hk) | hk; exact .inl (.inl hk); exact .inr (by omega); exact .inl (.inr hk)))
 have HB3 := am hb3
 have hsz3 := hk3.1
 have HS3 := am (show CSt W3 w0.heap.size b (fun k => (Q k \/ W1.heap.size <= k) /\ k < W3.heap.size) v1 v2 v3 (J ++ [⟨6, 0, 0, 0, 0⟩]) P from hs3.mono (fun k hk hl => ⟨by rcases hk with hk | hk; exact hk; exact .inr (by omega), hl⟩))
 clear hs3 hb3 hk3 HX2 HK2 HB2 HS2
 go_wp2_with (first | (go_at_call 127; refine (z3a.calls W3 b (J.length : Int)).mono ?_; rintro en W4 ⟨rfl, hg1, hg2, hsz4_, hb4⟩; have x3 : W4.cell? ⟨w.heap.size, 3, none⟩ = some (.slice A3 t.length c3) := (za (zd HX3.out hb4) 3).trans rfl; have HSZ4 := am hsz4_; clear hsz4_))
 have hsz4_ := HSZ4.out
 have hsz4 : W3.heap.size + 1 < W4.heap.size := by omega
 have HX4 := am (zd HX3.out hb4)
 have HK4 := am (HK3.out.below hb4)
 have HB4 := am (HB3.out.trans (hb4.mono HB3.out.size))
 have HS4 := am (HS3.out.below hb4)
 have HG1 := am hg1
 have HG2 := am hg2
 clear hg1 hg2 hb4 hsz4_ HX3 HK3 HB3 HS3
 have nq : ∀ k, w.heap.size <= k -> k < W1.heap.size \/ W3.heap.size <= k -> ¬ (((Q k \/ W1.heap.size <= k) /\ k < W3.heap.size) \/ k = b) := fun k h0 h1 h => by
  rcases h with ⟨h | h, h2⟩ | h
  ·have := HQ.out k h; omega
  ·omega
  ·omega
 have NQ := am nq
 clear nq
 have HJ2 := am (show (J ++ [(⟨6, 0, 0, 0, 0⟩ : S93)]).length = J.length + 1 by simp)
 go_upto_if 27 with (first | (go_at_call 61; refine (LT.out A3 c3 _ P _ W4 R3.out C3.out OT.out (by rw [HJ2.out]; omega) (by omega) HB4.out HS4.out (fun k hk => by have := hk.2; omega)).mono ?_; rintro en W5 ⟨rfl, hs5, hb5, hk5⟩; have x4 : W5.cell? ⟨w.heap.size, 4, none⟩ = some (.slice A4 e.length c4) := (za ((hk5.2 w.heap.size (by omega) (NQ.out _ (by omega) (by omega))).trans HX4.out) 4).trans rfl))
 clear x3
 have HX5 := am ((hk5.2 w.heap.size (by omega) (NQ.out _ (by omega) (by omega))).trans HX4.out)
 have HG15 := am ((hk5.2 W3.heap.size (by omega) (NQ.out _ (by omega) (by omega))).trans HG1.out)
 have HG25 := am ((hk5.2 (W3.heap.size + 1) (by omega) (NQ.out _ (by omega) (by omega))).trans HG2.out)
 have HK5 := am (HK4.out.then_ hk5 (fun k hk => by rcases hk with ⟨hk | hk, _⟩ | hk; exact .inl (.inl hk); exact .inr (by omega); exact .inl (.inr hk)))
 have HB5 := am hb5
 have hsz5 := hk5.1
 rw [HJ2.out, ju, List.singleton_append] at hs5
 have hT : (cSs t (J.length + 1)).length = nSs t := ZZ _ _
 obtain ⟨T, hTe⟩ : ∃ T, T = cSs t (J.length + 1) := ⟨_, rfl⟩
 rw [<- hTe] at hs5 hT
 have HS5 := am hs5
 have HLJ := am (show ∀ x : S93, (J ++ x :: T).length = J.length + 1 + nSs t from fun x => by simp [hT]; omega)
 have HTE := am hTe
 have HT := am hT
 clear hTe hT hs5 hb5 hk5 HX4 HK4 HB4 HS4 HG1 HG2
 by_cases he : e.length = 0
 ·have he' : ((e.length : Int) == 0) = true := bT (by omega)
  rcases hfb with rfl | rfl
  all_goals
   go_wp2_with (first | ((first | go_at_call 115 | go_at_call 116); refine (BH.out W5 _ _ _ (fun k hk => HK5.out.2 k (HR.out k hk).1 (fun h => by rcases h with h | h; exact (HR.out k hk).2.1 h; exact (HR.out k hk).2.2 h)) HB5.out HS5.out (by rw [HLJ.out]; omega)).mono ?_; rintro en W6 ⟨rfl, hs6, hb6, hk6⟩))
   have nQ : ∀ k, w.heap.size <= k -> ¬ Q k := fun k h hq => by have := HQ.out k hq; omega
   have HG16 := am ((hk6.2 W3.heap.size (by omega) (fun h => by simp only [nQ _ (show w.heap.size <= W3.heap.size by omega), false_or] at h; omega)).trans HG15.out)
   have HG26 := am ((hk6.2 (W3.heap.size + 1) (by omega) (fun h => by simp only [nQ _ (show w.heap.size <= W3.heap.size + 1 by omega), false_or] at h; omega)).trans HG25.out)
   have HK6 := am (HK5.out.then_ hk6 (fun k hk => by rcases hk with ((⟨hk | hk, _⟩ | hk) | hk); exact .inl (.inl hk); exact .inr (by omega); exact .inr (by omega); exact .inl (.inr hk)))
   have hsz6 := hk6.1
   have HB6 := am hb6
   have HS6 := am hs6
   clear hs6 hb6 hk6 nQ
   go_wp2_with (first | (go_at_call 131; refine (z26.both w0 W6 b _ _ _ v1 v2 v3 _ _ J.length ⟨6, 0, 0, 0, 0⟩ HB6.out hb HS6.out HG16.out HG26.out (by simp)).1.mono ?_; rintro en W7 ⟨rfl, hs7, hb7, hk7⟩))
   refine ⟨_, results_none rfl _ _ _, rfl, ?_, hb7, HK6.out.then_ hk7 (fun k hk => by rcases hk with (((⟨hk | hk, _⟩ | hk) | hk) | hk); exact .inl (.inl hk); exact .inr (by omega); exact .inr (by omega); exact .inr (by omega); exact .inl (.inr hk))⟩
   have he0 : e = [] := List.length_eq_zero_iff.mp he
   subst he0
   have hc : Ym (⟨6, 0, 0, 0, 0⟩ : S93) ((J ++ ⟨6, 0, 0, 0, 0⟩ :: T ++ bs).length : Int) = ⟨6, 0, ((J.length + 1 + T.length + bs.length : Nat) : Int), 0, 0⟩ := by
    rw [Ym, jb rfl, je, HLJ.out, HT.out]
   rw [hc, ju, List.cons_append, z3M _ _ _ _ _ rfl] at hs7
   have hI3 : I ++ brC I.length (cE ⟨xo, xn, xc, xl⟩ 0) (cSs t (I.length + nE ⟨xo, xn, xc, xl⟩ + 1)) (cSs [] (I.length + nE ⟨xo, xn, xc, xl⟩ + 1 + nSs t + 1)) bs (decide (0 < ([] : List S81).length)) = J ++ (⟨6, 0, ((J.length + 1 + T.length + bs.length : Nat) : Int), 0, 0⟩ :: (T ++ bs)) := by
    rw [<- HJl.out, <- HTE.out, brC, ja (by simp), YX, <- HJl.out, <- ju, <- ju, <- HJ.out]
    simp
   rw [hI3, <- HJl.out]
   rw [show yy [] (J.length + 1 + nSs t + 1) = [] from rfl, List.append_nil]
   exact hs7.mono (fun k hk _ => by rcases hk with (((⟨hk | hk, _⟩ | hk) | hk) | hk); exact .inl hk; exact .inr (by omega); exact .inr (by omega); exact .inr (by omega); exact .inr (by omega))
 ·have he' : ((e.length : Int) == 0) = false := bF (by omega)
  obtain ⟨J5, hJ5⟩ : ∃ J5, J5 = J ++ ⟨6, 0, 0, 0, 0⟩ :: T := ⟨_, rfl⟩
  have hS5 := HS5.out
  rw [<- hJ5] at hS5
  have HL5 := am (show J5.length = J.length + 1 + nSs t by rw [hJ5]; exact HLJ.out _)
  have HJ5 := am hJ5
  have HS5' := am hS5
  clear hJ5 hS5 HS5
  have hI5 : J5.length + nSs e + 11 < 1000000 := by have h1 := HL5.out; have h2 := HI.out; rw [ja he, <- HJl.out] at h2; omega
  go_wp2_with (first | (go_at_call 62; refine (ZQ.calls w0 W5 b _ v1 v2 v3 J5 _ ⟨5, 0, 0, 0, 0⟩ HB5.out hb HS5'.out (by omega)).mono ?_; rintro en W6 ⟨rfl, hs6, hb6, hk6⟩))
  have nQ : ∀ k, w.heap.size <= k -> ¬ Q k := fun k h hq => by have := HQ.out k hq; omega
  have NQ0 := am nQ
  clear nQ
  have hsz6 := hk6.1
  have HX6 := am ((hk6.2 w.heap.size (by omega) (fun h => by simp only [NQ0.out _ (jk _), false_or] at h; omega)).trans HX5.out)
  have HG16 := am ((hk6.2 W3.heap.size (by omega) (fun h => by simp only [NQ0.out _ (show w.heap.size <= W3.heap.size by omega), false_or] at h; omega)).trans HG15.out)
  have HG26 := am ((hk6.2 (W3.heap.size + 1) (by omega) (fun h => by simp only [NQ0.out _ (show w.heap.size <= W3.heap.size + 1 by omega), false_or] at h; omega)).trans HG25.out)
  have HK6 := am (HK5.out.then_ hk6 (fun k hk => by rcases hk with ((⟨hk | hk, _⟩ | hk) | hk); exact .inl (.inl hk); exact .inr (by omega); exact .inr (by omega); exact .inl (.inr hk)))
  have HB6 := am hb6
  have HS6 := am (show CSt W6 w0.heap.size b (fun k => (Q k \/ W1.heap.size <= k) /\ k ≠ W3.heap.size /\ k ≠ W3.heap.size + 1 /\ k < W6.heap.size) v1 v2 v3 (J5 ++ [⟨5, 0, 0, 0, 0⟩]) _ from hs6.mono (fun k hk hl => by
   have hw : Q k -> k < w.heap.size := HQ.out k
   rcases hk with ((⟨hk | hk, h2⟩ | hk) | hk)
   ·exact ⟨.inl hk, by have := hw hk; omega, by have := hw hk; omega, hl⟩
   ·exact ⟨.inr hk, by omega, by omega, hl⟩
   ·exact ⟨.inr (by omega), by omega, by omega, hl⟩
   ·exact ⟨.inr (by omega), by omega, by omega, hl⟩))
  clear hs6 hb6 hk6 HX5 HG15 HG25 HK5 HB5 HS5'
  go_upto_region 8 with (first | (go_at_call 127; refine (z3a.calls W6 b (J5.length : Int)).mono ?_; rintro en W7 ⟨rfl, hg3, hg4, hsz7_, hb7⟩; have HSZ7 := am hsz7_; clear hsz7_))
  have hsz7_ := HSZ7.out
  have hsz7 : W6.heap.size + 1 < W7.heap.size := by omega
  have HX7 := am (zd HX6.out hb7)
  have HG17 := am (zd HG16.out hb7)
  have HG27 := am (zd HG26.out hb7)
  have HK7 := am (HK6.out.below hb7)
  have HB7 := am (HB6.out.trans (hb7.mono HB6.out.size))
  have HS7 := am (HS6.out.below hb7)
  have HG3 := am hg3
  have HG4 := am hg4
  clear hg3 hg4 hb7 hsz7_ HX6 HG16 HG26 HK6 HB6 HS6
  have x5 : (J5 ++ [(⟨5, 0, 0, 0, 0⟩ : S93)])[J.length]? = some ⟨6, 0, 0, 0, 0⟩ := by rw [HJ5.out]; simp
  have X5 := am x5
  clear x5
  go_upto_region 9 with (first | (go_at_call 131; refine (z26.both w0 W7 b _ _ _ v1 v2 v3 _ _ J.length ⟨6, 0, 0, 0, 0⟩ HB7.out hb HS7.out HG17.out HG27.out X5.out).1.mono ?_; rintro en W8 ⟨rfl, hs8, hb8, hk8⟩))
  have hsz8 := hk8.1
  have HX8 := am ((hk8.2 w.heap.size (by omega) (fun h => by simp only [NQ0.out _ (jk _), false_or] at h; omega)).trans HX7.out)
  have HG38 := am ((hk8.2 W6.heap.size (by omega) (fun h => by simp only [NQ0.out _ (show w.heap.size <= W6.heap.size by omega), false_or] at h; omega)).trans HG3.out)
  have HG48 := am ((hk8.2 (W6.heap.size + 1) (by omega) (fun h => by simp only [NQ0.out _ (show w.heap.size <= W6.heap.size + 1 by omega), false_or] at h; omega)).trans HG4.out)
  have HK8 := am (HK7.out.then_ hk8 (fun k hk => by rcases hk with (⟨hk | hk, _⟩ | hk); exact .inl (.inl hk); exact .inr (by omega); exact .inl (.inr hk)))
  have HB8 := am hb8
  have hc : Ym (⟨6, 0, 0, 0, 0⟩ : S93) ((J5 ++ [(⟨5, 0, 0, 0, 0⟩ : S93)]).length : Int) = ⟨6, 0, ((J.length + 1 + T.length + 1 : Nat) : Int), 0, 0⟩ := by
   rw [Ym, jb rfl, je, HL5.out, HT.out]
   rfl
  rw [hc, HJ5.out, ju, List.cons_append, z3M _ _ _ _ _ rfl] at hs8
  obtain ⟨J8, hJ8⟩ : ∃ J8, J8 = J ++ ⟨6, 0, ((J.length + 1 + T.length + 1 : Nat) : Int), 0, 0⟩ :: (T ++ [⟨5, 0, 0, 0, 0⟩]) := ⟨_, rfl⟩
  rw [<- hJ8] at hs8
  have HL8 := am (show J8.length = J.length + 1 + nSs t + 1 by rw [hJ8]; simp [HT.out]; omega)
  have HJ8 := am hJ8
  have HS8 := am (show CSt W8 w0.heap.size b (fun k => (Q k \/ W1.heap.size <= k) /\ k ≠ W6.heap.size /\ k ≠ W6.heap.size + 1 /\ k < W8.heap.size) v1 v2 v3 J8 _ from hs8.mono (fun k hk hl => by
   have hw : Q k -> k < w.heap.size := HQ.out k
   rcases hk with (⟨hk | hk, h2⟩ | hk)
   ·exact ⟨.inl hk, by have := hw hk; omega, by have := hw hk; omega, hl⟩
   ·exact ⟨.inr hk, by omega, by omega, hl⟩
   ·exact ⟨.inr (by omega), by omega, by omega, hl⟩))
  clear hs8 hb8 hk8 hc hJ8 HX7 HG17 HG27 HG3 HG4 HK7 HB7 HS7
  have x8 : W8.cell? ⟨w.heap.size, 4, none⟩ = some (.slice A4 e.length c4) := (za HX8.out 4).trans rfl
  go_wp2_with (first | (go_at_call 61; refine (LE.out A4 c4 J8 _ _ W8 R4.out C4.out OE.out (by have h1 := HL8.out; have h2 := HL5.out; omega) ?hp HB8.out HS8.out (fun k hk => hk.2.2.2)).mono ?_; (case hp => rw [je, YQ]; omega); rintro en W9 ⟨rfl, hs9, hb9, hk9⟩))
  clear x8
  have hsz9 := hk9.1
  have hg39 := (hk9.2 W6.heap.size (by omega) (fun h => by rcases h with ⟨_, h, _⟩ | h; exact h rfl; omega)).trans HG38.out
  have hg49 := (hk9.2 (W6.heap.size + 1) (by omega) (fun h => by rcases h with ⟨_, _, h, _⟩ | h; exact h rfl; omega)).trans HG48.out
  have HK9 := am (HK8.out.then_ hk9 (fun k hk => by rcases hk with ⟨hk | hk, _⟩ | hk; exact .inl (.inl hk); exact .inr (by omega); exact .inl (.inr hk)))
  obtain ⟨E, hE⟩ : ∃ E, E = cSs e J8.length := ⟨_, rfl⟩
  have hEl : E.length = nSs e := by rw [hE, ZZ]
  rw [<- hE] at hs9
  obtain ⟨K, hK⟩ : ∃ K, K = J ++ ⟨6, 0, ((J.length + 1 + T.length + 1 : Nat) : Int), 0, 0⟩ :: T := ⟨_, rfl⟩
  have hKl : K.length = J.length + 1 + nSs t := by rw [hK]; exact HLJ.out _
  have hJK : J8 ++ E = K ++ ⟨5, 0, 0, 0, 0⟩ :: E := by rw [HJ8.out, hK]; simp
  rw [hJK] at hs9
  have hJi : (J5.length : Int) = ((K.length : Nat) : Int) := by rw [hKl, HL5.out]
  rw [hJi] at hg49
  refine leaves_cons (f := 131) (args := #[.pointer (some ⟨W6.heap.size, 0, none⟩), .pointer (some ⟨W6.heap.size + 1, 0, none⟩)]) (by simp) (by simp [go_sem]) ?_
  refine ((z26.both w0 W9 b _ _ _ v1 v2 v3 _ _ K.length ⟨5, 0, 0, 0, 0⟩ hb9 hb hs9 hg39 hg49 (by simp)).2 .returning).mono ?_
  rintro en u' W10 ⟨rfl, rfl, hs10, hb10, hk10⟩
  refine ⟨_, results_none rfl _ _ _, rfl, ?_, hb10, HK9.out.then_ hk10 (fun k hk => by rcases hk with (⟨hk | hk, _⟩ | hk) | hk; exact .inl (.inl hk); exact .inr (by omega); exact .inr (by omega); exact .inl (.inr hk))⟩
  have hc2 : Ym (⟨5, 0, 0, 0, 0⟩ : S93) ((K ++ ⟨5, 0, 0, 0, 0⟩ :: E).length : Int) = ⟨5, ((J.length + 1 + T.length + 1 + E.length : Nat) : Int), 0, 0, 0⟩ := by
   rw [Ym, ja (by decide), je, hKl, jp, HT.out]
   congr 2
   omega
  rw [hc2, z3M _ _ _ _ _ rfl] at hs10
  have hI3 : I ++ brC I.length (cE ⟨xo, xn, xc, xl⟩ 0) (cSs t (I.length + nE ⟨xo, xn, xc, xl⟩ + 1)) (cSs e (I.length + nE ⟨xo, xn, xc, xl⟩ + 1 + nSs t + 1)) bs (decide (0 < e.length)) = K ++ (⟨5, ((J.length + 1 + T.length + 1 + E.length : Nat) : Int), 0, 0, 0⟩ :: E) := by
   rw [<- HJl.out, <- HTE.out, <- HL8.out, <- hE, brC, jb (by simp; omega), YX, <- HJl.out, <- ju, <- ju, <- HJ.out, hK]
  rw [hI3, <- HJl.out, <- HL8.out, <- ju]
  exact hs10.mono (fun k hk _ => by rcases hk with (⟨hk | hk, _⟩ | hk) | hk; exact .inl hk; exact .inr (by omega); exact .inr (by omega); exact .inr (by omega))
theorem beh1 (w0 : World) (b : Nat) (v1 v2 v3 : Value) (W : World) : Beh w0 b v1 v2 v3 115 #[] (fun _ => False) W [] := by
 intro Y Q I P _ hB hS _
 have HB := am hB
 have HS := am hS
 clear hB hS
 go_enter Tryz.func115, Tryz.ntmps115
 go_wp2
 go_end0
 exact ⟨rfl, by first | (rw [List.append_nil]; exact HS.out.mono (fun k hk _ => .inl hk)) | exact HS.out.mono (fun k hk _ => .inl hk), HB.out, zN.refl _ _⟩
theorem beh2 (w0 : World) (b : Nat) (v1 v2 v3 : Value) (hb : w0.heap.size <= b) (W : World) (g1 g2 : Nat) (p : Int) (h1 : W.heap[g1]? = some (.cells #[.pointer (some ⟨b, 0, none⟩)] 83 (0, 0))) (h2 : W.heap[g2]? = some (.cells #[.int .i64 p] 3 (0, 0))) :
  Beh w0 b v1 v2 v3 116 #[.pointer (some ⟨g1, 0, none⟩), .pointer (some ⟨g2, 0, none⟩)] (fun k => k = g1 \/ k = g2) W [⟨5, p, 0, 0, 0⟩] := by
 intro Y Q I P hR hB hS hI
 have huC := Tryz.underlying89
 have hbl := hS.lt
 have G1 := am (kdr ((hR g1 (.inl rfl)).trans h1))
 have G2 := am (kdr ((hR g2 (.inr rfl)).trans h2))
 have HB := am (hB.trans ((zj (jc _ _)).mono hB.size))
 have HS := am (hS.below (zj (jc _ _)))
 clear hB hS h1 h2 hR
 go_enter Tryz.func116, Tryz.ntmps116
 go_wp2
 refine sT 6 [0, 1, 2, 3, 4, 5] [5] fun hHeld => ?_
 have hq0_0 := bq G1.out
 have hq0_1 := bq G2.out
 repeat first | refine nx ?_ | refine ldT hHeld ?_ | refine un ?_
 refine la fun K hK => ?_
 refine gC Tryz.func62 ?_
 refine (ZQ.calls w0 Y.drew b Q v1 v2 v3 I P ⟨5, p, 0, 0, 0⟩ HB.out hb HS.out hI).mono ?_
 rintro e Y2 ⟨rfl, hs, hb2, hk⟩
 have HF := am (And.intro hs (And.intro hb2 hk))
 clear hs hk
 refine ⟨_, rfl, ?_⟩
 refine hK.out _ _ ?_
 clear hK K
 refine nM ?_
 refine dn ?_
 go_wp2
 go_end0
 exact ⟨rfl, HF.out.1, HF.out.2.1, HF.out.2.2⟩
theorem z6x.calls (w0 : World) (b : Nat) (v1 v2 v3 : Value) (hb : w0.heap.size <= b) (op n : Int) (a : List S62) (t e : List S81) (A2 : Option Addr) (c2 : Nat) (A3 : Option Addr) (c3 : Nat) (A4 : Option Addr) (c4 : Nat) (I : List S93) (P : List Int) (Q : Nat -> Prop) (w : World)
  (hr2 : Kd.C k62 w0 A2 a.length a) (hc2 : a.length <= c2) (hr3 : Kd.C k81 w0 A3 t.length t) (hc3 : t.length <= c3) (hr4 : Kd.C k81 w0 A4 e.length e) (hc4 : e.length <= c4) (hLt : LC w0 b v1 v2 v3 t) (hLe : LC w0 b v1 v2 v3 e) (hok : okS ⟨op, n, a, t, e⟩)
  (hI : I.length + nS ⟨op, n, a, t, e⟩ + 10 < 1000000) (hP : P.length + kS ⟨op, n, a, t, e⟩ <= 1000000) (hB : Below w0.heap.size w0 w) (hS : CSt w w0.heap.size b Q v1 v2 v3 I P) (hQ : ∀ k, Q k -> k < w.heap.size) :
  Calls Tryz.prog 93 #[.pointer (some ⟨b, 0, none⟩), .agg (Vh op n A2 a c2 A3 t c3 A4 e c4)] w fun en w' => en = .returned (.tuple #[]) /\
   CSt w' w0.heap.size b (fun k => Q k \/ w.heap.size <= k) v1 v2 v3 (I ++ cS ⟨op, n, a, t, e⟩ I.length) (P ++ plS ⟨op, n, a, t, e⟩ I.length) /\ Below w0.heap.size w0 w' /\ zN w w' (fun k => Q k \/ k = b) := by
 have huE := Tryz.underlying62
 have huS := Tryz.underlying81
 have huC := Tryz.underlying89
 have hbl := hS.lt
 have hal := hr2.2.1
 have HI := am hI
 have HP := am hP
 have HOK := am hok
 have HR2 := am hr2
 have HC2 := am hc2
 have HR3 := am hr3
 have HC3 := am hc3
 have HR4 := am hr4
 have HC4 := am hc4
 have LT := am hLt
 have LE := am hLe
 have HQ := am hQ
 have h1 := kal (zI w (.cells #[.pointer (some ⟨b, 0, none⟩)] 83)) (.cells (Vh op n A2 a c2 A3 t c3 A4 e c4) 81)
 have h2 := zI (w.alloc (.cells #[.pointer (some ⟨b, 0, none⟩)] 83)) (.cells (Vh op n A2 a c2 A3 t c3 A4 e c4) 81)
 have h3 : (w.alloc (.cells #[.pointer (some ⟨b, 0, none⟩)] 83)).heap.size = w.heap.size + 1 := by simp
 rw [h3] at h2
 have h4 : ((w.alloc (.cells #[.pointer (some ⟨b, 0, none⟩)] 83)).alloc (.cells (Vh op n A2 a c2 A3 t c3 A4 e c4) 81)).heap.size = w.heap.size + 2 := by simp
 have h5 := bal (bal (jc w.heap.size w) (.cells #[.pointer (some ⟨b, 0, none⟩)] 83)) (.cells (Vh op n A2 a c2 A3 t c3 A4 e c4) 81)
 have HX1 := am h1
 have HX2 := am h2
 have HSZ := am h4
 have HA := am h5
 have HB := am (hB.trans (h5.mono hB.size))
 have HS := am (hS.below h5)
 clear hI hP hok hr2 hc2 hr3 hc3 hr4 hc4 hLt hLe hQ hB hS h1 h2 h3 h4 h5
 go_enter Tryz.func93, Tryz.ntmps93
 have x2 : ((w.alloc (.cells #[.pointer (some ⟨b, 0, none⟩)] 83)).alloc (.cells (Vh op n A2 a c2 A3 t c3 A4 e c4) 81)).cell? ⟨w.heap.size + 1, 2, none⟩ = some (.slice A2 a.length c2) := (za HX2.out 2).trans rfl
 go_wp2
 clear x2
 generalize ((w.alloc (.cells #[.pointer (some ⟨b, 0, none⟩)] 83)).alloc (.cells (Vh op n A2 a c2 A3 t c3 A4 e c4) 81)) = W1 at HX1 HX2 HSZ HA HB HS ⊢
 by_cases hop : op = 1 \/ op = 2
 ·have hop' := am hop
  go_loopg [10] a.length (fun kq v10 X => ∃ j : Nat, v10 = .int .i64 (j : Int) /\ Aside0 (j + kq = a.length) /\ Aside0 (Below W1.heap.size W1 X))
  case atStart => exact ⟨0, rfl, ⟨by omega⟩, ⟨jc _ _⟩⟩
  case round =>
   obtain ⟨j, rfl, HJ, BB⟩ := hrel
   have hws : w.heap.size + 1 < W1.heap.size := by have := HSZ.out; omega
   have HX1r := am ((BB.out.block _ (by omega)).trans HX1.out)
   have HX2r := am ((BB.out.block _ hws).trans HX2.out)
   have x0 : wr.cell? ⟨w.heap.size, 0, none⟩ = some (.pointer (some ⟨b, 0, none⟩)) := (za HX1r.out 0).trans rfl
   have y0 : wr.cell? ⟨w.heap.size + 1, 0, none⟩ = some (.int .i64 op) := (za HX2r.out 0).trans rfl
   cases gk with
   | succ k1 =>
    have hj : j < a.length := by have := HJ.out; omega
    have hd : decide ((j : Int) < (a.length : Int)) = true := dT (by omega)
    obtain ⟨ad, B3, d3, e3, q0, q1, q2, q3, ql3, qr3⟩ := Zk HR2.out (j : Int) (by omega) (by omega)
    subst e3
    generalize zi a (j : Int) = x at q0 q1 q2 q3 ql3 qr3
    have hBx := HB.out.trans (BB.out.mono HB.out.size)
    replace q0 := (hBx.cell (jd w0 _ q0)).trans q0
    replace q1 := (hBx.cell (jd w0 _ q1)).trans q1
    replace q2 := (hBx.cell (jd w0 _ q2)).trans q2
    replace q3 := (hBx.cell (jd w0 _ q3)).trans q3
    simp only [jh] at q0 q1 q2 q3
    have hw1 : IntKind.i64.wrap ((j : Int) + 1) = (j : Int) + 1 := by rw [zP]; unfold wrap64; omega
    have HBA := am (BB.out.trans ((bal (jc wr.heap.size wr) (.cells (Ve x.f0 x.f1 x.f2 B3 x.f3 d3) 62)).mono BB.out.size))
    have z0 : (wr.alloc (.cells (Ve x.f0 x.f1 x.f2 B3 x.f3 d3) 62)).cell? ⟨w.heap.size + 1, 0, none⟩ = some (.int .i64 op) := (za ((HBA.out.block _ hws).trans HX2.out) 0).trans rfl
    clear hBx ql3 qr3 hop
    have fin : IntKind.i64.wrap ((j : Int) + 1) = ((j + 1 : Nat) : Int) := by rw [hw1]; simp
    rcases hop'.out with rfl | rfl
    all_goals
     go_wp2
     go_roundg k1
     case measure => omega
     case rel => exact ⟨j + 1, by simp, ⟨by have := HJ.out; omega⟩, HBA⟩
   | zero =>
    have hj : j = a.length := by have := HJ.out; omega
    subst hj
    have hd : decide ((a.length : Int) < (a.length : Int)) = false := dF (by omega)
    clear hop
    have HSr := am (HS.out.below BB.out)
    have HBr := am (HB.out.trans (BB.out.mono HB.out.size))
    have HKr := am (show zN w wr (fun k => Q k \/ k = b) from (zN.of_below HA.out _).below BB.out)
    have hsr := BB.out.size
    have e1 : (1 == (0 : Int)) = false := rfl
    have y1 : wr.cell? ⟨w.heap.size + 1, 1, none⟩ = some (.int .i64 n) := (za HX2r.out 1).trans rfl
    have y2 : wr.cell? ⟨w.heap.size + 1, 2, none⟩ = some (.slice A2 a.length c2) := (za HX2r.out 2).trans rfl
    have y3 : wr.cell? ⟨w.heap.size + 1, 3, none⟩ = some (.slice A3 t.length c3) := (za HX2r.out 3).trans rfl
    have y4 : wr.cell? ⟨w.heap.size + 1, 4, none⟩ = some (.slice A4 e.length c4) := (za HX2r.out 4).trans rfl
    clear HX2 HX1 HS HB HA
    rcases hop'.out with rfl | rfl
    ·have ok := HOK.out
     have hI := HI.out
     have hP := HP.out
     rw [okS] at ok
     rw [nS, jb (.inl rfl)] at hI
     rw [kS, jb (.inl rfl)] at hP
     have OK := am ok
     have HI' := am hI
     clear ok hI HI
     go_wp2_with (first | (go_at_call 114; refine (z2p.calls w0 b v1 v2 v3 hb 1 n a t e A2 c2 A3 c3 A4 c4 115 (.inl rfl) #[] (fun _ => False) [] I P Q wr HR2.out HC2.out HR3.out HC3.out HR4.out HC4.out LT.out LE.out (OK.out.1 (by simp)) OK.out.2.1 OK.out.2.2 (by have := HI'.out; split at this <;> simp_all <;> omega) (by omega) HBr.out HSr.out (fun k hk => by have := HQ.out k hk; have := HSZ.out; omega) (fun _ h => h.elim) (beh1 w0 b v1 v2 v3 wr)).mono ?_; rintro en W2 ⟨rfl, hs2, hb2, hk2⟩))
     go_end0
     refine ⟨rfl, ?_, hb2, HKr.out.then_ hk2 (fun k hk => .inl hk)⟩
     have e1 : cS ⟨1, n, a, t, e⟩ I.length = brC I.length (cE (hdE a) 0) (cSs t (I.length + nE (hdE a) + 1)) (cSs e (I.length + nE (hdE a) + 1 + nSs t + 1)) [] (decide (0 < e.length)) := by rw [cS, jb (.inl rfl), ja (by decide)]
     have e2 : plS ⟨1, n, a, t, e⟩ I.length = yy t (I.length + nE (hdE a) + 1) ++ yy e (I.length + nE (hdE a) + 1 + nSs t + 1) := by rw [plS, jb (.inl rfl)]
     rw [e1, e2]
     exact hs2.mono (fun k hk _ => by rcases hk with hk | hk; exact .inl hk; exact .inr (by have := HSZ.out; omega))
    ·have ok := HOK.out
     have hI := HI.out
     have hP := HP.out
     rw [okS] at ok
     rw [nS, jb (.inr rfl)] at hI
     rw [kS, jb (.inr rfl)] at hP
     have OK := am ok
     have HI' := am hI
     clear ok hI HI
     go_upto_region 14 with (first | (go_at_call 92; refine (z1d.calls wr w0.heap.size b Q v1 v2 v3 I P HSr.out).mono ?_; rintro en W' ⟨rfl, hw'⟩; have HW := am hw'; clear hw'))
     have hbW := bal HW.out (.cells #[.int .i64 (I.length : Int)] 3)
     have hnW := zI W' (.cells #[.int .i64 (I.length : Int)] 3)
     have hsW : (W'.alloc (.cells #[.int .i64 (I.length : Int)] 3)).heap.size = W'.heap.size + 1 := by simp
     have hs' := HW.out.size
     have X1 := am (zd HX1r.out hbW)
     have X2 := am (zd HX2r.out hbW)
     have XN := am hnW
     have SW := am hsW
     have BW := am hbW
     have x0 : (W'.alloc (.cells #[.int .i64 (I.length : Int)] 3)).cell? ⟨w.heap.size, 0, none⟩ = some (.pointer (some ⟨b, 0, none⟩)) := (za X1.out 0).trans rfl
     have y0 : (W'.alloc (.cells #[.int .i64 (I.length : Int)] 3)).cell? ⟨w.heap.size + 1, 0, none⟩ = some (.int .i64 2) := (za X2.out 0).trans rfl
     have y1 : (W'.alloc (.cells #[.int .i64 (I.length : Int)] 3)).cell? ⟨w.heap.size + 1, 1, none⟩ = some (.int .i64 n) := (za X2.out 1).trans rfl
     have y2 : (W'.alloc (.cells #[.int .i64 (I.length : Int)] 3)).cell? ⟨w.heap.size + 1, 2, none⟩ = some (.slice A2 a.length c2) := (za X2.out 2).trans rfl
     have y3 : (W'.alloc (.cells #[.int .i64 (I.length : Int)] 3)).cell? ⟨w.heap.size + 1, 3, none⟩ = some (.slice A3 t.length c3) := (za X2.out 3).trans rfl
     have y4 : (W'.alloc (.cells #[.int .i64 (I.length : Int)] 3)).cell? ⟨w.heap.size + 1, 4, none⟩ = some (.slice A4 e.length c4) := (za X2.out 4).trans rfl
     clear hbW hnW hsW
     generalize W'.alloc (.cells #[.int .i64 (I.length : Int)] 3) = W3 at X1 X2 XN SW BW x0 y0 y1 y2 y3 y4 ⊢
     have BE := beh2 w0 b v1 v2 v3 hb W3 w.heap.size W'.heap.size I.length X1.out XN.out
     have HR' : ∀ k, (k = w.heap.size \/ k = W'.heap.size) -> k < W3.heap.size /\ ¬ Q k /\ k ≠ b := fun k hk => by
      have h1 := SW.out
      have h2 := HQ.out k
      exact ⟨by omega, fun hq => by have := h2 hq; omega, by omega⟩
     have BEH := am BE
     have hbd : I.length + nE (hdE a) + 1 + nSs t + (if e.length = 0 then ([⟨5, (I.length : Int), 0, 0, 0⟩] : List S93).length else 1 + nSs e) + 10 < 1000000 := by
      have h9 := HI'.out
      by_cases he : e.length = 0
      ·rw [jb he] at h9 ⊢
       simp only [if_true] at h9
       simp only [List.length_singleton]
       omega
      ·rw [ja he] at h9 ⊢
       omega
     have HRR := am HR'
     clear BE HR'
     go_wp2_with (first | (go_at_call 114; refine (z2p.calls w0 b v1 v2 v3 hb 2 n a t e A2 c2 A3 c3 A4 c4 116 (.inr rfl) #[.pointer (some ⟨w.heap.size, 0, none⟩), .pointer (some ⟨W'.heap.size, 0, none⟩)] (fun k => k = w.heap.size \/ k = W'.heap.size) [⟨5, (I.length : Int), 0, 0, 0⟩] I P Q W3 HR2.out HC2.out HR3.out HC3.out HR4.out HC4.out LT.out LE.out (OK.out.1 (by simp)) OK.out.2.1 OK.out.2.2 hbd (by omega) (HBr.out.trans (BW.out.mono HBr.out.size)) (HSr.out.below BW.out) (fun k hk => by have := HQ.out k hk; have := BW.out.size; omega) HRR.out BEH.out).mono ?_; rintro en W2 ⟨rfl, hs2, hb2, hk2⟩))
     go_end0
     refine ⟨rfl, ?_, hb2, (HKr.out.below BW.out).then_ hk2 (fun k hk => .inl hk)⟩
     have e1 : cS ⟨2, n, a, t, e⟩ I.length = brC I.length (cE (hdE a) 0) (cSs t (I.length + nE (hdE a) + 1)) (cSs e (I.length + nE (hdE a) + 1 + nSs t + 1)) [⟨5, (I.length : Int), 0, 0, 0⟩] (decide (0 < e.length)) := by rw [cS, jb (.inr rfl), jb rfl]
     have e2 : plS ⟨2, n, a, t, e⟩ I.length = yy t (I.length + nE (hdE a) + 1) ++ yy e (I.length + nE (hdE a) + 1 + nSs t + 1) := by rw [plS, jb (.inr rfl)]
     rw [e1, e2]
     exact hs2.mono (fun k hk _ => by rcases hk with hk | hk; exact .inl hk; exact .inr (by have := BW.out.size; have := HSZ.out; omega))
 ·have h1 : op ≠ 1 := fun h => hop (.inl h)
  have h2 : op ≠ 2 := fun h => hop (.inr h)
  have e1 := (beq_eq_false_iff_ne (a := op)).mpr h1
  have e2 := (beq_eq_false_iff_ne (a := op)).mpr h2
  have n1 := bN h1
  have n2 := bN h2
  have hI := HI.out
  rw [nS, ja hop] at hI
  have HI' := am hI
  have hge := z2Y a
  have hnb : I.length + nAs a + 10 < 1000000 := by omega
  have HCS := am (show cS ⟨op, n, a, t, e⟩ I.length = cAs a 0 ++ cT op n a.length by rw [cS, ja hop])
  have HPL := am (show plS ⟨op, n, a, t, e⟩ I.length = [] by rw [plS, ja hop])
  clear hop hI HI h1 h2 HR3 HC3 HR4 HC4 LT LE HOK HP
  have HS1 := am (HS.out.mono (Q' := fun k => Q k \/ w.heap.size + 1 < k) (fun k hk _ => .inl hk))
  have HK1 := am (show zN w W1 (fun k => Q k \/ k = b) from zN.of_below HA.out _)
  have hsz1 : W1.heap.size = w.heap.size + 2 := HSZ.out
  have NQ := am (show ∀ k, w.heap.size <= k -> k <= w.heap.size + 1 -> ¬ ((Q k \/ w.heap.size + 1 < k) \/ k = b) from fun k h1 h2 h => by
   rcases h with (h | h) | h
   ·have := HQ.out k h; omega
   ·omega
   ·omega)
  clear hsz1 HS HA
  go_loopg [10] a.length (fun kq v10 X => ∃ j : Nat, v10 = .int .i64 (j : Int) /\ Aside0 (j + kq = a.length) /\ Aside0 (CSt X w0.heap.size b (fun k => Q k \/ w.heap.size + 1 < k) v1 v2 v3 (I ++ cAs (a.take j) 0) P) /\ Aside0 (X.heap[w.heap.size]? = some (.cells #[.pointer (some ⟨b, 0, none⟩)] 83 (0, 0))) /\ Aside0 (X.heap[w.heap.size + 1]? = some (.cells (Vh op n A2 a c2 A3 t c3 A4 e c4) 81 (0, 0))) /\ Aside0 (Below w0.heap.size w0 X) /\ Aside0 (zN w X (fun k => Q k \/ k = b)))
  case atStart => exact ⟨0, rfl, ⟨by omega⟩, ⟨by rw [List.take_zero, cAs, List.append_nil]; exact HS1.out⟩, HX1, HX2, HB, HK1⟩
  case round =>
   clear HX1 HX2 HSZ HB HS1 HK1
   obtain ⟨j, rfl, HJ, HS, HX1, HX2, HB, HK⟩ := hrel
   have x0 : wr.cell? ⟨w.heap.size, 0, none⟩ = some (.pointer (some ⟨b, 0, none⟩)) := (za HX1.out 0).trans rfl
   have y0 : wr.cell? ⟨w.heap.size + 1, 0, none⟩ = some (.int .i64 op) := (za HX2.out 0).trans rfl
   have hlt2 := zM HX2.out
   cases gk with
   | succ k1 =>
    have hj : j < a.length := by have := HJ.out; omega
    have hd : decide ((j : Int) < (a.length : Int)) = true := dT (by omega)
    obtain ⟨ad, B3, d3, e3, q0, q1, q2, q3, ql3, qr3⟩ := Zk HR2.out (j : Int) (by omega) (by omega)
    subst e3
    have hxi : a[j]? = some (zi a (j : Int)) := by unfold zi; rw [jh, jw, jn hj]; rfl
    generalize zi a (j : Int) = x at q0 q1 q2 q3 ql3 qr3 hxi
    obtain ⟨xo, xn, xc, xl⟩ := x
    have hxn := z2X a j _ hxi
    rw [nE] at hxn
    have HCT := am (z3d a 0 j _ hxi)
    have htk := z2Y (a.take j)
    rw [List.length_take] at htk
    dsimp only at q0 q1 q2 q3 ql3 qr3
    replace q0 := (HB.out.cell (jd w0 _ q0)).trans q0
    replace q1 := (HB.out.cell (jd w0 _ q1)).trans q1
    replace q2 := (HB.out.cell (jd w0 _ q2)).trans q2
    replace q3 := (HB.out.cell (jd w0 _ q3)).trans q3
    simp only [jh] at q0 q1 q2 q3
    have hw1 : IntKind.i64.wrap ((j : Int) + 1) = (j : Int) + 1 := by rw [zP]; unfold wrap64; omega
    have W1B := am (bal (jc wr.heap.size wr) (.cells (Ve xo xn xc B3 xl d3) 62))
    have z0 : (wr.alloc (.cells (Ve xo xn xc B3 xl d3) 62)).cell? ⟨w.heap.size, 0, none⟩ = some (.pointer (some ⟨b, 0, none⟩)) := (za (kal HX1.out _) 0).trans rfl
    have z1 : (wr.alloc (.cells (Ve xo xn xc B3 xl d3) 62)).cell? ⟨w.heap.size + 1, 0, none⟩ = some (.int .i64 op) := (za (kal HX2.out _) 0).trans rfl
    have QR := am qr3
    have QL := am ql3
    have hlI : (I ++ cAs (a.take j) 0).length + nAs xl + 1 < 1000000 := by
     rw [je, z0e]
     omega
    clear qr3 ql3 hxi
    go_wp2_with (first | (go_at_call 112; refine (z3G.go w0 b v1 v2 v3 P hb xl xo xn xc B3 d3 (j : Int) (I ++ cAs (a.take j) 0) (fun k => (Q k \/ w.heap.size + 1 < k) /\ k < wr.heap.size) _ QR.out QL.out (by omega) (by omega) hlI (HB.out.trans (W1B.out.mono HB.out.size)) (HS.out.bound.below W1B.out) ?hq).mono ?_; (case hq => intro k hk; have := hk.2; have := W1B.out.size; omega); rintro en W2 ⟨rfl, hs2, hb2, hk2⟩))
    have hsz := W1B.out.size
    have nq : ∀ k, w.heap.size <= k -> k <= w.heap.size + 1 -> ¬ (((Q k \/ w.heap.size + 1 < k) /\ k < wr.heap.size) \/ k = b) := fun k h1 h2 h => NQ.out k h1 h2 (h.imp And.left id)
    have HX12 := am ((hk2.2 w.heap.size (by omega) (nq _ (by omega) (by omega))).trans ((W1B.out.block _ (by omega)).trans HX1.out))
    have HX22 := am ((hk2.2 (w.heap.size + 1) (by omega) (nq _ (by omega) (by omega))).trans ((W1B.out.block _ (by omega)).trans HX2.out))
    have HS2 := am hs2
    have HB2 := am hb2
    have HK2 := am ((HK.out.below W1B.out).then_ hk2 (fun k hk => by rcases hk with ⟨hq | hq, _⟩ | hq; exact .inl (.inl hq); exact .inr (by omega); exact .inl (.inr hq)))
    clear hs2 hb2 hk2 HX1 HX2 HS HB HK nq
    go_roundg k1
    case measure => omega
    case rel =>
     refine ⟨j + 1, by simp, ⟨by have := HJ.out; omega⟩, ⟨?_⟩, HX12, HX22, HB2, HK2⟩
     rw [HCT.out, <- ju, Int.zero_add]
     exact HS2.out.mono (fun k hk _ => by rcases hk with ⟨hq, _⟩ | hq; exact hq; exact .inr (by omega))
   | zero =>
    have hj : j = a.length := by have := HJ.out; omega
    subst hj
    have hd : decide ((a.length : Int) < (a.length : Int)) = false := dF (by omega)
    have y1 : wr.cell? ⟨w.heap.size + 1, 1, none⟩ = some (.int .i64 n) := (za HX2.out 1).trans rfl
    have y2 : wr.cell? ⟨w.heap.size + 1, 2, none⟩ = some (.slice A2 a.length c2) := (za HX2.out 2).trans rfl
    have hS : CSt wr w0.heap.size b (fun k => Q k \/ w.heap.size + 1 < k) v1 v2 v3 (I ++ cAs a 0) P := by
     have := HS.out
     rwa [List.take_of_length_le (jk _)] at this
    obtain ⟨J, hJ⟩ : ∃ J, J = I ++ cAs a 0 := ⟨_, rfl⟩
    have hJl : J.length + 10 < 1000000 := by rw [hJ, je, z0e]; omega
    have HG := am (show I ++ cS ⟨op, n, a, t, e⟩ I.length = J ++ cT op n a.length by rw [HCS.out, hJ, ju])
    rw [<- hJ] at hS
    have HSJ := am hS
    clear hS HS hJ
    have hw9 : IntKind.i64.wrap ((a.length : Int) - 1) = (a.length : Int) - 1 := by rw [zP]; unfold wrap64; omega
    have fin : ∀ (w' : World) (code : List S93) (S : Nat -> Prop), cT op n a.length = code -> (∀ k, S k -> Q k \/ w.heap.size <= k) -> CSt w' w0.heap.size b S v1 v2 v3 (J ++ code) P -> CSt w' w0.heap.size b (fun k => Q k \/ w.heap.size <= k) v1 v2 v3 (I ++ cS ⟨op, n, a, t, e⟩ I.length) (P ++ plS ⟨op, n, a, t, e⟩ I.length) := by
     intro w' code S hc hS hs
     rw [HG.out, hc, HPL.out, List.append_nil]
     exact hs.mono (fun k hk _ => hS k hk)
    have FIN := am fin
    have KS : ∀ (w' : World) (S : Nat -> Prop), (∀ k, S k -> (Q k \/ w.heap.size + 1 < k) \/ k = b) -> zN wr w' S -> zN w w' (fun k => Q k \/ k = b) := fun w' S hS hk => HK.out.then_ hk (fun k h => by rcases hS k h with (h | h) | h; exact .inl (.inl h); exact .inr (by omega); exact .inl (.inr h))
    have KEEP := am KS
    have hwr := HK.out.1
    clear fin KS HCS HPL
    by_cases h0 : op = 0
    ·subst h0
     have HCT := am (show cT 0 n a.length = [⟨4, n, 0, (a.length : Int) - 1, 0⟩] by simp [cT])
     go_wp2_with (first | (go_at_call 113; refine (z39.calls w0 wr b _ v1 v2 v3 J P n ((a.length : Int) - 1) HB.out hb HSJ.out (by omega)).mono ?_; rintro en W2 ⟨rfl, hs2, hb2, hk2⟩))
     go_end0
     exact ⟨rfl, FIN.out _ _ _ HCT.out (fun k hk => by rcases hk with (h | h) | h; exact .inl h; exact .inr (by omega); exact .inr (by omega)) hs2, hb2, KEEP.out _ _ (fun k h => h) hk2⟩
    have e0 := (beq_eq_false_iff_ne (a := op)).mpr h0
    by_cases h3 : op = 3
    ·subst h3
     have HCT := am (show cT 3 n a.length = [⟨7, n, 0, 0, 0⟩] by simp [cT])
     go_wp2
     refine sT 7 [0, 1, 2, 3, 4, 5, 6] [6] fun hHeld => ?_
     have hq0_0 : World.cell? _ ⟨w.heap.size, 0, none⟩ = some (.pointer (some ⟨b, 0, none⟩)) := (za (kdr HX1.out) 0).trans rfl
     have hq0_1 : World.cell? _ ⟨w.heap.size + 1, 1, none⟩ = some (.int .i64 n) := (za (kdr HX2.out) 1).trans rfl
     have hq0_2 : World.cell? _ ⟨w.heap.size + 1, 2, none⟩ = some (.slice A2 a.length c2) := (za (kdr HX2.out) 2).trans rfl
     repeat first | refine nx ?_ | refine ldT hHeld ?_ | refine un ?_
     refine la fun K hK => ?_
     refine gC Tryz.func62 ?_
     refine (ZQ.calls w0 wr.drew b _ v1 v2 v3 J P ⟨7, n, 0, 0, 0⟩ (HB.out.trans ((zj (jc _ _)).mono HB.out.size)) hb (HSJ.out.below (zj (jc _ _))) (by omega)).mono ?_
     rintro en Y2 ⟨rfl, hs, hb2, hk⟩
     refine ⟨_, rfl, ?_⟩
     refine hK.out _ _ ?_
     clear hK K
     refine nM ?_
     refine dn ?_
     have HF := am (And.intro hs (And.intro hb2 hk))
     clear hs hb2 hk
     go_wp2
     go_end0
     exact ⟨rfl, FIN.out _ _ _ HCT.out (fun k hk => by rcases hk with (h | h) | h; exact .inl h; exact .inr (by omega); exact .inr (by have : wr.heap.size <= k := h; omega)) HF.out.1, HF.out.2.1, KEEP.out _ _ (fun k h => h) ((zN.of_below (zj (jc _ _)) _).then_ HF.out.2.2 (fun k h => .inl h))⟩
    have e3 := (beq_eq_false_iff_ne (a := op)).mpr h3
    by_cases h4 : op = 4
    ·subst h4
     have HCT := am (show cT 4 n a.length = [⟨8, a.length, 0, 0, 0⟩] ++ [⟨4, n, 0, a.length, 0⟩] by simp [cT])
     go_wp2
     refine sT 8 [0, 1, 2, 3, 4, 5, 6, 7] [7] fun hHeld => ?_
     have hq1_0 : World.cell? _ ⟨w.heap.size, 0, none⟩ = some (.pointer (some ⟨b, 0, none⟩)) := (za (kdr HX1.out) 0).trans rfl
     have hq1_1 : World.cell? _ ⟨w.heap.size + 1, 1, none⟩ = some (.int .i64 n) := (za (kdr HX2.out) 1).trans rfl
     have hq1_2 : World.cell? _ ⟨w.heap.size + 1, 2, none⟩ = some (.slice A2 a.length c2) := (za (kdr HX2.out) 2).trans rfl
     repeat first | refine nx ?_ | refine ldT hHeld ?_ | refine un ?_
     refine la fun K hK => ?_
     refine gC Tryz.func62 ?_
     refine (ZQ.calls w0 wr.drew b _ v1 v2 v3 J P ⟨8, a.length, 0, 0, 0⟩ (HB.out.trans ((zj (jc _ _)).mono HB.out.size)) hb (HSJ.out.below (zj (jc _ _))) (by omega)).mono ?_
     rintro en Y2 ⟨rfl, hs, hb2, hk⟩
     refine ⟨_, rfl, ?_⟩
     refine hK.out _ _ ?_
     clear hK K
     refine nM ?_
     refine dn ?_
     have hk9 : zN wr Y2 (fun k => (Q k \/ w.heap.size + 1 < k) \/ k = b) := (zN.of_below (zj (jc _ _)) _).then_ hk (fun k h => .inl h)
     have X1 := am ((hk9.2 w.heap.size (by omega) (NQ.out _ (by omega) (by omega))).trans HX1.out)
     have X2 := am ((hk9.2 (w.heap.size + 1) (by omega) (NQ.out _ (by omega) (by omega))).trans HX2.out)
     have u0 : Y2.cell? ⟨w.heap.size, 0, none⟩ = some (.pointer (some ⟨b, 0, none⟩)) := (za X1.out 0).trans rfl
     have u1 : Y2.cell? ⟨w.heap.size + 1, 1, none⟩ = some (.int .i64 n) := (za X2.out 1).trans rfl
     have u2 : Y2.cell? ⟨w.heap.size + 1, 2, none⟩ = some (.slice A2 a.length c2) := (za X2.out 2).trans rfl
     have hsy := hk9.1
     have HSY := am hs
     have HBY := am hb2
     have HKY := am (KEEP.out _ _ (fun k h => h) hk9)
     clear hs hb2 hk hk9 X1 X2
     go_wp2_with (first | (go_at_call 113; refine (z39.calls w0 Y2 b _ v1 v2 v3 _ P n (a.length : Int) HBY.out hb HSY.out (by rw [je]; simp only [List.length_singleton]; omega)).mono ?_; rintro en W2 ⟨rfl, hs2, hb2, hk2⟩))
     go_end0
     refine ⟨rfl, FIN.out _ _ _ HCT.out (fun k hk => ?_) (by rw [<- ju]; exact hs2), hb2, HKY.out.then_ hk2 (fun k hk => ?_)⟩
     ·rcases hk with ((h | h) | h) | h
      ·exact .inl h
      ·exact .inr (by omega)
      ·exact .inr (by have : wr.heap.size <= k := h; omega)
      ·exact .inr (by omega)
     ·rcases hk with ((h | h) | h) | h
      ·exact .inl (.inl h)
      ·exact .inr (by omega)
      ·exact .inr (by have : wr.heap.size <= k := h; omega)
      ·exact .inl (.inr h)
    have e4 := (beq_eq_false_iff_ne (a := op)).mpr h4
    by_cases h5 : op = 5
    ·subst h5
     have HCT := am (show cT 5 n a.length = [⟨9, 0, 0, 0, 0⟩] by simp [cT])
     go_wp2_with (first | (go_at_call 62; refine (ZQ.calls w0 wr b _ v1 v2 v3 J P ⟨9, 0, 0, 0, 0⟩ HB.out hb HSJ.out (by omega)).mono ?_; rintro en W2 ⟨rfl, hs2, hb2, hk2⟩))
     go_end0
     exact ⟨rfl, FIN.out _ _ _ HCT.out (fun k hk => by rcases hk with (h | h) | h; exact .inl h; exact .inr (by omega); exact .inr (by omega)) hs2, hb2, KEEP.out _ _ (fun k h => h) hk2⟩
    have e5 := (beq_eq_false_iff_ne (a := op)).mpr h5
    by_cases h6 : op = 6
    ·subst h6
     have HCT := am (show cT 6 n a.length = [⟨10, 0, 0, 0, 0⟩] by simp [cT])
     go_wp2_with (first | (go_at_call 62; refine (ZQ.calls w0 wr b _ v1 v2 v3 J P ⟨10, 0, 0, 0, 0⟩ HB.out hb HSJ.out (by omega)).mono ?_; rintro en W2 ⟨rfl, hs2, hb2, hk2⟩))
     go_end0
     exact ⟨rfl, FIN.out _ _ _ HCT.out (fun k hk => by rcases hk with (h | h) | h; exact .inl h; exact .inr (by omega); exact .inr (by omega)) hs2, hb2, KEEP.out _ _ (fun k h => h) hk2⟩
    have e6 := (beq_eq_false_iff_ne (a := op)).mpr h6
    have HCT := am (show cT op n a.length = [] by simp [cT, h0, h3, h4, h5, h6])
    clear h0 h3 h4 h5 h6
    go_wp2
    go_end0
    exact ⟨rfl, FIN.out _ _ (fun k => Q k \/ w.heap.size + 1 < k) HCT.out (fun k hk => by rcases hk with h | h; exact .inl h; exact .inr (by omega)) (by rw [List.append_nil]; exact HSJ.out), HB.out, HK.out⟩
theorem infoInt : (Tryz.prog.info? 3).map (fun i => (i.zero, i.size, i.bytes)) = some (some (.int .i64 0), 1, 8) := by kernel_rfl
theorem z4O : ∀ (l : List S81) (p i : Nat) (x : S81), l[i]? = some x -> cSs (l.take (i + 1)) p = cSs (l.take i) p ++ cS x (p + nSs (l.take i))
 | [], _, _, _, h => by simp at h
 | a :: t, p, 0, x, h => by
  obtain rfl : a = x := by simpa using h
  simp [cSs, nSs]
 | a :: t, p, i + 1, x, h => by
  rw [List.take_succ_cons, List.take_succ_cons, cSs, cSs, nSs, z4O t (p + nS a) i x (by simpa using h), ju, Nat.add_assoc]
theorem z3w : ∀ (l : List S81) (p i : Nat) (x : S81), l[i]? = some x -> yy (l.take (i + 1)) p = yy (l.take i) p ++ (((p + nSs (l.take i) : Nat) : Int) :: plS x (p + nSs (l.take i)))
 | [], _, _, _, h => by simp at h
 | a :: t, p, 0, x, h => by
  obtain rfl : a = x := by simpa using h
  simp [yy, nSs]
 | a :: t, p, i + 1, x, h => by
  rw [List.take_succ_cons, List.take_succ_cons, yy, yy, nSs, z3w t (p + nS a) i x (by simpa using h), ju, Nat.add_assoc]
theorem z4C : ∀ (l : List S81) (i : Nat) (x : S81), l[i]? = some x -> nSs (l.take i) + nS x <= nSs l
 | [], _, _, h => by simp at h
 | a :: t, 0, x, h => by
  obtain rfl : a = x := by simpa using h
  simp [nSs]
 | a :: t, i + 1, x, h => by
  rw [List.take_succ_cons, nSs, nSs]
  have := z4C t i x (by simpa using h)
  omega
theorem z4F : ∀ (l : List S81) (i : Nat) (x : S81), l[i]? = some x -> kSs (l.take i) + kS x <= kSs l
 | [], _, _, h => by simp at h
 | a :: t, 0, x, h => by
  obtain rfl : a = x := by simpa using h
  simp [kSs]
 | a :: t, i + 1, x, h => by
  rw [List.take_succ_cons, kSs, kSs]
  have := z4F t i x (by simpa using h)
  omega
theorem z5L : ∀ (l : List S81) (i : Nat) (x : S81), z1J l -> l[i]? = some x -> okS x
 | [], _, _, _, h => by simp at h
 | a :: t, 0, x, h, e => by
  obtain rfl : a = x := by simpa using e
  exact h.1
 | a :: t, i + 1, x, h, e => z5L t i x h.2 (by simpa using e)
theorem kS_pos (x : S81) : 0 < kS x := by
 obtain ⟨op, n, a, t, e⟩ := x
 rw [kS]
 split <;> omega
theorem z6y.calls (w0 : World) (b : Nat) (v1 v2 v3 : Value) (hb : w0.heap.size <= b) : ∀ l, LC w0 b v1 v2 v3 l := by
 refine z1Z fun l ih => ?_
 intro A c I P Q w hr hc hok hI hP hB hS hQ
 have huC := Tryz.underlying89
 have huI := Tryz.underlying26
 have HR := am hr
 have HC := am hc
 have HOK := am hok
 have IH := am ih
 have HQ := am hQ
 have hbl := hS.lt
 have hll := hr.2.1
 have HB0 := am hB
 have HS0 := am (hS.mono (Q' := fun k => Q k \/ w.heap.size <= k) (fun k hk _ => .inl hk))
 clear hr hc hok ih hQ hB hS
 go_enter Tryz.func61, Tryz.ntmps61
 go_wp2
 go_loopg [8] l.length (fun kq v8 X => ∃ j : Nat, v8 = .int .i64 (j : Int) /\ Aside0 (j + kq = l.length) /\ Aside0 (CSt X w0.heap.size b (fun k => Q k \/ w.heap.size <= k) v1 v2 v3 (I ++ cSs (l.take j) I.length) (P ++ yy (l.take j) I.length)) /\ Aside0 (Below w0.heap.size w0 X) /\ Aside0 (zN w X (fun k => Q k \/ k = b)))
 case atStart => exact ⟨0, rfl, ⟨by omega⟩, ⟨by rw [List.take_zero, cSs, yy, List.append_nil, List.append_nil]; exact HS0.out⟩, HB0, ⟨zN.refl _ _⟩⟩
 case round =>
  clear HS0 HB0
  obtain ⟨j, rfl, HJ, HS, HB, HK⟩ := hrel
  cases gk with
  | zero =>
   have hj : j = l.length := by have := HJ.out; omega
   subst hj
   have hd : decide ((l.length : Int) < (l.length : Int)) = false := dF (by omega)
   go_wp2
   go_end0
   have := HS.out
   rw [List.take_of_length_le (jk _)] at this
   exact ⟨rfl, this, HB.out, HK.out⟩
  | succ k1 =>
   have hj : j < l.length := by have := HJ.out; omega
   have hd : decide ((j : Int) < (l.length : Int)) = true := dT (by omega)
   obtain ⟨ad, B2, d2, B3, d3, B4, d4, e3, q0, q1, q2, q3, q4, ql2, qr2, ql3, qr3, ql4, qr4⟩ := yH HR.out (j : Int) (by omega) (by omega)
   subst e3
   have hxi : l[j]? = some (zu l (j : Int)) := by unfold zu; rw [jh, jw, jn hj]; rfl
   generalize zu l (j : Int) = x at q0 q1 q2 q3 q4 ql2 qr2 ql3 qr3 ql4 qr4 hxi
   have hxm : x ∈ l := List.mem_of_getElem? hxi
   obtain ⟨op, n, xa, xt, xe⟩ := x
   obtain ⟨it, ie⟩ := IH.out _ hxm
   dsimp only at q0 q1 q2 q3 q4 ql2 qr2 ql3 qr3 ql4 qr4 it ie
   replace q0 := (HB.out.cell (jd w0 _ q0)).trans q0
   replace q1 := (HB.out.cell (jd w0 _ q1)).trans q1
   replace q2 := (HB.out.cell (jd w0 _ q2)).trans q2
   replace q3 := (HB.out.cell (jd w0 _ q3)).trans q3
   replace q4 := (HB.out.cell (jd w0 _ q4)).trans q4
   simp only [jh] at q0 q1 q2 q3 q4
   have HNT := am (z4C l j _ hxi)
   have HKT := am (z4F l j _ hxi)
   have HCT := am (z4O l I.length j _ hxi)
   have HPT := am (z3w l I.length j _ hxi)
   have OKX := am (z5L l j _ HOK.out hxi)
   have QR2 := am qr2
   have QL2 := am ql2
   have QR3 := am qr3
   have QL3 := am ql3
   have QR4 := am qr4
   have QL4 := am ql4
   have IT := am it
   have IE := am ie
   have hw1 : IntKind.i64.wrap ((j : Int) + 1) = (j : Int) + 1 := by rw [zP]; unfold wrap64; omega
   have hkp := kS_pos ⟨op, n, xa, xt, xe⟩
   obtain ⟨J, hJ⟩ : ∃ J, J = I ++ cSs (l.take j) I.length := ⟨_, rfl⟩
   obtain ⟨R, hR⟩ : ∃ R, R = P ++ yy (l.take j) I.length := ⟨_, rfl⟩
   have hs := HS.out
   rw [<- hJ, <- hR] at hs
   have HJl := am (show J.length = I.length + nSs (l.take j) by rw [hJ, je, ZZ])
   have HRl := am (show R.length = P.length + kSs (l.take j) by rw [hR, je, YQ])
   have HJ0 := am hJ
   have HR0 := am hR
   have WB := am (zj (bal (jc wr.heap.size wr) (.cells (Vh op n B2 xa d2 B3 xt d3 B4 xe d4) 81)))
   have XN := am (kdr (zI wr (.cells (Vh op n B2 xa d2 B3 xt d3 B4 xe d4) 81)))
   have hs1 : CSt wr w0.heap.size b (fun k => (Q k \/ w.heap.size <= k) /\ k < wr.heap.size) v1 v2 v3 J R := hs.bound
   clear qr2 ql2 qr3 ql3 qr4 ql4 it ie hJ hR hs HS hxi hxm
   obtain ⟨Ai, ci, Ap, cp, t1, t2, t3⟩ := hs1
   have T1 := am ((WB.out.block _ (zM t1)).trans t1)
   have T2 := am (Kd.R_below t2 WB.out)
   have T3 := am (Kd.R_below t3 WB.out)
   have hblr := zM t1
   clear t1 t2 t3
   have hwr := HK.out.1
   go_wp2
   have hsz : (wr.alloc (.cells (Vh op n B2 xa d2 B3 xt d3 B4 xe d4) 81)).drew.heap.size = wr.heap.size + 1 := by show (wr.alloc _).heap.size = _; simp
   have HSZ := am hsz
   clear hsz
   refine sT 14 [0, 1, 2, 3, 5, 6, 7, 4, 8, 9, 10, 11, 12, 13] [10, 13] fun hHeld => ?_
   generalize (wr.alloc (.cells (Vh op n B2 xa d2 B3 xt d3 B4 xe d4) 81)).drew = Y at WB XN T1 T2 T3 HSZ hHeld ⊢
   have hq0_0 := bq T1.out
   repeat first | refine nx ?_ | refine ldT hHeld ?_ | refine un ?_
   refine on fun K hK => ?_
   refine gC Tryz.func92 ?_
   refine (z1d.calls Y w0.heap.size b _ v1 v2 v3 J R ⟨_, _, _, _, T1.out, T2.out, T3.out⟩).mono ?_
   rintro en Z ⟨rfl, hz⟩
   refine ⟨_, rfl, ?_⟩
   have HZ := am hz
   have U1 := am (zd T1.out hz)
   have U2 := am (Kd.R_below T2.out hz)
   have U3 := am (Kd.R_below T3.out hz)
   have XZ := am (zd XN.out hz)
   have WZ := am (WB.out.trans (hz.mono WB.out.size))
   have hzs := hz.size
   refine hK.out _ _ (kp hHeld) fun hHeld => ?_
   clear hK K
   refine nM ?_
   refine on fun K hK => ?_
   refine z1m (w1 := ?_) (v := ?_) (by rfl) rfl ?_ ?_
   rotate_left 2
   ·go_simp
    constructor
    ·rfl
    ·rfl
   refine hK.out _ _ (kp hHeld) fun hHeld => ?_
   clear hK K
   refine nM ?_
   refine la fun K hK => ?_
   have BZ := HB.out.trans (WZ.out.mono HB.out.size)
   have R2 := jr U2.out (ok' := fun k => Q k \/ w.heap.size <= k) (fun k hk => hk.1)
   have R3 := jr U3.out (ok' := fun k => ((Q k \/ w.heap.size <= k) /\ k < wr.heap.size) \/ Z.heap.size <= k) (fun k hk => .inl hk)
   refine Kd.R_append_step (Kd.int .i64) (w0 := w0) w0.heap.size (by rfl) (.tmp 16) (.tmp 21) 26 3 (.int .i64 0) 8 rfl huI infoInt rfl (by decide) (by omega) (.slice Ap R.length cp) R (J.length : Int) [.int .i64 (J.length : Int)] (fun k => ((Q k \/ w.heap.size <= k) /\ k < wr.heap.size) \/ Z.heap.size <= k) (fun _ => False) rfl rfl rfl (fun _ hk => hk.elim) (fun k hk => .inr hk) R3 BZ BZ.size (by have h1 := HRl.out; have h2 := HKT.out; omega) ?_
   intro v2' w2 ho hb2 hg hat
   have RA := Kd.R_over' U2.out (Kd.R_typed R3) (by decide) hg
   have HC2 := am (zO U1.out hg (Kd.R_ne R3 U1.out (by decide)))
   have HX2 := am (zO XZ.out hg (Kd.R_ne R3 XZ.out (by decide)))
   have KZ := am (zN.of_grown (S := fun k => Q k \/ k = b) hg (HK.out.below WZ.out) (fun k e => by rcases R3.1 k e with ⟨h | h, _⟩ | h; exact .inl (.inl h); exact .inr h; exact .inr (by have := WZ.out.size; omega)))
   obtain ⟨A2, c2, rfl⟩ := js ho
   have hl : (R ++ [(J.length : Int)]).length = R.length + 1 := by simp
   rw [hl] at ho
   have HO2 := am ho
   have HP2 := am RA
   have HB2 := am hb2
   have hsz2 := hg.size
   clear R2 R3 BZ ho hat RA XN T1 T2 T3 WB U1 U2 U3 XZ
   refine hK.out _ _ ?_
   clear hK K
   refine nM ?_
   repeat first | refine nx ?_ | refine ldT hHeld ?_ | refine un ?_
   refine la fun K hK => ?_
   have hc0 : w2.cell? ⟨b, 4, none⟩ = some (.slice Ap R.length cp) := (za HC2.out 4).trans rfl
   have hf0 := zf HC2.out 4
   refine ZX (w1 := ?_) (by rfl) rfl ?_ ?_
   rotate_left
   ·go_simp
    rfl
   refine hK.out _ _ ?_
   clear hK K
   refine dn ?_
   have V1 := zJ HC2.out 4 (.slice A2 (R.length + 1) c2) (cs' := #[.slice Ai J.length ci, v1, v2, v3, .slice A2 (R.length + 1) c2]) rfl
   have V2 := Kd.R_set HO2.out HC2.out (by decide) 4 (.slice A2 (R.length + 1) c2)
   have V3 := Kd.R_set HP2.out HC2.out (by decide) 4 (.slice A2 (R.length + 1) c2)
   have V4 := Below.setCell HB2.out (p := ⟨b, 4, none⟩) hb (.slice A2 (R.length + 1) c2)
   have V5 := zN.setCell KZ.out (p := ⟨b, 4, none⟩) (.inl (.inr rfl)) (.slice A2 (R.length + 1) c2)
   have V6 := (jl w2 ⟨b, 4, none⟩ (.slice A2 (R.length + 1) c2) wr.heap.size (by show wr.heap.size ≠ b; omega)).trans HX2.out
   have V7 : (w2.setCell ⟨b, 4, none⟩ (.slice A2 (R.length + 1) c2)).heap.size = w2.heap.size := by simp
   generalize w2.setCell ⟨b, 4, none⟩ (.slice A2 (R.length + 1) c2) = W3 at V1 V2 V3 V4 V5 V6 V7 ⊢
   have hS3 : CSt W3 w0.heap.size b (fun k => ((Q k \/ w.heap.size <= k) /\ k < wr.heap.size) \/ Z.heap.size <= k) v1 v2 v3 J (R ++ [(J.length : Int)]) := ⟨Ai, ci, A2, c2, by rw [hl]; exact V1, jr V3 (fun k hk => .inl hk), by rw [hl]; exact V2⟩
   have y0 := (za V6 0).trans rfl
   have HS3 := am hS3
   have HB3 := am V4
   have HK3 := am V5
   have HX3 := am V6
   have hs3 : w2.heap.size <= W3.heap.size := Nat.le_of_eq V7.symm
   have z0 : W3.cell? ⟨wr.heap.size, 0, none⟩ = some (.int .i64 op) := (za V6 0).trans rfl
   have z1 : W3.cell? ⟨wr.heap.size, 1, none⟩ = some (.int .i64 n) := (za V6 1).trans rfl
   have z2 : W3.cell? ⟨wr.heap.size, 2, none⟩ = some (.slice B2 xa.length d2) := (za V6 2).trans rfl
   have z3 : W3.cell? ⟨wr.heap.size, 3, none⟩ = some (.slice B3 xt.length d3) := (za V6 3).trans rfl
   have z4 : W3.cell? ⟨wr.heap.size, 4, none⟩ = some (.slice B4 xe.length d4) := (za V6 4).trans rfl
   clear V1 V2 V3 V4 V5 V6 V7 hS3 HO2 HP2 HB2 KZ HX2 HC2 hc0 hf0 hl y0 hHeld q0 q1 q2 q3 q4
   go_wp2_with (first | (go_at_call 93; refine (z6x.calls w0 b v1 v2 v3 hb op n xa xt xe B2 d2 B3 d3 B4 d4 J (R ++ [(J.length : Int)]) (fun k => (((Q k \/ w.heap.size <= k) /\ k < wr.heap.size) \/ Z.heap.size <= k) /\ k < W3.heap.size) W3 QR2.out QL2.out QR3.out QL3.out QR4.out QL4.out IT.out IE.out OKX.out (by have h1 := HJl.out; have h2 := HNT.out; omega) (by rw [je]; simp only [List.length_singleton]; have h1 := HRl.out; have h2 := HKT.out; omega) HB3.out HS3.out.bound (fun k hk => hk.2)).mono ?_; rintro en W4 ⟨rfl, hs4, hb4, hk4⟩))
   have HS4 := am hs4
   have HB4 := am hb4
   have HK4 := am (HK3.out.then_ hk4 (fun k hk => by rcases hk with ⟨⟨h | h, _⟩ | h, _⟩ | h; exact .inl (.inl h); exact .inr h; exact .inr (by have := WZ.out.size; omega); exact .inl (.inr h)))
   clear hs4 hb4 hk4 HS3 HB3 HK3 HX3 z0 z1 z2 z3 z4
   go_roundg k1
   case measure => omega
   case rel =>
    refine ⟨j + 1, by simp, ⟨by have := HJ.out; omega⟩, ⟨?_⟩, HB4, HK4⟩
    rw [HCT.out, HPT.out, <- ju, <- ju, <- HJ0.out, <- HR0.out, <- HJl.out]
    have := HS4.out
    rw [ju, List.singleton_append] at this
    exact this.mono (fun k hk _ => by rcases hk with ⟨⟨h, _⟩ | h, _⟩ | h; exact h; exact .inr (by have := WZ.out.size; omega); exact .inr (by have := WZ.out.size; omega))
def zG (l : List S81) : List S93 := cSs l 0 ++ [⟨11, 0, 0, 0, 0⟩]
theorem z0i.calls (k : Nat) (a0 : Int) (A1 : Option Addr) (c1 : Nat) (l1 : List S76) (A2 : Option Addr) (c2 : Nat) (l2 : List S81) (r : Int) (w : World) (hr1 : Kd.C k76 w A1 l1.length l1) (hc1 : l1.length <= c1) (hr2 : Kd.C k81 w A2 l2.length l2) (hc2 : l2.length <= c2) (h : Zy.f k a0 l1 l2 = some r) (hok : r = 0 -> z1J l2 /\ nSs l2 < 900000 /\ kSs l2 < 900000) :
  Calls Tryz.prog 34 #[.agg (Vf a0 A1 l1 c1 A2 l2 c2)] w fun e w' => Below w.heap.size w w' /\
   ((r ≠ 0 /\ e = .returned (.tuple #[.pointer none, .int .i64 30])) \/ (r = 0 /\ ∃ b, w.heap.size <= b /\ e = .returned (.tuple #[.pointer (some ⟨b, 0, none⟩), .int .i64 0]) /\ CSt w' w.heap.size b (fun _ => True) (.int .i64 a0) (.slice A1 l1.length c1) (.slice A2 l2.length c2) (zG l2) (yy l2 0))) := by
 have huP := Tryz.underlying25
 have huC := Tryz.underlying89
 have huE := Tryz.underlying34
 have HR1 := am hr1
 have HC1 := am hc1
 have HR2 := am hr2
 have HC2 := am hc2
 have H := am h
 have HOK := am hok
 have AL := am (bal (jc w.heap.size w) (.cells (Vf a0 A1 l1 c1 A2 l2 c2) 25))
 have XN := am (zI w (.cells (Vf a0 A1 l1 c1 A2 l2 c2) 25))
 clear hr1 hc1 hr2 hc2 h hok
 go_enter Tryz.func34, Tryz.ntmps34
 by_cases hr : r = 0
 ·subst hr
  obtain ⟨ok1, ok2, ok3⟩ := HOK.out rfl
  have OK1 := am ok1
  clear ok1
  go_upto_region 3 with (first | (go_at_call 60; refine (Zy.calls k a0 _ _ l1 _ _ l2 0 _ (ji HR1.out AL.out) HC1.out (ji HR2.out AL.out) HC2.out H.out).mono ?_; rintro e W1 ⟨rfl, hb1⟩; have B1 := am (AL.out.trans (hb1.mono AL.out.size)); have X1 := am (zd XN.out hb1); clear hb1))
  have x0 : W1.cell? ⟨w.heap.size, 0, none⟩ = some (.int .i64 a0) := (za X1.out 0).trans rfl
  have x1 : W1.cell? ⟨w.heap.size, 1, none⟩ = some (.slice A1 l1.length c1) := (za X1.out 1).trans rfl
  have x2 : W1.cell? ⟨w.heap.size, 2, none⟩ = some (.slice A2 l2.length c2) := (za X1.out 2).trans rfl
  have hlt := zM X1.out
  have hs1 := B1.out.size
  have B2 := am (bal B1.out (.cells (Vmq a0 A1 l1 c1 A2 l2 c2) 89))
  have N2 := am (zI W1 (.cells (Vmq a0 A1 l1 c1 A2 l2 c2) 89))
  have S2 := am (show CSt _ w.heap.size W1.heap.size (fun _ => False) (.int .i64 a0) (.slice A1 l1.length c1) (.slice A2 l2.length c2) [] [] from ⟨none, 0, none, 0, N2.out, Kd.R_nil _ _ _ _ _, Kd.R_nil _ _ _ _ _⟩)
  have z2 : (W1.alloc (.cells (Vmq a0 A1 l1 c1 A2 l2 c2) 89)).cell? ⟨w.heap.size, 2, none⟩ = some (.slice A2 l2.length c2) := (za (kal X1.out _) 2).trans rfl
  go_wp2_with (first | (go_at_call 61; refine (z6y.calls w W1.heap.size (.int .i64 a0) (.slice A1 l1.length c1) (.slice A2 l2.length c2) hs1 l2 A2 c2 [] [] (fun _ => False) _ HR2.out HC2.out OK1.out (by simp only [List.length_nil]; omega) (by simp only [List.length_nil]; omega) B2.out S2.out (fun _ h => h.elim)).mono ?_; rintro e W3 ⟨rfl, hs3, hb3, hk3⟩; have S3 := am hs3; have B3 := am hb3; have hbl3 := hs3.lt; clear hs3 hb3 hk3) | (go_at_call 62; refine (ZQ.calls w W3 W1.heap.size _ (.int .i64 a0) (.slice A1 l1.length c1) (.slice A2 l2.length c2) _ _ ⟨11, 0, 0, 0, 0⟩ B3.out hs1 S3.out (by rw [List.nil_append, ZZ]; omega)).mono ?_; rintro e W4 ⟨rfl, hs4, hb4, hk4⟩; have S4 := am hs4; have B4 := am hb4; clear hs4 hb4 hk4))
  go_ret2
  have h4 := S4.out
  rw [List.nil_append, List.nil_append] at h4
  have h5 : CSt W4 w.heap.size W1.heap.size (fun _ => True) (.int .i64 a0) (.slice A1 l1.length c1) (.slice A2 l2.length c2) (zG l2) (yy l2 0) := h4.mono (fun _ _ _ => trivial)
  first | exact ⟨B4.out, .inr ⟨rfl, W1.heap.size, hs1, rfl, h5⟩⟩ | exact ⟨B4.out, W1.heap.size, hs1, rfl, h5⟩
 ·have e0 := (beq_eq_false_iff_ne (a := r)).mpr hr
  have n0 := bN hr
  go_wp2_with (first | (go_at_call 60; refine (Zy.calls k a0 _ _ l1 _ _ l2 r _ (ji HR1.out AL.out) HC1.out (ji HR2.out AL.out) HC2.out H.out).mono ?_; rintro e W1 ⟨rfl, hb1⟩; have B1 := am (AL.out.trans (hb1.mono AL.out.size)); clear hb1))
  go_ret2
  first | exact ⟨B1.out, .inl ⟨hr, rfl⟩⟩ | exact ⟨B1.out, rfl⟩
def yP (r a0 : Int) (l1 : List S76) (l2 : List S81) : Int × List S76 × List S93 × Int := if r = 0 then (a0, l1, zG l2, 0) else (0, [], [], 30)
def z2h (r : Int) (l2 : List S81) : List Int × Int := if r = 0 then (yy l2 0, 0) else ([], 30)
theorem infoVar : (Tryz.prog.info? 76).map (fun i => (i.zero, i.size, i.bytes)) = some (some (.agg #[.string ⟨#[]⟩, .int .i64 0, .int .i64 0]), 3, 32) := by kernel_rfl
theorem z4M.calls (k : Nat) (a0 : Int) (A1 : Option Addr) (c1 : Nat) (l1 : List S76) (A2 : Option Addr) (c2 : Nat) (l2 : List S81) (r : Int) (w : World) (hr1 : Kd.C k76 w A1 l1.length l1) (hc1 : l1.length <= c1) (hr2 : Kd.C k81 w A2 l2.length l2) (hc2 : l2.length <= c2) (h : Zy.f k a0 l1 l2 = some r) (hok : r = 0 -> z1J l2 /\ nSs l2 < 900000 /\ kSs l2 < 900000) :
  Calls Tryz.prog 17 #[.agg (Vf a0 A1 l1 c1 A2 l2 c2)] w fun e w' => ∃ v : Value, e = .returned (.tuple #[v, .int .i64 (z2h r l2).2]) /\ Kd.R (Kd.int .i64) 3 w' w.heap.size (fun _ => True) v (z2h r l2).1 /\ Below w.heap.size w w' := by
 have huC := Tryz.underlying89
 have huE := Tryz.underlying34
 have HR1 := am hr1
 have HC1 := am hc1
 have HR2 := am hr2
 have HC2 := am hc2
 have H := am h
 have HOK := am hok
 have AL := am (bal (jc w.heap.size w) (.cells (Vf a0 A1 l1 c1 A2 l2 c2) 25))
 clear hr1 hc1 hr2 hc2 h hok
 go_enter Tryz.func17, Tryz.ntmps17
 by_cases hr : r = 0
 ·subst hr
  have CC := z0i.calls k a0 _ _ l1 _ _ l2 0 _ (ji HR1.out AL.out) HC1.out (ji HR2.out AL.out) HC2.out H.out HOK.out
  have CC := am CC
  go_upto_region 4 with (first | (go_at_call 34; refine CC.out.mono ?_; rintro e W1 ⟨hb1, ⟨h0, _⟩ | ⟨_, b, hb, rfl, hs⟩⟩; (exact jm rfl h0); have BB := am (AL.out.trans (hb1.mono AL.out.size)); obtain ⟨A, c, A', c', t1, t2, t3⟩ := hs; have T3 := am t3; have x4 : W1.cell? ⟨b, 4, none⟩ = some (.slice A' (yy l2 0).length c') := (za t1 4).trans rfl; clear t1 t2 t3 hb1))
  go_wp2
  go_ret2
  exact ⟨_, by rw [z2h, jb rfl]; rfl, by rw [z2h, jb rfl]; exact Kd.R_lower T3.out AL.out.size, BB.out⟩
 ·have e0 := (beq_eq_false_iff_ne (a := r)).mpr hr
  have n0 := bN hr
  have CC := am (z0i.calls k a0 _ _ l1 _ _ l2 r _ (ji HR1.out AL.out) HC1.out (ji HR2.out AL.out) HC2.out H.out HOK.out)
  go_wp2_with (first | (go_at_call 34; refine CC.out.mono ?_; rintro e W1 ⟨hb1, ⟨_, rfl⟩ | ⟨h0, _⟩⟩; rotate_left; (exact jm h0 hr); have BB := am (AL.out.trans (hb1.mono AL.out.size)); clear hb1))
  go_ret2
  exact ⟨_, by rw [z2h, ja hr]; rfl, by rw [z2h, ja hr]; exact Kd.R_nil _ _ _ _ _, BB.out⟩
theorem fill3 {W : World} {g : Nat} {t : TypeId} {a b c : Value} (h : W.heap[g]? = some (.cells #[a, b, c] t (0, 0))) (x y z : Value) : (((W.setCell ⟨g, 0, none⟩ x).setCell ⟨g, 1, none⟩ y).setCell ⟨g, 2, none⟩ z).heap[g]? = some (.cells #[x, y, z] t (0, 0)) :=
 zJ (zJ (zJ h 0 x (cs' := #[x, b, c]) rfl) 1 y (cs' := #[x, y, c]) rfl) 2 z (cs' := #[x, y, z]) rfl
theorem z0F.calls (k : Nat) (a0 : Int) (A1 : Option Addr) (c1 : Nat) (l1 : List S76) (A2 : Option Addr) (c2 : Nat) (l2 : List S81) (r : Int) (w : World) (hr1 : Kd.C k76 w A1 l1.length l1) (hc1 : l1.length <= c1) (hr2 : Kd.C k81 w A2 l2.length l2) (hc2 : l2.length <= c2) (h : Zy.f k a0 l1 l2 = some r) (hok : r = 0 -> z1J l2 /\ nSs l2 < 900000 /\ kSs l2 < 900000) (hl1 : r = 0 -> l1.length < 1000000) :
  Calls Tryz.prog 9 #[.agg (Vf a0 A1 l1 c1 A2 l2 c2)] w fun e w' => ∃ v1 v2 : Value, e = .returned (.tuple #[.agg #[.int .i64 (yP r a0 l1 l2).1, v1, v2], .int .i64 (yP r a0 l1 l2).2.2.2]) /\ Kd.R k76 76 w' w.heap.size (fun _ => True) v1 (yP r a0 l1 l2).2.1 /\ Kd.R k93 93 w' w.heap.size (fun _ => True) v2 (yP r a0 l1 l2).2.2.1 /\ Below w.heap.size w w' := by
 have huC := Tryz.underlying89
 have huO := Tryz.underlying87
 have huE := Tryz.underlying34
 have huP := Tryz.underlying25
 have huK := Tryz.underlying33
 have huV := Tryz.underlying22
 have HR1 := am hr1
 have HC1 := am hc1
 have HR2 := am hr2
 have HC2 := am hc2
 have H := am h
 have HOK := am hok
 have HL1 := am hl1
 have b1 := bal (jc w.heap.size w) (.cells (Vf a0 A1 l1 c1 A2 l2 c2) 25)
 have x1 := kal (zI w (.cells (Vf a0 A1 l1 c1 A2 l2 c2) 25)) (.cells Vdq 33)
 have b2 := bal b1 (.cells Vdq 33)
 have x2 := zI (w.alloc (.cells (Vf a0 A1 l1 c1 A2 l2 c2) 25)) (.cells Vdq 33)
 have hs1 : (w.alloc (.cells (Vf a0 A1 l1 c1 A2 l2 c2) 25)).heap.size = w.heap.size + 1 := by simp
 rw [hs1] at x2
 have X1 := am x1
 have X2 := am x2
 have AL := am b2
 have CC := am (z0i.calls k a0 _ _ l1 _ _ l2 r _ (ji HR1.out AL.out) HC1.out (ji HR2.out AL.out) HC2.out H.out HOK.out)
 have x0 : ((w.alloc (.cells (Vf a0 A1 l1 c1 A2 l2 c2) 25)).alloc (.cells Vdq 33)).heap.size = w.heap.size + 2 := by simp
 have HZ := am x0
 clear hr1 hc1 hr2 hc2 h hok hl1 b1 x1 b2 x2 hs1 x0
 go_enter Tryz.func9, Tryz.ntmps9
 by_cases hr : r = 0
 ·subst hr
  go_upto_region 4 with (first | (go_at_call 34; refine CC.out.mono ?_; rintro e W1 ⟨hb1, ⟨h0, _⟩ | ⟨_, b, hb, rfl, hs⟩⟩; (exact jm rfl h0); have BB := am (AL.out.trans (hb1.mono AL.out.size)); have Y1 := am (zd X1.out hb1); have Y2 := am (zd X2.out hb1); have HS := am hs; have HBb := am hb; clear hb1 hb hs))
  obtain ⟨A, c, A', c', t1, t2, t3⟩ := HS.out
  have hbw : w.heap.size + 2 <= b := by have := HBb.out; have := HZ.out; omega
  have T1 := am (kdr t1)
  have T2 := am (Kd.R_drew t2)
  have D1 := am (kdr Y1.out)
  have D2 := am (kdr Y2.out)
  have BD := am (zj BB.out)
  have hl := HL1.out (by trivial)
  clear t1 t2 t3 CC HS Y1 Y2 BB X1 X2
  refine z20 (n := 13) (S := fun w' => w'.cell? ⟨w.heap.size, 0, none⟩ = some (.int .i64 a0) /\ w'.cell? ⟨w.heap.size, 1, none⟩ = some (.slice A1 l1.length c1) /\ w'.cell? ⟨b, 0, none⟩ = some (.slice A (zG l2).length c)) (ds := [11]) #[false, false, false, false, false, false, false, false, false, false, false, false, false] (by kernel_rfl) rfl rfl ⟨(za D1.out 0).trans rfl, (za D1.out 1).trans rfl, (za T1.out 0).trans rfl⟩ (fun hHeld => ?_)
  generalize W1.drew = Y at T1 T2 D1 D2 BD hHeld ⊢
  refine pu (i := 0) (N := some 15) (bl 13 1) rfl rfl (by kernel_rfl) ?_
  refine tk (i := 1) (N := some 16) (bl 13 3) rfl rfl (by kernel_rfl) hHeld ?_
  refine pu (i := 2) (N := some 17) (bl 13 7) rfl rfl (by kernel_rfl) ?_
  refine tk (i := 3) (N := some 18) (bl 13 15) rfl rfl (by kernel_rfl) hHeld ?_
  refine pu (i := 5) (N := some 20) (bl 13 47) rfl rfl (by kernel_rfl) ?_
  refine pu (i := 6) (N := some 21) (bl 13 111) rfl rfl (by kernel_rfl) ?_
  refine pu (i := 7) (N := some 22) (bl 13 239) rfl rfl (by kernel_rfl) ?_
  refine pu (i := 8) (N := some 23) (bl 13 495) rfl rfl (by kernel_rfl) ?_
  refine tk (i := 9) (N := some 24) (bl 13 1007) rfl rfl (by kernel_rfl) hHeld ?_
  refine z2T (i := 4) (N := (some 19)) (bl 13 1023) rfl rfl (by kernel_rfl) (by decide) (fun K hK => ?_)
  refine Kd.R_append_rows_step k76 (w0 := w) w.heap.size (by rfl) (.const (.slice none 0 0)) (.tmp 18) 22 76 (.agg #[.string ⟨#[]⟩, .int .i64 0, .int .i64 0]) 32 rfl huV infoVar rfl (by decide) (by omega) (.slice none 0 0) [] l1 A1 l1.length c1 (fun k => Y.heap.size <= k) (fun _ => False) rfl rfl (Kd.R_nil _ _ _ _ _) (ji HR1.out BD.out) (fun x cs hk => by obtain rfl := z4H hk; exact k76_mkM _ _ _ _) (fun _ h => h.elim) (fun _ h => h) BD.out BD.out.size (by simp only [List.length_nil]; omega) ?_
  intro v1 W2 ho hb2 hg hat
  rw [List.nil_append] at ho
  have T1' := am (zO T1.out hg (by simp [Value.ownBlock]))
  have T2' := am (Kd.R_grown T2.out hg (fun k _ => by simp [Value.ownBlock]))
  have D1' := am (zO D1.out hg (by simp [Value.ownBlock]))
  have D2' := am (zO D2.out hg (by simp [Value.ownBlock]))
  have HO := am ho
  have BW := am hb2
  have hys := zM D2.out
  clear ho hb2 hg hat
  refine hK.out _ _ ⟨(za D1'.out 0).trans rfl, (za D1'.out 1).trans rfl, (za T1'.out 0).trans rfl⟩ (fun hHeld => ?_)
  clear hK K
  refine nm 19 ?_
  obtain ⟨Av, cv, rfl⟩ := js HO.out
  refine pu (i := 10) (N := some 25) (bl 13 2047) rfl rfl (by kernel_rfl) ?_
  refine z1h (i := 11) (N := none) (bl 13 4095) rfl rfl (by kernel_rfl) (by decide) (fun K hK => ?_)
  have z0 : W2.cell? ⟨w.heap.size + 1, 0, none⟩ = some (.int .i64 0) := (za D2'.out 0).trans rfl
  have z1 : W2.cell? ⟨w.heap.size + 1, 1, none⟩ = some (.slice none 0 0) := (za D2'.out 1).trans rfl
  have z2 : W2.cell? ⟨w.heap.size + 1, 2, none⟩ = some (.slice none 0 0) := (za D2'.out 2).trans rfl
  have f0 := zf D2'.out 0
  have f1 := zf D2'.out 1
  have f2 := zf D2'.out 2
  refine ZX (w1 := ?_) (by rfl) rfl ?_ ?_
  rotate_left
  ·go_simp
   rfl
  refine hK.out _ _ ?_
  clear hK K
  refine pu (i := 12) (N := some 3) (bl 13 8191) rfl rfl (by kernel_rfl) ?_
  refine z38 (by kernel_rfl) ?_
  have V1 := fill3 D2'.out (.int .i64 a0) (.slice Av l1.length cv) (.slice A (zG l2).length c)
  have RA := Kd.R_set (Kd.R_set (Kd.R_set HO.out D2'.out (by decide) 0 (.int .i64 a0)) (yD D2'.out 0 _) (by decide) 1 (.slice Av l1.length cv)) (yD (yD D2'.out 0 _) 1 _) (by decide) 2 (.slice A (zG l2).length c)
  have RB := Kd.R_set (Kd.R_set (Kd.R_set T2'.out D2'.out (by decide) 0 (.int .i64 a0)) (yD D2'.out 0 _) (by decide) 1 (.slice Av l1.length cv)) (yD (yD D2'.out 0 _) 1 _) (by decide) 2 (.slice A (zG l2).length c)
  have BX := ((BW.out.setCell (p := ⟨w.heap.size + 1, 0, none⟩) (Nat.le_succ _) (.int .i64 a0)).setCell (p := ⟨w.heap.size + 1, 1, none⟩) (Nat.le_succ _) (.slice Av l1.length cv)).setCell (p := ⟨w.heap.size + 1, 2, none⟩) (Nat.le_succ _) (.slice A (zG l2).length c)
  generalize ((W2.setCell ⟨w.heap.size + 1, 0, none⟩ (.int .i64 a0)).setCell ⟨w.heap.size + 1, 1, none⟩ (.slice Av l1.length cv)).setCell ⟨w.heap.size + 1, 2, none⟩ (.slice A (zG l2).length c) = W3 at V1 RA RB BX ⊢
  have ALL := am (And.intro V1 (And.intro RA (And.intro RB BX)))
  clear V1 RA RB BX z0 z1 z2 f0 f1 f2 D1 D2 T1 T2 D1' D2' T1' T2' HO BW BD
  go_wp2
  obtain ⟨V1, RA, RB, BX⟩ := ALL.out
  refine bodyPost_ret (z2N rfl _ _ (w.heap.size + 1) 33 (Vf a0 Av l1 cv A (zG l2) c) (0, 0) _ rfl V1 huK rfl (by kernel_rfl)) rfl ?_
  refine ⟨_, _, by rw [yP, jb rfl]; rfl, ?_, ?_, BX⟩
  ·rw [yP, jb rfl]; exact jr (Kd.R_lower RA (jk _)) (fun _ _ => trivial)
  ·rw [yP, jb rfl]; exact Kd.R_lower RB AL.out.size
 ·have e0 := (beq_eq_false_iff_ne (a := r)).mpr hr
  have n0 := bN hr
  go_upto_region 3 with (first | (go_at_call 34; refine CC.out.mono ?_; rintro e W1 ⟨hb1, ⟨_, rfl⟩ | ⟨h0, _⟩⟩; rotate_left; (exact jm h0 hr); have BB := am (AL.out.trans (hb1.mono AL.out.size)); have Y2 := am (zd X2.out hb1); clear hb1))
  have z0 : W1.cell? ⟨w.heap.size + 1, 0, none⟩ = some (.int .i64 0) := (za Y2.out 0).trans rfl
  have z1 : W1.cell? ⟨w.heap.size + 1, 1, none⟩ = some (.slice none 0 0) := (za Y2.out 1).trans rfl
  have z2 : W1.cell? ⟨w.heap.size + 1, 2, none⟩ = some (.slice none 0 0) := (za Y2.out 2).trans rfl
  have f0 := zf Y2.out 0
  have f1 := zf Y2.out 1
  have f2 := zf Y2.out 2
  have V1 := am (fill3 Y2.out (.int .i64 0) (.slice none 0 0) (.slice none 0 0))
  have BX := am (((BB.out.setCell (p := ⟨w.heap.size + 1, 0, none⟩) (Nat.le_succ _) (.int .i64 0)).setCell (p := ⟨w.heap.size + 1, 1, none⟩) (Nat.le_succ _) (.slice none 0 0)).setCell (p := ⟨w.heap.size + 1, 2, none⟩) (Nat.le_succ _) (.slice none 0 0))
  go_wp2
  refine bodyPost_ret (z2N rfl _ _ (w.heap.size + 1) 33 Vdq (0, 0) _ rfl V1.out huK rfl (by kernel_rfl)) rfl ?_
  exact ⟨_, _, by rw [yP, ja hr]; rfl, by rw [yP, ja hr]; exact Kd.R_nil _ _ _ _ _, by rw [yP, ja hr]; exact Kd.R_nil _ _ _ _ _, BX.out⟩
def YG : List S76 := [⟨⟨#[104]⟩, 0, 1⟩]
def z0q : List S81 := [⟨0, 0, [⟨2, 0, 0, [⟨1, 0, 0, []⟩, ⟨0, 1, 0, []⟩]⟩], [], []⟩]
def z1T : List S93 := [⟨3, 0, 0, 0, 0⟩, ⟨0, 1, 1, 0, 0⟩, ⟨1, 0, 2, 0, 1⟩, ⟨4, 0, 0, 0, 0⟩, ⟨11, 0, 0, 0, 0⟩]
theorem z4R : Zy.f 60 2 YG z0q = some 0 := by kernel_rfl
theorem z6G : Zy.f 60 0 YG z0q = some 30 := by kernel_rfl
theorem aw_code : zG z0q = z1T := by kernel_rfl
theorem z6E : yy z0q 0 = [0] := by kernel_rfl
theorem aw_head : zK.f 60 2 YG = some true := by kernel_rfl
theorem aw_copy : Zm.f 60 [3] = some [3] := by kernel_rfl
def z7I : VC := ⟨0, [0], [], [], 5, 0, 0, [0, 1] ++ List.replicate 62 0, [0, 1, 2, 3, 4], 4, 95, true⟩
theorem aw_loop : yB 60 2 YG [] z1T 7 (zC 100 [3]) = some z7I := by kernel_rfl
theorem aw_all : z5z 60 2 YG [] z1T 7 (zC 100 [3]) = true := by kernel_rfl
theorem aw_ok : z1J z0q /\ nSs z0q < 900000 /\ kSs z0q < 900000 := by
 refine ⟨?_, of_decide_eq_true (by kernel_rfl), of_decide_eq_true (by kernel_rfl)⟩
 simp [z0q, z1J, okS]
theorem z7J : ∀ j : Nat, j < z1T.length -> z0A 60 2 YG z1T (ya z1T j) := by
 intro j hj
 have hj5 : j < 5 := hj
 have r0 : Yi 0 := by unfold Yi; omega
 have r1 : Yi 1 := by unfold Yi; omega
 have hw : yJ.f 60 2 1 = some true := by kernel_rfl
 have ht : YD.f 2 = some true := by kernel_rfl
 have ha : Yr.f 60 2 YG z1T 0 0 = some true := by kernel_rfl
 rcases (by omega : j = 0 \/ j = 1 \/ j = 2 \/ j = 3 \/ j = 4) with rfl | rfl | rfl | rfl | rfl
 ·exact .inr (.inr (.inr (.inr (.inl ⟨rfl, r0, ha, rfl⟩))))
 ·exact .inl ⟨rfl, r1, hw, rfl, rfl⟩
 ·exact .inr (.inl ⟨rfl, r0, r0, ht, r1⟩)
 ·exact .inr (.inr (.inr (.inr (.inr (.inl ⟨rfl, ha, r0, rfl⟩)))))
 ·exact .inr (.inr (.inr (.inr (.inr (.inr (.inr (.inr (.inr (.inr rfl)))))))))
def z0N (n : Nat) (listed : Array Bool) : Nat := ((List.range n).filter fun j => !listed.getD j true).length
theorem z1z {n i : Nat} {listed : Array Bool} (hi : i < n) (h : listed.getD i true = false) : z0N n (listed.setIfInBounds i true) < z0N n listed := by
 have hsz : i < listed.size := by
  rcases Nat.lt_or_ge i listed.size with h' | h'
  ·exact h'
  ·simp [Array.getD, Nat.not_lt.mpr h'] at h
 unfold z0N
 have key : ∀ l : List Nat, (l.filter fun j => !(listed.setIfInBounds i true).getD j true).length + (l.filter fun j => decide (j = i)).length = (l.filter fun j => !listed.getD j true).length := by
  intro l
  induction l with
  | nil => rfl
  | cons x r ih =>
   by_cases hx : x = i
   ·subst hx
    have e1 : (listed.setIfInBounds x true).getD x true = true := by simp [Array.getD, hsz]
    simp only [List.filter_cons, e1, h, decide_true, Bool.not_true, Bool.not_false, if_true, Bool.false_eq_true, if_false, jp]
    omega
   ·have e1 : (listed.setIfInBounds i true).getD x true = listed.getD x true := getD_set_ne true (Ne.symm hx)
    have e2 : ((!(listed.setIfInBounds i true).getD x true) = true) = ((!listed.getD x true) = true) := by rw [e1]
    simp only [List.filter_cons, e2, decide_eq_false hx, Bool.false_eq_true, if_false]
    by_cases hh : (!listed.getD x true) = true
    ·rw [jb hh, jb hh, jp, jp]; omega
    ·rw [ja hh, ja hh]; exact ih
 have h1 := key (List.range n)
 have h2 : 0 < ((List.range n).filter fun j => decide (j = i)).length := by
  rw [List.length_pos_iff_exists_mem]
  exact ⟨i, by simp [hi]⟩
 omega
section
variable {P : Program} {ops : Array Oper} {Q : Exit -> Act -> World -> Prop} {md : Region.Mode}
end
section
variable {α : Type} {d : Kd α} {e : Nat} {W W1 : World} {v : Value}
theorem z2m {sz : Nat} : ∀ (css : List (List Value)) (j : Nat) (c : List Value) (i : Nat), (∀ c ∈ css, c.length = sz) -> css[j]? = some c -> i < sz -> css.flatten[j * sz + i]? = c[i]?
 | [], j, c, i, _, h, _ => by simp at h
 | x :: r, 0, c, i, hl, h, hi => by
  obtain rfl : x = c := by simpa using h
  have := hl x (by simp)
  simp only [List.flatten_cons, Nat.zero_mul, Nat.zero_add]
  rw [List.getElem?_append_left (by omega)]
 | x :: r, j + 1, c, i, hl, h, hi => by
  have h1 := hl x (by simp)
  have h2 : r[j]? = some c := by simpa using h
  simp only [List.flatten_cons]
  have e1 : (j + 1) * sz + i = x.length + (j * sz + i) := by rw [h1, Nat.succ_mul]; omega
  rw [e1, List.getElem?_append_right (by omega), Nat.add_sub_cancel_left]
  exact z2m r j c i (fun c hc => hl c (by simp [hc])) h2 hi
def Is (d : Kd α) (B : Nat) (W : World) (v : Value) (x : α) : Prop := ∃ cs : List Value, v = .agg cs.toArray /\ Kd.FK d W (fun k => B <= k /\ k < W.heap.size) x cs
def z00 (d : Kd α) (B : Nat) (e : Nat) (W : World) (v : Value) (l : List α) : Prop :=
 ∃ (b : Nat) (css : List (List Value)), v = .slice (some ⟨b, 0, none⟩) l.length l.length /\ W.heap[b]? = some (.cells css.flatten.toArray e (0, 0)) /\ B <= b /\ css.length = l.length /\ l.length <= 9223372036854775807 /\
  ∀ (j : Nat) (x : α) (c : List Value), l[j]? = some x -> css[j]? = some c -> Kd.FK d W (fun k => B <= k /\ k < b) x c
variable {B : Nat}
theorem Is.below {x : α} (h : Is d B W v x) (hb : Below W.heap.size W W1) : Is d B W1 v x := by
 obtain ⟨cs, e1, h⟩ := h
 exact ⟨cs, e1, Kd.FK_mono (Kd.FK_below h hb) (fun k hk => ⟨hk.1, ltl hk.2 hb.size⟩)⟩
theorem z00.below {l : List α} (h : z00 d B e W v l) (hb : Below W.heap.size W W1) : z00 d B e W1 v l := by
 obtain ⟨b, css, e1, h1, h0, h2, h3, h4⟩ := h
 exact ⟨b, css, e1, (hb.block _ (zM h1)).trans h1, h0, h2, h3, fun j x c hj hc => Kd.FK_below (h4 j x c hj hc) hb⟩
theorem z00.far {l : List α} (h : z00 d B e W v l) {p : Addr} (hp : p.block < B) (u : Value) : z00 d B e (W.setCell p u) v l := by
 obtain ⟨b, css, e1, h1, h0, h2, h3, h4⟩ := h
 exact ⟨b, css, e1, (jl _ _ _ _ (by omega)).trans h1, h0, h2, h3, fun j x c hj hc => Kd.FK_step (h4 j x c hj hc) (fun k hk _ => jl _ _ _ _ (by have := hk.1; omega))⟩
theorem z00.F {l : List α} {b : Nat} {css : List (List Value)} (h1 : W.heap[b]? = some (.cells css.flatten.toArray e (0, 0))) (h0 : B <= b) (h2 : css.length = l.length) (h3 : l.length <= 9223372036854775807)
  (h4 : ∀ (j : Nat) (x : α) (c : List Value), l[j]? = some x -> css[j]? = some c -> Kd.FK d W (fun k => B <= k /\ k < b) x c) : Kd.F d W (fun k => B <= k /\ k < W.heap.size) (some ⟨b, 0, none⟩) l.length l := by
 intro W' hW'
 have hb := zM h1
 have hlen : ∀ c ∈ css, c.length = d.sz := by
  intro c hc
  obtain ⟨j, hj, e2⟩ := List.mem_iff_getElem.1 hc
  have hj2 : j < l.length := by omega
  exact d.K_len (Kd.FK_now (h4 j l[j] c (jn hj2) (by rw [jn hj, e2])))
 refine ⟨rfl, h3, fun _ => ⟨_, rfl, fun j x hj => ?_⟩⟩
 have hj2 : j < css.length := by have := (List.getElem?_eq_some_iff.1 hj).1; omega
 have hc := jn hj2
 have hk := h4 j x _ hj hc
 refine ⟨css[j], hlen _ (List.getElem_mem hj2), hk W' (fun k hk' hk2 => hW' k ⟨hk'.1, hk2⟩ hk2), fun i u hu => ?_⟩
 have hi : i < d.sz := by have := (List.getElem?_eq_some_iff.1 hu).1; rw [hlen _ (List.getElem_mem hj2)] at this; exact this
 have hg := z2m css j _ i hlen hc hi
 have hB := (hW' b ⟨h0, hb⟩ hb).trans h1
 have : (⟨b, 0, none⟩ : Addr).add (j * d.sz + i) = ⟨b, j * d.sz + i, none⟩ := by unfold Addr.add; split <;> simp_all
 rw [this, za hB (j * d.sz + i)]
 simpa [hg] using hu
theorem z00.foot {l : List α} (h : z00 d B e W v l) : ∃ A, v = .slice A l.length l.length /\ Kd.F d W (fun k => B <= k /\ k < W.heap.size) A l.length l := by
 obtain ⟨b, css, e1, h1, h0, h2, h3, h4⟩ := h
 exact ⟨_, e1, z00.F h1 h0 h2 h3 h4⟩
theorem z00.C {l : List α} (h : z00 d B e W v l) : ∃ A, v = .slice A l.length l.length /\ d.C W A l.length l := by
 obtain ⟨A, e1, h1⟩ := h.foot
 exact ⟨A, e1, Kd.F_now h1⟩
theorem z00.new {l : List α} (hB : B <= W.heap.size) (css : List (List Value)) {cs : Array Value} (hcs : cs = css.flatten.toArray) (h2 : css.length = l.length) (h3 : l.length <= 9223372036854775807) (h4 : ∀ (j : Nat) (x : α) (c : List Value), l[j]? = some x -> css[j]? = some c -> Kd.FK d W (fun k => B <= k /\ k < W.heap.size) x c) :
  z00 d B e (W.alloc (.cells cs e)) (.slice (some ⟨W.heap.size, 0, none⟩) l.length l.length) l := by
 subst hcs
 exact ⟨_, css, rfl, heap_alloc_new _ _, hB, h2, h3, fun j x c hj hc => Kd.FK_below (h4 j x c hj hc) (bal (jc _ _) _)⟩
theorem z4d (A : Option Addr) (ok : Nat -> Prop) : Kd.F d W ok A ([] : List α).length [] := fun W' _ => ⟨rfl, by simp, fun h => by simp at h⟩
end
def z5E.f (a0 : Int) (l1 : List (S62)) : Option (Int × Int × Int × (List (S62))) := some (a0, 0, 0, l1)
theorem z5E.calls (a0 : Int) (P1_ : Nat -> Prop) (A1 : Option Addr) (c1 : Nat) (l1 : List (S62)) (r1 : Int) (r2 : Int) (r3 : Int) (r4 : List (S62)) (w : World) (hs1 : Kd.V k62 62 w w.heap.size (fun k_ => P1_ k_) (.slice A1 l1.length c1) l1) (h : z5E.f a0 l1 = some (r1, r2, r3, r4)) :
  Calls Tryz.prog 30 #[.int .i64 a0, .slice A1 l1.length c1] w fun e w' => ∃ v3_ : Value, e = .returned (.agg #[.int .i64 r1, .int .i64 r2, .int .i64 r3, v3_]) /\ Kd.V k62 62 w' w.heap.size (fun k_ => (P1_ k_ \/ w.heap.size <= k_)) v3_ r4 /\ Below w.heap.size w w' := by
 have hu62 := Tryz.underlying62
 have HO1 := am (show Kd.V k62 62 w w.heap.size (fun k_ => (P1_ k_ \/ w.heap.size <= k_)) (.slice A1 l1.length c1) l1 from Kd.V_mono hs1 (fun k_ hk => .inl hk))
 have HB := am (jc w.heap.size w)
 have H : (some (a0, 0, 0, l1)) = some (r1, r2, r3, r4) := h
 clear h
 simp only [Option.some.injEq, Prod.mk.injEq] at H
 obtain ⟨rfl, rfl, rfl, rfl⟩ := H
 go_enter Tryz.func30, Tryz.ntmps30
 go_wp2_with (first | ((with_reducible refine zw (N := 4) rfl ?_); refine bx 4 rfl rfl Vx 62 ?_; intro gb825 hg w3 hbox hb; have BK825 := am (hbox); have GE825 := ge HB hg; replace HO1 := am (Kd.V_below (Kd.V_elderB (iV HO1) gb825 (Nat.le_of_eq hg.symm)) hb); replace HB := sb HB hb; clear hb hbox hg; have hz4 := cf4 BK825.out))
 refine bodyPost_ret (results_cell_row rfl _ _ gb825 62 #[.int .i64 a0, .int .i64 0, .int .i64 0, .slice A1 l1.length c1] (0, 0) _ rfl (by (with_reducible repeat (first | refine kdN ?_ _ | refine kdr ?_ | refine kal ?_ _)); refine zJ (cs := (Vkq a0)) ?_ 3 _ rfl; (with_reducible repeat (first | refine kdN ?_ _ | refine kdr ?_ | refine kal ?_ _)); refine zJ (cs := (Vkq a0)) ?_ 2 _ rfl; (with_reducible repeat (first | refine kdN ?_ _ | refine kdr ?_ | refine kal ?_ _)); refine zJ (cs := (Vkq a0)) ?_ 1 _ rfl; (with_reducible repeat (first | refine kdN ?_ _ | refine kdr ?_ | refine kal ?_ _)); refine zJ (cs := Vx) ?_ 0 _ rfl; (with_reducible repeat (first | refine kdN ?_ _ | refine kdr ?_ | refine kal ?_ _)); exact BK825.out) Tryz.underlying62 rfl (by kernel_rfl)) rfl ?_
 exact ⟨_, rr, by (with_reducible repeat (first | apply Kd.V_alloc | apply Kd.V_drewN | apply Kd.V_drew)); exact Kd.V_mono (Kd.V_far (p := ⟨gb825, 3, none⟩) (Kd.V_far (p := ⟨gb825, 2, none⟩) (Kd.V_far (p := ⟨gb825, 1, none⟩) (Kd.V_far (p := ⟨gb825, 0, none⟩) (Kd.V_mono HO1.out (fun k_ hk => (⟨hk, hk.2⟩ : _ /\ k_ ≠ gb825))) (fun _ hk => hk.2) (.int .i64 a0)) (fun _ hk => hk.2) (.int .i64 0)) (fun _ hk => hk.2) (.int .i64 0)) (fun _ hk => hk.2) (.slice A1 l1.length c1)) (fun _ hk => hk.1.1), bb HB⟩
def z2x.f (a0 : Int) (a1 : Int) : Option (Int × Int × Int × (List (S62))) := some (1, a0, a1, ([] : List (S62)))
theorem z2x.calls (a0 : Int) (a1 : Int) (r1 : Int) (r2 : Int) (r3 : Int) (r4 : List (S62)) (w : World) (h : z2x.f a0 a1 = some (r1, r2, r3, r4)) :
  Calls Tryz.prog 31 (Veq a0 a1) w fun e w' => ∃ v3_ : Value, e = .returned (.agg #[.int .i64 r1, .int .i64 r2, .int .i64 r3, v3_]) /\ Kd.R k62 62 w' w.heap.size (fun _ => True) v3_ r4 /\ Below w.heap.size w w' := by
 have hu62 := Tryz.underlying62
 have HB := am (jc w.heap.size w)
 have H : (some (1, a0, a1, ([] : List (S62)))) = some (r1, r2, r3, r4) := h
 clear h
 simp only [Option.some.injEq, Prod.mk.injEq] at H
 obtain ⟨rfl, rfl, rfl, rfl⟩ := H
 go_enter Tryz.func31, Tryz.ntmps31
 go_wp2_with (first | ((with_reducible refine zw (N := 4) rfl ?_); refine bz HB 4 rfl rfl Vx 62 ?_; intro gb826 w3 BK826 GE826 HB; have hz4 := cf4 BK826.out))
 refine bodyPost_ret (results_cell_row rfl _ _ gb826 62 #[.int .i64 1, .int .i64 a0, .int .i64 a1, .slice none 0 0] (0, 0) _ rfl (by (with_reducible repeat (first | refine kdN ?_ _ | refine kdr ?_ | refine kal ?_ _)); refine zJ (cs := #[.int .i64 1, .int .i64 a0, .int .i64 a1, .slice none 0 0]) ?_ 3 _ rfl; (with_reducible repeat (first | refine kdN ?_ _ | refine kdr ?_ | refine kal ?_ _)); refine zJ (cs := #[.int .i64 1, .int .i64 a0, .int .i64 0, .slice none 0 0]) ?_ 2 _ rfl; (with_reducible repeat (first | refine kdN ?_ _ | refine kdr ?_ | refine kal ?_ _)); refine zJ (cs := (Vkq 1)) ?_ 1 _ rfl; (with_reducible repeat (first | refine kdN ?_ _ | refine kdr ?_ | refine kal ?_ _)); refine zJ (cs := Vx) ?_ 0 _ rfl; (with_reducible repeat (first | refine kdN ?_ _ | refine kdr ?_ | refine kal ?_ _)); exact BK826.out) Tryz.underlying62 rfl (by kernel_rfl)) rfl ?_
 exact ⟨_, rr, by first | exact Kd.R_nil _ _ _ _ _ | exact Kd.N_nil _ _ _ _ _ | exact Kd.V_nil _ _ _ _ _ | exact Kd.Q_nil _ _ _ _ _ | exact Kd.S_nil _ _ _ _ _, bb HB⟩
def z1G.f (a0 : Int) : Option (Int × Int × Int × (List (S62))) := some (0, a0, 0, ([] : List (S62)))
theorem z1G.calls (a0 : Int) (r1 : Int) (r2 : Int) (r3 : Int) (r4 : List (S62)) (w : World) (h : z1G.f a0 = some (r1, r2, r3, r4)) :
  Calls Tryz.prog 32 #[.int .i64 a0] w fun e w' => ∃ v3_ : Value, e = .returned (.agg #[.int .i64 r1, .int .i64 r2, .int .i64 r3, v3_]) /\ Kd.R k62 62 w' w.heap.size (fun _ => True) v3_ r4 /\ Below w.heap.size w w' := by
 have hu62 := Tryz.underlying62
 have HB := am (jc w.heap.size w)
 have H : (some (0, a0, 0, ([] : List (S62)))) = some (r1, r2, r3, r4) := h
 clear h
 simp only [Option.some.injEq, Prod.mk.injEq] at H
 obtain ⟨rfl, rfl, rfl, rfl⟩ := H
 go_enter Tryz.func32, Tryz.ntmps32
 go_wp2_with (first | ((with_reducible refine zw (N := 2) rfl ?_); refine bz HB 2 rfl rfl Vx 62 ?_; intro gb827 w2 BK827 GE827 HB; have hz3 := cf4 BK827.out))
 refine bodyPost_ret (results_cell_row rfl _ _ gb827 62 #[.int .i64 0, .int .i64 a0, .int .i64 0, .slice none 0 0] (0, 0) _ rfl (by (with_reducible repeat (first | refine kdN ?_ _ | refine kdr ?_ | refine kal ?_ _)); refine zJ (cs := #[.int .i64 0, .int .i64 a0, .int .i64 0, .slice none 0 0]) ?_ 3 _ rfl; (with_reducible repeat (first | refine kdN ?_ _ | refine kdr ?_ | refine kal ?_ _)); refine zJ (cs := #[.int .i64 0, .int .i64 a0, .int .i64 0, .slice none 0 0]) ?_ 2 _ rfl; (with_reducible repeat (first | refine kdN ?_ _ | refine kdr ?_ | refine kal ?_ _)); refine zJ (cs := Vx) ?_ 1 _ rfl; (with_reducible repeat (first | refine kdN ?_ _ | refine kdr ?_ | refine kal ?_ _)); refine zJ (cs := Vx) ?_ 0 _ rfl; (with_reducible repeat (first | refine kdN ?_ _ | refine kdr ?_ | refine kal ?_ _)); exact BK827.out) Tryz.underlying62 rfl (by kernel_rfl)) rfl ?_
 exact ⟨_, rr, by first | exact Kd.R_nil _ _ _ _ _ | exact Kd.N_nil _ _ _ _ _ | exact Kd.V_nil _ _ _ _ _ | exact Kd.Q_nil _ _ _ _ _ | exact Kd.S_nil _ _ _ _ _, bb HB⟩
def YK.l0 : Nat -> List Int -> List Int -> Int -> Option (Bool)
 | 0, _, _, _ => none
 | k + 1, x0, x1, x5 => if x5 < (x0.length : Int) then (if 0 <= x5 then (if x5 < (x1.length : Int) then (if (rd x0 x5) = (rd x1 x5) then (YK.l0 k x0 x1 (wrap64 (x5 + 1))) else (some false)) else (none)) else (none)) else (some true)
def YK.f (k : Nat) (l0 : List Int) (l1 : List Int) : Option (Bool) := if (l0.length : Int) = (l1.length : Int) then (YK.l0 k l0 l1 0) else (some false)
theorem YK.calls (k : Nat) (A0 : Option Addr) (c0 : Nat) (l0 : List Int) (A1 : Option Addr) (c1 : Nat) (l1 : List Int) (r : Bool) (w : World) (hr0 : Kd.C (Kd.int .i64) w A0 l0.length l0) (hc0 : l0.length <= c0) (hr1 : Kd.C (Kd.int .i64) w A1 l1.length l1) (hc1 : l1.length <= c1) (h : YK.f k l0 l1 = some r) :
  Calls Tryz.prog 33 (Vn A0 l0 c0 A1 l1 c1) w fun e w' => e = .returned (.bool r) /\ zT w w' := by
 have HR0 := am hr0
 have HC0 := am hc0
 clear hr0 hc0
 have HR1 := am hr1
 have HC1 := am hc1
 clear hr1 hc1
 have H := h
 clear h
 obtain ⟨c3, c3b0, c3b1, H⟩ | ⟨c3b0, c3b1, H⟩ := qi H
 ·have c3b2 : (l0.length == l1.length) = false := by first | simpa using c3 | (simp at c3 ⊢; omega)
  obtain rfl := sj H
  go_enter Tryz.func33, Tryz.ntmps33
  go_wp2
  repeat (go_quiet (fail); try go_wp2)
  go_ret
  exact ⟨rs, dr⟩
 have c3 := beq_iff_eq.mp c3b0
 have c3b2 : (l0.length == l1.length) = true := by first | simpa using c3 | (simp at c3 ⊢; omega)
 clear c3
 have H' := am H
 clear H
 go_enter Tryz.func33, Tryz.ntmps33
 go_wp2
 repeat (go_quiet (fail); try go_wp2)
 go_loopg [5] k (fun kq v5 w' => ∃ (x5_1 : Int), v5 = .int .i64 x5_1 /\ Aside0 (YK.l0 kq l0 l1 x5_1 = some r) /\ Aside0 (kq <= k) /\ zT w w')
 case atStart => exact ⟨(0), rs, H', ⟨jk _⟩, dr⟩
 case round =>
  clear H'
  obtain ⟨x5_1, rfl, HA, HK1, ⟨m1, rfl⟩⟩ := hrel
  cases gk with
  | zero => exact jm HA.out (by simp [YK.l0])
  | succ k1 =>
   have H := HA.out
   clear HA
   simp only [YK.l0] at H
   obtain ⟨c4b0, H⟩ | ⟨c4b0, H⟩ := ei H
   ·obtain rfl := sj H
    go_wp2
    repeat (go_quiet (fail); try go_wp2)
    go_ret
    exact ⟨rs, dr⟩
   obtain ⟨c5b0, H⟩ := pd H
   obtain ⟨c6b0, H⟩ := pd H
   obtain ⟨c7, c7b0, c7b1, H⟩ | ⟨c7b0, c7b1, H⟩ := qi H
   ·obtain rfl := sj H
    have p828 : 0 <= (x5_1 : Int) := od
    have q828 : x5_1 < (l0.length : Int) := od
    obtain ⟨ad828, e828, hx828_0⟩ := Kd.at_int HR0.out x5_1 p828 q828
    cases e828
    replace p828 := eT p828
    replace q828 := eT q828
    have p829 : 0 <= (x5_1 : Int) := od
    have q829 : x5_1 < (l1.length : Int) := od
    obtain ⟨ad829, e829, hx829_0⟩ := Kd.at_int HR1.out x5_1 p829 q829
    cases e829
    replace p829 := eT p829
    replace q829 := eT q829
    go_wp2
    repeat (go_quiet (fail); try go_wp2)
    go_ret
    exact ⟨rs, dr⟩
   have H' := am H
   clear H
   have p828 : 0 <= (x5_1 : Int) := od
   have q828 : x5_1 < (l0.length : Int) := od
   obtain ⟨ad828, e828, hx828_0⟩ := Kd.at_int HR0.out x5_1 p828 q828
   cases e828
   replace p828 := eT p828
   replace q828 := eT q828
   have p829 : 0 <= (x5_1 : Int) := od
   have q829 : x5_1 < (l1.length : Int) := od
   obtain ⟨ad829, e829, hx829_0⟩ := Kd.at_int HR1.out x5_1 p829 q829
   cases e829
   replace p829 := eT p829
   replace q829 := eT q829
   go_wp2
   repeat (go_quiet (fail); try go_wp2)
   go_roundg k1
   case measure => have := HK1.out; omega
   case rel => exact ⟨(wrap64 (x5_1 + 1)), rs, H', ⟨by have := HK1.out; omega⟩, dr⟩
section
def z0J : S62 := ⟨1, 0, 0, []⟩
def z0I : S62 := ⟨0, 1, 0, []⟩
def aw_e2 : S62 := ⟨2, 0, 0, [z0J, z0I]⟩
theorem aw_read : z2x.f 0 0 = some (1, 0, 0, []) := rfl
theorem z7L : z1G.f 1 = some (0, 1, 0, []) := rfl
theorem aw_of : z5E.f 2 [z0J, z0I] = some (2, 0, 0, [z0J, z0I]) := rfl
theorem z37 {α : Type} {Q : α -> List Value -> Prop} {x : α} {c : List Value} (h : Q x c) : ∀ (j : Nat) (y : α) (d : List Value), [x][j]? = some y -> [c][j]? = some d -> Q y d := by
 intro j y d hy hd
 match j with
 | 0 => simp at hy hd; subst hy; subst hd; exact h
 | j + 1 => simp at hy
theorem each2' {α : Type} {Q : α -> List Value -> Prop} {x1 x2 : α} {c1 c2 : List Value} (h1 : Q x1 c1) (h2 : Q x2 c2) : ∀ (j : Nat) (y : α) (d : List Value), [x1, x2][j]? = some y -> [c1, c2][j]? = some d -> Q y d := by
 intro j y d hy hd
 match j with
 | 0 => simp at hy hd; subst hy; subst hd; exact h1
 | 1 => simp at hy hd; subst hy; subst hd; exact h2
 | j + 2 => simp at hy
theorem z16 {α : Type} {d : Kd α} {W : World} {b e : Nat} {l : List α} {css : List (List Value)} (h1 : W.heap[b]? = some (.cells css.flatten.toArray e (0, 0))) (h2 : css.length = l.length) (h3 : l.length <= 9223372036854775807)
  (h4 : ∀ (j : Nat) (x : α) (c : List Value), l[j]? = some x -> css[j]? = some c -> d.K W x c) : d.C W (some ⟨b, 0, none⟩) l.length l := by
 have hlen : ∀ c ∈ css, c.length = d.sz := by
  intro c hc
  obtain ⟨j, hj, e2⟩ := List.mem_iff_getElem.1 hc
  have hj2 : j < l.length := by omega
  exact d.K_len (h4 j l[j] c (jn hj2) (by rw [jn hj, e2]))
 have flat : ∀ (css : List (List Value)) (j : Nat) (c : List Value) (i : Nat), (∀ c ∈ css, c.length = d.sz) -> css[j]? = some c -> i < d.sz -> css.flatten[j * d.sz + i]? = c[i]? := by
  intro css
  induction css with
  | nil => intro j c i _ h _; simp at h
  | cons x r ih =>
   intro j c i hl h hi
   have h1 := hl x (by simp)
   cases j with
   | zero =>
    obtain rfl : x = c := by simpa using h
    simp only [List.flatten_cons, Nat.zero_mul, Nat.zero_add]
    rw [List.getElem?_append_left (by omega)]
   | succ j =>
    have e1 : (j + 1) * d.sz + i = x.length + (j * d.sz + i) := by rw [h1, Nat.succ_mul]; omega
    simp only [List.flatten_cons]
    rw [e1, List.getElem?_append_right (by omega), Nat.add_sub_cancel_left]
    exact ih j c i (fun c hc => hl c (by simp [hc])) (by simpa using h) hi
 refine ⟨rfl, h3, fun _ => ⟨_, rfl, fun j x hj => ?_⟩⟩
 have hj2 : j < css.length := by have := (List.getElem?_eq_some_iff.1 hj).1; omega
 have hc := jn hj2
 refine ⟨css[j], hlen _ (List.getElem_mem hj2), h4 j x _ hj hc, fun i u hu => ?_⟩
 have hi : i < d.sz := by have := (List.getElem?_eq_some_iff.1 hu).1; rw [hlen _ (List.getElem_mem hj2)] at this; exact this
 have hg := flat css j _ i hlen hc hi
 have : (⟨b, 0, none⟩ : Addr).add (j * d.sz + i) = ⟨b, j * d.sz + i, none⟩ := by unfold Addr.add; split <;> simp_all
 rw [this, za h1 (j * d.sz + i)]
 simpa [hg] using hu
theorem z6a (W : World) (A : Option Addr) : Kd.C k81 W A ([] : List S81).length [] := Kd.F_now (z4d (W := W) A (fun _ => True))
theorem aw_args (W : World) (Ea : Option Addr) (fa : Nat) (Eb : Option Addr) (fb : Nat) : Kd.V k62 62 (W.alloc (.cells (Vjq 1 Ea 0 fa 1 Eb 0 fb) 62)) (W.alloc (.cells (Vjq 1 Ea 0 fa 1 Eb 0 fb) 62)).heap.size (fun _ => True) (.slice (some ⟨W.heap.size, 0, none⟩) [z0J, z0I].length 2) [z0J, z0I] := by
 obtain ⟨A, e1, hf⟩ := (z00.new (d := k62) (B := 0) (e := 62) (W := W) (l := [z0J, z0I]) (Nat.zero_le _) [[.int .i64 1, .int .i64 0, .int .i64 0, .slice Ea 0 fa], [.int .i64 0, .int .i64 1, .int .i64 0, .slice Eb 0 fb]] rfl rfl (by simp)
  (each2' (Q := fun x c => Kd.FK k62 W (fun k => 0 <= k /\ k < W.heap.size) x c) (z5T W _ z0J (Nat.zero_le _) (z4d Ea _)) (z5T W _ z0I (Nat.zero_le _) (z4d Eb _)))).foot
 cases e1
 exact Kd.V_mk (jk _) (Kd.F_mono hf (fun _ _ => trivial))
theorem aw_cv {W : World} {b : Nat} (h : W.heap[b]? = some (.cells #[.string ⟨#[104]⟩, .int .i64 0, .int .i64 1] 76 (0, 0))) : Kd.C k76 W (some ⟨b, 0, none⟩) YG.length YG :=
 z16 (css := [[.string ⟨#[104]⟩, .int .i64 0, .int .i64 1]]) h rfl (by decide) (z37 (k76_mk W _))
theorem aw_cb {W : World} {b1 b2 : Nat} {Ec : Option Addr} {fc : Nat} (hc : Kd.C k62 W Ec 2 [z0J, z0I]) (hf : 2 <= fc) (h1 : W.heap[b1]? = some (.cells (Vy 2 Ec 2 fc) 62 (0, 0))) (h2 : W.heap[b2]? = some (.cells (Vs (some ⟨b1, 0, none⟩) 1 1) 81 (0, 0))) : Kd.C k81 W (some ⟨b2, 0, none⟩) z0q.length z0q :=
 z16 (css := [[.int .i64 0, .int .i64 0, .slice (some ⟨b1, 0, none⟩) 1 1, .slice none 0 0, .slice none 0 0]]) h2 rfl (by decide)
  (z37 (z7p W (⟨0, 0, [aw_e2], [], []⟩ : S81) (by decide) (z16 (css := [[.int .i64 2, .int .i64 0, .int .i64 0, .slice Ec 2 fc]]) h1 rfl (by simp) (z37 (z7r W aw_e2 hf hc))) (jk _) (z6a W _) (jk _) (z6a W _)))
theorem z6F : yP 0 2 YG z0q = (2, YG, z1T, 0) := by rw [yP, jb rfl, aw_code]
theorem z5p : yP 30 0 YG z0q = (0, [], [], 30) := by rw [yP, ja (by decide)]
theorem z7K : z2h 0 z0q = ([0], 0) := by rw [z2h, jb rfl, z6E]
theorem aw_cmp {w : World} {A1 A2 : Option Addr} {n1 n2 : Nat} (h1 : Kd.C k76 w A1 1 YG) (hn1 : 1 <= n1) (h2 : Kd.C k81 w A2 1 z0q) (hn2 : 1 <= n2) :
  Calls Tryz.prog 9 #[.agg (Vaq 2 A1 1 n1 A2 1 n2)] w fun e w' => ∃ D1 d1 D2 d2, e = .returned (.tuple #[.agg (Vaq 2 D1 1 d1 D2 5 d2), .int .i64 0]) /\ Kd.F k76 w' (fun k => w.heap.size <= k) D1 1 YG /\ 1 <= d1 /\ Kd.F k93 w' (fun k => w.heap.size <= k) D2 5 z1T /\ 5 <= d2 /\ Below w.heap.size w w' := by
 refine (z0F.calls 60 2 A1 n1 YG A2 n2 z0q 0 w h1 hn1 h2 hn2 z4R (fun _ => aw_ok) (fun _ => by decide)).mono ?_
 rintro e w' ⟨v1, v2, rfl, r1, r2, hb⟩
 rw [z6F] at r1 r2 ⊢
 obtain ⟨D1, d1, rfl⟩ := js r1
 obtain ⟨D2, d2, rfl⟩ := js r2
 exact ⟨D1, d1, D2, d2, rfl, Kd.R_F (jr (Kd.R_bound r1) (fun k hk => hk.2.1)), (Kd.R_reads' r1).2.1, Kd.R_F (jr (Kd.R_bound r2) (fun k hk => hk.2.1)), (Kd.R_reads' r2).2.1, hb⟩
theorem aw_cmp0 {w : World} {A1 A2 : Option Addr} {n1 n2 : Nat} (h1 : Kd.C k76 w A1 1 YG) (hn1 : 1 <= n1) (h2 : Kd.C k81 w A2 1 z0q) (hn2 : 1 <= n2) :
  Calls Tryz.prog 9 #[.agg (Vcq A1 1 n1 A2 1 n2)] w fun e w' => ∃ D1 d1 D2 d2, e = .returned (.tuple #[.agg (Vcq D1 0 d1 D2 0 d2), .int .i64 30]) /\ Below w.heap.size w w' := by
 refine (z0F.calls 60 0 A1 n1 YG A2 n2 z0q 30 w h1 hn1 h2 hn2 z6G (fun h => jm h (by decide)) (fun h => jm h (by decide))).mono ?_
 rintro e w' ⟨v1, v2, rfl, r1, r2, hb⟩
 rw [z5p] at r1 r2 ⊢
 obtain ⟨D1, d1, rfl⟩ := js r1
 obtain ⟨D2, d2, rfl⟩ := js r2
 exact ⟨D1, d1, D2, d2, rfl, hb⟩
theorem aw_pls {w : World} {A1 A2 : Option Addr} {n1 n2 : Nat} (h1 : Kd.C k76 w A1 1 YG) (hn1 : 1 <= n1) (h2 : Kd.C k81 w A2 1 z0q) (hn2 : 1 <= n2) :
  Calls Tryz.prog 17 #[.agg (Vaq 2 A1 1 n1 A2 1 n2)] w fun e w' => ∃ D1 d1, e = .returned (.tuple #[.slice D1 1 d1, .int .i64 0]) /\ Below w.heap.size w w' := by
 refine (z4M.calls 60 2 A1 n1 YG A2 n2 z0q 0 w h1 hn1 h2 hn2 z4R (fun _ => aw_ok)).mono ?_
 rintro e w' ⟨v1, rfl, r1, hb⟩
 rw [z7K] at r1 ⊢
 obtain ⟨D1, d1, rfl⟩ := js r1
 exact ⟨D1, d1, rfl, hb⟩
theorem aw_is {w : World} {A1 A2 : Option Addr} {n1 n2 : Nat} (h1 : Kd.C k76 w A1 1 YG) (hn1 : 1 <= n1) (h2 : Kd.C k93 w A2 5 z1T) (hn2 : 5 <= n2) :
  Calls Tryz.prog 18 #[.agg (Vaq 2 A1 1 n1 A2 5 n2)] w fun e w' => e = .returned (.bool true) /\ Below w.heap.size w w' :=
 z66.calls 60 2 A1 n1 YG A2 n2 z1T w h1 hn1 h2 hn2 aw_head (by decide) (by decide) z7J (.inr rfl)
theorem aw_runs {w : World} {A1 A2 As : Option Addr} {n1 n2 ns : Nat} (h1 : Kd.C k76 w A1 1 YG) (hn1 : 1 <= n1) (h2 : Kd.C k93 w A2 5 z1T) (hn2 : 5 <= n2) (hs : Kd.C (Kd.int .i64) w As 1 [3]) (hns : 1 <= ns) :
  Calls Tryz.prog 16 #[.agg (Vaq 2 A1 1 n1 A2 5 n2), .int .i64 100, .agg #[.slice As 1 ns, .slice none 0 0]] w fun e w' => ∃ B1 m1 B2 m2 B3 m3 B7 m7 B8 m8, e = .returned (.agg #[.int .i64 0, .slice B1 1 m1, .slice B2 0 m2, .slice B3 0 m3, .int .i64 5, .int .i64 0, .int .i64 0, .slice B7 64 m7, .slice B8 5 m8, .int .i64 4, .int .i64 95, .bool true]) /\ Kd.C (Kd.int .i64) w' B1 1 [0] /\ 1 <= m1 /\ Below w.heap.size w w' := by
 refine (z4Y.calls 60 7 w 2 A1 n1 YG A2 n2 z1T 100 As ns [3] none 0 [] [3] z7I h1 hn1 h2 hn2 hs hns (Kd.F_now (z4d (W := w) none (fun _ => True))) (jk _) aw_copy aw_loop (z2H _ _ aw_all)).mono ?_
 rintro e w' ⟨cs, rfl, ⟨B1, m1, B2, m2, B3, m3, B7, m7, B8, m8, rfl, h, _⟩, hb⟩
 exact ⟨B1, m1, B2, m2, B3, m3, B7, m7, B8, m8, rfl, (Kd.R_reads' h).2.2, (Kd.R_reads' h).2.1, hb⟩
theorem z7H {w : World} {A1 A2 : Option Addr} {n1 n2 : Nat} (h1 : Kd.C (Kd.int .i64) w A1 1 [0]) (hn1 : 1 <= n1) (h2 : Kd.C (Kd.int .i64) w A2 1 [0]) (hn2 : 1 <= n2) :
  Calls Tryz.prog 33 #[.slice A1 1 n1, .slice A2 1 n2] w fun e w' => e = .returned (.bool true) /\ Below w.heap.size w w' := by
 refine (YK.calls 60 A1 n1 [0] A2 n2 [0] true w h1 hn1 h2 hn2 (by kernel_rfl)).mono ?_
 rintro e w' ⟨rfl, nd, rfl⟩
 exact ⟨rfl, bdN (jc _ _) nd⟩
def AwB (X : World) (bv b1 b2 n : Nat) (Ec : Option Addr) (fc : Nat) : Prop := X.heap[bv]? = some (.cells #[.string ⟨#[104]⟩, .int .i64 0, .int .i64 1] 76 (0, 0)) /\ X.heap[b1]? = some (.cells (Vy 2 Ec 2 fc) 62 (0, 0)) /\
 X.heap[b2]? = some (.cells (Vs (some ⟨b1, 0, none⟩) 1 1) 81 (0, 0)) /\ 2 <= fc /\ Kd.F k62 X (fun k => k < n) Ec 2 [z0J, z0I]
theorem AwB.below {X Y : World} {bv b1 b2 n fc : Nat} {Ec : Option Addr} (h : AwB X bv b1 b2 n Ec fc) (hb : Below X.heap.size X Y) : AwB Y bv b1 b2 n Ec fc :=
 ⟨zd h.1 hb, zd h.2.1 hb, zd h.2.2.1 hb, h.2.2.2.1, Kd.F_below h.2.2.2.2 hb⟩
theorem AwB.far {X : World} {bv b1 b2 n fc : Nat} {Ec : Option Addr} (h : AwB X bv b1 b2 n Ec fc) {p : Addr} (hv : bv ≠ p.block) (h1 : b1 ≠ p.block) (h2 : b2 ≠ p.block) (hn : n <= p.block) (u : Value) : AwB (X.setCell p u) bv b1 b2 n Ec fc :=
 ⟨z0f h.1 hv u, z0f h.2.1 h1 u, z0f h.2.2.1 h2 u, h.2.2.2.1, Kd.F_far h.2.2.2.2 (fun k hk => by omega) u⟩
theorem AwB.cv {X : World} {bv b1 b2 n fc : Nat} {Ec : Option Addr} (h : AwB X bv b1 b2 n Ec fc) : Kd.C k76 X (some ⟨bv, 0, none⟩) 1 YG := aw_cv h.1
theorem AwB.cb {X : World} {bv b1 b2 n fc : Nat} {Ec : Option Addr} (h : AwB X bv b1 b2 n Ec fc) : Kd.C k81 X (some ⟨b2, 0, none⟩) 1 z0q := aw_cb (Kd.F_now h.2.2.2.2) h.2.2.2.1 h.2.1 h.2.2.1
theorem z4Q (X : World) (a0 a1 a2 a3 a4 a5 a6 a7 a8 a9 a10 a11 : Value) : Sem.run Tryz.prog (Instr.field 48 (.agg #[a0, a1, a2, a3, a4, a5, a6, a7, a8, a9, a10, a11]) 0) X = .ok (.agg #[a0, a1, a2, a3, a4, a5, a6]) X := by kernel_rfl
attribute [local go_sem] z4Q
theorem z3e.calls (w : World) : Calls Tryz.prog 8 #[] w fun e w' => e = .returned (.bool true) /\ Below w.heap.size w w' := by
 have huP := Tryz.underlying25
 have huS := Tryz.underlying81
 have huE := Tryz.underlying62
 have huV := Tryz.underlying76
 have huC := Tryz.underlying33
 have huR := Tryz.underlying44
 have huK := Tryz.underlying48
 go_enter Tryz.func8, Tryz.ntmps8
 go_upto_region 2 with (first
  | (go_at_call 31; (with_reducible refine (z2x.calls 0 0 1 0 0 [] (w.alloc (.cells #[.string ⟨#[104]⟩, .int .i64 0, .int .i64 1] 76)) aw_read).mono ?_); rintro e W1 ⟨v, rfl, o_, hb_⟩; obtain ⟨E1, f1, e_⟩ := js o_; subst e_; have B1 := am hb_; clear hb_ o_)
  | (go_at_call 32; (with_reducible refine (z1G.calls 1 0 1 0 [] W1 z7L).mono ?_); rintro e W2 ⟨v, rfl, o_, hb_⟩; obtain ⟨E2, f2, e_⟩ := js o_; subst e_; have B2 := am hb_; clear hb_ o_)
  | (go_at_call 30; refine (z5E.calls 2 (fun _ => True) (some ⟨W2.heap.size, 0, none⟩) 2 [z0J, z0I] 2 0 0 [z0J, z0I] _ (aw_args W2 E1 f1 E2 f2) aw_of).mono ?_; rintro e W3 ⟨v, rfl, o_, hb_⟩; obtain ⟨Ec, fc, e_⟩ := Kd.V_slice o_; subst e_; have HO := am (And.intro (Kd.V_reads' o_).2.1 (Kd.V_F (Kd.V_bound o_))); have B3 := am hb_; clear hb_ o_))
 have B0 := am (bal (jc w.heap.size w) (.cells #[.string ⟨#[104]⟩, .int .i64 0, .int .i64 1] 76))
 have V1 := (B1.out.block _ (by simp)).trans (zI w (.cells #[.string ⟨#[104]⟩, .int .i64 0, .int .i64 1] 76))
 have c1 : Below w.heap.size w W1 := B0.out.trans (B1.out.mono (by simp))
 have s1 := zM V1
 have V2 := (B2.out.block _ s1).trans V1
 have c2 : Below w.heap.size w W2 := c1.trans (B2.out.mono c1.size)
 have s2 := zM V2
 have V3 := (B3.out.block _ (by simp; omega)).trans (kal V2 (.cells (Vjq 1 E1 0 f1 1 E2 0 f2) 62))
 have c3 : Below w.heap.size w W3 := (bal c2 _).trans (B3.out.mono (by simp; exact Nat.le_trans c2.size (Nat.le_succ _)))
 have s3 := zM V3
 have P1 := kal (kal (zI W3 (.cells (Vy 2 Ec 2 fc) 62)) (.cells (Vs (some ⟨W3.heap.size, 0, none⟩) 1 1) 81)) (.cells (Vaq 2 (some ⟨w.heap.size, 0, none⟩) 1 1 (some ⟨W3.heap.size + 1, 0, none⟩) 1 1) 25)
 have P2 := kal (zI (W3.alloc (.cells (Vy 2 Ec 2 fc) 62)) (.cells (Vs (some ⟨W3.heap.size, 0, none⟩) 1 1) 81)) (.cells (Vaq 2 (some ⟨w.heap.size, 0, none⟩) 1 1 (some ⟨W3.heap.size + 1, 0, none⟩) 1 1) 25)
 have P3 := zI ((W3.alloc (.cells (Vy 2 Ec 2 fc) 62)).alloc (.cells (Vs (some ⟨W3.heap.size, 0, none⟩) 1 1) 81)) (.cells (Vaq 2 (some ⟨w.heap.size, 0, none⟩) 1 1 (some ⟨W3.heap.size + 1, 0, none⟩) 1 1) 25)
 rw [show (W3.alloc (.cells (Vy 2 Ec 2 fc) 62)).heap.size = W3.heap.size + 1 by simp] at P2
 rw [show ((W3.alloc (.cells (Vy 2 Ec 2 fc) 62)).alloc (.cells (Vs (some ⟨W3.heap.size, 0, none⟩) 1 1) 81)).heap.size = W3.heap.size + 1 + 1 by simp] at P3
 have V4 := kal (kal (kal V3 (.cells (Vy 2 Ec 2 fc) 62)) (.cells (Vs (some ⟨W3.heap.size, 0, none⟩) 1 1) 81)) (.cells (Vaq 2 (some ⟨w.heap.size, 0, none⟩) 1 1 (some ⟨W3.heap.size + 1, 0, none⟩) 1 1) 25)
 have c4 := bal (bal (bal c3 (.cells (Vy 2 Ec 2 fc) 62)) (.cells (Vs (some ⟨W3.heap.size, 0, none⟩) 1 1) 81)) (.cells (Vaq 2 (some ⟨w.heap.size, 0, none⟩) 1 1 (some ⟨W3.heap.size + 1, 0, none⟩) 1 1) 25)
 have e4 := bal (bal (bal (jc W3.heap.size W3) (.cells (Vy 2 Ec 2 fc) 62)) (.cells (Vs (some ⟨W3.heap.size, 0, none⟩) 1 1) 81)) (.cells (Vaq 2 (some ⟨w.heap.size, 0, none⟩) 1 1 (some ⟨W3.heap.size + 1, 0, none⟩) 1 1) 25)
 have CE : Kd.F k62 _ (fun k => k < W3.heap.size) Ec 2 [z0J, z0I] := Kd.F_mono (Kd.F_below HO.out.2 e4) (fun k hk => hk.2)
 have hfc : 2 <= fc := HO.out.1
 generalize ((W3.alloc (.cells (Vy 2 Ec 2 fc) 62)).alloc (.cells (Vs (some ⟨W3.heap.size, 0, none⟩) 1 1) 81)).alloc (.cells (Vaq 2 (some ⟨w.heap.size, 0, none⟩) 1 1 (some ⟨W3.heap.size + 1, 0, none⟩) 1 1) 25) = X0 at P1 P2 P3 V4 c4 CE ⊢
 have AB := am (show AwB X0 w.heap.size W3.heap.size (W3.heap.size + 1) W3.heap.size Ec fc from ⟨V4, P1, P2, hfc, CE⟩)
 have PP := am P3
 have C0 := am c4
 have hbw : w.heap.size < W3.heap.size /\ W3.heap.size + 1 < W3.heap.size + 1 + 1 := by omega
 clear e4 CE hfc P1 P2 P3 V4 c4 s3 c3 V3 s2 c2 V2 s1 c1 V1 B0 B1 B2 B3 HO
 obtain ⟨bb, hbb⟩ : ∃ x, W3.heap.size + 1 = x := ⟨_, rfl⟩
 obtain ⟨bp, hbp⟩ : ∃ x, bb + 1 = x := ⟨_, rfl⟩
 rw [hbb] at AB PP hbw
 rw [hbp] at PP hbw
 simp only [hbb, hbp]
 have hb3 : W3.heap.size < bp := by omega
 have HBW := am (show w.heap.size < bp /\ W3.heap.size < bp /\ bb < bp by omega)
 clear hbw hb3
 have p0 : X0.cell? ⟨bp, 0, none⟩ = some (.int .i64 2) := (za PP.out 0).trans rfl
 have p1 : X0.cell? ⟨bp, 1, none⟩ = some (.slice (some ⟨w.heap.size, 0, none⟩) 1 1) := (za PP.out 1).trans rfl
 have p2 : X0.cell? ⟨bp, 2, none⟩ = some (.slice (some ⟨bb, 0, none⟩) 1 1) := (za PP.out 2).trans rfl
 go_upto_region 3 with (first | (go_at_call 9; refine (aw_cmp (w := X0) AB.out.cv (jk _) AB.out.cb (jk _)).mono ?_; rintro e X1 ⟨D1, d1, D2, d2, rfl, q1, q2, q3, q4, hb⟩; have Q1 := am q1; have Q2 := am q2; have Q3 := am q3; have Q4 := am q4; have B1 := am hb; clear q1 q2 q3 q4 hb))
 have BA := am (bal B1.out (.cells (Vaq 2 D1 1 d1 D2 5 d2) 33))
 have BB := am (bal (jc X1.heap.size X1) (.cells (Vaq 2 D1 1 d1 D2 5 d2) 33))
 have CC := am (zI X1 (.cells (Vaq 2 D1 1 d1 D2 5 d2) 33))
 obtain ⟨bc, hbc⟩ : ∃ x, X1.heap.size = x := ⟨_, rfl⟩
 have HBX := am (zM PP.out)
 have HBC := am (show bp < bc by have := zM PP.out; have := B1.out.size; omega)
 have BB := am (hbc ▸ BB.out)
 have CC := am (hbc ▸ CC.out)
 simp only [hbc]
 clear hbc p0 p1 p2
 generalize hX2 : X1.alloc (.cells (Vaq 2 D1 1 d1 D2 5 d2) 33) = X2 at BA BB CC ⊢
 have R1 := am (show Kd.F k76 X2 (fun k => X0.heap.size <= k) D1 1 YG by rw [<- hX2]; exact Kd.F_below Q1.out (bal (jc _ _) _))
 have R3 := am (show Kd.F k93 X2 (fun k => X0.heap.size <= k) D2 5 z1T by rw [<- hX2]; exact Kd.F_below Q3.out (bal (jc _ _) _))
 clear hX2 Q1 Q3 B1 BB
 have AB2 := am (AB.out.below BA.out)
 have PP2 := am (zd PP.out BA.out)
 have C2 := am (C0.out.trans (BA.out.mono C0.out.size))
 clear AB PP C0 BA
 have p0 : X2.cell? ⟨bp, 0, none⟩ = some (.int .i64 2) := (za PP2.out 0).trans rfl
 have p1 : X2.cell? ⟨bp, 1, none⟩ = some (.slice (some ⟨w.heap.size, 0, none⟩) 1 1) := (za PP2.out 1).trans rfl
 have p2 : X2.cell? ⟨bp, 2, none⟩ = some (.slice (some ⟨bb, 0, none⟩) 1 1) := (za PP2.out 2).trans rfl
 go_upto_region 5 with (first | (go_at_call 17; refine (aw_pls (w := X2) AB2.out.cv (jk _) AB2.out.cb (jk _)).mono ?_; rintro e X3 ⟨T1, t1, rfl, hb⟩; have B3 := am hb; clear hb; have PP3 := am (zd PP2.out B3.out); have p0' : X3.cell? ⟨bp, 0, none⟩ = some (.int .i64 2) := (za PP3.out 0).trans rfl; have g0 := zf PP3.out 0))
 clear p0 p1 p2 p0' g0
 have AB4 := am ((AB2.out.below B3.out).far (p := ⟨bp, 0, none⟩) (by have := HBW.out; simp; omega) (by have := HBW.out; simp; omega) (by have := HBW.out; simp; omega) (by have := HBW.out; simp; omega) (.int .i64 0))
 have PP4 := am (yD PP3.out 0 (.int .i64 0))
 have CC4 := am (z0f (zd CC.out B3.out) (p := ⟨bp, 0, none⟩) (by have := HBC.out; simp; omega) (.int .i64 0))
 have C4 := am ((C2.out.trans (B3.out.mono C2.out.size)).setCell (p := ⟨bp, 0, none⟩) (by have := HBW.out; simp; omega) (.int .i64 0))
 have U1 := am (Kd.F_now (Kd.F_far (p := ⟨bp, 0, none⟩) (Kd.F_below R1.out B3.out) (fun k hk => by have := HBX.out; simp; omega) (.int .i64 0)))
 have U3 := am (Kd.F_now (Kd.F_far (p := ⟨bp, 0, none⟩) (Kd.F_below R3.out B3.out) (fun k hk => by have := HBX.out; simp; omega) (.int .i64 0)))
 clear AB2 PP2 C2 CC R1 R3 HBX
 clear B3 PP3
 generalize X3.setCell ⟨bp, 0, none⟩ (.int .i64 0) = X4 at AB4 PP4 CC4 C4 U1 U3 ⊢
 have p0 : X4.cell? ⟨bp, 0, none⟩ = some (.int .i64 0) := (za PP4.out 0).trans rfl
 have p1 : X4.cell? ⟨bp, 1, none⟩ = some (.slice (some ⟨w.heap.size, 0, none⟩) 1 1) := (za PP4.out 1).trans rfl
 have p2 : X4.cell? ⟨bp, 2, none⟩ = some (.slice (some ⟨bb, 0, none⟩) 1 1) := (za PP4.out 2).trans rfl
 go_upto_region 6 with (first | (go_at_call 9; refine (aw_cmp0 (w := X4) AB4.out.cv (jk _) AB4.out.cb (jk _)).mono ?_; rintro e X5 ⟨D3, d3, D4, d4, rfl, hb⟩; have B5 := am hb; clear hb))
 clear p0 p1 p2
 have B6 := am (bal B5.out (.cells (Vcq D3 0 d3 D4 0 d4) 33))
 obtain ⟨bz, hbz⟩ : ∃ x, X5.heap.size = x := ⟨_, rfl⟩
 simp only [hbz]
 clear hbz
 generalize X5.alloc (.cells (Vcq D3 0 d3 D4 0 d4) 33) = X6 at B6 ⊢
 clear B5
 have U1 := am (ji U1.out B6.out)
 have U3 := am (ji U3.out B6.out)
 have CC6 := am (zd CC4.out B6.out)
 have C6 := am (C4.out.trans (B6.out.mono C4.out.size))
 clear AB4 PP4 CC4 C4 B6
 have q0 : X6.cell? ⟨bc, 0, none⟩ = some (.int .i64 2) := (za CC6.out 0).trans rfl
 have q1 : X6.cell? ⟨bc, 1, none⟩ = some (.slice D1 1 d1) := (za CC6.out 1).trans rfl
 have q2 : X6.cell? ⟨bc, 2, none⟩ = some (.slice D2 5 d2) := (za CC6.out 2).trans rfl
 go_upto_region 8 with (first | (go_at_call 18; refine (aw_is (w := X6) U1.out Q2.out U3.out Q4.out).mono ?_; rintro e X7 ⟨rfl, hb⟩; have B7 := am hb; clear hb))
 clear q0 q1 q2
 have CC7 := am (zd CC6.out B7.out)
 have U1 := am (ji U1.out B7.out)
 have U3 := am (ji U3.out B7.out)
 have C7 := am (C6.out.trans (B7.out.mono C6.out.size))
 clear CC6 C6 B7
 have q0 : X7.cell? ⟨bc, 0, none⟩ = some (.int .i64 2) := (za CC7.out 0).trans rfl
 have q1 : X7.cell? ⟨bc, 1, none⟩ = some (.slice D1 1 d1) := (za CC7.out 1).trans rfl
 have q2 : X7.cell? ⟨bc, 2, none⟩ = some (.slice D2 5 d2) := (za CC7.out 2).trans rfl
 go_upto_region 9 with (first | (go_at_call 16; refine (aw_runs (w := X7.alloc (.cells #[.int .i64 3] 3)) (ji U1.out (bal (jc _ _) _)) Q2.out (ji U3.out (bal (jc _ _) _)) Q4.out (z16 (css := [[.int .i64 3]]) (zI X7 (.cells #[.int .i64 3] 3)) rfl (by decide) (z37 rfl)) (jk _)).mono ?_; rintro e X8 ⟨G1, m1, G2, m2, G3, m3, G7, m7, G8, m8, rfl, g1, g2, hb⟩; have B8 := am hb; have G1H := am g1; have G2H := am g2; clear hb g1 g2))
 clear q0 q1 q2
 have B9 := am (bal (jc X8.heap.size X8) (.cells #[.int .i64 0, .slice G1 1 m1, .slice G2 0 m2, .slice G3 0 m3, .int .i64 5, .int .i64 0, .int .i64 0] 44))
 have RR := am (zI X8 (.cells #[.int .i64 0, .slice G1 1 m1, .slice G2 0 m2, .slice G3 0 m3, .int .i64 5, .int .i64 0, .int .i64 0] 44))
 have C8 := am ((bal C7.out (.cells #[.int .i64 3] 3)).trans (B8.out.mono (bal C7.out (.cells #[.int .i64 3] 3)).size))
 obtain ⟨br, hbr⟩ : ∃ x, X8.heap.size = x := ⟨_, rfl⟩
 rw [hbr] at RR
 simp only [hbr]
 have G1H := am (ji G1H.out B9.out)
 have C9 := am (C8.out.trans (B9.out.mono C8.out.size))
 clear C8 B9 hbr
 generalize X8.alloc (.cells #[.int .i64 0, .slice G1 1 m1, .slice G2 0 m2, .slice G3 0 m3, .int .i64 5, .int .i64 0, .int .i64 0] 44) = X9 at RR G1H C9 ⊢
 have r0 : X9.cell? ⟨br, 0, none⟩ = some (.int .i64 0) := (za RR.out 0).trans rfl
 have r1 : X9.cell? ⟨br, 1, none⟩ = some (.slice G1 1 m1) := (za RR.out 1).trans rfl
 go_wp2_with (first | (go_at_call 33; refine (z7H (w := X9.alloc (.cells #[.int .i64 0] 3)) (ji G1H.out (bal (jc _ _) _)) G2H.out (z16 (css := [[.int .i64 0]]) (zI X9 (.cells #[.int .i64 0] 3)) rfl (by decide) (z37 rfl)) (jk _)).mono ?_; rintro e X10 ⟨rfl, hb⟩; have B10 := am hb; clear hb; have RR10 := am (zd (kal RR.out (.cells #[.int .i64 0] 3)) B10.out); have r4 : X10.cell? ⟨br, 4, none⟩ = some (.int .i64 5) := (za RR10.out 4).trans rfl))
 go_ret
 exact ⟨rfl, (bal C9.out (.cells #[.int .i64 0] 3)).trans (B10.out.mono (bal C9.out (.cells #[.int .i64 0] 3)).size)⟩
end
mutual
def sOK (w : Int) (vars : List S76) : S81 -> Bool
 | ⟨op, n, a, t, e⟩ => z0c vars op n a.length t.length e.length && (YC w vars t && (YC w vars e && a.all (eIs w vars 1)))
def YC (w : Int) (vars : List S76) : List S81 -> Bool
 | [] => true
 | x :: r => sOK w vars x && YC w vars r
end
theorem z0y (w : Int) (vars : List S76) (x : S81) : sOK w vars x = (z0c vars x.f0 x.f1 x.f2.length x.f3.length x.f4.length && (YC w vars x.f3 && (YC w vars x.f4 && x.f2.all (eIs w vars 1)))) := by cases x; simp only [sOK]
theorem z4r (w : Int) (vars : List S76) : YC w vars [] = true := by simp only [YC]
theorem yX (w : Int) (vars : List S76) (x : S81) (r : List S81) : YC w vars (x :: r) = (sOK w vars x && YC w vars r) := by simp only [YC]
theorem z57 (w : Int) (vars : List S76) (h1 : 1 <= w) (h8 : w <= 8) : (∀ x, YS x -> zc (fun k => zU.f k w vars x.f3) (YC w vars x.f3) /\ zc (fun k => zU.f k w vars x.f4) (YC w vars x.f4)) /\
  (∀ suf, ∀ (pre : List S81), ZM suf -> (pre ++ suf).length <= 9223372036854775807 -> zc (fun k => zU.l0 k w vars (pre ++ suf) (pre.length : Int)) (YC w vars suf)) := by
 refine z1k (fun a b l t e h1 h2 => ?_) ?_ (fun x r ih1 ih2 => ?_)
 ·intro hg
  rw [z0n] at hg
  constructor
  ·refine zc.succ ?_
   simp only [zU.f]
   exact h1 [] hg.2.1.2 hg.2.1.1
  ·refine zc.succ ?_
   simp only [zU.f]
   exact h2 [] hg.2.2.2 hg.2.2.1
 ·intro pre _ _
  refine zc.succ ?_
  simp only [zU.l0, ZL, if_false]
  rw [z4r]
  exact zc.pure _
 ·intro pre hg hl
  rw [Yw] at hg
  obtain ⟨hg1, hg2⟩ := hg
  have hx := hg1
  rw [z1Q] at hx
  obtain ⟨t1, t2⟩ := ih1 hg1
  have args : ∀ (asuf apre : List S62), x.f2 = apre ++ asuf -> yU asuf -> zc (fun k => zU.l1 k w vars (pre ++ x :: r) (pre.length : Int) (apre.length : Int)) (asuf.all (eIs w vars 1) && YC w vars r) := by
   intro asuf
   induction asuf with
   | nil =>
    intro apre hx2 _
    refine zc.succ ?_
    have hn : ¬ ((apre.length : Int) < (x.f2.length : Int)) := by rw [hx2, List.append_nil]; omega
    simp only [zU.l1, Z6, Zo, if_true, yc, hn, if_false]
    have t3 := ih2 (pre ++ [x]) hg2 (by rw [<- zQ]; exact hl)
    rw [<- zQ] at t3
    rw [Zi pre x r hl, List.all_nil, Bool.true_and]
    exact t3
   | cons a az iha =>
    intro apre hx2 hga
    refine zc.succ ?_
    have hn : ((apre.length : Int) < (x.f2.length : Int)) := by rw [hx2]; exact Zo _ _ _
    have ha : zi x.f2 (apre.length : Int) = a := by rw [hx2]; exact Y6 _ _ _
    simp only [zU.l1, Z6, Zo, if_true, yc, hn, ha]
    rw [Zi apre a az (by rw [<- hx2]; exact hx.1.1), List.all_cons, Bool.and_assoc]
    exact zc.bind (z7X w vars 1 h1 h8 a hga.1) (zc.ifB (iha (apre ++ [a]) (by rw [hx2, zQ]) hga.2))
  have jt : zc (fun k => zU.j1 k w vars (pre ++ x :: r) (pre.length : Int) true) false := by
   refine zc.succ ?_
   simp only [zU.j1, if_true]
   exact zc.pure _
  have jf : zc (fun k => zU.j1 k w vars (pre ++ x :: r) (pre.length : Int) false) (x.f2.all (eIs w vars 1) && YC w vars r) := by
   refine zc.succ ?_
   simp only [zU.j1, Bool.false_eq_true, if_false]
   exact args x.f2 [] rfl hx.1.2
  refine zc.succ ?_
  simp only [zU.l0, Zo, Z6, if_true, yc]
  rw [yX, z0y]
  refine zc.bind (z5i vars x.f0 x.f1 x.f2 x.f3 x.f4) ?_
  cases z0c vars x.f0 x.f1 x.f2.length x.f3.length x.f4.length
  ·exact jt
  ·simp only [if_true, Bool.true_and]
   refine zc.bind t1 ?_
   cases YC w vars x.f3
   ·exact jt
   ·simp only [if_true, Bool.true_and]
    refine zc.bind t2 ?_
    cases YC w vars x.f4
    ·exact jt
    ·exact jf
def pIs (w : Int) (vars : List S76) (body : List S81) : Bool := hIs w vars && (decide (sNs body <= 400) && (decide (sDs body <= 16) && YC w vars body))
theorem z3x (w : Int) (vars : List S76) (body : List S81) (hl : body.length <= 9223372036854775807) (hg : ZM body) : zc (fun k => z2g.f k w vars body) (pIs w vars body) := by
 unfold z2g.f pIs
 refine zc.bind (z14 w vars) ?_
 cases hh : hIs w vars
 ·exact zc.pure _
 ·obtain ⟨h1, h8, _⟩ := z44 hh
  simp only [if_true, Bool.true_and]
  have hf := fitsS body 400 hl hg (by decide) (by decide)
  rw [decide_eq_decide.2 (show ((sNs body : Int) <= 400) ↔ (sNs body <= 400) by omega)] at hf
  refine zc.bind hf ?_
  by_cases hn : sNs body <= 400
  ·rw [decide_eq_true hn]
   simp only [if_true, Bool.true_and]
   have td : zc (fun k => zY.f k body) (sDs body : Int) := by
    refine zc.succ ?_
    simp only [zY.f]
    have := z3P.2 body [] 0 hg hl (by omega)
    rw [Nat.zero_max] at this
    exact this
   refine zc.bind td ?_
   by_cases hd : sDs body <= 16
   ·rw [decide_eq_true hd, Bool.true_and]
    refine zc.ifT (by omega) ?_
    refine zc.id' (zc.succ ?_)
    simp only [zU.f]
    exact (z57 w vars h1 h8).2 body [] hg hl
   ·rw [decide_eq_false hd, jx]
    exact zc.ifF (by omega) (zc.pure _)
  ·rw [decide_eq_false hn, jx]
   exact zc.pure _
def CF (w : Int) (vars : List S76) (l : List S81) (deep nd : Int) : Prop := nd + sNs l <= 400 /\ deep + sDs l <= 17 /\ YC w vars l = true
def CFr (w : Int) (vars : List S76) (l : List S81) (deep st nd : Int) (g : Nat -> Option (Bool × Int × Int)) : Prop :=
 ∃ b st' nd', zc g (b, st', nd') /\ (b = true ↔ CF w vars l deep nd) /\ (b = true -> st' = st + sCs l /\ nd' = nd + sNs l)
theorem z67 {w : Int} {vars : List S76} {l : List S81} {deep st nd : Int} {g : Nat -> Option (Bool × Int × Int)} (st' nd' : Int) (h : zc g (false, st', nd')) (hn : ¬ CF w vars l deep nd) : CFr w vars l deep st nd g :=
 ⟨false, st', nd', h, ⟨fun e => jm e (by decide), fun e => jm e hn⟩, fun e => jm e (by decide)⟩
theorem z2q (w : Int) (vars : List S76) (l2 : List S81) (h1 : 1 <= w) (h8 : w <= 8) (hv : ∀ v ∈ vars, 1 <= v.f2 /\ v.f2 <= 8) (hh : zc (fun k => zH.f k w vars) 0) :
  (∀ x, ∀ deep : Int, YS x -> 1 <= deep -> deep <= 17 -> ∀ st nd : Int, 0 <= st -> st <= nd -> nd <= 1201 -> CFr w vars x.f3 deep st nd (fun k => zv.f k w vars l2 x.f3 deep st nd) /\ CFr w vars x.f4 deep st nd (fun k => zv.f k w vars l2 x.f4 deep st nd)) /\
  (∀ suf, ∀ (pre : List S81) (deep : Int), ZM suf -> (pre ++ suf).length <= 9223372036854775807 -> 1 <= deep -> deep <= 17 -> (suf ≠ [] -> deep <= 16) -> ∀ st nd : Int, 0 <= st -> st <= nd -> nd <= 1201 ->
   CFr w vars suf deep st nd (fun k => zv.l0 k w vars l2 (pre ++ suf) deep (pre.length : Int) st nd)) := by
 refine z1k (fun a b l t e q1 q2 => ?_) ?_ (fun x r ih1 ih2 => ?_)
 ·intro deep hg d1 d17 st nd s0 sn n0
  rw [z0n] at hg
  have one : ∀ (t : List S81), (∀ (pre : List S81) (deep : Int), ZM t -> (pre ++ t).length <= 9223372036854775807 -> 1 <= deep -> deep <= 17 -> (t ≠ [] -> deep <= 16) -> ∀ st nd : Int, 0 <= st -> st <= nd -> nd <= 1201 ->
   CFr w vars t deep st nd (fun k => zv.l0 k w vars l2 (pre ++ t) deep (pre.length : Int) st nd)) -> ZM t -> t.length <= 9223372036854775807 -> CFr w vars t deep st nd (fun k => zv.f k w vars l2 t deep st nd) := by
   intro t q hgt hlt
   by_cases ht : t = []
   ·obtain ⟨b, s', n', tt, p1, p2⟩ := q [] deep hgt hlt d1 d17 (fun h => jm ht h) st nd s0 sn n0
    refine ⟨b, s', n', zc.succ ?_, p1, p2⟩
    simp only [zv.f]
    exact zc.ifF (by rw [ht]; decide) tt
   ·have hpos : (0 : Int) < (t.length : Int) := by
     have := List.length_pos_iff.2 ht
     omega
    by_cases hd : 16 < deep
    ·refine z67 st nd (zc.succ ?_) (fun h => ?_)
     ·simp only [zv.f]
      exact zc.ifT hpos (zc.ifT hd (zc.pure _))
     ·obtain ⟨x, r, rfl⟩ : ∃ x r, t = x :: r := by cases t with
       | nil => exact jm rfl ht
       | cons x r => exact ⟨x, r, rfl⟩
      have := h.2.1
      rw [z0Q, z3u] at this
      omega
    ·obtain ⟨b, s', n', tt, p1, p2⟩ := q [] deep hgt hlt d1 d17 (fun _ => by omega) st nd s0 sn n0
     refine ⟨b, s', n', zc.succ ?_, p1, p2⟩
     simp only [zv.f]
     exact zc.ifT hpos (zc.ifF hd tt)
  exact ⟨one t q1 hg.2.1.2 hg.2.1.1, one e q2 hg.2.2.2 hg.2.2.1⟩
 ·intro pre deep _ _ d1 d17 _ st nd s0 sn n0
  refine ⟨decide (nd <= 400), st, nd, zc.succ ?_, ?_, fun _ => by rw [z0z, z2w]; omega⟩
  ·simp only [zv.l0, ZL, if_false]
   exact zc.pure _
  ·rw [decide_eq_true_eq]
   unfold CF
   rw [z2w, z3Q, z4r]
   exact ⟨fun h => ⟨by omega, by omega, rfl⟩, fun h => by have := h.1; omega⟩
 ·intro pre deep hg hl d1 d17 d16 st nd s0 sn n0
  have d16' := d16 (by simp)
  rw [Yw] at hg
  obtain ⟨hg1, hg2⟩ := hg
  have hx := hg1
  rw [z1Q] at hx
  have w1 : wrap64 (nd + 1) = nd + 1 := w64 (by omega) (by omega)
  have w2 : wrap64 (st + 1) = st + 1 := w64 (by omega) (by omega)
  have w3 : wrap64 (deep + 1) = deep + 1 := w64 (by omega) (by omega)
  by_cases hbig : 400 < nd + 1
  ·refine z67 (st + 1) (nd + 1) (zc.succ ?_) (fun h => ?_)
   ·simp only [zv.l0, Zo, Z6, if_true, yc, w1, w2]
    exact zc.ifT hbig (zc.pure _)
   ·have := h.1
    rw [yF, z0j] at this
    omega
  have ta := z5r w vars hv l2 x.f0 x.f1 x.f2 x.f3 x.f4
  by_cases har : YY vars x.f0 x.f1 = (x.f2.length : Int)
  case neg =>
   refine z67 (st + 1) (nd + 1) (zc.succ ?_) (fun h => ?_)
   ·simp only [zv.l0, Zo, Z6, if_true, yc, w1, w2]
    exact zc.ifF hbig (zc.bind ta (zc.ifF har (zc.pure _)))
   ·have := h.2.2
    rw [yX, z0y] at this
    unfold z0c at this
    rw [decide_eq_false har] at this
    simp at this
  by_cases hne : z0g x.f0 x.f3.length x.f4.length = true
  case neg =>
   refine z67 (st + 1) (nd + 1) (zc.succ ?_) (fun h => ?_)
   ·simp only [zv.l0, Zo, Z6, if_true, yc, w1, w2]
    exact zc.ifF hbig (zc.bind ta (zc.ifT har (zc.ifF hne (zc.pure _))))
   ·have := h.2.2
    rw [yX, z0y] at this
    unfold z0c at this
    rw [Bool.eq_false_iff.2 hne] at this
    simp at this
  have hhead : z0c vars x.f0 x.f1 x.f2.length x.f3.length x.f4.length = true := by unfold z0c; rw [decide_eq_true har, hne]; rfl
  have hlen : x.f2.length <= 2 := by have := z3I vars x.f0 x.f1; omega
  have args : ∀ (asuf apre : List S62) (nd' : Int), x.f2 = apre ++ asuf -> yU asuf -> 0 <= nd' -> nd' <= 401 + 400 * apre.length -> st + 1 <= nd' ->
    ∃ b s' n', zc (fun k => zv.l1 k w vars l2 (pre ++ x :: r) deep (pre.length : Int) (apre.length : Int) (st + 1) nd') (b, s', n') /\
     (b = true ↔ (nd' + eNs asuf + sNs x.f3 + sNs x.f4 + sNs r <= 400 /\ deep + 1 + sDs x.f3 <= 17 /\ deep + 1 + sDs x.f4 <= 17 /\ deep + sDs r <= 17 /\ asuf.all (eIs w vars 1) = true /\ YC w vars x.f3 = true /\ YC w vars x.f4 = true /\ YC w vars r = true)) /\
     (b = true -> s' = st + 1 + sCs x.f3 + sCs x.f4 + sCs r /\ n' = nd' + eNs asuf + sNs x.f3 + sNs x.f4 + sNs r) := by
   intro asuf
   induction asuf with
   | nil =>
    intro apre nd' hx2 _ z0 zb zs
    have hal : apre.length <= 2 := by
     have := congrArg List.length hx2
     rw [je, List.length_nil] at this
     omega
    have hn : ¬ ((apre.length : Int) < (x.f2.length : Int)) := by rw [hx2, List.append_nil]; omega
    obtain ⟨b1, s1, n1, t1, p1, q1⟩ := (ih1 (deep + 1) hg1 (by omega) (by omega) (st + 1) nd' (by omega) zs (by omega)).1
    rw [List.all_nil, z64]
    cases b1
    ·have hno : ¬ CF w vars x.f3 (deep + 1) nd' := fun h => by have := p1.2 h; cases this
     refine ⟨false, s1, n1, zc.succ ?_, ⟨fun h => (by cases h), fun h => ?_⟩, fun h => by cases h⟩
     ·simp only [zv.l1, yc, hn, if_false, w3]
      exact zc.bind t1 (zc.pure _)
     ·exact jm ⟨by omega, by omega, h.2.2.2.2.2.1⟩ hno
    ·obtain ⟨e1, e2⟩ := q1 rfl
     have c1 := p1.1 rfl
     have hle1 := (z73.2 x.f3).1
     have c11 := c1.1
     have c12 := c1.2.1
     obtain ⟨b2, s2, n2, t2, p2, q2⟩ := (ih1 (deep + 1) hg1 (by omega) (by omega) s1 n1 (by omega) (by omega) (by omega)).2
     cases b2
     ·have hno : ¬ CF w vars x.f4 (deep + 1) n1 := fun h => by have := p2.2 h; cases this
      refine ⟨false, s2, n2, zc.succ ?_, ⟨fun h => (by cases h), fun h => ?_⟩, fun h => by cases h⟩
      ·simp only [zv.l1, yc, hn, if_false, w3]
       refine zc.bind t1 ?_
       simp only [if_true]
       exact zc.bind t2 (zc.pure _)
      ·exact jm ⟨by omega, by omega, h.2.2.2.2.2.2.1⟩ hno
     ·obtain ⟨e3, e4⟩ := q2 rfl
      have c2 := p2.1 rfl
      have hle2 := (z73.2 x.f4).1
      have c21 := c2.1
      have c22 := c2.2.1
      obtain ⟨b3, s3, n3, t3, p3, q3⟩ := ih2 (pre ++ [x]) deep hg2 (by rw [<- zQ]; exact hl) d1 d17 (fun _ => d16') s2 n2 (by omega) (by omega) (by omega)
      rw [<- zQ] at t3
      refine ⟨b3, s3, n3, zc.succ ?_, ⟨fun h => ?_, fun h => ?_⟩, fun h => ?_⟩
      ·simp only [zv.l1, yc, hn, if_false, w3]
       refine zc.bind t1 ?_
       simp only [if_true]
       refine zc.bind t2 ?_
       simp only [if_true]
       rw [Zi pre x r hl]
       exact t3
      ·have c3 := p3.1 h
       have c31 := c3.1
       have c32 := c3.2.1
       exact ⟨by omega, by omega, by omega, by omega, rfl, c1.2.2, c2.2.2, c3.2.2⟩
      ·exact p3.2 ⟨by omega, by omega, h.2.2.2.2.2.2.2⟩
      ·have := q3 h
       omega
   | cons a az iha =>
    intro apre nd' hx2 hga z0 zb zs
    have hal : apre.length + 1 <= 2 := by
     have := congrArg List.length hx2
     rw [je, jp] at this
     omega
    have hn : ((apre.length : Int) < (x.f2.length : Int)) := by rw [hx2]; exact Zo _ _ _
    have ha : zi x.f2 (apre.length : Int) = a := by rw [hx2]; exact Y6 _ _ _
    have tc := z4W w vars 1 h1 h8 (by decide) (by decide) hh a hga.1
    rw [List.all_cons, z4K]
    cases hi : eIs w vars 1 a
    ·rw [hi] at tc
     refine ⟨false, st + 1, nd', zc.succ ?_, ⟨fun h => (by cases h), fun h => (by have := h.2.2.2.2.1; cases this)⟩, fun h => by cases h⟩
     simp only [zv.l1, Z6, if_true, yc, hn, ha]
     exact zc.bind tc (zc.ifF (by decide) (zc.pure _))
    ·rw [hi] at tc
     have hn400 : eN a <= 400 := by
      unfold eIs at hi
      simp only [jg, decide_eq_true_eq] at hi
      exact hi.1
     have tn := nodesE'.1 a hga.1 (by omega)
     obtain ⟨b, s', n', tt, p, q⟩ := iha (apre ++ [a]) (nd' + eN a) (by rw [hx2, zQ]) hga.2 (by omega) (by rw [je, List.length_singleton]; omega) (by omega)
     refine ⟨b, s', n', zc.succ ?_, ?_, fun h => by have := q h; omega⟩
     ·simp only [zv.l1, Z6, if_true, yc, hn, ha]
      refine zc.bind tc (zc.ifT rfl (zc.bind tn ?_))
      rw [Zi apre a az (by rw [<- hx2]; exact hx.1.1), w64 (n := nd' + (eN a : Int)) (by omega) (by omega)]
      exact tt
     ·rw [p, Bool.true_and, show (nd' + ((eN a + eNs az : Nat) : Int)) = nd' + eN a + eNs az by omega]
  obtain ⟨b, s', n', tt, p, q⟩ := args x.f2 [] (nd + 1) rfl hx.1.2 (by omega) (by rw [List.length_nil]; omega) (by omega)
  refine ⟨b, s', n', zc.succ ?_, ⟨fun h => ?_, fun h => p.2 ?_⟩, fun h => ?_⟩
  ·simp only [zv.l0, Zo, Z6, if_true, yc, w1, w2]
   exact zc.ifF hbig (zc.bind ta (zc.ifT har (zc.ifT hne tt)))
  ·obtain ⟨c1, c2, c3, c4, c5, c6, c7, c8⟩ := p.1 h
   unfold CF
   rw [yF, z0j, z0Q, z3u, yX, z0y, hhead, c5, c6, c7, c8]
   exact ⟨by omega, by omega, rfl⟩
  ·unfold CF at h
   rw [yF, z0j, z0Q, z3u, yX, z0y] at h
   obtain ⟨c1, c2, c3⟩ := h
   simp only [jg] at c3
   exact ⟨by omega, by omega, by omega, by omega, c3.1.2.2.2, c3.1.2.1, c3.1.2.2.1, c3.2⟩
  ·have := q h
   rw [Yq, z0R, yF, z0j]
   omega
def z7B (w : Int) (vars : List S76) (body : List S81) : Int × Int × Bool := if pIs w vars body = true then ((sCs body : Int), (sNs body : Int), true) else (0, 0, false)
theorem z3n (w : Int) (vars : List S76) (body : List S81) (hl : body.length <= 9223372036854775807) (hg : ZM body) : zc (fun k => ZY.f k w vars body) (z7B w vars body) := by
 unfold ZY.f z7B
 have th := z3q w vars
 cases hh : hIs w vars
 ·rw [hh] at th
  have : pIs w vars body = false := by unfold pIs; rw [hh]; rfl
  rw [this]
  exact zc.bind th (zc.ifF (by decide) (zc.pure _))
 ·rw [hh] at th
  obtain ⟨h1, h8, _, _, hv, _⟩ := z44 hh
  obtain ⟨b, s', n', tt, p, q⟩ : CFr w vars body 1 0 0 (fun k => zv.f k w vars body body 1 0 0) := by
   by_cases hb : body = []
   ·obtain ⟨b, s', n', tt, p, q⟩ := (z2q w vars body h1 h8 (fun v hv' => (hv v hv').2.2) th).2 body [] 1 hg hl (by decide) (by decide) (fun _ => by decide) 0 0 (by decide) (by decide) (by decide)
    refine ⟨b, s', n', zc.succ ?_, p, q⟩
    simp only [zv.f]
    exact zc.ifF (by rw [hb]; decide) tt
   ·obtain ⟨b, s', n', tt, p, q⟩ := (z2q w vars body h1 h8 (fun v hv' => (hv v hv').2.2) th).2 body [] 1 hg hl (by decide) (by decide) (fun _ => by decide) 0 0 (by decide) (by decide) (by decide)
    refine ⟨b, s', n', zc.succ ?_, p, q⟩
    simp only [zv.f]
    exact zc.ifT (by have := List.length_pos_iff.2 hb; omega) (zc.ifF (by decide) tt)
  have hp : pIs w vars body = b := by
   rw [Bool.eq_iff_iff, p]
   unfold pIs CF
   rw [hh]
   simp only [Bool.true_and, jg, decide_eq_true_eq]
   constructor
   ·intro h; exact ⟨by omega, by omega, h.2.2⟩
   ·intro h; exact ⟨by omega, by omega, h.2.2⟩
  refine zc.bind th (zc.ifT rfl (zc.bind tt ?_))
  rw [hp]
  cases b
  ·exact zc.pure _
  ·obtain ⟨e1, e2⟩ := q rfl
   have e1' : s' = (sCs body : Int) := by omega
   have e2' : n' = (sNs body : Int) := by omega
   rw [e1', e2']
   exact zc.pure _
theorem z3T (w : Int) (vars : List S76) (body : List S81) (hl : body.length <= 9223372036854775807) (hg : ZM body) : zc (fun k => Zy.f k w vars body) (z4z (pIs w vars body) 30) := by
 unfold Zy.f
 refine zc.bind (z3n w vars body hl hg) ?_
 unfold z7B
 cases pIs w vars body
 ·exact zc.pure _
 ·exact zc.pure _
theorem z5G {w : Int} {vars : List S76} {body : List S81} (h : pIs w vars body = true) : hIs w vars = true /\ sNs body <= 400 := by
 unfold pIs at h
 simp only [jg, decide_eq_true_eq] at h
 exact ⟨h.1, h.2.1⟩
def cs (l : List S76) : Int := (l.map (·.f2)).sum
theorem z7A : cs [] = 0 := rfl
theorem z46 (v : S76) (r : List S76) : cs (v :: r) = v.f2 + cs r := by unfold cs; rw [List.map_cons, List.sum_cons]
theorem z1S : ∀ (l : List S76), (∀ v ∈ l, 1 <= v.f2 /\ v.f2 <= 8) -> 0 <= cs l /\ cs l <= 8 * l.length
 | [], _ => by rw [z7A]; simp
 | v :: r, h => by
  have h1 := h v (by simp)
  have h2 := z1S r (fun u hu => h u (by simp [hu]))
  rw [z46, jp]
  omega
theorem z35 (tail : List S76) : ∀ (mid pre : List S76) (acc : Int), (∀ v ∈ mid, 1 <= v.f2 /\ v.f2 <= 8) -> (pre ++ (mid ++ tail)).length <= 1000 -> 0 <= acc -> acc + 8 * mid.length <= 1000000 ->
  zc (fun k => zW.l0 k (pre ++ (mid ++ tail)) ((pre.length + mid.length : Nat) : Int) acc (pre.length : Int)) (acc + cs mid)
 | [], pre, acc, _, _, _, _ => by
  refine zc.succ ?_
  have : ¬ (pre.length : Int) < ((pre.length + ([] : List S76).length : Nat) : Int) := by rw [List.length_nil]; omega
  simp only [zW.l0, this, if_false]
  rw [z7A, Int.add_zero]
  exact zc.pure _
 | v :: r, pre, acc, hv, hl, h0, h1 => by
  refine zc.succ ?_
  have hv1 := hv v (by simp)
  rw [jp] at h1
  have hlt : (pre.length : Int) < ((pre.length + (v :: r).length : Nat) : Int) := by rw [jp]; omega
  have hl' : (pre ++ v :: (r ++ tail)).length <= 1000 := hl
  simp only [zW.l0, hlt, List.cons_append, Zo, Z6, if_true, YJ]
  have t := z35 tail r (pre ++ [v]) (acc + v.f2) (fun u hu => hv u (by simp [hu])) (by rw [<- zQ]; exact hl') (by omega) (by omega)
  rw [<- zQ] at t
  have e : (pre ++ [v]).length + r.length = pre.length + (v :: r).length := by rw [je, List.length_singleton, jp]; omega
  rw [e] at t
  rw [w64 (n := acc + v.f2) (by omega) (by omega), Zi pre v (r ++ tail) (by omega), z46, <- Int.add_assoc]
  exact t
theorem z0d (vars : List S76) (n : Int) (h0 : 0 <= n) (hn : n <= (vars.length : Int)) (hv : ∀ v ∈ vars, 1 <= v.f2 /\ v.f2 <= 8) (hl : vars.length <= 18) : zc (fun k => zW.f k vars n) (cs (vars.take n.toNat)) := by
 unfold zW.f
 have := z35 (vars.drop n.toNat) (vars.take n.toNat) [] 0 (fun v h => hv v (List.mem_of_mem_take h)) (by rw [List.nil_append, List.take_append_drop]; omega) (by decide) (by have := List.length_take_le n.toNat vars; omega)
 rw [List.nil_append, List.take_append_drop, Int.zero_add, List.length_take, List.length_nil] at this
 have e : ((0 + min n.toNat vars.length : Nat) : Int) = n := by omega
 rw [e] at this
 exact this
theorem z6v (vars : List S76) (hv : ∀ v ∈ vars, 1 <= v.f2 /\ v.f2 <= 8) (hl : vars.length <= 18) : zc (fun k => zW.f k vars (vars.length : Int)) (cs vars) := by
 have := z0d vars (vars.length : Int) (by omega) (by omega) hv hl
 rw [jh, List.take_length] at this
 exact this
def ZD.l0 : Nat -> Int -> List Int -> Int -> Option (Bool)
 | 0, _, _, _ => none
 | k + 1, x0, x1, x5 => if x5 < (x1.length : Int) then (if 0 <= x5 then ((yJ.f k x0 (rd x1 x5)).bind fun t887 => (if t887 = true then (ZD.l0 k x0 x1 (wrap64 (x5 + 1))) else (some false))) else (none)) else (some true)
def ZD.f (k : Nat) (a0 : Int) (l1 : List Int) : Option (Bool) := ZD.l0 k a0 l1 0
theorem ZD.calls (k : Nat) (a0 : Int) (A1 : Option Addr) (c1 : Nat) (l1 : List Int) (r : Bool) (w : World) (hr1 : Kd.C (Kd.int .i64) w A1 l1.length l1) (hc1 : l1.length <= c1) (h : ZD.f k a0 l1 = some r) :
  Calls Tryz.prog 49 #[.int .i64 a0, .slice A1 l1.length c1] w fun e w' => e = .returned (.bool r) /\ zT w w' := by
 have HR1 := am hr1
 have HC1 := am hc1
 clear hr1 hc1
 have H := h
 clear h
 have H' := am H
 clear H
 go_enter Tryz.func49, Tryz.ntmps49
 go_wp2
 go_loopg [5] k (fun kq v5 w' => ∃ (x5_1 : Int), v5 = .int .i64 x5_1 /\ Aside0 (ZD.l0 kq a0 l1 x5_1 = some r) /\ Aside0 (kq <= k) /\ zT w w')
 case atStart => exact ⟨(0), rs, H', ⟨jk _⟩, dr⟩
 case round =>
  clear H'
  obtain ⟨x5_1, rfl, HA, HK1, ⟨m1, rfl⟩⟩ := hrel
  cases gk with
  | zero => exact jm HA.out (by simp [ZD.l0])
  | succ k1 =>
   have H := HA.out
   clear HA
   simp only [ZD.l0] at H
   obtain ⟨c3b0, H⟩ | ⟨c3b0, H⟩ := ei H
   ·obtain rfl := sj H
    go_wp2
    go_ret
    exact ⟨rs, dr⟩
   obtain ⟨c4b0, H⟩ := pd H
   obtain ⟨t887, A5, H⟩ := be H
   replace H := ob H
   obtain ⟨rfl, H⟩ | ⟨rfl, H⟩ := H
   ·obtain rfl := sj H
    have p886 : 0 <= (x5_1 : Int) := od
    have q886 : x5_1 < (l1.length : Int) := od
    obtain ⟨ad886, e886, hx886_0⟩ := Kd.at_int HR1.out x5_1 p886 q886
    cases e886
    replace p886 := eT p886
    replace q886 := eT q886
    go_wp2_with (first | ((with_reducible refine zz (f := 82) rfl ?_); refine gL (some 17) rfl rfl Tryz.func82 (Veq a0 (rd l1 x5_1)) rfl ?_; (with_reducible refine (yJ.calls k1 a0 (rd l1 x5_1) false _ A5.out).mono ?_); rintro e w' ⟨rfl, ⟨nd, rfl⟩⟩; refine ⟨_, rfl, ?_⟩))
    go_ret
    exact ⟨rs, dr⟩
   have H' := am H
   clear H
   have p886 : 0 <= (x5_1 : Int) := od
   have q886 : x5_1 < (l1.length : Int) := od
   obtain ⟨ad886, e886, hx886_0⟩ := Kd.at_int HR1.out x5_1 p886 q886
   cases e886
   replace p886 := eT p886
   replace q886 := eT q886
   go_wp2_with (first | ((with_reducible refine zz (f := 82) rfl ?_); refine gL (some 17) rfl rfl Tryz.func82 (Veq a0 (rd l1 x5_1)) rfl ?_; (with_reducible refine (yJ.calls k1 a0 (rd l1 x5_1) true _ A5.out).mono ?_); rintro e w' ⟨rfl, ⟨nd, rfl⟩⟩; refine ⟨_, rfl, ?_⟩))
   go_roundg k1
   case measure => have := HK1.out; omega
   case rel => exact ⟨(wrap64 (x5_1 + 1)), rs, H', ⟨by have := HK1.out; omega⟩, dr⟩
def Yt.f (k : Nat) (a0 : Int) (l1 : List (S76)) (l2 : List Int) : Option (Bool) := (zW.f k l1 (l1.length : Int)).bind fun t888 => (if (l2.length : Int) = t888 then ((ZD.f k a0 l2).bind fun t889 => (some t889)) else (some false))
theorem Yt.calls (k : Nat) (a0 : Int) (A1 : Option Addr) (c1 : Nat) (l1 : List (S76)) (A2 : Option Addr) (c2 : Nat) (l2 : List Int) (r : Bool) (w : World) (hr1 : Kd.C k76 w A1 l1.length l1) (hc1 : l1.length <= c1) (hr2 : Kd.C (Kd.int .i64) w A2 l2.length l2) (hc2 : l2.length <= c2) (h : Yt.f k a0 l1 l2 = some r) :
  Calls Tryz.prog 21 (Vf a0 A1 l1 c1 A2 l2 c2) w fun e w' => e = .returned (.bool r) /\ zT w w' := by
 have HR1 := am hr1
 have HC1 := am hc1
 clear hr1 hc1
 have HR2 := am hr2
 have HC2 := am hc2
 clear hr2 hc2
 have H := h
 clear h
 obtain ⟨t888, A4, H⟩ := be H
 obtain ⟨c5, c5b0, c5b1, H⟩ | ⟨c5b0, c5b1, H⟩ := qi H
 ·obtain rfl := sj H
  go_enter Tryz.func21, Tryz.ntmps21
  go_wp2_with (first | ((with_reducible refine zz (f := 48) rfl ?_); refine gL (some 12) rfl rfl Tryz.func48 #[.slice A1 l1.length c1, .int .i64 (l1.length : Int)] rfl ?_; (with_reducible refine (zW.calls k _ _ l1 (l1.length : Int) t888 _ (ca HR1) HC1.out A4.out).mono ?_); rintro e w' ⟨rfl, ⟨nd, rfl⟩⟩; refine ⟨_, rfl, ?_⟩))
  go_ret
  exact ⟨rs, dr⟩
 obtain ⟨t889, A6, H⟩ := be H
 obtain rfl := sj H
 go_enter Tryz.func21, Tryz.ntmps21
 go_wp2_with (first | ((with_reducible refine zz (f := 48) rfl ?_); refine gL (some 12) rfl rfl Tryz.func48 #[.slice A1 l1.length c1, .int .i64 (l1.length : Int)] rfl ?_; (with_reducible refine (zW.calls k _ _ l1 (l1.length : Int) t888 _ (ca HR1) HC1.out A4.out).mono ?_); rintro e w' ⟨rfl, ⟨nd, rfl⟩⟩; refine ⟨_, rfl, ?_⟩) | (go_at_call 49; (with_reducible refine (ZD.calls k a0 _ _ l2 t889 _ (ca HR2) HC2.out A6.out).mono ?_); rintro e w' ⟨rfl, ⟨nd, rfl⟩⟩))
 go_ret
 exact ⟨rs, dr⟩
theorem z7a {a b : Nat} (h : a <= b) : (2 : Int) ^ a <= 2 ^ b := by
 have := Nat.pow_le_pow_right (show 0 < 2 by decide) h
 have e : ∀ n : Nat, ((2 : Int) ^ n) = ((2 ^ n : Nat) : Int) := fun n => by simp
 rw [e, e]
 omega
def z1f (p : Int) (l : List Int) : Bool := l.all fun s => decide (0 <= s /\ s < p)
theorem z3s {p : Int} {l : List Int} : z1f p l = true ↔ ∀ s ∈ l, 0 <= s /\ s < p := by
 unfold z1f
 rw [List.all_eq_true]
 simp only [decide_eq_true_eq]
theorem z5a (pre : List Int) (x : Int) (r : List Int) : rd (pre ++ x :: r) (pre.length : Int) = x := z0Z pre x _ r
theorem z1l (w : Int) (h1 : 1 <= w) (h8 : w <= 8) : ∀ (suf pre : List Int), (pre ++ suf).length <= 9223372036854775807 -> zc (fun k => ZD.l0 k w (pre ++ suf) (pre.length : Int)) (z1f (2 ^ w.toNat) suf)
 | [], pre, _ => by
  refine zc.succ ?_
  simp only [ZD.l0, ZL, if_false]
  exact zc.pure _
 | s :: r, pre, hl => by
  refine zc.succ ?_
  simp only [ZD.l0, Zo, Z6, if_true, z5a]
  have ih := z1l w h1 h8 r (pre ++ [s]) (by rw [<- zQ]; exact hl)
  rw [<- zQ] at ih
  rw [Zi pre s r hl, show z1f (2 ^ w.toNat) (s :: r) = (decide (0 <= s /\ s < 2 ^ w.toNat) && z1f (2 ^ w.toNat) r) from List.all_cons]
  exact zc.bind (z1u w s h1 h8) (zc.ifB ih)
theorem z7Q (w : Int) (vars : List S76) (l : List Int) (h1 : 1 <= w) (h8 : w <= 8) (hv : ∀ v ∈ vars, 1 <= v.f2 /\ v.f2 <= 8) (h18 : vars.length <= 18) (hl : l.length <= 9223372036854775807) :
  zc (fun k => Yt.f k w vars l) (decide ((l.length : Int) = cs vars) && z1f (2 ^ w.toNat) l) := by
 unfold Yt.f
 refine zc.bind (z6v vars hv h18) ?_
 by_cases h : (l.length : Int) = cs vars
 ·rw [decide_eq_true h, Bool.true_and]
  refine zc.ifT h (zc.id' ?_)
  unfold ZD.f
  exact z1l w h1 h8 l [] hl
 ·rw [decide_eq_false h, jx]
  exact zc.ifF h (zc.pure _)
def z09.f (k : Nat) (l0 : List (S76)) (a1 : Int) (a2 : Int) : Option (Int) := (zW.f k l0 a1).bind fun t920 => (if 0 <= a1 then (if a1 < (l0.length : Int) then (if ((zp l0 a1).f2) = 0 then (none) else (some (wrap64 (t920 + (Int.tmod a2 ((zp l0 a1).f2)))))) else (none)) else (none))
theorem z09.calls (k : Nat) (A0 : Option Addr) (c0 : Nat) (l0 : List (S76)) (a1 : Int) (a2 : Int) (r : Int) (w : World) (hr0 : Kd.C k76 w A0 l0.length l0) (hc0 : l0.length <= c0) (h : z09.f k l0 a1 a2 = some r) :
  Calls Tryz.prog 87 #[.slice A0 l0.length c0, .int .i64 a1, .int .i64 a2] w fun e w' => e = .returned (.int .i64 r) /\ zT w w' := by
 have HR0 := am hr0
 have HC0 := am hc0
 clear hr0 hc0
 have H := h
 clear h
 obtain ⟨t920, A4, H⟩ := be H
 obtain ⟨c5b0, H⟩ := pd H
 obtain ⟨c6b0, H⟩ := pd H
 obtain ⟨c7b9, _, H⟩ | ⟨c7, c7b0, c7b1, H⟩ := iq H
 ·have c7 := beq_iff_eq.mp c7b9
  exact jm H (by simp)
 obtain rfl := sj H
 go_enter Tryz.func87, Tryz.ntmps87
 go_wp2_with (first | (go_at_call 48; (with_reducible refine (zW.calls k _ _ l0 a1 t920 _ (ca HR0) HC0.out A4.out).mono ?_); rintro e w' ⟨rfl, ⟨nd, rfl⟩⟩; (try first | exact ⟨rfl, _, jo _ _ _⟩ | exact ⟨rfl, _, Eq.trans (jo _ _ _) (congrArg (World.drewN _) (Nat.add_assoc _ _ _))⟩); have p921 : 0 <= (a1 : Int) := od; have q921 : a1 < (l0.length : Int) := od; obtain ⟨ad921, e921, hx921_0, hx921_1, hx921_2⟩ := Zs HR0.out a1 p921 q921; cases e921; replace p921 := eT p921; replace q921 := eT q921))
 repeat (go_quiet (first | (go_at_call 48; (with_reducible refine (zW.calls k _ _ l0 a1 t920 _ (ca HR0) HC0.out A4.out).mono ?_); rintro e w' ⟨rfl, ⟨nd, rfl⟩⟩; (try first | exact ⟨rfl, _, jo _ _ _⟩ | exact ⟨rfl, _, Eq.trans (jo _ _ _) (congrArg (World.drewN _) (Nat.add_assoc _ _ _))⟩); have p921 : 0 <= (a1 : Int) := od; have q921 : a1 < (l0.length : Int) := od; obtain ⟨ad921, e921, hx921_0, hx921_1, hx921_2⟩ := Zs HR0.out a1 p921 q921; cases e921; replace p921 := eT p921; replace q921 := eT q921)); try go_wp2)
 go_ret
 exact ⟨by first | rfl | (simp; done) | (simp [*]; done) | (simp [zP]; done) | (simp [zP, *]; done), dr⟩
def zR.f : Nat -> Int -> List (S76) -> List (List Int) -> Int -> Int -> Int -> List (S62) -> Option (Int)
 | 0, _, _, _, _, _, _, _ => none
 | k + 1, a0, l1, l2, a3_0, a3_1, a3_2, l3_3 => if a3_0 = 0 then (some a3_1) else (if a3_0 = 1 then (if (l3_3.length : Int) > 0 then (if 0 < (l3_3.length : Int) then ((zR.f k a0 l1 l2 ((zi l3_3 0).f0) ((zi l3_3 0).f1) ((zi l3_3 0).f2) ((zi l3_3 0).f3)).bind fun t924 => (if 0 <= a3_2 then (if a3_2 < (l2.length : Int) then ((z09.f k l1 a3_1 t924).bind fun t926 => (if 0 <= t926 then (if t926 < ((Y5 l2 a3_2).length : Int) then (some (rd (Y5 l2 a3_2) t926)) else (none)) else (none))) else (none)) else (none))) else (none)) else (if 0 <= a3_2 then (if a3_2 < (l2.length : Int) then ((z09.f k l1 a3_1 0).bind fun t929 => (if 0 <= t929 then (if t929 < ((Y5 l2 a3_2).length : Int) then (some (rd (Y5 l2 a3_2) t929)) else (none)) else (none))) else (none)) else (none))) else (if a3_0 = 12 then (if 0 < (l3_3.length : Int) then ((zR.f k a0 l1 l2 ((zi l3_3 0).f0) ((zi l3_3 0).f1) ((zi l3_3 0).f2) ((zi l3_3 0).f3)).bind fun t932 => ((YE.f k a0 t932).bind fun t933 => (some t933))) else (none)) else (if 0 < (l3_3.length : Int) then ((zR.f k a0 l1 l2 ((zi l3_3 0).f0) ((zi l3_3 0).f1) ((zi l3_3 0).f2) ((zi l3_3 0).f3)).bind fun t935 => (if 1 < (l3_3.length : Int) then ((zR.f k a0 l1 l2 ((zi l3_3 1).f0) ((zi l3_3 1).f1) ((zi l3_3 1).f2) ((zi l3_3 1).f3)).bind fun t937 => (if a3_0 = 15 then (if t935 = 0 then (if 2 < (l3_3.length : Int) then ((zR.f k a0 l1 l2 ((zi l3_3 2).f0) ((zi l3_3 2).f1) ((zi l3_3 2).f2) ((zi l3_3 2).f3)).bind fun t939 => (some t939)) else (none)) else (some t937)) else ((yi.f k a3_0 a0 t935 t937).bind fun t940 => (some t940)))) else (none))) else (none))))
theorem zR.calls (k : Nat) : ∀ (a0 : Int) (A1 : Option Addr) (c1 : Nat) (l1 : List (S76)) (A2 : Option Addr) (c2 : Nat) (l2 : List (List Int)) (a3_0 : Int) (a3_1 : Int) (a3_2 : Int) (A3_3 : Option Addr) (c3_3 : Nat) (l3_3 : List (S62)) (r : Int) (w : World) (hr1 : Kd.C k76 w A1 l1.length l1) (hc1 : l1.length <= c1) (hr2 : Kd.C (Kd.slice 3 (Kd.int .i64)) w A2 l2.length l2) (hc2 : l2.length <= c2) (hr3_3 : Kd.C k62 w A3_3 l3_3.length l3_3) (hc3_3 : l3_3.length <= c3_3) (h : zR.f k a0 l1 l2 a3_0 a3_1 a3_2 l3_3 = some r),
  Calls Tryz.prog 54 #[.int .i64 a0, .slice A1 l1.length c1, .slice A2 l2.length c2, .agg (Ve a3_0 a3_1 a3_2 A3_3 l3_3 c3_3)] w fun e w' => e = .returned (.int .i64 r) /\ Below w.heap.size w w' := by
 induction k using Nat.strongRecOn with
 | _ k ih =>
 intro a0 A1 c1 l1 A2 c2 l2 a3_0 a3_1 a3_2 A3_3 c3_3 l3_3 r w hr1 hc1 hr2 hc2 hr3_3 hc3_3 h
 cases k with
 | zero => exact jm h (by simp [zR.f])
 | succ k =>
 simp only [zR.f] at h
 have hu62 := Tryz.underlying62
 have HR1 := am hr1
 have HC1 := am hc1
 clear hr1 hc1
 have HR2 := am hr2
 have HC2 := am hc2
 clear hr2 hc2
 have HR3_3 := am hr3_3
 have HC3_3 := am hc3_3
 clear hr3_3 hc3_3
 have HB := am (jc w.heap.size w)
 have H := h
 clear h
 obtain ⟨c5b0, c5b1, H⟩ | ⟨c5, c5b0, c5b1, H⟩ := iq H
 ·obtain rfl := sj H
  go_enter Tryz.func54, Tryz.ntmps54
  go_wp2_with (first | ((with_reducible refine zw (N := 7) rfl ?_); refine bz HB 7 rfl rfl (Ve a3_0 a3_1 a3_2 A3_3 l3_3 c3_3) 62 ?_; intro gb922 w6 BK922 GE922 HB; have hz7 := cf4 BK922.out))
  repeat (go_quiet (first | ((with_reducible refine zw (N := 7) rfl ?_); refine bz HB 7 rfl rfl (Ve a3_0 a3_1 a3_2 A3_3 l3_3 c3_3) 62 ?_; intro gb922 w6 BK922 GE922 HB; have hz7 := cf4 BK922.out)); try go_wp2)
  go_ret
  exact ⟨rr, bb HB⟩
 obtain ⟨c8b0, c8b1, H⟩ | ⟨c8, c8b0, c8b1, H⟩ := iq H
 ·obtain ⟨c9b0, H⟩ | ⟨c9b0, H⟩ := ei H
  ·have c9 := of_decide_eq_false c9b0
   have c9b1 : decide (0 < l3_3.length) = false := dF (by omega)
   clear c9
   obtain ⟨c21b0, H⟩ := pd H
   obtain ⟨c22b0, H⟩ := pd H
   obtain ⟨t929, A23, H⟩ := be H
   obtain ⟨c24b0, H⟩ := pd H
   obtain ⟨c25b0, H⟩ := pd H
   obtain rfl := sj H
   go_enter Tryz.func54, Tryz.ntmps54
   go_wp2_with (first | ((with_reducible refine zw (N := 7) rfl ?_); refine bz HB 7 rfl rfl (Ve a3_0 a3_1 a3_2 A3_3 l3_3 c3_3) 62 ?_; intro gb922 w26 BK922 GE922 HB; have hz27 := cf4 BK922.out; have p928 : 0 <= (a3_2 : Int) := od; have q928 : a3_2 < (l2.length : Int) := od; obtain ⟨ad928, A928_0, c928_0, e928, hx928_0, hl928_0, hi928_0⟩ := z48 HR2.out a3_2 p928 q928; cases e928; replace hx928_0 := zo HB.out hx928_0; have HR928_0 := am hi928_0; have HC928_0 := am hl928_0; clear hi928_0 hl928_0; replace p928 := eT p928; replace q928 := eT q928) | (go_at_call 87; (with_reducible refine (z09.calls k _ _ l1 a3_1 0 t929 _ (cb HR1 HB) HC1.out A23.out).mono ?_); rintro e w' ⟨rfl, ⟨nd, rfl⟩⟩; (try first | exact ⟨rfl, _, jo _ _ _⟩ | exact ⟨rfl, _, Eq.trans (jo _ _ _) (congrArg (World.drewN _) (Nat.add_assoc _ _ _))⟩); have p930 : 0 <= (t929 : Int) := od; have q930 : t929 < ((Y5 l2 a3_2).length : Int) := od; obtain ⟨ad930, e930, hx930_0⟩ := Kd.at_int HR928_0.out t929 p930 q930; cases e930; replace hx930_0 := zo HB.out hx930_0; replace p930 := eT p930; replace q930 := eT q930))
   repeat (go_quiet (first | ((with_reducible refine zw (N := 7) rfl ?_); refine bz HB 7 rfl rfl (Ve a3_0 a3_1 a3_2 A3_3 l3_3 c3_3) 62 ?_; intro gb922 w26 BK922 GE922 HB; have hz27 := cf4 BK922.out; have p928 : 0 <= (a3_2 : Int) := od; have q928 : a3_2 < (l2.length : Int) := od; obtain ⟨ad928, A928_0, c928_0, e928, hx928_0, hl928_0, hi928_0⟩ := z48 HR2.out a3_2 p928 q928; cases e928; replace hx928_0 := zo HB.out hx928_0; have HR928_0 := am hi928_0; have HC928_0 := am hl928_0; clear hi928_0 hl928_0; replace p928 := eT p928; replace q928 := eT q928) | (go_at_call 87; (with_reducible refine (z09.calls k _ _ l1 a3_1 0 t929 _ (cb HR1 HB) HC1.out A23.out).mono ?_); rintro e w' ⟨rfl, ⟨nd, rfl⟩⟩; (try first | exact ⟨rfl, _, jo _ _ _⟩ | exact ⟨rfl, _, Eq.trans (jo _ _ _) (congrArg (World.drewN _) (Nat.add_assoc _ _ _))⟩); have p930 : 0 <= (t929 : Int) := od; have q930 : t929 < ((Y5 l2 a3_2).length : Int) := od; obtain ⟨ad930, e930, hx930_0⟩ := Kd.at_int HR928_0.out t929 p930 q930; cases e930; replace hx930_0 := zo HB.out hx930_0; replace p930 := eT p930; replace q930 := eT q930)); try go_wp2)
   go_ret
   exact ⟨rr, bb HB⟩
  have c9 := of_decide_eq_true c9b0
  have c9b1 : decide (0 < l3_3.length) = true := dT (by omega)
  clear c9
  obtain ⟨c10b0, H⟩ := pd H
  have c10 := of_decide_eq_true c10b0
  have c10b1 : decide (0 < l3_3.length) = true := dT (by omega)
  clear c10
  obtain ⟨t924, A11, H⟩ := be H
  obtain ⟨c12b0, H⟩ := pd H
  obtain ⟨c13b0, H⟩ := pd H
  obtain ⟨t926, A14, H⟩ := be H
  obtain ⟨c15b0, H⟩ := pd H
  obtain ⟨c16b0, H⟩ := pd H
  obtain rfl := sj H
  go_enter Tryz.func54, Tryz.ntmps54
  go_wp2_with (first | ((with_reducible refine zw (N := 7) rfl ?_); refine bz HB 7 rfl rfl (Ve a3_0 a3_1 a3_2 A3_3 l3_3 c3_3) 62 ?_; intro gb922 w17 BK922 GE922 HB; have hz18 := cf4 BK922.out; have p923 : 0 <= (0 : Int) := (by omega); have q923 : 0 < (l3_3.length : Int) := od; obtain ⟨ad923, A923_3, c923_3, e923, hx923_0, hx923_1, hx923_2, hx923_3, hl923_3, hi923_3⟩ := Zk HR3_3.out 0 p923 q923; cases e923; have qi923 : (0 < l3_3.length) = True := eT (by omega); (simp only [show ((0 : Int)).toNat = 0 from rfl, Nat.zero_mul, Addr.add_zero'] at hx923_0 hx923_1 hx923_2 hx923_3); replace hx923_0 := zo HB.out hx923_0; replace hx923_1 := zo HB.out hx923_1; replace hx923_2 := zo HB.out hx923_2; replace hx923_3 := zo HB.out hx923_3; have HR923_3 := am hi923_3; have HC923_3 := am hl923_3; clear hi923_3 hl923_3; replace p923 := eT p923; replace q923 := eT q923) | (go_at_call 54; (with_reducible refine (ih k (by omega) a0 _ _ l1 _ _ l2 ((zi l3_3 0).f0) ((zi l3_3 0).f1) ((zi l3_3 0).f2) _ _ ((zi l3_3 0).f3) t924 _ (cb HR1 HB) HC1.out (cb HR2 HB) HC2.out (cb HR923_3 HB) HC923_3.out A11.out).mono ?_); rintro e w19 ⟨rfl, hb⟩; replace BK922 := kb BK922 hb; replace HB := sb HB hb; have hz20 := cf4 BK922.out; have p925 : 0 <= (a3_2 : Int) := od; have q925 : a3_2 < (l2.length : Int) := od; obtain ⟨ad925, A925_0, c925_0, e925, hx925_0, hl925_0, hi925_0⟩ := z48 HR2.out a3_2 p925 q925; cases e925; replace hx925_0 := zo HB.out hx925_0; have HR925_0 := am hi925_0; have HC925_0 := am hl925_0; clear hi925_0 hl925_0; replace p925 := eT p925; replace q925 := eT q925) | (go_at_call 87; (with_reducible refine (z09.calls k _ _ l1 a3_1 t924 t926 _ (cb HR1 HB) HC1.out A14.out).mono ?_); rintro e w' ⟨rfl, ⟨nd, rfl⟩⟩; (try first | exact ⟨rfl, _, jo _ _ _⟩ | exact ⟨rfl, _, Eq.trans (jo _ _ _) (congrArg (World.drewN _) (Nat.add_assoc _ _ _))⟩); have p927 : 0 <= (t926 : Int) := od; have q927 : t926 < ((Y5 l2 a3_2).length : Int) := od; obtain ⟨ad927, e927, hx927_0⟩ := Kd.at_int HR925_0.out t926 p927 q927; cases e927; replace hx927_0 := zo HB.out hx927_0; replace p927 := eT p927; replace q927 := eT q927))
  repeat (go_quiet (first | ((with_reducible refine zw (N := 7) rfl ?_); refine bz HB 7 rfl rfl (Ve a3_0 a3_1 a3_2 A3_3 l3_3 c3_3) 62 ?_; intro gb922 w17 BK922 GE922 HB; have hz18 := cf4 BK922.out; have p923 : 0 <= (0 : Int) := (by omega); have q923 : 0 < (l3_3.length : Int) := od; obtain ⟨ad923, A923_3, c923_3, e923, hx923_0, hx923_1, hx923_2, hx923_3, hl923_3, hi923_3⟩ := Zk HR3_3.out 0 p923 q923; cases e923; have qi923 : (0 < l3_3.length) = True := eT (by omega); (simp only [show ((0 : Int)).toNat = 0 from rfl, Nat.zero_mul, Addr.add_zero'] at hx923_0 hx923_1 hx923_2 hx923_3); replace hx923_0 := zo HB.out hx923_0; replace hx923_1 := zo HB.out hx923_1; replace hx923_2 := zo HB.out hx923_2; replace hx923_3 := zo HB.out hx923_3; have HR923_3 := am hi923_3; have HC923_3 := am hl923_3; clear hi923_3 hl923_3; replace p923 := eT p923; replace q923 := eT q923) | (go_at_call 54; (with_reducible refine (ih k (by omega) a0 _ _ l1 _ _ l2 ((zi l3_3 0).f0) ((zi l3_3 0).f1) ((zi l3_3 0).f2) _ _ ((zi l3_3 0).f3) t924 _ (cb HR1 HB) HC1.out (cb HR2 HB) HC2.out (cb HR923_3 HB) HC923_3.out A11.out).mono ?_); rintro e w19 ⟨rfl, hb⟩; replace BK922 := kb BK922 hb; replace HB := sb HB hb; have hz20 := cf4 BK922.out; have p925 : 0 <= (a3_2 : Int) := od; have q925 : a3_2 < (l2.length : Int) := od; obtain ⟨ad925, A925_0, c925_0, e925, hx925_0, hl925_0, hi925_0⟩ := z48 HR2.out a3_2 p925 q925; cases e925; replace hx925_0 := zo HB.out hx925_0; have HR925_0 := am hi925_0; have HC925_0 := am hl925_0; clear hi925_0 hl925_0; replace p925 := eT p925; replace q925 := eT q925) | (go_at_call 87; (with_reducible refine (z09.calls k _ _ l1 a3_1 t924 t926 _ (cb HR1 HB) HC1.out A14.out).mono ?_); rintro e w' ⟨rfl, ⟨nd, rfl⟩⟩; (try first | exact ⟨rfl, _, jo _ _ _⟩ | exact ⟨rfl, _, Eq.trans (jo _ _ _) (congrArg (World.drewN _) (Nat.add_assoc _ _ _))⟩); have p927 : 0 <= (t926 : Int) := od; have q927 : t926 < ((Y5 l2 a3_2).length : Int) := od; obtain ⟨ad927, e927, hx927_0⟩ := Kd.at_int HR925_0.out t926 p927 q927; cases e927; replace hx927_0 := zo HB.out hx927_0; replace p927 := eT p927; replace q927 := eT q927)); try go_wp2)
  go_ret
  exact ⟨rr, bb HB⟩
 obtain ⟨c28b0, c28b1, H⟩ | ⟨c28, c28b0, c28b1, H⟩ := iq H
 ·obtain ⟨c29b0, H⟩ := pd H
  have c29 := of_decide_eq_true c29b0
  have c29b1 : decide (0 < l3_3.length) = true := dT (by omega)
  clear c29
  obtain ⟨t932, A30, H⟩ := be H
  obtain ⟨t933, A31, H⟩ := be H
  obtain rfl := sj H
  go_enter Tryz.func54, Tryz.ntmps54
  go_wp2_with (first | ((with_reducible refine zw (N := 7) rfl ?_); refine bz HB 7 rfl rfl (Ve a3_0 a3_1 a3_2 A3_3 l3_3 c3_3) 62 ?_; intro gb922 w32 BK922 GE922 HB; have hz33 := cf4 BK922.out; have p931 : 0 <= (0 : Int) := (by omega); have q931 : 0 < (l3_3.length : Int) := od; obtain ⟨ad931, A931_3, c931_3, e931, hx931_0, hx931_1, hx931_2, hx931_3, hl931_3, hi931_3⟩ := Zk HR3_3.out 0 p931 q931; cases e931; have qi931 : (0 < l3_3.length) = True := eT (by omega); (simp only [show ((0 : Int)).toNat = 0 from rfl, Nat.zero_mul, Addr.add_zero'] at hx931_0 hx931_1 hx931_2 hx931_3); replace hx931_0 := zo HB.out hx931_0; replace hx931_1 := zo HB.out hx931_1; replace hx931_2 := zo HB.out hx931_2; replace hx931_3 := zo HB.out hx931_3; have HR931_3 := am hi931_3; have HC931_3 := am hl931_3; clear hi931_3 hl931_3; replace p931 := eT p931; replace q931 := eT q931) | (go_at_call 54; (with_reducible refine (ih k (by omega) a0 _ _ l1 _ _ l2 ((zi l3_3 0).f0) ((zi l3_3 0).f1) ((zi l3_3 0).f2) _ _ ((zi l3_3 0).f3) t932 _ (cb HR1 HB) HC1.out (cb HR2 HB) HC2.out (cb HR931_3 HB) HC931_3.out A30.out).mono ?_); rintro e w34 ⟨rfl, hb⟩; replace BK922 := kb BK922 hb; replace HB := sb HB hb) | (go_at_call 88; (with_reducible refine (YE.calls k a0 t932 t933 _ A31.out).mono ?_); rintro e w' ⟨rfl, ⟨nd, rfl⟩⟩; (try first | exact ⟨rfl, _, jo _ _ _⟩ | exact ⟨rfl, _, Eq.trans (jo _ _ _) (congrArg (World.drewN _) (Nat.add_assoc _ _ _))⟩)))
  repeat (go_quiet (first | ((with_reducible refine zw (N := 7) rfl ?_); refine bz HB 7 rfl rfl (Ve a3_0 a3_1 a3_2 A3_3 l3_3 c3_3) 62 ?_; intro gb922 w32 BK922 GE922 HB; have hz33 := cf4 BK922.out; have p931 : 0 <= (0 : Int) := (by omega); have q931 : 0 < (l3_3.length : Int) := od; obtain ⟨ad931, A931_3, c931_3, e931, hx931_0, hx931_1, hx931_2, hx931_3, hl931_3, hi931_3⟩ := Zk HR3_3.out 0 p931 q931; cases e931; have qi931 : (0 < l3_3.length) = True := eT (by omega); (simp only [show ((0 : Int)).toNat = 0 from rfl, Nat.zero_mul, Addr.add_zero'] at hx931_0 hx931_1 hx931_2 hx931_3); replace hx931_0 := zo HB.out hx931_0; replace hx931_1 := zo HB.out hx931_1; replace hx931_2 := zo HB.out hx931_2; replace hx931_3 := zo HB.out hx931_3; have HR931_3 := am hi931_3; have HC931_3 := am hl931_3; clear hi931_3 hl931_3; replace p931 := eT p931; replace q931 := eT q931) | (go_at_call 54; (with_reducible refine (ih k (by omega) a0 _ _ l1 _ _ l2 ((zi l3_3 0).f0) ((zi l3_3 0).f1) ((zi l3_3 0).f2) _ _ ((zi l3_3 0).f3) t932 _ (cb HR1 HB) HC1.out (cb HR2 HB) HC2.out (cb HR931_3 HB) HC931_3.out A30.out).mono ?_); rintro e w34 ⟨rfl, hb⟩; replace BK922 := kb BK922 hb; replace HB := sb HB hb) | (go_at_call 88; (with_reducible refine (YE.calls k a0 t932 t933 _ A31.out).mono ?_); rintro e w' ⟨rfl, ⟨nd, rfl⟩⟩; (try first | exact ⟨rfl, _, jo _ _ _⟩ | exact ⟨rfl, _, Eq.trans (jo _ _ _) (congrArg (World.drewN _) (Nat.add_assoc _ _ _))⟩))); try go_wp2)
  go_ret
  exact ⟨rr, bb HB⟩
 obtain ⟨c35b0, H⟩ := pd H
 have c35 := of_decide_eq_true c35b0
 have c35b1 : decide (0 < l3_3.length) = true := dT (by omega)
 clear c35
 obtain ⟨t935, A36, H⟩ := be H
 obtain ⟨c37b0, H⟩ := pd H
 have c37 := of_decide_eq_true c37b0
 have c37b1 : decide (1 < l3_3.length) = true := dT (by omega)
 clear c37
 obtain ⟨t937, A38, H⟩ := be H
 obtain ⟨c39, c39b0, c39b1, H⟩ | ⟨c39b0, c39b1, H⟩ := qi H
 ·obtain ⟨t940, A56, H⟩ := be H
  obtain rfl := sj H
  go_enter Tryz.func54, Tryz.ntmps54
  go_wp2_with (first | ((with_reducible refine zw (N := 7) rfl ?_); refine bz HB 7 rfl rfl (Ve a3_0 a3_1 a3_2 A3_3 l3_3 c3_3) 62 ?_; intro gb922 w57 BK922 GE922 HB; have hz58 := cf4 BK922.out; have p934 : 0 <= (0 : Int) := (by omega); have q934 : 0 < (l3_3.length : Int) := od; obtain ⟨ad934, A934_3, c934_3, e934, hx934_0, hx934_1, hx934_2, hx934_3, hl934_3, hi934_3⟩ := Zk HR3_3.out 0 p934 q934; cases e934; have qi934 : (0 < l3_3.length) = True := eT (by omega); (simp only [show ((0 : Int)).toNat = 0 from rfl, Nat.zero_mul, Addr.add_zero'] at hx934_0 hx934_1 hx934_2 hx934_3); replace hx934_0 := zo HB.out hx934_0; replace hx934_1 := zo HB.out hx934_1; replace hx934_2 := zo HB.out hx934_2; replace hx934_3 := zo HB.out hx934_3; have HR934_3 := am hi934_3; have HC934_3 := am hl934_3; clear hi934_3 hl934_3; replace p934 := eT p934; replace q934 := eT q934) | (go_at_call 54; (with_reducible refine (ih k (by omega) a0 _ _ l1 _ _ l2 ((zi l3_3 0).f0) ((zi l3_3 0).f1) ((zi l3_3 0).f2) _ _ ((zi l3_3 0).f3) t935 _ (cb HR1 HB) HC1.out (cb HR2 HB) HC2.out (cb HR934_3 HB) HC934_3.out A36.out).mono ?_); rintro e w59 ⟨rfl, hb⟩; replace BK922 := kb BK922 hb; replace HB := sb HB hb; have hz60 := cf4 BK922.out; have p936 : 0 <= (1 : Int) := (by omega); have q936 : 1 < (l3_3.length : Int) := od; obtain ⟨ad936, A936_3, c936_3, e936, hx936_0, hx936_1, hx936_2, hx936_3, hl936_3, hi936_3⟩ := Zk HR3_3.out 1 p936 q936; obtain rfl : ad934 = ad936 := (by injection e936); (try simp only [show (1 : Int).toNat = 1 from rfl, Nat.reduceMul, Nat.reduceEqDiff, Go.Addr.add, ↓reduceIte] at hx936_0); (try simp only [show (1 : Int).toNat = 1 from rfl, Nat.reduceMul, Nat.reduceEqDiff, Go.Addr.add, ↓reduceIte] at hx936_1); (try simp only [show (1 : Int).toNat = 1 from rfl, Nat.reduceMul, Nat.reduceEqDiff, Go.Addr.add, ↓reduceIte] at hx936_2); (try simp only [show (1 : Int).toNat = 1 from rfl, Nat.reduceMul, Nat.reduceEqDiff, Go.Addr.add, ↓reduceIte] at hx936_3); have qi936 : (1 < l3_3.length) = True := eT (by omega); (try rw [show ((1 : Int)).toNat = 1 from rfl] at hx936_0); (try rw [show 1 * 4 = 4 from rfl] at hx936_0); (try rw [show ((1 : Int)).toNat = 1 from rfl] at hx936_1); (try rw [show 1 * 4 = 4 from rfl] at hx936_1); (try rw [show ((1 : Int)).toNat = 1 from rfl] at hx936_2); (try rw [show 1 * 4 = 4 from rfl] at hx936_2); (try rw [show ((1 : Int)).toNat = 1 from rfl] at hx936_3); (try rw [show 1 * 4 = 4 from rfl] at hx936_3); replace hx936_0 := zo HB.out hx936_0; replace hx936_1 := zo HB.out hx936_1; replace hx936_2 := zo HB.out hx936_2; replace hx936_3 := zo HB.out hx936_3; have HR936_3 := am hi936_3; have HC936_3 := am hl936_3; clear hi936_3 hl936_3; replace p936 := eT p936; replace q936 := eT q936) | (go_at_call 54; (with_reducible refine (ih k (by omega) a0 _ _ l1 _ _ l2 ((zi l3_3 1).f0) ((zi l3_3 1).f1) ((zi l3_3 1).f2) _ _ ((zi l3_3 1).f3) t937 _ (cb HR1 HB) HC1.out (cb HR2 HB) HC2.out (cb HR936_3 HB) HC936_3.out A38.out).mono ?_); rintro e w61 ⟨rfl, hb⟩; replace BK922 := kb BK922 hb; replace HB := sb HB hb; have hz62 := cf4 BK922.out) | (go_at_call 89; (with_reducible refine (yi.calls k a3_0 a0 t935 t937 t940 _ A56.out).mono ?_); rintro e w63 ⟨rfl, hb⟩; replace BK922 := kb BK922 hb; replace HB := sb HB hb))
  repeat (go_quiet (first | ((with_reducible refine zw (N := 7) rfl ?_); refine bz HB 7 rfl rfl (Ve a3_0 a3_1 a3_2 A3_3 l3_3 c3_3) 62 ?_; intro gb922 w57 BK922 GE922 HB; have hz58 := cf4 BK922.out; have p934 : 0 <= (0 : Int) := (by omega); have q934 : 0 < (l3_3.length : Int) := od; obtain ⟨ad934, A934_3, c934_3, e934, hx934_0, hx934_1, hx934_2, hx934_3, hl934_3, hi934_3⟩ := Zk HR3_3.out 0 p934 q934; cases e934; have qi934 : (0 < l3_3.length) = True := eT (by omega); (simp only [show ((0 : Int)).toNat = 0 from rfl, Nat.zero_mul, Addr.add_zero'] at hx934_0 hx934_1 hx934_2 hx934_3); replace hx934_0 := zo HB.out hx934_0; replace hx934_1 := zo HB.out hx934_1; replace hx934_2 := zo HB.out hx934_2; replace hx934_3 := zo HB.out hx934_3; have HR934_3 := am hi934_3; have HC934_3 := am hl934_3; clear hi934_3 hl934_3; replace p934 := eT p934; replace q934 := eT q934) | (go_at_call 54; (with_reducible refine (ih k (by omega) a0 _ _ l1 _ _ l2 ((zi l3_3 0).f0) ((zi l3_3 0).f1) ((zi l3_3 0).f2) _ _ ((zi l3_3 0).f3) t935 _ (cb HR1 HB) HC1.out (cb HR2 HB) HC2.out (cb HR934_3 HB) HC934_3.out A36.out).mono ?_); rintro e w59 ⟨rfl, hb⟩; replace BK922 := kb BK922 hb; replace HB := sb HB hb; have hz60 := cf4 BK922.out; have p936 : 0 <= (1 : Int) := (by omega); have q936 : 1 < (l3_3.length : Int) := od; obtain ⟨ad936, A936_3, c936_3, e936, hx936_0, hx936_1, hx936_2, hx936_3, hl936_3, hi936_3⟩ := Zk HR3_3.out 1 p936 q936; obtain rfl : ad934 = ad936 := (by injection e936); (try simp only [show (1 : Int).toNat = 1 from rfl, Nat.reduceMul, Nat.reduceEqDiff, Go.Addr.add, ↓reduceIte] at hx936_0); (try simp only [show (1 : Int).toNat = 1 from rfl, Nat.reduceMul, Nat.reduceEqDiff, Go.Addr.add, ↓reduceIte] at hx936_1); (try simp only [show (1 : Int).toNat = 1 from rfl, Nat.reduceMul, Nat.reduceEqDiff, Go.Addr.add, ↓reduceIte] at hx936_2); (try simp only [show (1 : Int).toNat = 1 from rfl, Nat.reduceMul, Nat.reduceEqDiff, Go.Addr.add, ↓reduceIte] at hx936_3); have qi936 : (1 < l3_3.length) = True := eT (by omega); (try rw [show ((1 : Int)).toNat = 1 from rfl] at hx936_0); (try rw [show 1 * 4 = 4 from rfl] at hx936_0); (try rw [show ((1 : Int)).toNat = 1 from rfl] at hx936_1); (try rw [show 1 * 4 = 4 from rfl] at hx936_1); (try rw [show ((1 : Int)).toNat = 1 from rfl] at hx936_2); (try rw [show 1 * 4 = 4 from rfl] at hx936_2); (try rw [show ((1 : Int)).toNat = 1 from rfl] at hx936_3); (try rw [show 1 * 4 = 4 from rfl] at hx936_3); replace hx936_0 := zo HB.out hx936_0; replace hx936_1 := zo HB.out hx936_1; replace hx936_2 := zo HB.out hx936_2; replace hx936_3 := zo HB.out hx936_3; have HR936_3 := am hi936_3; have HC936_3 := am hl936_3; clear hi936_3 hl936_3; replace p936 := eT p936; replace q936 := eT q936) | (go_at_call 54; (with_reducible refine (ih k (by omega) a0 _ _ l1 _ _ l2 ((zi l3_3 1).f0) ((zi l3_3 1).f1) ((zi l3_3 1).f2) _ _ ((zi l3_3 1).f3) t937 _ (cb HR1 HB) HC1.out (cb HR2 HB) HC2.out (cb HR936_3 HB) HC936_3.out A38.out).mono ?_); rintro e w61 ⟨rfl, hb⟩; replace BK922 := kb BK922 hb; replace HB := sb HB hb; have hz62 := cf4 BK922.out) | (go_at_call 89; (with_reducible refine (yi.calls k a3_0 a0 t935 t937 t940 _ A56.out).mono ?_); rintro e w63 ⟨rfl, hb⟩; replace BK922 := kb BK922 hb; replace HB := sb HB hb)); try go_wp2)
  go_ret
  exact ⟨rr, bb HB⟩
 obtain ⟨c40, c40b0, c40b1, H⟩ | ⟨c40b0, c40b1, H⟩ := qi H
 ·obtain rfl := sj H
  go_enter Tryz.func54, Tryz.ntmps54
  go_wp2_with (first | ((with_reducible refine zw (N := 7) rfl ?_); refine bz HB 7 rfl rfl (Ve a3_0 a3_1 a3_2 A3_3 l3_3 c3_3) 62 ?_; intro gb922 w50 BK922 GE922 HB; have hz51 := cf4 BK922.out; have p934 : 0 <= (0 : Int) := (by omega); have q934 : 0 < (l3_3.length : Int) := od; obtain ⟨ad934, A934_3, c934_3, e934, hx934_0, hx934_1, hx934_2, hx934_3, hl934_3, hi934_3⟩ := Zk HR3_3.out 0 p934 q934; cases e934; have qi934 : (0 < l3_3.length) = True := eT (by omega); (simp only [show ((0 : Int)).toNat = 0 from rfl, Nat.zero_mul, Addr.add_zero'] at hx934_0 hx934_1 hx934_2 hx934_3); replace hx934_0 := zo HB.out hx934_0; replace hx934_1 := zo HB.out hx934_1; replace hx934_2 := zo HB.out hx934_2; replace hx934_3 := zo HB.out hx934_3; have HR934_3 := am hi934_3; have HC934_3 := am hl934_3; clear hi934_3 hl934_3; replace p934 := eT p934; replace q934 := eT q934) | (go_at_call 54; (with_reducible refine (ih k (by omega) a0 _ _ l1 _ _ l2 ((zi l3_3 0).f0) ((zi l3_3 0).f1) ((zi l3_3 0).f2) _ _ ((zi l3_3 0).f3) t935 _ (cb HR1 HB) HC1.out (cb HR2 HB) HC2.out (cb HR934_3 HB) HC934_3.out A36.out).mono ?_); rintro e w52 ⟨rfl, hb⟩; replace BK922 := kb BK922 hb; replace HB := sb HB hb; have hz53 := cf4 BK922.out; have p936 : 0 <= (1 : Int) := (by omega); have q936 : 1 < (l3_3.length : Int) := od; obtain ⟨ad936, A936_3, c936_3, e936, hx936_0, hx936_1, hx936_2, hx936_3, hl936_3, hi936_3⟩ := Zk HR3_3.out 1 p936 q936; obtain rfl : ad934 = ad936 := (by injection e936); (try simp only [show (1 : Int).toNat = 1 from rfl, Nat.reduceMul, Nat.reduceEqDiff, Go.Addr.add, ↓reduceIte] at hx936_0); (try simp only [show (1 : Int).toNat = 1 from rfl, Nat.reduceMul, Nat.reduceEqDiff, Go.Addr.add, ↓reduceIte] at hx936_1); (try simp only [show (1 : Int).toNat = 1 from rfl, Nat.reduceMul, Nat.reduceEqDiff, Go.Addr.add, ↓reduceIte] at hx936_2); (try simp only [show (1 : Int).toNat = 1 from rfl, Nat.reduceMul, Nat.reduceEqDiff, Go.Addr.add, ↓reduceIte] at hx936_3); have qi936 : (1 < l3_3.length) = True := eT (by omega); (try rw [show ((1 : Int)).toNat = 1 from rfl] at hx936_0); (try rw [show 1 * 4 = 4 from rfl] at hx936_0); (try rw [show ((1 : Int)).toNat = 1 from rfl] at hx936_1); (try rw [show 1 * 4 = 4 from rfl] at hx936_1); (try rw [show ((1 : Int)).toNat = 1 from rfl] at hx936_2); (try rw [show 1 * 4 = 4 from rfl] at hx936_2); (try rw [show ((1 : Int)).toNat = 1 from rfl] at hx936_3); (try rw [show 1 * 4 = 4 from rfl] at hx936_3); replace hx936_0 := zo HB.out hx936_0; replace hx936_1 := zo HB.out hx936_1; replace hx936_2 := zo HB.out hx936_2; replace hx936_3 := zo HB.out hx936_3; have HR936_3 := am hi936_3; have HC936_3 := am hl936_3; clear hi936_3 hl936_3; replace p936 := eT p936; replace q936 := eT q936) | (go_at_call 54; (with_reducible refine (ih k (by omega) a0 _ _ l1 _ _ l2 ((zi l3_3 1).f0) ((zi l3_3 1).f1) ((zi l3_3 1).f2) _ _ ((zi l3_3 1).f3) t937 _ (cb HR1 HB) HC1.out (cb HR2 HB) HC2.out (cb HR936_3 HB) HC936_3.out A38.out).mono ?_); rintro e w54 ⟨rfl, hb⟩; replace BK922 := kb BK922 hb; replace HB := sb HB hb; have hz55 := cf4 BK922.out))
  repeat (go_quiet (first | ((with_reducible refine zw (N := 7) rfl ?_); refine bz HB 7 rfl rfl (Ve a3_0 a3_1 a3_2 A3_3 l3_3 c3_3) 62 ?_; intro gb922 w50 BK922 GE922 HB; have hz51 := cf4 BK922.out; have p934 : 0 <= (0 : Int) := (by omega); have q934 : 0 < (l3_3.length : Int) := od; obtain ⟨ad934, A934_3, c934_3, e934, hx934_0, hx934_1, hx934_2, hx934_3, hl934_3, hi934_3⟩ := Zk HR3_3.out 0 p934 q934; cases e934; have qi934 : (0 < l3_3.length) = True := eT (by omega); (simp only [show ((0 : Int)).toNat = 0 from rfl, Nat.zero_mul, Addr.add_zero'] at hx934_0 hx934_1 hx934_2 hx934_3); replace hx934_0 := zo HB.out hx934_0; replace hx934_1 := zo HB.out hx934_1; replace hx934_2 := zo HB.out hx934_2; replace hx934_3 := zo HB.out hx934_3; have HR934_3 := am hi934_3; have HC934_3 := am hl934_3; clear hi934_3 hl934_3; replace p934 := eT p934; replace q934 := eT q934) | (go_at_call 54; (with_reducible refine (ih k (by omega) a0 _ _ l1 _ _ l2 ((zi l3_3 0).f0) ((zi l3_3 0).f1) ((zi l3_3 0).f2) _ _ ((zi l3_3 0).f3) t935 _ (cb HR1 HB) HC1.out (cb HR2 HB) HC2.out (cb HR934_3 HB) HC934_3.out A36.out).mono ?_); rintro e w52 ⟨rfl, hb⟩; replace BK922 := kb BK922 hb; replace HB := sb HB hb; have hz53 := cf4 BK922.out; have p936 : 0 <= (1 : Int) := (by omega); have q936 : 1 < (l3_3.length : Int) := od; obtain ⟨ad936, A936_3, c936_3, e936, hx936_0, hx936_1, hx936_2, hx936_3, hl936_3, hi936_3⟩ := Zk HR3_3.out 1 p936 q936; obtain rfl : ad934 = ad936 := (by injection e936); (try simp only [show (1 : Int).toNat = 1 from rfl, Nat.reduceMul, Nat.reduceEqDiff, Go.Addr.add, ↓reduceIte] at hx936_0); (try simp only [show (1 : Int).toNat = 1 from rfl, Nat.reduceMul, Nat.reduceEqDiff, Go.Addr.add, ↓reduceIte] at hx936_1); (try simp only [show (1 : Int).toNat = 1 from rfl, Nat.reduceMul, Nat.reduceEqDiff, Go.Addr.add, ↓reduceIte] at hx936_2); (try simp only [show (1 : Int).toNat = 1 from rfl, Nat.reduceMul, Nat.reduceEqDiff, Go.Addr.add, ↓reduceIte] at hx936_3); have qi936 : (1 < l3_3.length) = True := eT (by omega); (try rw [show ((1 : Int)).toNat = 1 from rfl] at hx936_0); (try rw [show 1 * 4 = 4 from rfl] at hx936_0); (try rw [show ((1 : Int)).toNat = 1 from rfl] at hx936_1); (try rw [show 1 * 4 = 4 from rfl] at hx936_1); (try rw [show ((1 : Int)).toNat = 1 from rfl] at hx936_2); (try rw [show 1 * 4 = 4 from rfl] at hx936_2); (try rw [show ((1 : Int)).toNat = 1 from rfl] at hx936_3); (try rw [show 1 * 4 = 4 from rfl] at hx936_3); replace hx936_0 := zo HB.out hx936_0; replace hx936_1 := zo HB.out hx936_1; replace hx936_2 := zo HB.out hx936_2; replace hx936_3 := zo HB.out hx936_3; have HR936_3 := am hi936_3; have HC936_3 := am hl936_3; clear hi936_3 hl936_3; replace p936 := eT p936; replace q936 := eT q936) | (go_at_call 54; (with_reducible refine (ih k (by omega) a0 _ _ l1 _ _ l2 ((zi l3_3 1).f0) ((zi l3_3 1).f1) ((zi l3_3 1).f2) _ _ ((zi l3_3 1).f3) t937 _ (cb HR1 HB) HC1.out (cb HR2 HB) HC2.out (cb HR936_3 HB) HC936_3.out A38.out).mono ?_); rintro e w54 ⟨rfl, hb⟩; replace BK922 := kb BK922 hb; replace HB := sb HB hb; have hz55 := cf4 BK922.out)); try go_wp2)
  go_ret
  exact ⟨rr, bb HB⟩
 obtain ⟨c41b0, H⟩ := pd H
 have c41 := of_decide_eq_true c41b0
 have c41b1 : decide (2 < l3_3.length) = true := dT (by omega)
 clear c41
 obtain ⟨t939, A42, H⟩ := be H
 obtain rfl := sj H
 go_enter Tryz.func54, Tryz.ntmps54
 go_wp2_with (first | ((with_reducible refine zw (N := 7) rfl ?_); refine bz HB 7 rfl rfl (Ve a3_0 a3_1 a3_2 A3_3 l3_3 c3_3) 62 ?_; intro gb922 w43 BK922 GE922 HB; have hz44 := cf4 BK922.out; have p934 : 0 <= (0 : Int) := (by omega); have q934 : 0 < (l3_3.length : Int) := od; obtain ⟨ad934, A934_3, c934_3, e934, hx934_0, hx934_1, hx934_2, hx934_3, hl934_3, hi934_3⟩ := Zk HR3_3.out 0 p934 q934; cases e934; have qi934 : (0 < l3_3.length) = True := eT (by omega); (simp only [show ((0 : Int)).toNat = 0 from rfl, Nat.zero_mul, Addr.add_zero'] at hx934_0 hx934_1 hx934_2 hx934_3); replace hx934_0 := zo HB.out hx934_0; replace hx934_1 := zo HB.out hx934_1; replace hx934_2 := zo HB.out hx934_2; replace hx934_3 := zo HB.out hx934_3; have HR934_3 := am hi934_3; have HC934_3 := am hl934_3; clear hi934_3 hl934_3; replace p934 := eT p934; replace q934 := eT q934) | (go_at_call 54; (with_reducible refine (ih k (by omega) a0 _ _ l1 _ _ l2 ((zi l3_3 0).f0) ((zi l3_3 0).f1) ((zi l3_3 0).f2) _ _ ((zi l3_3 0).f3) t935 _ (cb HR1 HB) HC1.out (cb HR2 HB) HC2.out (cb HR934_3 HB) HC934_3.out A36.out).mono ?_); rintro e w45 ⟨rfl, hb⟩; replace BK922 := kb BK922 hb; replace HB := sb HB hb; have hz46 := cf4 BK922.out; have p936 : 0 <= (1 : Int) := (by omega); have q936 : 1 < (l3_3.length : Int) := od; obtain ⟨ad936, A936_3, c936_3, e936, hx936_0, hx936_1, hx936_2, hx936_3, hl936_3, hi936_3⟩ := Zk HR3_3.out 1 p936 q936; obtain rfl : ad934 = ad936 := (by injection e936); (try simp only [show (1 : Int).toNat = 1 from rfl, Nat.reduceMul, Nat.reduceEqDiff, Go.Addr.add, ↓reduceIte] at hx936_0); (try simp only [show (1 : Int).toNat = 1 from rfl, Nat.reduceMul, Nat.reduceEqDiff, Go.Addr.add, ↓reduceIte] at hx936_1); (try simp only [show (1 : Int).toNat = 1 from rfl, Nat.reduceMul, Nat.reduceEqDiff, Go.Addr.add, ↓reduceIte] at hx936_2); (try simp only [show (1 : Int).toNat = 1 from rfl, Nat.reduceMul, Nat.reduceEqDiff, Go.Addr.add, ↓reduceIte] at hx936_3); have qi936 : (1 < l3_3.length) = True := eT (by omega); (try rw [show ((1 : Int)).toNat = 1 from rfl] at hx936_0); (try rw [show 1 * 4 = 4 from rfl] at hx936_0); (try rw [show ((1 : Int)).toNat = 1 from rfl] at hx936_1); (try rw [show 1 * 4 = 4 from rfl] at hx936_1); (try rw [show ((1 : Int)).toNat = 1 from rfl] at hx936_2); (try rw [show 1 * 4 = 4 from rfl] at hx936_2); (try rw [show ((1 : Int)).toNat = 1 from rfl] at hx936_3); (try rw [show 1 * 4 = 4 from rfl] at hx936_3); replace hx936_0 := zo HB.out hx936_0; replace hx936_1 := zo HB.out hx936_1; replace hx936_2 := zo HB.out hx936_2; replace hx936_3 := zo HB.out hx936_3; have HR936_3 := am hi936_3; have HC936_3 := am hl936_3; clear hi936_3 hl936_3; replace p936 := eT p936; replace q936 := eT q936) | (go_at_call 54; (with_reducible refine (ih k (by omega) a0 _ _ l1 _ _ l2 ((zi l3_3 1).f0) ((zi l3_3 1).f1) ((zi l3_3 1).f2) _ _ ((zi l3_3 1).f3) t937 _ (cb HR1 HB) HC1.out (cb HR2 HB) HC2.out (cb HR936_3 HB) HC936_3.out A38.out).mono ?_); rintro e w47 ⟨rfl, hb⟩; replace BK922 := kb BK922 hb; replace HB := sb HB hb; have hz48 := cf4 BK922.out; have p938 : 0 <= (2 : Int) := (by omega); have q938 : 2 < (l3_3.length : Int) := od; obtain ⟨ad938, A938_3, c938_3, e938, hx938_0, hx938_1, hx938_2, hx938_3, hl938_3, hi938_3⟩ := Zk HR3_3.out 2 p938 q938; obtain rfl : ad934 = ad938 := (by injection e938); (try simp only [show (2 : Int).toNat = 2 from rfl, Nat.reduceMul, Nat.reduceEqDiff, Go.Addr.add, ↓reduceIte] at hx938_0); (try simp only [show (2 : Int).toNat = 2 from rfl, Nat.reduceMul, Nat.reduceEqDiff, Go.Addr.add, ↓reduceIte] at hx938_1); (try simp only [show (2 : Int).toNat = 2 from rfl, Nat.reduceMul, Nat.reduceEqDiff, Go.Addr.add, ↓reduceIte] at hx938_2); (try simp only [show (2 : Int).toNat = 2 from rfl, Nat.reduceMul, Nat.reduceEqDiff, Go.Addr.add, ↓reduceIte] at hx938_3); have qi938 : (2 < l3_3.length) = True := eT (by omega); (try rw [show ((2 : Int)).toNat = 2 from rfl] at hx938_0); (try rw [show 2 * 4 = 8 from rfl] at hx938_0); (try rw [show ((2 : Int)).toNat = 2 from rfl] at hx938_1); (try rw [show 2 * 4 = 8 from rfl] at hx938_1); (try rw [show ((2 : Int)).toNat = 2 from rfl] at hx938_2); (try rw [show 2 * 4 = 8 from rfl] at hx938_2); (try rw [show ((2 : Int)).toNat = 2 from rfl] at hx938_3); (try rw [show 2 * 4 = 8 from rfl] at hx938_3); replace hx938_0 := zo HB.out hx938_0; replace hx938_1 := zo HB.out hx938_1; replace hx938_2 := zo HB.out hx938_2; replace hx938_3 := zo HB.out hx938_3; have HR938_3 := am hi938_3; have HC938_3 := am hl938_3; clear hi938_3 hl938_3; replace p938 := eT p938; replace q938 := eT q938) | (go_at_call 54; (with_reducible refine (ih k (by omega) a0 _ _ l1 _ _ l2 ((zi l3_3 2).f0) ((zi l3_3 2).f1) ((zi l3_3 2).f2) _ _ ((zi l3_3 2).f3) t939 _ (cb HR1 HB) HC1.out (cb HR2 HB) HC2.out (cb HR938_3 HB) HC938_3.out A42.out).mono ?_); rintro e w49 ⟨rfl, hb⟩; replace BK922 := kb BK922 hb; replace HB := sb HB hb))
 repeat (go_quiet (first | ((with_reducible refine zw (N := 7) rfl ?_); refine bz HB 7 rfl rfl (Ve a3_0 a3_1 a3_2 A3_3 l3_3 c3_3) 62 ?_; intro gb922 w43 BK922 GE922 HB; have hz44 := cf4 BK922.out; have p934 : 0 <= (0 : Int) := (by omega); have q934 : 0 < (l3_3.length : Int) := od; obtain ⟨ad934, A934_3, c934_3, e934, hx934_0, hx934_1, hx934_2, hx934_3, hl934_3, hi934_3⟩ := Zk HR3_3.out 0 p934 q934; cases e934; have qi934 : (0 < l3_3.length) = True := eT (by omega); (simp only [show ((0 : Int)).toNat = 0 from rfl, Nat.zero_mul, Addr.add_zero'] at hx934_0 hx934_1 hx934_2 hx934_3); replace hx934_0 := zo HB.out hx934_0; replace hx934_1 := zo HB.out hx934_1; replace hx934_2 := zo HB.out hx934_2; replace hx934_3 := zo HB.out hx934_3; have HR934_3 := am hi934_3; have HC934_3 := am hl934_3; clear hi934_3 hl934_3; replace p934 := eT p934; replace q934 := eT q934) | (go_at_call 54; (with_reducible refine (ih k (by omega) a0 _ _ l1 _ _ l2 ((zi l3_3 0).f0) ((zi l3_3 0).f1) ((zi l3_3 0).f2) _ _ ((zi l3_3 0).f3) t935 _ (cb HR1 HB) HC1.out (cb HR2 HB) HC2.out (cb HR934_3 HB) HC934_3.out A36.out).mono ?_); rintro e w45 ⟨rfl, hb⟩; replace BK922 := kb BK922 hb; replace HB := sb HB hb; have hz46 := cf4 BK922.out; have p936 : 0 <= (1 : Int) := (by omega); have q936 : 1 < (l3_3.length : Int) := od; obtain ⟨ad936, A936_3, c936_3, e936, hx936_0, hx936_1, hx936_2, hx936_3, hl936_3, hi936_3⟩ := Zk HR3_3.out 1 p936 q936; obtain rfl : ad934 = ad936 := (by injection e936); (try simp only [show (1 : Int).toNat = 1 from rfl, Nat.reduceMul, Nat.reduceEqDiff, Go.Addr.add, ↓reduceIte] at hx936_0); (try simp only [show (1 : Int).toNat = 1 from rfl, Nat.reduceMul, Nat.reduceEqDiff, Go.Addr.add, ↓reduceIte] at hx936_1); (try simp only [show (1 : Int).toNat = 1 from rfl, Nat.reduceMul, Nat.reduceEqDiff, Go.Addr.add, ↓reduceIte] at hx936_2); (try simp only [show (1 : Int).toNat = 1 from rfl, Nat.reduceMul, Nat.reduceEqDiff, Go.Addr.add, ↓reduceIte] at hx936_3); have qi936 : (1 < l3_3.length) = True := eT (by omega); (try rw [show ((1 : Int)).toNat = 1 from rfl] at hx936_0); (try rw [show 1 * 4 = 4 from rfl] at hx936_0); (try rw [show ((1 : Int)).toNat = 1 from rfl] at hx936_1); (try rw [show 1 * 4 = 4 from rfl] at hx936_1); (try rw [show ((1 : Int)).toNat = 1 from rfl] at hx936_2); (try rw [show 1 * 4 = 4 from rfl] at hx936_2); (try rw [show ((1 : Int)).toNat = 1 from rfl] at hx936_3); (try rw [show 1 * 4 = 4 from rfl] at hx936_3); replace hx936_0 := zo HB.out hx936_0; replace hx936_1 := zo HB.out hx936_1; replace hx936_2 := zo HB.out hx936_2; replace hx936_3 := zo HB.out hx936_3; have HR936_3 := am hi936_3; have HC936_3 := am hl936_3; clear hi936_3 hl936_3; replace p936 := eT p936; replace q936 := eT q936) | (go_at_call 54; (with_reducible refine (ih k (by omega) a0 _ _ l1 _ _ l2 ((zi l3_3 1).f0) ((zi l3_3 1).f1) ((zi l3_3 1).f2) _ _ ((zi l3_3 1).f3) t937 _ (cb HR1 HB) HC1.out (cb HR2 HB) HC2.out (cb HR936_3 HB) HC936_3.out A38.out).mono ?_); rintro e w47 ⟨rfl, hb⟩; replace BK922 := kb BK922 hb; replace HB := sb HB hb; have hz48 := cf4 BK922.out; have p938 : 0 <= (2 : Int) := (by omega); have q938 : 2 < (l3_3.length : Int) := od; obtain ⟨ad938, A938_3, c938_3, e938, hx938_0, hx938_1, hx938_2, hx938_3, hl938_3, hi938_3⟩ := Zk HR3_3.out 2 p938 q938; obtain rfl : ad934 = ad938 := (by injection e938); (try simp only [show (2 : Int).toNat = 2 from rfl, Nat.reduceMul, Nat.reduceEqDiff, Go.Addr.add, ↓reduceIte] at hx938_0); (try simp only [show (2 : Int).toNat = 2 from rfl, Nat.reduceMul, Nat.reduceEqDiff, Go.Addr.add, ↓reduceIte] at hx938_1); (try simp only [show (2 : Int).toNat = 2 from rfl, Nat.reduceMul, Nat.reduceEqDiff, Go.Addr.add, ↓reduceIte] at hx938_2); (try simp only [show (2 : Int).toNat = 2 from rfl, Nat.reduceMul, Nat.reduceEqDiff, Go.Addr.add, ↓reduceIte] at hx938_3); have qi938 : (2 < l3_3.length) = True := eT (by omega); (try rw [show ((2 : Int)).toNat = 2 from rfl] at hx938_0); (try rw [show 2 * 4 = 8 from rfl] at hx938_0); (try rw [show ((2 : Int)).toNat = 2 from rfl] at hx938_1); (try rw [show 2 * 4 = 8 from rfl] at hx938_1); (try rw [show ((2 : Int)).toNat = 2 from rfl] at hx938_2); (try rw [show 2 * 4 = 8 from rfl] at hx938_2); (try rw [show ((2 : Int)).toNat = 2 from rfl] at hx938_3); (try rw [show 2 * 4 = 8 from rfl] at hx938_3); replace hx938_0 := zo HB.out hx938_0; replace hx938_1 := zo HB.out hx938_1; replace hx938_2 := zo HB.out hx938_2; replace hx938_3 := zo HB.out hx938_3; have HR938_3 := am hi938_3; have HC938_3 := am hl938_3; clear hi938_3 hl938_3; replace p938 := eT p938; replace q938 := eT q938) | (go_at_call 54; (with_reducible refine (ih k (by omega) a0 _ _ l1 _ _ l2 ((zi l3_3 2).f0) ((zi l3_3 2).f1) ((zi l3_3 2).f2) _ _ ((zi l3_3 2).f3) t939 _ (cb HR1 HB) HC1.out (cb HR2 HB) HC2.out (cb HR938_3 HB) HC938_3.out A42.out).mono ?_); rintro e w49 ⟨rfl, hb⟩; replace BK922 := kb BK922 hb; replace HB := sb HB hb)); try go_wp2)
 go_ret
 exact ⟨rr, bb HB⟩
theorem z3K (n : Nat) (hn : n <= 60) : zc (fun k => Ze.f k (n : Int)) (2 ^ n : Int) := by
 unfold Ze.f
 have := z24 n 0 n (by omega) hn
 rw [Int.pow_zero] at this
 exact this
theorem z04 (n : Nat) : (0 : Int) < 2 ^ n := Int.pow_pos (by decide)
theorem z1n {n : Nat} (h : n <= 8) : (2 : Int) ^ n <= 256 := by
 have := z7a h
 have e : (2 : Int) ^ 8 = 256 := by decide
 omega
theorem z1Y {a b : Int} (ha : 0 <= a) (hb : 0 < b) : 0 <= Int.tmod a b /\ Int.tmod a b < b := ⟨Int.tmod_nonneg _ ha, Int.tmod_lt_of_pos _ hb⟩
theorem z52 {a b : Int} (ha : 0 <= a) (hb : 0 < b) : 0 <= Int.tdiv a b /\ Int.tdiv a b <= a := by
 rw [Int.tdiv_eq_ediv_of_nonneg ha]
 exact ⟨Int.ediv_nonneg ha (by omega), Int.ediv_le_self _ ha⟩
theorem bit_t (a : Int) (h0 : 0 <= a) (h1 : a <= 1000) (i : Nat) (hi : i <= 8) : ∃ b, zc (fun k => z0W.f k a (i : Int)) b /\ (b = 0 \/ b = 1) := by
 have hp := z04 i
 have hd := z52 h0 hp
 have hm := z1Y (b := 2) hd.1 (by decide)
 refine ⟨Int.tmod (Int.tdiv a (2 ^ i)) 2, ?_, by omega⟩
 unfold z0W.f
 refine zc.bind (z3K i (by omega)) (zc.ifF (by omega) ?_)
 rw [w64 (by omega) (by omega)]
 exact zc.pure _
theorem gate_t (op : Int) {a b : Int} (ha : a = 0 \/ a = 1) (hb : b = 0 \/ b = 1) : ∃ c, z0C.f op a b = some c /\ (c = 0 \/ c = 1) := by
 unfold z0C.f
 by_cases h7 : op = 7
 ·rw [jb h7]
  rcases ha with rfl | rfl <;> rcases hb with rfl | rfl
  ·exact ⟨0, by decide +kernel, .inl rfl⟩
  ·exact ⟨0, by decide +kernel, .inl rfl⟩
  ·exact ⟨0, by decide +kernel, .inl rfl⟩
  ·exact ⟨1, by decide +kernel, .inr rfl⟩
 ·rw [ja h7]
  by_cases h8 : op = 8
  ·rw [jb h8]
   rcases ha with rfl | rfl <;> rcases hb with rfl | rfl
   ·exact ⟨0, by decide +kernel, .inl rfl⟩
   ·exact ⟨1, by decide +kernel, .inr rfl⟩
   ·exact ⟨1, by decide +kernel, .inr rfl⟩
   ·exact ⟨1, by decide +kernel, .inr rfl⟩
  ·rw [ja h8]
   rcases ha with rfl | rfl <;> rcases hb with rfl | rfl
   ·exact ⟨0, by decide +kernel, .inl rfl⟩
   ·exact ⟨1, by decide +kernel, .inr rfl⟩
   ·exact ⟨1, by decide +kernel, .inr rfl⟩
   ·exact ⟨0, by decide +kernel, .inl rfl⟩
theorem z5M : ∀ (suf pre : List Int) (s : Int), (pre ++ suf).length <= 8 -> (∀ x ∈ suf, x = 0 \/ x = 1) -> 0 <= s -> s < 2 ^ pre.length ->
  ∃ d, zc (fun k => z0a.l0 k (pre ++ suf) s (pre.length : Int)) d /\ 0 <= d /\ d < 2 ^ (pre ++ suf).length
 | [], pre, s, _, _, h0, h1 => by
  refine ⟨s, zc.succ ?_, h0, by rw [List.append_nil]; exact h1⟩
  simp only [z0a.l0, ZL, if_false]
  exact zc.pure _
 | x :: r, pre, s, hl, hx, h0, h1 => by
  have hx1 := hx x (by simp)
  have hpl : pre.length <= 7 := by rw [je, jp] at hl; omega
  have hp := z1n (n := pre.length) (by omega)
  have e : (2 : Int) ^ (pre ++ [x]).length = 2 * 2 ^ pre.length := by rw [je, List.length_singleton, Int.pow_succ, Int.mul_comm]
  have hxp : x * 2 ^ pre.length = 0 \/ x * 2 ^ pre.length = 2 ^ pre.length := by
   rcases hx1 with rfl | rfl
   ·left; rw [Int.zero_mul]
   ·right; rw [Int.one_mul]
  have hb : 0 <= x * 2 ^ pre.length /\ x * 2 ^ pre.length <= 2 ^ pre.length := by rcases hxp with h | h <;> rw [h] <;> omega
  obtain ⟨d, t, d0, d1⟩ := z5M r (pre ++ [x]) (s + x * 2 ^ pre.length) (by rw [<- zQ]; exact hl) (fun u hu => hx u (by simp [hu])) (by omega) (by rw [e]; omega)
  rw [<- zQ] at t d1
  refine ⟨d, zc.succ ?_, d0, d1⟩
  simp only [z0a.l0, Zo, Z6, if_true, z5a]
  refine zc.bind (z3K pre.length (by omega)) ?_
  rw [w64 (n := x * 2 ^ pre.length) (by omega) (by omega), w64 (n := s + x * 2 ^ pre.length) (by omega) (by omega), Zi pre x r (by omega)]
  exact t
theorem z3F (op a b : Int) (a0 : 0 <= a) (a1 : a <= 1000) (b0 : 0 <= b) (b1 : b <= 1000) (n : Nat) (hn : n <= 8) : ∀ (j i : Nat) (acc : List Int), i + j = n -> acc.length = i -> (∀ x ∈ acc, x = 0 \/ x = 1) ->
  ∃ d, zc (fun k => yd.l0 k op (n : Int) a b acc (i : Int)) d /\ 0 <= d /\ d < 2 ^ n
 | 0, i, acc, h, hl, hx => by
  obtain ⟨d, t, d0, d1⟩ := z5M acc [] 0 (by rw [List.nil_append]; omega) hx (jq _) (by decide)
  rw [List.nil_append, hl] at d1
  have e : i = n := by omega
  rw [e] at d1
  refine ⟨d, zc.succ ?_, d0, d1⟩
  have : ¬ (i : Int) < (n : Int) := by omega
  simp only [yd.l0, this, if_false]
  refine zc.bind ?_ (zc.pure _)
  unfold z0a.f
  exact t
 | j + 1, i, acc, h, hl, hx => by
  obtain ⟨p, tp, hp⟩ := bit_t a a0 a1 i (by omega)
  obtain ⟨q, tq, hq⟩ := bit_t b b0 b1 i (by omega)
  obtain ⟨c, tc, hc⟩ := gate_t op hp hq
  obtain ⟨d, t, d0, d1⟩ := z3F op a b a0 a1 b0 b1 n hn j (i + 1) (acc ++ [c]) (by omega) (by rw [je, List.length_singleton, hl]) (by
   intro x hx'
   rw [List.mem_append, List.mem_singleton] at hx'
   rcases hx' with hx' | rfl
   ·exact hx x hx'
   ·exact hc)
  refine ⟨d, zc.succ ?_, d0, d1⟩
  have hlt : (i : Int) < (n : Int) := by omega
  simp only [yd.l0, hlt, if_true]
  refine zc.bind tp (zc.bind tq ?_)
  refine zc.bind (g := fun _ => z0C.f op p q) ⟨0, fun _ _ => tc⟩ (zc.ifT (by omega) ?_)
  rw [w64 (by omega) (by omega)]
  exact t
theorem each_t (op a b : Int) (a0 : 0 <= a) (a1 : a <= 1000) (b0 : 0 <= b) (b1 : b <= 1000) (n : Nat) (hn : n <= 8) : ∃ d, zc (fun k => yd.f k op (n : Int) a b) d /\ 0 <= d /\ d < 2 ^ n := by
 unfold yd.f
 exact z3F op a b a0 a1 b0 b1 n hn n 0 [] (by omega) rfl (by simp)
theorem One_t (b : Bool) (n : Nat) (hn : 1 <= n) : ∃ d, ZG.f b = some d /\ 0 <= d /\ d < 2 ^ n := by
 have : (2 : Int) <= 2 ^ n := by
  have := z7a hn
  have e : (2 : Int) ^ 1 = 2 := by decide
  omega
 unfold ZG.f
 cases b
 ·exact ⟨0, rfl, jq _, by omega⟩
 ·exact ⟨1, rfl, by decide, by omega⟩
theorem Top_t (n : Nat) (hn : n <= 8) : zc (fun k => z0V.f k (n : Int)) (2 ^ n - 1) := by
 unfold z0V.f
 have h1 := z1n hn
 have h2 := z04 n
 refine zc.bind (z3K n (by omega)) ?_
 rw [w64 (by omega) (by omega)]
 exact zc.pure _
theorem Not_t (n : Nat) (hn : n <= 8) (a : Int) (a0 : 0 <= a) (a1 : a < 2 ^ n) : zc (fun k => YE.f k (n : Int) a) (2 ^ n - 1 - a) := by
 unfold YE.f
 have h1 := z1n hn
 refine zc.bind (Top_t n hn) ?_
 rw [w64 (by omega) (by omega)]
 exact zc.pure _
theorem z3B {a b : Int} (a0 : 0 <= a) (a1 : a <= 256) (b0 : 0 <= b) (b1 : b <= 256) : 0 <= a * b /\ a * b <= 65536 :=
 ⟨Int.mul_nonneg a0 b0, Int.le_trans (Int.mul_le_mul a1 b1 b0 (by decide)) (by decide)⟩
theorem do_t (n : Nat) (h1 : 1 <= n) (hn : n <= 8) (op a b : Int) (a0 : 0 <= a) (a1 : a < 2 ^ n) (b0 : 0 <= b) (b1 : b < 2 ^ n) : ∃ d, zc (fun k => yi.f k op (n : Int) a b) d /\ 0 <= d /\ d < 2 ^ n := by
 have hp := z1n hn
 have hp0 := z04 n
 have tP := z3K n (by omega)
 have hab := z3B a0 (by omega) b0 (by omega)
 unfold yi.f
 by_cases o2 : op = 2
 ·simp only [o2, if_true]
  have := z1Y (a := a + b) (b := 2 ^ n) (by omega) hp0
  refine ⟨Int.tmod (a + b) (2 ^ n), zc.bind tP (zc.ifF (by omega) ?_), this⟩
  rw [w64 (by omega) (by omega)]
  exact zc.pure _
 by_cases o3 : op = 3
 ·simp only [o3, show ¬ ((3 : Int) = 2) by decide, if_true, if_false]
  have := z1Y (a := a + 2 ^ n - b) (b := 2 ^ n) (by omega) hp0
  refine ⟨Int.tmod (a + 2 ^ n - b) (2 ^ n), zc.bind tP (zc.bind tP (zc.ifF (by omega) ?_)), this⟩
  rw [w64 (n := a + 2 ^ n) (by omega) (by omega), w64 (by omega) (by omega)]
  exact zc.pure _
 by_cases o4 : op = 4
 ·simp only [o4, show ¬ ((4 : Int) = 2) by decide, show ¬ ((4 : Int) = 3) by decide, if_true, if_false]
  have := z1Y (a := a * b) (b := 2 ^ n) hab.1 hp0
  refine ⟨Int.tmod (a * b) (2 ^ n), zc.bind tP (zc.ifF (by omega) ?_), this⟩
  rw [w64 (by omega) (by omega)]
  exact zc.pure _
 by_cases o5 : op = 5
 ·simp only [o5, show ¬ ((5 : Int) = 2) by decide, show ¬ ((5 : Int) = 3) by decide, show ¬ ((5 : Int) = 4) by decide, if_true, if_false]
  by_cases hb : b = 0
  ·exact ⟨2 ^ n - 1, zc.ifT hb (zc.bind (Top_t n hn) (zc.pure _)), by omega, by omega⟩
  ·have := z52 (a := a) (b := b) a0 (by omega)
   refine ⟨Int.tdiv a b, zc.ifF hb ?_, this.1, by omega⟩
   rw [w64 (by omega) (by omega)]
   exact zc.pure _
 by_cases o6 : op = 6
 ·simp only [o6, show ¬ ((6 : Int) = 2) by decide, show ¬ ((6 : Int) = 3) by decide, show ¬ ((6 : Int) = 4) by decide, show ¬ ((6 : Int) = 5) by decide, if_true, if_false]
  by_cases hb : b = 0
  ·exact ⟨a, zc.ifT hb (zc.pure _), a0, a1⟩
  ·have := z1Y (a := a) (b := b) a0 (by omega)
   exact ⟨Int.tmod a b, zc.ifF hb (zc.pure _), this.1, by omega⟩
 simp only [o2, o3, o4, o5, o6, if_false]
 have key : ∀ c : Bool, ∃ d, zc (fun k => yi.j0 k op (n : Int) a b op c) d /\ 0 <= d /\ d < 2 ^ n := by
  intro c
  by_cases hc : c = true
  ·obtain ⟨d, t, d0, d1⟩ := each_t op a b a0 (by omega) b0 (by omega) n hn
   refine ⟨d, zc.succ ?_, d0, d1⟩
   simp only [yi.j0, hc, if_true]
   exact zc.bind t (zc.pure _)
  ·by_cases o10 : op = 10
   ·by_cases hb : b >= (n : Int)
    ·refine ⟨0, zc.succ ?_, jq _, hp0⟩
     simp only [yi.j0, hc, Bool.false_eq_true, o10, if_false, if_true]
     exact zc.ifT hb (zc.pure _)
    ·obtain ⟨m, rfl⟩ : ∃ m : Nat, b = m := ⟨b.toNat, by omega⟩
     have hq := z1n (n := m) (by omega)
     have hm := z3B (a := a) (b := 2 ^ m) a0 (by omega) (by have := z04 m; omega) hq
     have := z1Y (a := a * 2 ^ m) (b := 2 ^ n) hm.1 hp0
     refine ⟨Int.tmod (a * 2 ^ m) (2 ^ n), zc.succ ?_, this⟩
     simp only [yi.j0, hc, Bool.false_eq_true, o10, if_false, if_true]
     refine zc.ifF hb (zc.bind (z3K m (by omega)) (zc.bind tP (zc.ifF (by omega) ?_)))
     rw [w64 (by omega) (by omega)]
     exact zc.pure _
   ·by_cases o11 : op = 11
    ·by_cases hb : b >= (n : Int)
     ·refine ⟨0, zc.succ ?_, jq _, hp0⟩
      simp only [yi.j0, hc, Bool.false_eq_true, o11, show ¬ ((11 : Int) = 10) by decide, if_false, if_true]
      exact zc.ifT hb (zc.pure _)
     ·obtain ⟨m, rfl⟩ : ∃ m : Nat, b = m := ⟨b.toNat, by omega⟩
      have hq := z04 m
      have := z52 (a := a) (b := 2 ^ m) a0 hq
      refine ⟨Int.tdiv a (2 ^ m), zc.succ ?_, this.1, by omega⟩
      simp only [yi.j0, hc, Bool.false_eq_true, o11, show ¬ ((11 : Int) = 10) by decide, if_false, if_true]
      refine zc.ifF hb (zc.bind (z3K m (by omega)) (zc.ifF (by omega) ?_))
      rw [w64 (by omega) (by omega)]
      exact zc.pure _
    ·by_cases o13 : op = 13
     ·obtain ⟨d, t, d0, d1⟩ := One_t (a == b) n h1
      refine ⟨d, zc.succ ?_, d0, d1⟩
      simp only [yi.j0, hc, Bool.false_eq_true, o13, show ¬ ((13 : Int) = 10) by decide, show ¬ ((13 : Int) = 11) by decide, if_false, if_true]
      exact zc.bind (g := fun _ => ZG.f (a == b)) ⟨0, fun _ _ => t⟩ (zc.pure _)
     ·obtain ⟨d, t, d0, d1⟩ := One_t (decide (a < b)) n h1
      refine ⟨d, zc.succ ?_, d0, d1⟩
      simp only [yi.j0, hc, Bool.false_eq_true, o10, o11, o13, if_false]
      exact zc.bind (g := fun _ => ZG.f (decide (a < b))) ⟨0, fun _ _ => t⟩ (zc.pure _)
 by_cases o7 : op = 7
 ·simp only [o7, if_true]
  exact o7 ▸ key _
 ·by_cases o8 : op = 8
  ·simp only [o8, show ¬ ((8 : Int) = 7) by decide, if_false, if_true]
   exact o8 ▸ key _
  ·simp only [o7, o8, if_false]
   exact key _
theorem z6g {w : Int} {vs : List S76} {st : List (List Int)} {n c : Int} {l : List S62} : zc (fun k => zR.f k w vs st 0 n c l) n := by
 refine zc.succ ?_
 simp only [zR.f, if_true]
 exact zc.pure _
theorem lt1 (x : S62) (r : List S62) : (0 : Int) < ((x :: r).length : Int) := by rw [jp]; omega
theorem lt2 (x y : S62) (r : List S62) : (1 : Int) < ((x :: y :: r).length : Int) := by rw [jp, jp]; omega
theorem lt3 (x y z : S62) (r : List S62) : (2 : Int) < ((x :: y :: z :: r).length : Int) := by rw [jp, jp, jp]; omega
theorem rd0 (x : S62) (r : List S62) : zi (x :: r) 0 = x := rfl
theorem rd1 (x y : S62) (r : List S62) : zi (x :: y :: r) 1 = y := rfl
theorem rd2 (x y z : S62) (r : List S62) : zi (x :: y :: z :: r) 2 = z := rfl
theorem val_not {w : Int} {vs : List S76} {st : List (List Int)} {n c : Int} {x : S62} {v u : Int} (t : zc (fun k => zR.f k w vs st x.f0 x.f1 x.f2 x.f3) v) (tn : zc (fun k => YE.f k w v) u) :
  zc (fun k => zR.f k w vs st 12 n c [x]) u := by
 refine zc.succ ?_
 simp only [zR.f, show ¬ ((12 : Int) = 0) by decide, show ¬ ((12 : Int) = 1) by decide, if_true, if_false, lt1, rd0]
 exact zc.bind t (zc.bind tn (zc.pure _))
theorem val_do {w : Int} {vs : List S76} {st : List (List Int)} {op n c : Int} {x y : S62} {a b d : Int} (o0 : op ≠ 0) (o1 : op ≠ 1) (o12 : op ≠ 12) (o15 : op ≠ 15) (tx : zc (fun k => zR.f k w vs st x.f0 x.f1 x.f2 x.f3) a) (ty : zc (fun k => zR.f k w vs st y.f0 y.f1 y.f2 y.f3) b)
  (td : zc (fun k => yi.f k op w a b) d) : zc (fun k => zR.f k w vs st op n c [x, y]) d := by
 refine zc.succ ?_
 simp only [zR.f, o0, o1, o12, o15, if_true, if_false, lt1, rd0, lt2, rd1]
 exact zc.bind tx (zc.bind ty (zc.bind td (zc.pure _)))
theorem val_if {w : Int} {vs : List S76} {st : List (List Int)} {n c : Int} {x y z : S62} {a b d : Int} (tx : zc (fun k => zR.f k w vs st x.f0 x.f1 x.f2 x.f3) a) (ty : zc (fun k => zR.f k w vs st y.f0 y.f1 y.f2 y.f3) b)
  (tz : zc (fun k => zR.f k w vs st z.f0 z.f1 z.f2 z.f3) d) : zc (fun k => zR.f k w vs st 15 n c [x, y, z]) (if a = 0 then d else b) := by
 refine zc.succ ?_
 simp only [zR.f, show ¬ ((15 : Int) = 0) by decide, show ¬ ((15 : Int) = 1) by decide, show ¬ ((15 : Int) = 12) by decide, if_true, if_false, lt1, rd0, lt2, rd1, lt3, rd2]
 refine zc.bind tx (zc.bind ty ?_)
 by_cases h : a = 0
 ·rw [jb h]
  exact zc.ifT h (zc.bind tz (zc.pure _))
 ·rw [ja h]
  exact zc.ifF h (zc.pure _)
theorem z7M (vs : List S76) (hl : vs.length <= 18) (hv : ∀ v ∈ vs, 1 <= v.f2 /\ v.f2 <= 8) (n i : Int) (h0 : 0 <= n) (h1 : n < (vs.length : Int)) (i0 : 0 <= i) :
  zc (fun k => z09.f k vs n i) (cs (vs.take n.toNat) + i % (zp vs n).f2) /\ 1 <= (zp vs n).f2 /\ (zp vs n).f2 <= 8 /\ 0 <= cs (vs.take n.toNat) /\ cs (vs.take n.toNat) + (zp vs n).f2 <= cs vs := by
 obtain ⟨m, rfl⟩ : ∃ m : Nat, n = m := ⟨n.toNat, by omega⟩
 have hm : m < vs.length := by omega
 have hx : zp vs (m : Int) = vs[m] := by
  show vs.getD (m : Int).toNat _ = _
  rw [jh, jw, jn hm, Option.getD_some]
 have hc := hv vs[m] (List.getElem_mem hm)
 have hb := z1S (vs.take m) (fun v h => hv v (List.mem_of_mem_take h))
 have hb2 : (vs.take m).length <= 18 := by rw [List.length_take]; omega
 have hd := z1S (vs.drop (m + 1)) (fun v h => hv v (List.mem_of_mem_drop h))
 have app : ∀ a b : List S76, cs (a ++ b) = cs a + cs b := fun a b => by unfold cs; rw [List.map_append, List.sum_append]
 have hsum : cs vs = cs (vs.take m) + (vs[m].f2 + cs (vs.drop (m + 1))) := by
  have e : vs = vs.take m ++ vs[m] :: vs.drop (m + 1) := by rw [List.getElem_cons_drop, List.take_append_drop]
  have e2 := congrArg cs e
  rw [app, z46] at e2
  exact e2
 rw [jh, hx]
 have hm0 : 0 <= i % vs[m].f2 := Int.emod_nonneg _ (by omega)
 have hm1 : i % vs[m].f2 < vs[m].f2 := Int.emod_lt_of_pos _ (by omega)
 refine ⟨?_, hc.1, hc.2, hb.1, by omega⟩
 unfold z09.f
 have tf := z0d vs (m : Int) (by omega) (by omega) hv hl
 rw [jh] at tf
 refine zc.bind tf (zc.ifT (by omega) (zc.ifT (by omega) (zc.ifF (by rw [hx]; omega) ?_)))
 rw [hx, Int.tmod_eq_emod_of_nonneg i0, w64 (by omega) (by omega)]
 exact zc.pure _
theorem z3R (l : List Int) (i : Int) (h0 : 0 <= i) (h1 : i < (l.length : Int)) : ∃ h : i.toNat < l.length, rd l i = l[i.toNat] := by
 have h : i.toNat < l.length := by omega
 refine ⟨h, ?_⟩
 show l.getD i.toNat 0 = _
 rw [jw, jn h, Option.getD_some]
def rdC (vs : List S76) (st : List (List Int)) (n c i : Int) : Int := rd (Y5 st c) (cs (vs.take n.toNat) + i % (zp vs n).f2)
theorem z6P {w : Int} {vs : List S76} {st : List (List Int)} {n c : Int} (hl : vs.length <= 18) (hv : ∀ v ∈ vs, 1 <= v.f2 /\ v.f2 <= 8) (h0 : 0 <= n) (h1 : n < (vs.length : Int)) (c0 : 0 <= c) (c1 : c < (st.length : Int)) (hs : ((Y5 st c).length : Int) = cs vs) :
  zc (fun k => zR.f k w vs st 1 n c []) (rdC vs st n c 0) /\
  ∀ x i, 0 <= i -> zc (fun k => zR.f k w vs st x.f0 x.f1 x.f2 x.f3) i -> zc (fun k => zR.f k w vs st 1 n c [x]) (rdC vs st n c i) := by
 constructor
 ·obtain ⟨ta, p1, p8, q0, q1⟩ := z7M vs hl hv n 0 h0 h1 (jq _)
  have hm0 : 0 <= (0 : Int) % (zp vs n).f2 := Int.emod_nonneg _ (by omega)
  have hm1 : (0 : Int) % (zp vs n).f2 < (zp vs n).f2 := Int.emod_lt_of_pos _ (by omega)
  refine zc.succ ?_
  simp only [zR.f, show ¬ ((1 : Int) = 0) by decide, if_true, if_false]
  refine zc.ifF (by rw [List.length_nil]; omega) (zc.ifT c0 (zc.ifT c1 (zc.bind ta (zc.ifT (by omega) (zc.ifT (by omega) (zc.pure _))))))
 ·intro x i i0 tx
  obtain ⟨ta, p1, p8, q0, q1⟩ := z7M vs hl hv n i h0 h1 i0
  have hm0 : 0 <= i % (zp vs n).f2 := Int.emod_nonneg _ (by omega)
  have hm1 : i % (zp vs n).f2 < (zp vs n).f2 := Int.emod_lt_of_pos _ (by omega)
  refine zc.succ ?_
  simp only [zR.f, show ¬ ((1 : Int) = 0) by decide, if_true, if_false, lt1, rd0]
  exact zc.bind tx (zc.ifT c0 (zc.ifT c1 (zc.bind ta (zc.ifT (by omega) (zc.ifT (by omega) (zc.pure _))))))
theorem z2V {w : Int} {vars : List S76} {kk a b c n : Int} (h : Yj w vars kk a b c n = true) : YI vars a b = n /\ YF w kk a b c = true := by
 unfold Yj at h
 rw [jg, decide_eq_true_eq] at h
 exact h
theorem z1K {w : Nat} (h8 : w <= 8) {kk b c : Int} (h : YF (w : Int) kk 0 b c = true) : 0 <= b /\ b < 2 ^ w := by
 unfold YF at h
 rw [jb rfl] at h
 have hp := z1n h8
 have hp0 := z04 w
 rw [jh, w64 (by omega) (by omega)] at h
 split at h
 ·cases h
 ·split at h
  ·cases h
  ·constructor <;> omega
theorem z4B {w kk b c : Int} (h : YF w kk 1 b c = true) : 0 <= c /\ c < kk := by
 unfold YF at h
 rw [ja (by decide), jb rfl] at h
 split at h
 ·cases h
 ·split at h
  ·cases h
  ·constructor <;> omega
theorem len0 {l : List S62} (h : (0 : Int) = (l.length : Int)) : l = [] := List.eq_nil_of_length_eq_zero (by omega)
theorem len1 {l : List S62} (h : (1 : Int) = (l.length : Int)) : ∃ x, l = [x] := List.length_eq_one_iff.1 (by omega)
theorem len2 {l : List S62} (h : (2 : Int) = (l.length : Int)) : ∃ x y, l = [x, y] := by
 match l, h with
 | [x, y], _ => exact ⟨x, y, rfl⟩
 | [], h => simp at h
 | [_], h => simp at h
 | _ :: _ :: _ :: r, h => simp only [jp] at h; omega
theorem len3 {l : List S62} (h : (3 : Int) = (l.length : Int)) : ∃ x y z, l = [x, y, z] := by
 match l, h with
 | [x, y, z], _ => exact ⟨x, y, z, rfl⟩
 | [], h => simp at h
 | [_], h => simp at h
 | [_, _], h => simp at h
 | _ :: _ :: _ :: _ :: r, h => simp only [jp] at h; omega
end Go.Proofs.YtnlekgadadifdaaGreat.Print
