/- For every program, number and list the law ProgDigits returns true, and what came in reads as before. No condition. -/
import Derived.Test.YtffcpbgbhkbplaaB6
import Derived.Laws.BitsLemmas
namespace Go.Proofs.Ytffcpbgbhkbplaa.Print
open Go.RowKit Go.Proofs.YtffcpbgbhkbplaaW.PrintWords Go.Proofs.YtffcpbgbhkbplaaW.PrintLast Go.Proofs.YtffcpbgbhkbplaaW.PrintMore
attribute [local go_sem] max2_int min2_int max_two min_two max_three min_three max_four min_four
set_option linter.unusedVariables false
set_option linter.unusedSimpArgs false
def r2_First.l0 : Nat → List (S82) → Int → Int → Int → Option (Int)
 | 0, _, _, _, _ => none
 | k + 1, x0, x1, x5, x6 => if x6 < x1 then (if 0 ≤ x6 then (if x6 < (x0.length : Int) then (r2_First.l0 k x0 x1 (wrap64 (x5 + ((rd_T82 x0 x6).f2))) (wrap64 (x6 + 1))) else (none)) else (none)) else (some x5)
def r2_First.f (k : Nat) (l0 : List (S82)) (a1 : Int) : Option (Int) := r2_First.l0 k l0 a1 0 0
set_option maxHeartbeats 8000000 in
set_option maxRecDepth 100000 in
theorem r2_First.calls (k : Nat) (A0 : Option Addr) (c0 : Nat) (l0 : List (S82)) (a1 : Int) (r : Int) (w : World) (hr0 : Kd.C k82 w A0 l0.length l0) (hc0 : l0.length ≤ c0) (h : r2_First.f k l0 a1 = some r) :
  Calls Try.prog 51 #[.slice A0 l0.length c0, .int .i64 a1] w fun e w' => e = .returned (.int .i64 r) ∧ Drawn0 w w' := by
 have HR0 := Aside0.mk hr0
 have HC0 := Aside0.mk hc0
 clear hr0 hc0
 have H : (r2_First.l0 k l0 a1 0 0) = some r := h
 clear h
 have H' := Aside0.mk H
 clear H
 go_enter Try.func51, Try.ntmps51
 go_wp2
 go_loopg [5, 6] k (fun kq v5 v6 w' => ∃ (x5_1 : Int) (x6_1 : Int), v5 = .int .i64 x5_1 ∧ v6 = .int .i64 x6_1 ∧ Aside0 (r2_First.l0 kq l0 a1 x5_1 x6_1 = some r) ∧ Aside0 (kq ≤ k) ∧ Drawn0 w w')
 case atStart => exact ⟨(0), (0), (by first | rfl | (simp; done) | (simp [*]; done)), (by first | rfl | (simp; done) | (simp [*]; done)), H', ⟨Nat.le_refl _⟩, by repeat (first | exact Drawn0.refl _ | apply Drawn0.step)⟩
 case round =>
  clear H'
  try clear p2
  obtain ⟨x5_1, x6_1, rfl, rfl, HA, HK1, ⟨m1, rfl⟩⟩ := hrel
  cases gk with
  | zero => exact absurd HA.out (by simp [r2_First.l0])
  | succ k1 =>
   have H := HA.out
   clear HA
   simp only [r2_First.l0] at H
   by_cases c3 : x6_1 < a1
   ·rw [if_pos c3] at H
    have c3b0 : decide (x6_1 < a1) = true := decide_eq_true c3
    clear c3
    by_cases c4 : 0 ≤ x6_1
    ·rw [if_pos c4] at H
     have c4b0 : decide (0 ≤ x6_1) = true := decide_eq_true c4
     clear c4
     by_cases c5 : x6_1 < (l0.length : Int)
     ·rw [if_pos c5] at H
      have c5b0 : decide (x6_1 < (l0.length : Int)) = true := decide_eq_true c5
      clear c5
      have H' := Aside0.mk H
      clear H
      have p305 : 0 ≤ (x6_1 : Int) := of_decide_eq_true (by first | (with_reducible assumption) | assumption)
      have q305 : x6_1 < (l0.length : Int) := of_decide_eq_true (by first | (with_reducible assumption) | assumption)
      obtain ⟨ad305, e305, hx305_0, hx305_1, hx305_2⟩ := at_T82 HR0.out x6_1 p305 q305
      cases e305
      replace p305 := eq_true p305
      replace q305 := eq_true q305
      go_wp2
      go_roundg k1
      case measure => have := HK1.out; omega
      case rel => exact ⟨(wrap64 (x5_1 + ((rd_T82 l0 x6_1).f2))), (wrap64 (x6_1 + 1)), (by first | rfl | (simp; done) | (simp [*]; done)), (by first | rfl | (simp; done) | (simp [*]; done)), H', ⟨by have := HK1.out; omega⟩, by repeat (first | exact Drawn0.refl _ | apply Drawn0.step)⟩
     ·rw [if_neg c5] at H
      exact absurd H (by simp)
    ·rw [if_neg c4] at H
     exact absurd H (by simp)
   ·rw [if_neg c3] at H
    have c3b0 : decide (x6_1 < a1) = false := decide_eq_false c3
    clear c3
    obtain rfl := Option.some.inj H
    go_wp2
    go_ret
    exact ⟨by first | rfl | (simp; done) | (simp [*]; done), by repeat (first | exact Drawn0.refl _ | apply Drawn0.step)⟩
def cs (l : List S82) : Int := (l.map (·.f2)).sum
theorem cs_nil : cs [] = 0 := rfl
theorem cs_cons (v : S82) (r : List S82) : cs (v :: r) = v.f2 + cs r := by unfold cs; rw [List.map_cons, List.sum_cons]
theorem cs_bound : ∀ (l : List S82), (∀ v ∈ l, 1 ≤ v.f2 ∧ v.f2 ≤ 8) → 0 ≤ cs l ∧ cs l ≤ 8 * l.length
  | [], _ => by rw [cs_nil]; simp
  | v :: r, h => by
    have h1 := h v (by simp)
    have h2 := cs_bound r (fun u hu => h u (by simp [hu]))
    rw [cs_cons, List.length_cons]
    omega
theorem cells_loop : ∀ (suf pre : List S82) (acc : Int), (∀ v ∈ suf, 1 ≤ v.f2 ∧ v.f2 ≤ 8) → (pre ++ suf).length ≤ 1000 → 0 ≤ acc → acc + 8 * suf.length ≤ 1000000 →
    Tells (fun k => prog_cells.l0 k acc (pre ++ suf) ((pre ++ suf).length : Int) (pre.length : Int)) (acc + cs suf)
  | [], pre, acc, _, _, _, _ => by
    refine Tells.succ ?_
    simp only [prog_cells.l0, pre_nlt, if_false]
    rw [cs_nil, Int.add_zero]
    exact Tells.pure _
  | v :: r, pre, acc, hv, hl, h0, h1 => by
    refine Tells.succ ?_
    have hv1 := hv v (by simp)
    rw [List.length_cons] at h1
    simp only [prog_cells.l0, pre_lt, pre_pos, if_true, rdV_mid]
    have t := cells_loop r (pre ++ [v]) (acc + v.f2) (fun u hu => hv u (by simp [hu])) (by rw [← pre_app]; exact hl) (by omega) (by omega)
    rw [← pre_app] at t
    rw [w64 (n := acc + v.f2) (by omega) (by omega), pre_next pre v r (by omega), cs_cons, ← Int.add_assoc]
    exact t
theorem cells_tells (w : Int) (vars : List S82) (l2 : List S47) (hv : ∀ v ∈ vars, 1 ≤ v.f2 ∧ v.f2 ≤ 8) (hl : vars.length ≤ 18) : Tells (fun k => prog_cells.f k w vars l2) (cs vars) := by
  unfold prog_cells.f
  have := cells_loop vars [] 0 hv (by rw [List.nil_append]; omega) (by decide) (by omega)
  rw [Int.zero_add] at this
  exact this
theorem first_loop (tail : List S82) : ∀ (mid pre : List S82) (acc : Int), (∀ v ∈ mid, 1 ≤ v.f2 ∧ v.f2 ≤ 8) → (pre ++ (mid ++ tail)).length ≤ 1000 → 0 ≤ acc → acc + 8 * mid.length ≤ 1000000 →
    Tells (fun k => r2_First.l0 k (pre ++ (mid ++ tail)) ((pre.length + mid.length : Nat) : Int) acc (pre.length : Int)) (acc + cs mid)
  | [], pre, acc, _, _, _, _ => by
    refine Tells.succ ?_
    have : ¬ (pre.length : Int) < ((pre.length + ([] : List S82).length : Nat) : Int) := by rw [List.length_nil]; omega
    simp only [r2_First.l0, this, if_false]
    rw [cs_nil, Int.add_zero]
    exact Tells.pure _
  | v :: r, pre, acc, hv, hl, h0, h1 => by
    refine Tells.succ ?_
    have hv1 := hv v (by simp)
    rw [List.length_cons] at h1
    have hlt : (pre.length : Int) < ((pre.length + (v :: r).length : Nat) : Int) := by rw [List.length_cons]; omega
    have hl' : (pre ++ v :: (r ++ tail)).length ≤ 1000 := hl
    simp only [r2_First.l0, hlt, List.cons_append, pre_lt, pre_pos, if_true, rdV_mid]
    have t := first_loop tail r (pre ++ [v]) (acc + v.f2) (fun u hu => hv u (by simp [hu])) (by rw [← pre_app]; exact hl') (by omega) (by omega)
    rw [← pre_app] at t
    have e : (pre ++ [v]).length + r.length = pre.length + (v :: r).length := by rw [List.length_append, List.length_singleton, List.length_cons]; omega
    rw [e] at t
    rw [w64 (n := acc + v.f2) (by omega) (by omega), pre_next pre v (r ++ tail) (by omega), cs_cons, ← Int.add_assoc]
    exact t
theorem first_tells (vars : List S82) (n : Int) (h0 : 0 ≤ n) (hn : n ≤ (vars.length : Int)) (hv : ∀ v ∈ vars, 1 ≤ v.f2 ∧ v.f2 ≤ 8) (hl : vars.length ≤ 18) : Tells (fun k => r2_First.f k vars n) (cs (vars.take n.toNat)) := by
  unfold r2_First.f
  have := first_loop (vars.drop n.toNat) (vars.take n.toNat) [] 0 (fun v h => hv v (List.mem_of_mem_take h)) (by rw [List.nil_append, List.take_append_drop]; omega) (by decide) (by have := List.length_take_le n.toNat vars; omega)
  rw [List.nil_append, List.take_append_drop, Int.zero_add, List.length_take, List.length_nil] at this
  have e : ((0 + min n.toNat vars.length : Nat) : Int) = n := by omega
  rw [e] at this
  exact this
theorem first_all (vars : List S82) (hv : ∀ v ∈ vars, 1 ≤ v.f2 ∧ v.f2 ≤ 8) (hl : vars.length ≤ 18) : Tells (fun k => r2_First.f k vars (vars.length : Int)) (cs vars) := by
  have := first_tells vars (vars.length : Int) (by omega) (by omega) hv hl
  rw [Int.toNat_natCast, List.take_length] at this
  exact this
def r1_Words.l0 : Nat → Int → List Int → Int → Option (Bool)
 | 0, _, _, _ => none
 | k + 1, x0, x1, x5 => if x5 < (x1.length : Int) then (if 0 ≤ x5 then ((r1_Word.f k x0 (rd x1 x5)).bind fun t321 => (if t321 = true then (r1_Words.l0 k x0 x1 (wrap64 (x5 + 1))) else (some false))) else (none)) else (some true)
def r1_Words.f (k : Nat) (a0 : Int) (l1 : List Int) : Option (Bool) := r1_Words.l0 k a0 l1 0
set_option maxHeartbeats 8000000 in
set_option maxRecDepth 100000 in
theorem r1_Words.calls (k : Nat) (a0 : Int) (A1 : Option Addr) (c1 : Nat) (l1 : List Int) (r : Bool) (w : World) (hr1 : Kd.C (Kd.int .i64) w A1 l1.length l1) (hc1 : l1.length ≤ c1) (h : r1_Words.f k a0 l1 = some r) :
  Calls Try.prog 52 #[.int .i64 a0, .slice A1 l1.length c1] w fun e w' => e = .returned (.bool r) ∧ Drawn0 w w' := by
 have HR1 := Aside0.mk hr1
 have HC1 := Aside0.mk hc1
 clear hr1 hc1
 have H : (r1_Words.l0 k a0 l1 0) = some r := h
 clear h
 have H' := Aside0.mk H
 clear H
 go_enter Try.func52, Try.ntmps52
 go_wp2
 go_loopg [5] k (fun kq v5 w' => ∃ (x5_1 : Int), v5 = .int .i64 x5_1 ∧ Aside0 (r1_Words.l0 kq a0 l1 x5_1 = some r) ∧ Aside0 (kq ≤ k) ∧ Drawn0 w w')
 case atStart => exact ⟨(0), (by first | rfl | (simp; done) | (simp [*]; done)), H', ⟨Nat.le_refl _⟩, by repeat (first | exact Drawn0.refl _ | apply Drawn0.step)⟩
 case round =>
  clear H'
  try clear c1
  try clear p2
  obtain ⟨x5_1, rfl, HA, HK1, ⟨m1, rfl⟩⟩ := hrel
  cases gk with
  | zero => exact absurd HA.out (by simp [r1_Words.l0])
  | succ k1 =>
   have H := HA.out
   clear HA
   simp only [r1_Words.l0] at H
   by_cases c3 : x5_1 < (l1.length : Int)
   ·rw [if_pos c3] at H
    have c3b0 : decide (x5_1 < (l1.length : Int)) = true := decide_eq_true c3
    clear c3
    by_cases c4 : 0 ≤ x5_1
    ·rw [if_pos c4] at H
     have c4b0 : decide (0 ≤ x5_1) = true := decide_eq_true c4
     clear c4
     replace H := Option.bind_eq_some_iff.mp H
     obtain ⟨t321, A50, H⟩ := H
     replace H : (if t321 = true then (r1_Words.l0 k1 a0 l1 (wrap64 (x5_1 + 1))) else (some false)) = some r := H
     have A5 := Aside0.mk A50
     clear A50
     by_cases c6 : t321 = true
     ·subst c6
      have H1 : (r1_Words.l0 k1 a0 l1 (wrap64 (x5_1 + 1))) = some r := by rw [if_pos rfl] at H; exact H
      clear H
      have H := H1
      clear H1
      have H' := Aside0.mk H
      clear H
      have p320 : 0 ≤ (x5_1 : Int) := of_decide_eq_true (by first | (with_reducible assumption) | assumption)
      have q320 : x5_1 < (l1.length : Int) := of_decide_eq_true (by first | (with_reducible assumption) | assumption)
      obtain ⟨ad320, e320, hx320_0⟩ := Kd.at_int HR1.out x5_1 p320 q320
      cases e320
      replace p320 := eq_true p320
      replace q320 := eq_true q320
      go_wp2_with (first | ((with_reducible refine gate_callee (f := 75) rfl ?_); refine goesL_ (some 17) rfl rfl Try.func75 (by kernel_rfl) rfl #[.int .i64 a0, .int .i64 (rd l1 x5_1)] rfl (by (try simp only [List.map_toArray, List.map_cons, List.map_nil]); first | done | rfl | (simp only [List.length_drop, List.length_take]; rfl)) ?_; (with_reducible refine (r1_Word.calls k1 a0 (rd l1 x5_1) true _ A5.out).mono ?_); rintro e w' ⟨rfl, ⟨nd, rfl⟩⟩; refine ⟨_, rfl, ?_⟩))
      go_roundg k1
      case measure => have := HK1.out; omega
      case rel => exact ⟨(wrap64 (x5_1 + 1)), (by first | rfl | (simp; done) | (simp [*]; done)), H', ⟨by have := HK1.out; omega⟩, by repeat (first | exact Drawn0.refl _ | apply Drawn0.step)⟩
     ·replace c6 := Bool.eq_false_iff.mpr c6
      subst c6
      have H1 : (some false) = some r := by rw [if_neg (show ¬ (false = true) by decide)] at H; exact H
      clear H
      have H := H1
      clear H1
      obtain rfl := Option.some.inj H
      have p320 : 0 ≤ (x5_1 : Int) := of_decide_eq_true (by first | (with_reducible assumption) | assumption)
      have q320 : x5_1 < (l1.length : Int) := of_decide_eq_true (by first | (with_reducible assumption) | assumption)
      obtain ⟨ad320, e320, hx320_0⟩ := Kd.at_int HR1.out x5_1 p320 q320
      cases e320
      replace p320 := eq_true p320
      replace q320 := eq_true q320
      go_wp2_with (first | ((with_reducible refine gate_callee (f := 75) rfl ?_); refine goesL_ (some 17) rfl rfl Try.func75 (by kernel_rfl) rfl #[.int .i64 a0, .int .i64 (rd l1 x5_1)] rfl (by (try simp only [List.map_toArray, List.map_cons, List.map_nil]); first | done | rfl | (simp only [List.length_drop, List.length_take]; rfl)) ?_; (with_reducible refine (r1_Word.calls k1 a0 (rd l1 x5_1) false _ A5.out).mono ?_); rintro e w' ⟨rfl, ⟨nd, rfl⟩⟩; refine ⟨_, rfl, ?_⟩))
      go_ret
      exact ⟨by first | rfl | (simp; done) | (simp [*]; done), by repeat (first | exact Drawn0.refl _ | apply Drawn0.step)⟩
    ·rw [if_neg c4] at H
     exact absurd H (by simp)
   ·rw [if_neg c3] at H
    have c3b0 : decide (x5_1 < (l1.length : Int)) = false := decide_eq_false c3
    clear c3
    obtain rfl := Option.some.inj H
    go_wp2
    go_ret
    exact ⟨by first | rfl | (simp; done) | (simp [*]; done), by repeat (first | exact Drawn0.refl _ | apply Drawn0.step)⟩
def r2_Store.f (k : Nat) (a0 : Int) (l1 : List (S82)) (l2 : List Int) : Option (Bool) := (r2_First.f k l1 (l1.length : Int)).bind fun t322 => (if (l2.length : Int) = t322 then ((r1_Words.f k a0 l2).bind fun t323 => (some t323)) else (some false))
set_option maxHeartbeats 8000000 in
set_option maxRecDepth 100000 in
theorem r2_Store.calls (k : Nat) (a0 : Int) (A1 : Option Addr) (c1 : Nat) (l1 : List (S82)) (A2 : Option Addr) (c2 : Nat) (l2 : List Int) (r : Bool) (w : World) (hr1 : Kd.C k82 w A1 l1.length l1) (hc1 : l1.length ≤ c1) (hr2 : Kd.C (Kd.int .i64) w A2 l2.length l2) (hc2 : l2.length ≤ c2) (h : r2_Store.f k a0 l1 l2 = some r) :
  Calls Try.prog 21 #[.int .i64 a0, .slice A1 l1.length c1, .slice A2 l2.length c2] w fun e w' => e = .returned (.bool r) ∧ Drawn0 w w' := by
 have HR1 := Aside0.mk hr1
 have HC1 := Aside0.mk hc1
 clear hr1 hc1
 have HR2 := Aside0.mk hr2
 have HC2 := Aside0.mk hc2
 clear hr2 hc2
 have H : ((r2_First.f k l1 (l1.length : Int)).bind fun t322 => (if (l2.length : Int) = t322 then ((r1_Words.f k a0 l2).bind fun t323 => (some t323)) else (some false))) = some r := h
 clear h
 replace H := Option.bind_eq_some_iff.mp H
 obtain ⟨t322, A40, H⟩ := H
 replace H : (if (l2.length : Int) = t322 then ((r1_Words.f k a0 l2).bind fun t323 => (some t323)) else (some false)) = some r := H
 have A4 := Aside0.mk A40
 clear A40
 by_cases c5 : (l2.length : Int) = t322
 ·rw [if_pos c5] at H
  have c5b0 : ((l2.length : Int) == t322) = true := beq_iff_eq.mpr c5
  have c5b1 : ((l2.length : Int) != t322) = false := bne_eq_false_iff_eq.mpr c5
  clear c5
  replace H := Option.bind_eq_some_iff.mp H
  obtain ⟨t323, A60, H⟩ := H
  replace H : (some t323) = some r := H
  have A6 := Aside0.mk A60
  clear A60
  obtain rfl := Option.some.inj H
  go_enter Try.func21, Try.ntmps21
  go_wp2_with (first | ((with_reducible refine gate_callee (f := 51) rfl ?_); refine goesL_ (some 12) rfl rfl Try.func51 (by kernel_rfl) rfl #[.slice A1 l1.length c1, .int .i64 (l1.length : Int)] rfl (by (try simp only [List.map_toArray, List.map_cons, List.map_nil]); first | done | rfl | (simp only [List.length_drop, List.length_take]; rfl)) ?_; (with_reducible refine (r2_First.calls k _ _ l1 (l1.length : Int) t322 _ ?side1 ?side2 A4.out).mono ?_); (case side1 => repeat (first | exact HR1.out | with_reducible first | apply Kd.C_alloc | apply Kd.C_drewN | apply Kd.C_drew)); (case side2 => exact HC1.out); rintro e w' ⟨rfl, ⟨nd, rfl⟩⟩; refine ⟨_, rfl, ?_⟩) | (go_at_call 52; (with_reducible refine (r1_Words.calls k a0 _ _ l2 t323 _ ?side1 ?side2 A6.out).mono ?_); (case side1 => repeat (first | exact HR2.out | with_reducible first | apply Kd.C_alloc | apply Kd.C_drewN | apply Kd.C_drew)); (case side2 => exact HC2.out); rintro e w' ⟨rfl, ⟨nd, rfl⟩⟩))
  go_ret
  exact ⟨by first | rfl | (simp; done) | (simp [*]; done), by repeat (first | exact Drawn0.refl _ | apply Drawn0.step)⟩
 ·rw [if_neg c5] at H
  have c5b0 : ((l2.length : Int) == t322) = false := beq_eq_false_iff_ne.mpr c5
  have c5b1 : ((l2.length : Int) != t322) = true := bne_iff_ne.mpr c5
  obtain rfl := Option.some.inj H
  go_enter Try.func21, Try.ntmps21
  go_wp2_with (first | ((with_reducible refine gate_callee (f := 51) rfl ?_); refine goesL_ (some 12) rfl rfl Try.func51 (by kernel_rfl) rfl #[.slice A1 l1.length c1, .int .i64 (l1.length : Int)] rfl (by (try simp only [List.map_toArray, List.map_cons, List.map_nil]); first | done | rfl | (simp only [List.length_drop, List.length_take]; rfl)) ?_; (with_reducible refine (r2_First.calls k _ _ l1 (l1.length : Int) t322 _ ?side1 ?side2 A4.out).mono ?_); (case side1 => repeat (first | exact HR1.out | with_reducible first | apply Kd.C_alloc | apply Kd.C_drewN | apply Kd.C_drew)); (case side2 => exact HC1.out); rintro e w' ⟨rfl, ⟨nd, rfl⟩⟩; refine ⟨_, rfl, ?_⟩))
  go_ret
  exact ⟨by first | rfl | (simp; done) | (simp [*]; done), by repeat (first | exact Drawn0.refl _ | apply Drawn0.step)⟩
def r3_Cells.f (k : Nat) (a0_0 : Int) (l0_1 : List (S82)) (l0_2 : List (S47)) : Option (Int) := (r2_First.f k l0_1 (l0_1.length : Int)).bind fun t307 => (some t307)
set_option maxHeartbeats 8000000 in
set_option maxRecDepth 100000 in
theorem r3_Cells.calls (k : Nat) (a0_0 : Int) (A0_1 : Option Addr) (c0_1 : Nat) (l0_1 : List (S82)) (A0_2 : Option Addr) (c0_2 : Nat) (l0_2 : List (S47)) (r : Int) (w : World) (hr0_1 : Kd.C k82 w A0_1 l0_1.length l0_1) (hc0_1 : l0_1.length ≤ c0_1) (hr0_2 : Kd.C k47 w A0_2 l0_2.length l0_2) (hc0_2 : l0_2.length ≤ c0_2) (h : r3_Cells.f k a0_0 l0_1 l0_2 = some r) :
  Calls Try.prog 49 #[.agg #[.int .i64 a0_0, .slice A0_1 l0_1.length c0_1, .slice A0_2 l0_2.length c0_2]] w fun e w' => e = .returned (.int .i64 r) ∧ Below w.heap.size w w' := by
 have hu25 := Try.underlying25
 have HR0_1 := Aside0.mk hr0_1
 have HC0_1 := Aside0.mk hc0_1
 clear hr0_1 hc0_1
 have HR0_2 := Aside0.mk hr0_2
 have HC0_2 := Aside0.mk hc0_2
 clear hr0_2 hc0_2
 have HB := Aside0.mk (Below.refl w.heap.size w)
 have H : ((r2_First.f k l0_1 (l0_1.length : Int)).bind fun t307 => (some t307)) = some r := h
 clear h
 replace H := Option.bind_eq_some_iff.mp H
 obtain ⟨t307, A20, H⟩ := H
 replace H : (some t307) = some r := H
 have A2 := Aside0.mk A20
 clear A20
 obtain rfl := Option.some.inj H
 go_enter Try.func49, Try.ntmps49
 go_wp2_with (first | ((with_reducible refine gate_dst (N := 1) rfl ?_); refine box_event ?hg (N := 1) ?hd (cs := #[.int .i64 a0_0, .slice A0_1 l0_1.length c0_1, .slice A0_2 l0_2.length c0_2]) (t := 25) ?hr ?_; (case hd => rfl); (case hg => rfl); (case hr => first | (go_simp; done) | (go_simp; rfl)); intro gb306 hg w3 hbox hb; have n0_ := Aside0.mk (bsp (by repeat (first | (with_reducible first | exact HB.out | apply bal | apply bdN | apply bd1) | exact HB.out)) hb); have n1_ := Aside0.mk (hbox); have n2_ := Aside0.mk ((by rw [hg]; exact (bsz (by repeat (first | (with_reducible first | exact HB.out | apply bal | apply bdN | apply bd1) | exact HB.out))) : w.heap.size ≤ gb306)); have n3_ := Aside0.mk ((by rw [hg]; exact (bsz (by repeat (first | (with_reducible first | exact HB.out | apply bal | apply bdN | apply bd1) | exact HB.out))) : w.heap.size ≤ gb306)); clear HB; have HB := n0_; have BK306 := n1_; have GW306 := n2_; have GE306 := n3_; clear n0_ n1_ n2_ n3_; clear hb hbox hg; obtain ⟨hcz4_0, hcz4_1, hcz4_2, hfz4_0, hfz4_1, hfz4_2⟩ := cf3 BK306.out) | ((with_reducible refine gate_callee (f := 51) rfl ?_); refine goesL_ (some 8) rfl rfl Try.func51 (by kernel_rfl) rfl #[.slice A0_1 l0_1.length c0_1, .int .i64 (l0_1.length : Int)] rfl (by (try simp only [List.map_toArray, List.map_cons, List.map_nil]); first | done | rfl | (simp only [List.length_drop, List.length_take]; rfl)) ?_; (with_reducible refine (r2_First.calls k _ _ l0_1 (l0_1.length : Int) t307 _ ?side1 ?side2 A2.out).mono ?_); (case side1 => repeat (first | exact (Kd.C_below HR0_1.out HB.out) | with_reducible first | apply Kd.C_alloc | apply Kd.C_drewN | apply Kd.C_drew)); (case side2 => exact HC0_1.out); rintro e w' ⟨rfl, ⟨nd, rfl⟩⟩; refine ⟨_, rfl, ?_⟩))
 go_ret
 exact ⟨by first | rfl | (simp [*] <;> rfl), by repeat (first | (with_reducible first | exact HB.out | apply bal | apply bdN | apply bd1 | refine bst ?_ GE306.out) | exact HB.out)⟩
def r3_Few.f (k : Nat) (a0_0 : Int) (l0_1 : List (S82)) (l0_2 : List (S47)) : Option (Bool) := (r3_Cells.f k a0_0 l0_1 l0_2).bind fun t309 => (some (decide ((wrap64 (a0_0 * t309)) ≤ 60)))
set_option maxHeartbeats 8000000 in
set_option maxRecDepth 100000 in
theorem r3_Few.calls (k : Nat) (a0_0 : Int) (A0_1 : Option Addr) (c0_1 : Nat) (l0_1 : List (S82)) (A0_2 : Option Addr) (c0_2 : Nat) (l0_2 : List (S47)) (r : Bool) (w : World) (hr0_1 : Kd.C k82 w A0_1 l0_1.length l0_1) (hc0_1 : l0_1.length ≤ c0_1) (hr0_2 : Kd.C k47 w A0_2 l0_2.length l0_2) (hc0_2 : l0_2.length ≤ c0_2) (h : r3_Few.f k a0_0 l0_1 l0_2 = some r) :
  Calls Try.prog 17 #[.agg #[.int .i64 a0_0, .slice A0_1 l0_1.length c0_1, .slice A0_2 l0_2.length c0_2]] w fun e w' => e = .returned (.bool r) ∧ Below w.heap.size w w' := by
 have hu25 := Try.underlying25
 have HR0_1 := Aside0.mk hr0_1
 have HC0_1 := Aside0.mk hc0_1
 clear hr0_1 hc0_1
 have HR0_2 := Aside0.mk hr0_2
 have HC0_2 := Aside0.mk hc0_2
 clear hr0_2 hc0_2
 have HB := Aside0.mk (Below.refl w.heap.size w)
 have H : ((r3_Cells.f k a0_0 l0_1 l0_2).bind fun t309 => (some (decide ((wrap64 (a0_0 * t309)) ≤ 60)))) = some r := h
 clear h
 replace H := Option.bind_eq_some_iff.mp H
 obtain ⟨t309, A20, H⟩ := H
 replace H : (some (decide ((wrap64 (a0_0 * t309)) ≤ 60))) = some r := H
 have A2 := Aside0.mk A20
 clear A20
 obtain rfl := Option.some.inj H
 go_enter Try.func17, Try.ntmps17
 try go_wp2_with (first | ((with_reducible refine gate_dst (N := 1) rfl ?_); refine box_event ?hg (N := 1) ?hd (cs := #[.int .i64 a0_0, .slice A0_1 l0_1.length c0_1, .slice A0_2 l0_2.length c0_2]) (t := 25) ?hr ?_; (case hd => rfl); (case hg => rfl); (case hr => first | (go_simp; done) | (go_simp; rfl)); intro gb308 hg w3 hbox hb; have n0_ := Aside0.mk (bsp (by repeat (first | (with_reducible first | exact HB.out | apply bal | apply bdN | apply bd1) | exact HB.out)) hb); have n1_ := Aside0.mk (hbox); have n2_ := Aside0.mk ((by rw [hg]; exact (bsz (by repeat (first | (with_reducible first | exact HB.out | apply bal | apply bdN | apply bd1) | exact HB.out))) : w.heap.size ≤ gb308)); have n3_ := Aside0.mk ((by rw [hg]; exact (bsz (by repeat (first | (with_reducible first | exact HB.out | apply bal | apply bdN | apply bd1) | exact HB.out))) : w.heap.size ≤ gb308)); clear HB; have HB := n0_; have BK308 := n1_; have GW308 := n2_; have GE308 := n3_; clear n0_ n1_ n2_ n3_; clear hb hbox hg))
 have n0_ := Aside0.mk (kdr BK308.out)
 have n1_ := Aside0.mk (bd1 HB.out)
 clear BK308
 clear HB
 have BK308 := n0_
 have HB := n1_
 clear n0_ n1_
 refine start_ (n := 7) (S := fun w' => w'.cell? ⟨gb308, 0, none⟩ = some (.int .i64 a0_0) ∧ w'.cell? ⟨gb308, 1, none⟩ = some (.slice A0_1 l0_1.length c0_1) ∧ w'.cell? ⟨gb308, 2, none⟩ = some (.slice A0_2 l0_2.length c0_2)) (ds := []) #[false, false, false, false, false, false, false] (by kernel_rfl) rfl rfl ⟨(blk_cell BK308.out 0).trans rfl, (blk_cell BK308.out 1).trans rfl, (blk_cell BK308.out 2).trans rfl⟩ (fun hHeld => ?_)
 generalize w3.drew = w4 at BK308 HB hHeld ⊢
 refine pure_ (i := 0) (N := some 3) (v := ?_) (a' := ?_) #[true, false, false, false, false, false, false] rfl rfl (by kernel_rfl) (fun _ _ _ h => h) (Or.inl ⟨by rfl, ?_⟩) ?_ ?_
 rotate_left
 ·intro w'
  go_simp
  with_reducible rfl
 rotate_left
 ·simp only [Act.put, List.setIfInBounds_toArray, List.set_cons_zero, List.set_cons_succ, i64_w, i32_w]
  rfl
 refine take_ (i := 1) (N := some 4) (v := ?_) (a' := ?_) #[true, true, false, false, false, false, false] rfl rfl (by kernel_rfl) (fun _ _ _ h => h) (Or.inl ⟨by rfl, ?_⟩) hHeld ?_ ?_
 rotate_left
 ·rintro w' ⟨s0, s1, s2⟩
  go_simp
  with_reducible rfl
 rotate_left
 ·simp only [Act.put, List.setIfInBounds_toArray, List.set_cons_zero, List.set_cons_succ, i64_w, i32_w]
  rfl
 refine take_ (i := 2) (N := some 5) (v := ?_) (a' := ?_) #[true, true, true, false, false, false, false] rfl rfl (by kernel_rfl) (fun _ _ _ h => h) (Or.inl ⟨by rfl, ?_⟩) hHeld ?_ ?_
 rotate_left
 ·rintro w' ⟨s0, s1, s2⟩
  go_simp
  with_reducible rfl
 rotate_left
 ·simp only [Act.put, List.setIfInBounds_toArray, List.set_cons_zero, List.set_cons_succ, i64_w, i32_w]
  rfl
 refine one_ (i := 3) (N := some 6) #[true, true, true, true, false, false, false] rfl rfl (by kernel_rfl) (by decide) (fun K hK => ?_)
 refine goes_ Try.func49 (by kernel_rfl) rfl #[.agg #[.int .i64 a0_0, .slice A0_1 l0_1.length c0_1, .slice A0_2 l0_2.length c0_2]] (by rfl) rfl rfl (by (try simp only [List.map_toArray, List.map_cons, List.map_nil]); first | done | rfl | (simp only [List.length_drop, List.length_take]; rfl)) ?_
 with_reducible refine (r3_Cells.calls k a0_0 _ _ l0_1 _ _ l0_2 t309 _ ?side1 ?side2 ?side3 ?side4 A2.out).mono ?_
 (case side1 => repeat (first | exact (Kd.C_below HR0_1.out HB.out) | with_reducible first | apply Kd.C_alloc | apply Kd.C_drewN | apply Kd.C_drew))
 (case side2 => exact HC0_1.out)
 (case side3 => repeat (first | exact (Kd.C_below HR0_2.out HB.out) | with_reducible first | apply Kd.C_alloc | apply Kd.C_drewN | apply Kd.C_drew))
 (case side4 => exact HC0_2.out)
 rintro e w5 ⟨rfl, hb⟩
 refine ⟨_, rfl, ?_⟩
 have n0_ := Aside0.mk (blk_below (g := gb308) (o := .cells #[.int .i64 a0_0, .slice A0_1 l0_1.length c0_1, .slice A0_2 l0_2.length c0_2] 25 (0, 0)) (by (with_reducible repeat (first | refine kdN ?_ _ | refine kdr ?_ | refine kal ?_ _)); exact BK308.out) hb)
 have n1_ := Aside0.mk (bsp (by repeat (first | (with_reducible first | exact HB.out | apply bal | apply bdN | apply bd1 | refine bst ?_ GE308.out) | exact HB.out)) hb)
 clear BK308
 clear HB
 have BK308 := n0_
 have HB := n1_
 clear n0_ n1_
 (try clear hb)
 (try clear hb2)
 (try clear hk)
 (try clear hi)
 refine hK.out _ _ ⟨(blk_cell BK308.out 0).trans rfl, (blk_cell BK308.out 1).trans rfl, (blk_cell BK308.out 2).trans rfl⟩ (fun hHeld => ?_)
 clear hK K
 refine norm_ (a' := ?_) ?_ ?_
 rotate_left
 ·show Act.put _ (some 6) _ = _
  simp only [Act.put, List.setIfInBounds_toArray, List.set_cons_zero, List.set_cons_succ, i64_w, i32_w]
  rfl
 refine pure_ (i := 4) (N := some 7) (v := ?_) (a' := ?_) #[true, true, true, true, true, false, false] rfl rfl (by kernel_rfl) (fun _ _ _ h => h) (Or.inl ⟨by rfl, ?_⟩) ?_ ?_
 rotate_left
 ·intro w'
  go_simp
  with_reducible rfl
 rotate_left
 ·simp only [Act.put, List.setIfInBounds_toArray, List.set_cons_zero, List.set_cons_succ, i64_w, i32_w]
  rfl
 refine pure_ (i := 5) (N := some 8) (v := ?_) (a' := ?_) #[true, true, true, true, true, true, false] rfl rfl (by kernel_rfl) (fun _ _ _ h => h) (Or.inl ⟨by rfl, ?_⟩) ?_ ?_
 rotate_left
 ·intro w'
  go_simp
  with_reducible rfl
 rotate_left
 ·simp only [Act.put, List.setIfInBounds_toArray, List.set_cons_zero, List.set_cons_succ, i64_w, i32_w]
  rfl
 refine pure_ (i := 6) (N := some 2) (v := ?_) (a' := ?_) #[true, true, true, true, true, true, true] rfl rfl (by kernel_rfl) (fun _ _ _ h => h) (Or.inl ⟨by rfl, ?_⟩) ?_ ?_
 rotate_left
 ·intro w'
  go_simp
  with_reducible rfl
 rotate_left
 ·simp only [Act.put, List.setIfInBounds_toArray, List.set_cons_zero, List.set_cons_succ, i64_w, i32_w]
  rfl
 refine done_ (by kernel_rfl) ?_
 try go_wp2
 go_ret
 exact ⟨by first | rfl | (simp [*] <;> rfl), by repeat (first | (with_reducible first | exact HB.out | apply bal | apply bdN | apply bd1 | refine bst ?_ GE308.out) | exact HB.out)⟩
def r3_Space.f (k : Nat) (a0_0 : Int) (l0_1 : List (S82)) (l0_2 : List (S47)) : Option (Int) := (r3_Cells.f k a0_0 l0_1 l0_2).bind fun t311 => ((r1_Pow.f k (wrap64 (a0_0 * t311))).bind fun t312 => (some t312))
set_option maxHeartbeats 8000000 in
set_option maxRecDepth 100000 in
theorem r3_Space.calls (k : Nat) (a0_0 : Int) (A0_1 : Option Addr) (c0_1 : Nat) (l0_1 : List (S82)) (A0_2 : Option Addr) (c0_2 : Nat) (l0_2 : List (S47)) (r : Int) (w : World) (hr0_1 : Kd.C k82 w A0_1 l0_1.length l0_1) (hc0_1 : l0_1.length ≤ c0_1) (hr0_2 : Kd.C k47 w A0_2 l0_2.length l0_2) (hc0_2 : l0_2.length ≤ c0_2) (h : r3_Space.f k a0_0 l0_1 l0_2 = some r) :
  Calls Try.prog 18 #[.agg #[.int .i64 a0_0, .slice A0_1 l0_1.length c0_1, .slice A0_2 l0_2.length c0_2]] w fun e w' => e = .returned (.int .i64 r) ∧ Below w.heap.size w w' := by
 have hu25 := Try.underlying25
 have HR0_1 := Aside0.mk hr0_1
 have HC0_1 := Aside0.mk hc0_1
 clear hr0_1 hc0_1
 have HR0_2 := Aside0.mk hr0_2
 have HC0_2 := Aside0.mk hc0_2
 clear hr0_2 hc0_2
 have HB := Aside0.mk (Below.refl w.heap.size w)
 have H : ((r3_Cells.f k a0_0 l0_1 l0_2).bind fun t311 => ((r1_Pow.f k (wrap64 (a0_0 * t311))).bind fun t312 => (some t312))) = some r := h
 clear h
 replace H := Option.bind_eq_some_iff.mp H
 obtain ⟨t311, A20, H⟩ := H
 replace H : ((r1_Pow.f k (wrap64 (a0_0 * t311))).bind fun t312 => (some t312)) = some r := H
 have A2 := Aside0.mk A20
 clear A20
 replace H := Option.bind_eq_some_iff.mp H
 obtain ⟨t312, A30, H⟩ := H
 replace H : (some t312) = some r := H
 have A3 := Aside0.mk A30
 clear A30
 obtain rfl := Option.some.inj H
 go_enter Try.func18, Try.ntmps18
 try go_wp2_with (first | ((with_reducible refine gate_dst (N := 1) rfl ?_); refine box_event ?hg (N := 1) ?hd (cs := #[.int .i64 a0_0, .slice A0_1 l0_1.length c0_1, .slice A0_2 l0_2.length c0_2]) (t := 25) ?hr ?_; (case hd => rfl); (case hg => rfl); (case hr => first | (go_simp; done) | (go_simp; rfl)); intro gb310 hg w4 hbox hb; have n0_ := Aside0.mk (bsp (by repeat (first | (with_reducible first | exact HB.out | apply bal | apply bdN | apply bd1) | exact HB.out)) hb); have n1_ := Aside0.mk (hbox); have n2_ := Aside0.mk ((by rw [hg]; exact (bsz (by repeat (first | (with_reducible first | exact HB.out | apply bal | apply bdN | apply bd1) | exact HB.out))) : w.heap.size ≤ gb310)); have n3_ := Aside0.mk ((by rw [hg]; exact (bsz (by repeat (first | (with_reducible first | exact HB.out | apply bal | apply bdN | apply bd1) | exact HB.out))) : w.heap.size ≤ gb310)); clear HB; have HB := n0_; have BK310 := n1_; have GW310 := n2_; have GE310 := n3_; clear n0_ n1_ n2_ n3_; clear hb hbox hg))
 have n0_ := Aside0.mk (kdr BK310.out)
 have n1_ := Aside0.mk (bd1 HB.out)
 clear BK310
 clear HB
 have BK310 := n0_
 have HB := n1_
 clear n0_ n1_
 refine start_ (n := 7) (S := fun w' => w'.cell? ⟨gb310, 0, none⟩ = some (.int .i64 a0_0) ∧ w'.cell? ⟨gb310, 1, none⟩ = some (.slice A0_1 l0_1.length c0_1) ∧ w'.cell? ⟨gb310, 2, none⟩ = some (.slice A0_2 l0_2.length c0_2)) (ds := []) #[false, false, false, false, false, false, false] (by kernel_rfl) rfl rfl ⟨(blk_cell BK310.out 0).trans rfl, (blk_cell BK310.out 1).trans rfl, (blk_cell BK310.out 2).trans rfl⟩ (fun hHeld => ?_)
 generalize w4.drew = w5 at BK310 HB hHeld ⊢
 refine pure_ (i := 0) (N := some 3) (v := ?_) (a' := ?_) #[true, false, false, false, false, false, false] rfl rfl (by kernel_rfl) (fun _ _ _ h => h) (Or.inl ⟨by rfl, ?_⟩) ?_ ?_
 rotate_left
 ·intro w'
  go_simp
  with_reducible rfl
 rotate_left
 ·simp only [Act.put, List.setIfInBounds_toArray, List.set_cons_zero, List.set_cons_succ, i64_w, i32_w]
  rfl
 refine take_ (i := 1) (N := some 4) (v := ?_) (a' := ?_) #[true, true, false, false, false, false, false] rfl rfl (by kernel_rfl) (fun _ _ _ h => h) (Or.inl ⟨by rfl, ?_⟩) hHeld ?_ ?_
 rotate_left
 ·rintro w' ⟨s0, s1, s2⟩
  go_simp
  with_reducible rfl
 rotate_left
 ·simp only [Act.put, List.setIfInBounds_toArray, List.set_cons_zero, List.set_cons_succ, i64_w, i32_w]
  rfl
 refine take_ (i := 2) (N := some 5) (v := ?_) (a' := ?_) #[true, true, true, false, false, false, false] rfl rfl (by kernel_rfl) (fun _ _ _ h => h) (Or.inl ⟨by rfl, ?_⟩) hHeld ?_ ?_
 rotate_left
 ·rintro w' ⟨s0, s1, s2⟩
  go_simp
  with_reducible rfl
 rotate_left
 ·simp only [Act.put, List.setIfInBounds_toArray, List.set_cons_zero, List.set_cons_succ, i64_w, i32_w]
  rfl
 refine one_ (i := 3) (N := some 6) #[true, true, true, true, false, false, false] rfl rfl (by kernel_rfl) (by decide) (fun K hK => ?_)
 refine goes_ Try.func49 (by kernel_rfl) rfl #[.agg #[.int .i64 a0_0, .slice A0_1 l0_1.length c0_1, .slice A0_2 l0_2.length c0_2]] (by rfl) rfl rfl (by (try simp only [List.map_toArray, List.map_cons, List.map_nil]); first | done | rfl | (simp only [List.length_drop, List.length_take]; rfl)) ?_
 with_reducible refine (r3_Cells.calls k a0_0 _ _ l0_1 _ _ l0_2 t311 _ ?side1 ?side2 ?side3 ?side4 A2.out).mono ?_
 (case side1 => repeat (first | exact (Kd.C_below HR0_1.out HB.out) | with_reducible first | apply Kd.C_alloc | apply Kd.C_drewN | apply Kd.C_drew))
 (case side2 => exact HC0_1.out)
 (case side3 => repeat (first | exact (Kd.C_below HR0_2.out HB.out) | with_reducible first | apply Kd.C_alloc | apply Kd.C_drewN | apply Kd.C_drew))
 (case side4 => exact HC0_2.out)
 rintro e w6 ⟨rfl, hb⟩
 refine ⟨_, rfl, ?_⟩
 have n0_ := Aside0.mk (blk_below (g := gb310) (o := .cells #[.int .i64 a0_0, .slice A0_1 l0_1.length c0_1, .slice A0_2 l0_2.length c0_2] 25 (0, 0)) (by (with_reducible repeat (first | refine kdN ?_ _ | refine kdr ?_ | refine kal ?_ _)); exact BK310.out) hb)
 have n1_ := Aside0.mk (bsp (by repeat (first | (with_reducible first | exact HB.out | apply bal | apply bdN | apply bd1 | refine bst ?_ GE310.out) | exact HB.out)) hb)
 clear BK310
 clear HB
 have BK310 := n0_
 have HB := n1_
 clear n0_ n1_
 (try clear hb)
 (try clear hb2)
 (try clear hk)
 (try clear hi)
 refine hK.out _ _ ⟨(blk_cell BK310.out 0).trans rfl, (blk_cell BK310.out 1).trans rfl, (blk_cell BK310.out 2).trans rfl⟩ (fun hHeld => ?_)
 clear hK K
 refine norm_ (a' := ?_) ?_ ?_
 rotate_left
 ·show Act.put _ (some 6) _ = _
  simp only [Act.put, List.setIfInBounds_toArray, List.set_cons_zero, List.set_cons_succ, i64_w, i32_w]
  rfl
 refine pure_ (i := 4) (N := some 7) (v := ?_) (a' := ?_) #[true, true, true, true, true, false, false] rfl rfl (by kernel_rfl) (fun _ _ _ h => h) (Or.inl ⟨by rfl, ?_⟩) ?_ ?_
 rotate_left
 ·intro w'
  go_simp
  with_reducible rfl
 rotate_left
 ·simp only [Act.put, List.setIfInBounds_toArray, List.set_cons_zero, List.set_cons_succ, i64_w, i32_w]
  rfl
 refine one_ (i := 5) (N := some 8) #[true, true, true, true, true, true, false] rfl rfl (by kernel_rfl) (by decide) (fun K hK => ?_)
 refine goes_ Try.func50 (by kernel_rfl) rfl #[.int .i64 (wrap64 (a0_0 * t311))] (by rfl) rfl rfl (by (try simp only [List.map_toArray, List.map_cons, List.map_nil]); first | done | rfl | (simp only [List.length_drop, List.length_take]; rfl)) ?_
 with_reducible refine (r1_Pow.calls k (wrap64 (a0_0 * t311)) t312 _ A3.out).mono ?_
 rintro e w' ⟨rfl, ⟨nd, rfl⟩⟩
 refine ⟨_, rfl, ?_⟩
 refine hK.out _ _ ⟨(blk_cell BK310.out 0).trans rfl, (blk_cell BK310.out 1).trans rfl, (blk_cell BK310.out 2).trans rfl⟩ (fun hHeld => ?_)
 clear hK K
 refine norm_ (a' := ?_) ?_ ?_
 rotate_left
 ·show Act.put _ (some 8) _ = _
  simp only [Act.put, List.setIfInBounds_toArray, List.set_cons_zero, List.set_cons_succ, i64_w, i32_w]
  rfl
 refine pure_ (i := 6) (N := some 2) (v := ?_) (a' := ?_) #[true, true, true, true, true, true, true] rfl rfl (by kernel_rfl) (fun _ _ _ h => h) (Or.inl ⟨by rfl, ?_⟩) ?_ ?_
 rotate_left
 ·intro w'
  go_simp
  with_reducible rfl
 rotate_left
 ·simp only [Act.put, List.setIfInBounds_toArray, List.set_cons_zero, List.set_cons_succ, i64_w, i32_w]
  rfl
 refine done_ (by kernel_rfl) ?_
 try go_wp2
 go_ret
 exact ⟨by first | rfl | (simp [*] <;> rfl), by repeat (first | (with_reducible first | exact HB.out | apply bal | apply bdN | apply bd1 | refine bst ?_ GE310.out) | exact HB.out)⟩
def r3_Store.l0 : Nat → Int → List Int → Int → Int → List (S82) → List (S47) → Option (List Int)
 | 0, _, _, _, _, _, _ => none
 | k + 1, x1, x5, x6, x314000, x314001, x314002 => (r3_Cells.f k x314000 x314001 x314002).bind fun t314 => (if x6 < t314 then ((r1_Pow.f k x314000).bind fun t315 => (if t315 = 0 then (none) else (if x5.length < 17592186044416 then ((r1_Pow.f k x314000).bind fun t319 => (if t319 = 0 then (none) else (r3_Store.l0 k (wrap64 (Int.tdiv x1 t319)) (x5 ++ [Int.tmod x1 t315]) (wrap64 (x6 + 1)) x314000 x314001 x314002))) else (none)))) else (some x5))
def r3_Store.f (k : Nat) (a0_0 : Int) (l0_1 : List (S82)) (l0_2 : List (S47)) (a1 : Int) : Option (List Int) := r3_Store.l0 k a1 ([] : List Int) 0 a0_0 l0_1 l0_2
set_option maxHeartbeats 8000000 in
set_option maxRecDepth 100000 in
theorem r3_Store.calls (k : Nat) (a0_0 : Int) (A0_1 : Option Addr) (c0_1 : Nat) (l0_1 : List (S82)) (A0_2 : Option Addr) (c0_2 : Nat) (l0_2 : List (S47)) (a1 : Int) (r : List Int) (w : World) (hr0_1 : Kd.C k82 w A0_1 l0_1.length l0_1) (hc0_1 : l0_1.length ≤ c0_1) (hr0_2 : Kd.C k47 w A0_2 l0_2.length l0_2) (hc0_2 : l0_2.length ≤ c0_2) (h : r3_Store.f k a0_0 l0_1 l0_2 a1 = some r) :
  Calls Try.prog 20 #[.agg #[.int .i64 a0_0, .slice A0_1 l0_1.length c0_1, .slice A0_2 l0_2.length c0_2], .int .i64 a1] w fun e w' => ∃ v0_ : Value, e = .returned (v0_) ∧ Kd.R (Kd.int .i64) 3 w' w.heap.size (fun _ => True) v0_ r ∧ Below w.heap.size w w' := by
 have hu25 := Try.underlying25
 have HR0_1 := Aside0.mk hr0_1
 have HC0_1 := Aside0.mk hc0_1
 clear hr0_1 hc0_1
 have HR0_2 := Aside0.mk hr0_2
 have HC0_2 := Aside0.mk hc0_2
 clear hr0_2 hc0_2
 have HB := Aside0.mk (Below.refl w.heap.size w)
 have H : (r3_Store.l0 k a1 ([] : List Int) 0 a0_0 l0_1 l0_2) = some r := h
 clear h
 have H' := Aside0.mk H
 clear H
 go_enter Try.func20, Try.ntmps20
 go_wp2_with (first | ((with_reducible refine gate_dst (N := 2) rfl ?_); refine box_event ?hg (N := 2) ?hd (cs := #[.int .i64 a0_0, .slice A0_1 l0_1.length c0_1, .slice A0_2 l0_2.length c0_2]) (t := 25) ?hr ?_; (case hd => rfl); (case hg => rfl); (case hr => first | (go_simp; done) | (go_simp; rfl)); intro gb313 hg w3 hbox hb; have n0_ := Aside0.mk (bsp (by repeat (first | (with_reducible first | exact HB.out | apply bal | apply bdN | apply bd1) | exact HB.out)) hb); have n1_ := Aside0.mk (hbox); have n2_ := Aside0.mk ((by rw [hg]; exact (bsz (by repeat (first | (with_reducible first | exact HB.out | apply bal | apply bdN | apply bd1) | exact HB.out))) : w.heap.size ≤ gb313)); have n3_ := Aside0.mk ((by rw [hg]; exact (bsz (by repeat (first | (with_reducible first | exact HB.out | apply bal | apply bdN | apply bd1) | exact HB.out))) : w.heap.size ≤ gb313)); clear HB; have HB := n0_; have BK313 := n1_; have GW313 := n2_; have GE313 := n3_; clear n0_ n1_ n2_ n3_; clear hb hbox hg))
 go_loopg [1, 5, 6] k (fun kq v1 v5 v6 w' => ∃ (x1_1 : Int) (x5_1 : List Int) (x6_1 : Int), v1 = .int .i64 x1_1 ∧ v6 = .int .i64 x6_1 ∧ Aside0 (r3_Store.l0 kq x1_1 x5_1 x6_1 a0_0 l0_1 l0_2 = some r) ∧ Aside0 (kq ≤ k) ∧ Aside0 (Kd.R (Kd.int .i64) 3 w' w.heap.size (fun _ => True) v5 x5_1) ∧ Aside0 (w'.heap[gb313]? = some (.cells #[.int .i64 a0_0, (.slice A0_1 l0_1.length c0_1), (.slice A0_2 l0_2.length c0_2)] 25 (0, 0))) ∧ Aside0 (Below w.heap.size w w'))
 case atStart => exact ⟨(a1), (([] : List Int)), (0), (by first | rfl | (simp; done) | (simp [*]; done)), (by first | rfl | (simp; done) | (simp [*]; done)), H', ⟨Nat.le_refl _⟩, ⟨by first | exact Kd.R_nil _ _ _ _ _ | exact Kd.N_nil _ _ _ _ _ | exact Kd.V_nil _ _ _ _ _ | exact Kd.Q_nil _ _ _ _ _ | exact Kd.S_nil _ _ _ _ _⟩, ⟨by (with_reducible repeat (first | refine kdN ?_ _ | refine kdr ?_ | refine kal ?_ _)); exact BK313.out⟩, ⟨by repeat (first | (with_reducible first | exact HB.out | apply bal | apply bdN | apply bd1 | refine bst ?_ GE313.out) | exact HB.out)⟩⟩
 case round =>
  clear H'
  try clear c2
  try clear p2
  obtain ⟨x1_1, x5_1, x6_1, rfl, rfl, HA, HK1, HO_5, BK313, HB⟩ := hrel
  cases gk with
  | zero => exact absurd HA.out (by simp [r3_Store.l0])
  | succ k1 =>
   have H := HA.out
   clear HA
   simp only [r3_Store.l0] at H
   replace H := Option.bind_eq_some_iff.mp H
   obtain ⟨t314, A40, H⟩ := H
   replace H : (if x6_1 < t314 then ((r1_Pow.f k1 a0_0).bind fun t315 => (if t315 = 0 then (none) else (if x5_1.length < 17592186044416 then ((r1_Pow.f k1 a0_0).bind fun t319 => (if t319 = 0 then (none) else (r3_Store.l0 k1 (wrap64 (Int.tdiv x1_1 t319)) (x5_1 ++ [Int.tmod x1_1 t315]) (wrap64 (x6_1 + 1)) a0_0 l0_1 l0_2))) else (none)))) else (some x5_1)) = some r := H
   have A4 := Aside0.mk A40
   clear A40
   by_cases c5 : x6_1 < t314
   ·rw [if_pos c5] at H
    have c5b0 : decide (x6_1 < t314) = true := decide_eq_true c5
    clear c5
    replace H := Option.bind_eq_some_iff.mp H
    obtain ⟨t315, A60, H⟩ := H
    replace H : (if t315 = 0 then (none) else (if x5_1.length < 17592186044416 then ((r1_Pow.f k1 a0_0).bind fun t319 => (if t319 = 0 then (none) else (r3_Store.l0 k1 (wrap64 (Int.tdiv x1_1 t319)) (x5_1 ++ [Int.tmod x1_1 t315]) (wrap64 (x6_1 + 1)) a0_0 l0_1 l0_2))) else (none))) = some r := H
    have A6 := Aside0.mk A60
    clear A60
    by_cases c7 : t315 = 0
    ·rw [if_pos c7] at H
     exact absurd H (by simp)
    ·rw [if_neg c7] at H
     have c7b0 : (t315 == 0) = false := beq_eq_false_iff_ne.mpr c7
     have c7b1 : (t315 != 0) = true := bne_iff_ne.mpr c7
     by_cases c8 : x5_1.length < 17592186044416
     ·rw [if_pos c8] at H
      have LMc8 := Aside0.mk c8
      clear c8
      obtain ⟨y316, hy316⟩ : ∃ y_ : List Int, y_ = (x5_1 ++ [Int.tmod x1_1 t315]) := ⟨_, rfl⟩
      replace H : ((r1_Pow.f k1 a0_0).bind fun t319 => (if t319 = 0 then (none) else (r3_Store.l0 k1 (wrap64 (Int.tdiv x1_1 t319)) y316 (wrap64 (x6_1 + 1)) a0_0 l0_1 l0_2))) = some r := by first | (rw [hy316]; with_reducible exact H) | (have H2_ := (Option.bind_some _ _).symm.trans H; rw [hy316]; with_reducible exact H2_) | (have H2_ := (Option.bind_some _ _).symm.trans H; with_reducible exact H2_) | with_reducible exact H | (rw [hy316]; exact H) | exact H
      have Ny316 := Aside0.mk hy316
      clear hy316
      replace H := Option.bind_eq_some_iff.mp H
      obtain ⟨t319, A90, H⟩ := H
      replace H : (if t319 = 0 then (none) else (r3_Store.l0 k1 (wrap64 (Int.tdiv x1_1 t319)) y316 (wrap64 (x6_1 + 1)) a0_0 l0_1 l0_2)) = some r := H
      have A9 := Aside0.mk A90
      clear A90
      by_cases c10 : t319 = 0
      ·rw [if_pos c10] at H
       exact absurd H (by simp)
      ·rw [if_neg c10] at H
       have c10b0 : (t319 == 0) = false := beq_eq_false_iff_ne.mpr c10
       have c10b1 : (t319 != 0) = true := bne_iff_ne.mpr c10
       have H' := Aside0.mk H
       clear H
       obtain ⟨hcz11_0, hcz11_1, hcz11_2, hfz11_0, hfz11_1, hfz11_2⟩ := cf3 BK313.out
       go_wp2_with (first | ((with_reducible refine gate_callee (f := 49) rfl ?_); refine goesL_ (some 9) rfl rfl Try.func49 (by kernel_rfl) rfl #[.agg #[.int .i64 a0_0, .slice A0_1 l0_1.length c0_1, .slice A0_2 l0_2.length c0_2]] rfl (by (try simp only [List.map_toArray, List.map_cons, List.map_nil]); first | done | rfl | (simp only [List.length_drop, List.length_take]; rfl)) ?_; (with_reducible refine (r3_Cells.calls k1 a0_0 _ _ l0_1 _ _ l0_2 t314 _ ?side1 ?side2 ?side3 ?side4 A4.out).mono ?_); (case side1 => repeat (first | exact (Kd.C_below HR0_1.out HB.out) | with_reducible first | apply Kd.C_alloc | apply Kd.C_drewN | apply Kd.C_drew)); (case side2 => exact HC0_1.out); (case side3 => repeat (first | exact (Kd.C_below HR0_2.out HB.out) | with_reducible first | apply Kd.C_alloc | apply Kd.C_drewN | apply Kd.C_drew)); (case side4 => exact HC0_2.out); rintro e w12 ⟨rfl, hb⟩; refine ⟨_, rfl, ?_⟩; have n0_ := Aside0.mk (Kd.R_below (by (with_reducible repeat (first | apply Kd.R_alloc | apply Kd.R_drewN | apply Kd.R_drew)); exact HO_5.out) hb); have n1_ := Aside0.mk (blk_below (g := gb313) (o := .cells #[.int .i64 a0_0, .slice A0_1 l0_1.length c0_1, .slice A0_2 l0_2.length c0_2] 25 (0, 0)) (by (with_reducible repeat (first | refine kdN ?_ _ | refine kdr ?_ | refine kal ?_ _)); exact BK313.out) hb); have n2_ := Aside0.mk (bsp (by repeat (first | (with_reducible first | exact HB.out | apply bal | apply bdN | apply bd1 | refine bst ?_ GE313.out) | exact HB.out)) hb); clear HO_5; clear BK313; clear HB; have HO_5 := n0_; have BK313 := n1_; have HB := n2_; clear n0_ n1_ n2_; (try clear hb); (try clear hb2); (try clear hk); (try clear hi); obtain ⟨hcz13_0, hcz13_1, hcz13_2, hfz13_0, hfz13_1, hfz13_2⟩ := cf3 BK313.out) | ((with_reducible refine gate_callee (f := 50) rfl ?_); refine goesL_ (some 17) rfl rfl Try.func50 (by kernel_rfl) rfl #[.int .i64 a0_0] rfl (by (try simp only [List.map_toArray, List.map_cons, List.map_nil]); first | done | rfl | (simp only [List.length_drop, List.length_take]; rfl)) ?_; (with_reducible refine (r1_Pow.calls k1 a0_0 t315 _ A6.out).mono ?_); rintro e w' ⟨rfl, ⟨nd, rfl⟩⟩; refine ⟨_, rfl, ?_⟩) | ((with_reducible refine gate_builtin (b := .append) (xs := #[.tmp 13, .tmp 19]) rfl ?_); at_builtin; refine Kd.R_append (Kd.int .i64) (w0 := w) w.heap.size rfl (.tmp 13) (.tmp 19) 26 3 (.int .i64 0) 8 rfl Try.underlying26 info3 rfl (by decide) (by omega) u5 x5_1 (Int.tmod x1_1 t315) [.int .i64 (Int.tmod x1_1 t315)] (fun _ => True) (fun _ => False) rfl rfl ?aP (fun _ hk => hk.elim) ?aF ?aO ?aB ?aS ?aL ?_; (case aP => exact rfl); (case aB => exact (by repeat (first | (with_reducible first | exact HB.out | apply bal | apply bdN | apply bd1 | refine bst ?_ GE313.out) | exact HB.out))); (case aF => exact (fun _ _ => trivial)); (case aO => exact (by (with_reducible repeat (first | apply Kd.R_alloc | apply Kd.R_drewN | apply Kd.R_drew)); exact HO_5.out)); (case aS => exact (bsz (by repeat (first | (with_reducible first | exact HB.out | apply bal | apply bdN | apply bd1 | refine bst ?_ GE313.out) | exact HB.out)))); (case aL => have := LMc8.out; omega); intro v317 w14 ho hb hg hat; rw [← Ny316.out] at ho; have n0_ := Aside0.mk (blk_grown (g := gb313) (o := .cells #[.int .i64 a0_0, .slice A0_1 l0_1.length c0_1, .slice A0_2 l0_2.length c0_2] 25 (0, 0)) (by (with_reducible repeat (first | refine kdN ?_ _ | refine kdr ?_ | refine kal ?_ _)); exact BK313.out) hg (Kd.R_ne HO_5.out BK313.out (by decide))); have n1_ := Aside0.mk (hb); have n2_ := Aside0.mk (ho); clear BK313; clear HB; clear HO_5; have BK313 := n0_; have HB := n1_; have HO318 := n2_; clear n0_ n1_ n2_; clear ho hb hg hat; obtain ⟨hcz15_0, hcz15_1, hcz15_2, hfz15_0, hfz15_1, hfz15_2⟩ := cf3 BK313.out) | ((with_reducible refine gate_callee (f := 50) rfl ?_); refine goesL_ (some 24) rfl rfl Try.func50 (by kernel_rfl) rfl #[.int .i64 a0_0] rfl (by (try simp only [List.map_toArray, List.map_cons, List.map_nil]); first | done | rfl | (simp only [List.length_drop, List.length_take]; rfl)) ?_; (with_reducible refine (r1_Pow.calls k1 a0_0 t319 _ A9.out).mono ?_); rintro e w' ⟨rfl, ⟨nd, rfl⟩⟩; refine ⟨_, rfl, ?_⟩))
       go_roundg k1
       case measure => have := HK1.out; omega
       case rel => exact ⟨(wrap64 (Int.tdiv x1_1 t319)), (y316), (wrap64 (x6_1 + 1)), (by first | rfl | (simp; done) | (simp [*]; done)), (by first | rfl | (simp; done) | (simp [*]; done)), H', ⟨by have := HK1.out; omega⟩, ⟨by (with_reducible repeat (first | apply Kd.R_alloc | apply Kd.R_drewN | apply Kd.R_drew)); exact HO318.out⟩, ⟨by (with_reducible repeat (first | refine kdN ?_ _ | refine kdr ?_ | refine kal ?_ _)); exact BK313.out⟩, ⟨by repeat (first | (with_reducible first | exact HB.out | apply bal | apply bdN | apply bd1 | refine bst ?_ GE313.out) | exact HB.out)⟩⟩
     ·rw [if_neg c8] at H
      exact absurd H (by simp)
   ·rw [if_neg c5] at H
    have c5b0 : decide (x6_1 < t314) = false := decide_eq_false c5
    clear c5
    obtain rfl := Option.some.inj H
    obtain ⟨hcz16_0, hcz16_1, hcz16_2, hfz16_0, hfz16_1, hfz16_2⟩ := cf3 BK313.out
    go_wp2_with (first | ((with_reducible refine gate_callee (f := 49) rfl ?_); refine goesL_ (some 9) rfl rfl Try.func49 (by kernel_rfl) rfl #[.agg #[.int .i64 a0_0, .slice A0_1 l0_1.length c0_1, .slice A0_2 l0_2.length c0_2]] rfl (by (try simp only [List.map_toArray, List.map_cons, List.map_nil]); first | done | rfl | (simp only [List.length_drop, List.length_take]; rfl)) ?_; (with_reducible refine (r3_Cells.calls k1 a0_0 _ _ l0_1 _ _ l0_2 t314 _ ?side1 ?side2 ?side3 ?side4 A4.out).mono ?_); (case side1 => repeat (first | exact (Kd.C_below HR0_1.out HB.out) | with_reducible first | apply Kd.C_alloc | apply Kd.C_drewN | apply Kd.C_drew)); (case side2 => exact HC0_1.out); (case side3 => repeat (first | exact (Kd.C_below HR0_2.out HB.out) | with_reducible first | apply Kd.C_alloc | apply Kd.C_drewN | apply Kd.C_drew)); (case side4 => exact HC0_2.out); rintro e w17 ⟨rfl, hb⟩; refine ⟨_, rfl, ?_⟩; have n0_ := Aside0.mk (Kd.R_below (by (with_reducible repeat (first | apply Kd.R_alloc | apply Kd.R_drewN | apply Kd.R_drew)); exact HO_5.out) hb); have n1_ := Aside0.mk (blk_below (g := gb313) (o := .cells #[.int .i64 a0_0, .slice A0_1 l0_1.length c0_1, .slice A0_2 l0_2.length c0_2] 25 (0, 0)) (by (with_reducible repeat (first | refine kdN ?_ _ | refine kdr ?_ | refine kal ?_ _)); exact BK313.out) hb); have n2_ := Aside0.mk (bsp (by repeat (first | (with_reducible first | exact HB.out | apply bal | apply bdN | apply bd1 | refine bst ?_ GE313.out) | exact HB.out)) hb); clear HO_5; clear BK313; clear HB; have HO_5 := n0_; have BK313 := n1_; have HB := n2_; clear n0_ n1_ n2_; (try clear hb); (try clear hb2); (try clear hk); (try clear hi)))
    go_ret
    exact ⟨_, by first | rfl | (simp [*] <;> rfl), by (with_reducible repeat (first | apply Kd.R_alloc | apply Kd.R_drewN | apply Kd.R_drew)); exact HO_5.out, by repeat (first | (with_reducible first | exact HB.out | apply bal | apply bdN | apply bd1 | refine bst ?_ GE313.out) | exact HB.out)⟩
def r3_Index.l0 : Nat → List Int → Int → Int → Int → List (S82) → List (S47) → Option (Int)
 | 0, _, _, _, _, _, _ => none
 | k + 1, x1, x5, x6, x325000, x325001, x325002 => if x6 ≥ 0 then ((r1_Pow.f k x325000).bind fun t325 => (if 0 ≤ x6 then (if x6 < (x1.length : Int) then (r3_Index.l0 k x1 (wrap64 ((wrap64 (x5 * t325)) + (rd x1 x6))) (wrap64 (x6 - 1)) x325000 x325001 x325002) else (none)) else (none))) else (some x5)
def r3_Index.f (k : Nat) (a0_0 : Int) (l0_1 : List (S82)) (l0_2 : List (S47)) (l1 : List Int) : Option (Int) := r3_Index.l0 k l1 0 (wrap64 ((l1.length : Int) - 1)) a0_0 l0_1 l0_2
set_option maxHeartbeats 8000000 in
set_option maxRecDepth 100000 in
theorem r3_Index.calls (k : Nat) (a0_0 : Int) (A0_1 : Option Addr) (c0_1 : Nat) (l0_1 : List (S82)) (A0_2 : Option Addr) (c0_2 : Nat) (l0_2 : List (S47)) (A1 : Option Addr) (c1 : Nat) (l1 : List Int) (r : Int) (w : World) (hr0_1 : Kd.C k82 w A0_1 l0_1.length l0_1) (hc0_1 : l0_1.length ≤ c0_1) (hr0_2 : Kd.C k47 w A0_2 l0_2.length l0_2) (hc0_2 : l0_2.length ≤ c0_2) (hr1 : Kd.C (Kd.int .i64) w A1 l1.length l1) (hc1 : l1.length ≤ c1) (h : r3_Index.f k a0_0 l0_1 l0_2 l1 = some r) :
  Calls Try.prog 22 #[.agg #[.int .i64 a0_0, .slice A0_1 l0_1.length c0_1, .slice A0_2 l0_2.length c0_2], .slice A1 l1.length c1] w fun e w' => e = .returned (.int .i64 r) ∧ Below w.heap.size w w' := by
 have hu25 := Try.underlying25
 have HR0_1 := Aside0.mk hr0_1
 have HC0_1 := Aside0.mk hc0_1
 clear hr0_1 hc0_1
 have HR0_2 := Aside0.mk hr0_2
 have HC0_2 := Aside0.mk hc0_2
 clear hr0_2 hc0_2
 have HR1 := Aside0.mk hr1
 have HC1 := Aside0.mk hc1
 clear hr1 hc1
 have HB := Aside0.mk (Below.refl w.heap.size w)
 have H : (r3_Index.l0 k l1 0 (wrap64 ((l1.length : Int) - 1)) a0_0 l0_1 l0_2) = some r := h
 clear h
 have H' := Aside0.mk H
 clear H
 go_enter Try.func22, Try.ntmps22
 go_wp2_with (first | ((with_reducible refine gate_dst (N := 2) rfl ?_); refine box_event ?hg (N := 2) ?hd (cs := #[.int .i64 a0_0, .slice A0_1 l0_1.length c0_1, .slice A0_2 l0_2.length c0_2]) (t := 25) ?hr ?_; (case hd => rfl); (case hg => rfl); (case hr => first | (go_simp; done) | (go_simp; rfl)); intro gb324 hg w3 hbox hb; have n0_ := Aside0.mk (bsp (by repeat (first | (with_reducible first | exact HB.out | apply bal | apply bdN | apply bd1) | exact HB.out)) hb); have n1_ := Aside0.mk (hbox); have n2_ := Aside0.mk ((by rw [hg]; exact (bsz (by repeat (first | (with_reducible first | exact HB.out | apply bal | apply bdN | apply bd1) | exact HB.out))) : w.heap.size ≤ gb324)); have n3_ := Aside0.mk ((by rw [hg]; exact (bsz (by repeat (first | (with_reducible first | exact HB.out | apply bal | apply bdN | apply bd1) | exact HB.out))) : w.heap.size ≤ gb324)); clear HB; have HB := n0_; have BK324 := n1_; have GW324 := n2_; have GE324 := n3_; clear n0_ n1_ n2_ n3_; clear hb hbox hg))
 repeat (go_quiet (first | ((with_reducible refine gate_dst (N := 2) rfl ?_); refine box_event ?hg (N := 2) ?hd (cs := #[.int .i64 a0_0, .slice A0_1 l0_1.length c0_1, .slice A0_2 l0_2.length c0_2]) (t := 25) ?hr ?_; (case hd => rfl); (case hg => rfl); (case hr => first | (go_simp; done) | (go_simp; rfl)); intro gb324 hg w3 hbox hb; have n0_ := Aside0.mk (bsp (by repeat (first | (with_reducible first | exact HB.out | apply bal | apply bdN | apply bd1) | exact HB.out)) hb); have n1_ := Aside0.mk (hbox); have n2_ := Aside0.mk ((by rw [hg]; exact (bsz (by repeat (first | (with_reducible first | exact HB.out | apply bal | apply bdN | apply bd1) | exact HB.out))) : w.heap.size ≤ gb324)); have n3_ := Aside0.mk ((by rw [hg]; exact (bsz (by repeat (first | (with_reducible first | exact HB.out | apply bal | apply bdN | apply bd1) | exact HB.out))) : w.heap.size ≤ gb324)); clear HB; have HB := n0_; have BK324 := n1_; have GW324 := n2_; have GE324 := n3_; clear n0_ n1_ n2_ n3_; clear hb hbox hg)); try go_wp2_with (first | ((with_reducible refine gate_dst (N := 2) rfl ?_); refine box_event ?hg (N := 2) ?hd (cs := #[.int .i64 a0_0, .slice A0_1 l0_1.length c0_1, .slice A0_2 l0_2.length c0_2]) (t := 25) ?hr ?_; (case hd => rfl); (case hg => rfl); (case hr => first | (go_simp; done) | (go_simp; rfl)); intro gb324 hg w3 hbox hb; have n0_ := Aside0.mk (bsp (by repeat (first | (with_reducible first | exact HB.out | apply bal | apply bdN | apply bd1) | exact HB.out)) hb); have n1_ := Aside0.mk (hbox); have n2_ := Aside0.mk ((by rw [hg]; exact (bsz (by repeat (first | (with_reducible first | exact HB.out | apply bal | apply bdN | apply bd1) | exact HB.out))) : w.heap.size ≤ gb324)); have n3_ := Aside0.mk ((by rw [hg]; exact (bsz (by repeat (first | (with_reducible first | exact HB.out | apply bal | apply bdN | apply bd1) | exact HB.out))) : w.heap.size ≤ gb324)); clear HB; have HB := n0_; have BK324 := n1_; have GW324 := n2_; have GE324 := n3_; clear n0_ n1_ n2_ n3_; clear hb hbox hg)))
 go_loopg [5, 6] k (fun kq v5 v6 w' => ∃ (x5_1 : Int) (x6_1 : Int), v5 = .int .i64 x5_1 ∧ v6 = .int .i64 x6_1 ∧ Aside0 (r3_Index.l0 kq l1 x5_1 x6_1 a0_0 l0_1 l0_2 = some r) ∧ Aside0 (kq ≤ k) ∧ Aside0 (w'.heap[gb324]? = some (.cells #[.int .i64 a0_0, (.slice A0_1 l0_1.length c0_1), (.slice A0_2 l0_2.length c0_2)] 25 (0, 0))) ∧ Aside0 (Below w.heap.size w w'))
 case atStart => exact ⟨(0), (wrap64 ((l1.length : Int) - 1)), (by first | rfl | (simp; done) | (simp [*]; done) | (simp [i64_w]; done) | (simp [i64_w, *]; done)), (by first | rfl | (simp; done) | (simp [*]; done) | (simp [i64_w]; done) | (simp [i64_w, *]; done)), H', ⟨Nat.le_refl _⟩, ⟨by (with_reducible repeat (first | refine kdN ?_ _ | refine kdr ?_ | refine kal ?_ _)); exact BK324.out⟩, ⟨by repeat (first | (with_reducible first | exact HB.out | apply bal | apply bdN | apply bd1 | refine bst ?_ GE324.out) | exact HB.out)⟩⟩
 case round =>
  clear H'
  try clear c1
  try clear c2
  try clear p2
  obtain ⟨x5_1, x6_1, rfl, rfl, HA, HK1, BK324, HB⟩ := hrel
  cases gk with
  | zero => exact absurd HA.out (by simp [r3_Index.l0])
  | succ k1 =>
   have H := HA.out
   clear HA
   simp only [r3_Index.l0] at H
   by_cases c4 : x6_1 ≥ 0
   ·rw [if_pos c4] at H
    have c4b0 : decide (0 ≤ x6_1) = true := decide_eq_true c4
    clear c4
    replace H := Option.bind_eq_some_iff.mp H
    obtain ⟨t325, A50, H⟩ := H
    replace H : (if 0 ≤ x6_1 then (if x6_1 < (l1.length : Int) then (r3_Index.l0 k1 l1 (wrap64 ((wrap64 (x5_1 * t325)) + (rd l1 x6_1))) (wrap64 (x6_1 - 1)) a0_0 l0_1 l0_2) else (none)) else (none)) = some r := H
    have A5 := Aside0.mk A50
    clear A50
    by_cases c6 : 0 ≤ x6_1
    ·rw [if_pos c6] at H
     have c6b0 : decide (0 ≤ x6_1) = true := decide_eq_true c6
     clear c6
     by_cases c7 : x6_1 < (l1.length : Int)
     ·rw [if_pos c7] at H
      have c7b0 : decide (x6_1 < (l1.length : Int)) = true := decide_eq_true c7
      clear c7
      have H' := Aside0.mk H
      clear H
      obtain ⟨hcz8_0, hcz8_1, hcz8_2, hfz8_0, hfz8_1, hfz8_2⟩ := cf3 BK324.out
      go_wp2_with (first | (go_at_call 50; (with_reducible refine (r1_Pow.calls k1 a0_0 t325 _ A5.out).mono ?_); rintro e w' ⟨rfl, ⟨nd, rfl⟩⟩; (try first | exact ⟨rfl, _, World.drewN_drewN _ _ _⟩ | exact ⟨rfl, _, Eq.trans (World.drewN_drewN _ _ _) (congrArg (World.drewN _) (Nat.add_assoc _ _ _))⟩); have p326 : 0 ≤ (x6_1 : Int) := of_decide_eq_true (by first | (with_reducible assumption) | assumption); have q326 : x6_1 < (l1.length : Int) := of_decide_eq_true (by first | (with_reducible assumption) | assumption); obtain ⟨ad326, e326, hx326_0⟩ := Kd.at_int HR1.out x6_1 p326 q326; cases e326; replace hx326_0 := bcell HB.out hx326_0; replace p326 := eq_true p326; replace q326 := eq_true q326))
      repeat (go_quiet (first | (go_at_call 50; (with_reducible refine (r1_Pow.calls k1 a0_0 t325 _ A5.out).mono ?_); rintro e w' ⟨rfl, ⟨nd, rfl⟩⟩; (try first | exact ⟨rfl, _, World.drewN_drewN _ _ _⟩ | exact ⟨rfl, _, Eq.trans (World.drewN_drewN _ _ _) (congrArg (World.drewN _) (Nat.add_assoc _ _ _))⟩); have p326 : 0 ≤ (x6_1 : Int) := of_decide_eq_true (by first | (with_reducible assumption) | assumption); have q326 : x6_1 < (l1.length : Int) := of_decide_eq_true (by first | (with_reducible assumption) | assumption); obtain ⟨ad326, e326, hx326_0⟩ := Kd.at_int HR1.out x6_1 p326 q326; cases e326; replace hx326_0 := bcell HB.out hx326_0; replace p326 := eq_true p326; replace q326 := eq_true q326)); try go_wp2_with (first | (go_at_call 50; (with_reducible refine (r1_Pow.calls k1 a0_0 t325 _ A5.out).mono ?_); rintro e w' ⟨rfl, ⟨nd, rfl⟩⟩; (try first | exact ⟨rfl, _, World.drewN_drewN _ _ _⟩ | exact ⟨rfl, _, Eq.trans (World.drewN_drewN _ _ _) (congrArg (World.drewN _) (Nat.add_assoc _ _ _))⟩); have p326 : 0 ≤ (x6_1 : Int) := of_decide_eq_true (by first | (with_reducible assumption) | assumption); have q326 : x6_1 < (l1.length : Int) := of_decide_eq_true (by first | (with_reducible assumption) | assumption); obtain ⟨ad326, e326, hx326_0⟩ := Kd.at_int HR1.out x6_1 p326 q326; cases e326; replace hx326_0 := bcell HB.out hx326_0; replace p326 := eq_true p326; replace q326 := eq_true q326)))
      go_roundg k1
      case measure => have := HK1.out; omega
      case rel => exact ⟨(wrap64 ((wrap64 (x5_1 * t325)) + (rd l1 x6_1))), (wrap64 (x6_1 - 1)), (by first | rfl | (simp; done) | (simp [*]; done) | (simp [i64_w]; done) | (simp [i64_w, *]; done)), (by first | rfl | (simp; done) | (simp [*]; done) | (simp [i64_w]; done) | (simp [i64_w, *]; done)), H', ⟨by have := HK1.out; omega⟩, ⟨by (with_reducible repeat (first | refine kdN ?_ _ | refine kdr ?_ | refine kal ?_ _)); exact BK324.out⟩, ⟨by repeat (first | (with_reducible first | exact HB.out | apply bal | apply bdN | apply bd1 | refine bst ?_ GE324.out) | exact HB.out)⟩⟩
     ·rw [if_neg c7] at H
      exact absurd H (by simp)
    ·rw [if_neg c6] at H
     exact absurd H (by simp)
   ·rw [if_neg c4] at H
    have c4b0 : decide (0 ≤ x6_1) = false := decide_eq_false c4
    clear c4
    obtain rfl := Option.some.inj H
    go_wp2
    repeat (go_quiet (fail); try go_wp2)
    go_ret
    exact ⟨by first | rfl | (simp [*] <;> rfl), by repeat (first | (with_reducible first | exact HB.out | apply bal | apply bdN | apply bd1 | refine bst ?_ GE324.out) | exact HB.out)⟩
end Go.Proofs.Ytffcpbgbhkbplaa.Print
namespace Go.Proofs.Ytffcpbgbhkbplaa.Print
open Go.RowKit Go.Proofs.YtffcpbgbhkbplaaW.PrintWords Go.Proofs.YtffcpbgbhkbplaaW.PrintLast Go.Proofs.YtffcpbgbhkbplaaW.PrintMore
attribute [local go_sem] max2_int min2_int max_two min_two max_three min_three max_four min_four
set_option linter.unusedVariables false
set_option linter.unusedSimpArgs false
def sto (p : Int) : Nat → Int → List Int
  | 0, _ => []
  | n + 1, i => i % p :: sto p n (i / p)
def idx (p : Int) : List Int → Int
  | [] => 0
  | s :: r => idx p r * p + s
theorem sto_length (p : Int) : ∀ n i, (sto p n i).length = n
  | 0, _ => rfl
  | n + 1, i => by rw [sto, List.length_cons, sto_length p n]
theorem idx_sto {p : Int} (hp : 0 < p) : ∀ (n : Nat) (i : Int), 0 ≤ i → i < p ^ n → idx p (sto p n i) = i
  | 0, i, h0, h1 => by simp only [sto, idx]; simp only [Int.pow_zero] at h1; omega
  | n + 1, i, h0, h1 => by
    simp only [sto, idx]
    have h2 : i / p < p ^ n := by
      apply Int.ediv_lt_of_lt_mul hp
      rw [← Int.pow_succ]
      exact h1
    rw [idx_sto hp n (i / p) (Int.ediv_nonneg h0 (by omega)) h2, Int.mul_comm]
    exact Int.mul_ediv_add_emod i p
theorem sto_idx {p : Int} (hp : 0 < p) : ∀ (l : List Int), (∀ s ∈ l, 0 ≤ s ∧ s < p) → sto p l.length (idx p l) = l
  | [], _ => rfl
  | s :: r, h => by
    have hs := h s (by simp)
    have e1 : (idx p r * p + s) % p = s := by rw [Int.add_comm, Int.add_mul_emod_self_right, Int.emod_eq_of_lt hs.1 hs.2]
    have e2 : (idx p r * p + s) / p = idx p r := by rw [Int.add_comm, Int.add_mul_ediv_right _ _ (by omega), Int.ediv_eq_zero_of_lt hs.1 hs.2, Int.zero_add]
    simp only [List.length_cons, sto, idx]
    rw [e1, e2, sto_idx hp r (fun u hu => h u (by simp [hu]))]
theorem sto_range {p : Int} (hp : 0 < p) : ∀ (n : Nat) (i : Int), ∀ s ∈ sto p n i, 0 ≤ s ∧ s < p
  | 0, i, s, h => by simp [sto] at h
  | n + 1, i, s, h => by
    simp only [sto, List.mem_cons] at h
    rcases h with rfl | h
    · exact ⟨Int.emod_nonneg _ (by omega), Int.emod_lt_of_pos _ hp⟩
    · exact sto_range hp n _ s h
theorem idx_range {p : Int} (hp : 0 < p) : ∀ (l : List Int), (∀ s ∈ l, 0 ≤ s ∧ s < p) → 0 ≤ idx p l ∧ idx p l < p ^ l.length
  | [], _ => by simp only [idx, List.length_nil, Int.pow_zero]; decide
  | s :: r, h => by
    have hs := h s (by simp)
    have ih := idx_range hp r (fun u hu => h u (by simp [hu]))
    simp only [idx, List.length_cons, Int.pow_succ]
    have h1 : 0 ≤ idx p r * p := Int.mul_nonneg ih.1 (by omega)
    have h2 : (idx p r + 1) * p ≤ p ^ r.length * p := Int.mul_le_mul_of_nonneg_right (by omega) (by omega)
    rw [Int.add_mul, Int.one_mul] at h2
    omega
theorem u64_small {n : Int} (h0 : 0 ≤ n) (h1 : n < 1000000) : IntKind.u64.wrap n = n := by
  simp [IntKind.wrap, IntKind.bits, IntKind.signed]
  omega
theorem i64_wrap {n : Int} (h0 : -9223372036854775808 ≤ n) (h1 : n ≤ 9223372036854775807) : IntKind.i64.wrap n = n := by
  rw [Go.IntKind.wrap_i64]
  omega
theorem pow_60 : (2 : Int) ^ 60 = 1152921504606846976 := by decide
theorem pow_le {a b : Nat} (h : a ≤ b) : (2 : Int) ^ a ≤ 2 ^ b := by
  have := Nat.pow_le_pow_right (show 0 < 2 by decide) h
  have e : ∀ n : Nat, ((2 : Int) ^ n) = ((2 ^ n : Nat) : Int) := fun n => by simp
  rw [e, e]
  omega
theorem pow_pos' (a : Nat) : (0 : Int) < 2 ^ a := Int.pow_pos (by decide)
theorem shl_pow {x : Int} {n : Int} (h0 : 0 ≤ n) (h1 : n ≤ 60) (x0 : 0 ≤ x) (hx : x * 2 ^ n.toNat ≤ 9223372036854775807) : shl .i64 x n = x * 2 ^ n.toNat := by
  unfold shl
  rw [Nat.min_eq_left (by show n.toNat ≤ 64; omega)]
  have := Int.mul_nonneg x0 (Int.le_of_lt (pow_pos' n.toNat))
  exact i64_wrap (by omega) hx
theorem shl_one {n : Int} (h0 : 0 ≤ n) (h1 : n ≤ 60) : shl .i64 1 n = 2 ^ n.toNat := by
  have := pow_le (a := n.toNat) (b := 60) (by omega)
  rw [pow_60] at this
  rw [shl_pow h0 h1 (by decide) (by omega), Int.one_mul]
theorem shr_pow {x : Int} {n : Int} (h0 : 0 ≤ n) (h1 : n ≤ 60) : shr .i64 x n = x / 2 ^ n.toNat := by
  unfold shr
  rw [Nat.min_eq_left (by show n.toNat ≤ 64; omega)]
theorem wraps_i64 (n : Int) (h0 : 0 ≤ n) (h1 : n < 2 ^ 63) : IntKind.i64.wrap n = n := by
  have : (2 : Int) ^ 63 = 9223372036854775808 := by decide
  exact i64_wrap (by omega) (by omega)
theorem and_mask {x : Int} {n : Nat} (hn : n ≤ 60) (h0 : 0 ≤ x) (h1 : x ≤ 9223372036854775807) : Go.bits .and .i64 x (2 ^ n - 1) = x % 2 ^ n := by
  have : (2 : Int) ^ 63 = 9223372036854775808 := by decide
  exact Go.bits_mask .i64 63 (by decide) wraps_i64 n (by omega) x h0 (by omega)
theorem or_join {x s : Int} {n : Nat} (x0 : 0 ≤ x) (s0 : 0 ≤ s) (s1 : s < 2 ^ n) (hb : x * 2 ^ n + s < 1152921504606846976) : Go.bits .or .i64 (x * 2 ^ n) s = x * 2 ^ n + s := by
  have e : (2 : Int) ^ 63 = 9223372036854775808 := by decide
  have := Int.mul_nonneg x0 (Int.le_of_lt (pow_pos' n))
  exact Go.bits_join .i64 63 (by decide) wraps_i64 n (x * 2 ^ n) s this (Int.mul_emod_left _ _) (by omega) s0 s1 (by omega)
def valid (p : Int) (l : List Int) : Bool := l.all fun s => decide (0 ≤ s ∧ s < p)
theorem valid_iff {p : Int} {l : List Int} : valid p l = true ↔ ∀ s ∈ l, 0 ≤ s ∧ s < p := by
  unfold valid
  rw [List.all_eq_true]
  simp only [decide_eq_true_eq]
theorem rd_mid (pre : List Int) (x : Int) (r : List Int) : rd (pre ++ x :: r) (pre.length : Int) = x := getD_mid pre x _ r
theorem words_loop (w : Int) (h1 : 1 ≤ w) (h8 : w ≤ 8) : ∀ (suf pre : List Int), (pre ++ suf).length ≤ 9223372036854775807 → Tells (fun k => r1_Words.l0 k w (pre ++ suf) (pre.length : Int)) (valid (2 ^ w.toNat) suf)
  | [], pre, _ => by
    refine Tells.succ ?_
    simp only [r1_Words.l0, pre_nlt, if_false]
    exact Tells.pure _
  | s :: r, pre, hl => by
    refine Tells.succ ?_
    simp only [r1_Words.l0, pre_lt, pre_pos, if_true, rd_mid]
    have ih := words_loop w h1 h8 r (pre ++ [s]) (by rw [← pre_app]; exact hl)
    rw [← pre_app] at ih
    rw [pre_next pre s r hl, show valid (2 ^ w.toNat) (s :: r) = (decide (0 ≤ s ∧ s < 2 ^ w.toNat) && valid (2 ^ w.toNat) r) from List.all_cons]
    exact Tells.bind (Word_tells w s h1 h8) (Tells.ifB ih)
theorem Store_is (w : Int) (vars : List S82) (l : List Int) (h1 : 1 ≤ w) (h8 : w ≤ 8) (hv : ∀ v ∈ vars, 1 ≤ v.f2 ∧ v.f2 ≤ 8) (h18 : vars.length ≤ 18) (hl : l.length ≤ 9223372036854775807) :
    Tells (fun k => r2_Store.f k w vars l) (decide ((l.length : Int) = cs vars) && valid (2 ^ w.toNat) l) := by
  unfold r2_Store.f
  refine Tells.bind (first_all vars hv h18) ?_
  by_cases h : (l.length : Int) = cs vars
  · rw [decide_eq_true h, Bool.true_and]
    refine Tells.ifT h (Tells.id' ?_)
    unfold r1_Words.f
    exact words_loop w h1 h8 l [] hl
  · rw [decide_eq_false h, Bool.false_and]
    exact Tells.ifF h (Tells.pure _)
theorem same_loop : ∀ (suf pre : List Int), (pre ++ suf).length ≤ 9223372036854775807 → Tells (fun k => r1_Same.l0 k (pre ++ suf) (pre ++ suf) (pre.length : Int)) true
  | [], pre, _ => by
    refine Tells.succ ?_
    simp only [r1_Same.l0, pre_nlt, if_false]
    exact Tells.pure _
  | s :: r, pre, hl => by
    refine Tells.succ ?_
    simp only [r1_Same.l0, pre_lt, pre_pos, if_true, rd_mid]
    have ih := same_loop r (pre ++ [s]) (by rw [← pre_app]; exact hl)
    rw [← pre_app] at ih
    rw [pre_next pre s r hl]
    exact ih
theorem same_tells (l : List Int) (hl : l.length ≤ 9223372036854775807) : Tells (fun k => r1_Same.f k l l) true := by
  unfold r1_Same.f
  exact Tells.ifT rfl (same_loop l [] hl)
section
variable {w : Int} {vars : List S82} {body : List S47} (hl : body.length ≤ 9223372036854775807) (hg : goodSs body)
include hl hg
theorem space_no (hp : pIs w vars body = false) : Tells (fun k => prog_Space.f k w vars body) (0, 30) := by
  have tc := pCheck_tells w vars body hl hg
  rw [hp] at tc
  unfold prog_Space.f
  exact Tells.bind tc (Tells.ifF (by decide) (Tells.pure _))
omit hl hg in
theorem pIs_cs (hp : pIs w vars body = true) : 1 ≤ w ∧ w ≤ 8 ∧ (∀ v ∈ vars, 1 ≤ v.f2 ∧ v.f2 ≤ 8) ∧ vars.length ≤ 18 ∧ 0 ≤ cs vars ∧ cs vars ≤ 144 ∧ 0 ≤ w * cs vars ∧ w * cs vars ≤ 1152 := by
  obtain ⟨hh, _⟩ := pIs_all hp
  obtain ⟨h1, h8, _, h18, hv0, _⟩ := hIs_all hh
  have hv : ∀ u ∈ vars, 1 ≤ u.f2 ∧ u.f2 ≤ 8 := fun u hu => (hv0 u hu).2.2
  obtain ⟨c0, c1⟩ := cs_bound vars hv
  have m0 := Int.mul_nonneg (show 0 ≤ w by omega) c0
  have m1 : w * cs vars ≤ 8 * cs vars := Int.mul_le_mul_of_nonneg_right h8 c0
  exact ⟨h1, h8, hv, h18, c0, by omega, m0, by omega⟩
theorem space_big (hp : pIs w vars body = true) (hb : ¬ w * cs vars ≤ 60) : Tells (fun k => prog_Space.f k w vars body) (0, 5) := by
  have tc := pCheck_tells w vars body hl hg
  rw [hp] at tc
  obtain ⟨h1, h8, hv, h18, c0, c1, m0, m1⟩ := pIs_cs hp
  unfold prog_Space.f
  refine Tells.bind tc (Tells.ifT rfl (Tells.bind (cells_tells w vars body hv h18) (Tells.ifT ?_ (Tells.pure _))))
  rw [w64 (by omega) (by omega)]
  omega
theorem space_few (hp : pIs w vars body = true) (hb : w * cs vars ≤ 60) : Tells (fun k => prog_Space.f k w vars body) (2 ^ (w * cs vars).toNat, 0) := by
  have tc := pCheck_tells w vars body hl hg
  rw [hp] at tc
  obtain ⟨h1, h8, hv, h18, c0, c1, m0, m1⟩ := pIs_cs hp
  have ew : wrap64 (w * cs vars) = w * cs vars := w64 (by omega) (by omega)
  unfold prog_Space.f
  refine Tells.bind tc (Tells.ifT rfl (Tells.bind (cells_tells w vars body hv h18) (Tells.ifF (by rw [ew]; omega) (Tells.bind (cells_tells w vars body hv h18) ?_))))
  rw [ew, u64_small m0 (by omega), shl_one m0 hb]
  exact Tells.ifT m0 (Tells.pure _)
omit hl hg in
theorem few_tells (hp : pIs w vars body = true) : Tells (fun k => r3_Few.f k w vars body) (decide (w * cs vars ≤ 60)) := by
  obtain ⟨h1, h8, hv, h18, c0, c1, m0, m1⟩ := pIs_cs hp
  unfold r3_Few.f r3_Cells.f
  refine Tells.bind (Tells.bind (h := fun _ t => some t) (first_all vars hv h18) (Tells.pure _)) ?_
  rw [w64 (by omega) (by omega)]
  exact Tells.pure _
omit hl hg in
theorem rspace_tells (hp : pIs w vars body = true) (hb : w * cs vars ≤ 60) : Tells (fun k => r3_Space.f k w vars body) (2 ^ (w * cs vars).toNat) := by
  obtain ⟨h1, h8, hv, h18, c0, c1, m0, m1⟩ := pIs_cs hp
  unfold r3_Space.f r3_Cells.f
  refine Tells.bind (Tells.bind (h := fun _ t => some t) (first_all vars hv h18) (Tells.pure _)) ?_
  rw [w64 (by omega) (by omega)]
  exact Tells.bind (h := fun _ t => some t) (Pow_tells _ m0 hb) (Tells.pure _)
omit hl hg in
theorem total (hp : pIs w vars body = true) : (2 : Int) ^ (w * cs vars).toNat = (2 ^ w.toNat) ^ (cs vars).toNat := by
  obtain ⟨h1, h8, hv, h18, c0, c1, m0, m1⟩ := pIs_cs hp
  obtain ⟨a, ha⟩ : ∃ a : Nat, w = a := ⟨w.toNat, by omega⟩
  obtain ⟨b, hb⟩ : ∃ b : Nat, cs vars = b := ⟨(cs vars).toNat, by omega⟩
  rw [ha, hb, ← Int.natCast_mul, Int.toNat_natCast, Int.toNat_natCast, Int.toNat_natCast, ← Int.pow_mul]
omit hl hg in
theorem store_loop (h1 : 1 ≤ w) (h8 : w ≤ 8) (l2 : List S47) (c : Int) (hc : c ≤ 144) : ∀ (n : Nat) (i x : Int) (acc : List Int), 0 ≤ i → i + n = c → (acc.length : Int) = i → 0 ≤ x → x ≤ 9223372036854775807 →
    Tells (fun k => prog_Store.l0 k x acc c i w vars l2) (acc ++ sto (2 ^ w.toNat) n x, 0)
  | 0, i, x, acc, i0, hi, ha, x0, x1 => by
    refine Tells.succ ?_
    have : ¬ i < c := by omega
    simp only [prog_Store.l0, this, if_false, sto, List.append_nil]
    exact Tells.pure _
  | n + 1, i, x, acc, i0, hi, ha, x0, x1 => by
    refine Tells.succ ?_
    have hp := pow_le8 h1 h8
    have hlt : i < c := by omega
    simp only [prog_Store.l0]
    rw [u64_small (by omega) (by omega), shl_one (by omega) (by omega), w64 (n := 2 ^ w.toNat - 1) (by omega) (by omega), and_mask (by omega) x0 x1, shr_pow (by omega) (by omega), w64 (n := i + 1) (by omega) (by omega)]
    refine Tells.ifT hlt (Tells.ifT (by omega) (Tells.ifT (by omega) ?_))
    have ih := store_loop h1 h8 l2 c hc n (i + 1) (x / 2 ^ w.toNat) (acc ++ [x % 2 ^ w.toNat]) (by omega) (by omega) (by rw [List.length_append, List.length_singleton]; omega) (Int.ediv_nonneg x0 (by omega)) (Int.le_trans (Int.ediv_le_self _ x0) x1)
    rw [List.append_assoc] at ih
    exact ih
theorem Store_ok (hp : pIs w vars body = true) (hb : w * cs vars ≤ 60) {i : Int} (i0 : 0 ≤ i) (i1 : i < 2 ^ (w * cs vars).toNat) : Tells (fun k => prog_Store.f k w vars body i) (sto (2 ^ w.toNat) (cs vars).toNat i, 0) := by
  obtain ⟨h1, h8, hv, h18, c0, c1, m0, m1⟩ := pIs_cs hp
  have hpl := pow_le (a := (w * cs vars).toNat) (b := 60) (by omega)
  rw [pow_60] at hpl
  unfold prog_Store.f
  refine Tells.bind (space_few hl hg hp hb) (Tells.ifT rfl (Tells.ifF (by omega) (Tells.succ ?_)))
  simp only [prog_Store.j0]
  refine Tells.ifF (by rw [decide_eq_true_eq]; omega) (Tells.bind (cells_tells w vars body hv h18) ?_)
  exact store_loop h1 h8 body (cs vars) c1 (cs vars).toNat 0 i [] (by decide) (by omega) rfl i0 (by omega)
theorem Store_out (hp : pIs w vars body = true) (hb : w * cs vars ≤ 60) {i : Int} (hi : ¬ (0 ≤ i ∧ i < 2 ^ (w * cs vars).toNat)) : Tells (fun k => prog_Store.f k w vars body i) ([], 1) := by
  have jt : Tells (fun k => prog_Store.j0 k i true w vars body) ([], 1) := by
    refine Tells.succ ?_
    simp only [prog_Store.j0, if_true]
    exact Tells.pure _
  unfold prog_Store.f
  refine Tells.bind (space_few hl hg hp hb) (Tells.ifT rfl ?_)
  by_cases h : i < 0
  · exact Tells.ifT h jt
  · refine Tells.ifF h ?_
    rw [decide_eq_true (by omega : i ≥ 2 ^ (w * cs vars).toNat)]
    exact jt
omit hl hg in
theorem index_loop (h1 : 1 ≤ w) (h8 : w ≤ 8) (l2 : List S47) : ∀ (n : Nat) (pre done : List Int), pre.length = n → (pre.length + done.length) * w.toNat ≤ 60 → (∀ s ∈ done, 0 ≤ s ∧ s < 2 ^ w.toNat) →
    Tells (fun k => prog_Index.l0 k (pre ++ done) (idx (2 ^ w.toNat) done) ((n : Int) - 1) w vars l2) (if valid (2 ^ w.toNat) pre = true then (idx (2 ^ w.toNat) (pre ++ done), 0) else (0, 1))
  | 0, pre, done, hn, _, _ => by
    obtain rfl := List.length_eq_zero_iff.1 hn
    refine Tells.succ ?_
    simp only [prog_Index.l0]
    exact Tells.ifF (by decide) (Tells.pure _)
  | n + 1, pre, done, hn, hb, hd => by
    have hne : pre ≠ [] := by intro h; rw [h] at hn; cases hn
    obtain ⟨q, s, rfl⟩ : ∃ q s, pre = q ++ [s] := ⟨pre.dropLast, pre.getLast hne, (List.dropLast_concat_getLast hne).symm⟩
    rw [List.length_append, List.length_singleton] at hn hb
    have hq : q.length = n := by omega
    have hp := pow_le8 h1 h8
    have hir := idx_range (p := 2 ^ w.toNat) (by omega) done hd
    have hsmall : q.length + 1 + done.length ≤ 60 := by
      have : q.length + 1 + done.length ≤ (q.length + 1 + done.length) * w.toNat := Nat.le_mul_of_pos_right _ (by omega)
      omega
    refine Tells.succ ?_
    have e : (q ++ [s]) ++ done = q ++ s :: done := by simp
    have ei : (((n + 1 : Nat) : Int) - 1) = (q.length : Int) := by omega
    rw [e, ei]
    simp only [prog_Index.l0, pre_lt, pre_pos, rd_mid]
    rw [u64_small (by omega) (by omega), shl_one (by omega) (by omega)]
    have ev : valid (2 ^ w.toNat) (q ++ [s]) = (valid (2 ^ w.toNat) q && decide (0 ≤ s ∧ s < 2 ^ w.toNat)) := by unfold valid; rw [List.all_append, List.all_cons, List.all_nil, Bool.and_true]
    refine Tells.ifT (by trivial) (Tells.ifT (by trivial) (Tells.ifT (by trivial) ?_))
    by_cases a1 : s < 0
    · rw [ev, decide_eq_false (by omega), Bool.and_false]
      exact Tells.ifT a1 (Tells.pure _)
    refine Tells.ifF a1 (Tells.ifT (by omega) ?_)
    by_cases a2 : s ≥ 2 ^ w.toNat
    · rw [ev, decide_eq_false (by omega), Bool.and_false]
      exact Tells.ifT a2 (Tells.pure _)
    refine Tells.ifF a2 ?_
    have hs : (0 ≤ s ∧ s < 2 ^ w.toNat) := ⟨by omega, by omega⟩
    rw [ev, decide_eq_true hs, Bool.and_true]
    have hd' : ∀ u ∈ s :: done, 0 ≤ u ∧ u < 2 ^ w.toNat := by
      intro u hu
      rcases List.mem_cons.1 hu with rfl | hu
      · exact hs
      · exact hd u hu
    have hir' := idx_range (p := 2 ^ w.toNat) (by omega) (s :: done) hd'
    have hbb : ((2 : Int) ^ w.toNat) ^ (s :: done).length ≤ 1152921504606846976 := by
      rw [← Int.pow_mul, ← pow_60]
      apply pow_le
      rw [List.length_cons]
      have : w.toNat * (done.length + 1) ≤ (q.length + 1 + done.length) * w.toNat := by
        rw [Nat.mul_comm]
        exact Nat.mul_le_mul_right _ (by omega)
      omega
    simp only [idx] at hir'
    have hx := Int.mul_nonneg hir.1 (show (0 : Int) ≤ 2 ^ w.toNat by omega)
    rw [shl_pow (by omega) (by omega) hir.1 (by omega), or_join hir.1 hs.1 hs.2 (by omega), w64 (n := (q.length : Int) - 1) (by omega) (by omega)]
    have ih := index_loop h1 h8 l2 n q (s :: done) hq (by rw [List.length_cons, show q.length + (done.length + 1) = q.length + 1 + done.length by omega]; exact hb) hd'
    simp only [idx] at ih
    rw [hq]
    exact ih
theorem Index_tells (hp : pIs w vars body = true) (hb : w * cs vars ≤ 60) (l : List Int) (hll : l.length ≤ 9223372036854775807) : Tells (fun k => prog_Index.f k w vars body l) (if (decide ((l.length : Int) = cs vars) && valid (2 ^ w.toNat) l) = true then (idx (2 ^ w.toNat) l, 0) else (0, 1)) := by
  obtain ⟨h1, h8, hv, h18, c0, c1, m0, m1⟩ := pIs_cs hp
  unfold prog_Index.f
  refine Tells.bind (space_few hl hg hp hb) (Tells.ifT rfl (Tells.bind (cells_tells w vars body hv h18) ?_))
  by_cases h : (l.length : Int) = cs vars
  · rw [decide_eq_true h, Bool.true_and]
    refine Tells.ifT h ?_
    have hm : (l.length + ([] : List Int).length) * w.toNat ≤ 60 := by
      rw [List.length_nil, Nat.add_zero]
      have : ((l.length * w.toNat : Nat) : Int) = w * cs vars := by
        rw [Int.natCast_mul, Int.toNat_of_nonneg (by omega), h, Int.mul_comm]
      omega
    have := index_loop (vars := vars) h1 h8 body l.length l [] rfl hm (by simp)
    rw [List.append_nil] at this
    rw [w64 (by omega) (by omega)]
    exact this
  · rw [decide_eq_false h, Bool.false_and]
    exact Tells.ifF h (Tells.pure _)
omit hl hg in
theorem rstore_loop (h1 : 1 ≤ w) (h8 : w ≤ 8) (hv : ∀ v ∈ vars, 1 ≤ v.f2 ∧ v.f2 ≤ 8) (h18 : vars.length ≤ 18) (l2 : List S47) (c1 : cs vars ≤ 144) : ∀ (n : Nat) (i x : Int) (acc : List Int), 0 ≤ i → i + n = cs vars → (acc.length : Int) = i → 0 ≤ x → x ≤ 9223372036854775807 →
    Tells (fun k => r3_Store.l0 k x acc i w vars l2) (acc ++ sto (2 ^ w.toNat) n x)
  | 0, i, x, acc, i0, hi, ha, x0, x1 => by
    refine Tells.succ ?_
    simp only [r3_Store.l0, r3_Cells.f, sto, List.append_nil]
    exact Tells.bind (Tells.bind (h := fun _ t => some t) (first_all vars hv h18) (Tells.pure _)) (Tells.ifF (by omega) (Tells.pure _))
  | n + 1, i, x, acc, i0, hi, ha, x0, x1 => by
    refine Tells.succ ?_
    have hp := pow_le8 h1 h8
    simp only [r3_Store.l0, r3_Cells.f]
    refine Tells.bind (Tells.bind (h := fun _ t => some t) (first_all vars hv h18) (Tells.pure _)) (Tells.ifT (by omega) (Tells.bind (Pow_tells w (by omega) (by omega)) (Tells.ifF (by omega) (Tells.ifT (by omega) (Tells.bind (Pow_tells w (by omega) (by omega)) (Tells.ifF (by omega) ?_))))))
    have b0 := Int.ediv_nonneg x0 (show (0 : Int) ≤ 2 ^ w.toNat by omega)
    have b1 := Int.ediv_le_self (2 ^ w.toNat) x0
    rw [Int.tdiv_eq_ediv_of_nonneg x0, Int.tmod_eq_emod_of_nonneg x0, w64 (n := i + 1) (by omega) (by omega), w64 (n := x / 2 ^ w.toNat) (by omega) (by omega)]
    have ih := rstore_loop h1 h8 hv h18 l2 c1 n (i + 1) (x / 2 ^ w.toNat) (acc ++ [x % 2 ^ w.toNat]) (by omega) (by omega) (by rw [List.length_append, List.length_singleton]; omega) b0 (by omega)
    rw [List.append_assoc] at ih
    exact ih
omit hl hg in
theorem RStore_tells (hp : pIs w vars body = true) {i : Int} (i0 : 0 ≤ i) (i1 : i ≤ 9223372036854775807) : Tells (fun k => r3_Store.f k w vars body i) (sto (2 ^ w.toNat) (cs vars).toNat i) := by
  obtain ⟨h1, h8, hv, h18, c0, c1, m0, m1⟩ := pIs_cs hp
  unfold r3_Store.f
  exact rstore_loop h1 h8 hv h18 body c1 (cs vars).toNat 0 i [] (by decide) (by omega) rfl i0 i1
omit hl hg in
theorem rindex_loop (h1 : 1 ≤ w) (h8 : w ≤ 8) (l2 : List S47) : ∀ (n : Nat) (pre done : List Int), pre.length = n → (pre.length + done.length) * w.toNat ≤ 60 → (∀ s ∈ pre ++ done, 0 ≤ s ∧ s < 2 ^ w.toNat) →
    Tells (fun k => r3_Index.l0 k (pre ++ done) (idx (2 ^ w.toNat) done) ((n : Int) - 1) w vars l2) (idx (2 ^ w.toNat) (pre ++ done))
  | 0, pre, done, hn, _, _ => by
    obtain rfl := List.length_eq_zero_iff.1 hn
    refine Tells.succ ?_
    simp only [r3_Index.l0]
    exact Tells.ifF (by decide) (Tells.pure _)
  | n + 1, pre, done, hn, hb, hd => by
    have hne : pre ≠ [] := by intro h; rw [h] at hn; cases hn
    obtain ⟨q, s, rfl⟩ : ∃ q s, pre = q ++ [s] := ⟨pre.dropLast, pre.getLast hne, (List.dropLast_concat_getLast hne).symm⟩
    rw [List.length_append, List.length_singleton] at hn hb
    have hq : q.length = n := by omega
    have hp := pow_le8 h1 h8
    have hir := idx_range (p := 2 ^ w.toNat) (by omega) done (fun u hu => hd u (by simp [hu]))
    have hsmall : q.length + 1 + done.length ≤ 60 := by
      have : q.length + 1 + done.length ≤ (q.length + 1 + done.length) * w.toNat := Nat.le_mul_of_pos_right _ (by omega)
      omega
    refine Tells.succ ?_
    have e : (q ++ [s]) ++ done = q ++ s :: done := by simp
    have ei : (((n + 1 : Nat) : Int) - 1) = (q.length : Int) := by omega
    rw [e] at hd ⊢
    rw [ei]
    have hs := hd s (by simp)
    have hir' := idx_range (p := 2 ^ w.toNat) (by omega) (s :: done) (fun u hu => hd u (List.mem_append_right _ hu))
    have hbb : ((2 : Int) ^ w.toNat) ^ (s :: done).length ≤ 1152921504606846976 := by
      rw [← Int.pow_mul, ← pow_60]
      apply pow_le
      rw [List.length_cons]
      have : w.toNat * (done.length + 1) ≤ (q.length + 1 + done.length) * w.toNat := by
        rw [Nat.mul_comm]
        exact Nat.mul_le_mul_right _ (by omega)
      omega
    simp only [idx] at hir'
    have hx := Int.mul_nonneg hir.1 (show (0 : Int) ≤ 2 ^ w.toNat by omega)
    simp only [r3_Index.l0, pre_lt, pre_pos, rd_mid]
    refine Tells.ifT (by trivial) (Tells.bind (Pow_tells w (by omega) (by omega)) (Tells.ifT (by trivial) (Tells.ifT (by trivial) ?_)))
    rw [w64 (n := idx (2 ^ w.toNat) done * 2 ^ w.toNat) (by omega) (by omega), w64 (n := idx (2 ^ w.toNat) done * 2 ^ w.toNat + s) (by omega) (by omega), w64 (n := (q.length : Int) - 1) (by omega) (by omega)]
    have ih := rindex_loop h1 h8 l2 n q (s :: done) hq (by rw [List.length_cons, show q.length + (done.length + 1) = q.length + 1 + done.length by omega]; exact hb) hd
    simp only [idx] at ih
    rw [hq]
    exact ih
omit hl hg in
theorem RIndex_tells (hp : pIs w vars body = true) (hb : w * cs vars ≤ 60) (l : List Int) (hc : (l.length : Int) = cs vars) (hv0 : valid (2 ^ w.toNat) l = true) : Tells (fun k => r3_Index.f k w vars body l) (idx (2 ^ w.toNat) l) := by
  obtain ⟨h1, h8, hv, h18, c0, c1, m0, m1⟩ := pIs_cs hp
  unfold r3_Index.f
  have hm : (l.length + ([] : List Int).length) * w.toNat ≤ 60 := by
    rw [List.length_nil, Nat.add_zero]
    have : ((l.length * w.toNat : Nat) : Int) = w * cs vars := by
      rw [Int.natCast_mul, Int.toNat_of_nonneg (by omega), hc, Int.mul_comm]
    omega
  have := rindex_loop (vars := vars) h1 h8 body l.length l [] rfl hm (by rw [List.append_nil]; exact valid_iff.1 hv0)
  rw [List.append_nil] at this
  rw [w64 (by omega) (by omega)]
  exact this
end
end Go.Proofs.Ytffcpbgbhkbplaa.Print
namespace Go.Proofs.Ytffcpbgbhkbplaa.Print
open Go.RowKit Go.Proofs.YtffcpbgbhkbplaaW.PrintWords Go.Proofs.YtffcpbgbhkbplaaW.PrintLast Go.Proofs.YtffcpbgbhkbplaaW.PrintMore
attribute [local go_sem] max2_int min2_int max_two min_two max_three min_three max_four min_four
set_option linter.unusedVariables false
set_option linter.unusedSimpArgs false
mutual
def w3_ProgDigits.j0 : Nat → Int → List Int → Bool → Int → List (S82) → List (S47) → Option (Bool)
 | 0, _, _, _, _, _, _ => none
 | k + 1, x1, x2, x22, x353000, x353001, x353002 => if x22 = true then ((w3_awake.f k).bind fun t355 => (some t355)) else (if x1 ≥ 0 then ((r3_Space.f k x353000 x353001 x353002).bind fun t356 => (w3_ProgDigits.j1 k x1 x2 (decide (x1 < t356)) x353000 x353001 x353002)) else (w3_ProgDigits.j1 k x1 x2 false x353000 x353001 x353002))
def w3_ProgDigits.j1 : Nat → Int → List Int → Bool → Int → List (S82) → List (S47) → Option (Bool)
 | 0, _, _, _, _, _, _ => none
 | k + 1, x1, x2, x31, x353000, x353001, x353002 => if x31 = true then ((prog_Store.f k x353000 x353001 x353002 x1).bind fun bt357 => ((prog_Index.f k x353000 x353001 x353002 bt357.1).bind fun bt361 => (if bt357.2 = 0 then (if bt361.2 = 0 then (if bt361.1 = x1 then (w3_ProgDigits.j2 k x2 x353000 x353001 x353002) else (some false)) else (some false)) else (some false)))) else (w3_ProgDigits.j2 k x2 x353000 x353001 x353002)
def w3_ProgDigits.j2 : Nat → List Int → Int → List (S82) → List (S47) → Option (Bool)
 | 0, _, _, _, _ => none
 | k + 1, x2, x353000, x353001, x353002 => (r2_Store.f k x353000 x353001 x2).bind fun t363 => (if t363 = true then ((prog_Index.f k x353000 x353001 x353002 x2).bind fun bt365 => ((prog_Store.f k x353000 x353001 x353002 bt365.1).bind fun bt367 => (if bt365.2 = 0 then (if bt367.2 = 0 then ((r1_Same.f k bt367.1 x2).bind fun t371 => (if t371 = true then ((w3_awake.f k).bind fun t372 => (some t372)) else (some false))) else (some false)) else (some false)))) else ((w3_awake.f k).bind fun t364 => (some t364)))
end
def w3_ProgDigits.f (k : Nat) (a0_0 : Int) (l0_1 : List (S82)) (l0_2 : List (S47)) (a1 : Int) (l2 : List Int) : Option (Bool) := (r3_Is.f k a0_0 l0_1 l0_2).bind fun t353 => (if t353 = true then ((r3_Few.f k a0_0 l0_1 l0_2).bind fun t354 => (w3_ProgDigits.j0 k a1 l2 (!t354) a0_0 l0_1 l0_2)) else (w3_ProgDigits.j0 k a1 l2 true a0_0 l0_1 l0_2))
set_option maxHeartbeats 8000000 in
set_option maxRecDepth 100000 in
theorem w3_ProgDigits.calls (k : Nat) (a0_0 : Int) (A0_1 : Option Addr) (c0_1 : Nat) (l0_1 : List (S82)) (A0_2 : Option Addr) (c0_2 : Nat) (l0_2 : List (S47)) (a1 : Int) (A2 : Option Addr) (c2 : Nat) (l2 : List Int) (r : Bool) (w : World) (hr0_1 : Kd.C k82 w A0_1 l0_1.length l0_1) (hc0_1 : l0_1.length ≤ c0_1) (hr0_2 : Kd.C k47 w A0_2 l0_2.length l0_2) (hc0_2 : l0_2.length ≤ c0_2) (hr2 : Kd.C (Kd.int .i64) w A2 l2.length l2) (hc2 : l2.length ≤ c2) (hrt : r = true) (h : w3_ProgDigits.f k a0_0 l0_1 l0_2 a1 l2 = some r) :
  Calls Try.prog 4 #[.agg #[.int .i64 a0_0, .slice A0_1 l0_1.length c0_1, .slice A0_2 l0_2.length c0_2], .int .i64 a1, .slice A2 l2.length c2] w fun e w' => e = .returned (.bool r) ∧ Below w.heap.size w w' := by
 have hu25 := Try.underlying25
 have HR0_1 := Aside0.mk hr0_1
 have HC0_1 := Aside0.mk hc0_1
 clear hr0_1 hc0_1
 have HR0_2 := Aside0.mk hr0_2
 have HC0_2 := Aside0.mk hc0_2
 clear hr0_2 hc0_2
 have HR2 := Aside0.mk hr2
 have HC2 := Aside0.mk hc2
 clear hr2 hc2
 have HB := Aside0.mk (Below.refl w.heap.size w)
 have H : ((r3_Is.f k a0_0 l0_1 l0_2).bind fun t353 => (if t353 = true then ((r3_Few.f k a0_0 l0_1 l0_2).bind fun t354 => (w3_ProgDigits.j0 k a1 l2 (!t354) a0_0 l0_1 l0_2)) else (w3_ProgDigits.j0 k a1 l2 true a0_0 l0_1 l0_2))) = some r := h
 clear h
 have HC4 := Aside0.mk H
 clear H
 go_enter Try.func4, Try.ntmps4
 go_upto_region 1 with (first | ((with_reducible refine gate_dst (N := 3) rfl ?_); refine box_event ?hg (N := 3) ?hd (cs := #[.int .i64 a0_0, .slice A0_1 l0_1.length c0_1, .slice A0_2 l0_2.length c0_2]) (t := 25) ?hr ?_; (case hd => rfl); (case hg => rfl); (case hr => first | (go_simp; done) | (go_simp; rfl)); intro gb352 hg w5 hbox hb; have n0_ := Aside0.mk (bsp (by repeat (first | (with_reducible first | exact HB.out | apply bal | apply bdN | apply bd1) | exact HB.out)) hb); have n1_ := Aside0.mk (hbox); have n2_ := Aside0.mk ((by rw [hg]; exact (bsz (by repeat (first | (with_reducible first | exact HB.out | apply bal | apply bdN | apply bd1) | exact HB.out))) : w.heap.size ≤ gb352)); have n3_ := Aside0.mk ((by rw [hg]; exact (bsz (by repeat (first | (with_reducible first | exact HB.out | apply bal | apply bdN | apply bd1) | exact HB.out))) : w.heap.size ≤ gb352)); clear HB; have HB := n0_; have BK352 := n1_; have GW352 := n2_; have GE352 := n3_; clear n0_ n1_ n2_ n3_; clear hb hbox hg))
 (try simp only [Act.put, List.setIfInBounds_toArray, List.set_cons_zero, List.set_cons_succ])
 go_cut [22] (fun v22 wc => ∃ (kq : Nat) (x22_3 : Bool), v22 = .bool x22_3 ∧ Aside0 (w3_ProgDigits.j0 kq a1 l2 x22_3 a0_0 l0_1 l0_2 = some r) ∧ Aside0 (kq ≤ k) ∧ Aside0 (wc.heap[gb352]? = some (.cells #[.int .i64 a0_0, (.slice A0_1 l0_1.length c0_1), (.slice A0_2 l0_2.length c0_2)] 25 (0, 0))) ∧ Aside0 (Below w.heap.size w wc))
 case first =>
  have H := HC4.out
  clear HC4
  replace H := Option.bind_eq_some_iff.mp H
  obtain ⟨t353, A60, H⟩ := H
  replace H : (if t353 = true then ((r3_Few.f k a0_0 l0_1 l0_2).bind fun t354 => (w3_ProgDigits.j0 k a1 l2 (!t354) a0_0 l0_1 l0_2)) else (w3_ProgDigits.j0 k a1 l2 true a0_0 l0_1 l0_2)) = some r := H
  have A6 := Aside0.mk A60
  clear A60
  by_cases c7 : t353 = true
  ·subst c7
   have H1 : ((r3_Few.f k a0_0 l0_1 l0_2).bind fun t354 => (w3_ProgDigits.j0 k a1 l2 (!t354) a0_0 l0_1 l0_2)) = some r := by rw [if_pos rfl] at H; exact H
   clear H
   have H := H1
   clear H1
   replace H := Option.bind_eq_some_iff.mp H
   obtain ⟨t354, A80, H⟩ := H
   replace H : (w3_ProgDigits.j0 k a1 l2 (!t354) a0_0 l0_1 l0_2) = some r := H
   have A8 := Aside0.mk A80
   clear A80
   have H' := Aside0.mk H
   clear H
   obtain ⟨hcz9_0, hcz9_1, hcz9_2, hfz9_0, hfz9_1, hfz9_2⟩ := cf3 BK352.out
   go_wp2_with (first | ((with_reducible refine gate_callee (f := 16) rfl ?_); refine goesL_ (some 16) rfl rfl Try.func16 (by kernel_rfl) rfl #[.agg #[.int .i64 a0_0, .slice A0_1 l0_1.length c0_1, .slice A0_2 l0_2.length c0_2]] rfl (by (try simp only [List.map_toArray, List.map_cons, List.map_nil]); first | done | rfl | (simp only [List.length_drop, List.length_take]; rfl)) ?_; (with_reducible refine (r3_Is.calls k a0_0 _ _ l0_1 _ _ l0_2 true _ ?side1 ?side2 ?side3 ?side4 A6.out).mono ?_); (case side1 => repeat (first | exact (Kd.C_below HR0_1.out HB.out) | with_reducible first | apply Kd.C_alloc | apply Kd.C_drewN | apply Kd.C_drew)); (case side2 => exact HC0_1.out); (case side3 => repeat (first | exact (Kd.C_below HR0_2.out HB.out) | with_reducible first | apply Kd.C_alloc | apply Kd.C_drewN | apply Kd.C_drew)); (case side4 => exact HC0_2.out); rintro e w10 ⟨rfl, hb⟩; refine ⟨_, rfl, ?_⟩; have n0_ := Aside0.mk (blk_below (g := gb352) (o := .cells #[.int .i64 a0_0, .slice A0_1 l0_1.length c0_1, .slice A0_2 l0_2.length c0_2] 25 (0, 0)) (by (with_reducible repeat (first | refine kdN ?_ _ | refine kdr ?_ | refine kal ?_ _)); exact BK352.out) hb); have n1_ := Aside0.mk (bsp (by repeat (first | (with_reducible first | exact HB.out | apply bal | apply bdN | apply bd1 | refine bst ?_ GE352.out) | exact HB.out)) hb); clear BK352; clear HB; have BK352 := n0_; have HB := n1_; clear n0_ n1_; (try clear hb); (try clear hb2); (try clear hk); (try clear hi); obtain ⟨hcz11_0, hcz11_1, hcz11_2, hfz11_0, hfz11_1, hfz11_2⟩ := cf3 BK352.out) | (go_at_call 17; (with_reducible refine (r3_Few.calls k a0_0 _ _ l0_1 _ _ l0_2 t354 _ ?side1 ?side2 ?side3 ?side4 A8.out).mono ?_); (case side1 => repeat (first | exact (Kd.C_below HR0_1.out HB.out) | with_reducible first | apply Kd.C_alloc | apply Kd.C_drewN | apply Kd.C_drew)); (case side2 => exact HC0_1.out); (case side3 => repeat (first | exact (Kd.C_below HR0_2.out HB.out) | with_reducible first | apply Kd.C_alloc | apply Kd.C_drewN | apply Kd.C_drew)); (case side4 => exact HC0_2.out); rintro e w12 ⟨rfl, hb⟩; have n0_ := Aside0.mk (blk_below (g := gb352) (o := .cells #[.int .i64 a0_0, .slice A0_1 l0_1.length c0_1, .slice A0_2 l0_2.length c0_2] 25 (0, 0)) (by (with_reducible repeat (first | refine kdN ?_ _ | refine kdr ?_ | refine kal ?_ _)); exact BK352.out) hb); have n1_ := Aside0.mk (bsp (by repeat (first | (with_reducible first | exact HB.out | apply bal | apply bdN | apply bd1 | refine bst ?_ GE352.out) | exact HB.out)) hb); clear BK352; clear HB; have BK352 := n0_; have HB := n1_; clear n0_ n1_; (try clear hb); (try clear hb2); (try clear hk); (try clear hi)))
   go_meet
   case rel => exact ⟨_, (!t354), (by first | rfl | (simp; done) | (simp [*]; done)), H', ⟨by first | omega | exact Nat.le_refl _⟩, ⟨by (with_reducible repeat (first | refine kdN ?_ _ | refine kdr ?_ | refine kal ?_ _)); exact BK352.out⟩, ⟨by repeat (first | (with_reducible first | exact HB.out | apply bal | apply bdN | apply bd1 | refine bst ?_ GE352.out) | exact HB.out)⟩⟩
  ·replace c7 := Bool.eq_false_iff.mpr c7
   subst c7
   have H1 : (w3_ProgDigits.j0 k a1 l2 true a0_0 l0_1 l0_2) = some r := by rw [if_neg (show ¬ (false = true) by decide)] at H; exact H
   clear H
   have H := H1
   clear H1
   have H' := Aside0.mk H
   clear H
   obtain ⟨hcz13_0, hcz13_1, hcz13_2, hfz13_0, hfz13_1, hfz13_2⟩ := cf3 BK352.out
   go_wp2_with (first | ((with_reducible refine gate_callee (f := 16) rfl ?_); refine goesL_ (some 16) rfl rfl Try.func16 (by kernel_rfl) rfl #[.agg #[.int .i64 a0_0, .slice A0_1 l0_1.length c0_1, .slice A0_2 l0_2.length c0_2]] rfl (by (try simp only [List.map_toArray, List.map_cons, List.map_nil]); first | done | rfl | (simp only [List.length_drop, List.length_take]; rfl)) ?_; (with_reducible refine (r3_Is.calls k a0_0 _ _ l0_1 _ _ l0_2 false _ ?side1 ?side2 ?side3 ?side4 A6.out).mono ?_); (case side1 => repeat (first | exact (Kd.C_below HR0_1.out HB.out) | with_reducible first | apply Kd.C_alloc | apply Kd.C_drewN | apply Kd.C_drew)); (case side2 => exact HC0_1.out); (case side3 => repeat (first | exact (Kd.C_below HR0_2.out HB.out) | with_reducible first | apply Kd.C_alloc | apply Kd.C_drewN | apply Kd.C_drew)); (case side4 => exact HC0_2.out); rintro e w14 ⟨rfl, hb⟩; refine ⟨_, rfl, ?_⟩; have n0_ := Aside0.mk (blk_below (g := gb352) (o := .cells #[.int .i64 a0_0, .slice A0_1 l0_1.length c0_1, .slice A0_2 l0_2.length c0_2] 25 (0, 0)) (by (with_reducible repeat (first | refine kdN ?_ _ | refine kdr ?_ | refine kal ?_ _)); exact BK352.out) hb); have n1_ := Aside0.mk (bsp (by repeat (first | (with_reducible first | exact HB.out | apply bal | apply bdN | apply bd1 | refine bst ?_ GE352.out) | exact HB.out)) hb); clear BK352; clear HB; have BK352 := n0_; have HB := n1_; clear n0_ n1_; (try clear hb); (try clear hb2); (try clear hk); (try clear hi)))
   go_meet
   case rel => exact ⟨_, (true), (by first | rfl | (simp; done) | (simp [*]; done)), H', ⟨by first | omega | exact Nat.le_refl _⟩, ⟨by (with_reducible repeat (first | refine kdN ?_ _ | refine kdr ?_ | refine kal ?_ _)); exact BK352.out⟩, ⟨by repeat (first | (with_reducible first | exact HB.out | apply bal | apply bdN | apply bd1 | refine bst ?_ GE352.out) | exact HB.out)⟩⟩
 case rest =>
  clear HC4
  try clear c1
  try clear c2
  try clear p2
  try clear c4
  try clear c7
  try clear hcz11_0
  try clear hcz11_1
  try clear hcz11_2
  try clear hcz13_0
  try clear hcz13_1
  try clear hcz13_2
  try clear hcz9_0
  try clear hcz9_1
  try clear hcz9_2
  try clear hfz11_0
  try clear hfz11_1
  try clear hfz11_2
  try clear hfz13_0
  try clear hfz13_1
  try clear hfz13_2
  try clear hfz9_0
  try clear hfz9_1
  try clear hfz9_2
  obtain ⟨kq, x22_3, rfl, HA, HJ3, BK352, HB⟩ := hcut
  cases kq with
  | zero => exact absurd HA.out (by simp [w3_ProgDigits.j0])
  | succ kj3 =>
   have H := HA.out
   clear HA
   simp only [w3_ProgDigits.j0] at H
   by_cases c15 : x22_3 = true
   ·subst c15
    have H1 : ((w3_awake.f kj3).bind fun t355 => (some t355)) = some r := by rw [if_pos rfl] at H; exact H
    clear H
    have H := H1
    clear H1
    replace H := Option.bind_eq_some_iff.mp H
    obtain ⟨t355, A160, H⟩ := H
    replace H : (some t355) = some r := H
    have A16 := Aside0.mk A160
    clear A160
    obtain rfl := Option.some.inj H
    go_wp2_with (first | ((with_reducible refine gate_callee (f := 12) rfl ?_); refine goesL_ (some 23) rfl rfl Try.func12 (by kernel_rfl) rfl #[] rfl (by (try simp only [List.map_toArray, List.map_cons, List.map_nil]); first | done | rfl | (simp only [List.length_drop, List.length_take]; rfl)) ?_; (with_reducible refine (w3_awake.calls kj3  t355 _ A16.out).mono ?_); rintro e w17 ⟨rfl, hb⟩; refine ⟨_, rfl, ?_⟩; have n0_ := Aside0.mk (blk_below (g := gb352) (o := .cells #[.int .i64 a0_0, .slice A0_1 l0_1.length c0_1, .slice A0_2 l0_2.length c0_2] 25 (0, 0)) (by (with_reducible repeat (first | refine kdN ?_ _ | refine kdr ?_ | refine kal ?_ _)); exact BK352.out) hb); have n1_ := Aside0.mk (bsp (by repeat (first | (with_reducible first | exact HB.out | apply bal | apply bdN | apply bd1 | refine bst ?_ GE352.out) | exact HB.out)) hb); clear BK352; clear HB; have BK352 := n0_; have HB := n1_; clear n0_ n1_; (try clear hb); (try clear hb2); (try clear hk); (try clear hi)))
    go_ret
    exact ⟨by first | rfl | (simp [*] <;> rfl), by repeat (first | (with_reducible first | exact HB.out | apply bal | apply bdN | apply bd1 | refine bst ?_ GE352.out) | exact HB.out)⟩
   ·replace c15 := Bool.eq_false_iff.mpr c15
    subst c15
    have H1 : (if a1 ≥ 0 then ((r3_Space.f kj3 a0_0 l0_1 l0_2).bind fun t356 => (w3_ProgDigits.j1 kj3 a1 l2 (decide (a1 < t356)) a0_0 l0_1 l0_2)) else (w3_ProgDigits.j1 kj3 a1 l2 false a0_0 l0_1 l0_2)) = some r := by rw [if_neg (show ¬ (false = true) by decide)] at H; exact H
    clear H
    have H := H1
    clear H1
    have HC18 := Aside0.mk H
    clear H
    go_upto_region 3 with (fail)
    go_cut [31] (fun v31 wc => ∃ (kq : Nat) (x31_17 : Bool), v31 = .bool x31_17 ∧ Aside0 (w3_ProgDigits.j1 kq a1 l2 x31_17 a0_0 l0_1 l0_2 = some r) ∧ Aside0 (kq ≤ kj3) ∧ Aside0 (wc.heap[gb352]? = some (.cells #[.int .i64 a0_0, (.slice A0_1 l0_1.length c0_1), (.slice A0_2 l0_2.length c0_2)] 25 (0, 0))) ∧ Aside0 (Below w.heap.size w wc))
    case first =>
     have H := HC18.out
     clear HC18
     by_cases c19 : a1 ≥ 0
     ·rw [if_pos c19] at H
      have c19b0 : decide (0 ≤ a1) = true := decide_eq_true c19
      clear c19
      (first | rw [c19b0] | (simp only [i64_w, i32_w]; rw [c19b0]) | skip)
      replace H := Option.bind_eq_some_iff.mp H
      obtain ⟨t356, A200, H⟩ := H
      replace H : (w3_ProgDigits.j1 kj3 a1 l2 (decide (a1 < t356)) a0_0 l0_1 l0_2) = some r := H
      have A20 := Aside0.mk A200
      clear A200
      have H' := Aside0.mk H
      clear H
      obtain ⟨hcz21_0, hcz21_1, hcz21_2, hfz21_0, hfz21_1, hfz21_2⟩ := cf3 BK352.out
      go_wp2_with (first | (go_at_call 18; (with_reducible refine (r3_Space.calls kj3 a0_0 _ _ l0_1 _ _ l0_2 t356 _ ?side1 ?side2 ?side3 ?side4 A20.out).mono ?_); (case side1 => repeat (first | exact (Kd.C_below HR0_1.out HB.out) | with_reducible first | apply Kd.C_alloc | apply Kd.C_drewN | apply Kd.C_drew)); (case side2 => exact HC0_1.out); (case side3 => repeat (first | exact (Kd.C_below HR0_2.out HB.out) | with_reducible first | apply Kd.C_alloc | apply Kd.C_drewN | apply Kd.C_drew)); (case side4 => exact HC0_2.out); rintro e w22 ⟨rfl, hb⟩; have n0_ := Aside0.mk (blk_below (g := gb352) (o := .cells #[.int .i64 a0_0, .slice A0_1 l0_1.length c0_1, .slice A0_2 l0_2.length c0_2] 25 (0, 0)) (by (with_reducible repeat (first | refine kdN ?_ _ | refine kdr ?_ | refine kal ?_ _)); exact BK352.out) hb); have n1_ := Aside0.mk (bsp (by repeat (first | (with_reducible first | exact HB.out | apply bal | apply bdN | apply bd1 | refine bst ?_ GE352.out) | exact HB.out)) hb); clear BK352; clear HB; have BK352 := n0_; have HB := n1_; clear n0_ n1_; (try clear hb); (try clear hb2); (try clear hk); (try clear hi)))
      go_meet
      case rel => exact ⟨_, (decide (a1 < t356)), (by first | rfl | (simp; done) | (simp [*]; done)), H', ⟨by have := HJ3.out; first | omega | exact Nat.le_refl _⟩, ⟨by (with_reducible repeat (first | refine kdN ?_ _ | refine kdr ?_ | refine kal ?_ _)); exact BK352.out⟩, ⟨by repeat (first | (with_reducible first | exact HB.out | apply bal | apply bdN | apply bd1 | refine bst ?_ GE352.out) | exact HB.out)⟩⟩
     ·rw [if_neg c19] at H
      have c19b0 : decide (0 ≤ a1) = false := decide_eq_false c19
      clear c19
      (first | rw [c19b0] | (simp only [i64_w, i32_w]; rw [c19b0]) | skip)
      have H' := Aside0.mk H
      clear H
      go_wp2
      go_meet
      case rel => exact ⟨_, (false), (by first | rfl | (simp; done) | (simp [*]; done)), H', ⟨by have := HJ3.out; first | omega | exact Nat.le_refl _⟩, ⟨by (with_reducible repeat (first | refine kdN ?_ _ | refine kdr ?_ | refine kal ?_ _)); exact BK352.out⟩, ⟨by repeat (first | (with_reducible first | exact HB.out | apply bal | apply bdN | apply bd1 | refine bst ?_ GE352.out) | exact HB.out)⟩⟩
    case rest =>
     clear HC18
     try clear c1
     try clear c2
     try clear p2
     try clear c4
     try clear c7
     try clear c12
     try clear c15
     try clear c16
     try clear c19
     try clear c19b0
     try clear hcz11_0
     try clear hcz11_1
     try clear hcz11_2
     try clear hcz13_0
     try clear hcz13_1
     try clear hcz13_2
     try clear hcz21_0
     try clear hcz21_1
     try clear hcz21_2
     try clear hcz9_0
     try clear hcz9_1
     try clear hcz9_2
     try clear hfz11_0
     try clear hfz11_1
     try clear hfz11_2
     try clear hfz13_0
     try clear hfz13_1
     try clear hfz13_2
     try clear hfz21_0
     try clear hfz21_1
     try clear hfz21_2
     try clear hfz9_0
     try clear hfz9_1
     try clear hfz9_2
     try clear p2
     obtain ⟨kq, x31_17, rfl, HA, HJ17, BK352, HB⟩ := hcut
     cases kq with
     | zero => exact absurd HA.out (by simp [w3_ProgDigits.j1])
     | succ kj17 =>
      have H := HA.out
      clear HA
      simp only [w3_ProgDigits.j1] at H
      have HC23 := Aside0.mk H
      clear H
      go_upto_if 31 with (fail)
      go_cut [] (fun wc => ∃ (kq : Nat), Aside0 (w3_ProgDigits.j2 kq l2 a0_0 l0_1 l0_2 = some r) ∧ Aside0 (kq ≤ kj17) ∧ Aside0 (wc.heap[gb352]? = some (.cells #[.int .i64 a0_0, (.slice A0_1 l0_1.length c0_1), (.slice A0_2 l0_2.length c0_2)] 25 (0, 0))) ∧ Aside0 (Below w.heap.size w wc))
      case first =>
       have H := HC23.out
       clear HC23
       by_cases c24 : x31_17 = true
       ·subst c24
        have H1 : ((prog_Store.f kj17 a0_0 l0_1 l0_2 a1).bind fun bt357 => ((prog_Index.f kj17 a0_0 l0_1 l0_2 bt357.1).bind fun bt361 => (if bt357.2 = 0 then (if bt361.2 = 0 then (if bt361.1 = a1 then (w3_ProgDigits.j2 kj17 l2 a0_0 l0_1 l0_2) else (some false)) else (some false)) else (some false)))) = some r := by rw [if_pos rfl] at H; exact H
        clear H
        have H := H1
        clear H1
        replace H := Option.bind_eq_some_iff.mp H
        obtain ⟨⟨t357, t360⟩, A250, H⟩ := H
        replace H : ((prog_Index.f kj17 a0_0 l0_1 l0_2 t357).bind fun bt361 => (if t360 = 0 then (if bt361.2 = 0 then (if bt361.1 = a1 then (w3_ProgDigits.j2 kj17 l2 a0_0 l0_1 l0_2) else (some false)) else (some false)) else (some false))) = some r := H
        have A25 := Aside0.mk A250
        clear A250
        replace H := Option.bind_eq_some_iff.mp H
        obtain ⟨⟨t361, t362⟩, A260, H⟩ := H
        replace H : (if t360 = 0 then (if t362 = 0 then (if t361 = a1 then (w3_ProgDigits.j2 kj17 l2 a0_0 l0_1 l0_2) else (some false)) else (some false)) else (some false)) = some r := H
        have A26 := Aside0.mk A260
        clear A260
        by_cases c27 : t360 = 0
        ·rw [if_pos c27] at H
         have c27b0 : (t360 == 0) = true := beq_iff_eq.mpr c27
         have c27b1 : (t360 != 0) = false := bne_eq_false_iff_eq.mpr c27
         clear c27
         (first | rw [c27b0] | (simp only [i64_w, i32_w]; rw [c27b0]) | skip)
         by_cases c28 : t362 = 0
         ·rw [if_pos c28] at H
          have c28b0 : (t362 == 0) = true := beq_iff_eq.mpr c28
          have c28b1 : (t362 != 0) = false := bne_eq_false_iff_eq.mpr c28
          clear c28
          by_cases c29 : t361 = a1
          ·rw [if_pos c29] at H
           have c29b0 : (t361 == a1) = true := beq_iff_eq.mpr c29
           have c29b1 : (t361 != a1) = false := bne_eq_false_iff_eq.mpr c29
           clear c29
           have H' := Aside0.mk H
           clear H
           obtain ⟨hcz30_0, hcz30_1, hcz30_2, hfz30_0, hfz30_1, hfz30_2⟩ := cf3 BK352.out
           go_wp2_with (first | ((with_reducible refine gate_callee (f := 14) rfl ?_); refine goesL_ (some 35) rfl rfl Try.func14 (by kernel_rfl) rfl #[.agg #[.int .i64 a0_0, .slice A0_1 l0_1.length c0_1, .slice A0_2 l0_2.length c0_2], .int .i64 a1] rfl (by (try simp only [List.map_toArray, List.map_cons, List.map_nil]); first | done | rfl | (simp only [List.length_drop, List.length_take]; rfl)) ?_; (with_reducible refine (prog_Store.calls kj17 a0_0 _ _ l0_1 _ _ l0_2 a1 t357 t360 _ ?side1 ?side2 ?side3 ?side4 A25.out).mono ?_); (case side1 => repeat (first | exact (Kd.C_below HR0_1.out HB.out) | with_reducible first | apply Kd.C_alloc | apply Kd.C_drewN | apply Kd.C_drew)); (case side2 => exact HC0_1.out); (case side3 => repeat (first | exact (Kd.C_below HR0_2.out HB.out) | with_reducible first | apply Kd.C_alloc | apply Kd.C_drewN | apply Kd.C_drew)); (case side4 => exact HC0_2.out); rintro e w31 ⟨v358, rfl, ho0, hb⟩; refine ⟨_, rfl, ?_⟩; have n0_ := Aside0.mk (Kd.R_lower ho0 (bsz (by repeat (first | (with_reducible first | exact HB.out | apply bal | apply bdN | apply bd1 | refine bst ?_ GE352.out) | exact HB.out)))); have n1_ := Aside0.mk (blk_below (g := gb352) (o := .cells #[.int .i64 a0_0, .slice A0_1 l0_1.length c0_1, .slice A0_2 l0_2.length c0_2] 25 (0, 0)) (by (with_reducible repeat (first | refine kdN ?_ _ | refine kdr ?_ | refine kal ?_ _)); exact BK352.out) hb); have n2_ := Aside0.mk (bsp (by repeat (first | (with_reducible first | exact HB.out | apply bal | apply bdN | apply bd1 | refine bst ?_ GE352.out) | exact HB.out)) hb); clear BK352; clear HB; have HO359 := n0_; have BK352 := n1_; have HB := n2_; clear n0_ n1_ n2_; (try clear hb); (try clear hb2); (try clear hk); (try clear hi); (try clear ho0); obtain ⟨hcz32_0, hcz32_1, hcz32_2, hfz32_0, hfz32_1, hfz32_2⟩ := cf3 BK352.out; obtain ⟨Ao33, co33, eo33⟩ := Kd.R_slice HO359.out; subst eo33) | ((with_reducible refine gate_callee (f := 15) rfl ?_); refine goesL_ (some 41) rfl rfl Try.func15 (by kernel_rfl) rfl #[.agg #[.int .i64 a0_0, .slice A0_1 l0_1.length c0_1, .slice A0_2 l0_2.length c0_2], .slice Ao33 t357.length co33] rfl (by (try simp only [List.map_toArray, List.map_cons, List.map_nil]); first | done | rfl | (simp only [List.length_drop, List.length_take]; rfl)) ?_; (with_reducible refine (prog_Index.calls kj17 a0_0 _ _ l0_1 _ _ l0_2 _ _ t357 t361 t362 _ ?side1 ?side2 ?side3 ?side4 ?side5 ?side6 A26.out).mono ?_); (case side1 => repeat (first | exact (Kd.C_below HR0_1.out HB.out) | with_reducible first | apply Kd.C_alloc | apply Kd.C_drewN | apply Kd.C_drew)); (case side2 => exact HC0_1.out); (case side3 => repeat (first | exact (Kd.C_below HR0_2.out HB.out) | with_reducible first | apply Kd.C_alloc | apply Kd.C_drewN | apply Kd.C_drew)); (case side4 => exact HC0_2.out); (case side5 => repeat (first | exact (Kd.R_reads' HO359.out).2.2 | with_reducible first | apply Kd.C_alloc | apply Kd.C_drewN | apply Kd.C_drew)); (case side6 => exact (Kd.R_reads' HO359.out).2.1); rintro e w34 ⟨rfl, hb⟩; refine ⟨_, rfl, ?_⟩; have n0_ := Aside0.mk (Kd.R_below (by (with_reducible repeat (first | apply Kd.R_alloc | apply Kd.R_drewN | apply Kd.R_drew)); exact HO359.out) hb); have n1_ := Aside0.mk (blk_below (g := gb352) (o := .cells #[.int .i64 a0_0, .slice A0_1 l0_1.length c0_1, .slice A0_2 l0_2.length c0_2] 25 (0, 0)) (by (with_reducible repeat (first | refine kdN ?_ _ | refine kdr ?_ | refine kal ?_ _)); exact BK352.out) hb); have n2_ := Aside0.mk (bsp (by repeat (first | (with_reducible first | exact HB.out | apply bal | apply bdN | apply bd1 | refine bst ?_ GE352.out) | exact HB.out)) hb); clear HO359; clear BK352; clear HB; have HO359 := n0_; have BK352 := n1_; have HB := n2_; clear n0_ n1_ n2_; (try clear hb); (try clear hb2); (try clear hk); (try clear hi)))
           go_meet
           case rel => exact ⟨_, H', ⟨by have := HJ3.out; have := HJ17.out; first | omega | exact Nat.le_refl _⟩, ⟨by (with_reducible repeat (first | refine kdN ?_ _ | refine kdr ?_ | refine kal ?_ _)); exact BK352.out⟩, ⟨by repeat (first | (with_reducible first | exact HB.out | apply bal | apply bdN | apply bd1 | refine bst ?_ GE352.out) | exact HB.out)⟩⟩
          ·rw [if_neg c29] at H
           have c29b0 : (t361 == a1) = false := beq_eq_false_iff_ne.mpr c29
           have c29b1 : (t361 != a1) = true := bne_iff_ne.mpr c29
           exact absurd ((Option.some.inj H).trans hrt) (by decide)
         ·rw [if_neg c28] at H
          have c28b0 : (t362 == 0) = false := beq_eq_false_iff_ne.mpr c28
          have c28b1 : (t362 != 0) = true := bne_iff_ne.mpr c28
          exact absurd ((Option.some.inj H).trans hrt) (by decide)
        ·rw [if_neg c27] at H
         have c27b0 : (t360 == 0) = false := beq_eq_false_iff_ne.mpr c27
         have c27b1 : (t360 != 0) = true := bne_iff_ne.mpr c27
         (first | rw [c27b0] | (simp only [i64_w, i32_w]; rw [c27b0]) | skip)
         exact absurd ((Option.some.inj H).trans hrt) (by decide)
       ·replace c24 := Bool.eq_false_iff.mpr c24
        subst c24
        have H1 : (w3_ProgDigits.j2 kj17 l2 a0_0 l0_1 l0_2) = some r := by rw [if_neg (show ¬ (false = true) by decide)] at H; exact H
        clear H
        have H := H1
        clear H1
        have H' := Aside0.mk H
        clear H
        go_wp2
        go_meet
        case rel => exact ⟨_, H', ⟨by have := HJ3.out; have := HJ17.out; first | omega | exact Nat.le_refl _⟩, ⟨by (with_reducible repeat (first | refine kdN ?_ _ | refine kdr ?_ | refine kal ?_ _)); exact BK352.out⟩, ⟨by repeat (first | (with_reducible first | exact HB.out | apply bal | apply bdN | apply bd1 | refine bst ?_ GE352.out) | exact HB.out)⟩⟩
      case rest =>
       clear HC23
       try clear c1
       try clear c2
       try clear p2
       try clear c4
       try clear c7
       try clear c12
       try clear c14
       try clear c15
       try clear c16
       try clear c19
       try clear c19b0
       try clear c24
       try clear c27
       try clear c27b0
       try clear c27b1
       try clear c28
       try clear c28b0
       try clear c28b1
       try clear c29
       try clear c29b0
       try clear c29b1
       try clear hcz11_0
       try clear hcz11_1
       try clear hcz11_2
       try clear hcz13_0
       try clear hcz13_1
       try clear hcz13_2
       try clear hcz21_0
       try clear hcz21_1
       try clear hcz21_2
       try clear hcz30_0
       try clear hcz30_1
       try clear hcz30_2
       try clear hcz32_0
       try clear hcz32_1
       try clear hcz32_2
       try clear hcz35_0
       try clear hcz35_1
       try clear hcz35_2
       try clear hcz37_0
       try clear hcz37_1
       try clear hcz37_2
       try clear hcz40_0
       try clear hcz40_1
       try clear hcz40_2
       try clear hcz42_0
       try clear hcz42_1
       try clear hcz42_2
       try clear hcz45_0
       try clear hcz45_1
       try clear hcz45_2
       try clear hcz47_0
       try clear hcz47_1
       try clear hcz47_2
       try clear hcz9_0
       try clear hcz9_1
       try clear hcz9_2
       try clear hfz11_0
       try clear hfz11_1
       try clear hfz11_2
       try clear hfz13_0
       try clear hfz13_1
       try clear hfz13_2
       try clear hfz21_0
       try clear hfz21_1
       try clear hfz21_2
       try clear hfz30_0
       try clear hfz30_1
       try clear hfz30_2
       try clear hfz32_0
       try clear hfz32_1
       try clear hfz32_2
       try clear hfz35_0
       try clear hfz35_1
       try clear hfz35_2
       try clear hfz37_0
       try clear hfz37_1
       try clear hfz37_2
       try clear hfz40_0
       try clear hfz40_1
       try clear hfz40_2
       try clear hfz42_0
       try clear hfz42_1
       try clear hfz42_2
       try clear hfz45_0
       try clear hfz45_1
       try clear hfz45_2
       try clear hfz47_0
       try clear hfz47_1
       try clear hfz47_2
       try clear hfz9_0
       try clear hfz9_1
       try clear hfz9_2
       try clear p2
       obtain ⟨kq, HA, HJ22, BK352, HB⟩ := hcut
       cases kq with
       | zero => exact absurd HA.out (by simp [w3_ProgDigits.j2])
       | succ kj22 =>
        have H := HA.out
        clear HA
        simp only [w3_ProgDigits.j2] at H
        replace H := Option.bind_eq_some_iff.mp H
        obtain ⟨t363, A500, H⟩ := H
        replace H : (if t363 = true then ((prog_Index.f kj22 a0_0 l0_1 l0_2 l2).bind fun bt365 => ((prog_Store.f kj22 a0_0 l0_1 l0_2 bt365.1).bind fun bt367 => (if bt365.2 = 0 then (if bt367.2 = 0 then ((r1_Same.f kj22 bt367.1 l2).bind fun t371 => (if t371 = true then ((w3_awake.f kj22).bind fun t372 => (some t372)) else (some false))) else (some false)) else (some false)))) else ((w3_awake.f kj22).bind fun t364 => (some t364))) = some r := H
        have A50 := Aside0.mk A500
        clear A500
        by_cases c51 : t363 = true
        ·subst c51
         have H1 : ((prog_Index.f kj22 a0_0 l0_1 l0_2 l2).bind fun bt365 => ((prog_Store.f kj22 a0_0 l0_1 l0_2 bt365.1).bind fun bt367 => (if bt365.2 = 0 then (if bt367.2 = 0 then ((r1_Same.f kj22 bt367.1 l2).bind fun t371 => (if t371 = true then ((w3_awake.f kj22).bind fun t372 => (some t372)) else (some false))) else (some false)) else (some false)))) = some r := by rw [if_pos rfl] at H; exact H
         clear H
         have H := H1
         clear H1
         replace H := Option.bind_eq_some_iff.mp H
         obtain ⟨⟨t365, t366⟩, A520, H⟩ := H
         replace H : ((prog_Store.f kj22 a0_0 l0_1 l0_2 t365).bind fun bt367 => (if t366 = 0 then (if bt367.2 = 0 then ((r1_Same.f kj22 bt367.1 l2).bind fun t371 => (if t371 = true then ((w3_awake.f kj22).bind fun t372 => (some t372)) else (some false))) else (some false)) else (some false))) = some r := H
         have A52 := Aside0.mk A520
         clear A520
         replace H := Option.bind_eq_some_iff.mp H
         obtain ⟨⟨t367, t370⟩, A530, H⟩ := H
         replace H : (if t366 = 0 then (if t370 = 0 then ((r1_Same.f kj22 t367 l2).bind fun t371 => (if t371 = true then ((w3_awake.f kj22).bind fun t372 => (some t372)) else (some false))) else (some false)) else (some false)) = some r := H
         have A53 := Aside0.mk A530
         clear A530
         by_cases c54 : t366 = 0
         ·rw [if_pos c54] at H
          have c54b0 : (t366 == 0) = true := beq_iff_eq.mpr c54
          have c54b1 : (t366 != 0) = false := bne_eq_false_iff_eq.mpr c54
          clear c54
          by_cases c55 : t370 = 0
          ·rw [if_pos c55] at H
           have c55b0 : (t370 == 0) = true := beq_iff_eq.mpr c55
           have c55b1 : (t370 != 0) = false := bne_eq_false_iff_eq.mpr c55
           clear c55
           replace H := Option.bind_eq_some_iff.mp H
           obtain ⟨t371, A560, H⟩ := H
           replace H : (if t371 = true then ((w3_awake.f kj22).bind fun t372 => (some t372)) else (some false)) = some r := H
           have A56 := Aside0.mk A560
           clear A560
           by_cases c57 : t371 = true
           ·subst c57
            have H1 : ((w3_awake.f kj22).bind fun t372 => (some t372)) = some r := by rw [if_pos rfl] at H; exact H
            clear H
            have H := H1
            clear H1
            replace H := Option.bind_eq_some_iff.mp H
            obtain ⟨t372, A580, H⟩ := H
            replace H : (some t372) = some r := H
            have A58 := Aside0.mk A580
            clear A580
            obtain rfl := Option.some.inj H
            obtain ⟨hcz59_0, hcz59_1, hcz59_2, hfz59_0, hfz59_1, hfz59_2⟩ := cf3 BK352.out
            go_wp2_with (first | ((with_reducible refine gate_callee (f := 21) rfl ?_); refine goesL_ (some 60) rfl rfl Try.func21 (by kernel_rfl) rfl #[.int .i64 a0_0, .slice A0_1 l0_1.length c0_1, .slice A2 l2.length c2] rfl (by (try simp only [List.map_toArray, List.map_cons, List.map_nil]); first | done | rfl | (simp only [List.length_drop, List.length_take]; rfl)) ?_; (with_reducible refine (r2_Store.calls kj22 a0_0 _ _ l0_1 _ _ l2 true _ ?side1 ?side2 ?side3 ?side4 A50.out).mono ?_); (case side1 => repeat (first | exact (Kd.C_below HR0_1.out HB.out) | with_reducible first | apply Kd.C_alloc | apply Kd.C_drewN | apply Kd.C_drew)); (case side2 => exact HC0_1.out); (case side3 => repeat (first | exact (Kd.C_below HR2.out HB.out) | with_reducible first | apply Kd.C_alloc | apply Kd.C_drewN | apply Kd.C_drew)); (case side4 => exact HC2.out); rintro e w' ⟨rfl, ⟨nd, rfl⟩⟩; refine ⟨_, rfl, ?_⟩) | ((with_reducible refine gate_callee (f := 15) rfl ?_); refine goesL_ (some 66) rfl rfl Try.func15 (by kernel_rfl) rfl #[.agg #[.int .i64 a0_0, .slice A0_1 l0_1.length c0_1, .slice A0_2 l0_2.length c0_2], .slice A2 l2.length c2] rfl (by (try simp only [List.map_toArray, List.map_cons, List.map_nil]); first | done | rfl | (simp only [List.length_drop, List.length_take]; rfl)) ?_; (with_reducible refine (prog_Index.calls kj22 a0_0 _ _ l0_1 _ _ l0_2 _ _ l2 t365 t366 _ ?side1 ?side2 ?side3 ?side4 ?side5 ?side6 A52.out).mono ?_); (case side1 => repeat (first | exact (Kd.C_below HR0_1.out (by repeat (first | (with_reducible first | exact HB.out | apply bal | apply bdN | apply bd1 | refine bst ?_ GE352.out) | exact HB.out))) | with_reducible first | apply Kd.C_alloc | apply Kd.C_drewN | apply Kd.C_drew)); (case side2 => exact HC0_1.out); (case side3 => repeat (first | exact (Kd.C_below HR0_2.out (by repeat (first | (with_reducible first | exact HB.out | apply bal | apply bdN | apply bd1 | refine bst ?_ GE352.out) | exact HB.out))) | with_reducible first | apply Kd.C_alloc | apply Kd.C_drewN | apply Kd.C_drew)); (case side4 => exact HC0_2.out); (case side5 => repeat (first | exact (Kd.C_below HR2.out (by repeat (first | (with_reducible first | exact HB.out | apply bal | apply bdN | apply bd1 | refine bst ?_ GE352.out) | exact HB.out))) | with_reducible first | apply Kd.C_alloc | apply Kd.C_drewN | apply Kd.C_drew)); (case side6 => exact HC2.out); rintro e w60 ⟨rfl, hb⟩; refine ⟨_, rfl, ?_⟩; have n0_ := Aside0.mk (blk_below (g := gb352) (o := .cells #[.int .i64 a0_0, .slice A0_1 l0_1.length c0_1, .slice A0_2 l0_2.length c0_2] 25 (0, 0)) (by (with_reducible repeat (first | refine kdN ?_ _ | refine kdr ?_ | refine kal ?_ _)); exact BK352.out) hb); have n1_ := Aside0.mk (bsp (by repeat (first | (with_reducible first | exact HB.out | apply bal | apply bdN | apply bd1 | refine bst ?_ GE352.out) | exact HB.out)) hb); clear BK352; clear HB; have BK352 := n0_; have HB := n1_; clear n0_ n1_; (try clear hb); (try clear hb2); (try clear hk); (try clear hi); obtain ⟨hcz61_0, hcz61_1, hcz61_2, hfz61_0, hfz61_1, hfz61_2⟩ := cf3 BK352.out) | ((with_reducible refine gate_callee (f := 14) rfl ?_); refine goesL_ (some 72) rfl rfl Try.func14 (by kernel_rfl) rfl #[.agg #[.int .i64 a0_0, .slice A0_1 l0_1.length c0_1, .slice A0_2 l0_2.length c0_2], .int .i64 t365] rfl (by (try simp only [List.map_toArray, List.map_cons, List.map_nil]); first | done | rfl | (simp only [List.length_drop, List.length_take]; rfl)) ?_; (with_reducible refine (prog_Store.calls kj22 a0_0 _ _ l0_1 _ _ l0_2 t365 t367 t370 _ ?side1 ?side2 ?side3 ?side4 A53.out).mono ?_); (case side1 => repeat (first | exact (Kd.C_below HR0_1.out HB.out) | with_reducible first | apply Kd.C_alloc | apply Kd.C_drewN | apply Kd.C_drew)); (case side2 => exact HC0_1.out); (case side3 => repeat (first | exact (Kd.C_below HR0_2.out HB.out) | with_reducible first | apply Kd.C_alloc | apply Kd.C_drewN | apply Kd.C_drew)); (case side4 => exact HC0_2.out); rintro e w62 ⟨v368, rfl, ho0, hb⟩; refine ⟨_, rfl, ?_⟩; have n0_ := Aside0.mk (Kd.R_lower ho0 (bsz (by repeat (first | (with_reducible first | exact HB.out | apply bal | apply bdN | apply bd1 | refine bst ?_ GE352.out) | exact HB.out)))); have n1_ := Aside0.mk (blk_below (g := gb352) (o := .cells #[.int .i64 a0_0, .slice A0_1 l0_1.length c0_1, .slice A0_2 l0_2.length c0_2] 25 (0, 0)) (by (with_reducible repeat (first | refine kdN ?_ _ | refine kdr ?_ | refine kal ?_ _)); exact BK352.out) hb); have n2_ := Aside0.mk (bsp (by repeat (first | (with_reducible first | exact HB.out | apply bal | apply bdN | apply bd1 | refine bst ?_ GE352.out) | exact HB.out)) hb); clear BK352; clear HB; have HO369 := n0_; have BK352 := n1_; have HB := n2_; clear n0_ n1_ n2_; (try clear hb); (try clear hb2); (try clear hk); (try clear hi); (try clear ho0); obtain ⟨Ao63, co63, eo63⟩ := Kd.R_slice HO369.out; subst eo63) | (go_at_call 19; (with_reducible refine (r1_Same.calls kj22 _ _ t367 _ _ l2 true _ ?side1 ?side2 ?side3 ?side4 A56.out).mono ?_); (case side1 => repeat (first | exact (Kd.R_reads' HO369.out).2.2 | with_reducible first | apply Kd.C_alloc | apply Kd.C_drewN | apply Kd.C_drew)); (case side2 => exact (Kd.R_reads' HO369.out).2.1); (case side3 => repeat (first | exact (Kd.C_below HR2.out HB.out) | with_reducible first | apply Kd.C_alloc | apply Kd.C_drewN | apply Kd.C_drew)); (case side4 => exact HC2.out); rintro e w' ⟨rfl, ⟨nd, rfl⟩⟩) | (go_at_call 12; (with_reducible refine (w3_awake.calls kj22  t372 _ A58.out).mono ?_); rintro e w64 ⟨rfl, hb⟩; have n0_ := Aside0.mk (Kd.R_below (by (with_reducible repeat (first | apply Kd.R_alloc | apply Kd.R_drewN | apply Kd.R_drew)); exact HO369.out) hb); have n1_ := Aside0.mk (blk_below (g := gb352) (o := .cells #[.int .i64 a0_0, .slice A0_1 l0_1.length c0_1, .slice A0_2 l0_2.length c0_2] 25 (0, 0)) (by (with_reducible repeat (first | refine kdN ?_ _ | refine kdr ?_ | refine kal ?_ _)); exact BK352.out) hb); have n2_ := Aside0.mk (bsp (by repeat (first | (with_reducible first | exact HB.out | apply bal | apply bdN | apply bd1 | refine bst ?_ GE352.out) | exact HB.out)) hb); clear HO369; clear BK352; clear HB; have HO369 := n0_; have BK352 := n1_; have HB := n2_; clear n0_ n1_ n2_; (try clear hb); (try clear hb2); (try clear hk); (try clear hi)))
            go_ret
            exact ⟨by first | rfl | (simp [*] <;> rfl), by repeat (first | (with_reducible first | exact HB.out | apply bal | apply bdN | apply bd1 | refine bst ?_ GE352.out) | exact HB.out)⟩
           ·replace c57 := Bool.eq_false_iff.mpr c57
            subst c57
            have H1 : (some false) = some r := by rw [if_neg (show ¬ (false = true) by decide)] at H; exact H
            clear H
            have H := H1
            clear H1
            exact absurd ((Option.some.inj H).trans hrt) (by decide)
          ·rw [if_neg c55] at H
           have c55b0 : (t370 == 0) = false := beq_eq_false_iff_ne.mpr c55
           have c55b1 : (t370 != 0) = true := bne_iff_ne.mpr c55
           exact absurd ((Option.some.inj H).trans hrt) (by decide)
         ·rw [if_neg c54] at H
          have c54b0 : (t366 == 0) = false := beq_eq_false_iff_ne.mpr c54
          have c54b1 : (t366 != 0) = true := bne_iff_ne.mpr c54
          exact absurd ((Option.some.inj H).trans hrt) (by decide)
        ·replace c51 := Bool.eq_false_iff.mpr c51
         subst c51
         have H1 : ((w3_awake.f kj22).bind fun t364 => (some t364)) = some r := by rw [if_neg (show ¬ (false = true) by decide)] at H; exact H
         clear H
         have H := H1
         clear H1
         replace H := Option.bind_eq_some_iff.mp H
         obtain ⟨t364, A780, H⟩ := H
         replace H : (some t364) = some r := H
         have A78 := Aside0.mk A780
         clear A780
         obtain rfl := Option.some.inj H
         obtain ⟨hcz79_0, hcz79_1, hcz79_2, hfz79_0, hfz79_1, hfz79_2⟩ := cf3 BK352.out
         go_wp2_with (first | ((with_reducible refine gate_callee (f := 21) rfl ?_); refine goesL_ (some 60) rfl rfl Try.func21 (by kernel_rfl) rfl #[.int .i64 a0_0, .slice A0_1 l0_1.length c0_1, .slice A2 l2.length c2] rfl (by (try simp only [List.map_toArray, List.map_cons, List.map_nil]); first | done | rfl | (simp only [List.length_drop, List.length_take]; rfl)) ?_; (with_reducible refine (r2_Store.calls kj22 a0_0 _ _ l0_1 _ _ l2 false _ ?side1 ?side2 ?side3 ?side4 A50.out).mono ?_); (case side1 => repeat (first | exact (Kd.C_below HR0_1.out HB.out) | with_reducible first | apply Kd.C_alloc | apply Kd.C_drewN | apply Kd.C_drew)); (case side2 => exact HC0_1.out); (case side3 => repeat (first | exact (Kd.C_below HR2.out HB.out) | with_reducible first | apply Kd.C_alloc | apply Kd.C_drewN | apply Kd.C_drew)); (case side4 => exact HC2.out); rintro e w' ⟨rfl, ⟨nd, rfl⟩⟩; refine ⟨_, rfl, ?_⟩) | ((with_reducible refine gate_callee (f := 12) rfl ?_); refine goesL_ (some 62) rfl rfl Try.func12 (by kernel_rfl) rfl #[] rfl (by (try simp only [List.map_toArray, List.map_cons, List.map_nil]); first | done | rfl | (simp only [List.length_drop, List.length_take]; rfl)) ?_; (with_reducible refine (w3_awake.calls kj22  t364 _ A78.out).mono ?_); rintro e w80 ⟨rfl, hb⟩; refine ⟨_, rfl, ?_⟩; have n0_ := Aside0.mk (blk_below (g := gb352) (o := .cells #[.int .i64 a0_0, .slice A0_1 l0_1.length c0_1, .slice A0_2 l0_2.length c0_2] 25 (0, 0)) (by (with_reducible repeat (first | refine kdN ?_ _ | refine kdr ?_ | refine kal ?_ _)); exact BK352.out) hb); have n1_ := Aside0.mk (bsp (by repeat (first | (with_reducible first | exact HB.out | apply bal | apply bdN | apply bd1 | refine bst ?_ GE352.out) | exact HB.out)) hb); clear BK352; clear HB; have BK352 := n0_; have HB := n1_; clear n0_ n1_; (try clear hb); (try clear hb2); (try clear hk); (try clear hi)))
         go_ret
         exact ⟨by first | rfl | (simp [*] <;> rfl), by repeat (first | (with_reducible first | exact HB.out | apply bal | apply bdN | apply bd1 | refine bst ?_ GE352.out) | exact HB.out)⟩
theorem awake_tellsD : Tells (fun k => (w3_awake.f k).bind fun t => some t) true := ⟨0, fun _ _ => rfl⟩
theorem digits_law (w : Int) (vars : List S82) (body : List S47) (i : Int) (l : List Int) (hl : body.length ≤ 9223372036854775807) (hg : goodSs body) (hll : l.length ≤ 9223372036854775807) : Tells (fun k => w3_ProgDigits.f k w vars body i l) true := by
  unfold w3_ProgDigits.f
  have ti := pIs_tells w vars body hl hg
  have jt : Tells (fun k => w3_ProgDigits.j0 k i l true w vars body) true := by
    refine Tells.succ ?_
    simp only [w3_ProgDigits.j0]
    exact Tells.ifT (by simp) awake_tellsD
  refine Tells.bind ti ?_
  cases hp : pIs w vars body
  · exact Tells.ifF (by decide) jt
  refine Tells.ifT rfl (Tells.bind (few_tells hp) ?_)
  obtain ⟨h1, h8, hv, h18, c0, c1, m0, m1⟩ := pIs_cs hp
  by_cases hb : w * cs vars ≤ 60
  case neg =>
    rw [decide_eq_false hb]
    exact jt
  rw [decide_eq_true hb]
  have t1r := rspace_tells hp hb
  have ts := Store_is w vars l h1 h8 hv h18 hll
  have hp1 := pow_le8 h1 h8
  have htot := total hp
  have j2 : Tells (fun k => w3_ProgDigits.j2 k l w vars body) true := by
    refine Tells.succ ?_
    simp only [w3_ProgDigits.j2]
    refine Tells.bind ts ?_
    by_cases hs : (decide ((l.length : Int) = cs vars) && valid (2 ^ w.toNat) l) = true
    · have t3 := Index_tells hl hg hp hb l hll
      rw [if_pos hs] at t3
      have hs' := hs
      rw [Bool.and_eq_true, decide_eq_true_eq] at hs'
      have hvl := valid_iff.1 hs'.2
      have hr := idx_range (p := 2 ^ w.toNat) (by omega) l hvl
      have el : l.length = (cs vars).toNat := by omega
      have t2 := Store_ok hl hg hp hb hr.1 (by rw [htot, ← el]; exact hr.2)
      rw [← el, sto_idx (by omega) l hvl] at t2
      refine Tells.ifT hs (Tells.bind t3 (Tells.bind t2 (Tells.ifT rfl (Tells.ifT rfl (Tells.bind (same_tells l hll) (Tells.ifT rfl awake_tellsD))))))
    · exact Tells.ifF hs awake_tellsD
  refine Tells.succ ?_
  simp only [w3_ProgDigits.j0]
  refine Tells.ifF (by simp) ?_
  have jf : Tells (fun k => w3_ProgDigits.j1 k i l false w vars body) true := by
    refine Tells.succ ?_
    simp only [w3_ProgDigits.j1]
    exact Tells.ifF (by simp) j2
  by_cases h0 : i ≥ 0
  case neg => exact Tells.ifF h0 jf
  refine Tells.ifT h0 (Tells.bind t1r ?_)
  by_cases hlt : i < 2 ^ (w * cs vars).toNat
  case neg =>
    rw [decide_eq_false hlt]
    exact jf
  rw [decide_eq_true hlt]
  refine Tells.succ ?_
  simp only [w3_ProgDigits.j1]
  have t2 := Store_ok hl hg hp hb h0 hlt
  have hr := sto_range (p := 2 ^ w.toNat) (by omega) (cs vars).toNat i
  have t3 := Index_tells hl hg hp hb (sto (2 ^ w.toNat) (cs vars).toNat i) (by rw [sto_length]; omega)
  rw [if_pos (by rw [Bool.and_eq_true, decide_eq_true_eq, sto_length]; exact ⟨by omega, valid_iff.2 hr⟩), idx_sto (by omega) _ i h0 (by rw [← htot]; exact hlt)] at t3
  exact Tells.ifT (by simp) (Tells.bind t2 (Tells.bind t3 (Tells.ifT rfl (Tells.ifT rfl (Tells.ifT rfl j2)))))
end Go.Proofs.Ytffcpbgbhkbplaa.Print
