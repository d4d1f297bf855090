/- For every program, number and list the law ProgStores returns true, and what came in reads as before. No condition. -/
import Derived.Test.YtffcpbgbhkbplaaB6
import Derived.Laws.BitsLemmas
namespace Go.Proofs.Ytffcpbgbhkbplaa.Print
open Go.RowKit Go.Proofs.YtffcpbgbhkbplaaW.PrintWords Go.Proofs.YtffcpbgbhkbplaaW.PrintLast Go.Proofs.YtffcpbgbhkbplaaW.PrintMore
attribute [local go_sem] max2_int min2_int max_two min_two max_three min_three max_four min_four
set_option linter.unusedVariables false
set_option linter.unusedSimpArgs false
def r2_First.l0 : Nat → List (S82) → Int → Int → Int → Option (Int)
 | 0, _, _, _, _ => none
 | k + 1, x0, x1, x5, x6 => if x6 < x1 then (if 0 ≤ x6 then (if x6 < (x0.length : Int) then (r2_First.l0 k x0 x1 (wrap64 (x5 + ((rd_T82 x0 x6).f2))) (wrap64 (x6 + 1))) else (none)) else (none)) else (some x5)
def r2_First.f (k : Nat) (l0 : List (S82)) (a1 : Int) : Option (Int) := r2_First.l0 k l0 a1 0 0
set_option maxHeartbeats 8000000 in
set_option maxRecDepth 100000 in
theorem r2_First.calls (k : Nat) (A0 : Option Addr) (c0 : Nat) (l0 : List (S82)) (a1 : Int) (r : Int) (w : World) (hr0 : Kd.C k82 w A0 l0.length l0) (hc0 : l0.length ≤ c0) (h : r2_First.f k l0 a1 = some r) :
  Calls Try.prog 51 #[.slice A0 l0.length c0, .int .i64 a1] w fun e w' => e = .returned (.int .i64 r) ∧ Drawn0 w w' := by
 have HR0 := Aside0.mk hr0
 have HC0 := Aside0.mk hc0
 clear hr0 hc0
 have H : (r2_First.l0 k l0 a1 0 0) = some r := h
 clear h
 have H' := Aside0.mk H
 clear H
 go_enter Try.func51, Try.ntmps51
 go_wp2
 go_loopg [5, 6] k (fun kq v5 v6 w' => ∃ (x5_1 : Int) (x6_1 : Int), v5 = .int .i64 x5_1 ∧ v6 = .int .i64 x6_1 ∧ Aside0 (r2_First.l0 kq l0 a1 x5_1 x6_1 = some r) ∧ Aside0 (kq ≤ k) ∧ Drawn0 w w')
 case atStart => exact ⟨(0), (0), (by first | rfl | (simp; done) | (simp [*]; done)), (by first | rfl | (simp; done) | (simp [*]; done)), H', ⟨Nat.le_refl _⟩, by repeat (first | exact Drawn0.refl _ | apply Drawn0.step)⟩
 case round =>
  clear H'
  try clear p2
  obtain ⟨x5_1, x6_1, rfl, rfl, HA, HK1, ⟨m1, rfl⟩⟩ := hrel
  cases gk with
  | zero => exact absurd HA.out (by simp [r2_First.l0])
  | succ k1 =>
   have H := HA.out
   clear HA
   simp only [r2_First.l0] at H
   by_cases c3 : x6_1 < a1
   ·rw [if_pos c3] at H
    have c3b0 : decide (x6_1 < a1) = true := decide_eq_true c3
    clear c3
    by_cases c4 : 0 ≤ x6_1
    ·rw [if_pos c4] at H
     have c4b0 : decide (0 ≤ x6_1) = true := decide_eq_true c4
     clear c4
     by_cases c5 : x6_1 < (l0.length : Int)
     ·rw [if_pos c5] at H
      have c5b0 : decide (x6_1 < (l0.length : Int)) = true := decide_eq_true c5
      clear c5
      have H' := Aside0.mk H
      clear H
      have p305 : 0 ≤ (x6_1 : Int) := of_decide_eq_true (by first | (with_reducible assumption) | assumption)
      have q305 : x6_1 < (l0.length : Int) := of_decide_eq_true (by first | (with_reducible assumption) | assumption)
      obtain ⟨ad305, e305, hx305_0, hx305_1, hx305_2⟩ := at_T82 HR0.out x6_1 p305 q305
      cases e305
      replace p305 := eq_true p305
      replace q305 := eq_true q305
      go_wp2
      go_roundg k1
      case measure => have := HK1.out; omega
      case rel => exact ⟨(wrap64 (x5_1 + ((rd_T82 l0 x6_1).f2))), (wrap64 (x6_1 + 1)), (by first | rfl | (simp; done) | (simp [*]; done)), (by first | rfl | (simp; done) | (simp [*]; done)), H', ⟨by have := HK1.out; omega⟩, by repeat (first | exact Drawn0.refl _ | apply Drawn0.step)⟩
     ·rw [if_neg c5] at H
      exact absurd H (by simp)
    ·rw [if_neg c4] at H
     exact absurd H (by simp)
   ·rw [if_neg c3] at H
    have c3b0 : decide (x6_1 < a1) = false := decide_eq_false c3
    clear c3
    obtain rfl := Option.some.inj H
    go_wp2
    go_ret
    exact ⟨by first | rfl | (simp; done) | (simp [*]; done), by repeat (first | exact Drawn0.refl _ | apply Drawn0.step)⟩
def cs (l : List S82) : Int := (l.map (·.f2)).sum
theorem cs_nil : cs [] = 0 := rfl
theorem cs_cons (v : S82) (r : List S82) : cs (v :: r) = v.f2 + cs r := by unfold cs; rw [List.map_cons, List.sum_cons]
theorem cs_bound : ∀ (l : List S82), (∀ v ∈ l, 1 ≤ v.f2 ∧ v.f2 ≤ 8) → 0 ≤ cs l ∧ cs l ≤ 8 * l.length
  | [], _ => by rw [cs_nil]; simp
  | v :: r, h => by
    have h1 := h v (by simp)
    have h2 := cs_bound r (fun u hu => h u (by simp [hu]))
    rw [cs_cons, List.length_cons]
    omega
theorem cells_loop : ∀ (suf pre : List S82) (acc : Int), (∀ v ∈ suf, 1 ≤ v.f2 ∧ v.f2 ≤ 8) → (pre ++ suf).length ≤ 1000 → 0 ≤ acc → acc + 8 * suf.length ≤ 1000000 →
    Tells (fun k => prog_cells.l0 k acc (pre ++ suf) ((pre ++ suf).length : Int) (pre.length : Int)) (acc + cs suf)
  | [], pre, acc, _, _, _, _ => by
    refine Tells.succ ?_
    simp only [prog_cells.l0, pre_nlt, if_false]
    rw [cs_nil, Int.add_zero]
    exact Tells.pure _
  | v :: r, pre, acc, hv, hl, h0, h1 => by
    refine Tells.succ ?_
    have hv1 := hv v (by simp)
    rw [List.length_cons] at h1
    simp only [prog_cells.l0, pre_lt, pre_pos, if_true, rdV_mid]
    have t := cells_loop r (pre ++ [v]) (acc + v.f2) (fun u hu => hv u (by simp [hu])) (by rw [← pre_app]; exact hl) (by omega) (by omega)
    rw [← pre_app] at t
    rw [w64 (n := acc + v.f2) (by omega) (by omega), pre_next pre v r (by omega), cs_cons, ← Int.add_assoc]
    exact t
theorem cells_tells (w : Int) (vars : List S82) (l2 : List S47) (hv : ∀ v ∈ vars, 1 ≤ v.f2 ∧ v.f2 ≤ 8) (hl : vars.length ≤ 18) : Tells (fun k => prog_cells.f k w vars l2) (cs vars) := by
  unfold prog_cells.f
  have := cells_loop vars [] 0 hv (by rw [List.nil_append]; omega) (by decide) (by omega)
  rw [Int.zero_add] at this
  exact this
theorem first_loop (tail : List S82) : ∀ (mid pre : List S82) (acc : Int), (∀ v ∈ mid, 1 ≤ v.f2 ∧ v.f2 ≤ 8) → (pre ++ (mid ++ tail)).length ≤ 1000 → 0 ≤ acc → acc + 8 * mid.length ≤ 1000000 →
    Tells (fun k => r2_First.l0 k (pre ++ (mid ++ tail)) ((pre.length + mid.length : Nat) : Int) acc (pre.length : Int)) (acc + cs mid)
  | [], pre, acc, _, _, _, _ => by
    refine Tells.succ ?_
    have : ¬ (pre.length : Int) < ((pre.length + ([] : List S82).length : Nat) : Int) := by rw [List.length_nil]; omega
    simp only [r2_First.l0, this, if_false]
    rw [cs_nil, Int.add_zero]
    exact Tells.pure _
  | v :: r, pre, acc, hv, hl, h0, h1 => by
    refine Tells.succ ?_
    have hv1 := hv v (by simp)
    rw [List.length_cons] at h1
    have hlt : (pre.length : Int) < ((pre.length + (v :: r).length : Nat) : Int) := by rw [List.length_cons]; omega
    have hl' : (pre ++ v :: (r ++ tail)).length ≤ 1000 := hl
    simp only [r2_First.l0, hlt, List.cons_append, pre_lt, pre_pos, if_true, rdV_mid]
    have t := first_loop tail r (pre ++ [v]) (acc + v.f2) (fun u hu => hv u (by simp [hu])) (by rw [← pre_app]; exact hl') (by omega) (by omega)
    rw [← pre_app] at t
    have e : (pre ++ [v]).length + r.length = pre.length + (v :: r).length := by rw [List.length_append, List.length_singleton, List.length_cons]; omega
    rw [e] at t
    rw [w64 (n := acc + v.f2) (by omega) (by omega), pre_next pre v (r ++ tail) (by omega), cs_cons, ← Int.add_assoc]
    exact t
theorem first_tells (vars : List S82) (n : Int) (h0 : 0 ≤ n) (hn : n ≤ (vars.length : Int)) (hv : ∀ v ∈ vars, 1 ≤ v.f2 ∧ v.f2 ≤ 8) (hl : vars.length ≤ 18) : Tells (fun k => r2_First.f k vars n) (cs (vars.take n.toNat)) := by
  unfold r2_First.f
  have := first_loop (vars.drop n.toNat) (vars.take n.toNat) [] 0 (fun v h => hv v (List.mem_of_mem_take h)) (by rw [List.nil_append, List.take_append_drop]; omega) (by decide) (by have := List.length_take_le n.toNat vars; omega)
  rw [List.nil_append, List.take_append_drop, Int.zero_add, List.length_take, List.length_nil] at this
  have e : ((0 + min n.toNat vars.length : Nat) : Int) = n := by omega
  rw [e] at this
  exact this
theorem first_all (vars : List S82) (hv : ∀ v ∈ vars, 1 ≤ v.f2 ∧ v.f2 ≤ 8) (hl : vars.length ≤ 18) : Tells (fun k => r2_First.f k vars (vars.length : Int)) (cs vars) := by
  have := first_tells vars (vars.length : Int) (by omega) (by omega) hv hl
  rw [Int.toNat_natCast, List.take_length] at this
  exact this
def r1_Words.l0 : Nat → Int → List Int → Int → Option (Bool)
 | 0, _, _, _ => none
 | k + 1, x0, x1, x5 => if x5 < (x1.length : Int) then (if 0 ≤ x5 then ((r1_Word.f k x0 (rd x1 x5)).bind fun t321 => (if t321 = true then (r1_Words.l0 k x0 x1 (wrap64 (x5 + 1))) else (some false))) else (none)) else (some true)
def r1_Words.f (k : Nat) (a0 : Int) (l1 : List Int) : Option (Bool) := r1_Words.l0 k a0 l1 0
set_option maxHeartbeats 8000000 in
set_option maxRecDepth 100000 in
theorem r1_Words.calls (k : Nat) (a0 : Int) (A1 : Option Addr) (c1 : Nat) (l1 : List Int) (r : Bool) (w : World) (hr1 : Kd.C (Kd.int .i64) w A1 l1.length l1) (hc1 : l1.length ≤ c1) (h : r1_Words.f k a0 l1 = some r) :
  Calls Try.prog 52 #[.int .i64 a0, .slice A1 l1.length c1] w fun e w' => e = .returned (.bool r) ∧ Drawn0 w w' := by
 have HR1 := Aside0.mk hr1
 have HC1 := Aside0.mk hc1
 clear hr1 hc1
 have H : (r1_Words.l0 k a0 l1 0) = some r := h
 clear h
 have H' := Aside0.mk H
 clear H
 go_enter Try.func52, Try.ntmps52
 go_wp2
 go_loopg [5] k (fun kq v5 w' => ∃ (x5_1 : Int), v5 = .int .i64 x5_1 ∧ Aside0 (r1_Words.l0 kq a0 l1 x5_1 = some r) ∧ Aside0 (kq ≤ k) ∧ Drawn0 w w')
 case atStart => exact ⟨(0), (by first | rfl | (simp; done) | (simp [*]; done)), H', ⟨Nat.le_refl _⟩, by repeat (first | exact Drawn0.refl _ | apply Drawn0.step)⟩
 case round =>
  clear H'
  try clear c1
  try clear p2
  obtain ⟨x5_1, rfl, HA, HK1, ⟨m1, rfl⟩⟩ := hrel
  cases gk with
  | zero => exact absurd HA.out (by simp [r1_Words.l0])
  | succ k1 =>
   have H := HA.out
   clear HA
   simp only [r1_Words.l0] at H
   by_cases c3 : x5_1 < (l1.length : Int)
   ·rw [if_pos c3] at H
    have c3b0 : decide (x5_1 < (l1.length : Int)) = true := decide_eq_true c3
    clear c3
    by_cases c4 : 0 ≤ x5_1
    ·rw [if_pos c4] at H
     have c4b0 : decide (0 ≤ x5_1) = true := decide_eq_true c4
     clear c4
     replace H := Option.bind_eq_some_iff.mp H
     obtain ⟨t321, A50, H⟩ := H
     replace H : (if t321 = true then (r1_Words.l0 k1 a0 l1 (wrap64 (x5_1 + 1))) else (some false)) = some r := H
     have A5 := Aside0.mk A50
     clear A50
     by_cases c6 : t321 = true
     ·subst c6
      have H1 : (r1_Words.l0 k1 a0 l1 (wrap64 (x5_1 + 1))) = some r := by rw [if_pos rfl] at H; exact H
      clear H
      have H := H1
      clear H1
      have H' := Aside0.mk H
      clear H
      have p320 : 0 ≤ (x5_1 : Int) := of_decide_eq_true (by first | (with_reducible assumption) | assumption)
      have q320 : x5_1 < (l1.length : Int) := of_decide_eq_true (by first | (with_reducible assumption) | assumption)
      obtain ⟨ad320, e320, hx320_0⟩ := Kd.at_int HR1.out x5_1 p320 q320
      cases e320
      replace p320 := eq_true p320
      replace q320 := eq_true q320
      go_wp2_with (first | ((with_reducible refine gate_callee (f := 75) rfl ?_); refine goesL_ (some 17) rfl rfl Try.func75 (by kernel_rfl) rfl #[.int .i64 a0, .int .i64 (rd l1 x5_1)] rfl (by (try simp only [List.map_toArray, List.map_cons, List.map_nil]); first | done | rfl | (simp only [List.length_drop, List.length_take]; rfl)) ?_; (with_reducible refine (r1_Word.calls k1 a0 (rd l1 x5_1) true _ A5.out).mono ?_); rintro e w' ⟨rfl, ⟨nd, rfl⟩⟩; refine ⟨_, rfl, ?_⟩))
      go_roundg k1
      case measure => have := HK1.out; omega
      case rel => exact ⟨(wrap64 (x5_1 + 1)), (by first | rfl | (simp; done) | (simp [*]; done)), H', ⟨by have := HK1.out; omega⟩, by repeat (first | exact Drawn0.refl _ | apply Drawn0.step)⟩
     ·replace c6 := Bool.eq_false_iff.mpr c6
      subst c6
      have H1 : (some false) = some r := by rw [if_neg (show ¬ (false = true) by decide)] at H; exact H
      clear H
      have H := H1
      clear H1
      obtain rfl := Option.some.inj H
      have p320 : 0 ≤ (x5_1 : Int) := of_decide_eq_true (by first | (with_reducible assumption) | assumption)
      have q320 : x5_1 < (l1.length : Int) := of_decide_eq_true (by first | (with_reducible assumption) | assumption)
      obtain ⟨ad320, e320, hx320_0⟩ := Kd.at_int HR1.out x5_1 p320 q320
      cases e320
      replace p320 := eq_true p320
      replace q320 := eq_true q320
      go_wp2_with (first | ((with_reducible refine gate_callee (f := 75) rfl ?_); refine goesL_ (some 17) rfl rfl Try.func75 (by kernel_rfl) rfl #[.int .i64 a0, .int .i64 (rd l1 x5_1)] rfl (by (try simp only [List.map_toArray, List.map_cons, List.map_nil]); first | done | rfl | (simp only [List.length_drop, List.length_take]; rfl)) ?_; (with_reducible refine (r1_Word.calls k1 a0 (rd l1 x5_1) false _ A5.out).mono ?_); rintro e w' ⟨rfl, ⟨nd, rfl⟩⟩; refine ⟨_, rfl, ?_⟩))
      go_ret
      exact ⟨by first | rfl | (simp; done) | (simp [*]; done), by repeat (first | exact Drawn0.refl _ | apply Drawn0.step)⟩
    ·rw [if_neg c4] at H
     exact absurd H (by simp)
   ·rw [if_neg c3] at H
    have c3b0 : decide (x5_1 < (l1.length : Int)) = false := decide_eq_false c3
    clear c3
    obtain rfl := Option.some.inj H
    go_wp2
    go_ret
    exact ⟨by first | rfl | (simp; done) | (simp [*]; done), by repeat (first | exact Drawn0.refl _ | apply Drawn0.step)⟩
def r2_Store.f (k : Nat) (a0 : Int) (l1 : List (S82)) (l2 : List Int) : Option (Bool) := (r2_First.f k l1 (l1.length : Int)).bind fun t322 => (if (l2.length : Int) = t322 then ((r1_Words.f k a0 l2).bind fun t323 => (some t323)) else (some false))
set_option maxHeartbeats 8000000 in
set_option maxRecDepth 100000 in
theorem r2_Store.calls (k : Nat) (a0 : Int) (A1 : Option Addr) (c1 : Nat) (l1 : List (S82)) (A2 : Option Addr) (c2 : Nat) (l2 : List Int) (r : Bool) (w : World) (hr1 : Kd.C k82 w A1 l1.length l1) (hc1 : l1.length ≤ c1) (hr2 : Kd.C (Kd.int .i64) w A2 l2.length l2) (hc2 : l2.length ≤ c2) (h : r2_Store.f k a0 l1 l2 = some r) :
  Calls Try.prog 21 #[.int .i64 a0, .slice A1 l1.length c1, .slice A2 l2.length c2] w fun e w' => e = .returned (.bool r) ∧ Drawn0 w w' := by
 have HR1 := Aside0.mk hr1
 have HC1 := Aside0.mk hc1
 clear hr1 hc1
 have HR2 := Aside0.mk hr2
 have HC2 := Aside0.mk hc2
 clear hr2 hc2
 have H : ((r2_First.f k l1 (l1.length : Int)).bind fun t322 => (if (l2.length : Int) = t322 then ((r1_Words.f k a0 l2).bind fun t323 => (some t323)) else (some false))) = some r := h
 clear h
 replace H := Option.bind_eq_some_iff.mp H
 obtain ⟨t322, A40, H⟩ := H
 replace H : (if (l2.length : Int) = t322 then ((r1_Words.f k a0 l2).bind fun t323 => (some t323)) else (some false)) = some r := H
 have A4 := Aside0.mk A40
 clear A40
 by_cases c5 : (l2.length : Int) = t322
 ·rw [if_pos c5] at H
  have c5b0 : ((l2.length : Int) == t322) = true := beq_iff_eq.mpr c5
  have c5b1 : ((l2.length : Int) != t322) = false := bne_eq_false_iff_eq.mpr c5
  clear c5
  replace H := Option.bind_eq_some_iff.mp H
  obtain ⟨t323, A60, H⟩ := H
  replace H : (some t323) = some r := H
  have A6 := Aside0.mk A60
  clear A60
  obtain rfl := Option.some.inj H
  go_enter Try.func21, Try.ntmps21
  go_wp2_with (first | ((with_reducible refine gate_callee (f := 51) rfl ?_); refine goesL_ (some 12) rfl rfl Try.func51 (by kernel_rfl) rfl #[.slice A1 l1.length c1, .int .i64 (l1.length : Int)] rfl (by (try simp only [List.map_toArray, List.map_cons, List.map_nil]); first | done | rfl | (simp only [List.length_drop, List.length_take]; rfl)) ?_; (with_reducible refine (r2_First.calls k _ _ l1 (l1.length : Int) t322 _ ?side1 ?side2 A4.out).mono ?_); (case side1 => repeat (first | exact HR1.out | with_reducible first | apply Kd.C_alloc | apply Kd.C_drewN | apply Kd.C_drew)); (case side2 => exact HC1.out); rintro e w' ⟨rfl, ⟨nd, rfl⟩⟩; refine ⟨_, rfl, ?_⟩) | (go_at_call 52; (with_reducible refine (r1_Words.calls k a0 _ _ l2 t323 _ ?side1 ?side2 A6.out).mono ?_); (case side1 => repeat (first | exact HR2.out | with_reducible first | apply Kd.C_alloc | apply Kd.C_drewN | apply Kd.C_drew)); (case side2 => exact HC2.out); rintro e w' ⟨rfl, ⟨nd, rfl⟩⟩))
  go_ret
  exact ⟨by first | rfl | (simp; done) | (simp [*]; done), by repeat (first | exact Drawn0.refl _ | apply Drawn0.step)⟩
 ·rw [if_neg c5] at H
  have c5b0 : ((l2.length : Int) == t322) = false := beq_eq_false_iff_ne.mpr c5
  have c5b1 : ((l2.length : Int) != t322) = true := bne_iff_ne.mpr c5
  obtain rfl := Option.some.inj H
  go_enter Try.func21, Try.ntmps21
  go_wp2_with (first | ((with_reducible refine gate_callee (f := 51) rfl ?_); refine goesL_ (some 12) rfl rfl Try.func51 (by kernel_rfl) rfl #[.slice A1 l1.length c1, .int .i64 (l1.length : Int)] rfl (by (try simp only [List.map_toArray, List.map_cons, List.map_nil]); first | done | rfl | (simp only [List.length_drop, List.length_take]; rfl)) ?_; (with_reducible refine (r2_First.calls k _ _ l1 (l1.length : Int) t322 _ ?side1 ?side2 A4.out).mono ?_); (case side1 => repeat (first | exact HR1.out | with_reducible first | apply Kd.C_alloc | apply Kd.C_drewN | apply Kd.C_drew)); (case side2 => exact HC1.out); rintro e w' ⟨rfl, ⟨nd, rfl⟩⟩; refine ⟨_, rfl, ?_⟩))
  go_ret
  exact ⟨by first | rfl | (simp; done) | (simp [*]; done), by repeat (first | exact Drawn0.refl _ | apply Drawn0.step)⟩
def r3_Cells.f (k : Nat) (a0_0 : Int) (l0_1 : List (S82)) (l0_2 : List (S47)) : Option (Int) := (r2_First.f k l0_1 (l0_1.length : Int)).bind fun t307 => (some t307)
set_option maxHeartbeats 8000000 in
set_option maxRecDepth 100000 in
theorem r3_Cells.calls (k : Nat) (a0_0 : Int) (A0_1 : Option Addr) (c0_1 : Nat) (l0_1 : List (S82)) (A0_2 : Option Addr) (c0_2 : Nat) (l0_2 : List (S47)) (r : Int) (w : World) (hr0_1 : Kd.C k82 w A0_1 l0_1.length l0_1) (hc0_1 : l0_1.length ≤ c0_1) (hr0_2 : Kd.C k47 w A0_2 l0_2.length l0_2) (hc0_2 : l0_2.length ≤ c0_2) (h : r3_Cells.f k a0_0 l0_1 l0_2 = some r) :
  Calls Try.prog 49 #[.agg #[.int .i64 a0_0, .slice A0_1 l0_1.length c0_1, .slice A0_2 l0_2.length c0_2]] w fun e w' => e = .returned (.int .i64 r) ∧ Below w.heap.size w w' := by
 have hu25 := Try.underlying25
 have HR0_1 := Aside0.mk hr0_1
 have HC0_1 := Aside0.mk hc0_1
 clear hr0_1 hc0_1
 have HR0_2 := Aside0.mk hr0_2
 have HC0_2 := Aside0.mk hc0_2
 clear hr0_2 hc0_2
 have HB := Aside0.mk (Below.refl w.heap.size w)
 have H : ((r2_First.f k l0_1 (l0_1.length : Int)).bind fun t307 => (some t307)) = some r := h
 clear h
 replace H := Option.bind_eq_some_iff.mp H
 obtain ⟨t307, A20, H⟩ := H
 replace H : (some t307) = some r := H
 have A2 := Aside0.mk A20
 clear A20
 obtain rfl := Option.some.inj H
 go_enter Try.func49, Try.ntmps49
 go_wp2_with (first | ((with_reducible refine gate_dst (N := 1) rfl ?_); refine box_event ?hg (N := 1) ?hd (cs := #[.int .i64 a0_0, .slice A0_1 l0_1.length c0_1, .slice A0_2 l0_2.length c0_2]) (t := 25) ?hr ?_; (case hd => rfl); (case hg => rfl); (case hr => first | (go_simp; done) | (go_simp; rfl)); intro gb306 hg w3 hbox hb; have n0_ := Aside0.mk (bsp (by repeat (first | (with_reducible first | exact HB.out | apply bal | apply bdN | apply bd1) | exact HB.out)) hb); have n1_ := Aside0.mk (hbox); have n2_ := Aside0.mk ((by rw [hg]; exact (bsz (by repeat (first | (with_reducible first | exact HB.out | apply bal | apply bdN | apply bd1) | exact HB.out))) : w.heap.size ≤ gb306)); have n3_ := Aside0.mk ((by rw [hg]; exact (bsz (by repeat (first | (with_reducible first | exact HB.out | apply bal | apply bdN | apply bd1) | exact HB.out))) : w.heap.size ≤ gb306)); clear HB; have HB := n0_; have BK306 := n1_; have GW306 := n2_; have GE306 := n3_; clear n0_ n1_ n2_ n3_; clear hb hbox hg; obtain ⟨hcz4_0, hcz4_1, hcz4_2, hfz4_0, hfz4_1, hfz4_2⟩ := cf3 BK306.out) | ((with_reducible refine gate_callee (f := 51) rfl ?_); refine goesL_ (some 8) rfl rfl Try.func51 (by kernel_rfl) rfl #[.slice A0_1 l0_1.length c0_1, .int .i64 (l0_1.length : Int)] rfl (by (try simp only [List.map_toArray, List.map_cons, List.map_nil]); first | done | rfl | (simp only [List.length_drop, List.length_take]; rfl)) ?_; (with_reducible refine (r2_First.calls k _ _ l0_1 (l0_1.length : Int) t307 _ ?side1 ?side2 A2.out).mono ?_); (case side1 => repeat (first | exact (Kd.C_below HR0_1.out HB.out) | with_reducible first | apply Kd.C_alloc | apply Kd.C_drewN | apply Kd.C_drew)); (case side2 => exact HC0_1.out); rintro e w' ⟨rfl, ⟨nd, rfl⟩⟩; refine ⟨_, rfl, ?_⟩))
 go_ret
 exact ⟨by first | rfl | (simp [*] <;> rfl), by repeat (first | (with_reducible first | exact HB.out | apply bal | apply bdN | apply bd1 | refine bst ?_ GE306.out) | exact HB.out)⟩
def r3_Few.f (k : Nat) (a0_0 : Int) (l0_1 : List (S82)) (l0_2 : List (S47)) : Option (Bool) := (r3_Cells.f k a0_0 l0_1 l0_2).bind fun t309 => (some (decide ((wrap64 (a0_0 * t309)) ≤ 60)))
set_option maxHeartbeats 8000000 in
set_option maxRecDepth 100000 in
theorem r3_Few.calls (k : Nat) (a0_0 : Int) (A0_1 : Option Addr) (c0_1 : Nat) (l0_1 : List (S82)) (A0_2 : Option Addr) (c0_2 : Nat) (l0_2 : List (S47)) (r : Bool) (w : World) (hr0_1 : Kd.C k82 w A0_1 l0_1.length l0_1) (hc0_1 : l0_1.length ≤ c0_1) (hr0_2 : Kd.C k47 w A0_2 l0_2.length l0_2) (hc0_2 : l0_2.length ≤ c0_2) (h : r3_Few.f k a0_0 l0_1 l0_2 = some r) :
  Calls Try.prog 17 #[.agg #[.int .i64 a0_0, .slice A0_1 l0_1.length c0_1, .slice A0_2 l0_2.length c0_2]] w fun e w' => e = .returned (.bool r) ∧ Below w.heap.size w w' := by
 have hu25 := Try.underlying25
 have HR0_1 := Aside0.mk hr0_1
 have HC0_1 := Aside0.mk hc0_1
 clear hr0_1 hc0_1
 have HR0_2 := Aside0.mk hr0_2
 have HC0_2 := Aside0.mk hc0_2
 clear hr0_2 hc0_2
 have HB := Aside0.mk (Below.refl w.heap.size w)
 have H : ((r3_Cells.f k a0_0 l0_1 l0_2).bind fun t309 => (some (decide ((wrap64 (a0_0 * t309)) ≤ 60)))) = some r := h
 clear h
 replace H := Option.bind_eq_some_iff.mp H
 obtain ⟨t309, A20, H⟩ := H
 replace H : (some (decide ((wrap64 (a0_0 * t309)) ≤ 60))) = some r := H
 have A2 := Aside0.mk A20
 clear A20
 obtain rfl := Option.some.inj H
 go_enter Try.func17, Try.ntmps17
 try go_wp2_with (first | ((with_reducible refine gate_dst (N := 1) rfl ?_); refine box_event ?hg (N := 1) ?hd (cs := #[.int .i64 a0_0, .slice A0_1 l0_1.length c0_1, .slice A0_2 l0_2.length c0_2]) (t := 25) ?hr ?_; (case hd => rfl); (case hg => rfl); (case hr => first | (go_simp; done) | (go_simp; rfl)); intro gb308 hg w3 hbox hb; have n0_ := Aside0.mk (bsp (by repeat (first | (with_reducible first | exact HB.out | apply bal | apply bdN | apply bd1) | exact HB.out)) hb); have n1_ := Aside0.mk (hbox); have n2_ := Aside0.mk ((by rw [hg]; exact (bsz (by repeat (first | (with_reducible first | exact HB.out | apply bal | apply bdN | apply bd1) | exact HB.out))) : w.heap.size ≤ gb308)); have n3_ := Aside0.mk ((by rw [hg]; exact (bsz (by repeat (first | (with_reducible first | exact HB.out | apply bal | apply bdN | apply bd1) | exact HB.out))) : w.heap.size ≤ gb308)); clear HB; have HB := n0_; have BK308 := n1_; have GW308 := n2_; have GE308 := n3_; clear n0_ n1_ n2_ n3_; clear hb hbox hg))
 have n0_ := Aside0.mk (kdr BK308.out)
 have n1_ := Aside0.mk (bd1 HB.out)
 clear BK308
 clear HB
 have BK308 := n0_
 have HB := n1_
 clear n0_ n1_
 refine start_ (n := 7) (S := fun w' => w'.cell? ⟨gb308, 0, none⟩ = some (.int .i64 a0_0) ∧ w'.cell? ⟨gb308, 1, none⟩ = some (.slice A0_1 l0_1.length c0_1) ∧ w'.cell? ⟨gb308, 2, none⟩ = some (.slice A0_2 l0_2.length c0_2)) (ds := []) #[false, false, false, false, false, false, false] (by kernel_rfl) rfl rfl ⟨(blk_cell BK308.out 0).trans rfl, (blk_cell BK308.out 1).trans rfl, (blk_cell BK308.out 2).trans rfl⟩ (fun hHeld => ?_)
 generalize w3.drew = w4 at BK308 HB hHeld ⊢
 refine pure_ (i := 0) (N := some 3) (v := ?_) (a' := ?_) #[true, false, false, false, false, false, false] rfl rfl (by kernel_rfl) (fun _ _ _ h => h) (Or.inl ⟨by rfl, ?_⟩) ?_ ?_
 rotate_left
 ·intro w'
  go_simp
  with_reducible rfl
 rotate_left
 ·simp only [Act.put, List.setIfInBounds_toArray, List.set_cons_zero, List.set_cons_succ, i64_w, i32_w]
  rfl
 refine take_ (i := 1) (N := some 4) (v := ?_) (a' := ?_) #[true, true, false, false, false, false, false] rfl rfl (by kernel_rfl) (fun _ _ _ h => h) (Or.inl ⟨by rfl, ?_⟩) hHeld ?_ ?_
 rotate_left
 ·rintro w' ⟨s0, s1, s2⟩
  go_simp
  with_reducible rfl
 rotate_left
 ·simp only [Act.put, List.setIfInBounds_toArray, List.set_cons_zero, List.set_cons_succ, i64_w, i32_w]
  rfl
 refine take_ (i := 2) (N := some 5) (v := ?_) (a' := ?_) #[true, true, true, false, false, false, false] rfl rfl (by kernel_rfl) (fun _ _ _ h => h) (Or.inl ⟨by rfl, ?_⟩) hHeld ?_ ?_
 rotate_left
 ·rintro w' ⟨s0, s1, s2⟩
  go_simp
  with_reducible rfl
 rotate_left
 ·simp only [Act.put, List.setIfInBounds_toArray, List.set_cons_zero, List.set_cons_succ, i64_w, i32_w]
  rfl
 refine one_ (i := 3) (N := some 6) #[true, true, true, true, false, false, false] rfl rfl (by kernel_rfl) (by decide) (fun K hK => ?_)
 refine goes_ Try.func49 (by kernel_rfl) rfl #[.agg #[.int .i64 a0_0, .slice A0_1 l0_1.length c0_1, .slice A0_2 l0_2.length c0_2]] (by rfl) rfl rfl (by (try simp only [List.map_toArray, List.map_cons, List.map_nil]); first | done | rfl | (simp only [List.length_drop, List.length_take]; rfl)) ?_
 with_reducible refine (r3_Cells.calls k a0_0 _ _ l0_1 _ _ l0_2 t309 _ ?side1 ?side2 ?side3 ?side4 A2.out).mono ?_
 (case side1 => repeat (first | exact (Kd.C_below HR0_1.out HB.out) | with_reducible first | apply Kd.C_alloc | apply Kd.C_drewN | apply Kd.C_drew))
 (case side2 => exact HC0_1.out)
 (case side3 => repeat (first | exact (Kd.C_below HR0_2.out HB.out) | with_reducible first | apply Kd.C_alloc | apply Kd.C_drewN | apply Kd.C_drew))
 (case side4 => exact HC0_2.out)
 rintro e w5 ⟨rfl, hb⟩
 refine ⟨_, rfl, ?_⟩
 have n0_ := Aside0.mk (blk_below (g := gb308) (o := .cells #[.int .i64 a0_0, .slice A0_1 l0_1.length c0_1, .slice A0_2 l0_2.length c0_2] 25 (0, 0)) (by (with_reducible repeat (first | refine kdN ?_ _ | refine kdr ?_ | refine kal ?_ _)); exact BK308.out) hb)
 have n1_ := Aside0.mk (bsp (by repeat (first | (with_reducible first | exact HB.out | apply bal | apply bdN | apply bd1 | refine bst ?_ GE308.out) | exact HB.out)) hb)
 clear BK308
 clear HB
 have BK308 := n0_
 have HB := n1_
 clear n0_ n1_
 (try clear hb)
 (try clear hb2)
 (try clear hk)
 (try clear hi)
 refine hK.out _ _ ⟨(blk_cell BK308.out 0).trans rfl, (blk_cell BK308.out 1).trans rfl, (blk_cell BK308.out 2).trans rfl⟩ (fun hHeld => ?_)
 clear hK K
 refine norm_ (a' := ?_) ?_ ?_
 rotate_left
 ·show Act.put _ (some 6) _ = _
  simp only [Act.put, List.setIfInBounds_toArray, List.set_cons_zero, List.set_cons_succ, i64_w, i32_w]
  rfl
 refine pure_ (i := 4) (N := some 7) (v := ?_) (a' := ?_) #[true, true, true, true, true, false, false] rfl rfl (by kernel_rfl) (fun _ _ _ h => h) (Or.inl ⟨by rfl, ?_⟩) ?_ ?_
 rotate_left
 ·intro w'
  go_simp
  with_reducible rfl
 rotate_left
 ·simp only [Act.put, List.setIfInBounds_toArray, List.set_cons_zero, List.set_cons_succ, i64_w, i32_w]
  rfl
 refine pure_ (i := 5) (N := some 8) (v := ?_) (a' := ?_) #[true, true, true, true, true, true, false] rfl rfl (by kernel_rfl) (fun _ _ _ h => h) (Or.inl ⟨by rfl, ?_⟩) ?_ ?_
 rotate_left
 ·intro w'
  go_simp
  with_reducible rfl
 rotate_left
 ·simp only [Act.put, List.setIfInBounds_toArray, List.set_cons_zero, List.set_cons_succ, i64_w, i32_w]
  rfl
 refine pure_ (i := 6) (N := some 2) (v := ?_) (a' := ?_) #[true, true, true, true, true, true, true] rfl rfl (by kernel_rfl) (fun _ _ _ h => h) (Or.inl ⟨by rfl, ?_⟩) ?_ ?_
 rotate_left
 ·intro w'
  go_simp
  with_reducible rfl
 rotate_left
 ·simp only [Act.put, List.setIfInBounds_toArray, List.set_cons_zero, List.set_cons_succ, i64_w, i32_w]
  rfl
 refine done_ (by kernel_rfl) ?_
 try go_wp2
 go_ret
 exact ⟨by first | rfl | (simp [*] <;> rfl), by repeat (first | (with_reducible first | exact HB.out | apply bal | apply bdN | apply bd1 | refine bst ?_ GE308.out) | exact HB.out)⟩
def r3_Space.f (k : Nat) (a0_0 : Int) (l0_1 : List (S82)) (l0_2 : List (S47)) : Option (Int) := (r3_Cells.f k a0_0 l0_1 l0_2).bind fun t311 => ((r1_Pow.f k (wrap64 (a0_0 * t311))).bind fun t312 => (some t312))
set_option maxHeartbeats 8000000 in
set_option maxRecDepth 100000 in
theorem r3_Space.calls (k : Nat) (a0_0 : Int) (A0_1 : Option Addr) (c0_1 : Nat) (l0_1 : List (S82)) (A0_2 : Option Addr) (c0_2 : Nat) (l0_2 : List (S47)) (r : Int) (w : World) (hr0_1 : Kd.C k82 w A0_1 l0_1.length l0_1) (hc0_1 : l0_1.length ≤ c0_1) (hr0_2 : Kd.C k47 w A0_2 l0_2.length l0_2) (hc0_2 : l0_2.length ≤ c0_2) (h : r3_Space.f k a0_0 l0_1 l0_2 = some r) :
  Calls Try.prog 18 #[.agg #[.int .i64 a0_0, .slice A0_1 l0_1.length c0_1, .slice A0_2 l0_2.length c0_2]] w fun e w' => e = .returned (.int .i64 r) ∧ Below w.heap.size w w' := by
 have hu25 := Try.underlying25
 have HR0_1 := Aside0.mk hr0_1
 have HC0_1 := Aside0.mk hc0_1
 clear hr0_1 hc0_1
 have HR0_2 := Aside0.mk hr0_2
 have HC0_2 := Aside0.mk hc0_2
 clear hr0_2 hc0_2
 have HB := Aside0.mk (Below.refl w.heap.size w)
 have H : ((r3_Cells.f k a0_0 l0_1 l0_2).bind fun t311 => ((r1_Pow.f k (wrap64 (a0_0 * t311))).bind fun t312 => (some t312))) = some r := h
 clear h
 replace H := Option.bind_eq_some_iff.mp H
 obtain ⟨t311, A20, H⟩ := H
 replace H : ((r1_Pow.f k (wrap64 (a0_0 * t311))).bind fun t312 => (some t312)) = some r := H
 have A2 := Aside0.mk A20
 clear A20
 replace H := Option.bind_eq_some_iff.mp H
 obtain ⟨t312, A30, H⟩ := H
 replace H : (some t312) = some r := H
 have A3 := Aside0.mk A30
 clear A30
 obtain rfl := Option.some.inj H
 go_enter Try.func18, Try.ntmps18
 try go_wp2_with (first | ((with_reducible refine gate_dst (N := 1) rfl ?_); refine box_event ?hg (N := 1) ?hd (cs := #[.int .i64 a0_0, .slice A0_1 l0_1.length c0_1, .slice A0_2 l0_2.length c0_2]) (t := 25) ?hr ?_; (case hd => rfl); (case hg => rfl); (case hr => first | (go_simp; done) | (go_simp; rfl)); intro gb310 hg w4 hbox hb; have n0_ := Aside0.mk (bsp (by repeat (first | (with_reducible first | exact HB.out | apply bal | apply bdN | apply bd1) | exact HB.out)) hb); have n1_ := Aside0.mk (hbox); have n2_ := Aside0.mk ((by rw [hg]; exact (bsz (by repeat (first | (with_reducible first | exact HB.out | apply bal | apply bdN | apply bd1) | exact HB.out))) : w.heap.size ≤ gb310)); have n3_ := Aside0.mk ((by rw [hg]; exact (bsz (by repeat (first | (with_reducible first | exact HB.out | apply bal | apply bdN | apply bd1) | exact HB.out))) : w.heap.size ≤ gb310)); clear HB; have HB := n0_; have BK310 := n1_; have GW310 := n2_; have GE310 := n3_; clear n0_ n1_ n2_ n3_; clear hb hbox hg))
 have n0_ := Aside0.mk (kdr BK310.out)
 have n1_ := Aside0.mk (bd1 HB.out)
 clear BK310
 clear HB
 have BK310 := n0_
 have HB := n1_
 clear n0_ n1_
 refine start_ (n := 7) (S := fun w' => w'.cell? ⟨gb310, 0, none⟩ = some (.int .i64 a0_0) ∧ w'.cell? ⟨gb310, 1, none⟩ = some (.slice A0_1 l0_1.length c0_1) ∧ w'.cell? ⟨gb310, 2, none⟩ = some (.slice A0_2 l0_2.length c0_2)) (ds := []) #[false, false, false, false, false, false, false] (by kernel_rfl) rfl rfl ⟨(blk_cell BK310.out 0).trans rfl, (blk_cell BK310.out 1).trans rfl, (blk_cell BK310.out 2).trans rfl⟩ (fun hHeld => ?_)
 generalize w4.drew = w5 at BK310 HB hHeld ⊢
 refine pure_ (i := 0) (N := some 3) (v := ?_) (a' := ?_) #[true, false, false, false, false, false, false] rfl rfl (by kernel_rfl) (fun _ _ _ h => h) (Or.inl ⟨by rfl, ?_⟩) ?_ ?_
 rotate_left
 ·intro w'
  go_simp
  with_reducible rfl
 rotate_left
 ·simp only [Act.put, List.setIfInBounds_toArray, List.set_cons_zero, List.set_cons_succ, i64_w, i32_w]
  rfl
 refine take_ (i := 1) (N := some 4) (v := ?_) (a' := ?_) #[true, true, false, false, false, false, false] rfl rfl (by kernel_rfl) (fun _ _ _ h => h) (Or.inl ⟨by rfl, ?_⟩) hHeld ?_ ?_
 rotate_left
 ·rintro w' ⟨s0, s1, s2⟩
  go_simp
  with_reducible rfl
 rotate_left
 ·simp only [Act.put, List.setIfInBounds_toArray, List.set_cons_zero, List.set_cons_succ, i64_w, i32_w]
  rfl
 refine take_ (i := 2) (N := some 5) (v := ?_) (a' := ?_) #[true, true, true, false, false, false, false] rfl rfl (by kernel_rfl) (fun _ _ _ h => h) (Or.inl ⟨by rfl, ?_⟩) hHeld ?_ ?_
 rotate_left
 ·rintro w' ⟨s0, s1, s2⟩
  go_simp
  with_reducible rfl
 rotate_left
 ·simp only [Act.put, List.setIfInBounds_toArray, List.set_cons_zero, List.set_cons_succ, i64_w, i32_w]
  rfl
 refine one_ (i := 3) (N := some 6) #[true, true, true, true, false, false, false] rfl rfl (by kernel_rfl) (by decide) (fun K hK => ?_)
 refine goes_ Try.func49 (by kernel_rfl) rfl #[.agg #[.int .i64 a0_0, .slice A0_1 l0_1.length c0_1, .slice A0_2 l0_2.length c0_2]] (by rfl) rfl rfl (by (try simp only [List.map_toArray, List.map_cons, List.map_nil]); first | done | rfl | (simp only [List.length_drop, List.length_take]; rfl)) ?_
 with_reducible refine (r3_Cells.calls k a0_0 _ _ l0_1 _ _ l0_2 t311 _ ?side1 ?side2 ?side3 ?side4 A2.out).mono ?_
 (case side1 => repeat (first | exact (Kd.C_below HR0_1.out HB.out) | with_reducible first | apply Kd.C_alloc | apply Kd.C_drewN | apply Kd.C_drew))
 (case side2 => exact HC0_1.out)
 (case side3 => repeat (first | exact (Kd.C_below HR0_2.out HB.out) | with_reducible first | apply Kd.C_alloc | apply Kd.C_drewN | apply Kd.C_drew))
 (case side4 => exact HC0_2.out)
 rintro e w6 ⟨rfl, hb⟩
 refine ⟨_, rfl, ?_⟩
 have n0_ := Aside0.mk (blk_below (g := gb310) (o := .cells #[.int .i64 a0_0, .slice A0_1 l0_1.length c0_1, .slice A0_2 l0_2.length c0_2] 25 (0, 0)) (by (with_reducible repeat (first | refine kdN ?_ _ | refine kdr ?_ | refine kal ?_ _)); exact BK310.out) hb)
 have n1_ := Aside0.mk (bsp (by repeat (first | (with_reducible first | exact HB.out | apply bal | apply bdN | apply bd1 | refine bst ?_ GE310.out) | exact HB.out)) hb)
 clear BK310
 clear HB
 have BK310 := n0_
 have HB := n1_
 clear n0_ n1_
 (try clear hb)
 (try clear hb2)
 (try clear hk)
 (try clear hi)
 refine hK.out _ _ ⟨(blk_cell BK310.out 0).trans rfl, (blk_cell BK310.out 1).trans rfl, (blk_cell BK310.out 2).trans rfl⟩ (fun hHeld => ?_)
 clear hK K
 refine norm_ (a' := ?_) ?_ ?_
 rotate_left
 ·show Act.put _ (some 6) _ = _
  simp only [Act.put, List.setIfInBounds_toArray, List.set_cons_zero, List.set_cons_succ, i64_w, i32_w]
  rfl
 refine pure_ (i := 4) (N := some 7) (v := ?_) (a' := ?_) #[true, true, true, true, true, false, false] rfl rfl (by kernel_rfl) (fun _ _ _ h => h) (Or.inl ⟨by rfl, ?_⟩) ?_ ?_
 rotate_left
 ·intro w'
  go_simp
  with_reducible rfl
 rotate_left
 ·simp only [Act.put, List.setIfInBounds_toArray, List.set_cons_zero, List.set_cons_succ, i64_w, i32_w]
  rfl
 refine one_ (i := 5) (N := some 8) #[true, true, true, true, true, true, false] rfl rfl (by kernel_rfl) (by decide) (fun K hK => ?_)
 refine goes_ Try.func50 (by kernel_rfl) rfl #[.int .i64 (wrap64 (a0_0 * t311))] (by rfl) rfl rfl (by (try simp only [List.map_toArray, List.map_cons, List.map_nil]); first | done | rfl | (simp only [List.length_drop, List.length_take]; rfl)) ?_
 with_reducible refine (r1_Pow.calls k (wrap64 (a0_0 * t311)) t312 _ A3.out).mono ?_
 rintro e w' ⟨rfl, ⟨nd, rfl⟩⟩
 refine ⟨_, rfl, ?_⟩
 refine hK.out _ _ ⟨(blk_cell BK310.out 0).trans rfl, (blk_cell BK310.out 1).trans rfl, (blk_cell BK310.out 2).trans rfl⟩ (fun hHeld => ?_)
 clear hK K
 refine norm_ (a' := ?_) ?_ ?_
 rotate_left
 ·show Act.put _ (some 8) _ = _
  simp only [Act.put, List.setIfInBounds_toArray, List.set_cons_zero, List.set_cons_succ, i64_w, i32_w]
  rfl
 refine pure_ (i := 6) (N := some 2) (v := ?_) (a' := ?_) #[true, true, true, true, true, true, true] rfl rfl (by kernel_rfl) (fun _ _ _ h => h) (Or.inl ⟨by rfl, ?_⟩) ?_ ?_
 rotate_left
 ·intro w'
  go_simp
  with_reducible rfl
 rotate_left
 ·simp only [Act.put, List.setIfInBounds_toArray, List.set_cons_zero, List.set_cons_succ, i64_w, i32_w]
  rfl
 refine done_ (by kernel_rfl) ?_
 try go_wp2
 go_ret
 exact ⟨by first | rfl | (simp [*] <;> rfl), by repeat (first | (with_reducible first | exact HB.out | apply bal | apply bdN | apply bd1 | refine bst ?_ GE310.out) | exact HB.out)⟩
def r3_Store.l0 : Nat → Int → List Int → Int → Int → List (S82) → List (S47) → Option (List Int)
 | 0, _, _, _, _, _, _ => none
 | k + 1, x1, x5, x6, x314000, x314001, x314002 => (r3_Cells.f k x314000 x314001 x314002).bind fun t314 => (if x6 < t314 then ((r1_Pow.f k x314000).bind fun t315 => (if t315 = 0 then (none) else (if x5.length < 17592186044416 then ((r1_Pow.f k x314000).bind fun t319 => (if t319 = 0 then (none) else (r3_Store.l0 k (wrap64 (Int.tdiv x1 t319)) (x5 ++ [Int.tmod x1 t315]) (wrap64 (x6 + 1)) x314000 x314001 x314002))) else (none)))) else (some x5))
def r3_Store.f (k : Nat) (a0_0 : Int) (l0_1 : List (S82)) (l0_2 : List (S47)) (a1 : Int) : Option (List Int) := r3_Store.l0 k a1 ([] : List Int) 0 a0_0 l0_1 l0_2
set_option maxHeartbeats 8000000 in
set_option maxRecDepth 100000 in
theorem r3_Store.calls (k : Nat) (a0_0 : Int) (A0_1 : Option Addr) (c0_1 : Nat) (l0_1 : List (S82)) (A0_2 : Option Addr) (c0_2 : Nat) (l0_2 : List (S47)) (a1 : Int) (r : List Int) (w : World) (hr0_1 : Kd.C k82 w A0_1 l0_1.length l0_1) (hc0_1 : l0_1.length ≤ c0_1) (hr0_2 : Kd.C k47 w A0_2 l0_2.length l0_2) (hc0_2 : l0_2.length ≤ c0_2) (h : r3_Store.f k a0_0 l0_1 l0_2 a1 = some r) :
  Calls Try.prog 20 #[.agg #[.int .i64 a0_0, .slice A0_1 l0_1.length c0_1, .slice A0_2 l0_2.length c0_2], .int .i64 a1] w fun e w' => ∃ v0_ : Value, e = .returned (v0_) ∧ Kd.R (Kd.int .i64) 3 w' w.heap.size (fun _ => True) v0_ r ∧ Below w.heap.size w w' := by
 have hu25 := Try.underlying25
 have HR0_1 := Aside0.mk hr0_1
 have HC0_1 := Aside0.mk hc0_1
 clear hr0_1 hc0_1
 have HR0_2 := Aside0.mk hr0_2
 have HC0_2 := Aside0.mk hc0_2
 clear hr0_2 hc0_2
 have HB := Aside0.mk (Below.refl w.heap.size w)
 have H : (r3_Store.l0 k a1 ([] : List Int) 0 a0_0 l0_1 l0_2) = some r := h
 clear h
 have H' := Aside0.mk H
 clear H
 go_enter Try.func20, Try.ntmps20
 go_wp2_with (first | ((with_reducible refine gate_dst (N := 2) rfl ?_); refine box_event ?hg (N := 2) ?hd (cs := #[.int .i64 a0_0, .slice A0_1 l0_1.length c0_1, .slice A0_2 l0_2.length c0_2]) (t := 25) ?hr ?_; (case hd => rfl); (case hg => rfl); (case hr => first | (go_simp; done) | (go_simp; rfl)); intro gb313 hg w3 hbox hb; have n0_ := Aside0.mk (bsp (by repeat (first | (with_reducible first | exact HB.out | apply bal | apply bdN | apply bd1) | exact HB.out)) hb); have n1_ := Aside0.mk (hbox); have n2_ := Aside0.mk ((by rw [hg]; exact (bsz (by repeat (first | (with_reducible first | exact HB.out | apply bal | apply bdN | apply bd1) | exact HB.out))) : w.heap.size ≤ gb313)); have n3_ := Aside0.mk ((by rw [hg]; exact (bsz (by repeat (first | (with_reducible first | exact HB.out | apply bal | apply bdN | apply bd1) | exact HB.out))) : w.heap.size ≤ gb313)); clear HB; have HB := n0_; have BK313 := n1_; have GW313 := n2_; have GE313 := n3_; clear n0_ n1_ n2_ n3_; clear hb hbox hg))
 go_loopg [1, 5, 6] k (fun kq v1 v5 v6 w' => ∃ (x1_1 : Int) (x5_1 : List Int) (x6_1 : Int), v1 = .int .i64 x1_1 ∧ v6 = .int .i64 x6_1 ∧ Aside0 (r3_Store.l0 kq x1_1 x5_1 x6_1 a0_0 l0_1 l0_2 = some r) ∧ Aside0 (kq ≤ k) ∧ Aside0 (Kd.R (Kd.int .i64) 3 w' w.heap.size (fun _ => True) v5 x5_1) ∧ Aside0 (w'.heap[gb313]? = some (.cells #[.int .i64 a0_0, (.slice A0_1 l0_1.length c0_1), (.slice A0_2 l0_2.length c0_2)] 25 (0, 0))) ∧ Aside0 (Below w.heap.size w w'))
 case atStart => exact ⟨(a1), (([] : List Int)), (0), (by first | rfl | (simp; done) | (simp [*]; done)), (by first | rfl | (simp; done) | (simp [*]; done)), H', ⟨Nat.le_refl _⟩, ⟨by first | exact Kd.R_nil _ _ _ _ _ | exact Kd.N_nil _ _ _ _ _ | exact Kd.V_nil _ _ _ _ _ | exact Kd.Q_nil _ _ _ _ _ | exact Kd.S_nil _ _ _ _ _⟩, ⟨by (with_reducible repeat (first | refine kdN ?_ _ | refine kdr ?_ | refine kal ?_ _)); exact BK313.out⟩, ⟨by repeat (first | (with_reducible first | exact HB.out | apply bal | apply bdN | apply bd1 | refine bst ?_ GE313.out) | exact HB.out)⟩⟩
 case round =>
  clear H'
  try clear c2
  try clear p2
  obtain ⟨x1_1, x5_1, x6_1, rfl, rfl, HA, HK1, HO_5, BK313, HB⟩ := hrel
  cases gk with
  | zero => exact absurd HA.out (by simp [r3_Store.l0])
  | succ k1 =>
   have H := HA.out
   clear HA
   simp only [r3_Store.l0] at H
   replace H := Option.bind_eq_some_iff.mp H
   obtain ⟨t314, A40, H⟩ := H
   replace H : (if x6_1 < t314 then ((r1_Pow.f k1 a0_0).bind fun t315 => (if t315 = 0 then (none) else (if x5_1.length < 17592186044416 then ((r1_Pow.f k1 a0_0).bind fun t319 => (if t319 = 0 then (none) else (r3_Store.l0 k1 (wrap64 (Int.tdiv x1_1 t319)) (x5_1 ++ [Int.tmod x1_1 t315]) (wrap64 (x6_1 + 1)) a0_0 l0_1 l0_2))) else (none)))) else (some x5_1)) = some r := H
   have A4 := Aside0.mk A40
   clear A40
   by_cases c5 : x6_1 < t314
   ·rw [if_pos c5] at H
    have c5b0 : decide (x6_1 < t314) = true := decide_eq_true c5
    clear c5
    replace H := Option.bind_eq_some_iff.mp H
    obtain ⟨t315, A60, H⟩ := H
    replace H : (if t315 = 0 then (none) else (if x5_1.length < 17592186044416 then ((r1_Pow.f k1 a0_0).bind fun t319 => (if t319 = 0 then (none) else (r3_Store.l0 k1 (wrap64 (Int.tdiv x1_1 t319)) (x5_1 ++ [Int.tmod x1_1 t315]) (wrap64 (x6_1 + 1)) a0_0 l0_1 l0_2))) else (none))) = some r := H
    have A6 := Aside0.mk A60
    clear A60
    by_cases c7 : t315 = 0
    ·rw [if_pos c7] at H
     exact absurd H (by simp)
    ·rw [if_neg c7] at H
     have c7b0 : (t315 == 0) = false := beq_eq_false_iff_ne.mpr c7
     have c7b1 : (t315 != 0) = true := bne_iff_ne.mpr c7
     by_cases c8 : x5_1.length < 17592186044416
     ·rw [if_pos c8] at H
      have LMc8 := Aside0.mk c8
      clear c8
      obtain ⟨y316, hy316⟩ : ∃ y_ : List Int, y_ = (x5_1 ++ [Int.tmod x1_1 t315]) := ⟨_, rfl⟩
      replace H : ((r1_Pow.f k1 a0_0).bind fun t319 => (if t319 = 0 then (none) else (r3_Store.l0 k1 (wrap64 (Int.tdiv x1_1 t319)) y316 (wrap64 (x6_1 + 1)) a0_0 l0_1 l0_2))) = some r := by first | (rw [hy316]; with_reducible exact H) | (have H2_ := (Option.bind_some _ _).symm.trans H; rw [hy316]; with_reducible exact H2_) | (have H2_ := (Option.bind_some _ _).symm.trans H; with_reducible exact H2_) | with_reducible exact H | (rw [hy316]; exact H) | exact H
      have Ny316 := Aside0.mk hy316
      clear hy316
      replace H := Option.bind_eq_some_iff.mp H
      obtain ⟨t319, A90, H⟩ := H
      replace H : (if t319 = 0 then (none) else (r3_Store.l0 k1 (wrap64 (Int.tdiv x1_1 t319)) y316 (wrap64 (x6_1 + 1)) a0_0 l0_1 l0_2)) = some r := H
      have A9 := Aside0.mk A90
      clear A90
      by_cases c10 : t319 = 0
      ·rw [if_pos c10] at H
       exact absurd H (by simp)
      ·rw [if_neg c10] at H
       have c10b0 : (t319 == 0) = false := beq_eq_false_iff_ne.mpr c10
       have c10b1 : (t319 != 0) = true := bne_iff_ne.mpr c10
       have H' := Aside0.mk H
       clear H
       obtain ⟨hcz11_0, hcz11_1, hcz11_2, hfz11_0, hfz11_1, hfz11_2⟩ := cf3 BK313.out
       go_wp2_with (first | ((with_reducible refine gate_callee (f := 49) rfl ?_); refine goesL_ (some 9) rfl rfl Try.func49 (by kernel_rfl) rfl #[.agg #[.int .i64 a0_0, .slice A0_1 l0_1.length c0_1, .slice A0_2 l0_2.length c0_2]] rfl (by (try simp only [List.map_toArray, List.map_cons, List.map_nil]); first | done | rfl | (simp only [List.length_drop, List.length_take]; rfl)) ?_; (with_reducible refine (r3_Cells.calls k1 a0_0 _ _ l0_1 _ _ l0_2 t314 _ ?side1 ?side2 ?side3 ?side4 A4.out).mono ?_); (case side1 => repeat (first | exact (Kd.C_below HR0_1.out HB.out) | with_reducible first | apply Kd.C_alloc | apply Kd.C_drewN | apply Kd.C_drew)); (case side2 => exact HC0_1.out); (case side3 => repeat (first | exact (Kd.C_below HR0_2.out HB.out) | with_reducible first | apply Kd.C_alloc | apply Kd.C_drewN | apply Kd.C_drew)); (case side4 => exact HC0_2.out); rintro e w12 ⟨rfl, hb⟩; refine ⟨_, rfl, ?_⟩; have n0_ := Aside0.mk (Kd.R_below (by (with_reducible repeat (first | apply Kd.R_alloc | apply Kd.R_drewN | apply Kd.R_drew)); exact HO_5.out) hb); have n1_ := Aside0.mk (blk_below (g := gb313) (o := .cells #[.int .i64 a0_0, .slice A0_1 l0_1.length c0_1, .slice A0_2 l0_2.length c0_2] 25 (0, 0)) (by (with_reducible repeat (first | refine kdN ?_ _ | refine kdr ?_ | refine kal ?_ _)); exact BK313.out) hb); have n2_ := Aside0.mk (bsp (by repeat (first | (with_reducible first | exact HB.out | apply bal | apply bdN | apply bd1 | refine bst ?_ GE313.out) | exact HB.out)) hb); clear HO_5; clear BK313; clear HB; have HO_5 := n0_; have BK313 := n1_; have HB := n2_; clear n0_ n1_ n2_; (try clear hb); (try clear hb2); (try clear hk); (try clear hi); obtain ⟨hcz13_0, hcz13_1, hcz13_2, hfz13_0, hfz13_1, hfz13_2⟩ := cf3 BK313.out) | ((with_reducible refine gate_callee (f := 50) rfl ?_); refine goesL_ (some 17) rfl rfl Try.func50 (by kernel_rfl) rfl #[.int .i64 a0_0] rfl (by (try simp only [List.map_toArray, List.map_cons, List.map_nil]); first | done | rfl | (simp only [List.length_drop, List.length_take]; rfl)) ?_; (with_reducible refine (r1_Pow.calls k1 a0_0 t315 _ A6.out).mono ?_); rintro e w' ⟨rfl, ⟨nd, rfl⟩⟩; refine ⟨_, rfl, ?_⟩) | ((with_reducible refine gate_builtin (b := .append) (xs := #[.tmp 13, .tmp 19]) rfl ?_); at_builtin; refine Kd.R_append (Kd.int .i64) (w0 := w) w.heap.size rfl (.tmp 13) (.tmp 19) 26 3 (.int .i64 0) 8 rfl Try.underlying26 info3 rfl (by decide) (by omega) u5 x5_1 (Int.tmod x1_1 t315) [.int .i64 (Int.tmod x1_1 t315)] (fun _ => True) (fun _ => False) rfl rfl ?aP (fun _ hk => hk.elim) ?aF ?aO ?aB ?aS ?aL ?_; (case aP => exact rfl); (case aB => exact (by repeat (first | (with_reducible first | exact HB.out | apply bal | apply bdN | apply bd1 | refine bst ?_ GE313.out) | exact HB.out))); (case aF => exact (fun _ _ => trivial)); (case aO => exact (by (with_reducible repeat (first | apply Kd.R_alloc | apply Kd.R_drewN | apply Kd.R_drew)); exact HO_5.out)); (case aS => exact (bsz (by repeat (first | (with_reducible first | exact HB.out | apply bal | apply bdN | apply bd1 | refine bst ?_ GE313.out) | exact HB.out)))); (case aL => have := LMc8.out; omega); intro v317 w14 ho hb hg hat; rw [← Ny316.out] at ho; have n0_ := Aside0.mk (blk_grown (g := gb313) (o := .cells #[.int .i64 a0_0, .slice A0_1 l0_1.length c0_1, .slice A0_2 l0_2.length c0_2] 25 (0, 0)) (by (with_reducible repeat (first | refine kdN ?_ _ | refine kdr ?_ | refine kal ?_ _)); exact BK313.out) hg (Kd.R_ne HO_5.out BK313.out (by decide))); have n1_ := Aside0.mk (hb); have n2_ := Aside0.mk (ho); clear BK313; clear HB; clear HO_5; have BK313 := n0_; have HB := n1_; have HO318 := n2_; clear n0_ n1_ n2_; clear ho hb hg hat; obtain ⟨hcz15_0, hcz15_1, hcz15_2, hfz15_0, hfz15_1, hfz15_2⟩ := cf3 BK313.out) | ((with_reducible refine gate_callee (f := 50) rfl ?_); refine goesL_ (some 24) rfl rfl Try.func50 (by kernel_rfl) rfl #[.int .i64 a0_0] rfl (by (try simp only [List.map_toArray, List.map_cons, List.map_nil]); first | done | rfl | (simp only [List.length_drop, List.length_take]; rfl)) ?_; (with_reducible refine (r1_Pow.calls k1 a0_0 t319 _ A9.out).mono ?_); rintro e w' ⟨rfl, ⟨nd, rfl⟩⟩; refine ⟨_, rfl, ?_⟩))
       go_roundg k1
       case measure => have := HK1.out; omega
       case rel => exact ⟨(wrap64 (Int.tdiv x1_1 t319)), (y316), (wrap64 (x6_1 + 1)), (by first | rfl | (simp; done) | (simp [*]; done)), (by first | rfl | (simp; done) | (simp [*]; done)), H', ⟨by have := HK1.out; omega⟩, ⟨by (with_reducible repeat (first | apply Kd.R_alloc | apply Kd.R_drewN | apply Kd.R_drew)); exact HO318.out⟩, ⟨by (with_reducible repeat (first | refine kdN ?_ _ | refine kdr ?_ | refine kal ?_ _)); exact BK313.out⟩, ⟨by repeat (first | (with_reducible first | exact HB.out | apply bal | apply bdN | apply bd1 | refine bst ?_ GE313.out) | exact HB.out)⟩⟩
     ·rw [if_neg c8] at H
      exact absurd H (by simp)
   ·rw [if_neg c5] at H
    have c5b0 : decide (x6_1 < t314) = false := decide_eq_false c5
    clear c5
    obtain rfl := Option.some.inj H
    obtain ⟨hcz16_0, hcz16_1, hcz16_2, hfz16_0, hfz16_1, hfz16_2⟩ := cf3 BK313.out
    go_wp2_with (first | ((with_reducible refine gate_callee (f := 49) rfl ?_); refine goesL_ (some 9) rfl rfl Try.func49 (by kernel_rfl) rfl #[.agg #[.int .i64 a0_0, .slice A0_1 l0_1.length c0_1, .slice A0_2 l0_2.length c0_2]] rfl (by (try simp only [List.map_toArray, List.map_cons, List.map_nil]); first | done | rfl | (simp only [List.length_drop, List.length_take]; rfl)) ?_; (with_reducible refine (r3_Cells.calls k1 a0_0 _ _ l0_1 _ _ l0_2 t314 _ ?side1 ?side2 ?side3 ?side4 A4.out).mono ?_); (case side1 => repeat (first | exact (Kd.C_below HR0_1.out HB.out) | with_reducible first | apply Kd.C_alloc | apply Kd.C_drewN | apply Kd.C_drew)); (case side2 => exact HC0_1.out); (case side3 => repeat (first | exact (Kd.C_below HR0_2.out HB.out) | with_reducible first | apply Kd.C_alloc | apply Kd.C_drewN | apply Kd.C_drew)); (case side4 => exact HC0_2.out); rintro e w17 ⟨rfl, hb⟩; refine ⟨_, rfl, ?_⟩; have n0_ := Aside0.mk (Kd.R_below (by (with_reducible repeat (first | apply Kd.R_alloc | apply Kd.R_drewN | apply Kd.R_drew)); exact HO_5.out) hb); have n1_ := Aside0.mk (blk_below (g := gb313) (o := .cells #[.int .i64 a0_0, .slice A0_1 l0_1.length c0_1, .slice A0_2 l0_2.length c0_2] 25 (0, 0)) (by (with_reducible repeat (first | refine kdN ?_ _ | refine kdr ?_ | refine kal ?_ _)); exact BK313.out) hb); have n2_ := Aside0.mk (bsp (by repeat (first | (with_reducible first | exact HB.out | apply bal | apply bdN | apply bd1 | refine bst ?_ GE313.out) | exact HB.out)) hb); clear HO_5; clear BK313; clear HB; have HO_5 := n0_; have BK313 := n1_; have HB := n2_; clear n0_ n1_ n2_; (try clear hb); (try clear hb2); (try clear hk); (try clear hi)))
    go_ret
    exact ⟨_, by first | rfl | (simp [*] <;> rfl), by (with_reducible repeat (first | apply Kd.R_alloc | apply Kd.R_drewN | apply Kd.R_drew)); exact HO_5.out, by repeat (first | (with_reducible first | exact HB.out | apply bal | apply bdN | apply bd1 | refine bst ?_ GE313.out) | exact HB.out)⟩
def r3_Index.l0 : Nat → List Int → Int → Int → Int → List (S82) → List (S47) → Option (Int)
 | 0, _, _, _, _, _, _ => none
 | k + 1, x1, x5, x6, x325000, x325001, x325002 => if x6 ≥ 0 then ((r1_Pow.f k x325000).bind fun t325 => (if 0 ≤ x6 then (if x6 < (x1.length : Int) then (r3_Index.l0 k x1 (wrap64 ((wrap64 (x5 * t325)) + (rd x1 x6))) (wrap64 (x6 - 1)) x325000 x325001 x325002) else (none)) else (none))) else (some x5)
def r3_Index.f (k : Nat) (a0_0 : Int) (l0_1 : List (S82)) (l0_2 : List (S47)) (l1 : List Int) : Option (Int) := r3_Index.l0 k l1 0 (wrap64 ((l1.length : Int) - 1)) a0_0 l0_1 l0_2
set_option maxHeartbeats 8000000 in
set_option maxRecDepth 100000 in
theorem r3_Index.calls (k : Nat) (a0_0 : Int) (A0_1 : Option Addr) (c0_1 : Nat) (l0_1 : List (S82)) (A0_2 : Option Addr) (c0_2 : Nat) (l0_2 : List (S47)) (A1 : Option Addr) (c1 : Nat) (l1 : List Int) (r : Int) (w : World) (hr0_1 : Kd.C k82 w A0_1 l0_1.length l0_1) (hc0_1 : l0_1.length ≤ c0_1) (hr0_2 : Kd.C k47 w A0_2 l0_2.length l0_2) (hc0_2 : l0_2.length ≤ c0_2) (hr1 : Kd.C (Kd.int .i64) w A1 l1.length l1) (hc1 : l1.length ≤ c1) (h : r3_Index.f k a0_0 l0_1 l0_2 l1 = some r) :
  Calls Try.prog 22 #[.agg #[.int .i64 a0_0, .slice A0_1 l0_1.length c0_1, .slice A0_2 l0_2.length c0_2], .slice A1 l1.length c1] w fun e w' => e = .returned (.int .i64 r) ∧ Below w.heap.size w w' := by
 have hu25 := Try.underlying25
 have HR0_1 := Aside0.mk hr0_1
 have HC0_1 := Aside0.mk hc0_1
 clear hr0_1 hc0_1
 have HR0_2 := Aside0.mk hr0_2
 have HC0_2 := Aside0.mk hc0_2
 clear hr0_2 hc0_2
 have HR1 := Aside0.mk hr1
 have HC1 := Aside0.mk hc1
 clear hr1 hc1
 have HB := Aside0.mk (Below.refl w.heap.size w)
 have H : (r3_Index.l0 k l1 0 (wrap64 ((l1.length : Int) - 1)) a0_0 l0_1 l0_2) = some r := h
 clear h
 have H' := Aside0.mk H
 clear H
 go_enter Try.func22, Try.ntmps22
 go_wp2_with (first | ((with_reducible refine gate_dst (N := 2) rfl ?_); refine box_event ?hg (N := 2) ?hd (cs := #[.int .i64 a0_0, .slice A0_1 l0_1.length c0_1, .slice A0_2 l0_2.length c0_2]) (t := 25) ?hr ?_; (case hd => rfl); (case hg => rfl); (case hr => first | (go_simp; done) | (go_simp; rfl)); intro gb324 hg w3 hbox hb; have n0_ := Aside0.mk (bsp (by repeat (first | (with_reducible first | exact HB.out | apply bal | apply bdN | apply bd1) | exact HB.out)) hb); have n1_ := Aside0.mk (hbox); have n2_ := Aside0.mk ((by rw [hg]; exact (bsz (by repeat (first | (with_reducible first | exact HB.out | apply bal | apply bdN | apply bd1) | exact HB.out))) : w.heap.size ≤ gb324)); have n3_ := Aside0.mk ((by rw [hg]; exact (bsz (by repeat (first | (with_reducible first | exact HB.out | apply bal | apply bdN | apply bd1) | exact HB.out))) : w.heap.size ≤ gb324)); clear HB; have HB := n0_; have BK324 := n1_; have GW324 := n2_; have GE324 := n3_; clear n0_ n1_ n2_ n3_; clear hb hbox hg))
 repeat (go_quiet (first | ((with_reducible refine gate_dst (N := 2) rfl ?_); refine box_event ?hg (N := 2) ?hd (cs := #[.int .i64 a0_0, .slice A0_1 l0_1.length c0_1, .slice A0_2 l0_2.length c0_2]) (t := 25) ?hr ?_; (case hd => rfl); (case hg => rfl); (case hr => first | (go_simp; done) | (go_simp; rfl)); intro gb324 hg w3 hbox hb; have n0_ := Aside0.mk (bsp (by repeat (first | (with_reducible first | exact HB.out | apply bal | apply bdN | apply bd1) | exact HB.out)) hb); have n1_ := Aside0.mk (hbox); have n2_ := Aside0.mk ((by rw [hg]; exact (bsz (by repeat (first | (with_reducible first | exact HB.out | apply bal | apply bdN | apply bd1) | exact HB.out))) : w.heap.size ≤ gb324)); have n3_ := Aside0.mk ((by rw [hg]; exact (bsz (by repeat (first | (with_reducible first | exact HB.out | apply bal | apply bdN | apply bd1) | exact HB.out))) : w.heap.size ≤ gb324)); clear HB; have HB := n0_; have BK324 := n1_; have GW324 := n2_; have GE324 := n3_; clear n0_ n1_ n2_ n3_; clear hb hbox hg)); try go_wp2_with (first | ((with_reducible refine gate_dst (N := 2) rfl ?_); refine box_event ?hg (N := 2) ?hd (cs := #[.int .i64 a0_0, .slice A0_1 l0_1.length c0_1, .slice A0_2 l0_2.length c0_2]) (t := 25) ?hr ?_; (case hd => rfl); (case hg => rfl); (case hr => first | (go_simp; done) | (go_simp; rfl)); intro gb324 hg w3 hbox hb; have n0_ := Aside0.mk (bsp (by repeat (first | (with_reducible first | exact HB.out | apply bal | apply bdN | apply bd1) | exact HB.out)) hb); have n1_ := Aside0.mk (hbox); have n2_ := Aside0.mk ((by rw [hg]; exact (bsz (by repeat (first | (with_reducible first | exact HB.out | apply bal | apply bdN | apply bd1) | exact HB.out))) : w.heap.size ≤ gb324)); have n3_ := Aside0.mk ((by rw [hg]; exact (bsz (by repeat (first | (with_reducible first | exact HB.out | apply bal | apply bdN | apply bd1) | exact HB.out))) : w.heap.size ≤ gb324)); clear HB; have HB := n0_; have BK324 := n1_; have GW324 := n2_; have GE324 := n3_; clear n0_ n1_ n2_ n3_; clear hb hbox hg)))
 go_loopg [5, 6] k (fun kq v5 v6 w' => ∃ (x5_1 : Int) (x6_1 : Int), v5 = .int .i64 x5_1 ∧ v6 = .int .i64 x6_1 ∧ Aside0 (r3_Index.l0 kq l1 x5_1 x6_1 a0_0 l0_1 l0_2 = some r) ∧ Aside0 (kq ≤ k) ∧ Aside0 (w'.heap[gb324]? = some (.cells #[.int .i64 a0_0, (.slice A0_1 l0_1.length c0_1), (.slice A0_2 l0_2.length c0_2)] 25 (0, 0))) ∧ Aside0 (Below w.heap.size w w'))
 case atStart => exact ⟨(0), (wrap64 ((l1.length : Int) - 1)), (by first | rfl | (simp; done) | (simp [*]; done) | (simp [i64_w]; done) | (simp [i64_w, *]; done)), (by first | rfl | (simp; done) | (simp [*]; done) | (simp [i64_w]; done) | (simp [i64_w, *]; done)), H', ⟨Nat.le_refl _⟩, ⟨by (with_reducible repeat (first | refine kdN ?_ _ | refine kdr ?_ | refine kal ?_ _)); exact BK324.out⟩, ⟨by repeat (first | (with_reducible first | exact HB.out | apply bal | apply bdN | apply bd1 | refine bst ?_ GE324.out) | exact HB.out)⟩⟩
 case round =>
  clear H'
  try clear c1
  try clear c2
  try clear p2
  obtain ⟨x5_1, x6_1, rfl, rfl, HA, HK1, BK324, HB⟩ := hrel
  cases gk with
  | zero => exact absurd HA.out (by simp [r3_Index.l0])
  | succ k1 =>
   have H := HA.out
   clear HA
   simp only [r3_Index.l0] at H
   by_cases c4 : x6_1 ≥ 0
   ·rw [if_pos c4] at H
    have c4b0 : decide (0 ≤ x6_1) = true := decide_eq_true c4
    clear c4
    replace H := Option.bind_eq_some_iff.mp H
    obtain ⟨t325, A50, H⟩ := H
    replace H : (if 0 ≤ x6_1 then (if x6_1 < (l1.length : Int) then (r3_Index.l0 k1 l1 (wrap64 ((wrap64 (x5_1 * t325)) + (rd l1 x6_1))) (wrap64 (x6_1 - 1)) a0_0 l0_1 l0_2) else (none)) else (none)) = some r := H
    have A5 := Aside0.mk A50
    clear A50
    by_cases c6 : 0 ≤ x6_1
    ·rw [if_pos c6] at H
     have c6b0 : decide (0 ≤ x6_1) = true := decide_eq_true c6
     clear c6
     by_cases c7 : x6_1 < (l1.length : Int)
     ·rw [if_pos c7] at H
      have c7b0 : decide (x6_1 < (l1.length : Int)) = true := decide_eq_true c7
      clear c7
      have H' := Aside0.mk H
      clear H
      obtain ⟨hcz8_0, hcz8_1, hcz8_2, hfz8_0, hfz8_1, hfz8_2⟩ := cf3 BK324.out
      go_wp2_with (first | (go_at_call 50; (with_reducible refine (r1_Pow.calls k1 a0_0 t325 _ A5.out).mono ?_); rintro e w' ⟨rfl, ⟨nd, rfl⟩⟩; (try first | exact ⟨rfl, _, World.drewN_drewN _ _ _⟩ | exact ⟨rfl, _, Eq.trans (World.drewN_drewN _ _ _) (congrArg (World.drewN _) (Nat.add_assoc _ _ _))⟩); have p326 : 0 ≤ (x6_1 : Int) := of_decide_eq_true (by first | (with_reducible assumption) | assumption); have q326 : x6_1 < (l1.length : Int) := of_decide_eq_true (by first | (with_reducible assumption) | assumption); obtain ⟨ad326, e326, hx326_0⟩ := Kd.at_int HR1.out x6_1 p326 q326; cases e326; replace hx326_0 := bcell HB.out hx326_0; replace p326 := eq_true p326; replace q326 := eq_true q326))
      repeat (go_quiet (first | (go_at_call 50; (with_reducible refine (r1_Pow.calls k1 a0_0 t325 _ A5.out).mono ?_); rintro e w' ⟨rfl, ⟨nd, rfl⟩⟩; (try first | exact ⟨rfl, _, World.drewN_drewN _ _ _⟩ | exact ⟨rfl, _, Eq.trans (World.drewN_drewN _ _ _) (congrArg (World.drewN _) (Nat.add_assoc _ _ _))⟩); have p326 : 0 ≤ (x6_1 : Int) := of_decide_eq_true (by first | (with_reducible assumption) | assumption); have q326 : x6_1 < (l1.length : Int) := of_decide_eq_true (by first | (with_reducible assumption) | assumption); obtain ⟨ad326, e326, hx326_0⟩ := Kd.at_int HR1.out x6_1 p326 q326; cases e326; replace hx326_0 := bcell HB.out hx326_0; replace p326 := eq_true p326; replace q326 := eq_true q326)); try go_wp2_with (first | (go_at_call 50; (with_reducible refine (r1_Pow.calls k1 a0_0 t325 _ A5.out).mono ?_); rintro e w' ⟨rfl, ⟨nd, rfl⟩⟩; (try first | exact ⟨rfl, _, World.drewN_drewN _ _ _⟩ | exact ⟨rfl, _, Eq.trans (World.drewN_drewN _ _ _) (congrArg (World.drewN _) (Nat.add_assoc _ _ _))⟩); have p326 : 0 ≤ (x6_1 : Int) := of_decide_eq_true (by first | (with_reducible assumption) | assumption); have q326 : x6_1 < (l1.length : Int) := of_decide_eq_true (by first | (with_reducible assumption) | assumption); obtain ⟨ad326, e326, hx326_0⟩ := Kd.at_int HR1.out x6_1 p326 q326; cases e326; replace hx326_0 := bcell HB.out hx326_0; replace p326 := eq_true p326; replace q326 := eq_true q326)))
      go_roundg k1
      case measure => have := HK1.out; omega
      case rel => exact ⟨(wrap64 ((wrap64 (x5_1 * t325)) + (rd l1 x6_1))), (wrap64 (x6_1 - 1)), (by first | rfl | (simp; done) | (simp [*]; done) | (simp [i64_w]; done) | (simp [i64_w, *]; done)), (by first | rfl | (simp; done) | (simp [*]; done) | (simp [i64_w]; done) | (simp [i64_w, *]; done)), H', ⟨by have := HK1.out; omega⟩, ⟨by (with_reducible repeat (first | refine kdN ?_ _ | refine kdr ?_ | refine kal ?_ _)); exact BK324.out⟩, ⟨by repeat (first | (with_reducible first | exact HB.out | apply bal | apply bdN | apply bd1 | refine bst ?_ GE324.out) | exact HB.out)⟩⟩
     ·rw [if_neg c7] at H
      exact absurd H (by simp)
    ·rw [if_neg c6] at H
     exact absurd H (by simp)
   ·rw [if_neg c4] at H
    have c4b0 : decide (0 ≤ x6_1) = false := decide_eq_false c4
    clear c4
    obtain rfl := Option.some.inj H
    go_wp2
    repeat (go_quiet (fail); try go_wp2)
    go_ret
    exact ⟨by first | rfl | (simp [*] <;> rfl), by repeat (first | (with_reducible first | exact HB.out | apply bal | apply bdN | apply bd1 | refine bst ?_ GE324.out) | exact HB.out)⟩
end Go.Proofs.Ytffcpbgbhkbplaa.Print
namespace Go.Proofs.Ytffcpbgbhkbplaa.Print
open Go.RowKit Go.Proofs.YtffcpbgbhkbplaaW.PrintWords Go.Proofs.YtffcpbgbhkbplaaW.PrintLast Go.Proofs.YtffcpbgbhkbplaaW.PrintMore
attribute [local go_sem] max2_int min2_int max_two min_two max_three min_three max_four min_four
set_option linter.unusedVariables false
set_option linter.unusedSimpArgs false
def sto (p : Int) : Nat → Int → List Int
  | 0, _ => []
  | n + 1, i => i % p :: sto p n (i / p)
def idx (p : Int) : List Int → Int
  | [] => 0
  | s :: r => idx p r * p + s
theorem sto_length (p : Int) : ∀ n i, (sto p n i).length = n
  | 0, _ => rfl
  | n + 1, i => by rw [sto, List.length_cons, sto_length p n]
theorem idx_sto {p : Int} (hp : 0 < p) : ∀ (n : Nat) (i : Int), 0 ≤ i → i < p ^ n → idx p (sto p n i) = i
  | 0, i, h0, h1 => by simp only [sto, idx]; simp only [Int.pow_zero] at h1; omega
  | n + 1, i, h0, h1 => by
    simp only [sto, idx]
    have h2 : i / p < p ^ n := by
      apply Int.ediv_lt_of_lt_mul hp
      rw [← Int.pow_succ]
      exact h1
    rw [idx_sto hp n (i / p) (Int.ediv_nonneg h0 (by omega)) h2, Int.mul_comm]
    exact Int.mul_ediv_add_emod i p
theorem sto_idx {p : Int} (hp : 0 < p) : ∀ (l : List Int), (∀ s ∈ l, 0 ≤ s ∧ s < p) → sto p l.length (idx p l) = l
  | [], _ => rfl
  | s :: r, h => by
    have hs := h s (by simp)
    have e1 : (idx p r * p + s) % p = s := by rw [Int.add_comm, Int.add_mul_emod_self_right, Int.emod_eq_of_lt hs.1 hs.2]
    have e2 : (idx p r * p + s) / p = idx p r := by rw [Int.add_comm, Int.add_mul_ediv_right _ _ (by omega), Int.ediv_eq_zero_of_lt hs.1 hs.2, Int.zero_add]
    simp only [List.length_cons, sto, idx]
    rw [e1, e2, sto_idx hp r (fun u hu => h u (by simp [hu]))]
theorem sto_range {p : Int} (hp : 0 < p) : ∀ (n : Nat) (i : Int), ∀ s ∈ sto p n i, 0 ≤ s ∧ s < p
  | 0, i, s, h => by simp [sto] at h
  | n + 1, i, s, h => by
    simp only [sto, List.mem_cons] at h
    rcases h with rfl | h
    · exact ⟨Int.emod_nonneg _ (by omega), Int.emod_lt_of_pos _ hp⟩
    · exact sto_range hp n _ s h
theorem idx_range {p : Int} (hp : 0 < p) : ∀ (l : List Int), (∀ s ∈ l, 0 ≤ s ∧ s < p) → 0 ≤ idx p l ∧ idx p l < p ^ l.length
  | [], _ => by simp only [idx, List.length_nil, Int.pow_zero]; decide
  | s :: r, h => by
    have hs := h s (by simp)
    have ih := idx_range hp r (fun u hu => h u (by simp [hu]))
    simp only [idx, List.length_cons, Int.pow_succ]
    have h1 : 0 ≤ idx p r * p := Int.mul_nonneg ih.1 (by omega)
    have h2 : (idx p r + 1) * p ≤ p ^ r.length * p := Int.mul_le_mul_of_nonneg_right (by omega) (by omega)
    rw [Int.add_mul, Int.one_mul] at h2
    omega
theorem u64_small {n : Int} (h0 : 0 ≤ n) (h1 : n < 1000000) : IntKind.u64.wrap n = n := by
  simp [IntKind.wrap, IntKind.bits, IntKind.signed]
  omega
theorem i64_wrap {n : Int} (h0 : -9223372036854775808 ≤ n) (h1 : n ≤ 9223372036854775807) : IntKind.i64.wrap n = n := by
  rw [Go.IntKind.wrap_i64]
  omega
theorem pow_60 : (2 : Int) ^ 60 = 1152921504606846976 := by decide
theorem pow_le {a b : Nat} (h : a ≤ b) : (2 : Int) ^ a ≤ 2 ^ b := by
  have := Nat.pow_le_pow_right (show 0 < 2 by decide) h
  have e : ∀ n : Nat, ((2 : Int) ^ n) = ((2 ^ n : Nat) : Int) := fun n => by simp
  rw [e, e]
  omega
theorem pow_pos' (a : Nat) : (0 : Int) < 2 ^ a := Int.pow_pos (by decide)
theorem shl_pow {x : Int} {n : Int} (h0 : 0 ≤ n) (h1 : n ≤ 60) (x0 : 0 ≤ x) (hx : x * 2 ^ n.toNat ≤ 9223372036854775807) : shl .i64 x n = x * 2 ^ n.toNat := by
  unfold shl
  rw [Nat.min_eq_left (by show n.toNat ≤ 64; omega)]
  have := Int.mul_nonneg x0 (Int.le_of_lt (pow_pos' n.toNat))
  exact i64_wrap (by omega) hx
theorem shl_one {n : Int} (h0 : 0 ≤ n) (h1 : n ≤ 60) : shl .i64 1 n = 2 ^ n.toNat := by
  have := pow_le (a := n.toNat) (b := 60) (by omega)
  rw [pow_60] at this
  rw [shl_pow h0 h1 (by decide) (by omega), Int.one_mul]
theorem shr_pow {x : Int} {n : Int} (h0 : 0 ≤ n) (h1 : n ≤ 60) : shr .i64 x n = x / 2 ^ n.toNat := by
  unfold shr
  rw [Nat.min_eq_left (by show n.toNat ≤ 64; omega)]
theorem wraps_i64 (n : Int) (h0 : 0 ≤ n) (h1 : n < 2 ^ 63) : IntKind.i64.wrap n = n := by
  have : (2 : Int) ^ 63 = 9223372036854775808 := by decide
  exact i64_wrap (by omega) (by omega)
theorem and_mask {x : Int} {n : Nat} (hn : n ≤ 60) (h0 : 0 ≤ x) (h1 : x ≤ 9223372036854775807) : Go.bits .and .i64 x (2 ^ n - 1) = x % 2 ^ n := by
  have : (2 : Int) ^ 63 = 9223372036854775808 := by decide
  exact Go.bits_mask .i64 63 (by decide) wraps_i64 n (by omega) x h0 (by omega)
theorem or_join {x s : Int} {n : Nat} (x0 : 0 ≤ x) (s0 : 0 ≤ s) (s1 : s < 2 ^ n) (hb : x * 2 ^ n + s < 1152921504606846976) : Go.bits .or .i64 (x * 2 ^ n) s = x * 2 ^ n + s := by
  have e : (2 : Int) ^ 63 = 9223372036854775808 := by decide
  have := Int.mul_nonneg x0 (Int.le_of_lt (pow_pos' n))
  exact Go.bits_join .i64 63 (by decide) wraps_i64 n (x * 2 ^ n) s this (Int.mul_emod_left _ _) (by omega) s0 s1 (by omega)
def valid (p : Int) (l : List Int) : Bool := l.all fun s => decide (0 ≤ s ∧ s < p)
theorem valid_iff {p : Int} {l : List Int} : valid p l = true ↔ ∀ s ∈ l, 0 ≤ s ∧ s < p := by
  unfold valid
  rw [List.all_eq_true]
  simp only [decide_eq_true_eq]
theorem rd_mid (pre : List Int) (x : Int) (r : List Int) : rd (pre ++ x :: r) (pre.length : Int) = x := getD_mid pre x _ r
theorem words_loop (w : Int) (h1 : 1 ≤ w) (h8 : w ≤ 8) : ∀ (suf pre : List Int), (pre ++ suf).length ≤ 9223372036854775807 → Tells (fun k => r1_Words.l0 k w (pre ++ suf) (pre.length : Int)) (valid (2 ^ w.toNat) suf)
  | [], pre, _ => by
    refine Tells.succ ?_
    simp only [r1_Words.l0, pre_nlt, if_false]
    exact Tells.pure _
  | s :: r, pre, hl => by
    refine Tells.succ ?_
    simp only [r1_Words.l0, pre_lt, pre_pos, if_true, rd_mid]
    have ih := words_loop w h1 h8 r (pre ++ [s]) (by rw [← pre_app]; exact hl)
    rw [← pre_app] at ih
    rw [pre_next pre s r hl, show valid (2 ^ w.toNat) (s :: r) = (decide (0 ≤ s ∧ s < 2 ^ w.toNat) && valid (2 ^ w.toNat) r) from List.all_cons]
    exact Tells.bind (Word_tells w s h1 h8) (Tells.ifB ih)
theorem Store_is (w : Int) (vars : List S82) (l : List Int) (h1 : 1 ≤ w) (h8 : w ≤ 8) (hv : ∀ v ∈ vars, 1 ≤ v.f2 ∧ v.f2 ≤ 8) (h18 : vars.length ≤ 18) (hl : l.length ≤ 9223372036854775807) :
    Tells (fun k => r2_Store.f k w vars l) (decide ((l.length : Int) = cs vars) && valid (2 ^ w.toNat) l) := by
  unfold r2_Store.f
  refine Tells.bind (first_all vars hv h18) ?_
  by_cases h : (l.length : Int) = cs vars
  · rw [decide_eq_true h, Bool.true_and]
    refine Tells.ifT h (Tells.id' ?_)
    unfold r1_Words.f
    exact words_loop w h1 h8 l [] hl
  · rw [decide_eq_false h, Bool.false_and]
    exact Tells.ifF h (Tells.pure _)
theorem same_loop : ∀ (suf pre : List Int), (pre ++ suf).length ≤ 9223372036854775807 → Tells (fun k => r1_Same.l0 k (pre ++ suf) (pre ++ suf) (pre.length : Int)) true
  | [], pre, _ => by
    refine Tells.succ ?_
    simp only [r1_Same.l0, pre_nlt, if_false]
    exact Tells.pure _
  | s :: r, pre, hl => by
    refine Tells.succ ?_
    simp only [r1_Same.l0, pre_lt, pre_pos, if_true, rd_mid]
    have ih := same_loop r (pre ++ [s]) (by rw [← pre_app]; exact hl)
    rw [← pre_app] at ih
    rw [pre_next pre s r hl]
    exact ih
theorem same_tells (l : List Int) (hl : l.length ≤ 9223372036854775807) : Tells (fun k => r1_Same.f k l l) true := by
  unfold r1_Same.f
  exact Tells.ifT rfl (same_loop l [] hl)
section
variable {w : Int} {vars : List S82} {body : List S47} (hl : body.length ≤ 9223372036854775807) (hg : goodSs body)
include hl hg
theorem space_no (hp : pIs w vars body = false) : Tells (fun k => prog_Space.f k w vars body) (0, 30) := by
  have tc := pCheck_tells w vars body hl hg
  rw [hp] at tc
  unfold prog_Space.f
  exact Tells.bind tc (Tells.ifF (by decide) (Tells.pure _))
omit hl hg in
theorem pIs_cs (hp : pIs w vars body = true) : 1 ≤ w ∧ w ≤ 8 ∧ (∀ v ∈ vars, 1 ≤ v.f2 ∧ v.f2 ≤ 8) ∧ vars.length ≤ 18 ∧ 0 ≤ cs vars ∧ cs vars ≤ 144 ∧ 0 ≤ w * cs vars ∧ w * cs vars ≤ 1152 := by
  obtain ⟨hh, _⟩ := pIs_all hp
  obtain ⟨h1, h8, _, h18, hv0, _⟩ := hIs_all hh
  have hv : ∀ u ∈ vars, 1 ≤ u.f2 ∧ u.f2 ≤ 8 := fun u hu => (hv0 u hu).2.2
  obtain ⟨c0, c1⟩ := cs_bound vars hv
  have m0 := Int.mul_nonneg (show 0 ≤ w by omega) c0
  have m1 : w * cs vars ≤ 8 * cs vars := Int.mul_le_mul_of_nonneg_right h8 c0
  exact ⟨h1, h8, hv, h18, c0, by omega, m0, by omega⟩
theorem space_big (hp : pIs w vars body = true) (hb : ¬ w * cs vars ≤ 60) : Tells (fun k => prog_Space.f k w vars body) (0, 5) := by
  have tc := pCheck_tells w vars body hl hg
  rw [hp] at tc
  obtain ⟨h1, h8, hv, h18, c0, c1, m0, m1⟩ := pIs_cs hp
  unfold prog_Space.f
  refine Tells.bind tc (Tells.ifT rfl (Tells.bind (cells_tells w vars body hv h18) (Tells.ifT ?_ (Tells.pure _))))
  rw [w64 (by omega) (by omega)]
  omega
theorem space_few (hp : pIs w vars body = true) (hb : w * cs vars ≤ 60) : Tells (fun k => prog_Space.f k w vars body) (2 ^ (w * cs vars).toNat, 0) := by
  have tc := pCheck_tells w vars body hl hg
  rw [hp] at tc
  obtain ⟨h1, h8, hv, h18, c0, c1, m0, m1⟩ := pIs_cs hp
  have ew : wrap64 (w * cs vars) = w * cs vars := w64 (by omega) (by omega)
  unfold prog_Space.f
  refine Tells.bind tc (Tells.ifT rfl (Tells.bind (cells_tells w vars body hv h18) (Tells.ifF (by rw [ew]; omega) (Tells.bind (cells_tells w vars body hv h18) ?_))))
  rw [ew, u64_small m0 (by omega), shl_one m0 hb]
  exact Tells.ifT m0 (Tells.pure _)
omit hl hg in
theorem few_tells (hp : pIs w vars body = true) : Tells (fun k => r3_Few.f k w vars body) (decide (w * cs vars ≤ 60)) := by
  obtain ⟨h1, h8, hv, h18, c0, c1, m0, m1⟩ := pIs_cs hp
  unfold r3_Few.f r3_Cells.f
  refine Tells.bind (Tells.bind (h := fun _ t => some t) (first_all vars hv h18) (Tells.pure _)) ?_
  rw [w64 (by omega) (by omega)]
  exact Tells.pure _
omit hl hg in
theorem rspace_tells (hp : pIs w vars body = true) (hb : w * cs vars ≤ 60) : Tells (fun k => r3_Space.f k w vars body) (2 ^ (w * cs vars).toNat) := by
  obtain ⟨h1, h8, hv, h18, c0, c1, m0, m1⟩ := pIs_cs hp
  unfold r3_Space.f r3_Cells.f
  refine Tells.bind (Tells.bind (h := fun _ t => some t) (first_all vars hv h18) (Tells.pure _)) ?_
  rw [w64 (by omega) (by omega)]
  exact Tells.bind (h := fun _ t => some t) (Pow_tells _ m0 hb) (Tells.pure _)
omit hl hg in
theorem total (hp : pIs w vars body = true) : (2 : Int) ^ (w * cs vars).toNat = (2 ^ w.toNat) ^ (cs vars).toNat := by
  obtain ⟨h1, h8, hv, h18, c0, c1, m0, m1⟩ := pIs_cs hp
  obtain ⟨a, ha⟩ : ∃ a : Nat, w = a := ⟨w.toNat, by omega⟩
  obtain ⟨b, hb⟩ : ∃ b : Nat, cs vars = b := ⟨(cs vars).toNat, by omega⟩
  rw [ha, hb, ← Int.natCast_mul, Int.toNat_natCast, Int.toNat_natCast, Int.toNat_natCast, ← Int.pow_mul]
omit hl hg in
theorem store_loop (h1 : 1 ≤ w) (h8 : w ≤ 8) (l2 : List S47) (c : Int) (hc : c ≤ 144) : ∀ (n : Nat) (i x : Int) (acc : List Int), 0 ≤ i → i + n = c → (acc.length : Int) = i → 0 ≤ x → x ≤ 9223372036854775807 →
    Tells (fun k => prog_Store.l0 k x acc c i w vars l2) (acc ++ sto (2 ^ w.toNat) n x, 0)
  | 0, i, x, acc, i0, hi, ha, x0, x1 => by
    refine Tells.succ ?_
    have : ¬ i < c := by omega
    simp only [prog_Store.l0, this, if_false, sto, List.append_nil]
    exact Tells.pure _
  | n + 1, i, x, acc, i0, hi, ha, x0, x1 => by
    refine Tells.succ ?_
    have hp := pow_le8 h1 h8
    have hlt : i < c := by omega
    simp only [prog_Store.l0]
    rw [u64_small (by omega) (by omega), shl_one (by omega) (by omega), w64 (n := 2 ^ w.toNat - 1) (by omega) (by omega), and_mask (by omega) x0 x1, shr_pow (by omega) (by omega), w64 (n := i + 1) (by omega) (by omega)]
    refine Tells.ifT hlt (Tells.ifT (by omega) (Tells.ifT (by omega) ?_))
    have ih := store_loop h1 h8 l2 c hc n (i + 1) (x / 2 ^ w.toNat) (acc ++ [x % 2 ^ w.toNat]) (by omega) (by omega) (by rw [List.length_append, List.length_singleton]; omega) (Int.ediv_nonneg x0 (by omega)) (Int.le_trans (Int.ediv_le_self _ x0) x1)
    rw [List.append_assoc] at ih
    exact ih
theorem Store_ok (hp : pIs w vars body = true) (hb : w * cs vars ≤ 60) {i : Int} (i0 : 0 ≤ i) (i1 : i < 2 ^ (w * cs vars).toNat) : Tells (fun k => prog_Store.f k w vars body i) (sto (2 ^ w.toNat) (cs vars).toNat i, 0) := by
  obtain ⟨h1, h8, hv, h18, c0, c1, m0, m1⟩ := pIs_cs hp
  have hpl := pow_le (a := (w * cs vars).toNat) (b := 60) (by omega)
  rw [pow_60] at hpl
  unfold prog_Store.f
  refine Tells.bind (space_few hl hg hp hb) (Tells.ifT rfl (Tells.ifF (by omega) (Tells.succ ?_)))
  simp only [prog_Store.j0]
  refine Tells.ifF (by rw [decide_eq_true_eq]; omega) (Tells.bind (cells_tells w vars body hv h18) ?_)
  exact store_loop h1 h8 body (cs vars) c1 (cs vars).toNat 0 i [] (by decide) (by omega) rfl i0 (by omega)
theorem Store_out (hp : pIs w vars body = true) (hb : w * cs vars ≤ 60) {i : Int} (hi : ¬ (0 ≤ i ∧ i < 2 ^ (w * cs vars).toNat)) : Tells (fun k => prog_Store.f k w vars body i) ([], 1) := by
  have jt : Tells (fun k => prog_Store.j0 k i true w vars body) ([], 1) := by
    refine Tells.succ ?_
    simp only [prog_Store.j0, if_true]
    exact Tells.pure _
  unfold prog_Store.f
  refine Tells.bind (space_few hl hg hp hb) (Tells.ifT rfl ?_)
  by_cases h : i < 0
  · exact Tells.ifT h jt
  · refine Tells.ifF h ?_
    rw [decide_eq_true (by omega : i ≥ 2 ^ (w * cs vars).toNat)]
    exact jt
omit hl hg in
theorem index_loop (h1 : 1 ≤ w) (h8 : w ≤ 8) (l2 : List S47) : ∀ (n : Nat) (pre done : List Int), pre.length = n → (pre.length + done.length) * w.toNat ≤ 60 → (∀ s ∈ done, 0 ≤ s ∧ s < 2 ^ w.toNat) →
    Tells (fun k => prog_Index.l0 k (pre ++ done) (idx (2 ^ w.toNat) done) ((n : Int) - 1) w vars l2) (if valid (2 ^ w.toNat) pre = true then (idx (2 ^ w.toNat) (pre ++ done), 0) else (0, 1))
  | 0, pre, done, hn, _, _ => by
    obtain rfl := List.length_eq_zero_iff.1 hn
    refine Tells.succ ?_
    simp only [prog_Index.l0]
    exact Tells.ifF (by decide) (Tells.pure _)
  | n + 1, pre, done, hn, hb, hd => by
    have hne : pre ≠ [] := by intro h; rw [h] at hn; cases hn
    obtain ⟨q, s, rfl⟩ : ∃ q s, pre = q ++ [s] := ⟨pre.dropLast, pre.getLast hne, (List.dropLast_concat_getLast hne).symm⟩
    rw [List.length_append, List.length_singleton] at hn hb
    have hq : q.length = n := by omega
    have hp := pow_le8 h1 h8
    have hir := idx_range (p := 2 ^ w.toNat) (by omega) done hd
    have hsmall : q.length + 1 + done.length ≤ 60 := by
      have : q.length + 1 + done.length ≤ (q.length + 1 + done.length) * w.toNat := Nat.le_mul_of_pos_right _ (by omega)
      omega
    refine Tells.succ ?_
    have e : (q ++ [s]) ++ done = q ++ s :: done := by simp
    have ei : (((n + 1 : Nat) : Int) - 1) = (q.length : Int) := by omega
    rw [e, ei]
    simp only [prog_Index.l0, pre_lt, pre_pos, rd_mid]
    rw [u64_small (by omega) (by omega), shl_one (by omega) (by omega)]
    have ev : valid (2 ^ w.toNat) (q ++ [s]) = (valid (2 ^ w.toNat) q && decide (0 ≤ s ∧ s < 2 ^ w.toNat)) := by unfold valid; rw [List.all_append, List.all_cons, List.all_nil, Bool.and_true]
    refine Tells.ifT (by trivial) (Tells.ifT (by trivial) (Tells.ifT (by trivial) ?_))
    by_cases a1 : s < 0
    · rw [ev, decide_eq_false (by omega), Bool.and_false]
      exact Tells.ifT a1 (Tells.pure _)
    refine Tells.ifF a1 (Tells.ifT (by omega) ?_)
    by_cases a2 : s ≥ 2 ^ w.toNat
    · rw [ev, decide_eq_false (by omega), Bool.and_false]
      exact Tells.ifT a2 (Tells.pure _)
    refine Tells.ifF a2 ?_
    have hs : (0 ≤ s ∧ s < 2 ^ w.toNat) := ⟨by omega, by omega⟩
    rw [ev, decide_eq_true hs, Bool.and_true]
    have hd' : ∀ u ∈ s :: done, 0 ≤ u ∧ u < 2 ^ w.toNat := by
      intro u hu
      rcases List.mem_cons.1 hu with rfl | hu
      · exact hs
      · exact hd u hu
    have hir' := idx_range (p := 2 ^ w.toNat) (by omega) (s :: done) hd'
    have hbb : ((2 : Int) ^ w.toNat) ^ (s :: done).length ≤ 1152921504606846976 := by
      rw [← Int.pow_mul, ← pow_60]
      apply pow_le
      rw [List.length_cons]
      have : w.toNat * (done.length + 1) ≤ (q.length + 1 + done.length) * w.toNat := by
        rw [Nat.mul_comm]
        exact Nat.mul_le_mul_right _ (by omega)
      omega
    simp only [idx] at hir'
    have hx := Int.mul_nonneg hir.1 (show (0 : Int) ≤ 2 ^ w.toNat by omega)
    rw [shl_pow (by omega) (by omega) hir.1 (by omega), or_join hir.1 hs.1 hs.2 (by omega), w64 (n := (q.length : Int) - 1) (by omega) (by omega)]
    have ih := index_loop h1 h8 l2 n q (s :: done) hq (by rw [List.length_cons, show q.length + (done.length + 1) = q.length + 1 + done.length by omega]; exact hb) hd'
    simp only [idx] at ih
    rw [hq]
    exact ih
theorem Index_tells (hp : pIs w vars body = true) (hb : w * cs vars ≤ 60) (l : List Int) (hll : l.length ≤ 9223372036854775807) : Tells (fun k => prog_Index.f k w vars body l) (if (decide ((l.length : Int) = cs vars) && valid (2 ^ w.toNat) l) = true then (idx (2 ^ w.toNat) l, 0) else (0, 1)) := by
  obtain ⟨h1, h8, hv, h18, c0, c1, m0, m1⟩ := pIs_cs hp
  unfold prog_Index.f
  refine Tells.bind (space_few hl hg hp hb) (Tells.ifT rfl (Tells.bind (cells_tells w vars body hv h18) ?_))
  by_cases h : (l.length : Int) = cs vars
  · rw [decide_eq_true h, Bool.true_and]
    refine Tells.ifT h ?_
    have hm : (l.length + ([] : List Int).length) * w.toNat ≤ 60 := by
      rw [List.length_nil, Nat.add_zero]
      have : ((l.length * w.toNat : Nat) : Int) = w * cs vars := by
        rw [Int.natCast_mul, Int.toNat_of_nonneg (by omega), h, Int.mul_comm]
      omega
    have := index_loop (vars := vars) h1 h8 body l.length l [] rfl hm (by simp)
    rw [List.append_nil] at this
    rw [w64 (by omega) (by omega)]
    exact this
  · rw [decide_eq_false h, Bool.false_and]
    exact Tells.ifF h (Tells.pure _)
omit hl hg in
theorem rstore_loop (h1 : 1 ≤ w) (h8 : w ≤ 8) (hv : ∀ v ∈ vars, 1 ≤ v.f2 ∧ v.f2 ≤ 8) (h18 : vars.length ≤ 18) (l2 : List S47) (c1 : cs vars ≤ 144) : ∀ (n : Nat) (i x : Int) (acc : List Int), 0 ≤ i → i + n = cs vars → (acc.length : Int) = i → 0 ≤ x → x ≤ 9223372036854775807 →
    Tells (fun k => r3_Store.l0 k x acc i w vars l2) (acc ++ sto (2 ^ w.toNat) n x)
  | 0, i, x, acc, i0, hi, ha, x0, x1 => by
    refine Tells.succ ?_
    simp only [r3_Store.l0, r3_Cells.f, sto, List.append_nil]
    exact Tells.bind (Tells.bind (h := fun _ t => some t) (first_all vars hv h18) (Tells.pure _)) (Tells.ifF (by omega) (Tells.pure _))
  | n + 1, i, x, acc, i0, hi, ha, x0, x1 => by
    refine Tells.succ ?_
    have hp := pow_le8 h1 h8
    simp only [r3_Store.l0, r3_Cells.f]
    refine Tells.bind (Tells.bind (h := fun _ t => some t) (first_all vars hv h18) (Tells.pure _)) (Tells.ifT (by omega) (Tells.bind (Pow_tells w (by omega) (by omega)) (Tells.ifF (by omega) (Tells.ifT (by omega) (Tells.bind (Pow_tells w (by omega) (by omega)) (Tells.ifF (by omega) ?_))))))
    have b0 := Int.ediv_nonneg x0 (show (0 : Int) ≤ 2 ^ w.toNat by omega)
    have b1 := Int.ediv_le_self (2 ^ w.toNat) x0
    rw [Int.tdiv_eq_ediv_of_nonneg x0, Int.tmod_eq_emod_of_nonneg x0, w64 (n := i + 1) (by omega) (by omega), w64 (n := x / 2 ^ w.toNat) (by omega) (by omega)]
    have ih := rstore_loop h1 h8 hv h18 l2 c1 n (i + 1) (x / 2 ^ w.toNat) (acc ++ [x % 2 ^ w.toNat]) (by omega) (by omega) (by rw [List.length_append, List.length_singleton]; omega) b0 (by omega)
    rw [List.append_assoc] at ih
    exact ih
omit hl hg in
theorem RStore_tells (hp : pIs w vars body = true) {i : Int} (i0 : 0 ≤ i) (i1 : i ≤ 9223372036854775807) : Tells (fun k => r3_Store.f k w vars body i) (sto (2 ^ w.toNat) (cs vars).toNat i) := by
  obtain ⟨h1, h8, hv, h18, c0, c1, m0, m1⟩ := pIs_cs hp
  unfold r3_Store.f
  exact rstore_loop h1 h8 hv h18 body c1 (cs vars).toNat 0 i [] (by decide) (by omega) rfl i0 i1
omit hl hg in
theorem rindex_loop (h1 : 1 ≤ w) (h8 : w ≤ 8) (l2 : List S47) : ∀ (n : Nat) (pre done : List Int), pre.length = n → (pre.length + done.length) * w.toNat ≤ 60 → (∀ s ∈ pre ++ done, 0 ≤ s ∧ s < 2 ^ w.toNat) →
    Tells (fun k => r3_Index.l0 k (pre ++ done) (idx (2 ^ w.toNat) done) ((n : Int) - 1) w vars l2) (idx (2 ^ w.toNat) (pre ++ done))
  | 0, pre, done, hn, _, _ => by
    obtain rfl := List.length_eq_zero_iff.1 hn
    refine Tells.succ ?_
    simp only [r3_Index.l0]
    exact Tells.ifF (by decide) (Tells.pure _)
  | n + 1, pre, done, hn, hb, hd => by
    have hne : pre ≠ [] := by intro h; rw [h] at hn; cases hn
    obtain ⟨q, s, rfl⟩ : ∃ q s, pre = q ++ [s] := ⟨pre.dropLast, pre.getLast hne, (List.dropLast_concat_getLast hne).symm⟩
    rw [List.length_append, List.length_singleton] at hn hb
    have hq : q.length = n := by omega
    have hp := pow_le8 h1 h8
    have hir := idx_range (p := 2 ^ w.toNat) (by omega) done (fun u hu => hd u (by simp [hu]))
    have hsmall : q.length + 1 + done.length ≤ 60 := by
      have : q.length + 1 + done.length ≤ (q.length + 1 + done.length) * w.toNat := Nat.le_mul_of_pos_right _ (by omega)
      omega
    refine Tells.succ ?_
    have e : (q ++ [s]) ++ done = q ++ s :: done := by simp
    have ei : (((n + 1 : Nat) : Int) - 1) = (q.length : Int) := by omega
    rw [e] at hd ⊢
    rw [ei]
    have hs := hd s (by simp)
    have hir' := idx_range (p := 2 ^ w.toNat) (by omega) (s :: done) (fun u hu => hd u (List.mem_append_right _ hu))
    have hbb : ((2 : Int) ^ w.toNat) ^ (s :: done).length ≤ 1152921504606846976 := by
      rw [← Int.pow_mul, ← pow_60]
      apply pow_le
      rw [List.length_cons]
      have : w.toNat * (done.length + 1) ≤ (q.length + 1 + done.length) * w.toNat := by
        rw [Nat.mul_comm]
        exact Nat.mul_le_mul_right _ (by omega)
      omega
    simp only [idx] at hir'
    have hx := Int.mul_nonneg hir.1 (show (0 : Int) ≤ 2 ^ w.toNat by omega)
    simp only [r3_Index.l0, pre_lt, pre_pos, rd_mid]
    refine Tells.ifT (by trivial) (Tells.bind (Pow_tells w (by omega) (by omega)) (Tells.ifT (by trivial) (Tells.ifT (by trivial) ?_)))
    rw [w64 (n := idx (2 ^ w.toNat) done * 2 ^ w.toNat) (by omega) (by omega), w64 (n := idx (2 ^ w.toNat) done * 2 ^ w.toNat + s) (by omega) (by omega), w64 (n := (q.length : Int) - 1) (by omega) (by omega)]
    have ih := rindex_loop h1 h8 l2 n q (s :: done) hq (by rw [List.length_cons, show q.length + (done.length + 1) = q.length + 1 + done.length by omega]; exact hb) hd
    simp only [idx] at ih
    rw [hq]
    exact ih
omit hl hg in
theorem RIndex_tells (hp : pIs w vars body = true) (hb : w * cs vars ≤ 60) (l : List Int) (hc : (l.length : Int) = cs vars) (hv0 : valid (2 ^ w.toNat) l = true) : Tells (fun k => r3_Index.f k w vars body l) (idx (2 ^ w.toNat) l) := by
  obtain ⟨h1, h8, hv, h18, c0, c1, m0, m1⟩ := pIs_cs hp
  unfold r3_Index.f
  have hm : (l.length + ([] : List Int).length) * w.toNat ≤ 60 := by
    rw [List.length_nil, Nat.add_zero]
    have : ((l.length * w.toNat : Nat) : Int) = w * cs vars := by
      rw [Int.natCast_mul, Int.toNat_of_nonneg (by omega), hc, Int.mul_comm]
    omega
  have := rindex_loop (vars := vars) h1 h8 body l.length l [] rfl hm (by rw [List.append_nil]; exact valid_iff.1 hv0)
  rw [List.append_nil] at this
  rw [w64 (by omega) (by omega)]
  exact this
end
end Go.Proofs.Ytffcpbgbhkbplaa.Print
namespace Go.Proofs.Ytffcpbgbhkbplaa.Print
open Go.RowKit Go.Proofs.YtffcpbgbhkbplaaW.PrintWords Go.Proofs.YtffcpbgbhkbplaaW.PrintLast Go.Proofs.YtffcpbgbhkbplaaW.PrintMore
attribute [local go_sem] max2_int min2_int max_two min_two max_three min_three max_four min_four
set_option linter.unusedVariables false
set_option linter.unusedSimpArgs false
mutual
def w3_ProgStores.j0 : Nat → Int → List Int → Int → Int → List Int → Int → Int → Int → Bool → Int → List (S82) → List (S47) → Option (Bool)
 | 0, _, _, _, _, _, _, _, _, _, _, _, _ => none
 | k + 1, x1, x2, x7, x8, x9, x10, x11, x12, x13, x328000, x328001, x328002 => (r3_Is.f k x328000 x328001 x328002).bind fun t338 => (if t338 = true then ((r3_Few.f k x328000 x328001 x328002).bind fun t340 => (if t340 = true then (if x8 = 0 then ((r3_Space.f k x328000 x328001 x328002).bind fun t342 => (w3_ProgStores.j1 k x1 x2 x9 x10 x11 x12 (x7 != t342) x328000 x328001 x328002)) else (w3_ProgStores.j1 k x1 x2 x9 x10 x11 x12 true x328000 x328001 x328002)) else (if x8 = 5 then (if x10 = 5 then (if x12 = 5 then (if x13 = true then ((w3_awake.f k).bind fun t341 => (some t341)) else (some false)) else (some false)) else (some false)) else (some false)))) else (if x8 = 30 then (if x10 = 30 then (if x12 = 30 then (if x13 = true then ((w3_awake.f k).bind fun t339 => (some t339)) else (some false)) else (some false)) else (some false)) else (some false)))
def w3_ProgStores.j1 : Nat → Int → List Int → List Int → Int → Int → Int → Bool → Int → List (S82) → List (S47) → Option (Bool)
 | 0, _, _, _, _, _, _, _, _, _, _ => none
 | k + 1, x1, x2, x9, x10, x11, x12, x92, x328000, x328001, x328002 => if x92 = true then (some false) else (if x1 < 0 then (w3_ProgStores.j2 k x1 x2 x9 x10 x11 x12 true x328000 x328001 x328002) else ((r3_Space.f k x328000 x328001 x328002).bind fun t343 => (w3_ProgStores.j2 k x1 x2 x9 x10 x11 x12 (decide (x1 ≥ t343)) x328000 x328001 x328002)))
def w3_ProgStores.j2 : Nat → Int → List Int → List Int → Int → Int → Int → Bool → Int → List (S82) → List (S47) → Option (Bool)
 | 0, _, _, _, _, _, _, _, _, _, _ => none
 | k + 1, x1, x2, x9, x10, x11, x12, x100, x328000, x328001, x328002 => if x100 = true then (if x10 = 1 then (if (x9.length : Int) = 0 then (w3_ProgStores.j3 k x2 x11 x12 x328000 x328001 x328002) else (some false)) else (some false)) else (if x10 = 0 then ((r3_Store.f k x328000 x328001 x328002 x1).bind fun t344 => ((r1_Same.f k x9 t344).bind fun t347 => (if t347 = true then (w3_ProgStores.j3 k x2 x11 x12 x328000 x328001 x328002) else (some false)))) else (some false))
def w3_ProgStores.j3 : Nat → List Int → Int → Int → Int → List (S82) → List (S47) → Option (Bool)
 | 0, _, _, _, _, _, _ => none
 | k + 1, x2, x11, x12, x328000, x328001, x328002 => (r2_Store.f k x328000 x328001 x2).bind fun t348 => (if t348 = true then (if x12 = 0 then ((r3_Index.f k x328000 x328001 x328002 x2).bind fun t349 => (if x11 = t349 then ((w3_awake.f k).bind fun t350 => (some t350)) else (some false))) else (some false)) else (if x12 = 1 then (if x11 = 0 then ((w3_awake.f k).bind fun t351 => (some t351)) else (some false)) else (some false)))
end
def w3_ProgStores.f (k : Nat) (a0_0 : Int) (l0_1 : List (S82)) (l0_2 : List (S47)) (a1 : Int) (l2 : List Int) : Option (Bool) := (r3_Fits.f k l0_2 600).bind fun t328 => (if t328 = true then ((prog_Space.f k a0_0 l0_1 l0_2).bind fun bt330 => ((prog_Store.f k a0_0 l0_1 l0_2 a1).bind fun bt332 => ((prog_Index.f k a0_0 l0_1 l0_2 l2).bind fun bt336 => (if bt330.1 = 0 then (if (bt332.1.length : Int) = 0 then (w3_ProgStores.j0 k a1 l2 bt330.1 bt330.2 bt332.1 bt332.2 bt336.1 bt336.2 (bt336.1 == 0) a0_0 l0_1 l0_2) else (w3_ProgStores.j0 k a1 l2 bt330.1 bt330.2 bt332.1 bt332.2 bt336.1 bt336.2 false a0_0 l0_1 l0_2)) else (w3_ProgStores.j0 k a1 l2 bt330.1 bt330.2 bt332.1 bt332.2 bt336.1 bt336.2 false a0_0 l0_1 l0_2))))) else ((w3_awake.f k).bind fun t329 => (some t329)))
set_option maxHeartbeats 8000000 in
set_option maxRecDepth 100000 in
theorem w3_ProgStores.calls (k : Nat) (a0_0 : Int) (A0_1 : Option Addr) (c0_1 : Nat) (l0_1 : List (S82)) (A0_2 : Option Addr) (c0_2 : Nat) (l0_2 : List (S47)) (a1 : Int) (A2 : Option Addr) (c2 : Nat) (l2 : List Int) (r : Bool) (w : World) (hr0_1 : Kd.C k82 w A0_1 l0_1.length l0_1) (hc0_1 : l0_1.length ≤ c0_1) (hr0_2 : Kd.C k47 w A0_2 l0_2.length l0_2) (hc0_2 : l0_2.length ≤ c0_2) (hr2 : Kd.C (Kd.int .i64) w A2 l2.length l2) (hc2 : l2.length ≤ c2) (hrt : r = true) (h : w3_ProgStores.f k a0_0 l0_1 l0_2 a1 l2 = some r) :
  Calls Try.prog 3 #[.agg #[.int .i64 a0_0, .slice A0_1 l0_1.length c0_1, .slice A0_2 l0_2.length c0_2], .int .i64 a1, .slice A2 l2.length c2] w fun e w' => e = .returned (.bool r) ∧ Below w.heap.size w w' := by
 have hu25 := Try.underlying25
 have HR0_1 := Aside0.mk hr0_1
 have HC0_1 := Aside0.mk hc0_1
 clear hr0_1 hc0_1
 have HR0_2 := Aside0.mk hr0_2
 have HC0_2 := Aside0.mk hc0_2
 clear hr0_2 hc0_2
 have HR2 := Aside0.mk hr2
 have HC2 := Aside0.mk hc2
 clear hr2 hc2
 have HB := Aside0.mk (Below.refl w.heap.size w)
 have H : ((r3_Fits.f k l0_2 600).bind fun t328 => (if t328 = true then ((prog_Space.f k a0_0 l0_1 l0_2).bind fun bt330 => ((prog_Store.f k a0_0 l0_1 l0_2 a1).bind fun bt332 => ((prog_Index.f k a0_0 l0_1 l0_2 l2).bind fun bt336 => (if bt330.1 = 0 then (if (bt332.1.length : Int) = 0 then (w3_ProgStores.j0 k a1 l2 bt330.1 bt330.2 bt332.1 bt332.2 bt336.1 bt336.2 (bt336.1 == 0) a0_0 l0_1 l0_2) else (w3_ProgStores.j0 k a1 l2 bt330.1 bt330.2 bt332.1 bt332.2 bt336.1 bt336.2 false a0_0 l0_1 l0_2)) else (w3_ProgStores.j0 k a1 l2 bt330.1 bt330.2 bt332.1 bt332.2 bt336.1 bt336.2 false a0_0 l0_1 l0_2))))) else ((w3_awake.f k).bind fun t329 => (some t329)))) = some r := h
 clear h
 replace H := Option.bind_eq_some_iff.mp H
 obtain ⟨t328, A40, H⟩ := H
 replace H : (if t328 = true then ((prog_Space.f k a0_0 l0_1 l0_2).bind fun bt330 => ((prog_Store.f k a0_0 l0_1 l0_2 a1).bind fun bt332 => ((prog_Index.f k a0_0 l0_1 l0_2 l2).bind fun bt336 => (if bt330.1 = 0 then (if (bt332.1.length : Int) = 0 then (w3_ProgStores.j0 k a1 l2 bt330.1 bt330.2 bt332.1 bt332.2 bt336.1 bt336.2 (bt336.1 == 0) a0_0 l0_1 l0_2) else (w3_ProgStores.j0 k a1 l2 bt330.1 bt330.2 bt332.1 bt332.2 bt336.1 bt336.2 false a0_0 l0_1 l0_2)) else (w3_ProgStores.j0 k a1 l2 bt330.1 bt330.2 bt332.1 bt332.2 bt336.1 bt336.2 false a0_0 l0_1 l0_2))))) else ((w3_awake.f k).bind fun t329 => (some t329))) = some r := H
 have A4 := Aside0.mk A40
 clear A40
 by_cases c5 : t328 = true
 ·subst c5
  have H1 : ((prog_Space.f k a0_0 l0_1 l0_2).bind fun bt330 => ((prog_Store.f k a0_0 l0_1 l0_2 a1).bind fun bt332 => ((prog_Index.f k a0_0 l0_1 l0_2 l2).bind fun bt336 => (if bt330.1 = 0 then (if (bt332.1.length : Int) = 0 then (w3_ProgStores.j0 k a1 l2 bt330.1 bt330.2 bt332.1 bt332.2 bt336.1 bt336.2 (bt336.1 == 0) a0_0 l0_1 l0_2) else (w3_ProgStores.j0 k a1 l2 bt330.1 bt330.2 bt332.1 bt332.2 bt336.1 bt336.2 false a0_0 l0_1 l0_2)) else (w3_ProgStores.j0 k a1 l2 bt330.1 bt330.2 bt332.1 bt332.2 bt336.1 bt336.2 false a0_0 l0_1 l0_2))))) = some r := by rw [if_pos rfl] at H; exact H
  clear H
  have H := H1
  clear H1
  replace H := Option.bind_eq_some_iff.mp H
  obtain ⟨⟨t330, t331⟩, A60, H⟩ := H
  replace H : ((prog_Store.f k a0_0 l0_1 l0_2 a1).bind fun bt332 => ((prog_Index.f k a0_0 l0_1 l0_2 l2).bind fun bt336 => (if t330 = 0 then (if (bt332.1.length : Int) = 0 then (w3_ProgStores.j0 k a1 l2 t330 t331 bt332.1 bt332.2 bt336.1 bt336.2 (bt336.1 == 0) a0_0 l0_1 l0_2) else (w3_ProgStores.j0 k a1 l2 t330 t331 bt332.1 bt332.2 bt336.1 bt336.2 false a0_0 l0_1 l0_2)) else (w3_ProgStores.j0 k a1 l2 t330 t331 bt332.1 bt332.2 bt336.1 bt336.2 false a0_0 l0_1 l0_2)))) = some r := H
  have A6 := Aside0.mk A60
  clear A60
  replace H := Option.bind_eq_some_iff.mp H
  obtain ⟨⟨t332, t335⟩, A70, H⟩ := H
  replace H : ((prog_Index.f k a0_0 l0_1 l0_2 l2).bind fun bt336 => (if t330 = 0 then (if (t332.length : Int) = 0 then (w3_ProgStores.j0 k a1 l2 t330 t331 t332 t335 bt336.1 bt336.2 (bt336.1 == 0) a0_0 l0_1 l0_2) else (w3_ProgStores.j0 k a1 l2 t330 t331 t332 t335 bt336.1 bt336.2 false a0_0 l0_1 l0_2)) else (w3_ProgStores.j0 k a1 l2 t330 t331 t332 t335 bt336.1 bt336.2 false a0_0 l0_1 l0_2))) = some r := H
  have A7 := Aside0.mk A70
  clear A70
  replace H := Option.bind_eq_some_iff.mp H
  obtain ⟨⟨t336, t337⟩, A80, H⟩ := H
  replace H : (if t330 = 0 then (if (t332.length : Int) = 0 then (w3_ProgStores.j0 k a1 l2 t330 t331 t332 t335 t336 t337 (t336 == 0) a0_0 l0_1 l0_2) else (w3_ProgStores.j0 k a1 l2 t330 t331 t332 t335 t336 t337 false a0_0 l0_1 l0_2)) else (w3_ProgStores.j0 k a1 l2 t330 t331 t332 t335 t336 t337 false a0_0 l0_1 l0_2)) = some r := H
  have A8 := Aside0.mk A80
  clear A80
  have HC9 := Aside0.mk H
  clear H
  go_enter Try.func3, Try.ntmps3
  go_upto_region 6 with (first | ((with_reducible refine gate_dst (N := 3) rfl ?_); (try (refine gate_guard (by rfl) ?_; dsimp only)); refine box_event ?hg (N := 3) ?hd (cs := #[.int .i64 a0_0, .slice A0_1 l0_1.length c0_1, .slice A0_2 l0_2.length c0_2]) (t := 25) ?hr ?_; (case hd => rfl); (case hg => rfl); (case hr => first | (go_simp; done) | (go_simp; rfl)); intro gb327 hg w10 hbox hb; have n0_ := Aside0.mk (bsp (by repeat (first | (with_reducible first | exact HB.out | apply bal | apply bdN | apply bd1) | exact HB.out)) hb); have n1_ := Aside0.mk (hbox); have n2_ := Aside0.mk ((by rw [hg]; exact (bsz (by repeat (first | (with_reducible first | exact HB.out | apply bal | apply bdN | apply bd1) | exact HB.out))) : w.heap.size ≤ gb327)); have n3_ := Aside0.mk ((by rw [hg]; exact (bsz (by repeat (first | (with_reducible first | exact HB.out | apply bal | apply bdN | apply bd1) | exact HB.out))) : w.heap.size ≤ gb327)); clear HB; have HB := n0_; have BK327 := n1_; have GW327 := n2_; have GE327 := n3_; clear n0_ n1_ n2_ n3_; clear hb hbox hg; obtain ⟨hcz11_0, hcz11_1, hcz11_2, hfz11_0, hfz11_1, hfz11_2⟩ := cf3 BK327.out) | ((with_reducible refine gate_callee (f := 11) rfl ?_); refine goesL_ (some 16) rfl rfl Try.func11 (by kernel_rfl) rfl #[.slice A0_2 l0_2.length c0_2, .int .i64 600] rfl (by (try simp only [List.map_toArray, List.map_cons, List.map_nil]); first | done | rfl | (simp only [List.length_drop, List.length_take]; rfl)) ?_; (with_reducible refine (r3_Fits.calls k _ _ l0_2 600 true _ ?side1 ?side2 A4.out).mono ?_); (case side1 => repeat (first | exact (Kd.C_below HR0_2.out HB.out) | with_reducible first | apply Kd.C_alloc | apply Kd.C_drewN | apply Kd.C_drew)); (case side2 => exact HC0_2.out); rintro e w12 ⟨rfl, hb⟩; refine ⟨_, rfl, ?_⟩; have n0_ := Aside0.mk (blk_below (g := gb327) (o := .cells #[.int .i64 a0_0, .slice A0_1 l0_1.length c0_1, .slice A0_2 l0_2.length c0_2] 25 (0, 0)) (by (with_reducible repeat (first | refine kdN ?_ _ | refine kdr ?_ | refine kal ?_ _)); exact BK327.out) hb); have n1_ := Aside0.mk (bsp (by repeat (first | (with_reducible first | exact HB.out | apply bal | apply bdN | apply bd1 | refine bst ?_ GE327.out) | exact HB.out)) hb); clear BK327; clear HB; have BK327 := n0_; have HB := n1_; clear n0_ n1_; (try clear hb); (try clear hb2); (try clear hk); (try clear hi); obtain ⟨hcz13_0, hcz13_1, hcz13_2, hfz13_0, hfz13_1, hfz13_2⟩ := cf3 BK327.out) | ((with_reducible refine gate_callee (f := 13) rfl ?_); refine goesL_ (some 21) rfl rfl Try.func13 (by kernel_rfl) rfl #[.agg #[.int .i64 a0_0, .slice A0_1 l0_1.length c0_1, .slice A0_2 l0_2.length c0_2]] rfl (by (try simp only [List.map_toArray, List.map_cons, List.map_nil]); first | done | rfl | (simp only [List.length_drop, List.length_take]; rfl)) ?_; (with_reducible refine (prog_Space.calls k a0_0 _ _ l0_1 _ _ l0_2 t330 t331 _ ?side1 ?side2 ?side3 ?side4 A6.out).mono ?_); (case side1 => repeat (first | exact (Kd.C_below HR0_1.out HB.out) | with_reducible first | apply Kd.C_alloc | apply Kd.C_drewN | apply Kd.C_drew)); (case side2 => exact HC0_1.out); (case side3 => repeat (first | exact (Kd.C_below HR0_2.out HB.out) | with_reducible first | apply Kd.C_alloc | apply Kd.C_drewN | apply Kd.C_drew)); (case side4 => exact HC0_2.out); rintro e w14 ⟨rfl, hb⟩; refine ⟨_, rfl, ?_⟩; have n0_ := Aside0.mk (blk_below (g := gb327) (o := .cells #[.int .i64 a0_0, .slice A0_1 l0_1.length c0_1, .slice A0_2 l0_2.length c0_2] 25 (0, 0)) (by (with_reducible repeat (first | refine kdN ?_ _ | refine kdr ?_ | refine kal ?_ _)); exact BK327.out) hb); have n1_ := Aside0.mk (bsp (by repeat (first | (with_reducible first | exact HB.out | apply bal | apply bdN | apply bd1 | refine bst ?_ GE327.out) | exact HB.out)) hb); clear BK327; clear HB; have BK327 := n0_; have HB := n1_; clear n0_ n1_; (try clear hb); (try clear hb2); (try clear hk); (try clear hi); obtain ⟨hcz15_0, hcz15_1, hcz15_2, hfz15_0, hfz15_1, hfz15_2⟩ := cf3 BK327.out) | ((with_reducible refine gate_callee (f := 14) rfl ?_); refine goesL_ (some 27) rfl rfl Try.func14 (by kernel_rfl) rfl #[.agg #[.int .i64 a0_0, .slice A0_1 l0_1.length c0_1, .slice A0_2 l0_2.length c0_2], .int .i64 a1] rfl (by (try simp only [List.map_toArray, List.map_cons, List.map_nil]); first | done | rfl | (simp only [List.length_drop, List.length_take]; rfl)) ?_; (with_reducible refine (prog_Store.calls k a0_0 _ _ l0_1 _ _ l0_2 a1 t332 t335 _ ?side1 ?side2 ?side3 ?side4 A7.out).mono ?_); (case side1 => repeat (first | exact (Kd.C_below HR0_1.out HB.out) | with_reducible first | apply Kd.C_alloc | apply Kd.C_drewN | apply Kd.C_drew)); (case side2 => exact HC0_1.out); (case side3 => repeat (first | exact (Kd.C_below HR0_2.out HB.out) | with_reducible first | apply Kd.C_alloc | apply Kd.C_drewN | apply Kd.C_drew)); (case side4 => exact HC0_2.out); rintro e w16 ⟨v333, rfl, ho0, hb⟩; refine ⟨_, rfl, ?_⟩; have n0_ := Aside0.mk (Kd.R_lower ho0 (bsz (by repeat (first | (with_reducible first | exact HB.out | apply bal | apply bdN | apply bd1 | refine bst ?_ GE327.out) | exact HB.out)))); have n1_ := Aside0.mk (blk_below (g := gb327) (o := .cells #[.int .i64 a0_0, .slice A0_1 l0_1.length c0_1, .slice A0_2 l0_2.length c0_2] 25 (0, 0)) (by (with_reducible repeat (first | refine kdN ?_ _ | refine kdr ?_ | refine kal ?_ _)); exact BK327.out) hb); have n2_ := Aside0.mk (bsp (by repeat (first | (with_reducible first | exact HB.out | apply bal | apply bdN | apply bd1 | refine bst ?_ GE327.out) | exact HB.out)) hb); clear BK327; clear HB; have HO334 := n0_; have BK327 := n1_; have HB := n2_; clear n0_ n1_ n2_; (try clear hb); (try clear hb2); (try clear hk); (try clear hi); (try clear ho0); obtain ⟨hcz17_0, hcz17_1, hcz17_2, hfz17_0, hfz17_1, hfz17_2⟩ := cf3 BK327.out) | ((with_reducible refine gate_callee (f := 15) rfl ?_); refine goesL_ (some 33) rfl rfl Try.func15 (by kernel_rfl) rfl #[.agg #[.int .i64 a0_0, .slice A0_1 l0_1.length c0_1, .slice A0_2 l0_2.length c0_2], .slice A2 l2.length c2] rfl (by (try simp only [List.map_toArray, List.map_cons, List.map_nil]); first | done | rfl | (simp only [List.length_drop, List.length_take]; rfl)) ?_; (with_reducible refine (prog_Index.calls k a0_0 _ _ l0_1 _ _ l0_2 _ _ l2 t336 t337 _ ?side1 ?side2 ?side3 ?side4 ?side5 ?side6 A8.out).mono ?_); (case side1 => repeat (first | exact (Kd.C_below HR0_1.out HB.out) | with_reducible first | apply Kd.C_alloc | apply Kd.C_drewN | apply Kd.C_drew)); (case side2 => exact HC0_1.out); (case side3 => repeat (first | exact (Kd.C_below HR0_2.out HB.out) | with_reducible first | apply Kd.C_alloc | apply Kd.C_drewN | apply Kd.C_drew)); (case side4 => exact HC0_2.out); (case side5 => repeat (first | exact (Kd.C_below HR2.out HB.out) | with_reducible first | apply Kd.C_alloc | apply Kd.C_drewN | apply Kd.C_drew)); (case side6 => exact HC2.out); rintro e w18 ⟨rfl, hb⟩; refine ⟨_, rfl, ?_⟩; have n0_ := Aside0.mk (Kd.R_below (by (with_reducible repeat (first | apply Kd.R_alloc | apply Kd.R_drewN | apply Kd.R_drew)); exact HO334.out) hb); have n1_ := Aside0.mk (blk_below (g := gb327) (o := .cells #[.int .i64 a0_0, .slice A0_1 l0_1.length c0_1, .slice A0_2 l0_2.length c0_2] 25 (0, 0)) (by (with_reducible repeat (first | refine kdN ?_ _ | refine kdr ?_ | refine kal ?_ _)); exact BK327.out) hb); have n2_ := Aside0.mk (bsp (by repeat (first | (with_reducible first | exact HB.out | apply bal | apply bdN | apply bd1 | refine bst ?_ GE327.out) | exact HB.out)) hb); clear HO334; clear BK327; clear HB; have HO334 := n0_; have BK327 := n1_; have HB := n2_; clear n0_ n1_ n2_; (try clear hb); (try clear hb2); (try clear hk); (try clear hi)))
  (try simp only [Act.put, List.setIfInBounds_toArray, List.set_cons_zero, List.set_cons_succ])
  go_cut [13] (fun v13 wc => ∃ (kq : Nat) (x13_8 : Bool), v13 = .bool x13_8 ∧ Aside0 (w3_ProgStores.j0 kq a1 l2 t330 t331 t332 t335 t336 t337 x13_8 a0_0 l0_1 l0_2 = some r) ∧ Aside0 (kq ≤ k) ∧ Aside0 (Kd.R (Kd.int .i64) 3 wc w.heap.size (fun _ => True) v333 t332) ∧ Aside0 (wc.heap[gb327]? = some (.cells #[.int .i64 a0_0, (.slice A0_1 l0_1.length c0_1), (.slice A0_2 l0_2.length c0_2)] 25 (0, 0))) ∧ Aside0 (Below w.heap.size w wc))
  case first =>
   have H := HC9.out
   clear HC9
   by_cases c19 : t330 = 0
   ·rw [if_pos c19] at H
    have c19b0 : (t330 == 0) = true := beq_iff_eq.mpr c19
    have c19b1 : (t330 != 0) = false := bne_eq_false_iff_eq.mpr c19
    clear c19
    (first | rw [c19b0] | (simp only [i64_w, i32_w]; rw [c19b0]) | skip)
    by_cases c20 : (t332.length : Int) = 0
    ·rw [if_pos c20] at H
     have c20b0 : ((t332.length : Int) == 0) = true := beq_iff_eq.mpr c20
     have c20b1 : ((t332.length : Int) != 0) = false := bne_eq_false_iff_eq.mpr c20
     clear c20
     have H' := Aside0.mk H
     clear H
     obtain ⟨Ao21, co21, eo21⟩ := Kd.R_slice HO334.out
     subst eo21
     go_wp2
     go_meet
     case rel => exact ⟨_, ((t336 == 0)), (by first | rfl | (simp; done) | (simp [*]; done)), H', ⟨by first | omega | exact Nat.le_refl _⟩, ⟨by (with_reducible repeat (first | apply Kd.R_alloc | apply Kd.R_drewN | apply Kd.R_drew)); exact HO334.out⟩, ⟨by (with_reducible repeat (first | refine kdN ?_ _ | refine kdr ?_ | refine kal ?_ _)); exact BK327.out⟩, ⟨by repeat (first | (with_reducible first | exact HB.out | apply bal | apply bdN | apply bd1 | refine bst ?_ GE327.out) | exact HB.out)⟩⟩
    ·rw [if_neg c20] at H
     have c20b0 : ((t332.length : Int) == 0) = false := beq_eq_false_iff_ne.mpr c20
     have c20b1 : ((t332.length : Int) != 0) = true := bne_iff_ne.mpr c20
     have c20b2 : ¬ (t332 = []) := fun h_ => c20 (by rw [h_]; rfl)
     have H' := Aside0.mk H
     clear H
     obtain ⟨Ao22, co22, eo22⟩ := Kd.R_slice HO334.out
     subst eo22
     go_wp2
     go_meet
     case rel => exact ⟨_, (false), (by first | rfl | (simp; done) | (simp [*]; done)), H', ⟨by first | omega | exact Nat.le_refl _⟩, ⟨by (with_reducible repeat (first | apply Kd.R_alloc | apply Kd.R_drewN | apply Kd.R_drew)); exact HO334.out⟩, ⟨by (with_reducible repeat (first | refine kdN ?_ _ | refine kdr ?_ | refine kal ?_ _)); exact BK327.out⟩, ⟨by repeat (first | (with_reducible first | exact HB.out | apply bal | apply bdN | apply bd1 | refine bst ?_ GE327.out) | exact HB.out)⟩⟩
   ·rw [if_neg c19] at H
    have c19b0 : (t330 == 0) = false := beq_eq_false_iff_ne.mpr c19
    have c19b1 : (t330 != 0) = true := bne_iff_ne.mpr c19
    (first | rw [c19b0] | (simp only [i64_w, i32_w]; rw [c19b0]) | skip)
    have H' := Aside0.mk H
    clear H
    go_wp2
    go_meet
    case rel => exact ⟨_, (false), (by first | rfl | (simp; done) | (simp [*]; done)), H', ⟨by first | omega | exact Nat.le_refl _⟩, ⟨by (with_reducible repeat (first | apply Kd.R_alloc | apply Kd.R_drewN | apply Kd.R_drew)); exact HO334.out⟩, ⟨by (with_reducible repeat (first | refine kdN ?_ _ | refine kdr ?_ | refine kal ?_ _)); exact BK327.out⟩, ⟨by repeat (first | (with_reducible first | exact HB.out | apply bal | apply bdN | apply bd1 | refine bst ?_ GE327.out) | exact HB.out)⟩⟩
  case rest =>
   clear HC9
   try clear c1
   try clear c2
   try clear p2
   try clear c3
   try clear c5
   try clear c11
   try clear c13
   try clear c14
   try clear c15
   try clear c19
   try clear c19b0
   try clear c19b1
   try clear c20
   try clear c20b0
   try clear c20b1
   try clear c20b2
   try clear hcz11_0
   try clear hcz11_1
   try clear hcz11_2
   try clear hcz13_0
   try clear hcz13_1
   try clear hcz13_2
   try clear hcz15_0
   try clear hcz15_1
   try clear hcz15_2
   try clear hcz17_0
   try clear hcz17_1
   try clear hcz17_2
   try clear hfz11_0
   try clear hfz11_1
   try clear hfz11_2
   try clear hfz13_0
   try clear hfz13_1
   try clear hfz13_2
   try clear hfz15_0
   try clear hfz15_1
   try clear hfz15_2
   try clear hfz17_0
   try clear hfz17_1
   try clear hfz17_2
   obtain ⟨kq, x13_8, rfl, HA, HJ8, HO_9, BK327, HB⟩ := hcut
   cases kq with
   | zero => exact absurd HA.out (by simp [w3_ProgStores.j0])
   | succ kj8 =>
    have H := HA.out
    clear HA
    simp only [w3_ProgStores.j0] at H
    replace H := Option.bind_eq_some_iff.mp H
    obtain ⟨t338, A230, H⟩ := H
    replace H : (if t338 = true then ((r3_Few.f kj8 a0_0 l0_1 l0_2).bind fun t340 => (if t340 = true then (if t331 = 0 then ((r3_Space.f kj8 a0_0 l0_1 l0_2).bind fun t342 => (w3_ProgStores.j1 kj8 a1 l2 t332 t335 t336 t337 (t330 != t342) a0_0 l0_1 l0_2)) else (w3_ProgStores.j1 kj8 a1 l2 t332 t335 t336 t337 true a0_0 l0_1 l0_2)) else (if t331 = 5 then (if t335 = 5 then (if t337 = 5 then (if x13_8 = true then ((w3_awake.f kj8).bind fun t341 => (some t341)) else (some false)) else (some false)) else (some false)) else (some false)))) else (if t331 = 30 then (if t335 = 30 then (if t337 = 30 then (if x13_8 = true then ((w3_awake.f kj8).bind fun t339 => (some t339)) else (some false)) else (some false)) else (some false)) else (some false))) = some r := H
    have A23 := Aside0.mk A230
    clear A230
    by_cases c24 : t338 = true
    ·subst c24
     have H1 : ((r3_Few.f kj8 a0_0 l0_1 l0_2).bind fun t340 => (if t340 = true then (if t331 = 0 then ((r3_Space.f kj8 a0_0 l0_1 l0_2).bind fun t342 => (w3_ProgStores.j1 kj8 a1 l2 t332 t335 t336 t337 (t330 != t342) a0_0 l0_1 l0_2)) else (w3_ProgStores.j1 kj8 a1 l2 t332 t335 t336 t337 true a0_0 l0_1 l0_2)) else (if t331 = 5 then (if t335 = 5 then (if t337 = 5 then (if x13_8 = true then ((w3_awake.f kj8).bind fun t341 => (some t341)) else (some false)) else (some false)) else (some false)) else (some false)))) = some r := by rw [if_pos rfl] at H; exact H
     clear H
     have H := H1
     clear H1
     replace H := Option.bind_eq_some_iff.mp H
     obtain ⟨t340, A250, H⟩ := H
     replace H : (if t340 = true then (if t331 = 0 then ((r3_Space.f kj8 a0_0 l0_1 l0_2).bind fun t342 => (w3_ProgStores.j1 kj8 a1 l2 t332 t335 t336 t337 (t330 != t342) a0_0 l0_1 l0_2)) else (w3_ProgStores.j1 kj8 a1 l2 t332 t335 t336 t337 true a0_0 l0_1 l0_2)) else (if t331 = 5 then (if t335 = 5 then (if t337 = 5 then (if x13_8 = true then ((w3_awake.f kj8).bind fun t341 => (some t341)) else (some false)) else (some false)) else (some false)) else (some false))) = some r := H
     have A25 := Aside0.mk A250
     clear A250
     by_cases c26 : t340 = true
     ·subst c26
      have H1 : (if t331 = 0 then ((r3_Space.f kj8 a0_0 l0_1 l0_2).bind fun t342 => (w3_ProgStores.j1 kj8 a1 l2 t332 t335 t336 t337 (t330 != t342) a0_0 l0_1 l0_2)) else (w3_ProgStores.j1 kj8 a1 l2 t332 t335 t336 t337 true a0_0 l0_1 l0_2)) = some r := by rw [if_pos rfl] at H; exact H
      clear H
      have H := H1
      clear H1
      have HC27 := Aside0.mk H
      clear H
      obtain ⟨hcz28_0, hcz28_1, hcz28_2, hfz28_0, hfz28_1, hfz28_2⟩ := cf3 BK327.out
      go_upto_region 11 with (first | ((with_reducible refine gate_callee (f := 16) rfl ?_); refine goesL_ (some 48) rfl rfl Try.func16 (by kernel_rfl) rfl #[.agg #[.int .i64 a0_0, .slice A0_1 l0_1.length c0_1, .slice A0_2 l0_2.length c0_2]] rfl (by (try simp only [List.map_toArray, List.map_cons, List.map_nil]); first | done | rfl | (simp only [List.length_drop, List.length_take]; rfl)) ?_; (with_reducible refine (r3_Is.calls kj8 a0_0 _ _ l0_1 _ _ l0_2 true _ ?side1 ?side2 ?side3 ?side4 A23.out).mono ?_); (case side1 => repeat (first | exact (Kd.C_below HR0_1.out HB.out) | with_reducible first | apply Kd.C_alloc | apply Kd.C_drewN | apply Kd.C_drew)); (case side2 => exact HC0_1.out); (case side3 => repeat (first | exact (Kd.C_below HR0_2.out HB.out) | with_reducible first | apply Kd.C_alloc | apply Kd.C_drewN | apply Kd.C_drew)); (case side4 => exact HC0_2.out); rintro e w29 ⟨rfl, hb⟩; refine ⟨_, rfl, ?_⟩; have n0_ := Aside0.mk (Kd.R_below (by (with_reducible repeat (first | apply Kd.R_alloc | apply Kd.R_drewN | apply Kd.R_drew)); exact HO_9.out) hb); have n1_ := Aside0.mk (blk_below (g := gb327) (o := .cells #[.int .i64 a0_0, .slice A0_1 l0_1.length c0_1, .slice A0_2 l0_2.length c0_2] 25 (0, 0)) (by (with_reducible repeat (first | refine kdN ?_ _ | refine kdr ?_ | refine kal ?_ _)); exact BK327.out) hb); have n2_ := Aside0.mk (bsp (by repeat (first | (with_reducible first | exact HB.out | apply bal | apply bdN | apply bd1 | refine bst ?_ GE327.out) | exact HB.out)) hb); clear HO_9; clear BK327; clear HB; have HO_9 := n0_; have BK327 := n1_; have HB := n2_; clear n0_ n1_ n2_; (try clear hb); (try clear hb2); (try clear hk); (try clear hi); obtain ⟨hcz30_0, hcz30_1, hcz30_2, hfz30_0, hfz30_1, hfz30_2⟩ := cf3 BK327.out) | ((with_reducible refine gate_callee (f := 17) rfl ?_); refine goesL_ (some 67) rfl rfl Try.func17 (by kernel_rfl) rfl #[.agg #[.int .i64 a0_0, .slice A0_1 l0_1.length c0_1, .slice A0_2 l0_2.length c0_2]] rfl (by (try simp only [List.map_toArray, List.map_cons, List.map_nil]); first | done | rfl | (simp only [List.length_drop, List.length_take]; rfl)) ?_; (with_reducible refine (r3_Few.calls kj8 a0_0 _ _ l0_1 _ _ l0_2 true _ ?side1 ?side2 ?side3 ?side4 A25.out).mono ?_); (case side1 => repeat (first | exact (Kd.C_below HR0_1.out HB.out) | with_reducible first | apply Kd.C_alloc | apply Kd.C_drewN | apply Kd.C_drew)); (case side2 => exact HC0_1.out); (case side3 => repeat (first | exact (Kd.C_below HR0_2.out HB.out) | with_reducible first | apply Kd.C_alloc | apply Kd.C_drewN | apply Kd.C_drew)); (case side4 => exact HC0_2.out); rintro e w31 ⟨rfl, hb⟩; refine ⟨_, rfl, ?_⟩; have n0_ := Aside0.mk (Kd.R_below (by (with_reducible repeat (first | apply Kd.R_alloc | apply Kd.R_drewN | apply Kd.R_drew)); exact HO_9.out) hb); have n1_ := Aside0.mk (blk_below (g := gb327) (o := .cells #[.int .i64 a0_0, .slice A0_1 l0_1.length c0_1, .slice A0_2 l0_2.length c0_2] 25 (0, 0)) (by (with_reducible repeat (first | refine kdN ?_ _ | refine kdr ?_ | refine kal ?_ _)); exact BK327.out) hb); have n2_ := Aside0.mk (bsp (by repeat (first | (with_reducible first | exact HB.out | apply bal | apply bdN | apply bd1 | refine bst ?_ GE327.out) | exact HB.out)) hb); clear HO_9; clear BK327; clear HB; have HO_9 := n0_; have BK327 := n1_; have HB := n2_; clear n0_ n1_ n2_; (try clear hb); (try clear hb2); (try clear hk); (try clear hi)))
      (try simp only [Act.put, List.setIfInBounds_toArray, List.set_cons_zero, List.set_cons_succ])
      go_cut [92] (fun v92 wc => ∃ (kq : Nat) (x92_26 : Bool), v92 = .bool x92_26 ∧ Aside0 (w3_ProgStores.j1 kq a1 l2 t332 t335 t336 t337 x92_26 a0_0 l0_1 l0_2 = some r) ∧ Aside0 (kq ≤ kj8) ∧ Aside0 (Kd.R (Kd.int .i64) 3 wc w.heap.size (fun _ => True) v333 t332) ∧ Aside0 (wc.heap[gb327]? = some (.cells #[.int .i64 a0_0, (.slice A0_1 l0_1.length c0_1), (.slice A0_2 l0_2.length c0_2)] 25 (0, 0))) ∧ Aside0 (Below w.heap.size w wc))
      case first =>
       have H := HC27.out
       clear HC27
       by_cases c32 : t331 = 0
       ·rw [if_pos c32] at H
        have c32b0 : (t331 == 0) = true := beq_iff_eq.mpr c32
        have c32b1 : (t331 != 0) = false := bne_eq_false_iff_eq.mpr c32
        clear c32
        (first | rw [c32b0] | (simp only [i64_w, i32_w]; rw [c32b0]) | skip)
        replace H := Option.bind_eq_some_iff.mp H
        obtain ⟨t342, A330, H⟩ := H
        replace H : (w3_ProgStores.j1 kj8 a1 l2 t332 t335 t336 t337 (t330 != t342) a0_0 l0_1 l0_2) = some r := H
        have A33 := Aside0.mk A330
        clear A330
        have H' := Aside0.mk H
        clear H
        obtain ⟨hcz34_0, hcz34_1, hcz34_2, hfz34_0, hfz34_1, hfz34_2⟩ := cf3 BK327.out
        go_wp2_with (first | (go_at_call 18; (with_reducible refine (r3_Space.calls kj8 a0_0 _ _ l0_1 _ _ l0_2 t342 _ ?side1 ?side2 ?side3 ?side4 A33.out).mono ?_); (case side1 => repeat (first | exact (Kd.C_below HR0_1.out HB.out) | with_reducible first | apply Kd.C_alloc | apply Kd.C_drewN | apply Kd.C_drew)); (case side2 => exact HC0_1.out); (case side3 => repeat (first | exact (Kd.C_below HR0_2.out HB.out) | with_reducible first | apply Kd.C_alloc | apply Kd.C_drewN | apply Kd.C_drew)); (case side4 => exact HC0_2.out); rintro e w35 ⟨rfl, hb⟩; have n0_ := Aside0.mk (Kd.R_below (by (with_reducible repeat (first | apply Kd.R_alloc | apply Kd.R_drewN | apply Kd.R_drew)); exact HO_9.out) hb); have n1_ := Aside0.mk (blk_below (g := gb327) (o := .cells #[.int .i64 a0_0, .slice A0_1 l0_1.length c0_1, .slice A0_2 l0_2.length c0_2] 25 (0, 0)) (by (with_reducible repeat (first | refine kdN ?_ _ | refine kdr ?_ | refine kal ?_ _)); exact BK327.out) hb); have n2_ := Aside0.mk (bsp (by repeat (first | (with_reducible first | exact HB.out | apply bal | apply bdN | apply bd1 | refine bst ?_ GE327.out) | exact HB.out)) hb); clear HO_9; clear BK327; clear HB; have HO_9 := n0_; have BK327 := n1_; have HB := n2_; clear n0_ n1_ n2_; (try clear hb); (try clear hb2); (try clear hk); (try clear hi)))
        go_meet
        case rel => exact ⟨_, ((t330 != t342)), (by first | rfl | (simp; done) | (simp [*]; done)), H', ⟨by have := HJ8.out; first | omega | exact Nat.le_refl _⟩, ⟨by (with_reducible repeat (first | apply Kd.R_alloc | apply Kd.R_drewN | apply Kd.R_drew)); exact HO_9.out⟩, ⟨by (with_reducible repeat (first | refine kdN ?_ _ | refine kdr ?_ | refine kal ?_ _)); exact BK327.out⟩, ⟨by repeat (first | (with_reducible first | exact HB.out | apply bal | apply bdN | apply bd1 | refine bst ?_ GE327.out) | exact HB.out)⟩⟩
       ·rw [if_neg c32] at H
        have c32b0 : (t331 == 0) = false := beq_eq_false_iff_ne.mpr c32
        have c32b1 : (t331 != 0) = true := bne_iff_ne.mpr c32
        (first | rw [c32b0] | (simp only [i64_w, i32_w]; rw [c32b0]) | skip)
        have H' := Aside0.mk H
        clear H
        go_wp2
        go_meet
        case rel => exact ⟨_, (true), (by first | rfl | (simp; done) | (simp [*]; done)), H', ⟨by have := HJ8.out; first | omega | exact Nat.le_refl _⟩, ⟨by (with_reducible repeat (first | apply Kd.R_alloc | apply Kd.R_drewN | apply Kd.R_drew)); exact HO_9.out⟩, ⟨by (with_reducible repeat (first | refine kdN ?_ _ | refine kdr ?_ | refine kal ?_ _)); exact BK327.out⟩, ⟨by repeat (first | (with_reducible first | exact HB.out | apply bal | apply bdN | apply bd1 | refine bst ?_ GE327.out) | exact HB.out)⟩⟩
      case rest =>
       clear HC27
       try clear c1
       try clear c2
       try clear p2
       try clear c3
       try clear c5
       try clear c11
       try clear c13
       try clear c14
       try clear c15
       try clear c16
       try clear c17
       try clear c19
       try clear c19b0
       try clear c19b1
       try clear c20
       try clear c20b0
       try clear c20b1
       try clear c20b2
       try clear c24
       try clear c26
       try clear c32
       try clear c32b0
       try clear c32b1
       try clear hcz11_0
       try clear hcz11_1
       try clear hcz11_2
       try clear hcz13_0
       try clear hcz13_1
       try clear hcz13_2
       try clear hcz15_0
       try clear hcz15_1
       try clear hcz15_2
       try clear hcz17_0
       try clear hcz17_1
       try clear hcz17_2
       try clear hcz28_0
       try clear hcz28_1
       try clear hcz28_2
       try clear hcz30_0
       try clear hcz30_1
       try clear hcz30_2
       try clear hcz34_0
       try clear hcz34_1
       try clear hcz34_2
       try clear hfz11_0
       try clear hfz11_1
       try clear hfz11_2
       try clear hfz13_0
       try clear hfz13_1
       try clear hfz13_2
       try clear hfz15_0
       try clear hfz15_1
       try clear hfz15_2
       try clear hfz17_0
       try clear hfz17_1
       try clear hfz17_2
       try clear hfz28_0
       try clear hfz28_1
       try clear hfz28_2
       try clear hfz30_0
       try clear hfz30_1
       try clear hfz30_2
       try clear hfz34_0
       try clear hfz34_1
       try clear hfz34_2
       try clear p2
       obtain ⟨kq, x92_26, rfl, HA, HJ26, HO_9, BK327, HB⟩ := hcut
       cases kq with
       | zero => exact absurd HA.out (by simp [w3_ProgStores.j1])
       | succ kj26 =>
        have H := HA.out
        clear HA
        simp only [w3_ProgStores.j1] at H
        by_cases c36 : x92_26 = true
        ·subst c36
         have H1 : (some false) = some r := by rw [if_pos rfl] at H; exact H
         clear H
         have H := H1
         clear H1
         exact absurd ((Option.some.inj H).trans hrt) (by decide)
        ·replace c36 := Bool.eq_false_iff.mpr c36
         subst c36
         have H1 : (if a1 < 0 then (w3_ProgStores.j2 kj26 a1 l2 t332 t335 t336 t337 true a0_0 l0_1 l0_2) else ((r3_Space.f kj26 a0_0 l0_1 l0_2).bind fun t343 => (w3_ProgStores.j2 kj26 a1 l2 t332 t335 t336 t337 (decide (a1 ≥ t343)) a0_0 l0_1 l0_2))) = some r := by rw [if_neg (show ¬ (false = true) by decide)] at H; exact H
         clear H
         have H := H1
         clear H1
         have HC37 := Aside0.mk H
         clear H
         go_upto_region 13 with (fail)
         go_cut [100] (fun v100 wc => ∃ (kq : Nat) (x100_36 : Bool), v100 = .bool x100_36 ∧ Aside0 (w3_ProgStores.j2 kq a1 l2 t332 t335 t336 t337 x100_36 a0_0 l0_1 l0_2 = some r) ∧ Aside0 (kq ≤ kj26) ∧ Aside0 (Kd.R (Kd.int .i64) 3 wc w.heap.size (fun _ => True) v333 t332) ∧ Aside0 (wc.heap[gb327]? = some (.cells #[.int .i64 a0_0, (.slice A0_1 l0_1.length c0_1), (.slice A0_2 l0_2.length c0_2)] 25 (0, 0))) ∧ Aside0 (Below w.heap.size w wc))
         case first =>
          have H := HC37.out
          clear HC37
          by_cases c38 : a1 < 0
          ·rw [if_pos c38] at H
           have c38b0 : decide (a1 < 0) = true := decide_eq_true c38
           clear c38
           (first | rw [c38b0] | (simp only [i64_w, i32_w]; rw [c38b0]) | skip)
           have H' := Aside0.mk H
           clear H
           go_wp2
           go_meet
           case rel => exact ⟨_, (true), (by first | rfl | (simp; done) | (simp [*]; done)), H', ⟨by have := HJ8.out; have := HJ26.out; first | omega | exact Nat.le_refl _⟩, ⟨by (with_reducible repeat (first | apply Kd.R_alloc | apply Kd.R_drewN | apply Kd.R_drew)); exact HO_9.out⟩, ⟨by (with_reducible repeat (first | refine kdN ?_ _ | refine kdr ?_ | refine kal ?_ _)); exact BK327.out⟩, ⟨by repeat (first | (with_reducible first | exact HB.out | apply bal | apply bdN | apply bd1 | refine bst ?_ GE327.out) | exact HB.out)⟩⟩
          ·rw [if_neg c38] at H
           have c38b0 : decide (a1 < 0) = false := decide_eq_false c38
           clear c38
           (first | rw [c38b0] | (simp only [i64_w, i32_w]; rw [c38b0]) | skip)
           replace H := Option.bind_eq_some_iff.mp H
           obtain ⟨t343, A390, H⟩ := H
           replace H : (w3_ProgStores.j2 kj26 a1 l2 t332 t335 t336 t337 (decide (a1 ≥ t343)) a0_0 l0_1 l0_2) = some r := H
           have A39 := Aside0.mk A390
           clear A390
           have H' := Aside0.mk H
           clear H
           obtain ⟨hcz40_0, hcz40_1, hcz40_2, hfz40_0, hfz40_1, hfz40_2⟩ := cf3 BK327.out
           go_wp2_with (first | (go_at_call 18; (with_reducible refine (r3_Space.calls kj26 a0_0 _ _ l0_1 _ _ l0_2 t343 _ ?side1 ?side2 ?side3 ?side4 A39.out).mono ?_); (case side1 => repeat (first | exact (Kd.C_below HR0_1.out HB.out) | with_reducible first | apply Kd.C_alloc | apply Kd.C_drewN | apply Kd.C_drew)); (case side2 => exact HC0_1.out); (case side3 => repeat (first | exact (Kd.C_below HR0_2.out HB.out) | with_reducible first | apply Kd.C_alloc | apply Kd.C_drewN | apply Kd.C_drew)); (case side4 => exact HC0_2.out); rintro e w41 ⟨rfl, hb⟩; have n0_ := Aside0.mk (Kd.R_below (by (with_reducible repeat (first | apply Kd.R_alloc | apply Kd.R_drewN | apply Kd.R_drew)); exact HO_9.out) hb); have n1_ := Aside0.mk (blk_below (g := gb327) (o := .cells #[.int .i64 a0_0, .slice A0_1 l0_1.length c0_1, .slice A0_2 l0_2.length c0_2] 25 (0, 0)) (by (with_reducible repeat (first | refine kdN ?_ _ | refine kdr ?_ | refine kal ?_ _)); exact BK327.out) hb); have n2_ := Aside0.mk (bsp (by repeat (first | (with_reducible first | exact HB.out | apply bal | apply bdN | apply bd1 | refine bst ?_ GE327.out) | exact HB.out)) hb); clear HO_9; clear BK327; clear HB; have HO_9 := n0_; have BK327 := n1_; have HB := n2_; clear n0_ n1_ n2_; (try clear hb); (try clear hb2); (try clear hk); (try clear hi)))
           go_meet
           case rel => exact ⟨_, (decide (a1 ≥ t343)), (by first | rfl | (simp; done) | (simp [*]; done)), H', ⟨by have := HJ8.out; have := HJ26.out; first | omega | exact Nat.le_refl _⟩, ⟨by (with_reducible repeat (first | apply Kd.R_alloc | apply Kd.R_drewN | apply Kd.R_drew)); exact HO_9.out⟩, ⟨by (with_reducible repeat (first | refine kdN ?_ _ | refine kdr ?_ | refine kal ?_ _)); exact BK327.out⟩, ⟨by repeat (first | (with_reducible first | exact HB.out | apply bal | apply bdN | apply bd1 | refine bst ?_ GE327.out) | exact HB.out)⟩⟩
         case rest =>
          clear HC37
          try clear c1
          try clear c2
          try clear p2
          try clear c3
          try clear c5
          try clear c11
          try clear c13
          try clear c14
          try clear c15
          try clear c16
          try clear c17
          try clear c19
          try clear c19b0
          try clear c19b1
          try clear c20
          try clear c20b0
          try clear c20b1
          try clear c20b2
          try clear c24
          try clear c26
          try clear c32
          try clear c32b0
          try clear c32b1
          try clear c36
          try clear c38
          try clear c38b0
          try clear hcz11_0
          try clear hcz11_1
          try clear hcz11_2
          try clear hcz13_0
          try clear hcz13_1
          try clear hcz13_2
          try clear hcz15_0
          try clear hcz15_1
          try clear hcz15_2
          try clear hcz17_0
          try clear hcz17_1
          try clear hcz17_2
          try clear hcz28_0
          try clear hcz28_1
          try clear hcz28_2
          try clear hcz30_0
          try clear hcz30_1
          try clear hcz30_2
          try clear hcz34_0
          try clear hcz34_1
          try clear hcz34_2
          try clear hcz40_0
          try clear hcz40_1
          try clear hcz40_2
          try clear hfz11_0
          try clear hfz11_1
          try clear hfz11_2
          try clear hfz13_0
          try clear hfz13_1
          try clear hfz13_2
          try clear hfz15_0
          try clear hfz15_1
          try clear hfz15_2
          try clear hfz17_0
          try clear hfz17_1
          try clear hfz17_2
          try clear hfz28_0
          try clear hfz28_1
          try clear hfz28_2
          try clear hfz30_0
          try clear hfz30_1
          try clear hfz30_2
          try clear hfz34_0
          try clear hfz34_1
          try clear hfz34_2
          try clear hfz40_0
          try clear hfz40_1
          try clear hfz40_2
          try clear p2
          obtain ⟨kq, x100_36, rfl, HA, HJ36, HO_9, BK327, HB⟩ := hcut
          cases kq with
          | zero => exact absurd HA.out (by simp [w3_ProgStores.j2])
          | succ kj36 =>
           have H := HA.out
           clear HA
           simp only [w3_ProgStores.j2] at H
           have HC42 := Aside0.mk H
           clear H
           go_upto_if 100 with (fail)
           go_cut [] (fun wc => ∃ (kq : Nat), Aside0 (w3_ProgStores.j3 kq l2 t336 t337 a0_0 l0_1 l0_2 = some r) ∧ Aside0 (kq ≤ kj36) ∧ Aside0 (wc.heap[gb327]? = some (.cells #[.int .i64 a0_0, (.slice A0_1 l0_1.length c0_1), (.slice A0_2 l0_2.length c0_2)] 25 (0, 0))) ∧ Aside0 (Below w.heap.size w wc))
           case first =>
            have H := HC42.out
            clear HC42
            by_cases c43 : x100_36 = true
            ·subst c43
             have H1 : (if t335 = 1 then (if (t332.length : Int) = 0 then (w3_ProgStores.j3 kj36 l2 t336 t337 a0_0 l0_1 l0_2) else (some false)) else (some false)) = some r := by rw [if_pos rfl] at H; exact H
             clear H
             have H := H1
             clear H1
             by_cases c44 : t335 = 1
             ·rw [if_pos c44] at H
              have c44b0 : (t335 == 1) = true := beq_iff_eq.mpr c44
              have c44b1 : (t335 != 1) = false := bne_eq_false_iff_eq.mpr c44
              clear c44
              (first | rw [c44b0] | (simp only [i64_w, i32_w]; rw [c44b0]) | skip)
              by_cases c45 : (t332.length : Int) = 0
              ·rw [if_pos c45] at H
               have c45b0 : ((t332.length : Int) == 0) = true := beq_iff_eq.mpr c45
               have c45b1 : ((t332.length : Int) != 0) = false := bne_eq_false_iff_eq.mpr c45
               clear c45
               have H' := Aside0.mk H
               clear H
               obtain ⟨Ao46, co46, eo46⟩ := Kd.R_slice HO_9.out
               subst eo46
               go_wp2
               go_meet
               case rel => exact ⟨_, H', ⟨by have := HJ8.out; have := HJ26.out; have := HJ36.out; first | omega | exact Nat.le_refl _⟩, ⟨by (with_reducible repeat (first | refine kdN ?_ _ | refine kdr ?_ | refine kal ?_ _)); exact BK327.out⟩, ⟨by repeat (first | (with_reducible first | exact HB.out | apply bal | apply bdN | apply bd1 | refine bst ?_ GE327.out) | exact HB.out)⟩⟩
              ·rw [if_neg c45] at H
               have c45b0 : ((t332.length : Int) == 0) = false := beq_eq_false_iff_ne.mpr c45
               have c45b1 : ((t332.length : Int) != 0) = true := bne_iff_ne.mpr c45
               have c45b2 : ¬ (t332 = []) := fun h_ => c45 (by rw [h_]; rfl)
               exact absurd ((Option.some.inj H).trans hrt) (by decide)
             ·rw [if_neg c44] at H
              have c44b0 : (t335 == 1) = false := beq_eq_false_iff_ne.mpr c44
              have c44b1 : (t335 != 1) = true := bne_iff_ne.mpr c44
              (first | rw [c44b0] | (simp only [i64_w, i32_w]; rw [c44b0]) | skip)
              exact absurd ((Option.some.inj H).trans hrt) (by decide)
            ·replace c43 := Bool.eq_false_iff.mpr c43
             subst c43
             have H1 : (if t335 = 0 then ((r3_Store.f kj36 a0_0 l0_1 l0_2 a1).bind fun t344 => ((r1_Same.f kj36 t332 t344).bind fun t347 => (if t347 = true then (w3_ProgStores.j3 kj36 l2 t336 t337 a0_0 l0_1 l0_2) else (some false)))) else (some false)) = some r := by rw [if_neg (show ¬ (false = true) by decide)] at H; exact H
             clear H
             have H := H1
             clear H1
             by_cases c48 : t335 = 0
             ·rw [if_pos c48] at H
              have c48b0 : (t335 == 0) = true := beq_iff_eq.mpr c48
              have c48b1 : (t335 != 0) = false := bne_eq_false_iff_eq.mpr c48
              clear c48
              replace H := Option.bind_eq_some_iff.mp H
              obtain ⟨t344, A490, H⟩ := H
              replace H : ((r1_Same.f kj36 t332 t344).bind fun t347 => (if t347 = true then (w3_ProgStores.j3 kj36 l2 t336 t337 a0_0 l0_1 l0_2) else (some false))) = some r := H
              have A49 := Aside0.mk A490
              clear A490
              replace H := Option.bind_eq_some_iff.mp H
              obtain ⟨t347, A500, H⟩ := H
              replace H : (if t347 = true then (w3_ProgStores.j3 kj36 l2 t336 t337 a0_0 l0_1 l0_2) else (some false)) = some r := H
              have A50 := Aside0.mk A500
              clear A500
              by_cases c51 : t347 = true
              ·subst c51
               have H1 : (w3_ProgStores.j3 kj36 l2 t336 t337 a0_0 l0_1 l0_2) = some r := by rw [if_pos rfl] at H; exact H
               clear H
               have H := H1
               clear H1
               have H' := Aside0.mk H
               clear H
               obtain ⟨hcz52_0, hcz52_1, hcz52_2, hfz52_0, hfz52_1, hfz52_2⟩ := cf3 BK327.out
               go_wp2_with (first | (go_at_call 20; (with_reducible refine (r3_Store.calls kj36 a0_0 _ _ l0_1 _ _ l0_2 a1 t344 _ ?side1 ?side2 ?side3 ?side4 A49.out).mono ?_); (case side1 => repeat (first | exact (Kd.C_below HR0_1.out HB.out) | with_reducible first | apply Kd.C_alloc | apply Kd.C_drewN | apply Kd.C_drew)); (case side2 => exact HC0_1.out); (case side3 => repeat (first | exact (Kd.C_below HR0_2.out HB.out) | with_reducible first | apply Kd.C_alloc | apply Kd.C_drewN | apply Kd.C_drew)); (case side4 => exact HC0_2.out); rintro e w53 ⟨v345, rfl, ho0, hb⟩; have n0_ := Aside0.mk (Kd.R_elder' (by (with_reducible repeat (first | apply Kd.R_alloc | apply Kd.R_drewN | apply Kd.R_drew)); exact HO_9.out) (Kd.R_base ho0) hb); have n1_ := Aside0.mk (Kd.R_lower (Kd.R_new' ho0 (Kd.R_lt (by (with_reducible repeat (first | apply Kd.R_alloc | apply Kd.R_drewN | apply Kd.R_drew)); exact HO_9.out))) (bsz (by repeat (first | (with_reducible first | exact HB.out | apply bal | apply bdN | apply bd1 | refine bst ?_ GE327.out) | exact HB.out)))); have n2_ := Aside0.mk (blk_below (g := gb327) (o := .cells #[.int .i64 a0_0, .slice A0_1 l0_1.length c0_1, .slice A0_2 l0_2.length c0_2] 25 (0, 0)) (by (with_reducible repeat (first | refine kdN ?_ _ | refine kdr ?_ | refine kal ?_ _)); exact BK327.out) hb); have n3_ := Aside0.mk (bsp (by repeat (first | (with_reducible first | exact HB.out | apply bal | apply bdN | apply bd1 | refine bst ?_ GE327.out) | exact HB.out)) hb); clear HO_9; clear BK327; clear HB; have HO_9 := n0_; have HO346 := n1_; have BK327 := n2_; have HB := n3_; clear n0_ n1_ n2_ n3_; (try clear hb); (try clear hb2); (try clear hk); (try clear hi); (try clear ho0); obtain ⟨Ao54, co54, eo54⟩ := Kd.R_slice HO_9.out; subst eo54; obtain ⟨Ao55, co55, eo55⟩ := Kd.R_slice HO346.out; subst eo55) | (go_at_call 19; (with_reducible refine (r1_Same.calls kj36 _ _ t332 _ _ t344 true _ ?side1 ?side2 ?side3 ?side4 A50.out).mono ?_); (case side1 => repeat (first | exact (Kd.R_reads' HO_9.out).2.2 | with_reducible first | apply Kd.C_alloc | apply Kd.C_drewN | apply Kd.C_drew)); (case side2 => exact (Kd.R_reads' HO_9.out).2.1); (case side3 => repeat (first | exact (Kd.R_reads' HO346.out).2.2 | with_reducible first | apply Kd.C_alloc | apply Kd.C_drewN | apply Kd.C_drew)); (case side4 => exact (Kd.R_reads' HO346.out).2.1); rintro e w' ⟨rfl, ⟨nd, rfl⟩⟩))
               go_meet
               case rel => exact ⟨_, H', ⟨by have := HJ8.out; have := HJ26.out; have := HJ36.out; first | omega | exact Nat.le_refl _⟩, ⟨by (with_reducible repeat (first | refine kdN ?_ _ | refine kdr ?_ | refine kal ?_ _)); exact BK327.out⟩, ⟨by repeat (first | (with_reducible first | exact HB.out | apply bal | apply bdN | apply bd1 | refine bst ?_ GE327.out) | exact HB.out)⟩⟩
              ·replace c51 := Bool.eq_false_iff.mpr c51
               subst c51
               have H1 : (some false) = some r := by rw [if_neg (show ¬ (false = true) by decide)] at H; exact H
               clear H
               have H := H1
               clear H1
               exact absurd ((Option.some.inj H).trans hrt) (by decide)
             ·rw [if_neg c48] at H
              have c48b0 : (t335 == 0) = false := beq_eq_false_iff_ne.mpr c48
              have c48b1 : (t335 != 0) = true := bne_iff_ne.mpr c48
              exact absurd ((Option.some.inj H).trans hrt) (by decide)
           case rest =>
            clear HC42
            try clear c1
            try clear c2
            try clear p2
            try clear c3
            try clear c4
            try clear c5
            try clear c11
            try clear c13
            try clear c14
            try clear c15
            try clear c16
            try clear c17
            try clear c19
            try clear c19b0
            try clear c19b1
            try clear c20
            try clear c20b0
            try clear c20b1
            try clear c20b2
            try clear c24
            try clear c26
            try clear c32
            try clear c32b0
            try clear c32b1
            try clear c36
            try clear c38
            try clear c38b0
            try clear c43
            try clear c44
            try clear c44b0
            try clear c44b1
            try clear c45
            try clear c45b0
            try clear c45b1
            try clear c45b2
            try clear c48
            try clear c48b0
            try clear c48b1
            try clear c51
            try clear hcz11_0
            try clear hcz11_1
            try clear hcz11_2
            try clear hcz13_0
            try clear hcz13_1
            try clear hcz13_2
            try clear hcz15_0
            try clear hcz15_1
            try clear hcz15_2
            try clear hcz17_0
            try clear hcz17_1
            try clear hcz17_2
            try clear hcz28_0
            try clear hcz28_1
            try clear hcz28_2
            try clear hcz30_0
            try clear hcz30_1
            try clear hcz30_2
            try clear hcz34_0
            try clear hcz34_1
            try clear hcz34_2
            try clear hcz40_0
            try clear hcz40_1
            try clear hcz40_2
            try clear hcz52_0
            try clear hcz52_1
            try clear hcz52_2
            try clear hcz56_0
            try clear hcz56_1
            try clear hcz56_2
            try clear hfz11_0
            try clear hfz11_1
            try clear hfz11_2
            try clear hfz13_0
            try clear hfz13_1
            try clear hfz13_2
            try clear hfz15_0
            try clear hfz15_1
            try clear hfz15_2
            try clear hfz17_0
            try clear hfz17_1
            try clear hfz17_2
            try clear hfz28_0
            try clear hfz28_1
            try clear hfz28_2
            try clear hfz30_0
            try clear hfz30_1
            try clear hfz30_2
            try clear hfz34_0
            try clear hfz34_1
            try clear hfz34_2
            try clear hfz40_0
            try clear hfz40_1
            try clear hfz40_2
            try clear hfz52_0
            try clear hfz52_1
            try clear hfz52_2
            try clear hfz56_0
            try clear hfz56_1
            try clear hfz56_2
            try clear p2
            obtain ⟨kq, HA, HJ41, BK327, HB⟩ := hcut
            cases kq with
            | zero => exact absurd HA.out (by simp [w3_ProgStores.j3])
            | succ kj41 =>
             have H := HA.out
             clear HA
             simp only [w3_ProgStores.j3] at H
             replace H := Option.bind_eq_some_iff.mp H
             obtain ⟨t348, A600, H⟩ := H
             replace H : (if t348 = true then (if t337 = 0 then ((r3_Index.f kj41 a0_0 l0_1 l0_2 l2).bind fun t349 => (if t336 = t349 then ((w3_awake.f kj41).bind fun t350 => (some t350)) else (some false))) else (some false)) else (if t337 = 1 then (if t336 = 0 then ((w3_awake.f kj41).bind fun t351 => (some t351)) else (some false)) else (some false))) = some r := H
             have A60 := Aside0.mk A600
             clear A600
             by_cases c61 : t348 = true
             ·subst c61
              have H1 : (if t337 = 0 then ((r3_Index.f kj41 a0_0 l0_1 l0_2 l2).bind fun t349 => (if t336 = t349 then ((w3_awake.f kj41).bind fun t350 => (some t350)) else (some false))) else (some false)) = some r := by rw [if_pos rfl] at H; exact H
              clear H
              have H := H1
              clear H1
              by_cases c62 : t337 = 0
              ·rw [if_pos c62] at H
               have c62b0 : (t337 == 0) = true := beq_iff_eq.mpr c62
               have c62b1 : (t337 != 0) = false := bne_eq_false_iff_eq.mpr c62
               clear c62
               replace H := Option.bind_eq_some_iff.mp H
               obtain ⟨t349, A630, H⟩ := H
               replace H : (if t336 = t349 then ((w3_awake.f kj41).bind fun t350 => (some t350)) else (some false)) = some r := H
               have A63 := Aside0.mk A630
               clear A630
               by_cases c64 : t336 = t349
               ·rw [if_pos c64] at H
                have c64b0 : (t336 == t349) = true := beq_iff_eq.mpr c64
                have c64b1 : (t336 != t349) = false := bne_eq_false_iff_eq.mpr c64
                clear c64
                replace H := Option.bind_eq_some_iff.mp H
                obtain ⟨t350, A650, H⟩ := H
                replace H : (some t350) = some r := H
                have A65 := Aside0.mk A650
                clear A650
                obtain rfl := Option.some.inj H
                obtain ⟨hcz66_0, hcz66_1, hcz66_2, hfz66_0, hfz66_1, hfz66_2⟩ := cf3 BK327.out
                go_wp2_with (first | ((with_reducible refine gate_callee (f := 21) rfl ?_); refine goesL_ (some 123) rfl rfl Try.func21 (by kernel_rfl) rfl #[.int .i64 a0_0, .slice A0_1 l0_1.length c0_1, .slice A2 l2.length c2] rfl (by (try simp only [List.map_toArray, List.map_cons, List.map_nil]); first | done | rfl | (simp only [List.length_drop, List.length_take]; rfl)) ?_; (with_reducible refine (r2_Store.calls kj41 a0_0 _ _ l0_1 _ _ l2 true _ ?side1 ?side2 ?side3 ?side4 A60.out).mono ?_); (case side1 => repeat (first | exact (Kd.C_below HR0_1.out HB.out) | with_reducible first | apply Kd.C_alloc | apply Kd.C_drewN | apply Kd.C_drew)); (case side2 => exact HC0_1.out); (case side3 => repeat (first | exact (Kd.C_below HR2.out HB.out) | with_reducible first | apply Kd.C_alloc | apply Kd.C_drewN | apply Kd.C_drew)); (case side4 => exact HC2.out); rintro e w' ⟨rfl, ⟨nd, rfl⟩⟩; refine ⟨_, rfl, ?_⟩) | (go_at_call 22; (with_reducible refine (r3_Index.calls kj41 a0_0 _ _ l0_1 _ _ l0_2 _ _ l2 t349 _ ?side1 ?side2 ?side3 ?side4 ?side5 ?side6 A63.out).mono ?_); (case side1 => repeat (first | exact (Kd.C_below HR0_1.out (by repeat (first | (with_reducible first | exact HB.out | apply bal | apply bdN | apply bd1 | refine bst ?_ GE327.out) | exact HB.out))) | with_reducible first | apply Kd.C_alloc | apply Kd.C_drewN | apply Kd.C_drew)); (case side2 => exact HC0_1.out); (case side3 => repeat (first | exact (Kd.C_below HR0_2.out (by repeat (first | (with_reducible first | exact HB.out | apply bal | apply bdN | apply bd1 | refine bst ?_ GE327.out) | exact HB.out))) | with_reducible first | apply Kd.C_alloc | apply Kd.C_drewN | apply Kd.C_drew)); (case side4 => exact HC0_2.out); (case side5 => repeat (first | exact (Kd.C_below HR2.out (by repeat (first | (with_reducible first | exact HB.out | apply bal | apply bdN | apply bd1 | refine bst ?_ GE327.out) | exact HB.out))) | with_reducible first | apply Kd.C_alloc | apply Kd.C_drewN | apply Kd.C_drew)); (case side6 => exact HC2.out); rintro e w67 ⟨rfl, hb⟩; have n0_ := Aside0.mk (blk_below (g := gb327) (o := .cells #[.int .i64 a0_0, .slice A0_1 l0_1.length c0_1, .slice A0_2 l0_2.length c0_2] 25 (0, 0)) (by (with_reducible repeat (first | refine kdN ?_ _ | refine kdr ?_ | refine kal ?_ _)); exact BK327.out) hb); have n1_ := Aside0.mk (bsp (by repeat (first | (with_reducible first | exact HB.out | apply bal | apply bdN | apply bd1 | refine bst ?_ GE327.out) | exact HB.out)) hb); clear BK327; clear HB; have BK327 := n0_; have HB := n1_; clear n0_ n1_; (try clear hb); (try clear hb2); (try clear hk); (try clear hi)) | (go_at_call 12; (with_reducible refine (w3_awake.calls kj41  t350 _ A65.out).mono ?_); rintro e w68 ⟨rfl, hb⟩; have n0_ := Aside0.mk (blk_below (g := gb327) (o := .cells #[.int .i64 a0_0, .slice A0_1 l0_1.length c0_1, .slice A0_2 l0_2.length c0_2] 25 (0, 0)) (by (with_reducible repeat (first | refine kdN ?_ _ | refine kdr ?_ | refine kal ?_ _)); exact BK327.out) hb); have n1_ := Aside0.mk (bsp (by repeat (first | (with_reducible first | exact HB.out | apply bal | apply bdN | apply bd1 | refine bst ?_ GE327.out) | exact HB.out)) hb); clear BK327; clear HB; have BK327 := n0_; have HB := n1_; clear n0_ n1_; (try clear hb); (try clear hb2); (try clear hk); (try clear hi)))
                go_ret
                exact ⟨by first | rfl | (simp [*] <;> rfl), by repeat (first | (with_reducible first | exact HB.out | apply bal | apply bdN | apply bd1 | refine bst ?_ GE327.out) | exact HB.out)⟩
               ·rw [if_neg c64] at H
                have c64b0 : (t336 == t349) = false := beq_eq_false_iff_ne.mpr c64
                have c64b1 : (t336 != t349) = true := bne_iff_ne.mpr c64
                exact absurd ((Option.some.inj H).trans hrt) (by decide)
              ·rw [if_neg c62] at H
               have c62b0 : (t337 == 0) = false := beq_eq_false_iff_ne.mpr c62
               have c62b1 : (t337 != 0) = true := bne_iff_ne.mpr c62
               exact absurd ((Option.some.inj H).trans hrt) (by decide)
             ·replace c61 := Bool.eq_false_iff.mpr c61
              subst c61
              have H1 : (if t337 = 1 then (if t336 = 0 then ((w3_awake.f kj41).bind fun t351 => (some t351)) else (some false)) else (some false)) = some r := by rw [if_neg (show ¬ (false = true) by decide)] at H; exact H
              clear H
              have H := H1
              clear H1
              by_cases c72 : t337 = 1
              ·rw [if_pos c72] at H
               have c72b0 : (t337 == 1) = true := beq_iff_eq.mpr c72
               have c72b1 : (t337 != 1) = false := bne_eq_false_iff_eq.mpr c72
               clear c72
               by_cases c73 : t336 = 0
               ·rw [if_pos c73] at H
                have c73b0 : (t336 == 0) = true := beq_iff_eq.mpr c73
                have c73b1 : (t336 != 0) = false := bne_eq_false_iff_eq.mpr c73
                clear c73
                replace H := Option.bind_eq_some_iff.mp H
                obtain ⟨t351, A740, H⟩ := H
                replace H : (some t351) = some r := H
                have A74 := Aside0.mk A740
                clear A740
                obtain rfl := Option.some.inj H
                obtain ⟨hcz75_0, hcz75_1, hcz75_2, hfz75_0, hfz75_1, hfz75_2⟩ := cf3 BK327.out
                go_wp2_with (first | ((with_reducible refine gate_callee (f := 21) rfl ?_); refine goesL_ (some 123) rfl rfl Try.func21 (by kernel_rfl) rfl #[.int .i64 a0_0, .slice A0_1 l0_1.length c0_1, .slice A2 l2.length c2] rfl (by (try simp only [List.map_toArray, List.map_cons, List.map_nil]); first | done | rfl | (simp only [List.length_drop, List.length_take]; rfl)) ?_; (with_reducible refine (r2_Store.calls kj41 a0_0 _ _ l0_1 _ _ l2 false _ ?side1 ?side2 ?side3 ?side4 A60.out).mono ?_); (case side1 => repeat (first | exact (Kd.C_below HR0_1.out HB.out) | with_reducible first | apply Kd.C_alloc | apply Kd.C_drewN | apply Kd.C_drew)); (case side2 => exact HC0_1.out); (case side3 => repeat (first | exact (Kd.C_below HR2.out HB.out) | with_reducible first | apply Kd.C_alloc | apply Kd.C_drewN | apply Kd.C_drew)); (case side4 => exact HC2.out); rintro e w' ⟨rfl, ⟨nd, rfl⟩⟩; refine ⟨_, rfl, ?_⟩) | (go_at_call 12; (with_reducible refine (w3_awake.calls kj41  t351 _ A74.out).mono ?_); rintro e w76 ⟨rfl, hb⟩; have n0_ := Aside0.mk (blk_below (g := gb327) (o := .cells #[.int .i64 a0_0, .slice A0_1 l0_1.length c0_1, .slice A0_2 l0_2.length c0_2] 25 (0, 0)) (by (with_reducible repeat (first | refine kdN ?_ _ | refine kdr ?_ | refine kal ?_ _)); exact BK327.out) hb); have n1_ := Aside0.mk (bsp (by repeat (first | (with_reducible first | exact HB.out | apply bal | apply bdN | apply bd1 | refine bst ?_ GE327.out) | exact HB.out)) hb); clear BK327; clear HB; have BK327 := n0_; have HB := n1_; clear n0_ n1_; (try clear hb); (try clear hb2); (try clear hk); (try clear hi)))
                go_ret
                exact ⟨by first | rfl | (simp [*] <;> rfl), by repeat (first | (with_reducible first | exact HB.out | apply bal | apply bdN | apply bd1 | refine bst ?_ GE327.out) | exact HB.out)⟩
               ·rw [if_neg c73] at H
                have c73b0 : (t336 == 0) = false := beq_eq_false_iff_ne.mpr c73
                have c73b1 : (t336 != 0) = true := bne_iff_ne.mpr c73
                exact absurd ((Option.some.inj H).trans hrt) (by decide)
              ·rw [if_neg c72] at H
               have c72b0 : (t337 == 1) = false := beq_eq_false_iff_ne.mpr c72
               have c72b1 : (t337 != 1) = true := bne_iff_ne.mpr c72
               exact absurd ((Option.some.inj H).trans hrt) (by decide)
     ·replace c26 := Bool.eq_false_iff.mpr c26
      subst c26
      have H1 : (if t331 = 5 then (if t335 = 5 then (if t337 = 5 then (if x13_8 = true then ((w3_awake.f kj8).bind fun t341 => (some t341)) else (some false)) else (some false)) else (some false)) else (some false)) = some r := by rw [if_neg (show ¬ (false = true) by decide)] at H; exact H
      clear H
      have H := H1
      clear H1
      by_cases c79 : t331 = 5
      ·rw [if_pos c79] at H
       have c79b0 : (t331 == 5) = true := beq_iff_eq.mpr c79
       have c79b1 : (t331 != 5) = false := bne_eq_false_iff_eq.mpr c79
       clear c79
       by_cases c80 : t335 = 5
       ·rw [if_pos c80] at H
        have c80b0 : (t335 == 5) = true := beq_iff_eq.mpr c80
        have c80b1 : (t335 != 5) = false := bne_eq_false_iff_eq.mpr c80
        clear c80
        by_cases c81 : t337 = 5
        ·rw [if_pos c81] at H
         have c81b0 : (t337 == 5) = true := beq_iff_eq.mpr c81
         have c81b1 : (t337 != 5) = false := bne_eq_false_iff_eq.mpr c81
         clear c81
         by_cases c82 : x13_8 = true
         ·subst c82
          have H1 : ((w3_awake.f kj8).bind fun t341 => (some t341)) = some r := by rw [if_pos rfl] at H; exact H
          clear H
          have H := H1
          clear H1
          replace H := Option.bind_eq_some_iff.mp H
          obtain ⟨t341, A830, H⟩ := H
          replace H : (some t341) = some r := H
          have A83 := Aside0.mk A830
          clear A830
          obtain rfl := Option.some.inj H
          obtain ⟨hcz84_0, hcz84_1, hcz84_2, hfz84_0, hfz84_1, hfz84_2⟩ := cf3 BK327.out
          go_wp2_with (first | ((with_reducible refine gate_callee (f := 16) rfl ?_); refine goesL_ (some 48) rfl rfl Try.func16 (by kernel_rfl) rfl #[.agg #[.int .i64 a0_0, .slice A0_1 l0_1.length c0_1, .slice A0_2 l0_2.length c0_2]] rfl (by (try simp only [List.map_toArray, List.map_cons, List.map_nil]); first | done | rfl | (simp only [List.length_drop, List.length_take]; rfl)) ?_; (with_reducible refine (r3_Is.calls kj8 a0_0 _ _ l0_1 _ _ l0_2 true _ ?side1 ?side2 ?side3 ?side4 A23.out).mono ?_); (case side1 => repeat (first | exact (Kd.C_below HR0_1.out HB.out) | with_reducible first | apply Kd.C_alloc | apply Kd.C_drewN | apply Kd.C_drew)); (case side2 => exact HC0_1.out); (case side3 => repeat (first | exact (Kd.C_below HR0_2.out HB.out) | with_reducible first | apply Kd.C_alloc | apply Kd.C_drewN | apply Kd.C_drew)); (case side4 => exact HC0_2.out); rintro e w85 ⟨rfl, hb⟩; refine ⟨_, rfl, ?_⟩; have n0_ := Aside0.mk (Kd.R_below (by (with_reducible repeat (first | apply Kd.R_alloc | apply Kd.R_drewN | apply Kd.R_drew)); exact HO_9.out) hb); have n1_ := Aside0.mk (blk_below (g := gb327) (o := .cells #[.int .i64 a0_0, .slice A0_1 l0_1.length c0_1, .slice A0_2 l0_2.length c0_2] 25 (0, 0)) (by (with_reducible repeat (first | refine kdN ?_ _ | refine kdr ?_ | refine kal ?_ _)); exact BK327.out) hb); have n2_ := Aside0.mk (bsp (by repeat (first | (with_reducible first | exact HB.out | apply bal | apply bdN | apply bd1 | refine bst ?_ GE327.out) | exact HB.out)) hb); clear HO_9; clear BK327; clear HB; have HO_9 := n0_; have BK327 := n1_; have HB := n2_; clear n0_ n1_ n2_; (try clear hb); (try clear hb2); (try clear hk); (try clear hi); obtain ⟨hcz86_0, hcz86_1, hcz86_2, hfz86_0, hfz86_1, hfz86_2⟩ := cf3 BK327.out) | ((with_reducible refine gate_callee (f := 17) rfl ?_); refine goesL_ (some 67) rfl rfl Try.func17 (by kernel_rfl) rfl #[.agg #[.int .i64 a0_0, .slice A0_1 l0_1.length c0_1, .slice A0_2 l0_2.length c0_2]] rfl (by (try simp only [List.map_toArray, List.map_cons, List.map_nil]); first | done | rfl | (simp only [List.length_drop, List.length_take]; rfl)) ?_; (with_reducible refine (r3_Few.calls kj8 a0_0 _ _ l0_1 _ _ l0_2 false _ ?side1 ?side2 ?side3 ?side4 A25.out).mono ?_); (case side1 => repeat (first | exact (Kd.C_below HR0_1.out HB.out) | with_reducible first | apply Kd.C_alloc | apply Kd.C_drewN | apply Kd.C_drew)); (case side2 => exact HC0_1.out); (case side3 => repeat (first | exact (Kd.C_below HR0_2.out HB.out) | with_reducible first | apply Kd.C_alloc | apply Kd.C_drewN | apply Kd.C_drew)); (case side4 => exact HC0_2.out); rintro e w87 ⟨rfl, hb⟩; refine ⟨_, rfl, ?_⟩; have n0_ := Aside0.mk (Kd.R_below (by (with_reducible repeat (first | apply Kd.R_alloc | apply Kd.R_drewN | apply Kd.R_drew)); exact HO_9.out) hb); have n1_ := Aside0.mk (blk_below (g := gb327) (o := .cells #[.int .i64 a0_0, .slice A0_1 l0_1.length c0_1, .slice A0_2 l0_2.length c0_2] 25 (0, 0)) (by (with_reducible repeat (first | refine kdN ?_ _ | refine kdr ?_ | refine kal ?_ _)); exact BK327.out) hb); have n2_ := Aside0.mk (bsp (by repeat (first | (with_reducible first | exact HB.out | apply bal | apply bdN | apply bd1 | refine bst ?_ GE327.out) | exact HB.out)) hb); clear HO_9; clear BK327; clear HB; have HO_9 := n0_; have BK327 := n1_; have HB := n2_; clear n0_ n1_ n2_; (try clear hb); (try clear hb2); (try clear hk); (try clear hi)) | (go_at_call 12; (with_reducible refine (w3_awake.calls kj8  t341 _ A83.out).mono ?_); rintro e w88 ⟨rfl, hb⟩; have n0_ := Aside0.mk (Kd.R_below (by (with_reducible repeat (first | apply Kd.R_alloc | apply Kd.R_drewN | apply Kd.R_drew)); exact HO_9.out) hb); have n1_ := Aside0.mk (blk_below (g := gb327) (o := .cells #[.int .i64 a0_0, .slice A0_1 l0_1.length c0_1, .slice A0_2 l0_2.length c0_2] 25 (0, 0)) (by (with_reducible repeat (first | refine kdN ?_ _ | refine kdr ?_ | refine kal ?_ _)); exact BK327.out) hb); have n2_ := Aside0.mk (bsp (by repeat (first | (with_reducible first | exact HB.out | apply bal | apply bdN | apply bd1 | refine bst ?_ GE327.out) | exact HB.out)) hb); clear HO_9; clear BK327; clear HB; have HO_9 := n0_; have BK327 := n1_; have HB := n2_; clear n0_ n1_ n2_; (try clear hb); (try clear hb2); (try clear hk); (try clear hi)))
          go_ret
          exact ⟨by first | rfl | (simp [*] <;> rfl), by repeat (first | (with_reducible first | exact HB.out | apply bal | apply bdN | apply bd1 | refine bst ?_ GE327.out) | exact HB.out)⟩
         ·replace c82 := Bool.eq_false_iff.mpr c82
          subst c82
          have H1 : (some false) = some r := by rw [if_neg (show ¬ (false = true) by decide)] at H; exact H
          clear H
          have H := H1
          clear H1
          exact absurd ((Option.some.inj H).trans hrt) (by decide)
        ·rw [if_neg c81] at H
         have c81b0 : (t337 == 5) = false := beq_eq_false_iff_ne.mpr c81
         have c81b1 : (t337 != 5) = true := bne_iff_ne.mpr c81
         exact absurd ((Option.some.inj H).trans hrt) (by decide)
       ·rw [if_neg c80] at H
        have c80b0 : (t335 == 5) = false := beq_eq_false_iff_ne.mpr c80
        have c80b1 : (t335 != 5) = true := bne_iff_ne.mpr c80
        exact absurd ((Option.some.inj H).trans hrt) (by decide)
      ·rw [if_neg c79] at H
       have c79b0 : (t331 == 5) = false := beq_eq_false_iff_ne.mpr c79
       have c79b1 : (t331 != 5) = true := bne_iff_ne.mpr c79
       exact absurd ((Option.some.inj H).trans hrt) (by decide)
    ·replace c24 := Bool.eq_false_iff.mpr c24
     subst c24
     have H1 : (if t331 = 30 then (if t335 = 30 then (if t337 = 30 then (if x13_8 = true then ((w3_awake.f kj8).bind fun t339 => (some t339)) else (some false)) else (some false)) else (some false)) else (some false)) = some r := by rw [if_neg (show ¬ (false = true) by decide)] at H; exact H
     clear H
     have H := H1
     clear H1
     by_cases c105 : t331 = 30
     ·rw [if_pos c105] at H
      have c105b0 : (t331 == 30) = true := beq_iff_eq.mpr c105
      have c105b1 : (t331 != 30) = false := bne_eq_false_iff_eq.mpr c105
      clear c105
      by_cases c106 : t335 = 30
      ·rw [if_pos c106] at H
       have c106b0 : (t335 == 30) = true := beq_iff_eq.mpr c106
       have c106b1 : (t335 != 30) = false := bne_eq_false_iff_eq.mpr c106
       clear c106
       by_cases c107 : t337 = 30
       ·rw [if_pos c107] at H
        have c107b0 : (t337 == 30) = true := beq_iff_eq.mpr c107
        have c107b1 : (t337 != 30) = false := bne_eq_false_iff_eq.mpr c107
        clear c107
        by_cases c108 : x13_8 = true
        ·subst c108
         have H1 : ((w3_awake.f kj8).bind fun t339 => (some t339)) = some r := by rw [if_pos rfl] at H; exact H
         clear H
         have H := H1
         clear H1
         replace H := Option.bind_eq_some_iff.mp H
         obtain ⟨t339, A1090, H⟩ := H
         replace H : (some t339) = some r := H
         have A109 := Aside0.mk A1090
         clear A1090
         obtain rfl := Option.some.inj H
         obtain ⟨hcz110_0, hcz110_1, hcz110_2, hfz110_0, hfz110_1, hfz110_2⟩ := cf3 BK327.out
         go_wp2_with (first | ((with_reducible refine gate_callee (f := 16) rfl ?_); refine goesL_ (some 48) rfl rfl Try.func16 (by kernel_rfl) rfl #[.agg #[.int .i64 a0_0, .slice A0_1 l0_1.length c0_1, .slice A0_2 l0_2.length c0_2]] rfl (by (try simp only [List.map_toArray, List.map_cons, List.map_nil]); first | done | rfl | (simp only [List.length_drop, List.length_take]; rfl)) ?_; (with_reducible refine (r3_Is.calls kj8 a0_0 _ _ l0_1 _ _ l0_2 false _ ?side1 ?side2 ?side3 ?side4 A23.out).mono ?_); (case side1 => repeat (first | exact (Kd.C_below HR0_1.out HB.out) | with_reducible first | apply Kd.C_alloc | apply Kd.C_drewN | apply Kd.C_drew)); (case side2 => exact HC0_1.out); (case side3 => repeat (first | exact (Kd.C_below HR0_2.out HB.out) | with_reducible first | apply Kd.C_alloc | apply Kd.C_drewN | apply Kd.C_drew)); (case side4 => exact HC0_2.out); rintro e w111 ⟨rfl, hb⟩; refine ⟨_, rfl, ?_⟩; have n0_ := Aside0.mk (Kd.R_below (by (with_reducible repeat (first | apply Kd.R_alloc | apply Kd.R_drewN | apply Kd.R_drew)); exact HO_9.out) hb); have n1_ := Aside0.mk (blk_below (g := gb327) (o := .cells #[.int .i64 a0_0, .slice A0_1 l0_1.length c0_1, .slice A0_2 l0_2.length c0_2] 25 (0, 0)) (by (with_reducible repeat (first | refine kdN ?_ _ | refine kdr ?_ | refine kal ?_ _)); exact BK327.out) hb); have n2_ := Aside0.mk (bsp (by repeat (first | (with_reducible first | exact HB.out | apply bal | apply bdN | apply bd1 | refine bst ?_ GE327.out) | exact HB.out)) hb); clear HO_9; clear BK327; clear HB; have HO_9 := n0_; have BK327 := n1_; have HB := n2_; clear n0_ n1_ n2_; (try clear hb); (try clear hb2); (try clear hk); (try clear hi)) | (go_at_call 12; (with_reducible refine (w3_awake.calls kj8  t339 _ A109.out).mono ?_); rintro e w112 ⟨rfl, hb⟩; have n0_ := Aside0.mk (Kd.R_below (by (with_reducible repeat (first | apply Kd.R_alloc | apply Kd.R_drewN | apply Kd.R_drew)); exact HO_9.out) hb); have n1_ := Aside0.mk (blk_below (g := gb327) (o := .cells #[.int .i64 a0_0, .slice A0_1 l0_1.length c0_1, .slice A0_2 l0_2.length c0_2] 25 (0, 0)) (by (with_reducible repeat (first | refine kdN ?_ _ | refine kdr ?_ | refine kal ?_ _)); exact BK327.out) hb); have n2_ := Aside0.mk (bsp (by repeat (first | (with_reducible first | exact HB.out | apply bal | apply bdN | apply bd1 | refine bst ?_ GE327.out) | exact HB.out)) hb); clear HO_9; clear BK327; clear HB; have HO_9 := n0_; have BK327 := n1_; have HB := n2_; clear n0_ n1_ n2_; (try clear hb); (try clear hb2); (try clear hk); (try clear hi)))
         go_ret
         exact ⟨by first | rfl | (simp [*] <;> rfl), by repeat (first | (with_reducible first | exact HB.out | apply bal | apply bdN | apply bd1 | refine bst ?_ GE327.out) | exact HB.out)⟩
        ·replace c108 := Bool.eq_false_iff.mpr c108
         subst c108
         have H1 : (some false) = some r := by rw [if_neg (show ¬ (false = true) by decide)] at H; exact H
         clear H
         have H := H1
         clear H1
         exact absurd ((Option.some.inj H).trans hrt) (by decide)
       ·rw [if_neg c107] at H
        have c107b0 : (t337 == 30) = false := beq_eq_false_iff_ne.mpr c107
        have c107b1 : (t337 != 30) = true := bne_iff_ne.mpr c107
        exact absurd ((Option.some.inj H).trans hrt) (by decide)
      ·rw [if_neg c106] at H
       have c106b0 : (t335 == 30) = false := beq_eq_false_iff_ne.mpr c106
       have c106b1 : (t335 != 30) = true := bne_iff_ne.mpr c106
       exact absurd ((Option.some.inj H).trans hrt) (by decide)
     ·rw [if_neg c105] at H
      have c105b0 : (t331 == 30) = false := beq_eq_false_iff_ne.mpr c105
      have c105b1 : (t331 != 30) = true := bne_iff_ne.mpr c105
      exact absurd ((Option.some.inj H).trans hrt) (by decide)
 ·replace c5 := Bool.eq_false_iff.mpr c5
  subst c5
  have H1 : ((w3_awake.f k).bind fun t329 => (some t329)) = some r := by rw [if_neg (show ¬ (false = true) by decide)] at H; exact H
  clear H
  have H := H1
  clear H1
  replace H := Option.bind_eq_some_iff.mp H
  obtain ⟨t329, A1210, H⟩ := H
  replace H : (some t329) = some r := H
  have A121 := Aside0.mk A1210
  clear A1210
  obtain rfl := Option.some.inj H
  go_enter Try.func3, Try.ntmps3
  go_wp2_with (first | ((with_reducible refine gate_dst (N := 3) rfl ?_); (try (refine gate_guard (by rfl) ?_; dsimp only)); refine box_event ?hg (N := 3) ?hd (cs := #[.int .i64 a0_0, .slice A0_1 l0_1.length c0_1, .slice A0_2 l0_2.length c0_2]) (t := 25) ?hr ?_; (case hd => rfl); (case hg => rfl); (case hr => first | (go_simp; done) | (go_simp; rfl)); intro gb327 hg w122 hbox hb; have n0_ := Aside0.mk (bsp (by repeat (first | (with_reducible first | exact HB.out | apply bal | apply bdN | apply bd1) | exact HB.out)) hb); have n1_ := Aside0.mk (hbox); have n2_ := Aside0.mk ((by rw [hg]; exact (bsz (by repeat (first | (with_reducible first | exact HB.out | apply bal | apply bdN | apply bd1) | exact HB.out))) : w.heap.size ≤ gb327)); have n3_ := Aside0.mk ((by rw [hg]; exact (bsz (by repeat (first | (with_reducible first | exact HB.out | apply bal | apply bdN | apply bd1) | exact HB.out))) : w.heap.size ≤ gb327)); clear HB; have HB := n0_; have BK327 := n1_; have GW327 := n2_; have GE327 := n3_; clear n0_ n1_ n2_ n3_; clear hb hbox hg; obtain ⟨hcz123_0, hcz123_1, hcz123_2, hfz123_0, hfz123_1, hfz123_2⟩ := cf3 BK327.out) | ((with_reducible refine gate_callee (f := 11) rfl ?_); refine goesL_ (some 16) rfl rfl Try.func11 (by kernel_rfl) rfl #[.slice A0_2 l0_2.length c0_2, .int .i64 600] rfl (by (try simp only [List.map_toArray, List.map_cons, List.map_nil]); first | done | rfl | (simp only [List.length_drop, List.length_take]; rfl)) ?_; (with_reducible refine (r3_Fits.calls k _ _ l0_2 600 false _ ?side1 ?side2 A4.out).mono ?_); (case side1 => repeat (first | exact (Kd.C_below HR0_2.out HB.out) | with_reducible first | apply Kd.C_alloc | apply Kd.C_drewN | apply Kd.C_drew)); (case side2 => exact HC0_2.out); rintro e w124 ⟨rfl, hb⟩; refine ⟨_, rfl, ?_⟩; have n0_ := Aside0.mk (blk_below (g := gb327) (o := .cells #[.int .i64 a0_0, .slice A0_1 l0_1.length c0_1, .slice A0_2 l0_2.length c0_2] 25 (0, 0)) (by (with_reducible repeat (first | refine kdN ?_ _ | refine kdr ?_ | refine kal ?_ _)); exact BK327.out) hb); have n1_ := Aside0.mk (bsp (by repeat (first | (with_reducible first | exact HB.out | apply bal | apply bdN | apply bd1 | refine bst ?_ GE327.out) | exact HB.out)) hb); clear BK327; clear HB; have BK327 := n0_; have HB := n1_; clear n0_ n1_; (try clear hb); (try clear hb2); (try clear hk); (try clear hi)) | ((with_reducible refine gate_callee (f := 12) rfl ?_); refine goesL_ (some 18) rfl rfl Try.func12 (by kernel_rfl) rfl #[] rfl (by (try simp only [List.map_toArray, List.map_cons, List.map_nil]); first | done | rfl | (simp only [List.length_drop, List.length_take]; rfl)) ?_; (with_reducible refine (w3_awake.calls k  t329 _ A121.out).mono ?_); rintro e w125 ⟨rfl, hb⟩; refine ⟨_, rfl, ?_⟩; have n0_ := Aside0.mk (blk_below (g := gb327) (o := .cells #[.int .i64 a0_0, .slice A0_1 l0_1.length c0_1, .slice A0_2 l0_2.length c0_2] 25 (0, 0)) (by (with_reducible repeat (first | refine kdN ?_ _ | refine kdr ?_ | refine kal ?_ _)); exact BK327.out) hb); have n1_ := Aside0.mk (bsp (by repeat (first | (with_reducible first | exact HB.out | apply bal | apply bdN | apply bd1 | refine bst ?_ GE327.out) | exact HB.out)) hb); clear BK327; clear HB; have BK327 := n0_; have HB := n1_; clear n0_ n1_; (try clear hb); (try clear hb2); (try clear hk); (try clear hi)))
  go_ret
  exact ⟨by first | rfl | (simp [*] <;> rfl), by repeat (first | (with_reducible first | exact HB.out | apply bal | apply bdN | apply bd1 | refine bst ?_ GE327.out) | exact HB.out)⟩
theorem awake_tellsS : Tells (fun k => (w3_awake.f k).bind fun t => some t) true := ⟨0, fun _ _ => rfl⟩
theorem stores_law (w : Int) (vars : List S82) (body : List S47) (i : Int) (l : List Int) (hl : body.length ≤ 9223372036854775807) (hg : goodSs body) (hll : l.length ≤ 9223372036854775807) : Tells (fun k => w3_ProgStores.f k w vars body i l) true := by
  unfold w3_ProgStores.f
  refine Tells.bind (fitsS body 600 hl hg (by decide) (by decide)) ?_
  by_cases hf : (sNs body : Int) ≤ 600
  case neg => exact Tells.ifF (by rw [decide_eq_true_eq]; exact hf) awake_tellsS
  refine Tells.ifT (decide_eq_true hf) ?_
  have ti := pIs_tells w vars body hl hg
  cases hp : pIs w vars body
  · rw [hp] at ti
    have t1 := space_no hl hg hp
    have t2 : Tells (fun k => prog_Store.f k w vars body i) ([], 30) := by
      unfold prog_Store.f
      exact Tells.bind t1 (Tells.ifF (by decide) (Tells.pure _))
    have t3 : Tells (fun k => prog_Index.f k w vars body l) (0, 30) := by
      unfold prog_Index.f
      exact Tells.bind t1 (Tells.ifF (by decide) (Tells.pure _))
    refine Tells.bind t1 (Tells.bind t2 (Tells.bind t3 (Tells.ifT rfl (Tells.ifT rfl (Tells.succ ?_)))))
    simp only [w3_ProgStores.j0]
    exact Tells.bind ti (Tells.ifF (by decide) (Tells.ifT (by simp) (Tells.ifT (by simp) (Tells.ifT (by simp) (Tells.ifT (by simp) awake_tellsS)))))
  rw [hp] at ti
  have tf := few_tells hp
  obtain ⟨h1, h8, hv, h18, c0, c1, m0, m1⟩ := pIs_cs hp
  by_cases hb : w * cs vars ≤ 60
  case neg =>
    rw [decide_eq_false hb] at tf
    have t1 := space_big hl hg hp hb
    have t2 : Tells (fun k => prog_Store.f k w vars body i) ([], 5) := by
      unfold prog_Store.f
      exact Tells.bind t1 (Tells.ifF (by decide) (Tells.pure _))
    have t3 : Tells (fun k => prog_Index.f k w vars body l) (0, 5) := by
      unfold prog_Index.f
      exact Tells.bind t1 (Tells.ifF (by decide) (Tells.pure _))
    refine Tells.bind t1 (Tells.bind t2 (Tells.bind t3 (Tells.ifT rfl (Tells.ifT rfl (Tells.succ ?_)))))
    simp only [w3_ProgStores.j0]
    exact Tells.bind ti (Tells.ifT (by simp) (Tells.bind tf (Tells.ifF (by decide) (Tells.ifT (by simp) (Tells.ifT (by simp) (Tells.ifT (by simp) (Tells.ifT (by simp) awake_tellsS)))))))
  rw [decide_eq_true hb] at tf
  have t1 := space_few hl hg hp hb
  have t1r := rspace_tells hp hb
  have t3 := Index_tells hl hg hp hb l hll
  have ts := Store_is w vars l h1 h8 hv h18 hll
  have hpos := pow_pos' (w * cs vars).toNat
  have j3 : Tells (fun k => w3_ProgStores.j3 k l (if (decide ((l.length : Int) = cs vars) && valid (2 ^ w.toNat) l) = true then (idx (2 ^ w.toNat) l, (0 : Int)) else (0, 1)).1 (if (decide ((l.length : Int) = cs vars) && valid (2 ^ w.toNat) l) = true then (idx (2 ^ w.toNat) l, (0 : Int)) else (0, 1)).2 w vars body) true := by
    refine Tells.succ ?_
    simp only [w3_ProgStores.j3]
    refine Tells.bind ts ?_
    by_cases hs : (decide ((l.length : Int) = cs vars) && valid (2 ^ w.toNat) l) = true
    · have hs' := hs
      rw [Bool.and_eq_true, decide_eq_true_eq] at hs'
      simp only [hs, if_true]
      exact Tells.bind (RIndex_tells hp hb l hs'.1 hs'.2) (Tells.ifT rfl awake_tellsS)
    · have hs2 := Bool.eq_false_iff.2 hs
      simp only [hs2, Bool.false_eq_true, if_false]
      exact Tells.ifT (by simp) (Tells.ifT (by simp) awake_tellsS)
  refine Tells.bind t1 ?_
  by_cases hi : 0 ≤ i ∧ i < 2 ^ (w * cs vars).toNat
  · have hpl := pow_le (a := (w * cs vars).toNat) (b := 60) (by omega)
    rw [pow_60] at hpl
    have t2 := Store_ok hl hg hp hb hi.1 hi.2
    have t2r := RStore_tells hp hi.1 (by omega)
    have tsm := same_tells (sto (2 ^ w.toNat) (cs vars).toNat i) (by rw [sto_length]; omega)
    refine Tells.bind t2 (Tells.bind t3 (Tells.ifF (by simp; omega) (Tells.succ ?_)))
    simp only [w3_ProgStores.j0]
    refine Tells.bind ti (Tells.ifT (by simp) (Tells.bind tf (Tells.ifT (by simp) (Tells.ifT (by simp) (Tells.bind t1r ?_)))))
    refine Tells.succ ?_
    simp only [w3_ProgStores.j1]
    refine Tells.ifF (by simp) (Tells.ifF (by omega) (Tells.bind t1r (Tells.succ ?_)))
    simp only [w3_ProgStores.j2]
    exact Tells.ifF (by rw [decide_eq_true_eq]; omega) (Tells.ifT (by simp) (Tells.bind t2r (Tells.bind tsm (Tells.ifT (by simp) j3))))
  · have t2 := Store_out hl hg hp hb hi
    refine Tells.bind t2 (Tells.bind t3 (Tells.ifF (by simp; omega) (Tells.succ ?_)))
    simp only [w3_ProgStores.j0]
    refine Tells.bind ti (Tells.ifT (by simp) (Tells.bind tf (Tells.ifT (by simp) (Tells.ifT (by simp) (Tells.bind t1r ?_)))))
    have j2 : Tells (fun k => w3_ProgStores.j2 k i l [] 1 (if (decide ((l.length : Int) = cs vars) && valid (2 ^ w.toNat) l) = true then (idx (2 ^ w.toNat) l, (0 : Int)) else (0, 1)).1 (if (decide ((l.length : Int) = cs vars) && valid (2 ^ w.toNat) l) = true then (idx (2 ^ w.toNat) l, (0 : Int)) else (0, 1)).2 true w vars body) true := by
      refine Tells.succ ?_
      simp only [w3_ProgStores.j2]
      exact Tells.ifT (by simp) (Tells.ifT (by simp) (Tells.ifT (by simp) j3))
    refine Tells.succ ?_
    simp only [w3_ProgStores.j1]
    refine Tells.ifF (by simp) ?_
    by_cases h0 : i < 0
    · exact Tells.ifT h0 j2
    · refine Tells.ifF h0 (Tells.bind t1r ?_)
      rw [decide_eq_true (by omega : i ≥ 2 ^ (w * cs vars).toNat)]
      exact j2
end Go.Proofs.Ytffcpbgbhkbplaa.Print
