/- What the laws of programs share: contracts of the functions that they call, and what these compute, for every program that comes in. -/
import Derived.Test.YtffcpbgbhkbplaaB2
import Derived.Deep.RegionWith
namespace Go.Proofs.Ytffcpbgbhkbplaa.Print
open Go.RowKit Go.Proofs.YtffcpbgbhkbplaaW.PrintWords Go.Proofs.YtffcpbgbhkbplaaW.PrintLast Go.Proofs.YtffcpbgbhkbplaaW.PrintMore
attribute [local go_sem] max2_int min2_int max_two min_two max_three min_three max_four min_four
set_option linter.unusedVariables false
set_option linter.unusedSimpArgs false
theorem Tells.ifB {b : Bool} {f : Nat → Option Bool} {v : Bool} (h : Tells f v) : Tells (fun k => if b = true then f k else some false) (b && v) := by
  cases b
  · exact Tells.pure false
  · exact h
theorem Tells.id' {g : Nat → Option Bool} {v : Bool} (h : Tells g v) : Tells (fun k => (g k).bind fun t => some t) v := Tells.bind (h := fun _ t => some t) h (Tells.pure v)
def okInt : Bool → Int → Int
  | true, _ => 0
  | false, e => e
mutual
def eOK (w : Int) (vars : List S82) (kk : Int) : S96 → Bool
  | ⟨a, b, c, l⟩ => nodeIs w vars kk a b c (l.length : Int) && eOKs w vars kk l
def eOKs (w : Int) (vars : List S82) (kk : Int) : List S96 → Bool
  | [] => true
  | x :: r => eOK w vars kk x && eOKs w vars kk r
end
theorem form_tells (w : Int) (vars : List S82) (kk : Int) (h1 : 1 ≤ w) (h8 : w ≤ 8) : (∀ x, goodE x → Tells (fun k => r2_form.f k w vars kk x.f0 x.f1 x.f2 x.f3) (eOK w vars kk x)) ∧
    (∀ suf, ∀ (pre : List S96) (a b c : Int), goodEs suf → (pre ++ suf).length ≤ 9223372036854775807 → Tells (fun k => r2_form.l0 k w vars kk (pre.length : Int) a b c (pre ++ suf)) (eOKs w vars kk suf)) := by
  refine E_ind (fun a b c l ih => ?_) ?_ (fun x r ih1 ih2 => ?_)
  · intro hg
    refine Tells.succ ?_
    simp only [r2_form.f, eOK]
    exact Tells.bind (node_tells w vars kk a b c l h1 h8) (Tells.ifB (ih [] a b c hg.2 hg.1))
  · intro pre a b c _ _
    refine Tells.succ ?_
    simp only [r2_form.l0, pre_nlt, if_false, eOKs]
    exact Tells.pure _
  · intro pre a b c hg hl
    refine Tells.succ ?_
    simp only [r2_form.l0, pre_lt, pre_pos, if_true, rdE_mid, eOKs]
    refine Tells.bind (ih1 hg.1) (Tells.ifB ?_)
    rw [pre_next pre x r hl]
    have h2 := ih2 (pre ++ [x]) a b c hg.2 (by rw [← pre_app]; exact hl)
    rw [← pre_app] at h2
    exact h2
def eIs (w : Int) (vars : List S82) (kk : Int) (x : S96) : Bool := decide (eN x ≤ 400) && (decide (eD x ≤ 16) && eOK w vars kk x)
theorem Is_tells (w : Int) (vars : List S82) (kk : Int) (h1 : 1 ≤ w) (h8 : w ≤ 8) (x : S96) (hg : goodE x) : Tells (fun k => r2_Is.f k w vars kk x.f0 x.f1 x.f2 x.f3) (eIs w vars kk x) := by
  unfold r2_Is.f eIs
  have hf := fitsE x 400 hg (by decide) (by decide)
  have e : decide ((eN x : Int) ≤ 400) = decide (eN x ≤ 400) := decide_eq_decide.2 (by omega)
  rw [e] at hf
  refine Tells.bind hf ?_
  by_cases hn : eN x ≤ 400
  · simp only [hn, decide_true, if_true, Bool.true_and]
    refine Tells.bind (depthE.1 x hg (by omega)) ?_
    by_cases hd : eD x ≤ 16
    · have hd' : (eD x : Int) ≤ 16 := by omega
      simp only [hd, hd', decide_true, if_true, Bool.true_and]
      exact Tells.id' ((form_tells w vars kk h1 h8).1 x hg)
    · have hd' : ¬ (eD x : Int) ≤ 16 := by omega
      simp only [hd, hd', decide_false, if_false, Bool.false_and]
      exact Tells.pure _
  · simp only [hn, decide_false, if_false, Bool.false_and, Bool.false_eq_true]
    exact Tells.pure _
def fineB (w : Int) (vars : List S82) (kk : Int) (x : S96) (deep left : Int) : Bool := decide ((eN x : Int) ≤ left) && (decide (deep + eD x ≤ 17) && eOK w vars kk x)
def fineBs (w : Int) (vars : List S82) (kk : Int) (l : List S96) (deep left : Int) : Bool := decide ((eNs l : Int) ≤ left) && (decide (deep + 1 + eDs l ≤ 17) && eOKs w vars kk l)
theorem fine_tells (w : Int) (vars : List S82) (kk : Int) (h1 : 1 ≤ w) (h8 : w ≤ 8) :
    (∀ x, ∀ deep left : Int, goodE x → 1 ≤ deep → deep ≤ 17 → 0 ≤ left → left ≤ 400 → ∃ l', Tells (fun k => expr_head_fine.f k w vars kk x.f0 x.f1 x.f2 x.f3 deep left) (fineB w vars kk x deep left, l') ∧ (fineB w vars kk x deep left = true → l' = left - eN x)) ∧
    (∀ suf, ∀ (pre : List S96) (deep left : Int), goodEs suf → (pre ++ suf).length ≤ 9223372036854775807 → 1 ≤ deep → deep ≤ 16 → 0 ≤ left → left ≤ 400 →
      ∃ l', Tells (fun k => expr_head_fine.l0 k w vars kk (pre ++ suf) deep (pre.length : Int) left) (fineBs w vars kk suf deep left, l') ∧ (fineBs w vars kk suf deep left = true → l' = left - eNs suf)) := by
  refine E_ind (fun a b c l ih => ?_) ?_ (fun x r ih1 ih2 => ?_)
  · intro deep left hg d1 d17 l0 l400
    by_cases hl : left = 0
    · have e : fineB w vars kk ⟨a, b, c, l⟩ deep left = false := by
        unfold fineB
        rw [decide_eq_false (by simp only [eN]; omega), Bool.false_and]
      rw [e]
      refine ⟨-1, Tells.succ ?_, fun h => absurd h (by decide)⟩
      subst hl
      simp only [expr_head_fine.f, show wrap64 (0 - 1) = -1 from w64 (by decide) (by decide)]
      exact Tells.ifT (by decide) (Tells.pure _)
    · have hw : wrap64 (left - 1) = left - 1 := w64 (by omega) (by omega)
      by_cases hd : 16 < deep
      · have e : fineB w vars kk ⟨a, b, c, l⟩ deep left = false := by
          unfold fineB
          rw [decide_eq_false (p := deep + ↑(eD ⟨a, b, c, l⟩) ≤ 17) (by simp only [eD]; omega), Bool.false_and, Bool.and_false]
        rw [e]
        refine ⟨left - 1, Tells.succ ?_, fun h => absurd h (by decide)⟩
        simp only [expr_head_fine.f, hw]
        exact Tells.ifF (by omega) (Tells.ifT hd (Tells.pure _))
      · have e : fineB w vars kk ⟨a, b, c, l⟩ deep left = (nodeIs w vars kk a b c (l.length : Int) && fineBs w vars kk l deep (left - 1)) := by
          unfold fineB fineBs
          have n1 : eN ⟨a, b, c, l⟩ = 1 + eNs l := by simp only [eN]
          have n2 : eD ⟨a, b, c, l⟩ = eDs l + 1 := by simp only [eD]
          have n3 : eOK w vars kk ⟨a, b, c, l⟩ = (nodeIs w vars kk a b c (l.length : Int) && eOKs w vars kk l) := by simp only [eOK]
          rw [decide_eq_decide.2 (show ((eN ⟨a, b, c, l⟩ : Int) ≤ left) ↔ ((eNs l : Int) ≤ left - 1) by omega), decide_eq_decide.2 (show (deep + (eD ⟨a, b, c, l⟩ : Int) ≤ 17) ↔ (deep + 1 + (eDs l : Int) ≤ 17) by omega), n3]
          cases decide ((eNs l : Int) ≤ left - 1) <;> cases decide (deep + 1 + (eDs l : Int) ≤ 17) <;> cases nodeIs w vars kk a b c (l.length : Int) <;> rfl
        rw [e]
        obtain ⟨l', t, q⟩ := ih [] deep (left - 1) hg.2 hg.1 d1 (by omega) (by omega) (by omega)
        by_cases hn : nodeIs w vars kk a b c (l.length : Int) = true
        · refine ⟨l', Tells.succ ?_, fun h => ?_⟩
          · simp only [expr_head_fine.f, hw]
            refine Tells.ifF (by omega) (Tells.ifF hd ?_)
            refine Tells.bind (arity_tells w vars kk a b c l) ?_
            unfold nodeIs at hn
            rw [Bool.and_eq_true, decide_eq_true_eq] at hn
            refine Tells.ifT hn.1 (Tells.ifT hn.2 ?_)
            have : nodeIs w vars kk a b c (l.length : Int) = true := by unfold nodeIs; rw [hn.2, decide_eq_true hn.1]; rfl
            rw [this, Bool.true_and]
            exact t
          · rw [hn, Bool.true_and] at h
            have := q h
            simp only [eN]
            omega
        · have hn' := Bool.eq_false_iff.2 hn
          refine ⟨left - 1, Tells.succ ?_, fun h => by rw [hn', Bool.false_and] at h; cases h⟩
          rw [hn', Bool.false_and]
          simp only [expr_head_fine.f, hw]
          refine Tells.ifF (by omega) (Tells.ifF hd ?_)
          refine Tells.bind (arity_tells w vars kk a b c l) ?_
          by_cases ha : arVal vars a b = (l.length : Int)
          · refine Tells.ifT ha (Tells.ifF ?_ (Tells.pure _))
            intro hk
            apply hn
            unfold nodeIs
            rw [hk, decide_eq_true ha]
            rfl
          · exact Tells.ifF ha (Tells.pure _)
  · intro pre deep left _ _ d1 d16 l0 l400
    have e : fineBs w vars kk [] deep left = true := by
      unfold fineBs
      have n1 : eNs [] = 0 := by simp only [eNs]
      have n2 : eDs [] = 0 := by simp only [eDs]
      rw [decide_eq_true (p := (eNs [] : Int) ≤ left) (by omega), decide_eq_true (p := deep + 1 + (eDs [] : Int) ≤ 17) (by omega)]
      simp only [eOKs]
      rfl
    rw [e]
    refine ⟨left, Tells.succ ?_, fun _ => by simp only [eNs]; omega⟩
    simp only [expr_head_fine.l0, pre_nlt, if_false]
    exact Tells.pure _
  · intro pre deep left hg hl d1 d16 l0 l400
    obtain ⟨m, t1, q1⟩ := ih1 (deep + 1) left hg.1 (by omega) (by omega) l0 l400
    by_cases hb : fineB w vars kk x (deep + 1) left = true
    · have hm := q1 hb
      have hc := hb
      unfold fineB at hc
      simp only [Bool.and_eq_true, decide_eq_true_eq] at hc
      obtain ⟨c1, c2, c3⟩ := hc
      have e : fineBs w vars kk (x :: r) deep left = fineBs w vars kk r deep m := by
        unfold fineBs
        have n1 : eNs (x :: r) = eN x + eNs r := by simp only [eNs]
        have n2 : eDs (x :: r) = max (eD x) (eDs r) := by simp only [eDs]
        have n3 : eOKs w vars kk (x :: r) = eOKs w vars kk r := by simp only [eOKs, c3, Bool.true_and]
        rw [decide_eq_decide.2 (show ((eNs (x :: r) : Int) ≤ left) ↔ ((eNs r : Int) ≤ m) by omega), decide_eq_decide.2 (show (deep + 1 + (eDs (x :: r) : Int) ≤ 17) ↔ (deep + 1 + (eDs r : Int) ≤ 17) by omega), n3]
      rw [e]
      obtain ⟨l', t2, q2⟩ := ih2 (pre ++ [x]) deep m hg.2 (by rw [← pre_app]; exact hl) d1 d16 (by omega) (by omega)
      rw [← pre_app] at t2
      refine ⟨l', Tells.succ ?_, fun h => by have := q2 h; simp only [eNs]; omega⟩
      simp only [expr_head_fine.l0, pre_lt, pre_pos, if_true, rdE_mid]
      rw [w64 (n := deep + 1) (by omega) (by omega), pre_next pre x r hl]
      refine Tells.bind t1 ?_
      rw [hb]
      exact t2
    · have hb' := Bool.eq_false_iff.2 hb
      have e : fineBs w vars kk (x :: r) deep left = false := by
        rw [Bool.eq_false_iff]
        intro h
        apply hb
        unfold fineBs at h
        unfold fineB
        have n1 : eNs (x :: r) = eN x + eNs r := by simp only [eNs]
        have n2 : eDs (x :: r) = max (eD x) (eDs r) := by simp only [eDs]
        simp only [Bool.and_eq_true, decide_eq_true_eq] at h ⊢
        obtain ⟨q1, q2, q3⟩ := h
        simp only [eOKs, Bool.and_eq_true] at q3
        exact ⟨by omega, by omega, q3.1⟩
      rw [e]
      refine ⟨m, Tells.succ ?_, fun h => absurd h (by decide)⟩
      simp only [expr_head_fine.l0, pre_lt, pre_pos, if_true, rdE_mid]
      rw [w64 (n := deep + 1) (by omega) (by omega)]
      refine Tells.bind t1 ?_
      rw [hb']
      exact Tells.pure _
theorem Check_tells (w : Int) (vars : List S82) (kk : Int) (h1 : 1 ≤ w) (h8 : w ≤ 8) (k1 : 1 ≤ kk) (k3 : kk ≤ 3) (hh : Tells (fun k => expr_Heading.f k w vars) 0) (x : S96) (hg : goodE x) :
    Tells (fun k => expr_Check.f k w vars kk x.f0 x.f1 x.f2 x.f3) (okInt (eIs w vars kk x) 20) := by
  unfold expr_Check.f
  refine Tells.bind (x := okInt (eIs w vars kk x) 20) ?_ (Tells.pure _)
  unfold expr_head_check.f
  refine Tells.bind hh (Tells.ifT rfl (Tells.ifF (by omega) (Tells.ifF (by omega) ?_)))
  obtain ⟨l', t, _⟩ := (fine_tells w vars kk h1 h8).1 x 1 400 hg (by decide) (by decide) (by decide) (by decide)
  refine Tells.bind t ?_
  have e : fineB w vars kk x 1 400 = eIs w vars kk x := by
    unfold fineB eIs
    rw [decide_eq_decide.2 (show ((eN x : Int) ≤ 400) ↔ (eN x ≤ 400) by omega), decide_eq_decide.2 (show ((1 : Int) + eD x ≤ 17) ↔ (eD x ≤ 16) by omega)]
  rw [e]
  by_cases h : eIs w vars kk x = true
  · rw [h]; exact Tells.pure _
  · rw [Bool.eq_false_iff.2 h]; exact Tells.pure _
def r2_Find.l0 : Nat → List (S82) → ByteArray → Int → Option (Int)
 | 0, _, _, _ => none
 | k + 1, x0, x1, x5 => if x5 < (x0.length : Int) then (if 0 ≤ x5 then (if ((rd_T82 x0 x5).f0).toList = x1.toList then (some x5) else (r2_Find.l0 k x0 x1 (wrap64 (x5 + 1)))) else (none)) else (some (-1))
def r2_Find.f (k : Nat) (l0 : List (S82)) (a1 : ByteArray) : Option (Int) := r2_Find.l0 k l0 a1 0
set_option maxHeartbeats 8000000 in
set_option maxRecDepth 100000 in
theorem r2_Find.calls (k : Nat) (A0 : Option Addr) (c0 : Nat) (l0 : List (S82)) (a1 : ByteArray) (r : Int) (w : World) (hr0 : Kd.C k82 w A0 l0.length l0) (hc0 : l0.length ≤ c0) (h : r2_Find.f k l0 a1 = some r) :
  Calls Try.prog 72 #[.slice A0 l0.length c0, .string a1] w fun e w' => e = .returned (.int .i64 r) ∧ Drawn0 w w' := by
 have HR0 := Aside0.mk hr0
 have HC0 := Aside0.mk hc0
 clear hr0 hc0
 have H : (r2_Find.l0 k l0 a1 0) = some r := h
 clear h
 have H' := Aside0.mk H
 clear H
 go_enter Try.func72, Try.ntmps72
 go_wp2
 go_loopg [5] k (fun kq v5 w' => ∃ (x5_1 : Int), v5 = .int .i64 x5_1 ∧ Aside0 (r2_Find.l0 kq l0 a1 x5_1 = some r) ∧ Aside0 (kq ≤ k) ∧ Drawn0 w w')
 case atStart => exact ⟨(0), (by first | rfl | (simp; done) | (simp [*]; done)), H', ⟨Nat.le_refl _⟩, by repeat (first | exact Drawn0.refl _ | apply Drawn0.step)⟩
 case round =>
  clear H'
  try clear p2
  obtain ⟨x5_1, rfl, HA, HK1, ⟨m1, rfl⟩⟩ := hrel
  cases gk with
  | zero => exact absurd HA.out (by simp [r2_Find.l0])
  | succ k1 =>
   have H := HA.out
   clear HA
   simp only [r2_Find.l0] at H
   by_cases c3 : x5_1 < (l0.length : Int)
   ·rw [if_pos c3] at H
    have c3b0 : decide (x5_1 < (l0.length : Int)) = true := decide_eq_true c3
    clear c3
    by_cases c4 : 0 ≤ x5_1
    ·rw [if_pos c4] at H
     have c4b0 : decide (0 ≤ x5_1) = true := decide_eq_true c4
     clear c4
     by_cases c5 : ((rd_T82 l0 x5_1).f0).toList = a1.toList
     ·rw [if_pos c5] at H
      have c5b0 : (((rd_T82 l0 x5_1).f0).toList == a1.toList) = true := beq_iff_eq.mpr c5
      have c5b1 : (((rd_T82 l0 x5_1).f0).toList != a1.toList) = false := bne_eq_false_iff_eq.mpr c5
      clear c5
      obtain rfl := Option.some.inj H
      have p253 : 0 ≤ (x5_1 : Int) := of_decide_eq_true (by first | (with_reducible assumption) | assumption)
      have q253 : x5_1 < (l0.length : Int) := of_decide_eq_true (by first | (with_reducible assumption) | assumption)
      obtain ⟨ad253, e253, hx253_0, hx253_1, hx253_2⟩ := at_T82 HR0.out x5_1 p253 q253
      cases e253
      replace p253 := eq_true p253
      replace q253 := eq_true q253
      go_wp2
      go_ret
      exact ⟨by first | rfl | (simp; done) | (simp [*]; done), by repeat (first | exact Drawn0.refl _ | apply Drawn0.step)⟩
     ·rw [if_neg c5] at H
      have c5b0 : (((rd_T82 l0 x5_1).f0).toList == a1.toList) = false := beq_eq_false_iff_ne.mpr c5
      have c5b1 : (((rd_T82 l0 x5_1).f0).toList != a1.toList) = true := bne_iff_ne.mpr c5
      have H' := Aside0.mk H
      clear H
      have p253 : 0 ≤ (x5_1 : Int) := of_decide_eq_true (by first | (with_reducible assumption) | assumption)
      have q253 : x5_1 < (l0.length : Int) := of_decide_eq_true (by first | (with_reducible assumption) | assumption)
      obtain ⟨ad253, e253, hx253_0, hx253_1, hx253_2⟩ := at_T82 HR0.out x5_1 p253 q253
      cases e253
      replace p253 := eq_true p253
      replace q253 := eq_true q253
      go_wp2
      go_roundg k1
      case measure => have := HK1.out; omega
      case rel => exact ⟨(wrap64 (x5_1 + 1)), (by first | rfl | (simp; done) | (simp [*]; done)), H', ⟨by have := HK1.out; omega⟩, by repeat (first | exact Drawn0.refl _ | apply Drawn0.step)⟩
    ·rw [if_neg c4] at H
     exact absurd H (by simp)
   ·rw [if_neg c3] at H
    have c3b0 : decide (x5_1 < (l0.length : Int)) = false := decide_eq_false c3
    clear c3
    obtain rfl := Option.some.inj H
    go_wp2
    go_ret
    exact ⟨by first | rfl | (simp; done) | (simp [*]; done), by repeat (first | exact Drawn0.refl _ | apply Drawn0.step)⟩
def r2_digit.f (a0 : Int) : Option (Bool) := if a0 ≥ 48 then (some (decide (a0 ≤ 57))) else (some false)
set_option maxHeartbeats 8000000 in
set_option maxRecDepth 100000 in
theorem r2_digit.calls (a0 : Int) (r : Bool) (w : World) (h : r2_digit.f a0 = some r) :
  Calls Try.prog 85 #[.int .u8 a0] w fun e w' => e = .returned (.bool r) ∧ Drawn0 w w' := by
 have H : (if a0 ≥ 48 then (some (decide (a0 ≤ 57))) else (some false)) = some r := h
 clear h
 by_cases c2 : a0 ≥ 48
 ·rw [if_pos c2] at H
  have c2b0 : decide (48 ≤ a0) = true := decide_eq_true c2
  clear c2
  obtain rfl := Option.some.inj H
  go_enter Try.func85, Try.ntmps85
  go_wp2
  go_ret
  exact ⟨by first | rfl | (simp; done) | (simp [*]; done), by repeat (first | exact Drawn0.refl _ | apply Drawn0.step)⟩
 ·rw [if_neg c2] at H
  have c2b0 : decide (48 ≤ a0) = false := decide_eq_false c2
  clear c2
  obtain rfl := Option.some.inj H
  go_enter Try.func85, Try.ntmps85
  go_wp2
  go_ret
  exact ⟨by first | rfl | (simp; done) | (simp [*]; done), by repeat (first | exact Drawn0.refl _ | apply Drawn0.step)⟩
def r2_letter.f (a0 : Int) : Option (Bool) := if a0 ≥ 97 then (some (decide (a0 ≤ 122))) else (some false)
set_option maxHeartbeats 8000000 in
set_option maxRecDepth 100000 in
theorem r2_letter.calls (a0 : Int) (r : Bool) (w : World) (h : r2_letter.f a0 = some r) :
  Calls Try.prog 83 #[.int .u8 a0] w fun e w' => e = .returned (.bool r) ∧ Drawn0 w w' := by
 have H : (if a0 ≥ 97 then (some (decide (a0 ≤ 122))) else (some false)) = some r := h
 clear h
 by_cases c2 : a0 ≥ 97
 ·rw [if_pos c2] at H
  have c2b0 : decide (97 ≤ a0) = true := decide_eq_true c2
  clear c2
  obtain rfl := Option.some.inj H
  go_enter Try.func83, Try.ntmps83
  go_wp2
  go_ret
  exact ⟨by first | rfl | (simp; done) | (simp [*]; done), by repeat (first | exact Drawn0.refl _ | apply Drawn0.step)⟩
 ·rw [if_neg c2] at H
  have c2b0 : decide (97 ≤ a0) = false := decide_eq_false c2
  clear c2
  obtain rfl := Option.some.inj H
  go_enter Try.func83, Try.ntmps83
  go_wp2
  go_ret
  exact ⟨by first | rfl | (simp; done) | (simp [*]; done), by repeat (first | exact Drawn0.refl _ | apply Drawn0.step)⟩
def r2_Taken.f (a0 : ByteArray) : Option (Bool) := if a0.toList = ([119, 105, 100, 116, 104] : List UInt8) then (some true) else (if a0.toList = ([118, 97, 114] : List UInt8) then (some true) else (if a0.toList = ([105, 102] : List UInt8) then (some true) else (if a0.toList = ([101, 108, 115, 101] : List UInt8) then (some true) else (if a0.toList = ([119, 104, 105, 108, 101] : List UInt8) then (some true) else (if a0.toList = ([111, 117, 116] : List UInt8) then (some true) else (if a0.toList = ([112, 105, 99, 107] : List UInt8) then (some true) else (if a0.toList = ([110, 101, 101, 100] : List UInt8) then (some true) else (if a0.toList = ([109, 117, 115, 116] : List UInt8) then (some true) else (if a0.toList = ([108, 101, 118, 101, 108] : List UInt8) then (some true) else (if a0.toList = ([115, 101, 101, 115] : List UInt8) then (some true) else (some false)))))))))))
set_option maxHeartbeats 8000000 in
set_option maxRecDepth 100000 in
theorem r2_Taken.calls (a0 : ByteArray) (r : Bool) (w : World) (h : r2_Taken.f a0 = some r) :
  Calls Try.prog 84 #[.string a0] w fun e w' => e = .returned (.bool r) ∧ Drawn0 w w' := by
 have H : (if a0.toList = ([119, 105, 100, 116, 104] : List UInt8) then (some true) else (if a0.toList = ([118, 97, 114] : List UInt8) then (some true) else (if a0.toList = ([105, 102] : List UInt8) then (some true) else (if a0.toList = ([101, 108, 115, 101] : List UInt8) then (some true) else (if a0.toList = ([119, 104, 105, 108, 101] : List UInt8) then (some true) else (if a0.toList = ([111, 117, 116] : List UInt8) then (some true) else (if a0.toList = ([112, 105, 99, 107] : List UInt8) then (some true) else (if a0.toList = ([110, 101, 101, 100] : List UInt8) then (some true) else (if a0.toList = ([109, 117, 115, 116] : List UInt8) then (some true) else (if a0.toList = ([108, 101, 118, 101, 108] : List UInt8) then (some true) else (if a0.toList = ([115, 101, 101, 115] : List UInt8) then (some true) else (some false)))))))))))) = some r := h
 clear h
 by_cases c2 : a0.toList = ([119, 105, 100, 116, 104] : List UInt8)
 ·rw [if_pos c2] at H
  have c2b0 : (a0.toList == ([119, 105, 100, 116, 104] : List UInt8)) = true := beq_iff_eq.mpr c2
  have c2b1 : (a0.toList != ([119, 105, 100, 116, 104] : List UInt8)) = false := bne_eq_false_iff_eq.mpr c2
  clear c2
  obtain rfl := Option.some.inj H
  go_enter Try.func84, Try.ntmps84
  go_wp2
  go_ret
  exact ⟨by first | rfl | (simp; done) | (simp [*]; done), by repeat (first | exact Drawn0.refl _ | apply Drawn0.step)⟩
 ·rw [if_neg c2] at H
  have c2b0 : (a0.toList == ([119, 105, 100, 116, 104] : List UInt8)) = false := beq_eq_false_iff_ne.mpr c2
  have c2b1 : (a0.toList != ([119, 105, 100, 116, 104] : List UInt8)) = true := bne_iff_ne.mpr c2
  by_cases c3 : a0.toList = ([118, 97, 114] : List UInt8)
  ·rw [if_pos c3] at H
   have c3b0 : (a0.toList == ([118, 97, 114] : List UInt8)) = true := beq_iff_eq.mpr c3
   have c3b1 : (a0.toList != ([118, 97, 114] : List UInt8)) = false := bne_eq_false_iff_eq.mpr c3
   clear c3
   obtain rfl := Option.some.inj H
   go_enter Try.func84, Try.ntmps84
   go_wp2
   go_ret
   exact ⟨by first | rfl | (simp; done) | (simp [*]; done), by repeat (first | exact Drawn0.refl _ | apply Drawn0.step)⟩
  ·rw [if_neg c3] at H
   have c3b0 : (a0.toList == ([118, 97, 114] : List UInt8)) = false := beq_eq_false_iff_ne.mpr c3
   have c3b1 : (a0.toList != ([118, 97, 114] : List UInt8)) = true := bne_iff_ne.mpr c3
   by_cases c4 : a0.toList = ([105, 102] : List UInt8)
   ·rw [if_pos c4] at H
    have c4b0 : (a0.toList == ([105, 102] : List UInt8)) = true := beq_iff_eq.mpr c4
    have c4b1 : (a0.toList != ([105, 102] : List UInt8)) = false := bne_eq_false_iff_eq.mpr c4
    clear c4
    obtain rfl := Option.some.inj H
    go_enter Try.func84, Try.ntmps84
    go_wp2
    go_ret
    exact ⟨by first | rfl | (simp; done) | (simp [*]; done), by repeat (first | exact Drawn0.refl _ | apply Drawn0.step)⟩
   ·rw [if_neg c4] at H
    have c4b0 : (a0.toList == ([105, 102] : List UInt8)) = false := beq_eq_false_iff_ne.mpr c4
    have c4b1 : (a0.toList != ([105, 102] : List UInt8)) = true := bne_iff_ne.mpr c4
    by_cases c5 : a0.toList = ([101, 108, 115, 101] : List UInt8)
    ·rw [if_pos c5] at H
     have c5b0 : (a0.toList == ([101, 108, 115, 101] : List UInt8)) = true := beq_iff_eq.mpr c5
     have c5b1 : (a0.toList != ([101, 108, 115, 101] : List UInt8)) = false := bne_eq_false_iff_eq.mpr c5
     clear c5
     obtain rfl := Option.some.inj H
     go_enter Try.func84, Try.ntmps84
     go_wp2
     go_ret
     exact ⟨by first | rfl | (simp; done) | (simp [*]; done), by repeat (first | exact Drawn0.refl _ | apply Drawn0.step)⟩
    ·rw [if_neg c5] at H
     have c5b0 : (a0.toList == ([101, 108, 115, 101] : List UInt8)) = false := beq_eq_false_iff_ne.mpr c5
     have c5b1 : (a0.toList != ([101, 108, 115, 101] : List UInt8)) = true := bne_iff_ne.mpr c5
     by_cases c6 : a0.toList = ([119, 104, 105, 108, 101] : List UInt8)
     ·rw [if_pos c6] at H
      have c6b0 : (a0.toList == ([119, 104, 105, 108, 101] : List UInt8)) = true := beq_iff_eq.mpr c6
      have c6b1 : (a0.toList != ([119, 104, 105, 108, 101] : List UInt8)) = false := bne_eq_false_iff_eq.mpr c6
      clear c6
      obtain rfl := Option.some.inj H
      go_enter Try.func84, Try.ntmps84
      go_wp2
      go_ret
      exact ⟨by first | rfl | (simp; done) | (simp [*]; done), by repeat (first | exact Drawn0.refl _ | apply Drawn0.step)⟩
     ·rw [if_neg c6] at H
      have c6b0 : (a0.toList == ([119, 104, 105, 108, 101] : List UInt8)) = false := beq_eq_false_iff_ne.mpr c6
      have c6b1 : (a0.toList != ([119, 104, 105, 108, 101] : List UInt8)) = true := bne_iff_ne.mpr c6
      by_cases c7 : a0.toList = ([111, 117, 116] : List UInt8)
      ·rw [if_pos c7] at H
       have c7b0 : (a0.toList == ([111, 117, 116] : List UInt8)) = true := beq_iff_eq.mpr c7
       have c7b1 : (a0.toList != ([111, 117, 116] : List UInt8)) = false := bne_eq_false_iff_eq.mpr c7
       clear c7
       obtain rfl := Option.some.inj H
       go_enter Try.func84, Try.ntmps84
       go_wp2
       go_ret
       exact ⟨by first | rfl | (simp; done) | (simp [*]; done), by repeat (first | exact Drawn0.refl _ | apply Drawn0.step)⟩
      ·rw [if_neg c7] at H
       have c7b0 : (a0.toList == ([111, 117, 116] : List UInt8)) = false := beq_eq_false_iff_ne.mpr c7
       have c7b1 : (a0.toList != ([111, 117, 116] : List UInt8)) = true := bne_iff_ne.mpr c7
       by_cases c8 : a0.toList = ([112, 105, 99, 107] : List UInt8)
       ·rw [if_pos c8] at H
        have c8b0 : (a0.toList == ([112, 105, 99, 107] : List UInt8)) = true := beq_iff_eq.mpr c8
        have c8b1 : (a0.toList != ([112, 105, 99, 107] : List UInt8)) = false := bne_eq_false_iff_eq.mpr c8
        clear c8
        obtain rfl := Option.some.inj H
        go_enter Try.func84, Try.ntmps84
        go_wp2
        go_ret
        exact ⟨by first | rfl | (simp; done) | (simp [*]; done), by repeat (first | exact Drawn0.refl _ | apply Drawn0.step)⟩
       ·rw [if_neg c8] at H
        have c8b0 : (a0.toList == ([112, 105, 99, 107] : List UInt8)) = false := beq_eq_false_iff_ne.mpr c8
        have c8b1 : (a0.toList != ([112, 105, 99, 107] : List UInt8)) = true := bne_iff_ne.mpr c8
        by_cases c9 : a0.toList = ([110, 101, 101, 100] : List UInt8)
        ·rw [if_pos c9] at H
         have c9b0 : (a0.toList == ([110, 101, 101, 100] : List UInt8)) = true := beq_iff_eq.mpr c9
         have c9b1 : (a0.toList != ([110, 101, 101, 100] : List UInt8)) = false := bne_eq_false_iff_eq.mpr c9
         clear c9
         obtain rfl := Option.some.inj H
         go_enter Try.func84, Try.ntmps84
         go_wp2
         go_ret
         exact ⟨by first | rfl | (simp; done) | (simp [*]; done), by repeat (first | exact Drawn0.refl _ | apply Drawn0.step)⟩
        ·rw [if_neg c9] at H
         have c9b0 : (a0.toList == ([110, 101, 101, 100] : List UInt8)) = false := beq_eq_false_iff_ne.mpr c9
         have c9b1 : (a0.toList != ([110, 101, 101, 100] : List UInt8)) = true := bne_iff_ne.mpr c9
         by_cases c10 : a0.toList = ([109, 117, 115, 116] : List UInt8)
         ·rw [if_pos c10] at H
          have c10b0 : (a0.toList == ([109, 117, 115, 116] : List UInt8)) = true := beq_iff_eq.mpr c10
          have c10b1 : (a0.toList != ([109, 117, 115, 116] : List UInt8)) = false := bne_eq_false_iff_eq.mpr c10
          clear c10
          obtain rfl := Option.some.inj H
          go_enter Try.func84, Try.ntmps84
          go_wp2
          go_ret
          exact ⟨by first | rfl | (simp; done) | (simp [*]; done), by repeat (first | exact Drawn0.refl _ | apply Drawn0.step)⟩
         ·rw [if_neg c10] at H
          have c10b0 : (a0.toList == ([109, 117, 115, 116] : List UInt8)) = false := beq_eq_false_iff_ne.mpr c10
          have c10b1 : (a0.toList != ([109, 117, 115, 116] : List UInt8)) = true := bne_iff_ne.mpr c10
          by_cases c11 : a0.toList = ([108, 101, 118, 101, 108] : List UInt8)
          ·rw [if_pos c11] at H
           have c11b0 : (a0.toList == ([108, 101, 118, 101, 108] : List UInt8)) = true := beq_iff_eq.mpr c11
           have c11b1 : (a0.toList != ([108, 101, 118, 101, 108] : List UInt8)) = false := bne_eq_false_iff_eq.mpr c11
           clear c11
           obtain rfl := Option.some.inj H
           go_enter Try.func84, Try.ntmps84
           go_wp2
           go_ret
           exact ⟨by first | rfl | (simp; done) | (simp [*]; done), by repeat (first | exact Drawn0.refl _ | apply Drawn0.step)⟩
          ·rw [if_neg c11] at H
           have c11b0 : (a0.toList == ([108, 101, 118, 101, 108] : List UInt8)) = false := beq_eq_false_iff_ne.mpr c11
           have c11b1 : (a0.toList != ([108, 101, 118, 101, 108] : List UInt8)) = true := bne_iff_ne.mpr c11
           by_cases c12 : a0.toList = ([115, 101, 101, 115] : List UInt8)
           ·rw [if_pos c12] at H
            have c12b0 : (a0.toList == ([115, 101, 101, 115] : List UInt8)) = true := beq_iff_eq.mpr c12
            have c12b1 : (a0.toList != ([115, 101, 101, 115] : List UInt8)) = false := bne_eq_false_iff_eq.mpr c12
            clear c12
            obtain rfl := Option.some.inj H
            go_enter Try.func84, Try.ntmps84
            go_wp2
            go_ret
            exact ⟨by first | rfl | (simp; done) | (simp [*]; done), by repeat (first | exact Drawn0.refl _ | apply Drawn0.step)⟩
           ·rw [if_neg c12] at H
            have c12b0 : (a0.toList == ([115, 101, 101, 115] : List UInt8)) = false := beq_eq_false_iff_ne.mpr c12
            have c12b1 : (a0.toList != ([115, 101, 101, 115] : List UInt8)) = true := bne_iff_ne.mpr c12
            obtain rfl := Option.some.inj H
            go_enter Try.func84, Try.ntmps84
            go_wp2
            go_ret
            exact ⟨by first | rfl | (simp; done) | (simp [*]; done), by repeat (first | exact Drawn0.refl _ | apply Drawn0.step)⟩
mutual
def r2_Name.j0 : Nat → ByteArray → Bool → Option (Bool)
 | 0, _, _ => none
 | k + 1, x0, x21 => if x21 = true then (some false) else (r2_Name.l0 k x0 0)
def r2_Name.l0 : Nat → ByteArray → Int → Option (Bool)
 | 0, _, _ => none
 | k + 1, x0, x3 => if x3 < (x0.size : Int) then (if 0 ≤ x3 then ((r2_letter.f (bt x0 x3)).bind fun t251 => (if t251 = true then (r2_Name.l0 k x0 (wrap64 (x3 + 1))) else ((r2_digit.f (bt x0 x3)).bind fun t252 => (if t252 = true then (r2_Name.l0 k x0 (wrap64 (x3 + 1))) else (if (bt x0 x3) = 95 then (r2_Name.l0 k x0 (wrap64 (x3 + 1))) else (some false)))))) else (none)) else (some true)
end
def r2_Name.f (k : Nat) (a0 : ByteArray) : Option (Bool) := if (a0.size : Int) < 1 then (r2_Name.j0 k a0 true) else (if (a0.size : Int) > 12 then (r2_Name.j0 k a0 true) else (if 0 < (a0.size : Int) then ((r2_letter.f (bt a0 0)).bind fun t249 => (if t249 = true then ((r2_Taken.f a0).bind fun t250 => (r2_Name.j0 k a0 t250)) else (r2_Name.j0 k a0 true))) else (none)))
set_option maxHeartbeats 8000000 in
set_option maxRecDepth 100000 in
theorem r2_Name.calls (k : Nat) (a0 : ByteArray) (r : Bool) (w : World) (h : r2_Name.f k a0 = some r) :
  Calls Try.prog 71 #[.string a0] w fun e w' => e = .returned (.bool r) ∧ Drawn0 w w' := by
 have H : (if (a0.size : Int) < 1 then (r2_Name.j0 k a0 true) else (if (a0.size : Int) > 12 then (r2_Name.j0 k a0 true) else (if 0 < (a0.size : Int) then ((r2_letter.f (bt a0 0)).bind fun t249 => (if t249 = true then ((r2_Taken.f a0).bind fun t250 => (r2_Name.j0 k a0 t250)) else (r2_Name.j0 k a0 true))) else (none)))) = some r := h
 clear h
 have HC2 := Aside0.mk H
 clear H
 go_enter Try.func71, Try.ntmps71
 go_upto_region 1 with (fail)
 go_cut [21] (fun v21 wc => ∃ (kq : Nat) (x21_1 : Bool), v21 = .bool x21_1 ∧ Aside0 (r2_Name.j0 kq a0 x21_1 = some r) ∧ Aside0 (kq ≤ k) ∧ Drawn0 w wc)
 case first =>
  have H := HC2.out
  clear HC2
  by_cases c3 : (a0.size : Int) < 1
  ·rw [if_pos c3] at H
   have c3b0 : decide ((a0.size : Int) < 1) = true := decide_eq_true c3
   have c3b1 : decide (a0.size < 1) = true := decide_eq_true (by omega)
   clear c3
   (first | rw [c3b0] | (simp only [i64_w, i32_w]; rw [c3b0]) | skip)
   have H' := Aside0.mk H
   clear H
   go_wp2
   go_meet
   case rel => exact ⟨_, (true), (by first | rfl | (simp; done) | (simp [*]; done)), H', ⟨by first | omega | exact Nat.le_refl _⟩, by repeat (first | exact Drawn0.refl _ | apply Drawn0.step)⟩
  ·rw [if_neg c3] at H
   have c3b0 : decide ((a0.size : Int) < 1) = false := decide_eq_false c3
   have c3b1 : decide (a0.size < 1) = false := decide_eq_false (by omega)
   clear c3
   (first | rw [c3b0] | (simp only [i64_w, i32_w]; rw [c3b0]) | skip)
   by_cases c4 : (a0.size : Int) > 12
   ·rw [if_pos c4] at H
    have c4b0 : decide (12 < (a0.size : Int)) = true := decide_eq_true c4
    have c4b1 : decide (12 < a0.size) = true := decide_eq_true (by omega)
    clear c4
    have H' := Aside0.mk H
    clear H
    go_wp2
    go_meet
    case rel => exact ⟨_, (true), (by first | rfl | (simp; done) | (simp [*]; done)), H', ⟨by first | omega | exact Nat.le_refl _⟩, by repeat (first | exact Drawn0.refl _ | apply Drawn0.step)⟩
   ·rw [if_neg c4] at H
    have c4b0 : decide (12 < (a0.size : Int)) = false := decide_eq_false c4
    have c4b1 : decide (12 < a0.size) = false := decide_eq_false (by omega)
    clear c4
    by_cases c5 : 0 < (a0.size : Int)
    ·rw [if_pos c5] at H
     have c5b0 : decide (0 < (a0.size : Int)) = true := decide_eq_true c5
     have c5b1 : decide (0 < a0.size) = true := decide_eq_true (by omega)
     clear c5
     replace H := Option.bind_eq_some_iff.mp H
     obtain ⟨t249, A70, H⟩ := H
     replace H : (if t249 = true then ((r2_Taken.f a0).bind fun t250 => (r2_Name.j0 k a0 t250)) else (r2_Name.j0 k a0 true)) = some r := H
     have A7 := Aside0.mk A70
     clear A70
     by_cases c8 : t249 = true
     ·subst c8
      have H1 : ((r2_Taken.f a0).bind fun t250 => (r2_Name.j0 k a0 t250)) = some r := by rw [if_pos rfl] at H; exact H
      clear H
      have H := H1
      clear H1
      replace H := Option.bind_eq_some_iff.mp H
      obtain ⟨t250, A90, H⟩ := H
      replace H : (r2_Name.j0 k a0 t250) = some r := H
      have A9 := Aside0.mk A90
      clear A90
      have H' := Aside0.mk H
      clear H
      have p6 : 0 ≤ (0 : Int) := (by omega)
      have q6 : 0 < a0.size := (by have : (0 : Int) < (a0.size : Int) := of_decide_eq_true (by first | (with_reducible assumption) | assumption); omega)
      have hx6 : ∀ h : 0 < a0.size, ((a0[0]'h).toNat : Int) = bt a0 0 := bt_at a0 0
      clear p6
      have qi6 : (0 < (a0.size : Int)) = True := eq_true (of_decide_eq_true (by first | (with_reducible assumption) | assumption))
      replace q6 := eq_true q6
      go_wp2_with (first | (go_at_call 83; (with_reducible refine (r2_letter.calls (bt a0 0) true _ A7.out).mono ?_); rintro e w' ⟨rfl, ⟨nd, rfl⟩⟩) | (go_at_call 84; (with_reducible refine (r2_Taken.calls a0 t250 _ A9.out).mono ?_); rintro e w' ⟨rfl, ⟨nd, rfl⟩⟩))
      go_meet
      case rel => exact ⟨_, (t250), (by first | rfl | (simp; done) | (simp [*]; done)), H', ⟨by first | omega | exact Nat.le_refl _⟩, by repeat (first | exact Drawn0.refl _ | apply Drawn0.step)⟩
     ·replace c8 := Bool.eq_false_iff.mpr c8
      subst c8
      have H1 : (r2_Name.j0 k a0 true) = some r := by rw [if_neg (show ¬ (false = true) by decide)] at H; exact H
      clear H
      have H := H1
      clear H1
      have H' := Aside0.mk H
      clear H
      have p6 : 0 ≤ (0 : Int) := (by omega)
      have q6 : 0 < a0.size := (by have : (0 : Int) < (a0.size : Int) := of_decide_eq_true (by first | (with_reducible assumption) | assumption); omega)
      have hx6 : ∀ h : 0 < a0.size, ((a0[0]'h).toNat : Int) = bt a0 0 := bt_at a0 0
      clear p6
      have qi6 : (0 < (a0.size : Int)) = True := eq_true (of_decide_eq_true (by first | (with_reducible assumption) | assumption))
      replace q6 := eq_true q6
      go_wp2_with (first | (go_at_call 83; (with_reducible refine (r2_letter.calls (bt a0 0) false _ A7.out).mono ?_); rintro e w' ⟨rfl, ⟨nd, rfl⟩⟩))
      go_meet
      case rel => exact ⟨_, (true), (by first | rfl | (simp; done) | (simp [*]; done)), H', ⟨by first | omega | exact Nat.le_refl _⟩, by repeat (first | exact Drawn0.refl _ | apply Drawn0.step)⟩
    ·rw [if_neg c5] at H
     exact absurd H (by simp)
 case rest =>
  clear HC2
  try clear p2
  try clear c3
  try clear c3b0
  try clear c3b1
  try clear c4
  try clear c4b0
  try clear c4b1
  try clear c5
  try clear c5b0
  try clear c5b1
  try clear p6
  try clear q6
  try clear hx6
  try clear qi6
  try clear c7
  try clear c8
  try clear p6
  try clear q6
  obtain ⟨kq, x21_1, rfl, HA, HJ1, ⟨mc1, rfl⟩⟩ := hcut
  cases kq with
  | zero => exact absurd HA.out (by simp [r2_Name.j0])
  | succ kj1 =>
   have H := HA.out
   clear HA
   simp only [r2_Name.j0] at H
   by_cases c10 : x21_1 = true
   ·subst c10
    have H1 : (some false) = some r := by rw [if_pos rfl] at H; exact H
    clear H
    have H := H1
    clear H1
    obtain rfl := Option.some.inj H
    go_wp2
    go_ret
    exact ⟨by first | rfl | (simp; done) | (simp [*]; done), by repeat (first | exact Drawn0.refl _ | apply Drawn0.step)⟩
   ·replace c10 := Bool.eq_false_iff.mpr c10
    subst c10
    have H1 : (r2_Name.l0 kj1 a0 0) = some r := by rw [if_neg (show ¬ (false = true) by decide)] at H; exact H
    clear H
    have H := H1
    clear H1
    have H' := Aside0.mk H
    clear H
    go_wp2
    go_loopg [3] kj1 (fun kq v3 w' => ∃ (x3_2 : Int), v3 = .int .i64 x3_2 ∧ Aside0 (r2_Name.l0 kq a0 x3_2 = some r) ∧ Aside0 (kq ≤ kj1) ∧ Drawn0 w w')
    case atStart => exact ⟨(0), (by first | rfl | (simp; done) | (simp [*]; done)), H', ⟨Nat.le_refl _⟩, by repeat (first | exact Drawn0.refl _ | apply Drawn0.step)⟩
    case round =>
     clear H'
     try clear c1
     try clear p2
     try clear c3
     try clear c3b0
     try clear c3b1
     try clear c4
     try clear c4b0
     try clear c4b1
     try clear c5
     try clear c5b0
     try clear c5b1
     try clear p6
     try clear q6
     try clear hx6
     try clear qi6
     try clear c7
     try clear c8
     try clear c10
     try clear p2
     try clear p6
     try clear q6
     obtain ⟨x3_2, rfl, HA, HK2, ⟨m2, rfl⟩⟩ := hrel
     cases gk with
     | zero => exact absurd HA.out (by simp [r2_Name.l0])
     | succ k2 =>
      have H := HA.out
      clear HA
      simp only [r2_Name.l0] at H
      by_cases c11 : x3_2 < (a0.size : Int)
      ·rw [if_pos c11] at H
       have c11b0 : decide (x3_2 < (a0.size : Int)) = true := decide_eq_true c11
       clear c11
       by_cases c12 : 0 ≤ x3_2
       ·rw [if_pos c12] at H
        have c12b0 : decide (0 ≤ x3_2) = true := decide_eq_true c12
        clear c12
        replace H := Option.bind_eq_some_iff.mp H
        obtain ⟨t251, A140, H⟩ := H
        replace H : (if t251 = true then (r2_Name.l0 k2 a0 (wrap64 (x3_2 + 1))) else ((r2_digit.f (bt a0 x3_2)).bind fun t252 => (if t252 = true then (r2_Name.l0 k2 a0 (wrap64 (x3_2 + 1))) else (if (bt a0 x3_2) = 95 then (r2_Name.l0 k2 a0 (wrap64 (x3_2 + 1))) else (some false))))) = some r := H
        have A14 := Aside0.mk A140
        clear A140
        by_cases c15 : t251 = true
        ·subst c15
         have H1 : (r2_Name.l0 k2 a0 (wrap64 (x3_2 + 1))) = some r := by rw [if_pos rfl] at H; exact H
         clear H
         have H := H1
         clear H1
         have H' := Aside0.mk H
         clear H
         have p13 : 0 ≤ (x3_2 : Int) := of_decide_eq_true (by first | (with_reducible assumption) | assumption)
         have q13 : x3_2 < (a0.size : Int) := of_decide_eq_true (by first | (with_reducible assumption) | assumption)
         have hx13 := bt_at a0 x3_2
         replace p13 := eq_true p13
         replace q13 := eq_true q13
         go_wp2_with (first | ((with_reducible refine gate_callee (f := 83) rfl ?_); refine goesL_ (some 31) rfl rfl Try.func83 (by kernel_rfl) rfl #[.int .u8 (bt a0 x3_2)] rfl (by (try simp only [List.map_toArray, List.map_cons, List.map_nil]); first | done | rfl | (simp only [List.length_drop, List.length_take]; rfl)) ?_; (with_reducible refine (r2_letter.calls (bt a0 x3_2) true _ A14.out).mono ?_); rintro e w' ⟨rfl, ⟨nd, rfl⟩⟩; refine ⟨_, rfl, ?_⟩))
         go_roundg k2
         case measure => have := HJ1.out; have := HK2.out; omega
         case rel => exact ⟨(wrap64 (x3_2 + 1)), (by first | rfl | (simp; done) | (simp [*]; done)), H', ⟨by have := HJ1.out; have := HK2.out; omega⟩, by repeat (first | exact Drawn0.refl _ | apply Drawn0.step)⟩
        ·replace c15 := Bool.eq_false_iff.mpr c15
         subst c15
         have H1 : ((r2_digit.f (bt a0 x3_2)).bind fun t252 => (if t252 = true then (r2_Name.l0 k2 a0 (wrap64 (x3_2 + 1))) else (if (bt a0 x3_2) = 95 then (r2_Name.l0 k2 a0 (wrap64 (x3_2 + 1))) else (some false)))) = some r := by rw [if_neg (show ¬ (false = true) by decide)] at H; exact H
         clear H
         have H := H1
         clear H1
         replace H := Option.bind_eq_some_iff.mp H
         obtain ⟨t252, A170, H⟩ := H
         replace H : (if t252 = true then (r2_Name.l0 k2 a0 (wrap64 (x3_2 + 1))) else (if (bt a0 x3_2) = 95 then (r2_Name.l0 k2 a0 (wrap64 (x3_2 + 1))) else (some false))) = some r := H
         have A17 := Aside0.mk A170
         clear A170
         by_cases c18 : t252 = true
         ·subst c18
          have H1 : (r2_Name.l0 k2 a0 (wrap64 (x3_2 + 1))) = some r := by rw [if_pos rfl] at H; exact H
          clear H
          have H := H1
          clear H1
          have H' := Aside0.mk H
          clear H
          have p13 : 0 ≤ (x3_2 : Int) := of_decide_eq_true (by first | (with_reducible assumption) | assumption)
          have q13 : x3_2 < (a0.size : Int) := of_decide_eq_true (by first | (with_reducible assumption) | assumption)
          have hx13 := bt_at a0 x3_2
          replace p13 := eq_true p13
          replace q13 := eq_true q13
          go_wp2_with (first | ((with_reducible refine gate_callee (f := 83) rfl ?_); refine goesL_ (some 31) rfl rfl Try.func83 (by kernel_rfl) rfl #[.int .u8 (bt a0 x3_2)] rfl (by (try simp only [List.map_toArray, List.map_cons, List.map_nil]); first | done | rfl | (simp only [List.length_drop, List.length_take]; rfl)) ?_; (with_reducible refine (r2_letter.calls (bt a0 x3_2) false _ A14.out).mono ?_); rintro e w' ⟨rfl, ⟨nd, rfl⟩⟩; refine ⟨_, rfl, ?_⟩; have p16 : 0 ≤ (x3_2 : Int) := of_decide_eq_true (by first | (with_reducible assumption) | assumption); have q16 : x3_2 < (a0.size : Int) := of_decide_eq_true (by first | (with_reducible assumption) | assumption); have hx16 := bt_at a0 x3_2; replace p16 := eq_true p16; replace q16 := eq_true q16) | (go_at_call 85; (with_reducible refine (r2_digit.calls (bt a0 x3_2) true _ A17.out).mono ?_); rintro e w' ⟨rfl, ⟨nd, rfl⟩⟩))
          go_roundg k2
          case measure => have := HJ1.out; have := HK2.out; omega
          case rel => exact ⟨(wrap64 (x3_2 + 1)), (by first | rfl | (simp; done) | (simp [*]; done)), H', ⟨by have := HJ1.out; have := HK2.out; omega⟩, by repeat (first | exact Drawn0.refl _ | apply Drawn0.step)⟩
         ·replace c18 := Bool.eq_false_iff.mpr c18
          subst c18
          have H1 : (if (bt a0 x3_2) = 95 then (r2_Name.l0 k2 a0 (wrap64 (x3_2 + 1))) else (some false)) = some r := by rw [if_neg (show ¬ (false = true) by decide)] at H; exact H
          clear H
          have H := H1
          clear H1
          by_cases c20 : (bt a0 x3_2) = 95
          ·rw [if_pos c20] at H
           have c20b0 : ((bt a0 x3_2) == 95) = true := beq_iff_eq.mpr c20
           have c20b1 : ((bt a0 x3_2) != 95) = false := bne_eq_false_iff_eq.mpr c20
           clear c20
           have H' := Aside0.mk H
           clear H
           have p13 : 0 ≤ (x3_2 : Int) := of_decide_eq_true (by first | (with_reducible assumption) | assumption)
           have q13 : x3_2 < (a0.size : Int) := of_decide_eq_true (by first | (with_reducible assumption) | assumption)
           have hx13 := bt_at a0 x3_2
           replace p13 := eq_true p13
           replace q13 := eq_true q13
           go_wp2_with (first | ((with_reducible refine gate_callee (f := 83) rfl ?_); refine goesL_ (some 31) rfl rfl Try.func83 (by kernel_rfl) rfl #[.int .u8 (bt a0 x3_2)] rfl (by (try simp only [List.map_toArray, List.map_cons, List.map_nil]); first | done | rfl | (simp only [List.length_drop, List.length_take]; rfl)) ?_; (with_reducible refine (r2_letter.calls (bt a0 x3_2) false _ A14.out).mono ?_); rintro e w' ⟨rfl, ⟨nd, rfl⟩⟩; refine ⟨_, rfl, ?_⟩; have p16 : 0 ≤ (x3_2 : Int) := of_decide_eq_true (by first | (with_reducible assumption) | assumption); have q16 : x3_2 < (a0.size : Int) := of_decide_eq_true (by first | (with_reducible assumption) | assumption); have hx16 := bt_at a0 x3_2; replace p16 := eq_true p16; replace q16 := eq_true q16) | (go_at_call 85; (with_reducible refine (r2_digit.calls (bt a0 x3_2) false _ A17.out).mono ?_); rintro e w' ⟨rfl, ⟨nd, rfl⟩⟩; have p19 : 0 ≤ (x3_2 : Int) := of_decide_eq_true (by first | (with_reducible assumption) | assumption); have q19 : x3_2 < (a0.size : Int) := of_decide_eq_true (by first | (with_reducible assumption) | assumption); have hx19 := bt_at a0 x3_2; replace p19 := eq_true p19; replace q19 := eq_true q19))
           go_roundg k2
           case measure => have := HJ1.out; have := HK2.out; omega
           case rel => exact ⟨(wrap64 (x3_2 + 1)), (by first | rfl | (simp; done) | (simp [*]; done)), H', ⟨by have := HJ1.out; have := HK2.out; omega⟩, by repeat (first | exact Drawn0.refl _ | apply Drawn0.step)⟩
          ·rw [if_neg c20] at H
           have c20b0 : ((bt a0 x3_2) == 95) = false := beq_eq_false_iff_ne.mpr c20
           have c20b1 : ((bt a0 x3_2) != 95) = true := bne_iff_ne.mpr c20
           obtain rfl := Option.some.inj H
           have p13 : 0 ≤ (x3_2 : Int) := of_decide_eq_true (by first | (with_reducible assumption) | assumption)
           have q13 : x3_2 < (a0.size : Int) := of_decide_eq_true (by first | (with_reducible assumption) | assumption)
           have hx13 := bt_at a0 x3_2
           replace p13 := eq_true p13
           replace q13 := eq_true q13
           go_wp2_with (first | ((with_reducible refine gate_callee (f := 83) rfl ?_); refine goesL_ (some 31) rfl rfl Try.func83 (by kernel_rfl) rfl #[.int .u8 (bt a0 x3_2)] rfl (by (try simp only [List.map_toArray, List.map_cons, List.map_nil]); first | done | rfl | (simp only [List.length_drop, List.length_take]; rfl)) ?_; (with_reducible refine (r2_letter.calls (bt a0 x3_2) false _ A14.out).mono ?_); rintro e w' ⟨rfl, ⟨nd, rfl⟩⟩; refine ⟨_, rfl, ?_⟩; have p16 : 0 ≤ (x3_2 : Int) := of_decide_eq_true (by first | (with_reducible assumption) | assumption); have q16 : x3_2 < (a0.size : Int) := of_decide_eq_true (by first | (with_reducible assumption) | assumption); have hx16 := bt_at a0 x3_2; replace p16 := eq_true p16; replace q16 := eq_true q16) | (go_at_call 85; (with_reducible refine (r2_digit.calls (bt a0 x3_2) false _ A17.out).mono ?_); rintro e w' ⟨rfl, ⟨nd, rfl⟩⟩; have p19 : 0 ≤ (x3_2 : Int) := of_decide_eq_true (by first | (with_reducible assumption) | assumption); have q19 : x3_2 < (a0.size : Int) := of_decide_eq_true (by first | (with_reducible assumption) | assumption); have hx19 := bt_at a0 x3_2; replace p19 := eq_true p19; replace q19 := eq_true q19))
           go_ret
           exact ⟨by first | rfl | (simp; done) | (simp [*]; done), by repeat (first | exact Drawn0.refl _ | apply Drawn0.step)⟩
       ·rw [if_neg c12] at H
        exact absurd H (by simp)
      ·rw [if_neg c11] at H
       have c11b0 : decide (x3_2 < (a0.size : Int)) = false := decide_eq_false c11
       clear c11
       obtain rfl := Option.some.inj H
       go_wp2
       go_ret
       exact ⟨by first | rfl | (simp; done) | (simp [*]; done), by repeat (first | exact Drawn0.refl _ | apply Drawn0.step)⟩
mutual
def r2_Heading.j0 : Nat → List (S82) → Bool → Option (Bool)
 | 0, _, _ => none
 | k + 1, x1, x20 => if x20 = true then (some false) else (r2_Heading.l0 k x1 0 0)
def r2_Heading.l0 : Nat → List (S82) → Int → Int → Option (Bool)
 | 0, _, _, _ => none
 | k + 1, x1, x5, x6 => if x6 < (x1.length : Int) then (if 0 ≤ x6 then ((r2_Name.f k ((rd_T82 x1 x6).f0)).bind fun t257 => (if t257 = true then (if ((rd_T82 x1 x6).f1) < 0 then (some false) else (if ((rd_T82 x1 x6).f1) > 47 then (some false) else (if ((rd_T82 x1 x6).f2) < 1 then (some false) else (if ((rd_T82 x1 x6).f2) > 8 then (some false) else ((r2_Find.f k x1 ((rd_T82 x1 x6).f0)).bind fun t258 => (if t258 = x6 then (r2_Heading.l0 k x1 (wrap64 (x5 + ((rd_T82 x1 x6).f2))) (wrap64 (x6 + 1))) else (some false))))))) else (some false))) else (none)) else (some (decide (x5 ≤ 48)))
end
def r2_Heading.f (k : Nat) (a0 : Int) (l1 : List (S82)) : Option (Bool) := (r1_Width.f a0).bind fun t254 => (if t254 = true then (if (l1.length : Int) < 1 then (r2_Heading.j0 k l1 true) else (r2_Heading.j0 k l1 (decide ((l1.length : Int) > 18)))) else (r2_Heading.j0 k l1 true))
set_option maxHeartbeats 8000000 in
set_option maxRecDepth 100000 in
theorem r2_Heading.calls (k : Nat) (a0 : Int) (A1 : Option Addr) (c1 : Nat) (l1 : List (S82)) (r : Bool) (w : World) (hr1 : Kd.C k82 w A1 l1.length l1) (hc1 : l1.length ≤ c1) (h : r2_Heading.f k a0 l1 = some r) :
  Calls Try.prog 46 #[.int .i64 a0, .slice A1 l1.length c1] w fun e w' => e = .returned (.bool r) ∧ Below w.heap.size w w' := by
 have hu82 := Try.underlying82
 have HR1 := Aside0.mk hr1
 have HC1 := Aside0.mk hc1
 clear hr1 hc1
 have HB := Aside0.mk (Below.refl w.heap.size w)
 have H : ((r1_Width.f a0).bind fun t254 => (if t254 = true then (if (l1.length : Int) < 1 then (r2_Heading.j0 k l1 true) else (r2_Heading.j0 k l1 (decide ((l1.length : Int) > 18)))) else (r2_Heading.j0 k l1 true))) = some r := h
 clear h
 have HC3 := Aside0.mk H
 clear H
 go_enter Try.func46, Try.ntmps46
 go_upto_region 1 with (fail)
 go_cut [20] (fun v20 wc => ∃ (kq : Nat) (x20_2 : Bool), v20 = .bool x20_2 ∧ Aside0 (r2_Heading.j0 kq l1 x20_2 = some r) ∧ Aside0 (kq ≤ k) ∧ Aside0 (Below w.heap.size w wc))
 case first =>
  have H := HC3.out
  clear HC3
  replace H := Option.bind_eq_some_iff.mp H
  obtain ⟨t254, A40, H⟩ := H
  replace H : (if t254 = true then (if (l1.length : Int) < 1 then (r2_Heading.j0 k l1 true) else (r2_Heading.j0 k l1 (decide ((l1.length : Int) > 18)))) else (r2_Heading.j0 k l1 true)) = some r := H
  have A4 := Aside0.mk A40
  clear A40
  by_cases c5 : t254 = true
  ·subst c5
   have H1 : (if (l1.length : Int) < 1 then (r2_Heading.j0 k l1 true) else (r2_Heading.j0 k l1 (decide ((l1.length : Int) > 18)))) = some r := by rw [if_pos rfl] at H; exact H
   clear H
   have H := H1
   clear H1
   by_cases c6 : (l1.length : Int) < 1
   ·rw [if_pos c6] at H
    have c6b0 : decide ((l1.length : Int) < 1) = true := decide_eq_true c6
    have c6b1 : decide (l1.length < 1) = true := decide_eq_true (by omega)
    clear c6
    (first | rw [c6b0] | (simp only [i64_w, i32_w]; rw [c6b0]) | skip)
    have H' := Aside0.mk H
    clear H
    go_wp2_with (first | ((with_reducible refine gate_callee (f := 70) rfl ?_); refine goesL_ (some 9) rfl rfl Try.func70 (by kernel_rfl) rfl #[.int .i64 a0] rfl (by (try simp only [List.map_toArray, List.map_cons, List.map_nil]); first | done | rfl | (simp only [List.length_drop, List.length_take]; rfl)) ?_; (with_reducible refine (r1_Width.calls a0 true _ A4.out).mono ?_); rintro e w' ⟨rfl, ⟨nd, rfl⟩⟩; refine ⟨_, rfl, ?_⟩))
    go_meet
    case rel => exact ⟨_, (true), (by first | rfl | (simp; done) | (simp [*]; done)), H', ⟨by first | omega | exact Nat.le_refl _⟩, ⟨by repeat (first | (with_reducible first | exact HB.out | apply bal | apply bdN | apply bd1) | exact HB.out)⟩⟩
   ·rw [if_neg c6] at H
    have c6b0 : decide ((l1.length : Int) < 1) = false := decide_eq_false c6
    have c6b1 : decide (l1.length < 1) = false := decide_eq_false (by omega)
    clear c6
    (first | rw [c6b0] | (simp only [i64_w, i32_w]; rw [c6b0]) | skip)
    have H' := Aside0.mk H
    clear H
    go_wp2_with (first | ((with_reducible refine gate_callee (f := 70) rfl ?_); refine goesL_ (some 9) rfl rfl Try.func70 (by kernel_rfl) rfl #[.int .i64 a0] rfl (by (try simp only [List.map_toArray, List.map_cons, List.map_nil]); first | done | rfl | (simp only [List.length_drop, List.length_take]; rfl)) ?_; (with_reducible refine (r1_Width.calls a0 true _ A4.out).mono ?_); rintro e w' ⟨rfl, ⟨nd, rfl⟩⟩; refine ⟨_, rfl, ?_⟩))
    go_meet
    case rel => exact ⟨_, (decide ((l1.length : Int) > 18)), (by first | rfl | (simp; done) | (simp [*]; done)), H', ⟨by first | omega | exact Nat.le_refl _⟩, ⟨by repeat (first | (with_reducible first | exact HB.out | apply bal | apply bdN | apply bd1) | exact HB.out)⟩⟩
  ·replace c5 := Bool.eq_false_iff.mpr c5
   subst c5
   have H1 : (r2_Heading.j0 k l1 true) = some r := by rw [if_neg (show ¬ (false = true) by decide)] at H; exact H
   clear H
   have H := H1
   clear H1
   have H' := Aside0.mk H
   clear H
   go_wp2_with (first | ((with_reducible refine gate_callee (f := 70) rfl ?_); refine goesL_ (some 9) rfl rfl Try.func70 (by kernel_rfl) rfl #[.int .i64 a0] rfl (by (try simp only [List.map_toArray, List.map_cons, List.map_nil]); first | done | rfl | (simp only [List.length_drop, List.length_take]; rfl)) ?_; (with_reducible refine (r1_Width.calls a0 false _ A4.out).mono ?_); rintro e w' ⟨rfl, ⟨nd, rfl⟩⟩; refine ⟨_, rfl, ?_⟩))
   go_meet
   case rel => exact ⟨_, (true), (by first | rfl | (simp; done) | (simp [*]; done)), H', ⟨by first | omega | exact Nat.le_refl _⟩, ⟨by repeat (first | (with_reducible first | exact HB.out | apply bal | apply bdN | apply bd1) | exact HB.out)⟩⟩
 case rest =>
  clear HC3
  try clear c1
  try clear p2
  try clear c4
  try clear c5
  try clear c6
  try clear c6b0
  try clear c6b1
  obtain ⟨kq, x20_2, rfl, HA, HJ2, HB⟩ := hcut
  cases kq with
  | zero => exact absurd HA.out (by simp [r2_Heading.j0])
  | succ kj2 =>
   have H := HA.out
   clear HA
   simp only [r2_Heading.j0] at H
   by_cases c7 : x20_2 = true
   ·subst c7
    have H1 : (some false) = some r := by rw [if_pos rfl] at H; exact H
    clear H
    have H := H1
    clear H1
    obtain rfl := Option.some.inj H
    go_wp2
    go_ret
    exact ⟨by first | rfl | (simp [*] <;> rfl), by repeat (first | (with_reducible first | exact HB.out | apply bal | apply bdN | apply bd1) | exact HB.out)⟩
   ·replace c7 := Bool.eq_false_iff.mpr c7
    subst c7
    have H1 : (r2_Heading.l0 kj2 l1 0 0) = some r := by rw [if_neg (show ¬ (false = true) by decide)] at H; exact H
    clear H
    have H := H1
    clear H1
    have H' := Aside0.mk H
    clear H
    go_wp2
    go_loopg [5, 6] kj2 (fun kq v5 v6 w' => ∃ (x5_2 : Int) (x6_2 : Int), v5 = .int .i64 x5_2 ∧ v6 = .int .i64 x6_2 ∧ Aside0 (r2_Heading.l0 kq l1 x5_2 x6_2 = some r) ∧ Aside0 (kq ≤ kj2) ∧ Aside0 (Below w.heap.size w w'))
    case atStart => exact ⟨(0), (0), (by first | rfl | (simp; done) | (simp [*]; done)), (by first | rfl | (simp; done) | (simp [*]; done)), H', ⟨Nat.le_refl _⟩, ⟨by repeat (first | (with_reducible first | exact HB.out | apply bal | apply bdN | apply bd1) | exact HB.out)⟩⟩
    case round =>
     clear H'
     try clear c1
     try clear p2
     try clear c4
     try clear c5
     try clear c6
     try clear c6b0
     try clear c6b1
     try clear c7
     try clear p2
     obtain ⟨x5_2, x6_2, rfl, rfl, HA, HK2, HB⟩ := hrel
     cases gk with
     | zero => exact absurd HA.out (by simp [r2_Heading.l0])
     | succ k2 =>
      have H := HA.out
      clear HA
      simp only [r2_Heading.l0] at H
      by_cases c8 : x6_2 < (l1.length : Int)
      ·rw [if_pos c8] at H
       have c8b0 : decide (x6_2 < (l1.length : Int)) = true := decide_eq_true c8
       clear c8
       by_cases c9 : 0 ≤ x6_2
       ·rw [if_pos c9] at H
        have c9b0 : decide (0 ≤ x6_2) = true := decide_eq_true c9
        clear c9
        replace H := Option.bind_eq_some_iff.mp H
        obtain ⟨t257, A100, H⟩ := H
        replace H : (if t257 = true then (if ((rd_T82 l1 x6_2).f1) < 0 then (some false) else (if ((rd_T82 l1 x6_2).f1) > 47 then (some false) else (if ((rd_T82 l1 x6_2).f2) < 1 then (some false) else (if ((rd_T82 l1 x6_2).f2) > 8 then (some false) else ((r2_Find.f k2 l1 ((rd_T82 l1 x6_2).f0)).bind fun t258 => (if t258 = x6_2 then (r2_Heading.l0 k2 l1 (wrap64 (x5_2 + ((rd_T82 l1 x6_2).f2))) (wrap64 (x6_2 + 1))) else (some false))))))) else (some false)) = some r := H
        have A10 := Aside0.mk A100
        clear A100
        by_cases c11 : t257 = true
        ·subst c11
         have H1 : (if ((rd_T82 l1 x6_2).f1) < 0 then (some false) else (if ((rd_T82 l1 x6_2).f1) > 47 then (some false) else (if ((rd_T82 l1 x6_2).f2) < 1 then (some false) else (if ((rd_T82 l1 x6_2).f2) > 8 then (some false) else ((r2_Find.f k2 l1 ((rd_T82 l1 x6_2).f0)).bind fun t258 => (if t258 = x6_2 then (r2_Heading.l0 k2 l1 (wrap64 (x5_2 + ((rd_T82 l1 x6_2).f2))) (wrap64 (x6_2 + 1))) else (some false))))))) = some r := by rw [if_pos rfl] at H; exact H
         clear H
         have H := H1
         clear H1
         by_cases c12 : ((rd_T82 l1 x6_2).f1) < 0
         ·rw [if_pos c12] at H
          have c12b0 : decide (((rd_T82 l1 x6_2).f1) < 0) = true := decide_eq_true c12
          clear c12
          obtain rfl := Option.some.inj H
          have p255 : 0 ≤ (x6_2 : Int) := of_decide_eq_true (by first | (with_reducible assumption) | assumption)
          have q255 : x6_2 < (l1.length : Int) := of_decide_eq_true (by first | (with_reducible assumption) | assumption)
          obtain ⟨ad255, e255, hx255_0, hx255_1, hx255_2⟩ := at_T82 HR1.out x6_2 p255 q255
          cases e255
          replace hx255_0 := bcell HB.out hx255_0
          replace hx255_1 := bcell HB.out hx255_1
          replace hx255_2 := bcell HB.out hx255_2
          replace p255 := eq_true p255
          replace q255 := eq_true q255
          go_wp2_with (first | ((with_reducible refine gate_dst (N := 7) rfl ?_); (try (refine gate_guard (by rfl) ?_; dsimp only)); refine box_event ?hg (N := 7) ?hd (cs := #[.string (⟨#[]⟩ : ByteArray), .int .i64 0, .int .i64 0]) (t := 82) ?hr ?_; (case hd => rfl); (case hg => rfl); (case hr => first | (go_simp; done) | (go_simp; rfl)); intro gb256 hg w13 hbox hb; have n0_ := Aside0.mk (bsp (by repeat (first | (with_reducible first | exact HB.out | apply bal | apply bdN | apply bd1) | exact HB.out)) hb); have n1_ := Aside0.mk (hbox); have n2_ := Aside0.mk ((by rw [hg]; exact (bsz (by repeat (first | (with_reducible first | exact HB.out | apply bal | apply bdN | apply bd1) | exact HB.out))) : w.heap.size ≤ gb256)); have n3_ := Aside0.mk ((by rw [hg]; exact (bsz (by repeat (first | (with_reducible first | exact HB.out | apply bal | apply bdN | apply bd1) | exact HB.out))) : w.heap.size ≤ gb256)); clear HB; have HB := n0_; have BK256 := n1_; have GW256 := n2_; have GE256 := n3_; clear n0_ n1_ n2_ n3_; clear hb hbox hg; obtain ⟨hcz14_0, hcz14_1, hcz14_2, hfz14_0, hfz14_1, hfz14_2⟩ := cf3 BK256.out) | ((with_reducible refine gate_callee (f := 71) rfl ?_); refine goesL_ (some 33) rfl rfl Try.func71 (by kernel_rfl) rfl #[.string ((rd_T82 l1 x6_2).f0)] rfl (by (try simp only [List.map_toArray, List.map_cons, List.map_nil]); first | done | rfl | (simp only [List.length_drop, List.length_take]; rfl)) ?_; (with_reducible refine (r2_Name.calls k2 ((rd_T82 l1 x6_2).f0) true _ A10.out).mono ?_); rintro e w' ⟨rfl, ⟨nd, rfl⟩⟩; refine ⟨_, rfl, ?_⟩))
          go_ret
          exact ⟨by first | rfl | (simp [*] <;> rfl), by repeat (first | (with_reducible first | exact HB.out | apply bal | apply bdN | apply bd1 | refine bst ?_ GE256.out) | exact HB.out)⟩
         ·rw [if_neg c12] at H
          have c12b0 : decide (((rd_T82 l1 x6_2).f1) < 0) = false := decide_eq_false c12
          clear c12
          by_cases c15 : ((rd_T82 l1 x6_2).f1) > 47
          ·rw [if_pos c15] at H
           have c15b0 : decide (47 < ((rd_T82 l1 x6_2).f1)) = true := decide_eq_true c15
           clear c15
           obtain rfl := Option.some.inj H
           have p255 : 0 ≤ (x6_2 : Int) := of_decide_eq_true (by first | (with_reducible assumption) | assumption)
           have q255 : x6_2 < (l1.length : Int) := of_decide_eq_true (by first | (with_reducible assumption) | assumption)
           obtain ⟨ad255, e255, hx255_0, hx255_1, hx255_2⟩ := at_T82 HR1.out x6_2 p255 q255
           cases e255
           replace hx255_0 := bcell HB.out hx255_0
           replace hx255_1 := bcell HB.out hx255_1
           replace hx255_2 := bcell HB.out hx255_2
           replace p255 := eq_true p255
           replace q255 := eq_true q255
           go_wp2_with (first | ((with_reducible refine gate_dst (N := 7) rfl ?_); (try (refine gate_guard (by rfl) ?_; dsimp only)); refine box_event ?hg (N := 7) ?hd (cs := #[.string (⟨#[]⟩ : ByteArray), .int .i64 0, .int .i64 0]) (t := 82) ?hr ?_; (case hd => rfl); (case hg => rfl); (case hr => first | (go_simp; done) | (go_simp; rfl)); intro gb256 hg w16 hbox hb; have n0_ := Aside0.mk (bsp (by repeat (first | (with_reducible first | exact HB.out | apply bal | apply bdN | apply bd1) | exact HB.out)) hb); have n1_ := Aside0.mk (hbox); have n2_ := Aside0.mk ((by rw [hg]; exact (bsz (by repeat (first | (with_reducible first | exact HB.out | apply bal | apply bdN | apply bd1) | exact HB.out))) : w.heap.size ≤ gb256)); have n3_ := Aside0.mk ((by rw [hg]; exact (bsz (by repeat (first | (with_reducible first | exact HB.out | apply bal | apply bdN | apply bd1) | exact HB.out))) : w.heap.size ≤ gb256)); clear HB; have HB := n0_; have BK256 := n1_; have GW256 := n2_; have GE256 := n3_; clear n0_ n1_ n2_ n3_; clear hb hbox hg; obtain ⟨hcz17_0, hcz17_1, hcz17_2, hfz17_0, hfz17_1, hfz17_2⟩ := cf3 BK256.out) | ((with_reducible refine gate_callee (f := 71) rfl ?_); refine goesL_ (some 33) rfl rfl Try.func71 (by kernel_rfl) rfl #[.string ((rd_T82 l1 x6_2).f0)] rfl (by (try simp only [List.map_toArray, List.map_cons, List.map_nil]); first | done | rfl | (simp only [List.length_drop, List.length_take]; rfl)) ?_; (with_reducible refine (r2_Name.calls k2 ((rd_T82 l1 x6_2).f0) true _ A10.out).mono ?_); rintro e w' ⟨rfl, ⟨nd, rfl⟩⟩; refine ⟨_, rfl, ?_⟩))
           go_ret
           exact ⟨by first | rfl | (simp [*] <;> rfl), by repeat (first | (with_reducible first | exact HB.out | apply bal | apply bdN | apply bd1 | refine bst ?_ GE256.out) | exact HB.out)⟩
          ·rw [if_neg c15] at H
           have c15b0 : decide (47 < ((rd_T82 l1 x6_2).f1)) = false := decide_eq_false c15
           clear c15
           by_cases c18 : ((rd_T82 l1 x6_2).f2) < 1
           ·rw [if_pos c18] at H
            have c18b0 : decide (((rd_T82 l1 x6_2).f2) < 1) = true := decide_eq_true c18
            clear c18
            obtain rfl := Option.some.inj H
            have p255 : 0 ≤ (x6_2 : Int) := of_decide_eq_true (by first | (with_reducible assumption) | assumption)
            have q255 : x6_2 < (l1.length : Int) := of_decide_eq_true (by first | (with_reducible assumption) | assumption)
            obtain ⟨ad255, e255, hx255_0, hx255_1, hx255_2⟩ := at_T82 HR1.out x6_2 p255 q255
            cases e255
            replace hx255_0 := bcell HB.out hx255_0
            replace hx255_1 := bcell HB.out hx255_1
            replace hx255_2 := bcell HB.out hx255_2
            replace p255 := eq_true p255
            replace q255 := eq_true q255
            go_wp2_with (first | ((with_reducible refine gate_dst (N := 7) rfl ?_); (try (refine gate_guard (by rfl) ?_; dsimp only)); refine box_event ?hg (N := 7) ?hd (cs := #[.string (⟨#[]⟩ : ByteArray), .int .i64 0, .int .i64 0]) (t := 82) ?hr ?_; (case hd => rfl); (case hg => rfl); (case hr => first | (go_simp; done) | (go_simp; rfl)); intro gb256 hg w19 hbox hb; have n0_ := Aside0.mk (bsp (by repeat (first | (with_reducible first | exact HB.out | apply bal | apply bdN | apply bd1) | exact HB.out)) hb); have n1_ := Aside0.mk (hbox); have n2_ := Aside0.mk ((by rw [hg]; exact (bsz (by repeat (first | (with_reducible first | exact HB.out | apply bal | apply bdN | apply bd1) | exact HB.out))) : w.heap.size ≤ gb256)); have n3_ := Aside0.mk ((by rw [hg]; exact (bsz (by repeat (first | (with_reducible first | exact HB.out | apply bal | apply bdN | apply bd1) | exact HB.out))) : w.heap.size ≤ gb256)); clear HB; have HB := n0_; have BK256 := n1_; have GW256 := n2_; have GE256 := n3_; clear n0_ n1_ n2_ n3_; clear hb hbox hg; obtain ⟨hcz20_0, hcz20_1, hcz20_2, hfz20_0, hfz20_1, hfz20_2⟩ := cf3 BK256.out) | ((with_reducible refine gate_callee (f := 71) rfl ?_); refine goesL_ (some 33) rfl rfl Try.func71 (by kernel_rfl) rfl #[.string ((rd_T82 l1 x6_2).f0)] rfl (by (try simp only [List.map_toArray, List.map_cons, List.map_nil]); first | done | rfl | (simp only [List.length_drop, List.length_take]; rfl)) ?_; (with_reducible refine (r2_Name.calls k2 ((rd_T82 l1 x6_2).f0) true _ A10.out).mono ?_); rintro e w' ⟨rfl, ⟨nd, rfl⟩⟩; refine ⟨_, rfl, ?_⟩))
            go_ret
            exact ⟨by first | rfl | (simp [*] <;> rfl), by repeat (first | (with_reducible first | exact HB.out | apply bal | apply bdN | apply bd1 | refine bst ?_ GE256.out) | exact HB.out)⟩
           ·rw [if_neg c18] at H
            have c18b0 : decide (((rd_T82 l1 x6_2).f2) < 1) = false := decide_eq_false c18
            clear c18
            by_cases c21 : ((rd_T82 l1 x6_2).f2) > 8
            ·rw [if_pos c21] at H
             have c21b0 : decide (8 < ((rd_T82 l1 x6_2).f2)) = true := decide_eq_true c21
             clear c21
             obtain rfl := Option.some.inj H
             have p255 : 0 ≤ (x6_2 : Int) := of_decide_eq_true (by first | (with_reducible assumption) | assumption)
             have q255 : x6_2 < (l1.length : Int) := of_decide_eq_true (by first | (with_reducible assumption) | assumption)
             obtain ⟨ad255, e255, hx255_0, hx255_1, hx255_2⟩ := at_T82 HR1.out x6_2 p255 q255
             cases e255
             replace hx255_0 := bcell HB.out hx255_0
             replace hx255_1 := bcell HB.out hx255_1
             replace hx255_2 := bcell HB.out hx255_2
             replace p255 := eq_true p255
             replace q255 := eq_true q255
             go_wp2_with (first | ((with_reducible refine gate_dst (N := 7) rfl ?_); (try (refine gate_guard (by rfl) ?_; dsimp only)); refine box_event ?hg (N := 7) ?hd (cs := #[.string (⟨#[]⟩ : ByteArray), .int .i64 0, .int .i64 0]) (t := 82) ?hr ?_; (case hd => rfl); (case hg => rfl); (case hr => first | (go_simp; done) | (go_simp; rfl)); intro gb256 hg w22 hbox hb; have n0_ := Aside0.mk (bsp (by repeat (first | (with_reducible first | exact HB.out | apply bal | apply bdN | apply bd1) | exact HB.out)) hb); have n1_ := Aside0.mk (hbox); have n2_ := Aside0.mk ((by rw [hg]; exact (bsz (by repeat (first | (with_reducible first | exact HB.out | apply bal | apply bdN | apply bd1) | exact HB.out))) : w.heap.size ≤ gb256)); have n3_ := Aside0.mk ((by rw [hg]; exact (bsz (by repeat (first | (with_reducible first | exact HB.out | apply bal | apply bdN | apply bd1) | exact HB.out))) : w.heap.size ≤ gb256)); clear HB; have HB := n0_; have BK256 := n1_; have GW256 := n2_; have GE256 := n3_; clear n0_ n1_ n2_ n3_; clear hb hbox hg; obtain ⟨hcz23_0, hcz23_1, hcz23_2, hfz23_0, hfz23_1, hfz23_2⟩ := cf3 BK256.out) | ((with_reducible refine gate_callee (f := 71) rfl ?_); refine goesL_ (some 33) rfl rfl Try.func71 (by kernel_rfl) rfl #[.string ((rd_T82 l1 x6_2).f0)] rfl (by (try simp only [List.map_toArray, List.map_cons, List.map_nil]); first | done | rfl | (simp only [List.length_drop, List.length_take]; rfl)) ?_; (with_reducible refine (r2_Name.calls k2 ((rd_T82 l1 x6_2).f0) true _ A10.out).mono ?_); rintro e w' ⟨rfl, ⟨nd, rfl⟩⟩; refine ⟨_, rfl, ?_⟩))
             go_ret
             exact ⟨by first | rfl | (simp [*] <;> rfl), by repeat (first | (with_reducible first | exact HB.out | apply bal | apply bdN | apply bd1 | refine bst ?_ GE256.out) | exact HB.out)⟩
            ·rw [if_neg c21] at H
             have c21b0 : decide (8 < ((rd_T82 l1 x6_2).f2)) = false := decide_eq_false c21
             clear c21
             replace H := Option.bind_eq_some_iff.mp H
             obtain ⟨t258, A240, H⟩ := H
             replace H : (if t258 = x6_2 then (r2_Heading.l0 k2 l1 (wrap64 (x5_2 + ((rd_T82 l1 x6_2).f2))) (wrap64 (x6_2 + 1))) else (some false)) = some r := H
             have A24 := Aside0.mk A240
             clear A240
             by_cases c25 : t258 = x6_2
             ·rw [if_pos c25] at H
              have c25b0 : (t258 == x6_2) = true := beq_iff_eq.mpr c25
              have c25b1 : (t258 != x6_2) = false := bne_eq_false_iff_eq.mpr c25
              clear c25
              have H' := Aside0.mk H
              clear H
              have p255 : 0 ≤ (x6_2 : Int) := of_decide_eq_true (by first | (with_reducible assumption) | assumption)
              have q255 : x6_2 < (l1.length : Int) := of_decide_eq_true (by first | (with_reducible assumption) | assumption)
              obtain ⟨ad255, e255, hx255_0, hx255_1, hx255_2⟩ := at_T82 HR1.out x6_2 p255 q255
              cases e255
              replace hx255_0 := bcell HB.out hx255_0
              replace hx255_1 := bcell HB.out hx255_1
              replace hx255_2 := bcell HB.out hx255_2
              replace p255 := eq_true p255
              replace q255 := eq_true q255
              go_wp2_with (first | ((with_reducible refine gate_dst (N := 7) rfl ?_); (try (refine gate_guard (by rfl) ?_; dsimp only)); refine box_event ?hg (N := 7) ?hd (cs := #[.string (⟨#[]⟩ : ByteArray), .int .i64 0, .int .i64 0]) (t := 82) ?hr ?_; (case hd => rfl); (case hg => rfl); (case hr => first | (go_simp; done) | (go_simp; rfl)); intro gb256 hg w26 hbox hb; have n0_ := Aside0.mk (bsp (by repeat (first | (with_reducible first | exact HB.out | apply bal | apply bdN | apply bd1) | exact HB.out)) hb); have n1_ := Aside0.mk (hbox); have n2_ := Aside0.mk ((by rw [hg]; exact (bsz (by repeat (first | (with_reducible first | exact HB.out | apply bal | apply bdN | apply bd1) | exact HB.out))) : w.heap.size ≤ gb256)); have n3_ := Aside0.mk ((by rw [hg]; exact (bsz (by repeat (first | (with_reducible first | exact HB.out | apply bal | apply bdN | apply bd1) | exact HB.out))) : w.heap.size ≤ gb256)); clear HB; have HB := n0_; have BK256 := n1_; have GW256 := n2_; have GE256 := n3_; clear n0_ n1_ n2_ n3_; clear hb hbox hg; obtain ⟨hcz27_0, hcz27_1, hcz27_2, hfz27_0, hfz27_1, hfz27_2⟩ := cf3 BK256.out) | ((with_reducible refine gate_callee (f := 71) rfl ?_); refine goesL_ (some 33) rfl rfl Try.func71 (by kernel_rfl) rfl #[.string ((rd_T82 l1 x6_2).f0)] rfl (by (try simp only [List.map_toArray, List.map_cons, List.map_nil]); first | done | rfl | (simp only [List.length_drop, List.length_take]; rfl)) ?_; (with_reducible refine (r2_Name.calls k2 ((rd_T82 l1 x6_2).f0) true _ A10.out).mono ?_); rintro e w' ⟨rfl, ⟨nd, rfl⟩⟩; refine ⟨_, rfl, ?_⟩) | (go_at_call 72; (with_reducible refine (r2_Find.calls k2 _ _ l1 ((rd_T82 l1 x6_2).f0) t258 _ ?side1 ?side2 A24.out).mono ?_); (case side1 => exact Kd.C_below HR1.out (by repeat (first | (with_reducible first | exact HB.out | apply bal | apply bdN | apply bd1 | refine bst ?_ GE256.out) | exact HB.out))); (case side2 => exact HC1.out); rintro e w' ⟨rfl, ⟨nd, rfl⟩⟩))
              go_roundg k2
              case measure => have := HJ2.out; have := HK2.out; omega
              case rel => exact ⟨(wrap64 (x5_2 + ((rd_T82 l1 x6_2).f2))), (wrap64 (x6_2 + 1)), (by first | rfl | (simp; done) | (simp [*]; done)), (by first | rfl | (simp; done) | (simp [*]; done)), H', ⟨by have := HJ2.out; have := HK2.out; omega⟩, ⟨by repeat (first | (with_reducible first | exact HB.out | apply bal | apply bdN | apply bd1 | refine bst ?_ GE256.out) | exact HB.out)⟩⟩
             ·rw [if_neg c25] at H
              have c25b0 : (t258 == x6_2) = false := beq_eq_false_iff_ne.mpr c25
              have c25b1 : (t258 != x6_2) = true := bne_iff_ne.mpr c25
              obtain rfl := Option.some.inj H
              have p255 : 0 ≤ (x6_2 : Int) := of_decide_eq_true (by first | (with_reducible assumption) | assumption)
              have q255 : x6_2 < (l1.length : Int) := of_decide_eq_true (by first | (with_reducible assumption) | assumption)
              obtain ⟨ad255, e255, hx255_0, hx255_1, hx255_2⟩ := at_T82 HR1.out x6_2 p255 q255
              cases e255
              replace hx255_0 := bcell HB.out hx255_0
              replace hx255_1 := bcell HB.out hx255_1
              replace hx255_2 := bcell HB.out hx255_2
              replace p255 := eq_true p255
              replace q255 := eq_true q255
              go_wp2_with (first | ((with_reducible refine gate_dst (N := 7) rfl ?_); (try (refine gate_guard (by rfl) ?_; dsimp only)); refine box_event ?hg (N := 7) ?hd (cs := #[.string (⟨#[]⟩ : ByteArray), .int .i64 0, .int .i64 0]) (t := 82) ?hr ?_; (case hd => rfl); (case hg => rfl); (case hr => first | (go_simp; done) | (go_simp; rfl)); intro gb256 hg w28 hbox hb; have n0_ := Aside0.mk (bsp (by repeat (first | (with_reducible first | exact HB.out | apply bal | apply bdN | apply bd1) | exact HB.out)) hb); have n1_ := Aside0.mk (hbox); have n2_ := Aside0.mk ((by rw [hg]; exact (bsz (by repeat (first | (with_reducible first | exact HB.out | apply bal | apply bdN | apply bd1) | exact HB.out))) : w.heap.size ≤ gb256)); have n3_ := Aside0.mk ((by rw [hg]; exact (bsz (by repeat (first | (with_reducible first | exact HB.out | apply bal | apply bdN | apply bd1) | exact HB.out))) : w.heap.size ≤ gb256)); clear HB; have HB := n0_; have BK256 := n1_; have GW256 := n2_; have GE256 := n3_; clear n0_ n1_ n2_ n3_; clear hb hbox hg; obtain ⟨hcz29_0, hcz29_1, hcz29_2, hfz29_0, hfz29_1, hfz29_2⟩ := cf3 BK256.out) | ((with_reducible refine gate_callee (f := 71) rfl ?_); refine goesL_ (some 33) rfl rfl Try.func71 (by kernel_rfl) rfl #[.string ((rd_T82 l1 x6_2).f0)] rfl (by (try simp only [List.map_toArray, List.map_cons, List.map_nil]); first | done | rfl | (simp only [List.length_drop, List.length_take]; rfl)) ?_; (with_reducible refine (r2_Name.calls k2 ((rd_T82 l1 x6_2).f0) true _ A10.out).mono ?_); rintro e w' ⟨rfl, ⟨nd, rfl⟩⟩; refine ⟨_, rfl, ?_⟩) | (go_at_call 72; (with_reducible refine (r2_Find.calls k2 _ _ l1 ((rd_T82 l1 x6_2).f0) t258 _ ?side1 ?side2 A24.out).mono ?_); (case side1 => exact Kd.C_below HR1.out (by repeat (first | (with_reducible first | exact HB.out | apply bal | apply bdN | apply bd1 | refine bst ?_ GE256.out) | exact HB.out))); (case side2 => exact HC1.out); rintro e w' ⟨rfl, ⟨nd, rfl⟩⟩))
              go_ret
              exact ⟨by first | rfl | (simp [*] <;> rfl), by repeat (first | (with_reducible first | exact HB.out | apply bal | apply bdN | apply bd1 | refine bst ?_ GE256.out) | exact HB.out)⟩
        ·replace c11 := Bool.eq_false_iff.mpr c11
         subst c11
         have H1 : (some false) = some r := by rw [if_neg (show ¬ (false = true) by decide)] at H; exact H
         clear H
         have H := H1
         clear H1
         obtain rfl := Option.some.inj H
         have p255 : 0 ≤ (x6_2 : Int) := of_decide_eq_true (by first | (with_reducible assumption) | assumption)
         have q255 : x6_2 < (l1.length : Int) := of_decide_eq_true (by first | (with_reducible assumption) | assumption)
         obtain ⟨ad255, e255, hx255_0, hx255_1, hx255_2⟩ := at_T82 HR1.out x6_2 p255 q255
         cases e255
         replace hx255_0 := bcell HB.out hx255_0
         replace hx255_1 := bcell HB.out hx255_1
         replace hx255_2 := bcell HB.out hx255_2
         replace p255 := eq_true p255
         replace q255 := eq_true q255
         go_wp2_with (first | ((with_reducible refine gate_dst (N := 7) rfl ?_); (try (refine gate_guard (by rfl) ?_; dsimp only)); refine box_event ?hg (N := 7) ?hd (cs := #[.string (⟨#[]⟩ : ByteArray), .int .i64 0, .int .i64 0]) (t := 82) ?hr ?_; (case hd => rfl); (case hg => rfl); (case hr => first | (go_simp; done) | (go_simp; rfl)); intro gb256 hg w30 hbox hb; have n0_ := Aside0.mk (bsp (by repeat (first | (with_reducible first | exact HB.out | apply bal | apply bdN | apply bd1) | exact HB.out)) hb); have n1_ := Aside0.mk (hbox); have n2_ := Aside0.mk ((by rw [hg]; exact (bsz (by repeat (first | (with_reducible first | exact HB.out | apply bal | apply bdN | apply bd1) | exact HB.out))) : w.heap.size ≤ gb256)); have n3_ := Aside0.mk ((by rw [hg]; exact (bsz (by repeat (first | (with_reducible first | exact HB.out | apply bal | apply bdN | apply bd1) | exact HB.out))) : w.heap.size ≤ gb256)); clear HB; have HB := n0_; have BK256 := n1_; have GW256 := n2_; have GE256 := n3_; clear n0_ n1_ n2_ n3_; clear hb hbox hg; obtain ⟨hcz31_0, hcz31_1, hcz31_2, hfz31_0, hfz31_1, hfz31_2⟩ := cf3 BK256.out) | ((with_reducible refine gate_callee (f := 71) rfl ?_); refine goesL_ (some 33) rfl rfl Try.func71 (by kernel_rfl) rfl #[.string ((rd_T82 l1 x6_2).f0)] rfl (by (try simp only [List.map_toArray, List.map_cons, List.map_nil]); first | done | rfl | (simp only [List.length_drop, List.length_take]; rfl)) ?_; (with_reducible refine (r2_Name.calls k2 ((rd_T82 l1 x6_2).f0) false _ A10.out).mono ?_); rintro e w' ⟨rfl, ⟨nd, rfl⟩⟩; refine ⟨_, rfl, ?_⟩))
         go_ret
         exact ⟨by first | rfl | (simp [*] <;> rfl), by repeat (first | (with_reducible first | exact HB.out | apply bal | apply bdN | apply bd1 | refine bst ?_ GE256.out) | exact HB.out)⟩
       ·rw [if_neg c9] at H
        exact absurd H (by simp)
      ·rw [if_neg c8] at H
       have c8b0 : decide (x6_2 < (l1.length : Int)) = false := decide_eq_false c8
       clear c8
       obtain rfl := Option.some.inj H
       go_wp2
       go_ret
       exact ⟨by first | rfl | (simp [*] <;> rfl), by repeat (first | (with_reducible first | exact HB.out | apply bal | apply bdN | apply bd1) | exact HB.out)⟩
def takenB (s : ByteArray) : Bool := (r2_Taken.f s).getD true
theorem taken_some (s : ByteArray) : r2_Taken.f s = some (takenB s) := by
  unfold takenB r2_Taken.f
  repeat' split
  all_goals rfl
theorem nest11 (p1 p2 p3 p4 p5 p6 p7 p8 p9 p10 p11 : Prop) [Decidable p1] [Decidable p2] [Decidable p3] [Decidable p4] [Decidable p5] [Decidable p6] [Decidable p7] [Decidable p8] [Decidable p9] [Decidable p10] [Decidable p11] : (if p1 then some false else (if p2 then some false else (if p3 then some false else (if p4 then some false else (if p5 then some false else (if p6 then some false else (if p7 then some false else (if p8 then some false else (if p9 then some false else (if p10 then some false else (if p11 then some false else (some true)))))))))))) = some (!((if p1 then some true else (if p2 then some true else (if p3 then some true else (if p4 then some true else (if p5 then some true else (if p6 then some true else (if p7 then some true else (if p8 then some true else (if p9 then some true else (if p10 then some true else (if p11 then some true else (some false)))))))))))).getD true)) := by
  by_cases h1 : p1
  · simp [h1]
  by_cases h2 : p2
  · simp [h1, h2]
  by_cases h3 : p3
  · simp [h1, h2, h3]
  by_cases h4 : p4
  · simp [h1, h2, h3, h4]
  by_cases h5 : p5
  · simp [h1, h2, h3, h4, h5]
  by_cases h6 : p6
  · simp [h1, h2, h3, h4, h5, h6]
  by_cases h7 : p7
  · simp [h1, h2, h3, h4, h5, h6, h7]
  by_cases h8 : p8
  · simp [h1, h2, h3, h4, h5, h6, h7, h8]
  by_cases h9 : p9
  · simp [h1, h2, h3, h4, h5, h6, h7, h8, h9]
  by_cases h10 : p10
  · simp [h1, h2, h3, h4, h5, h6, h7, h8, h9, h10]
  by_cases h11 : p11
  · simp [h1, h2, h3, h4, h5, h6, h7, h8, h9, h10, h11]
  simp [h1, h2, h3, h4, h5, h6, h7, h8, h9, h10, h11]
def chOK (c : Int) : Bool := decide (97 ≤ c ∧ c ≤ 122) || (decide (48 ≤ c ∧ c ≤ 57) || decide (c = 95))
def allOK (s : ByteArray) : Nat → Nat → Bool
  | _, 0 => true
  | i, j + 1 => chOK (bt s (i : Int)) && allOK s (i + 1) j
theorem inName_eq (c : Int) : expr_inName.f c = some (chOK c) := by
  have e : (c == 95) = decide (c = 95) := by rw [Bool.eq_iff_iff, beq_iff_eq, decide_eq_true_iff]
  unfold expr_inName.f chOK
  rw [e]
  by_cases h1 : c ≥ 97
  · by_cases h2 : c ≤ 122
    · have : (97 ≤ c ∧ c ≤ 122) := ⟨h1, h2⟩
      simp [h1, h2]
    · have a1 : ¬ c ≤ 57 := by omega
      have a2 : c ≥ 48 := by omega
      simp [h1, h2, a1, a2]
  · by_cases h3 : c ≥ 48
    · by_cases h4 : c ≤ 57
      · simp [h1, h3, h4]
      · simp [h1, h3, h4]
    · simp [h1, h3]
theorem isName_loop (s : ByteArray) (hs : s.size ≤ 12) : ∀ j i : Nat, i + j = s.size → Tells (fun k => expr_isName.l0 k s (i : Int)) (allOK s i j && !takenB s)
  | 0, i, h => by
    refine Tells.succ ?_
    have hn : ¬ (i : Int) < (s.size : Int) := by omega
    simp only [expr_isName.l0, hn, if_false, allOK, Bool.true_and]
    refine ⟨0, fun k _ => ?_⟩
    unfold takenB r2_Taken.f
    exact nest11 _ _ _ _ _ _ _ _ _ _ _
  | j + 1, i, h => by
    refine Tells.succ ?_
    have hn : (i : Int) < (s.size : Int) := by omega
    have h0 : (0 : Int) ≤ (i : Int) := Int.natCast_nonneg _
    simp only [expr_isName.l0, hn, h0, if_true, allOK, inName_eq, Option.bind_some]
    rw [w64 (n := (i : Int) + 1) (by omega) (by omega), Bool.and_assoc]
    exact Tells.ifB (isName_loop s hs j (i + 1) (by omega))
theorem Name_loop (s : ByteArray) (hs : s.size ≤ 12) : ∀ j i : Nat, i + j = s.size → Tells (fun k => r2_Name.l0 k s (i : Int)) (allOK s i j)
  | 0, i, h => by
    refine Tells.succ ?_
    have hn : ¬ (i : Int) < (s.size : Int) := by omega
    simp only [r2_Name.l0, hn, if_false, allOK]
    exact Tells.pure _
  | j + 1, i, h => by
    refine Tells.succ ?_
    have hn : (i : Int) < (s.size : Int) := by omega
    have h0 : (0 : Int) ≤ (i : Int) := Int.natCast_nonneg _
    have ih := Name_loop s hs j (i + 1) (by omega)
    simp only [r2_Name.l0, hn, h0, if_true, allOK, r2_letter.f, r2_digit.f]
    rw [w64 (n := (i : Int) + 1) (by omega) (by omega)]
    have ih' : Tells (fun k => r2_Name.l0 k s ((i : Int) + 1)) (allOK s (i + 1) j) := ih
    generalize bt s (i : Int) = c
    unfold chOK
    by_cases h1 : c ≥ 97
    · by_cases h2 : c ≤ 122
      · have e : decide (97 ≤ c ∧ c ≤ 122) = true := decide_eq_true ⟨h1, h2⟩
        simp only [h1, h2, if_true, decide_true, Option.bind_some, Bool.true_or, Bool.true_and, and_self]
        exact ih'
      · have a1 : ¬ c ≤ 57 := by omega
        have a2 : c ≥ 48 := by omega
        have a3 : ¬ c = 95 := by omega
        simp [h1, h2, a1, a2, a3]
        exact Tells.pure _
    · by_cases h3 : c ≥ 48
      · by_cases h4 : c ≤ 57
        · simp [h1, h3, h4]
          exact ih'
        · by_cases h5 : c = 95
          · subst h5
            simp
            exact ih'
          · simp [h1, h3, h4, h5]
            exact Tells.pure _
      · have h5 : ¬ c = 95 := by omega
        simp [h1, h3, h5]
        exact Tells.pure _
def nameOK (s : ByteArray) : Bool := decide (1 ≤ s.size ∧ s.size ≤ 12) && (decide (97 ≤ bt s 0 ∧ bt s 0 ≤ 122) && (allOK s 0 s.size && !takenB s))
theorem bytes_nil (s : ByteArray) : s.toList = ([] : List UInt8) ↔ s.size = 0 := by
  rw [ByteArray.toList_eq]
  constructor
  · intro h
    have := congrArg List.length h
    simpa using this
  · intro h
    have : s.data.toList.length = 0 := by simpa using h
    exact List.length_eq_zero_iff.1 this
theorem isName_tells (s : ByteArray) : Tells (fun k => expr_isName.f k s) (nameOK s) := by
  have j0 : ∀ b : Bool, s.size ≤ 12 → Tells (fun k => expr_isName.j0 k s b) (!b && (allOK s 0 s.size && !takenB s)) := by
    intro b hs
    refine Tells.succ ?_
    simp only [expr_isName.j0]
    cases b
    · exact isName_loop s hs s.size 0 (by omega)
    · exact Tells.pure false
  have jt : Tells (fun k => expr_isName.j0 k s true) false := by
    refine Tells.succ ?_
    simp only [expr_isName.j0]
    exact Tells.pure false
  unfold expr_isName.f nameOK
  by_cases h0 : s.size = 0
  · rw [decide_eq_false (p := 1 ≤ s.size ∧ s.size ≤ 12) (by omega), Bool.false_and]
    exact Tells.ifT ((bytes_nil s).2 h0) jt
  · refine Tells.ifF (fun h => h0 ((bytes_nil s).1 h)) ?_
    by_cases h12 : (s.size : Int) > 12
    · rw [decide_eq_false (p := 1 ≤ s.size ∧ s.size ≤ 12) (by omega), Bool.false_and]
      exact Tells.ifT h12 jt
    · rw [decide_eq_true (p := 1 ≤ s.size ∧ s.size ≤ 12) (by omega), Bool.true_and]
      refine Tells.ifF h12 (Tells.ifT (by omega) ?_)
      by_cases h97 : bt s 0 < 97
      · rw [decide_eq_false (p := 97 ≤ bt s 0 ∧ bt s 0 ≤ 122) (by omega), Bool.false_and]
        exact Tells.ifT h97 jt
      · refine Tells.ifF h97 ?_
        have := j0 (decide (bt s 0 > 122)) (by omega)
        have e : (!decide (bt s 0 > 122)) = decide (97 ≤ bt s 0 ∧ bt s 0 ≤ 122) := by
          rw [← decide_not]
          exact decide_eq_decide.2 (by omega)
        rw [e] at this
        exact this
theorem Name_tells (s : ByteArray) : Tells (fun k => r2_Name.f k s) (nameOK s) := by
  have jt : Tells (fun k => r2_Name.j0 k s true) false := by
    refine Tells.succ ?_
    simp only [r2_Name.j0]
    exact Tells.pure false
  unfold r2_Name.f nameOK
  by_cases h0 : (s.size : Int) < 1
  · rw [decide_eq_false (p := 1 ≤ s.size ∧ s.size ≤ 12) (by omega), Bool.false_and]
    exact Tells.ifT h0 jt
  · refine Tells.ifF h0 ?_
    by_cases h12 : (s.size : Int) > 12
    · rw [decide_eq_false (p := 1 ≤ s.size ∧ s.size ≤ 12) (by omega), Bool.false_and]
      exact Tells.ifT h12 jt
    · rw [decide_eq_true (p := 1 ≤ s.size ∧ s.size ≤ 12) (by omega), Bool.true_and]
      refine Tells.ifF h12 (Tells.ifT (by omega) ?_)
      have hl : r2_letter.f (bt s 0) = some (decide (97 ≤ bt s 0 ∧ bt s 0 ≤ 122)) := by
        unfold r2_letter.f
        by_cases h : bt s 0 ≥ 97
        · rw [if_pos h]; congr 1; exact decide_eq_decide.2 (by omega)
        · rw [if_neg h]; congr 1; exact (decide_eq_false (by omega)).symm
      rw [hl]
      refine Tells.bind (Tells.pure _) ?_
      by_cases hd : (97 ≤ bt s 0 ∧ bt s 0 ≤ 122)
      · rw [decide_eq_true hd, Bool.true_and]
        simp only [if_true]
        rw [taken_some]
        refine Tells.bind (Tells.pure _) (Tells.succ ?_)
        simp only [r2_Name.j0]
        cases takenB s
        · simp only [Bool.false_eq_true, if_false, Bool.not_false, Bool.and_true]
          exact Name_loop s (by omega) s.size 0 (by omega)
        · simp only [if_true, Bool.not_true, Bool.and_false]
          exact Tells.pure _
      · rw [decide_eq_false hd, Bool.false_and]
        exact jt
def varOK (v : S82) : Bool := nameOK v.f0 && (decide (0 ≤ v.f1 ∧ v.f1 ≤ 47) && decide (1 ≤ v.f2 ∧ v.f2 ≤ 8))
def metIn (pre : List S82) (s : ByteArray) : Bool := pre.any fun u => decide (u.f0.toList = s.toList)
def hOK : List S82 → List S82 → Int → Bool
  | _, [], sum => decide (sum ≤ 48)
  | pre, v :: r, sum => varOK v && (!(metIn pre v.f0) && hOK (pre ++ [v]) r (sum + v.f2))
def hIs (w : Int) (vars : List S82) : Bool := decide (1 ≤ w ∧ w ≤ 8) && (decide (1 ≤ vars.length ∧ vars.length ≤ 18) && hOK [] vars 0)
theorem met_metIn (ns : List ByteArray) (s : ByteArray) : met ns s = ns.any fun n => decide (n.toList = s.toList) := by
  unfold met
  congr 1
  funext n
  rw [ByteArray.toList_eq, ByteArray.toList_eq, Bool.eq_iff_iff, beq_iff_eq, decide_eq_true_iff]
theorem Heading_loop (vars : List S82) (hv : vars.length ≤ 18) : ∀ (suf pre : List S82) (ns : List ByteArray) (sum : Int), vars = pre ++ suf → (∀ s, met ns s = metIn pre s) → 0 ≤ sum → sum ≤ 8 * pre.length →
    Tells (fun k => expr_Heading.l0 k ns sum vars (pre.length : Int)) (okInt (hOK pre suf sum) 1) := by
  intro suf
  induction suf with
  | nil =>
    intro pre ns sum hvs hm h0 h8
    refine Tells.succ ?_
    subst hvs
    simp only [expr_Heading.l0, pre_nlt, if_false, hOK]
    by_cases h : sum ≤ 48
    · have : ¬ sum > 48 := by omega
      simp only [h, this, if_false, decide_true, if_true]
      exact Tells.pure _
    · have : sum > 48 := by omega
      simp only [h, this, if_true, decide_false]
      exact Tells.pure _
  | cons v r ih =>
    intro pre ns sum hvs hm h0 h8
    refine Tells.succ ?_
    have hl : pre.length + 1 + r.length ≤ 18 := by
      rw [hvs, List.length_append, List.length_cons] at hv
      omega
    have h2 := ih (pre ++ [v]) (v.f0 :: ns) (sum + v.f2) (by rw [hvs, pre_app])
    subst hvs
    simp only [expr_Heading.l0, pre_lt, pre_pos, if_true, rdV_mid, hOK]
    refine Tells.bind (isName_tells v.f0) ?_
    unfold varOK
    cases hn : nameOK v.f0
    · simp only [Bool.false_eq_true, if_false, Bool.false_and]
      exact Tells.pure _
    · simp only [if_true, Bool.true_and]
      rw [hm]
      cases hmt : metIn pre v.f0
      · simp only [Bool.false_eq_true, if_false, Bool.not_false, Bool.true_and]
        by_cases a1 : v.f1 < 0
        · rw [decide_eq_false (p := 0 ≤ v.f1 ∧ v.f1 ≤ 47) (by omega), Bool.false_and, Bool.false_and]
          exact Tells.ifT a1 (Tells.pure _)
        · refine Tells.ifF a1 ?_
          by_cases a2 : v.f1 > 47
          · rw [decide_eq_false (p := 0 ≤ v.f1 ∧ v.f1 ≤ 47) (by omega), Bool.false_and, Bool.false_and]
            exact Tells.ifT a2 (Tells.pure _)
          · refine Tells.ifF a2 ?_
            rw [decide_eq_true (p := 0 ≤ v.f1 ∧ v.f1 ≤ 47) (by omega), Bool.true_and]
            by_cases a3 : v.f2 < 1
            · rw [decide_eq_false (p := 1 ≤ v.f2 ∧ v.f2 ≤ 8) (by omega), Bool.false_and]
              exact Tells.ifT a3 (Tells.pure _)
            · refine Tells.ifF a3 ?_
              by_cases a4 : v.f2 > 8
              · rw [decide_eq_false (p := 1 ≤ v.f2 ∧ v.f2 ≤ 8) (by omega), Bool.false_and]
                exact Tells.ifT a4 (Tells.pure _)
              · refine Tells.ifF a4 ?_
                rw [decide_eq_true (p := 1 ≤ v.f2 ∧ v.f2 ≤ 8) (by omega), Bool.true_and, w64 (n := sum + v.f2) (by omega) (by omega), pre_next pre v r (by rw [List.length_append, List.length_cons]; omega)]
                refine h2 (fun s => ?_) (by omega) (by rw [List.length_append, List.length_singleton]; omega)
                have := hm s
                rw [met_metIn] at this ⊢
                unfold metIn at this ⊢
                rw [List.any_cons, List.any_append, this, Bool.or_comm]
                simp only [List.any_cons, List.any_nil, Bool.or_false]
      · simp only [if_true, Bool.not_true, Bool.false_and, Bool.and_false, Bool.false_eq_true, if_false]
        exact Tells.pure _
theorem Heading_tells (w : Int) (vars : List S82) : Tells (fun k => expr_Heading.f k w vars) (okInt (hIs w vars) 1) := by
  unfold expr_Heading.f hIs
  by_cases a1 : w < 1
  · rw [decide_eq_false (p := 1 ≤ w ∧ w ≤ 8) (by omega), Bool.false_and]
    exact Tells.ifT a1 (Tells.pure _)
  refine Tells.ifF a1 ?_
  by_cases a2 : w > 8
  · rw [decide_eq_false (p := 1 ≤ w ∧ w ≤ 8) (by omega), Bool.false_and]
    exact Tells.ifT a2 (Tells.pure _)
  refine Tells.ifF a2 ?_
  rw [decide_eq_true (p := 1 ≤ w ∧ w ≤ 8) (by omega), Bool.true_and]
  by_cases a3 : (vars.length : Int) < 1
  · rw [decide_eq_false (p := 1 ≤ vars.length ∧ vars.length ≤ 18) (by omega), Bool.false_and]
    exact Tells.ifT a3 (Tells.pure _)
  refine Tells.ifF a3 ?_
  by_cases a4 : (vars.length : Int) > 18
  · rw [decide_eq_false (p := 1 ≤ vars.length ∧ vars.length ≤ 18) (by omega), Bool.false_and]
    exact Tells.ifT a4 (Tells.pure _)
  refine Tells.ifF a4 ?_
  rw [decide_eq_true (p := 1 ≤ vars.length ∧ vars.length ≤ 18) (by omega), Bool.true_and]
  exact Heading_loop vars (by omega) vars [] [] 0 rfl (fun s => rfl) (by decide) (by simp)
theorem Find_loop (name : ByteArray) (tail : List S82) : ∀ (mid pre : List S82), (pre ++ (mid ++ tail)).length ≤ 18 → ∃ t, Tells (fun k => r2_Find.l0 k (pre ++ (mid ++ tail)) name (pre.length : Int)) t ∧
    ((∃ v r, tail = v :: r ∧ v.f0 = name) → (t = ((pre.length + mid.length : Nat) : Int) ↔ metIn mid name = false)) := by
  intro mid
  induction mid with
  | nil =>
    intro pre hl
    cases tail with
    | nil =>
      refine ⟨-1, Tells.succ ?_, fun ⟨_, _, h, _⟩ => by cases h⟩
      simp only [r2_Find.l0, List.append_nil, Int.lt_irrefl, if_false]
      exact Tells.pure _
    | cons v r =>
      by_cases he : v.f0.toList = name.toList
      · refine ⟨(pre.length : Int), Tells.succ ?_, fun _ => ?_⟩
        · simp only [r2_Find.l0, List.nil_append, pre_lt, pre_pos, if_true, rdV_mid, he]
          exact Tells.pure _
        · simp only [List.length_nil, Nat.add_zero, true_iff]
          rfl
      · have hl' : (pre ++ v :: r).length ≤ 18 := hl
        rw [List.length_append, List.length_cons] at hl'
        have go : ∀ (suf p1 : List S82), (p1 ++ suf).length ≤ 18 → ∃ t, Tells (fun k => r2_Find.l0 k (p1 ++ suf) name (p1.length : Int)) t := by
          intro suf
          induction suf with
          | nil =>
            intro p1 _
            refine ⟨-1, Tells.succ ?_⟩
            simp only [r2_Find.l0, pre_nlt, if_false]
            exact Tells.pure _
          | cons u q ihq =>
            intro p1 hp
            by_cases hu : u.f0.toList = name.toList
            · refine ⟨(p1.length : Int), Tells.succ ?_⟩
              simp only [r2_Find.l0, pre_lt, pre_pos, if_true, rdV_mid, hu]
              exact Tells.pure _
            · obtain ⟨t, ht⟩ := ihq (p1 ++ [u]) (by rw [← pre_app]; exact hp)
              refine ⟨t, Tells.succ ?_⟩
              simp only [r2_Find.l0, pre_lt, pre_pos, if_true, rdV_mid, hu, if_false]
              rw [pre_next p1 u q (by omega)]
              rw [← pre_app] at ht
              exact ht
        obtain ⟨t, ht⟩ := go (v :: r) pre hl
        exact ⟨t, ht, fun ⟨v', r', e, hv⟩ => by injection e with e1 e2; subst e1; rw [hv] at he; exact absurd rfl he⟩
  | cons u q ih =>
    intro pre hl
    have hl' : (pre ++ u :: (q ++ tail)).length ≤ 18 := hl
    by_cases hu : u.f0.toList = name.toList
    · refine ⟨(pre.length : Int), Tells.succ ?_, fun _ => ?_⟩
      · simp only [r2_Find.l0, List.cons_append, pre_lt, pre_pos, if_true, rdV_mid, hu]
        exact Tells.pure _
      · have : metIn (u :: q) name = true := by unfold metIn; rw [List.any_cons, decide_eq_true hu, Bool.true_or]
        rw [this]
        simp only [List.length_cons, Bool.true_eq_false, iff_false]
        omega
    · obtain ⟨t, ht, hq⟩ := ih (pre ++ [u]) (by rw [← pre_app]; exact hl')
      refine ⟨t, Tells.succ ?_, fun h => ?_⟩
      · simp only [r2_Find.l0, List.cons_append, pre_lt, pre_pos, if_true, rdV_mid, hu, if_false]
        rw [pre_next pre u (q ++ tail) (by omega)]
        rw [← pre_app] at ht
        exact ht
      · have := hq h
        have e : metIn (u :: q) name = metIn q name := by unfold metIn; rw [List.any_cons, decide_eq_false hu, Bool.false_or]
        rw [e, ← this, List.length_append, List.length_singleton, List.length_cons]
        constructor <;> intro h <;> omega
theorem RHeading_loop (vars : List S82) (hv : vars.length ≤ 18) : ∀ (suf pre : List S82) (sum : Int), vars = pre ++ suf → 0 ≤ sum → sum ≤ 8 * pre.length →
    Tells (fun k => r2_Heading.l0 k vars sum (pre.length : Int)) (hOK pre suf sum) := by
  intro suf
  induction suf with
  | nil =>
    intro pre sum hvs h0 h8
    refine Tells.succ ?_
    subst hvs
    simp only [r2_Heading.l0, pre_nlt, if_false, hOK]
    exact Tells.pure _
  | cons v r ih =>
    intro pre sum hvs h0 h8
    refine Tells.succ ?_
    have hl : pre.length + 1 + r.length ≤ 18 := by
      rw [hvs, List.length_append, List.length_cons] at hv
      omega
    have h2 := ih (pre ++ [v]) (sum + v.f2) (by rw [hvs, pre_app])
    obtain ⟨t, ht, hq⟩ := Find_loop v.f0 (v :: r) pre [] (by rw [List.nil_append, ← hvs]; exact hv)
    have hq' := hq ⟨v, r, rfl, rfl⟩
    rw [List.nil_append, ← hvs] at ht
    subst hvs
    simp only [r2_Heading.l0, pre_lt, pre_pos, if_true, rdV_mid, hOK]
    refine Tells.bind (Name_tells v.f0) ?_
    unfold varOK
    cases hn : nameOK v.f0
    · simp only [Bool.false_eq_true, if_false, Bool.false_and]
      exact Tells.pure _
    · simp only [if_true, Bool.true_and]
      by_cases a1 : v.f1 < 0
      · rw [decide_eq_false (p := 0 ≤ v.f1 ∧ v.f1 ≤ 47) (by omega), Bool.false_and, Bool.false_and]
        exact Tells.ifT a1 (Tells.pure _)
      · refine Tells.ifF a1 ?_
        by_cases a2 : v.f1 > 47
        · rw [decide_eq_false (p := 0 ≤ v.f1 ∧ v.f1 ≤ 47) (by omega), Bool.false_and, Bool.false_and]
          exact Tells.ifT a2 (Tells.pure _)
        · refine Tells.ifF a2 ?_
          rw [decide_eq_true (p := 0 ≤ v.f1 ∧ v.f1 ≤ 47) (by omega), Bool.true_and]
          by_cases a3 : v.f2 < 1
          · rw [decide_eq_false (p := 1 ≤ v.f2 ∧ v.f2 ≤ 8) (by omega), Bool.false_and]
            exact Tells.ifT a3 (Tells.pure _)
          · refine Tells.ifF a3 ?_
            by_cases a4 : v.f2 > 8
            · rw [decide_eq_false (p := 1 ≤ v.f2 ∧ v.f2 ≤ 8) (by omega), Bool.false_and]
              exact Tells.ifT a4 (Tells.pure _)
            · refine Tells.ifF a4 ?_
              rw [decide_eq_true (p := 1 ≤ v.f2 ∧ v.f2 ≤ 8) (by omega), Bool.true_and]
              refine Tells.bind (g := fun k => r2_Find.f k (pre ++ v :: r) v.f0) ht ?_
              by_cases hm : metIn pre v.f0 = false
              · rw [hm, Bool.not_false, Bool.true_and]
                have : t = (pre.length : Int) := by rw [hq'.2 hm]; simp
                refine Tells.ifT this ?_
                rw [w64 (n := sum + v.f2) (by omega) (by omega), pre_next pre v r (by rw [List.length_append, List.length_cons]; omega)]
                exact h2 (by omega) (by rw [List.length_append, List.length_singleton]; omega)
              · rw [Bool.not_eq_false] at hm
                rw [hm, Bool.not_true, Bool.false_and]
                refine Tells.ifF (fun e => ?_) (Tells.pure _)
                have := hq'.1 (by rw [e]; simp)
                rw [hm] at this
                cases this
theorem RHeading_tells (w : Int) (vars : List S82) : Tells (fun k => r2_Heading.f k w vars) (hIs w vars) := by
  have jt : Tells (fun k => r2_Heading.j0 k vars true) false := by
    refine Tells.succ ?_
    simp only [r2_Heading.j0]
    exact Tells.pure false
  unfold r2_Heading.f hIs
  have hw : r1_Width.f w = some (decide (1 ≤ w ∧ w ≤ 8)) := by
    unfold r1_Width.f
    by_cases h : w ≥ 1
    · rw [if_pos h]; congr 1; exact decide_eq_decide.2 (by omega)
    · rw [if_neg h]; congr 1; exact (decide_eq_false (by omega)).symm
  rw [hw]
  refine Tells.bind (Tells.pure _) ?_
  by_cases a1 : (1 ≤ w ∧ w ≤ 8)
  · rw [decide_eq_true a1, Bool.true_and]
    simp only [if_true]
    by_cases a3 : (vars.length : Int) < 1
    · rw [decide_eq_false (p := 1 ≤ vars.length ∧ vars.length ≤ 18) (by omega), Bool.false_and]
      exact Tells.ifT a3 jt
    refine Tells.ifF a3 (Tells.succ ?_)
    simp only [r2_Heading.j0]
    by_cases a4 : (vars.length : Int) > 18
    · rw [decide_eq_false (p := 1 ≤ vars.length ∧ vars.length ≤ 18) (by omega), Bool.false_and]
      exact Tells.ifT (decide_eq_true a4) (Tells.pure _)
    rw [decide_eq_true (p := 1 ≤ vars.length ∧ vars.length ≤ 18) (by omega), Bool.true_and]
    exact Tells.ifF (by rw [decide_eq_true_eq]; exact a4) (RHeading_loop vars (by omega) vars [] 0 rfl (by decide) (by simp))
  · rw [decide_eq_false a1, Bool.false_and]
    exact jt
theorem hOK_all : ∀ (suf pre : List S82) (sum : Int), hOK pre suf sum = true → (∀ v ∈ suf, varOK v = true) ∧ sum + (suf.map (·.f2)).sum ≤ 48
  | [], pre, sum, h => ⟨fun v hv => absurd hv (by simp), by simp only [hOK, decide_eq_true_eq] at h; simpa using h⟩
  | u :: r, pre, sum, h => by
    simp only [hOK, Bool.and_eq_true] at h
    obtain ⟨h1, h2⟩ := hOK_all r _ _ h.2.2
    refine ⟨fun v hv => ?_, ?_⟩
    · rcases List.mem_cons.1 hv with rfl | hv
      · exact h.1
      · exact h1 v hv
    · rw [List.map_cons, List.sum_cons]
      omega
theorem hIs_all {w : Int} {vars : List S82} (h : hIs w vars = true) : 1 ≤ w ∧ w ≤ 8 ∧ 1 ≤ vars.length ∧ vars.length ≤ 18 ∧ (∀ v ∈ vars, 0 ≤ v.f1 ∧ v.f1 ≤ 47 ∧ 1 ≤ v.f2 ∧ v.f2 ≤ 8) ∧ (vars.map (·.f2)).sum ≤ 48 := by
  unfold hIs at h
  simp only [Bool.and_eq_true, decide_eq_true_eq] at h
  obtain ⟨a, b, c⟩ := h
  obtain ⟨d, e⟩ := hOK_all vars [] 0 c
  refine ⟨a.1, a.2, b.1, b.2, fun v hv => ?_, by omega⟩
  have := d v hv
  unfold varOK at this
  simp only [Bool.and_eq_true, decide_eq_true_eq] at this
  omega
mutual
def prog_args.j0 : Nat → Int → Bool → Int → List (S82) → List (S47) → Int → Int → List (S96) → List (S47) → List (S47) → Option (Int)
 | 0, _, _, _, _, _, _, _, _, _, _ => none
 | k + 1, x5, x17, x115000, x115001, x115002, x116000, x116001, x116002, x116003, x116004 => if x17 = true then (if 0 ≤ x116001 then (if x116001 < (x115001.length : Int) then (prog_args.j1 k ((rd_T82 x115001 x116001).f2) x116000 x116001 x116002 x116003 x116004) else (none)) else (none)) else (prog_args.j1 k x5 x116000 x116001 x116002 x116003 x116004)
def prog_args.j1 : Nat → Int → Int → Int → List (S96) → List (S47) → List (S47) → Option (Int)
 | 0, _, _, _, _, _, _ => none
 | k + 1, x5, x116000, x116001, x116002, x116003, x116004 => if x116000 = 0 then (prog_args.j2 k x5 x116000 (x116000 == 0) x116000 x116001 x116002 x116003 x116004) else (prog_args.j2 k x5 x116000 (x116000 == 4) x116000 x116001 x116002 x116003 x116004)
def prog_args.j2 : Nat → Int → Int → Bool → Int → Int → List (S96) → List (S47) → List (S47) → Option (Int)
 | 0, _, _, _, _, _, _, _, _ => none
 | k + 1, x5, x26, x27, x116000, x116001, x116002, x116003, x116004 => if x27 = true then (if x116000 = 0 then (prog_args.j3 k x5 1) else (prog_args.j3 k x5 0)) else (if x26 = 3 then (if x116001 < 0 then (some (-1)) else (if x116001 > 47 then (some (-1)) else (some 1))) else (if x26 = 1 then (prog_args.j4 k (x26 == 1) x116000 x116001 x116002 x116003 x116004) else (if x26 = 2 then (prog_args.j4 k (x26 == 2) x116000 x116001 x116002 x116003 x116004) else (if x26 = 5 then (prog_args.j4 k (x26 == 5) x116000 x116001 x116002 x116003 x116004) else (prog_args.j4 k (x26 == 6) x116000 x116001 x116002 x116003 x116004)))))
def prog_args.j3 : Nat → Int → Int → Option (Int)
 | 0, _, _ => none
 | k + 1, x5, x6 => if x5 = 0 then (some (-1)) else (if x5 > 1 then (some (wrap64 (x6 + 1))) else (some x6))
def prog_args.j4 : Nat → Bool → Int → Int → List (S96) → List (S47) → List (S47) → Option (Int)
 | 0, _, _, _, _, _, _ => none
 | k + 1, x52, x116000, x116001, x116002, x116003, x116004 => if x52 = true then (if x116001 = 0 then (some 1) else (some (-1))) else (some (-1))
end
def prog_args.f (k : Nat) (a0_0 : Int) (l0_1 : List (S82)) (l0_2 : List (S47)) (a1_0 : Int) (a1_1 : Int) (l1_2 : List (S96)) (l1_3 : List (S47)) (l1_4 : List (S47)) : Option (Int) := if a1_1 ≥ 0 then (prog_args.j0 k 0 (decide (a1_1 < (l0_1.length : Int))) a0_0 l0_1 l0_2 a1_0 a1_1 l1_2 l1_3 l1_4) else (prog_args.j0 k 0 false a0_0 l0_1 l0_2 a1_0 a1_1 l1_2 l1_3 l1_4)
set_option maxHeartbeats 8000000 in
set_option maxRecDepth 100000 in
theorem prog_args.calls (k : Nat) (a0_0 : Int) (A0_1 : Option Addr) (c0_1 : Nat) (l0_1 : List (S82)) (A0_2 : Option Addr) (c0_2 : Nat) (l0_2 : List (S47)) (a1_0 : Int) (a1_1 : Int) (A1_2 : Option Addr) (c1_2 : Nat) (l1_2 : List (S96)) (A1_3 : Option Addr) (c1_3 : Nat) (l1_3 : List (S47)) (A1_4 : Option Addr) (c1_4 : Nat) (l1_4 : List (S47)) (r : Int) (w : World) (hr0_1 : Kd.C k82 w A0_1 l0_1.length l0_1) (hc0_1 : l0_1.length ≤ c0_1) (hr0_2 : Kd.C k47 w A0_2 l0_2.length l0_2) (hc0_2 : l0_2.length ≤ c0_2) (hr1_2 : Kd.C k96 w A1_2 l1_2.length l1_2) (hc1_2 : l1_2.length ≤ c1_2) (hr1_3 : Kd.C k47 w A1_3 l1_3.length l1_3) (hc1_3 : l1_3.length ≤ c1_3) (hr1_4 : Kd.C k47 w A1_4 l1_4.length l1_4) (hc1_4 : l1_4.length ≤ c1_4) (h : prog_args.f k a0_0 l0_1 l0_2 a1_0 a1_1 l1_2 l1_3 l1_4 = some r) :
  Calls Try.prog 91 #[.agg #[.int .i64 a0_0, .slice A0_1 l0_1.length c0_1, .slice A0_2 l0_2.length c0_2], .agg #[.int .i64 a1_0, .int .i64 a1_1, .slice A1_2 l1_2.length c1_2, .slice A1_3 l1_3.length c1_3, .slice A1_4 l1_4.length c1_4]] w fun e w' => e = .returned (.int .i64 r) ∧ Below w.heap.size w w' := by
 have hu25 := Try.underlying25
 have hu47 := Try.underlying47
 have HR0_1 := Aside0.mk hr0_1
 have HC0_1 := Aside0.mk hc0_1
 clear hr0_1 hc0_1
 have HR0_2 := Aside0.mk hr0_2
 have HC0_2 := Aside0.mk hc0_2
 clear hr0_2 hc0_2
 have HR1_2 := Aside0.mk hr1_2
 have HC1_2 := Aside0.mk hc1_2
 clear hr1_2 hc1_2
 have HR1_3 := Aside0.mk hr1_3
 have HC1_3 := Aside0.mk hc1_3
 clear hr1_3 hc1_3
 have HR1_4 := Aside0.mk hr1_4
 have HC1_4 := Aside0.mk hc1_4
 clear hr1_4 hc1_4
 have HB := Aside0.mk (Below.refl w.heap.size w)
 have H : (if a1_1 ≥ 0 then (prog_args.j0 k 0 (decide (a1_1 < (l0_1.length : Int))) a0_0 l0_1 l0_2 a1_0 a1_1 l1_2 l1_3 l1_4) else (prog_args.j0 k 0 false a0_0 l0_1 l0_2 a1_0 a1_1 l1_2 l1_3 l1_4)) = some r := h
 clear h
 have HC3 := Aside0.mk H
 clear H
 go_enter Try.func91, Try.ntmps91
 go_upto_region 2 with (first | ((with_reducible refine gate_dst (N := 2) rfl ?_); (try (refine gate_guard (by rfl) ?_; dsimp only)); refine box_event ?hg (N := 2) ?hd (cs := #[.int .i64 a0_0, .slice A0_1 l0_1.length c0_1, .slice A0_2 l0_2.length c0_2]) (t := 25) ?hr ?_; (case hd => rfl); (case hg => rfl); (case hr => first | (go_simp; done) | (go_simp; rfl)); intro gb114 hg w4 hbox hb; have n0_ := Aside0.mk (bsp (by repeat (first | (with_reducible first | exact HB.out | apply bal | apply bdN | apply bd1) | exact HB.out)) hb); have n1_ := Aside0.mk (hbox); have n2_ := Aside0.mk ((by rw [hg]; exact (bsz (by repeat (first | (with_reducible first | exact HB.out | apply bal | apply bdN | apply bd1) | exact HB.out))) : w.heap.size ≤ gb114)); have n3_ := Aside0.mk ((by rw [hg]; exact (bsz (by repeat (first | (with_reducible first | exact HB.out | apply bal | apply bdN | apply bd1) | exact HB.out))) : w.heap.size ≤ gb114)); clear HB; have HB := n0_; have BK114 := n1_; have GW114 := n2_; have GE114 := n3_; clear n0_ n1_ n2_ n3_; clear hb hbox hg) | ((with_reducible refine gate_dst (N := 3) rfl ?_); (try (refine gate_guard (by rfl) ?_; dsimp only)); refine box_event ?hg (N := 3) ?hd (cs := #[.int .i64 a1_0, .int .i64 a1_1, .slice A1_2 l1_2.length c1_2, .slice A1_3 l1_3.length c1_3, .slice A1_4 l1_4.length c1_4]) (t := 47) ?hr ?_; (case hd => rfl); (case hg => rfl); (case hr => first | (go_simp; done) | (go_simp; rfl)); intro gb115 hg w5 hbox hb; have n0_ := Aside0.mk (blk_below (g := gb114) (o := .cells #[.int .i64 a0_0, .slice A0_1 l0_1.length c0_1, .slice A0_2 l0_2.length c0_2] 25 (0, 0)) (by (with_reducible repeat (first | refine kdN ?_ _ | refine kdr ?_ | refine kal ?_ _)); exact BK114.out) hb); have n1_ := Aside0.mk (bsp (by repeat (first | (with_reducible first | exact HB.out | apply bal | apply bdN | apply bd1 | refine bst ?_ GE114.out) | exact HB.out)) hb); have n2_ := Aside0.mk (hbox); have n3_ := Aside0.mk ((by rw [hg]; exact (bsz (by repeat (first | (with_reducible first | exact HB.out | apply bal | apply bdN | apply bd1 | refine bst ?_ GE114.out) | exact HB.out))) : w.heap.size ≤ gb115)); have n4_ := Aside0.mk ((by rw [hg]; exact (bsz (by repeat (first | (with_reducible first | exact HB.out | apply bal | apply bdN | apply bd1 | refine bst ?_ GE114.out) | exact HB.out))) : w.heap.size ≤ gb115)); have n5_ := Aside0.mk ((by rw [hg]; exact Nat.ne_of_lt (blk_lt (g := gb114) (o := .cells #[.int .i64 a0_0, .slice A0_1 l0_1.length c0_1, .slice A0_2 l0_2.length c0_2] 25 (0, 0)) (by (with_reducible repeat (first | refine kdN ?_ _ | refine kdr ?_ | refine kal ?_ _)); exact BK114.out)) : gb114 ≠ gb115)); have n6_ := Aside0.mk ((by rw [hg]; exact Nat.ne_of_gt (blk_lt (g := gb114) (o := .cells #[.int .i64 a0_0, .slice A0_1 l0_1.length c0_1, .slice A0_2 l0_2.length c0_2] 25 (0, 0)) (by (with_reducible repeat (first | refine kdN ?_ _ | refine kdr ?_ | refine kal ?_ _)); exact BK114.out)) : gb115 ≠ gb114)); clear BK114; clear HB; have BK114 := n0_; have HB := n1_; have BK115 := n2_; have GW115 := n3_; have GE115 := n4_; have NB114_115 := n5_; have NB115_114 := n6_; clear n0_ n1_ n2_ n3_ n4_ n5_ n6_; clear hb hbox hg))
 (try simp only [Act.put, List.setIfInBounds_toArray, List.set_cons_zero, List.set_cons_succ])
 go_cut [17] (fun v17 wc => ∃ (kq : Nat) (x17_2 : Bool), v17 = .bool x17_2 ∧ Aside0 (prog_args.j0 kq 0 x17_2 a0_0 l0_1 l0_2 a1_0 a1_1 l1_2 l1_3 l1_4 = some r) ∧ Aside0 (kq ≤ k) ∧ Aside0 (wc.heap[gb114]? = some (.cells #[.int .i64 a0_0, (.slice A0_1 l0_1.length c0_1), (.slice A0_2 l0_2.length c0_2)] 25 (0, 0))) ∧ Aside0 (wc.heap[gb115]? = some (.cells #[.int .i64 a1_0, .int .i64 a1_1, (.slice A1_2 l1_2.length c1_2), (.slice A1_3 l1_3.length c1_3), (.slice A1_4 l1_4.length c1_4)] 47 (0, 0))) ∧ Aside0 (Below w.heap.size w wc))
 case first =>
  have H := HC3.out
  clear HC3
  by_cases c6 : a1_1 ≥ 0
  ·rw [if_pos c6] at H
   have c6b0 : decide (0 ≤ a1_1) = true := decide_eq_true c6
   clear c6
   (first | rw [c6b0] | (simp only [i64_w, i32_w]; rw [c6b0]) | skip)
   have H' := Aside0.mk H
   clear H
   have hnb7 := NB115_114.out
   have hnc7 := NB114_115.out
   obtain ⟨hcz8_0, hcz8_1, hcz8_2, hcz8_3, hcz8_4, hfz8_0, hfz8_1, hfz8_2, hfz8_3, hfz8_4⟩ := cf5 BK115.out
   obtain ⟨hcz9_0, hcz9_1, hcz9_2, hfz9_0, hfz9_1, hfz9_2⟩ := cf3 BK114.out
   go_wp2
   go_meet
   case rel => exact ⟨_, (decide (a1_1 < (l0_1.length : Int))), (by first | rfl | (simp; done) | (simp [*]; done)), H', ⟨by first | omega | exact Nat.le_refl _⟩, ⟨by (with_reducible repeat (first | refine kdN ?_ _ | refine kdr ?_ | refine kal ?_ _)); exact BK114.out⟩, ⟨by (with_reducible repeat (first | refine kdN ?_ _ | refine kdr ?_ | refine kal ?_ _)); exact BK115.out⟩, ⟨by repeat (first | (with_reducible first | exact HB.out | apply bal | apply bdN | apply bd1 | refine bst ?_ GE114.out | refine bst ?_ GE115.out) | exact HB.out)⟩⟩
  ·rw [if_neg c6] at H
   have c6b0 : decide (0 ≤ a1_1) = false := decide_eq_false c6
   clear c6
   (first | rw [c6b0] | (simp only [i64_w, i32_w]; rw [c6b0]) | skip)
   have H' := Aside0.mk H
   clear H
   have hnb10 := NB115_114.out
   have hnc10 := NB114_115.out
   obtain ⟨hcz11_0, hcz11_1, hcz11_2, hcz11_3, hcz11_4, hfz11_0, hfz11_1, hfz11_2, hfz11_3, hfz11_4⟩ := cf5 BK115.out
   go_wp2
   go_meet
   case rel => exact ⟨_, (false), (by first | rfl | (simp; done) | (simp [*]; done)), H', ⟨by first | omega | exact Nat.le_refl _⟩, ⟨by (with_reducible repeat (first | refine kdN ?_ _ | refine kdr ?_ | refine kal ?_ _)); exact BK114.out⟩, ⟨by (with_reducible repeat (first | refine kdN ?_ _ | refine kdr ?_ | refine kal ?_ _)); exact BK115.out⟩, ⟨by repeat (first | (with_reducible first | exact HB.out | apply bal | apply bdN | apply bd1 | refine bst ?_ GE114.out | refine bst ?_ GE115.out) | exact HB.out)⟩⟩
 case rest =>
  clear HC3
  try clear c1
  try clear p2
  try clear c6
  try clear c6b0
  try clear c7
  try clear c9
  try clear c10
  try clear hcz11_0
  try clear hcz11_1
  try clear hcz11_2
  try clear hcz11_3
  try clear hcz11_4
  try clear hcz8_0
  try clear hcz8_1
  try clear hcz8_2
  try clear hcz8_3
  try clear hcz8_4
  try clear hcz9_0
  try clear hcz9_1
  try clear hcz9_2
  try clear hfz11_0
  try clear hfz11_1
  try clear hfz11_2
  try clear hfz11_3
  try clear hfz11_4
  try clear hfz8_0
  try clear hfz8_1
  try clear hfz8_2
  try clear hfz8_3
  try clear hfz8_4
  try clear hfz9_0
  try clear hfz9_1
  try clear hfz9_2
  obtain ⟨kq, x17_2, rfl, HA, HJ2, BK114, BK115, HB⟩ := hcut
  cases kq with
  | zero => exact absurd HA.out (by simp [prog_args.j0])
  | succ kj2 =>
   have H := HA.out
   clear HA
   simp only [prog_args.j0] at H
   have HC12 := Aside0.mk H
   clear H
   go_upto_if 17 with (fail)
   go_cut [5] (fun v5 wc => ∃ (kq : Nat) (x5_11 : Int), v5 = .int .i64 x5_11 ∧ Aside0 (prog_args.j1 kq x5_11 a1_0 a1_1 l1_2 l1_3 l1_4 = some r) ∧ Aside0 (kq ≤ kj2) ∧ Aside0 (wc.heap[gb114]? = some (.cells #[.int .i64 a0_0, (.slice A0_1 l0_1.length c0_1), (.slice A0_2 l0_2.length c0_2)] 25 (0, 0))) ∧ Aside0 (wc.heap[gb115]? = some (.cells #[.int .i64 a1_0, .int .i64 a1_1, (.slice A1_2 l1_2.length c1_2), (.slice A1_3 l1_3.length c1_3), (.slice A1_4 l1_4.length c1_4)] 47 (0, 0))) ∧ Aside0 (Below w.heap.size w wc))
   case first =>
    have H := HC12.out
    clear HC12
    by_cases c13 : x17_2 = true
    ·subst c13
     have H1 : (if 0 ≤ a1_1 then (if a1_1 < (l0_1.length : Int) then (prog_args.j1 kj2 ((rd_T82 l0_1 a1_1).f2) a1_0 a1_1 l1_2 l1_3 l1_4) else (none)) else (none)) = some r := by rw [if_pos rfl] at H; exact H
     clear H
     have H := H1
     clear H1
     by_cases c14 : 0 ≤ a1_1
     ·rw [if_pos c14] at H
      have c14b0 : decide (0 ≤ a1_1) = true := decide_eq_true c14
      clear c14
      (first | rw [c14b0] | (simp only [i64_w, i32_w]; rw [c14b0]) | skip)
      by_cases c15 : a1_1 < (l0_1.length : Int)
      ·rw [if_pos c15] at H
       have c15b0 : decide (a1_1 < (l0_1.length : Int)) = true := decide_eq_true c15
       clear c15
       have H' := Aside0.mk H
       clear H
       have hnb16 := NB114_115.out
       have hnc16 := NB115_114.out
       obtain ⟨hcz17_0, hcz17_1, hcz17_2, hfz17_0, hfz17_1, hfz17_2⟩ := cf3 BK114.out
       obtain ⟨hcz18_0, hcz18_1, hcz18_2, hcz18_3, hcz18_4, hfz18_0, hfz18_1, hfz18_2, hfz18_3, hfz18_4⟩ := cf5 BK115.out
       have p116 : 0 ≤ (a1_1 : Int) := of_decide_eq_true (by first | (with_reducible assumption) | assumption)
       have q116 : a1_1 < (l0_1.length : Int) := of_decide_eq_true (by first | (with_reducible assumption) | assumption)
       obtain ⟨ad116, e116, hx116_0, hx116_1, hx116_2⟩ := at_T82 HR0_1.out a1_1 p116 q116
       cases e116
       replace hx116_0 := bcell HB.out hx116_0
       replace hx116_1 := bcell HB.out hx116_1
       replace hx116_2 := bcell HB.out hx116_2
       replace p116 := eq_true p116
       replace q116 := eq_true q116
       go_wp2
       go_meet
       case rel => exact ⟨_, ((rd_T82 l0_1 a1_1).f2), (by first | rfl | (simp; done) | (simp [*]; done)), H', ⟨by have := HJ2.out; first | omega | exact Nat.le_refl _⟩, ⟨by (with_reducible repeat (first | refine kdN ?_ _ | refine kdr ?_ | refine kal ?_ _)); exact BK114.out⟩, ⟨by (with_reducible repeat (first | refine kdN ?_ _ | refine kdr ?_ | refine kal ?_ _)); exact BK115.out⟩, ⟨by repeat (first | (with_reducible first | exact HB.out | apply bal | apply bdN | apply bd1 | refine bst ?_ GE114.out | refine bst ?_ GE115.out) | exact HB.out)⟩⟩
      ·rw [if_neg c15] at H
       exact absurd H (by simp)
     ·rw [if_neg c14] at H
      exact absurd H (by simp)
    ·replace c13 := Bool.eq_false_iff.mpr c13
     subst c13
     have H1 : (prog_args.j1 kj2 0 a1_0 a1_1 l1_2 l1_3 l1_4) = some r := by rw [if_neg (show ¬ (false = true) by decide)] at H; exact H
     clear H
     have H := H1
     clear H1
     have H' := Aside0.mk H
     clear H
     go_wp2
     go_meet
     case rel => exact ⟨_, (0), (by first | rfl | (simp; done) | (simp [*]; done)), H', ⟨by have := HJ2.out; first | omega | exact Nat.le_refl _⟩, ⟨by (with_reducible repeat (first | refine kdN ?_ _ | refine kdr ?_ | refine kal ?_ _)); exact BK114.out⟩, ⟨by (with_reducible repeat (first | refine kdN ?_ _ | refine kdr ?_ | refine kal ?_ _)); exact BK115.out⟩, ⟨by repeat (first | (with_reducible first | exact HB.out | apply bal | apply bdN | apply bd1 | refine bst ?_ GE114.out | refine bst ?_ GE115.out) | exact HB.out)⟩⟩
   case rest =>
    clear HC12
    try clear c1
    try clear p1
    try clear q1
    try clear hx1
    try clear p2
    try clear c6
    try clear c6b0
    try clear c7
    try clear c9
    try clear c10
    try clear p11
    try clear q11
    try clear hx11
    try clear c13
    try clear c14
    try clear c14b0
    try clear c15
    try clear c15b0
    try clear c16
    try clear hcz11_0
    try clear hcz11_1
    try clear hcz11_2
    try clear hcz11_3
    try clear hcz11_4
    try clear hcz17_0
    try clear hcz17_1
    try clear hcz17_2
    try clear hcz18_0
    try clear hcz18_1
    try clear hcz18_2
    try clear hcz18_3
    try clear hcz18_4
    try clear hcz8_0
    try clear hcz8_1
    try clear hcz8_2
    try clear hcz8_3
    try clear hcz8_4
    try clear hcz9_0
    try clear hcz9_1
    try clear hcz9_2
    try clear hfz11_0
    try clear hfz11_1
    try clear hfz11_2
    try clear hfz11_3
    try clear hfz11_4
    try clear hfz17_0
    try clear hfz17_1
    try clear hfz17_2
    try clear hfz18_0
    try clear hfz18_1
    try clear hfz18_2
    try clear hfz18_3
    try clear hfz18_4
    try clear hfz8_0
    try clear hfz8_1
    try clear hfz8_2
    try clear hfz8_3
    try clear hfz8_4
    try clear hfz9_0
    try clear hfz9_1
    try clear hfz9_2
    try clear hx116_0
    try clear hx116_1
    try clear hx116_2
    try clear p116
    try clear p2
    try clear q116
    obtain ⟨kq, x5_11, rfl, HA, HJ11, BK114, BK115, HB⟩ := hcut
    cases kq with
    | zero => exact absurd HA.out (by simp [prog_args.j1])
    | succ kj11 =>
     have H := HA.out
     clear HA
     simp only [prog_args.j1] at H
     have HC19 := Aside0.mk H
     clear H
     have hnb20 := NB115_114.out
     have hnc20 := NB114_115.out
     obtain ⟨hcz21_0, hcz21_1, hcz21_2, hcz21_3, hcz21_4, hfz21_0, hfz21_1, hfz21_2, hfz21_3, hfz21_4⟩ := cf5 BK115.out
     go_upto_if 27 with (fail)
     go_cut [27] (fun v27 wc => ∃ (kq : Nat) (x27_18 : Bool), v27 = .bool x27_18 ∧ Aside0 (prog_args.j2 kq x5_11 a1_0 x27_18 a1_0 a1_1 l1_2 l1_3 l1_4 = some r) ∧ Aside0 (kq ≤ kj11) ∧ Aside0 (wc.heap[gb114]? = some (.cells #[.int .i64 a0_0, (.slice A0_1 l0_1.length c0_1), (.slice A0_2 l0_2.length c0_2)] 25 (0, 0))) ∧ Aside0 (wc.heap[gb115]? = some (.cells #[.int .i64 a1_0, .int .i64 a1_1, (.slice A1_2 l1_2.length c1_2), (.slice A1_3 l1_3.length c1_3), (.slice A1_4 l1_4.length c1_4)] 47 (0, 0))) ∧ Aside0 (Below w.heap.size w wc))
     case first =>
      have H := HC19.out
      clear HC19
      by_cases c22 : a1_0 = 0
      ·rw [if_pos c22] at H
       have c22b0 : (a1_0 == 0) = true := beq_iff_eq.mpr c22
       have c22b1 : (a1_0 != 0) = false := bne_eq_false_iff_eq.mpr c22
       clear c22
       (first | rw [c22b0] | (simp only [i64_w, i32_w]; rw [c22b0]) | skip)
       have H' := Aside0.mk H
       clear H
       go_wp2
       go_meet
       case rel => exact ⟨_, ((a1_0 == 0)), (by first | rfl | (simp; done) | (simp [*]; done)), H', ⟨by have := HJ2.out; have := HJ11.out; first | omega | exact Nat.le_refl _⟩, ⟨by (with_reducible repeat (first | refine kdN ?_ _ | refine kdr ?_ | refine kal ?_ _)); exact BK114.out⟩, ⟨by (with_reducible repeat (first | refine kdN ?_ _ | refine kdr ?_ | refine kal ?_ _)); exact BK115.out⟩, ⟨by repeat (first | (with_reducible first | exact HB.out | apply bal | apply bdN | apply bd1 | refine bst ?_ GE114.out | refine bst ?_ GE115.out) | exact HB.out)⟩⟩
      ·rw [if_neg c22] at H
       have c22b0 : (a1_0 == 0) = false := beq_eq_false_iff_ne.mpr c22
       have c22b1 : (a1_0 != 0) = true := bne_iff_ne.mpr c22
       (first | rw [c22b0] | (simp only [i64_w, i32_w]; rw [c22b0]) | skip)
       have H' := Aside0.mk H
       clear H
       go_wp2
       go_meet
       case rel => exact ⟨_, ((a1_0 == 4)), (by first | rfl | (simp; done) | (simp [*]; done)), H', ⟨by have := HJ2.out; have := HJ11.out; first | omega | exact Nat.le_refl _⟩, ⟨by (with_reducible repeat (first | refine kdN ?_ _ | refine kdr ?_ | refine kal ?_ _)); exact BK114.out⟩, ⟨by (with_reducible repeat (first | refine kdN ?_ _ | refine kdr ?_ | refine kal ?_ _)); exact BK115.out⟩, ⟨by repeat (first | (with_reducible first | exact HB.out | apply bal | apply bdN | apply bd1 | refine bst ?_ GE114.out | refine bst ?_ GE115.out) | exact HB.out)⟩⟩
     case rest =>
      clear HC19
      try clear c1
      try clear p1
      try clear q1
      try clear hx1
      try clear c2
      try clear p2
      try clear c6
      try clear c6b0
      try clear c7
      try clear c9
      try clear c10
      try clear p11
      try clear q11
      try clear hx11
      try clear c13
      try clear c14
      try clear c14b0
      try clear c15
      try clear c15b0
      try clear c16
      try clear c20
      try clear c22
      try clear c22b0
      try clear c22b1
      try clear hcz11_0
      try clear hcz11_1
      try clear hcz11_2
      try clear hcz11_3
      try clear hcz11_4
      try clear hcz17_0
      try clear hcz17_1
      try clear hcz17_2
      try clear hcz18_0
      try clear hcz18_1
      try clear hcz18_2
      try clear hcz18_3
      try clear hcz18_4
      try clear hcz21_0
      try clear hcz21_1
      try clear hcz21_2
      try clear hcz21_3
      try clear hcz21_4
      try clear hcz8_0
      try clear hcz8_1
      try clear hcz8_2
      try clear hcz8_3
      try clear hcz8_4
      try clear hcz9_0
      try clear hcz9_1
      try clear hcz9_2
      try clear hfz11_0
      try clear hfz11_1
      try clear hfz11_2
      try clear hfz11_3
      try clear hfz11_4
      try clear hfz17_0
      try clear hfz17_1
      try clear hfz17_2
      try clear hfz18_0
      try clear hfz18_1
      try clear hfz18_2
      try clear hfz18_3
      try clear hfz18_4
      try clear hfz21_0
      try clear hfz21_1
      try clear hfz21_2
      try clear hfz21_3
      try clear hfz21_4
      try clear hfz8_0
      try clear hfz8_1
      try clear hfz8_2
      try clear hfz8_3
      try clear hfz8_4
      try clear hfz9_0
      try clear hfz9_1
      try clear hfz9_2
      try clear hx116_0
      try clear hx116_1
      try clear hx116_2
      try clear p1
      try clear p11
      try clear p116
      try clear p2
      try clear q1
      try clear q11
      try clear q116
      obtain ⟨kq, x27_18, rfl, HA, HJ18, BK114, BK115, HB⟩ := hcut
      cases kq with
      | zero => exact absurd HA.out (by simp [prog_args.j2])
      | succ kj18 =>
       have H := HA.out
       clear HA
       simp only [prog_args.j2] at H
       by_cases c23 : x27_18 = true
       ·subst c23
        have H1 : (if a1_0 = 0 then (prog_args.j3 kj18 x5_11 1) else (prog_args.j3 kj18 x5_11 0)) = some r := by rw [if_pos rfl] at H; exact H
        clear H
        have H := H1
        clear H1
        have HC24 := Aside0.mk H
        clear H
        have hnb25 := NB115_114.out
        have hnc25 := NB114_115.out
        obtain ⟨hcz26_0, hcz26_1, hcz26_2, hcz26_3, hcz26_4, hfz26_0, hfz26_1, hfz26_2, hfz26_3, hfz26_4⟩ := cf5 BK115.out
        go_upto_if 32 with (fail)
        go_cut [6] (fun v6 wc => ∃ (kq : Nat) (x6_23 : Int), v6 = .int .i64 x6_23 ∧ Aside0 (prog_args.j3 kq x5_11 x6_23 = some r) ∧ Aside0 (kq ≤ kj18) ∧ Aside0 (wc.heap[gb114]? = some (.cells #[.int .i64 a0_0, (.slice A0_1 l0_1.length c0_1), (.slice A0_2 l0_2.length c0_2)] 25 (0, 0))) ∧ Aside0 (wc.heap[gb115]? = some (.cells #[.int .i64 a1_0, .int .i64 a1_1, (.slice A1_2 l1_2.length c1_2), (.slice A1_3 l1_3.length c1_3), (.slice A1_4 l1_4.length c1_4)] 47 (0, 0))) ∧ Aside0 (Below w.heap.size w wc))
        case first =>
         have H := HC24.out
         clear HC24
         by_cases c27 : a1_0 = 0
         ·rw [if_pos c27] at H
          have c27b0 : (a1_0 == 0) = true := beq_iff_eq.mpr c27
          have c27b1 : (a1_0 != 0) = false := bne_eq_false_iff_eq.mpr c27
          clear c27
          (first | rw [c27b0] | (simp only [i64_w, i32_w]; rw [c27b0]) | skip)
          have H' := Aside0.mk H
          clear H
          go_wp2
          go_meet
          case rel => exact ⟨_, (1), (by first | rfl | (simp; done) | (simp [*]; done)), H', ⟨by have := HJ2.out; have := HJ11.out; have := HJ18.out; first | omega | exact Nat.le_refl _⟩, ⟨by (with_reducible repeat (first | refine kdN ?_ _ | refine kdr ?_ | refine kal ?_ _)); exact BK114.out⟩, ⟨by (with_reducible repeat (first | refine kdN ?_ _ | refine kdr ?_ | refine kal ?_ _)); exact BK115.out⟩, ⟨by repeat (first | (with_reducible first | exact HB.out | apply bal | apply bdN | apply bd1 | refine bst ?_ GE114.out | refine bst ?_ GE115.out) | exact HB.out)⟩⟩
         ·rw [if_neg c27] at H
          have c27b0 : (a1_0 == 0) = false := beq_eq_false_iff_ne.mpr c27
          have c27b1 : (a1_0 != 0) = true := bne_iff_ne.mpr c27
          (first | rw [c27b0] | (simp only [i64_w, i32_w]; rw [c27b0]) | skip)
          have H' := Aside0.mk H
          clear H
          go_wp2
          go_meet
          case rel => exact ⟨_, (0), (by first | rfl | (simp; done) | (simp [*]; done)), H', ⟨by have := HJ2.out; have := HJ11.out; have := HJ18.out; first | omega | exact Nat.le_refl _⟩, ⟨by (with_reducible repeat (first | refine kdN ?_ _ | refine kdr ?_ | refine kal ?_ _)); exact BK114.out⟩, ⟨by (with_reducible repeat (first | refine kdN ?_ _ | refine kdr ?_ | refine kal ?_ _)); exact BK115.out⟩, ⟨by repeat (first | (with_reducible first | exact HB.out | apply bal | apply bdN | apply bd1 | refine bst ?_ GE114.out | refine bst ?_ GE115.out) | exact HB.out)⟩⟩
        case rest =>
         clear HC24
         try clear c1
         try clear p1
         try clear q1
         try clear hx1
         try clear c2
         try clear p2
         try clear c6
         try clear c6b0
         try clear c7
         try clear c9
         try clear c10
         try clear p11
         try clear q11
         try clear hx11
         try clear c13
         try clear c14
         try clear c14b0
         try clear c15
         try clear c15b0
         try clear c16
         try clear c20
         try clear c22
         try clear c22b0
         try clear c22b1
         try clear c23
         try clear c25
         try clear c27
         try clear c27b0
         try clear c27b1
         try clear hcz11_0
         try clear hcz11_1
         try clear hcz11_2
         try clear hcz11_3
         try clear hcz11_4
         try clear hcz17_0
         try clear hcz17_1
         try clear hcz17_2
         try clear hcz18_0
         try clear hcz18_1
         try clear hcz18_2
         try clear hcz18_3
         try clear hcz18_4
         try clear hcz21_0
         try clear hcz21_1
         try clear hcz21_2
         try clear hcz21_3
         try clear hcz21_4
         try clear hcz26_0
         try clear hcz26_1
         try clear hcz26_2
         try clear hcz26_3
         try clear hcz26_4
         try clear hcz8_0
         try clear hcz8_1
         try clear hcz8_2
         try clear hcz8_3
         try clear hcz8_4
         try clear hcz9_0
         try clear hcz9_1
         try clear hcz9_2
         try clear hfz11_0
         try clear hfz11_1
         try clear hfz11_2
         try clear hfz11_3
         try clear hfz11_4
         try clear hfz17_0
         try clear hfz17_1
         try clear hfz17_2
         try clear hfz18_0
         try clear hfz18_1
         try clear hfz18_2
         try clear hfz18_3
         try clear hfz18_4
         try clear hfz21_0
         try clear hfz21_1
         try clear hfz21_2
         try clear hfz21_3
         try clear hfz21_4
         try clear hfz26_0
         try clear hfz26_1
         try clear hfz26_2
         try clear hfz26_3
         try clear hfz26_4
         try clear hfz8_0
         try clear hfz8_1
         try clear hfz8_2
         try clear hfz8_3
         try clear hfz8_4
         try clear hfz9_0
         try clear hfz9_1
         try clear hfz9_2
         try clear hx116_0
         try clear hx116_1
         try clear hx116_2
         try clear p1
         try clear p11
         try clear p116
         try clear p2
         try clear q1
         try clear q11
         try clear q116
         obtain ⟨kq, x6_23, rfl, HA, HJ23, BK114, BK115, HB⟩ := hcut
         cases kq with
         | zero => exact absurd HA.out (by simp [prog_args.j3])
         | succ kj23 =>
          have H := HA.out
          clear HA
          simp only [prog_args.j3] at H
          by_cases c28 : x5_11 = 0
          ·rw [if_pos c28] at H
           have c28b0 : (x5_11 == 0) = true := beq_iff_eq.mpr c28
           have c28b1 : (x5_11 != 0) = false := bne_eq_false_iff_eq.mpr c28
           clear c28
           obtain rfl := Option.some.inj H
           go_wp2
           go_ret
           exact ⟨by first | rfl | (simp [*] <;> rfl), by repeat (first | (with_reducible first | exact HB.out | apply bal | apply bdN | apply bd1 | refine bst ?_ GE114.out | refine bst ?_ GE115.out) | exact HB.out)⟩
          ·rw [if_neg c28] at H
           have c28b0 : (x5_11 == 0) = false := beq_eq_false_iff_ne.mpr c28
           have c28b1 : (x5_11 != 0) = true := bne_iff_ne.mpr c28
           by_cases c29 : x5_11 > 1
           ·rw [if_pos c29] at H
            have c29b0 : decide (1 < x5_11) = true := decide_eq_true c29
            clear c29
            obtain rfl := Option.some.inj H
            go_wp2
            go_ret
            exact ⟨by first | rfl | (simp [*] <;> rfl), by repeat (first | (with_reducible first | exact HB.out | apply bal | apply bdN | apply bd1 | refine bst ?_ GE114.out | refine bst ?_ GE115.out) | exact HB.out)⟩
           ·rw [if_neg c29] at H
            have c29b0 : decide (1 < x5_11) = false := decide_eq_false c29
            clear c29
            obtain rfl := Option.some.inj H
            go_wp2
            go_ret
            exact ⟨by first | rfl | (simp [*] <;> rfl), by repeat (first | (with_reducible first | exact HB.out | apply bal | apply bdN | apply bd1 | refine bst ?_ GE114.out | refine bst ?_ GE115.out) | exact HB.out)⟩
       ·replace c23 := Bool.eq_false_iff.mpr c23
        subst c23
        have H1 : (if a1_0 = 3 then (if a1_1 < 0 then (some (-1)) else (if a1_1 > 47 then (some (-1)) else (some 1))) else (if a1_0 = 1 then (prog_args.j4 kj18 (a1_0 == 1) a1_0 a1_1 l1_2 l1_3 l1_4) else (if a1_0 = 2 then (prog_args.j4 kj18 (a1_0 == 2) a1_0 a1_1 l1_2 l1_3 l1_4) else (if a1_0 = 5 then (prog_args.j4 kj18 (a1_0 == 5) a1_0 a1_1 l1_2 l1_3 l1_4) else (prog_args.j4 kj18 (a1_0 == 6) a1_0 a1_1 l1_2 l1_3 l1_4))))) = some r := by rw [if_neg (show ¬ (false = true) by decide)] at H; exact H
        clear H
        have H := H1
        clear H1
        by_cases c30 : a1_0 = 3
        ·rw [if_pos c30] at H
         have c30b0 : (a1_0 == 3) = true := beq_iff_eq.mpr c30
         have c30b1 : (a1_0 != 3) = false := bne_eq_false_iff_eq.mpr c30
         clear c30
         by_cases c31 : a1_1 < 0
         ·rw [if_pos c31] at H
          have c31b0 : decide (a1_1 < 0) = true := decide_eq_true c31
          clear c31
          obtain rfl := Option.some.inj H
          have hnb32 := NB115_114.out
          have hnc32 := NB114_115.out
          obtain ⟨hcz33_0, hcz33_1, hcz33_2, hcz33_3, hcz33_4, hfz33_0, hfz33_1, hfz33_2, hfz33_3, hfz33_4⟩ := cf5 BK115.out
          go_wp2
          go_ret
          exact ⟨by first | rfl | (simp [*] <;> rfl), by repeat (first | (with_reducible first | exact HB.out | apply bal | apply bdN | apply bd1 | refine bst ?_ GE114.out | refine bst ?_ GE115.out) | exact HB.out)⟩
         ·rw [if_neg c31] at H
          have c31b0 : decide (a1_1 < 0) = false := decide_eq_false c31
          clear c31
          by_cases c34 : a1_1 > 47
          ·rw [if_pos c34] at H
           have c34b0 : decide (47 < a1_1) = true := decide_eq_true c34
           clear c34
           obtain rfl := Option.some.inj H
           have hnb35 := NB115_114.out
           have hnc35 := NB114_115.out
           obtain ⟨hcz36_0, hcz36_1, hcz36_2, hcz36_3, hcz36_4, hfz36_0, hfz36_1, hfz36_2, hfz36_3, hfz36_4⟩ := cf5 BK115.out
           go_wp2
           go_ret
           exact ⟨by first | rfl | (simp [*] <;> rfl), by repeat (first | (with_reducible first | exact HB.out | apply bal | apply bdN | apply bd1 | refine bst ?_ GE114.out | refine bst ?_ GE115.out) | exact HB.out)⟩
          ·rw [if_neg c34] at H
           have c34b0 : decide (47 < a1_1) = false := decide_eq_false c34
           clear c34
           obtain rfl := Option.some.inj H
           have hnb37 := NB115_114.out
           have hnc37 := NB114_115.out
           obtain ⟨hcz38_0, hcz38_1, hcz38_2, hcz38_3, hcz38_4, hfz38_0, hfz38_1, hfz38_2, hfz38_3, hfz38_4⟩ := cf5 BK115.out
           go_wp2
           go_ret
           exact ⟨by first | rfl | (simp [*] <;> rfl), by repeat (first | (with_reducible first | exact HB.out | apply bal | apply bdN | apply bd1 | refine bst ?_ GE114.out | refine bst ?_ GE115.out) | exact HB.out)⟩
        ·rw [if_neg c30] at H
         have c30b0 : (a1_0 == 3) = false := beq_eq_false_iff_ne.mpr c30
         have c30b1 : (a1_0 != 3) = true := bne_iff_ne.mpr c30
         have HC39 := Aside0.mk H
         clear H
         go_upto_if 52 with (fail)
         go_cut [52] (fun v52 wc => ∃ (kq : Nat) (x52_38 : Bool), v52 = .bool x52_38 ∧ Aside0 (prog_args.j4 kq x52_38 a1_0 a1_1 l1_2 l1_3 l1_4 = some r) ∧ Aside0 (kq ≤ kj18) ∧ Aside0 (wc.heap[gb114]? = some (.cells #[.int .i64 a0_0, (.slice A0_1 l0_1.length c0_1), (.slice A0_2 l0_2.length c0_2)] 25 (0, 0))) ∧ Aside0 (wc.heap[gb115]? = some (.cells #[.int .i64 a1_0, .int .i64 a1_1, (.slice A1_2 l1_2.length c1_2), (.slice A1_3 l1_3.length c1_3), (.slice A1_4 l1_4.length c1_4)] 47 (0, 0))) ∧ Aside0 (Below w.heap.size w wc))
         case first =>
          have H := HC39.out
          clear HC39
          by_cases c40 : a1_0 = 1
          ·rw [if_pos c40] at H
           have c40b0 : (a1_0 == 1) = true := beq_iff_eq.mpr c40
           have c40b1 : (a1_0 != 1) = false := bne_eq_false_iff_eq.mpr c40
           clear c40
           (first | rw [c40b0] | (simp only [i64_w, i32_w]; rw [c40b0]) | skip)
           have H' := Aside0.mk H
           clear H
           go_wp2
           go_meet
           case rel => exact ⟨_, ((a1_0 == 1)), (by first | rfl | (simp; done) | (simp [*]; done)), H', ⟨by have := HJ2.out; have := HJ11.out; have := HJ18.out; first | omega | exact Nat.le_refl _⟩, ⟨by (with_reducible repeat (first | refine kdN ?_ _ | refine kdr ?_ | refine kal ?_ _)); exact BK114.out⟩, ⟨by (with_reducible repeat (first | refine kdN ?_ _ | refine kdr ?_ | refine kal ?_ _)); exact BK115.out⟩, ⟨by repeat (first | (with_reducible first | exact HB.out | apply bal | apply bdN | apply bd1 | refine bst ?_ GE114.out | refine bst ?_ GE115.out) | exact HB.out)⟩⟩
          ·rw [if_neg c40] at H
           have c40b0 : (a1_0 == 1) = false := beq_eq_false_iff_ne.mpr c40
           have c40b1 : (a1_0 != 1) = true := bne_iff_ne.mpr c40
           (first | rw [c40b0] | (simp only [i64_w, i32_w]; rw [c40b0]) | skip)
           by_cases c41 : a1_0 = 2
           ·rw [if_pos c41] at H
            have c41b0 : (a1_0 == 2) = true := beq_iff_eq.mpr c41
            have c41b1 : (a1_0 != 2) = false := bne_eq_false_iff_eq.mpr c41
            clear c41
            have H' := Aside0.mk H
            clear H
            go_wp2
            go_meet
            case rel => exact ⟨_, ((a1_0 == 2)), (by first | rfl | (simp; done) | (simp [*]; done)), H', ⟨by have := HJ2.out; have := HJ11.out; have := HJ18.out; first | omega | exact Nat.le_refl _⟩, ⟨by (with_reducible repeat (first | refine kdN ?_ _ | refine kdr ?_ | refine kal ?_ _)); exact BK114.out⟩, ⟨by (with_reducible repeat (first | refine kdN ?_ _ | refine kdr ?_ | refine kal ?_ _)); exact BK115.out⟩, ⟨by repeat (first | (with_reducible first | exact HB.out | apply bal | apply bdN | apply bd1 | refine bst ?_ GE114.out | refine bst ?_ GE115.out) | exact HB.out)⟩⟩
           ·rw [if_neg c41] at H
            have c41b0 : (a1_0 == 2) = false := beq_eq_false_iff_ne.mpr c41
            have c41b1 : (a1_0 != 2) = true := bne_iff_ne.mpr c41
            by_cases c42 : a1_0 = 5
            ·rw [if_pos c42] at H
             have c42b0 : (a1_0 == 5) = true := beq_iff_eq.mpr c42
             have c42b1 : (a1_0 != 5) = false := bne_eq_false_iff_eq.mpr c42
             clear c42
             have H' := Aside0.mk H
             clear H
             go_wp2
             go_meet
             case rel => exact ⟨_, ((a1_0 == 5)), (by first | rfl | (simp; done) | (simp [*]; done)), H', ⟨by have := HJ2.out; have := HJ11.out; have := HJ18.out; first | omega | exact Nat.le_refl _⟩, ⟨by (with_reducible repeat (first | refine kdN ?_ _ | refine kdr ?_ | refine kal ?_ _)); exact BK114.out⟩, ⟨by (with_reducible repeat (first | refine kdN ?_ _ | refine kdr ?_ | refine kal ?_ _)); exact BK115.out⟩, ⟨by repeat (first | (with_reducible first | exact HB.out | apply bal | apply bdN | apply bd1 | refine bst ?_ GE114.out | refine bst ?_ GE115.out) | exact HB.out)⟩⟩
            ·rw [if_neg c42] at H
             have c42b0 : (a1_0 == 5) = false := beq_eq_false_iff_ne.mpr c42
             have c42b1 : (a1_0 != 5) = true := bne_iff_ne.mpr c42
             have H' := Aside0.mk H
             clear H
             go_wp2
             go_meet
             case rel => exact ⟨_, ((a1_0 == 6)), (by first | rfl | (simp; done) | (simp [*]; done)), H', ⟨by have := HJ2.out; have := HJ11.out; have := HJ18.out; first | omega | exact Nat.le_refl _⟩, ⟨by (with_reducible repeat (first | refine kdN ?_ _ | refine kdr ?_ | refine kal ?_ _)); exact BK114.out⟩, ⟨by (with_reducible repeat (first | refine kdN ?_ _ | refine kdr ?_ | refine kal ?_ _)); exact BK115.out⟩, ⟨by repeat (first | (with_reducible first | exact HB.out | apply bal | apply bdN | apply bd1 | refine bst ?_ GE114.out | refine bst ?_ GE115.out) | exact HB.out)⟩⟩
         case rest =>
          clear HC39
          try clear c1
          try clear p1
          try clear q1
          try clear hx1
          try clear c2
          try clear p2
          try clear c3
          try clear c4
          try clear c6
          try clear c6b0
          try clear c7
          try clear c9
          try clear c10
          try clear p11
          try clear q11
          try clear hx11
          try clear c13
          try clear c14
          try clear c14b0
          try clear c15
          try clear c15b0
          try clear c16
          try clear c20
          try clear c22
          try clear c22b0
          try clear c22b1
          try clear c23
          try clear c25
          try clear c27
          try clear c27b0
          try clear c27b1
          try clear c28
          try clear c28b0
          try clear c28b1
          try clear c29
          try clear c29b0
          try clear c30
          try clear c30b0
          try clear c30b1
          try clear c31
          try clear c31b0
          try clear c32
          try clear c34
          try clear c34b0
          try clear c35
          try clear c37
          try clear c40
          try clear c40b0
          try clear c40b1
          try clear c41
          try clear c41b0
          try clear c41b1
          try clear c42
          try clear c42b0
          try clear c42b1
          try clear hcz11_0
          try clear hcz11_1
          try clear hcz11_2
          try clear hcz11_3
          try clear hcz11_4
          try clear hcz17_0
          try clear hcz17_1
          try clear hcz17_2
          try clear hcz18_0
          try clear hcz18_1
          try clear hcz18_2
          try clear hcz18_3
          try clear hcz18_4
          try clear hcz21_0
          try clear hcz21_1
          try clear hcz21_2
          try clear hcz21_3
          try clear hcz21_4
          try clear hcz26_0
          try clear hcz26_1
          try clear hcz26_2
          try clear hcz26_3
          try clear hcz26_4
          try clear hcz33_0
          try clear hcz33_1
          try clear hcz33_2
          try clear hcz33_3
          try clear hcz33_4
          try clear hcz36_0
          try clear hcz36_1
          try clear hcz36_2
          try clear hcz36_3
          try clear hcz36_4
          try clear hcz38_0
          try clear hcz38_1
          try clear hcz38_2
          try clear hcz38_3
          try clear hcz38_4
          try clear hcz8_0
          try clear hcz8_1
          try clear hcz8_2
          try clear hcz8_3
          try clear hcz8_4
          try clear hcz9_0
          try clear hcz9_1
          try clear hcz9_2
          try clear hfz11_0
          try clear hfz11_1
          try clear hfz11_2
          try clear hfz11_3
          try clear hfz11_4
          try clear hfz17_0
          try clear hfz17_1
          try clear hfz17_2
          try clear hfz18_0
          try clear hfz18_1
          try clear hfz18_2
          try clear hfz18_3
          try clear hfz18_4
          try clear hfz21_0
          try clear hfz21_1
          try clear hfz21_2
          try clear hfz21_3
          try clear hfz21_4
          try clear hfz26_0
          try clear hfz26_1
          try clear hfz26_2
          try clear hfz26_3
          try clear hfz26_4
          try clear hfz33_0
          try clear hfz33_1
          try clear hfz33_2
          try clear hfz33_3
          try clear hfz33_4
          try clear hfz36_0
          try clear hfz36_1
          try clear hfz36_2
          try clear hfz36_3
          try clear hfz36_4
          try clear hfz38_0
          try clear hfz38_1
          try clear hfz38_2
          try clear hfz38_3
          try clear hfz38_4
          try clear hfz8_0
          try clear hfz8_1
          try clear hfz8_2
          try clear hfz8_3
          try clear hfz8_4
          try clear hfz9_0
          try clear hfz9_1
          try clear hfz9_2
          try clear hx116_0
          try clear hx116_1
          try clear hx116_2
          try clear p1
          try clear p11
          try clear p116
          try clear p2
          try clear q1
          try clear q11
          try clear q116
          obtain ⟨kq, x52_38, rfl, HA, HJ38, BK114, BK115, HB⟩ := hcut
          cases kq with
          | zero => exact absurd HA.out (by simp [prog_args.j4])
          | succ kj38 =>
           have H := HA.out
           clear HA
           simp only [prog_args.j4] at H
           by_cases c43 : x52_38 = true
           ·subst c43
            have H1 : (if a1_1 = 0 then (some 1) else (some (-1))) = some r := by rw [if_pos rfl] at H; exact H
            clear H
            have H := H1
            clear H1
            by_cases c44 : a1_1 = 0
            ·rw [if_pos c44] at H
             have c44b0 : (a1_1 == 0) = true := beq_iff_eq.mpr c44
             have c44b1 : (a1_1 != 0) = false := bne_eq_false_iff_eq.mpr c44
             clear c44
             obtain rfl := Option.some.inj H
             have hnb45 := NB115_114.out
             have hnc45 := NB114_115.out
             obtain ⟨hcz46_0, hcz46_1, hcz46_2, hcz46_3, hcz46_4, hfz46_0, hfz46_1, hfz46_2, hfz46_3, hfz46_4⟩ := cf5 BK115.out
             go_wp2
             go_ret
             exact ⟨by first | rfl | (simp [*] <;> rfl), by repeat (first | (with_reducible first | exact HB.out | apply bal | apply bdN | apply bd1 | refine bst ?_ GE114.out | refine bst ?_ GE115.out) | exact HB.out)⟩
            ·rw [if_neg c44] at H
             have c44b0 : (a1_1 == 0) = false := beq_eq_false_iff_ne.mpr c44
             have c44b1 : (a1_1 != 0) = true := bne_iff_ne.mpr c44
             obtain rfl := Option.some.inj H
             have hnb47 := NB115_114.out
             have hnc47 := NB114_115.out
             obtain ⟨hcz48_0, hcz48_1, hcz48_2, hcz48_3, hcz48_4, hfz48_0, hfz48_1, hfz48_2, hfz48_3, hfz48_4⟩ := cf5 BK115.out
             go_wp2
             go_ret
             exact ⟨by first | rfl | (simp [*] <;> rfl), by repeat (first | (with_reducible first | exact HB.out | apply bal | apply bdN | apply bd1 | refine bst ?_ GE114.out | refine bst ?_ GE115.out) | exact HB.out)⟩
           ·replace c43 := Bool.eq_false_iff.mpr c43
            subst c43
            have H1 : (some (-1)) = some r := by rw [if_neg (show ¬ (false = true) by decide)] at H; exact H
            clear H
            have H := H1
            clear H1
            obtain rfl := Option.some.inj H
            go_wp2
            go_ret
            exact ⟨by first | rfl | (simp [*] <;> rfl), by repeat (first | (with_reducible first | exact HB.out | apply bal | apply bdN | apply bd1 | refine bst ?_ GE114.out | refine bst ?_ GE115.out) | exact HB.out)⟩
def nestOk (op : Int) (t e : Nat) : Bool := (t == 0 || op == 1 || op == 2) && (e == 0 || op == 1)
theorem nestOk_cases (op : Int) (t e : Nat) :
    (nestOk op t e = false ∧ (((decide (0 < t) = true ∧ decide ((0 : Int) < (t : Int)) = true) ∧ (op != 1) = true ∧ (op != 2) = true) ∨ ((decide (0 < t) = true ∧ decide ((0 : Int) < (t : Int)) = true) ∧ (op != 1) = true ∧ (op != 2) = false ∧ (decide (0 < e) = true ∧ decide ((0 : Int) < (e : Int)) = true)) ∨ ((decide (0 < t) = false ∧ decide ((0 : Int) < (t : Int)) = false) ∧ (decide (0 < e) = true ∧ decide ((0 : Int) < (e : Int)) = true) ∧ (op != 1) = true))) ∨
    (nestOk op t e = true ∧ (((decide (0 < t) = true ∧ decide ((0 : Int) < (t : Int)) = true) ∧ (op != 1) = false ∧ (decide (0 < e) = false ∧ decide ((0 : Int) < (e : Int)) = false)) ∨ ((decide (0 < t) = true ∧ decide ((0 : Int) < (t : Int)) = true) ∧ (op != 1) = false ∧ (decide (0 < e) = true ∧ decide ((0 : Int) < (e : Int)) = true)) ∨ ((decide (0 < t) = true ∧ decide ((0 : Int) < (t : Int)) = true) ∧ (op != 1) = true ∧ (op != 2) = false ∧ (decide (0 < e) = false ∧ decide ((0 : Int) < (e : Int)) = false)) ∨ ((decide (0 < t) = false ∧ decide ((0 : Int) < (t : Int)) = false) ∧ (decide (0 < e) = false ∧ decide ((0 : Int) < (e : Int)) = false)) ∨ ((decide (0 < t) = false ∧ decide ((0 : Int) < (t : Int)) = false) ∧ (decide (0 < e) = true ∧ decide ((0 : Int) < (e : Int)) = true) ∧ (op != 1) = false))) := by
  unfold nestOk
  by_cases ht : t = 0 <;> by_cases he : e = 0 <;> by_cases h1 : op = 1 <;> by_cases h2 : op = 2 <;> simp [ht, he, h1, h2, Nat.pos_iff_ne_zero, Int.natCast_pos] <;> omega
mutual
def prog_count_fine.l1 : Nat → Int → List S82 → List S47 → List S47 → Int → Int → Int → Int → Int → Option (Bool × Int × Int)
  | 0, _, _, _, _, _, _, _, _, _ => none
  | k + 1, a0, l1, l2, l, deep, i, j, st, nd => if j < ((rd_T47 l i).f2.length : Int) then (if 0 ≤ j then ((expr_Check.f k a0 l1 1 (rd_T96 (rd_T47 l i).f2 j).f0 (rd_T96 (rd_T47 l i).f2 j).f1 (rd_T96 (rd_T47 l i).f2 j).f2 (rd_T96 (rd_T47 l i).f2 j).f3).bind fun t => if t = 0 then
        ((expr_Nodes.f k (rd_T96 (rd_T47 l i).f2 j).f0 (rd_T96 (rd_T47 l i).f2 j).f1 (rd_T96 (rd_T47 l i).f2 j).f2 (rd_T96 (rd_T47 l i).f2 j).f3).bind fun m => prog_count_fine.l1 k a0 l1 l2 l deep i (wrap64 (j + 1)) st (wrap64 (nd + m))) else some (false, st, nd)) else none)
      else (prog_count_fine.f k a0 l1 l2 (rd_T47 l i).f3 (wrap64 (deep + 1)) st nd).bind fun q => if q.1 = true then ((prog_count_fine.f k a0 l1 l2 (rd_T47 l i).f4 (wrap64 (deep + 1)) q.2.1 q.2.2).bind fun q2 => if q2.1 = true then prog_count_fine.l0 k a0 l1 l2 l deep (wrap64 (i + 1)) q2.2.1 q2.2.2 else some (false, q2.2.1, q2.2.2)) else some (false, q.2.1, q.2.2)
def prog_count_fine.l0 : Nat → Int → List S82 → List S47 → List S47 → Int → Int → Int → Int → Option (Bool × Int × Int)
  | 0, _, _, _, _, _, _, _, _ => none
  | k + 1, a0, l1, l2, l, deep, i, st, nd => if i < (l.length : Int) then (if 0 ≤ i then (if 400 < wrap64 (nd + 1) then some (false, wrap64 (st + 1), wrap64 (nd + 1)) else
      (prog_args.f k a0 l1 l2 (rd_T47 l i).f0 (rd_T47 l i).f1 (rd_T47 l i).f2 (rd_T47 l i).f3 (rd_T47 l i).f4).bind fun ar => if ar = ((rd_T47 l i).f2.length : Int) then
        (if nestOk (rd_T47 l i).f0 (rd_T47 l i).f3.length (rd_T47 l i).f4.length = true then prog_count_fine.l1 k a0 l1 l2 l deep i 0 (wrap64 (st + 1)) (wrap64 (nd + 1)) else some (false, wrap64 (st + 1), wrap64 (nd + 1))) else some (false, wrap64 (st + 1), wrap64 (nd + 1))) else none)
      else some (decide (nd ≤ 400), st, nd)
def prog_count_fine.f : Nat → Int → List S82 → List S47 → List S47 → Int → Int → Int → Option (Bool × Int × Int)
  | 0, _, _, _, _, _, _, _ => none
  | k + 1, a0, l1, l2, l, deep, st, nd => if (0 : Int) < (l.length : Int) then (if 16 < deep then some (false, st, nd) else prog_count_fine.l0 k a0 l1 l2 l deep 0 st nd) else prog_count_fine.l0 k a0 l1 l2 l deep 0 st nd
end
theorem cells2 {w : World} {g : Nat} {a b : Value} {t : TypeId} {fr : Nat × Nat} (h : w.heap[g]? = some (.cells #[a, b] t (0, 0))) : w.cell? ⟨g, 0, none⟩ = some a ∧ w.cell? ⟨g, 1, none⟩ = some b := ⟨(blk_cell h 0).trans rfl, (blk_cell h 1).trans rfl⟩
theorem cells3 {w : World} {g : Nat} {a b c : Value} {t : TypeId} (h : w.heap[g]? = some (.cells #[a, b, c] t (0, 0))) : w.cell? ⟨g, 0, none⟩ = some a ∧ w.cell? ⟨g, 1, none⟩ = some b ∧ w.cell? ⟨g, 2, none⟩ = some c := ⟨(blk_cell h 0).trans rfl, (blk_cell h 1).trans rfl, (blk_cell h 2).trans rfl⟩
theorem cells5 {w : World} {g : Nat} {a b c d e : Value} {t : TypeId} (h : w.heap[g]? = some (.cells #[a, b, c, d, e] t (0, 0))) : w.cell? ⟨g, 0, none⟩ = some a ∧ w.cell? ⟨g, 1, none⟩ = some b ∧ w.cell? ⟨g, 2, none⟩ = some c ∧ w.cell? ⟨g, 3, none⟩ = some d ∧ w.cell? ⟨g, 4, none⟩ = some e :=
  ⟨(blk_cell h 0).trans rfl, (blk_cell h 1).trans rfl, (blk_cell h 2).trans rfl, (blk_cell h 3).trans rfl, (blk_cell h 4).trans rfl⟩
theorem count_world {wr : World} {G p : Nat} {a b u v : Value} {t : TypeId} {oP : Obj} (hG : wr.heap[G]? = some (.cells #[a, b] t (0, 0))) (hP : wr.heap[p]? = some oP) (hne : p ≠ G) (o : Obj) :
    (((wr.setCell ⟨G, 0, none⟩ u).setCell ⟨G, 1, none⟩ v).alloc o).heap[G]? = some (.cells #[u, v] t (0, 0)) ∧ (((wr.setCell ⟨G, 0, none⟩ u).setCell ⟨G, 1, none⟩ v).alloc o).heap[p]? = some oP ∧
      (((wr.setCell ⟨G, 0, none⟩ u).setCell ⟨G, 1, none⟩ v).alloc o).heap[wr.heap.size]? = some o ∧ wr.grownBy (((wr.setCell ⟨G, 0, none⟩ u).setCell ⟨G, 1, none⟩ v).alloc o) (some G) ∧ wr.heap.size < (((wr.setCell ⟨G, 0, none⟩ u).setCell ⟨G, 1, none⟩ v).alloc o).heap.size := by
  have h1 : (wr.setCell ⟨G, 0, none⟩ u).heap[G]? = some (.cells #[u, b] t (0, 0)) := by simpa using blk_set hG 0 u
  have h2 : ((wr.setCell ⟨G, 0, none⟩ u).setCell ⟨G, 1, none⟩ v).heap[G]? = some (.cells #[u, v] t (0, 0)) := by simpa using blk_set h1 1 v
  refine ⟨kal h2 _, kal ((Below.heap_setCell _ _ _ _ hne).trans ((Below.heap_setCell _ _ _ _ hne).trans hP)) _, ?_, ?_, by simp⟩
  · have := heap_alloc_new ((wr.setCell ⟨G, 0, none⟩ u).setCell ⟨G, 1, none⟩ v) o
    simpa using this
  · refine ⟨rfl, rfl, rfl, by simp, fun i hi hne2 => ?_⟩
    have hne' : i ≠ G := fun e => hne2 (by rw [e])
    rw [Below.heap_alloc _ _ _ (by simpa using hi), Below.heap_setCell _ _ _ _ hne', Below.heap_setCell _ _ _ _ hne']
theorem undrew {w w' : World} (h : Below w.drew.heap.size w.drew w') : Below w.heap.size w w' := ⟨h.os, h.tape, h.output, h.size, h.block⟩
set_option maxHeartbeats 8000000 in
set_option maxRecDepth 100000 in
theorem prog_count_fine.calls (k : Nat) : ∀ (a0 : Int) (A1 : Option Addr) (c1 : Nat) (l1 : List S82) (A2 : Option Addr) (c2 : Nat) (l2 : List S47) (A : Option Addr) (c : Nat) (l : List S47) (deep st nd : Int) (G : Nat) (r : Bool) (st' nd' : Int) (w0 w : World)
    (hr1 : Kd.C k82 w0 A1 l1.length l1) (hc1 : l1.length ≤ c1) (hr2 : Kd.C k47 w0 A2 l2.length l2) (hc2 : l2.length ≤ c2) (hr : Kd.C k47 w0 A l.length l) (hc : l.length ≤ c) (hB : Below w0.heap.size w0 w) (hG0 : w0.heap.size ≤ G)
    (hG : w.heap[G]? = some (.cells #[.int .i64 st, .int .i64 nd] 90 (0, 0))) (h : prog_count_fine.f k a0 l1 l2 l deep st nd = some (r, st', nd')),
    Calls Try.prog 81 #[.pointer (some ⟨G, 0, none⟩), .agg #[.int .i64 a0, .slice A1 l1.length c1, .slice A2 l2.length c2], .slice A l.length c, .int .i64 deep] w fun e w' =>
      e = .returned (.bool r) ∧ w'.heap[G]? = some (.cells #[.int .i64 st', .int .i64 nd'] 90 (0, 0)) ∧ w.grownBy w' (some G) := by
  induction k using Nat.strongRecOn with
  | _ k ih =>
  intro a0 A1 c1 l1 A2 c2 l2 A c l deep st nd G r st' nd' w0 w hr1 hc1 hr2 hc2 hr hc hB hG0 hG h
  cases k with
  | zero => exact absurd h (by simp [prog_count_fine.f])
  | succ k =>
  simp only [prog_count_fine.f] at h
  have huP := Try.underlying25
  have huS := Try.underlying47
  have huC := Try.underlying90
  have HR1 := Aside0.mk hr1
  have HC1 := Aside0.mk hc1
  have HR2 := Aside0.mk hr2
  have HC2 := Aside0.mk hc2
  have HR := Aside0.mk hr
  have HC := Aside0.mk hc
  have HB := Aside0.mk hB
  have HG0 := Aside0.mk hG0
  have BG0 := Aside0.mk hG
  have hGl := blk_lt hG
  have ih' := Aside0.mk ih
  clear hr1 hc1 hr2 hc2 hr hc hB hG0 hG ih
  have HH : (0 < l.length ∧ decide (16 < deep) = true ∧ r = false ∧ st = st' ∧ nd = nd') ∨ (((0 < l.length ∧ decide (16 < deep) = false) ∨ l.length = 0) ∧ Aside0 (prog_count_fine.l0 k a0 l1 l2 l deep 0 st nd = some (r, st', nd'))) := by
    by_cases h0 : (0 : Int) < (l.length : Int)
    · rw [if_pos h0] at h
      rcases ite_b h with ⟨d, h⟩ | ⟨d, h⟩
      · injection (Option.some.inj h) with e1 e2
        injection e2 with e2 e3
        exact .inl ⟨by omega, d, e1.symm, e2, e3⟩
      · exact .inr ⟨.inl ⟨by omega, d⟩, ⟨h⟩⟩
    · rw [if_neg h0] at h
      exact .inr ⟨.inr (by omega), ⟨h⟩⟩
  clear h
  rcases HH with ⟨d0, d1, rfl, rfl, rfl⟩ | ⟨hd, HL⟩
  · have d0' : decide (0 < l.length) = true := decide_eq_true d0
    have d0'' : decide ((0 : Int) < (l.length : Int)) = true := decide_eq_true (by omega)
    go_enter Try.func81, Try.ntmps81
    go_wp2
    go_ret
    exact ⟨rfl, kal BG0.out _, World.grownBy_alloc _ _ _⟩
  have hd' : (decide (0 < l.length) = true ∧ decide ((0 : Int) < (l.length : Int)) = true ∧ decide (16 < deep) = false) ∨ (decide (0 < l.length) = false ∧ decide ((0 : Int) < (l.length : Int)) = false) := by
    rcases hd with ⟨d, d1⟩ | d
    · exact .inl ⟨decide_eq_true d, decide_eq_true (by omega), d1⟩
    · exact .inr ⟨decide_eq_false (by omega), decide_eq_false (by omega)⟩
  clear hd
  go_enter Try.func81, Try.ntmps81
  go_upto_region 1 with (fail)
  go_cut [19] (fun v19 wc => v19 = .bool false ∧ Aside0 (wc.heap[G]? = some (.cells #[.int .i64 st, .int .i64 nd] 90 (0, 0))) ∧ Aside0 (wc.heap[w.heap.size]? = some (.cells #[.int .i64 a0, .slice A1 l1.length c1, .slice A2 l2.length c2] 25 (0, 0))) ∧ Aside0 (w.grownBy wc (some G)))
  case first =>
    rcases hd' with ⟨d0, d1, d2⟩ | ⟨d0, d1⟩
    all_goals
      go_wp2
      go_meet
      case rel => exact ⟨rfl, ⟨kal BG0.out _⟩, ⟨heap_alloc_new _ _⟩, ⟨World.grownBy_alloc _ _ _⟩⟩
  case rest =>
    clear hd' BG0
    obtain ⟨rfl, BG0, BP0, GW0⟩ := hcut
    go_wp2
    go_loopg [22] k (fun kq v22 wl => ∃ (i s1 n1 : Int), v22 = .int .i64 i ∧ Aside0 (prog_count_fine.l0 kq a0 l1 l2 l deep i s1 n1 = some (r, st', nd')) ∧ Aside0 (kq ≤ k) ∧ Aside0 (wl.heap[G]? = some (.cells #[.int .i64 s1, .int .i64 n1] 90 (0, 0))) ∧
      Aside0 (wl.heap[w.heap.size]? = some (.cells #[.int .i64 a0, .slice A1 l1.length c1, .slice A2 l2.length c2] 25 (0, 0))) ∧ Aside0 (w.grownBy wl (some G)))
    case atStart => exact ⟨0, st, nd, rfl, HL, ⟨Nat.le_refl _⟩, BG0, BP0, GW0⟩
    case round =>
      clear HL BG0 BP0 GW0
      obtain ⟨i, s1, n1, rfl, HA, HK, BG, BP, GW⟩ := hrel
      cases gk with
      | zero => exact absurd HA.out (by simp [prog_count_fine.l0])
      | succ k1 =>
        have H := HA.out
        clear HA
        simp only [prog_count_fine.l0] at H
        have H2 := ite_b H
        clear H
        obtain ⟨hg0, hg1⟩ := cells2 (fr := (0, 0)) BG.out
        have hf0 := blk_frozen BG.out 0
        have hf1 := blk_frozen BG.out 1
        have hGlt := blk_lt BG.out
        have hPlt := blk_lt BP.out
        rcases H2 with ⟨t1, H⟩ | ⟨t1, H⟩
        case inr =>
          injection (Option.some.inj H) with e1 e2
          injection e2 with e2 e3
          subst e1 e2 e3
          clear H
          go_wp2
          go_ret
          exact ⟨rfl, BG.out, GW.out⟩
        have H2 := ite_b H
        clear H
        rcases H2 with ⟨t2, H⟩ | ⟨t2, H⟩
        case inr => exact absurd H (by simp)
        have p0 : 0 ≤ i := of_decide_eq_true t2
        have p1 : i < (l.length : Int) := of_decide_eq_true t1
        have B0 := Aside0.mk (below_gr HB.out GW.out HG0.out)
        obtain ⟨ad, B2, b2, B3, b3, B4, b4, e1, q0, q1, q2, q3, q4, ql2, qr2, ql3, qr3, ql4, qr4⟩ := at_T47 HR.out i p0 p1
        cases e1
        replace q0 := (B0.out.cell (World.block_lt_of_cell? w0 _ q0)).trans q0
        replace q1 := (B0.out.cell (World.block_lt_of_cell? w0 _ q1)).trans q1
        replace q2 := (B0.out.cell (World.block_lt_of_cell? w0 _ q2)).trans q2
        replace q3 := (B0.out.cell (World.block_lt_of_cell? w0 _ q3)).trans q3
        replace q4 := (B0.out.cell (World.block_lt_of_cell? w0 _ q4)).trans q4
        have QL2 := Aside0.mk ql2
        have QR2 := Aside0.mk qr2
        have QL3 := Aside0.mk ql3
        have QR3 := Aside0.mk qr3
        have QL4 := Aside0.mk ql4
        have QR4 := Aside0.mk qr4
        have hne : w.heap.size ≠ G := by omega
        have cw := count_world BG.out BP.out hne (.cells #[.int .i64 (rd_T47 l i).f0, .int .i64 (rd_T47 l i).f1, .slice B2 (rd_T47 l i).f2.length b2, .slice B3 (rd_T47 l i).f3.length b3, .slice B4 (rd_T47 l i).f4.length b4] 47) (u := .int .i64 (wrap64 (s1 + 1))) (v := .int .i64 (wrap64 (n1 + 1)))
        have hH := Aside0.mk H
        clear ql2 qr2 ql3 qr3 ql4 qr4 H
        have CW := Aside0.mk cw
        clear cw
        go_wp2
        have cw := CW.out
        clear CW
        generalize (((wr.setCell ⟨G, 0, none⟩ (.int .i64 (wrap64 (s1 + 1)))).setCell ⟨G, 1, none⟩ (.int .i64 (wrap64 (n1 + 1)))).alloc (.cells #[.int .i64 (rd_T47 l i).f0, .int .i64 (rd_T47 l i).f1, .slice B2 (rd_T47 l i).f2.length b2, .slice B3 (rd_T47 l i).f3.length b3, .slice B4 (rd_T47 l i).f4.length b4] 47)) = W1 at cw ⊢
        have H := hH.out
        clear hH
        generalize wrap64 (s1 + 1) = s2 at H cw ⊢
        generalize wrap64 (n1 + 1) = n2 at H cw ⊢
        obtain ⟨bG, bP, bS, gW1, hlt⟩ := cw
        obtain ⟨cG0, cG1⟩ := cells2 (fr := (0, 0)) bG
        obtain ⟨cP0, cP1, cP2⟩ := cells3 bP
        obtain ⟨cS0, cS1, cS2, cS3, cS4⟩ := cells5 bS
        have BG := Aside0.mk bG
        have BP := Aside0.mk bP
        have BS := Aside0.mk bS
        have GW := Aside0.mk (gtrans GW.out gW1)
        have B1 := Aside0.mk (below_gr HB.out GW.out HG0.out)
        clear bG bP bS gW1 hg0 hg1 hf0 hf1 q0 q1 q2 q3 q4 B0
        have H2 := ite_b H
        clear H
        rcases H2 with ⟨d1, H⟩ | ⟨d1, H⟩
        case inl =>
          injection (Option.some.inj H) with e1 e2
          injection e2 with e2 e3
          subst e1 e2 e3
          clear H
          go_quiet (fail)
          go_wp2
          go_ret
          exact ⟨rfl, BG.out, ⟨GW.out.os, GW.out.tape, GW.out.output, GW.out.size, GW.out.block⟩⟩
        replace H := Option.bind_eq_some_iff.mp H
        obtain ⟨ar, AR0, H⟩ := H
        have AR := Aside0.mk AR0
        clear AR0
        have H2 := ite_b H
        clear H
        rcases H2 with ⟨d3, H⟩ | ⟨d3, H⟩
        case inr =>
          injection (Option.some.inj H) with e1 e2
          injection e2 with e2 e3
          subst e1 e2 e3
          clear H
          have d3a : (ar == ((rd_T47 l i).f2.length : Int)) = false := beq_eq_false_iff_ne.mpr (of_decide_eq_false d3)
          have d3b : (ar != ((rd_T47 l i).f2.length : Int)) = true := bne_iff_ne.mpr (of_decide_eq_false d3)
          clear d3
          go_region_held3 (fun w' => Below W1.heap.size W1 w' ∧ w'.cell? ⟨G, 0, none⟩ = some (.int .i64 s2) ∧ w'.cell? ⟨G, 1, none⟩ = some (.int .i64 n2) ∧ w'.cell? ⟨w.heap.size, 0, none⟩ = some (.int .i64 a0) ∧ w'.cell? ⟨w.heap.size, 1, none⟩ = some (.slice A1 l1.length c1) ∧ w'.cell? ⟨w.heap.size, 2, none⟩ = some (.slice A2 l2.length c2) ∧
              w'.cell? ⟨wr.heap.size, 0, none⟩ = some (.int .i64 (rd_T47 l i).f0) ∧ w'.cell? ⟨wr.heap.size, 1, none⟩ = some (.int .i64 (rd_T47 l i).f1) ∧ w'.cell? ⟨wr.heap.size, 2, none⟩ = some (.slice B2 (rd_T47 l i).f2.length b2) ∧ w'.cell? ⟨wr.heap.size, 3, none⟩ = some (.slice B3 (rd_T47 l i).f3.length b3) ∧ w'.cell? ⟨wr.heap.size, 4, none⟩ = some (.slice B4 (rd_T47 l i).f4.length b4))
            (first
              | exact ⟨below_drew (Below.refl _ _), cG0, cG1, cP0, cP1, cP2, cS0, cS1, cS2, cS3, cS4⟩
              | (go_split_ands; exact ⟨below_then (by assumption) (Below.size (by assumption)) hb, pw_cell_below hb (by assumption), pw_cell_below hb (by assumption), pw_cell_below hb (by assumption), pw_cell_below hb (by assumption), pw_cell_below hb (by assumption), pw_cell_below hb (by assumption), pw_cell_below hb (by assumption), pw_cell_below hb (by assumption), pw_cell_below hb (by assumption), pw_cell_below hb (by assumption)⟩))
            (first | (go_at_call 91; (with_reducible refine (prog_args.calls k1 a0 _ _ l1 _ _ l2 _ _ _ _ (rd_T47 l i).f2 _ _ (rd_T47 l i).f3 _ _ (rd_T47 l i).f4 ar _ ?s1 HC1.out ?s2 HC2.out ?s3 QL2.out ?s4 QL3.out ?s5 QL4.out AR.out).mono ?_); (case s1 => exact Kd.C_below HR1.out (by repeat (first | exact B1.out | apply below_drew))); (case s2 => exact Kd.C_below HR2.out (by repeat (first | exact B1.out | apply below_drew))); (case s3 => exact Kd.C_below QR2.out (by repeat (first | exact B1.out | apply below_drew))); (case s4 => exact Kd.C_below QR3.out (by repeat (first | exact B1.out | apply below_drew))); (case s5 => exact Kd.C_below QR4.out (by repeat (first | exact B1.out | apply below_drew))); rintro e w' ⟨rfl, hb⟩))
          obtain ⟨hBw, _⟩ := ‹Below W1.heap.size W1 _ ∧ _›
          go_wp2
          go_ret
          exact ⟨rfl, fine_end GW.out BG.out hBw⟩
        have d3a : (ar == ((rd_T47 l i).f2.length : Int)) = true := beq_iff_eq.mpr (of_decide_eq_true d3)
        have d3b : (ar != ((rd_T47 l i).f2.length : Int)) = false := bne_eq_false_iff_eq.mpr (of_decide_eq_true d3)
        clear d3
        go_region_held3 (fun w' => Below W1.heap.size W1 w' ∧ w'.cell? ⟨G, 0, none⟩ = some (.int .i64 s2) ∧ w'.cell? ⟨G, 1, none⟩ = some (.int .i64 n2) ∧ w'.cell? ⟨w.heap.size, 0, none⟩ = some (.int .i64 a0) ∧ w'.cell? ⟨w.heap.size, 1, none⟩ = some (.slice A1 l1.length c1) ∧ w'.cell? ⟨w.heap.size, 2, none⟩ = some (.slice A2 l2.length c2) ∧
            w'.cell? ⟨wr.heap.size, 0, none⟩ = some (.int .i64 (rd_T47 l i).f0) ∧ w'.cell? ⟨wr.heap.size, 1, none⟩ = some (.int .i64 (rd_T47 l i).f1) ∧ w'.cell? ⟨wr.heap.size, 2, none⟩ = some (.slice B2 (rd_T47 l i).f2.length b2) ∧ w'.cell? ⟨wr.heap.size, 3, none⟩ = some (.slice B3 (rd_T47 l i).f3.length b3) ∧ w'.cell? ⟨wr.heap.size, 4, none⟩ = some (.slice B4 (rd_T47 l i).f4.length b4))
          (first
            | exact ⟨below_drew (Below.refl _ _), cG0, cG1, cP0, cP1, cP2, cS0, cS1, cS2, cS3, cS4⟩
            | (go_split_ands; exact ⟨below_then (by assumption) (Below.size (by assumption)) hb, pw_cell_below hb (by assumption), pw_cell_below hb (by assumption), pw_cell_below hb (by assumption), pw_cell_below hb (by assumption), pw_cell_below hb (by assumption), pw_cell_below hb (by assumption), pw_cell_below hb (by assumption), pw_cell_below hb (by assumption), pw_cell_below hb (by assumption), pw_cell_below hb (by assumption)⟩))
          (first | (go_at_call 91; (with_reducible refine (prog_args.calls k1 a0 _ _ l1 _ _ l2 _ _ _ _ (rd_T47 l i).f2 _ _ (rd_T47 l i).f3 _ _ (rd_T47 l i).f4 ar _ ?s1 HC1.out ?s2 HC2.out ?s3 QL2.out ?s4 QL3.out ?s5 QL4.out AR.out).mono ?_); (case s1 => exact Kd.C_below HR1.out (by repeat (first | exact B1.out | apply below_drew))); (case s2 => exact Kd.C_below HR2.out (by repeat (first | exact B1.out | apply below_drew))); (case s3 => exact Kd.C_below QR2.out (by repeat (first | exact B1.out | apply below_drew))); (case s4 => exact Kd.C_below QR3.out (by repeat (first | exact B1.out | apply below_drew))); (case s5 => exact Kd.C_below QR4.out (by repeat (first | exact B1.out | apply below_drew))); rintro e w' ⟨rfl, hb⟩))
        obtain ⟨hBw, hcG0, hcG1, hcP0, hcP1, hcP2, hcS0, hcS1, hcS2, hcS3, hcS4⟩ := ‹Below W1.heap.size W1 _ ∧ _›
        have E2 := fine_end GW.out BG.out hBw
        have BG := Aside0.mk E2.1
        have GW := Aside0.mk E2.2
        have BP := Aside0.mk ((hBw.block _ (blk_lt BP.out)).trans BP.out)
        have BS := Aside0.mk ((hBw.block _ (blk_lt BS.out)).trans BS.out)
        have hH := Aside0.mk H
        clear hBw hb E2 cG0 cG1 cP0 cP1 cP2 cS0 cS1 cS2 cS3 cS4 B1 AR d1 d3a d3b H
        have H := hH.out
        clear hH
        rcases nestOk_cases (rd_T47 l i).f0 (rd_T47 l i).f3.length (rd_T47 l i).f4.length with ⟨hno, hcs⟩ | ⟨hno, hcs⟩
        · rw [hno] at H
          injection (Option.some.inj (show some (false, s2, n2) = some (r, st', nd') from H)) with e1 e2
          injection e2 with e2 e3
          subst e1 e2 e3
          clear H hno
          rcases hcs with ⟨⟨g1, g2⟩, g3, g4⟩ | ⟨⟨g1, g2⟩, g3, g4, g5, g6⟩ | ⟨⟨g1, g2⟩, ⟨g3, g4⟩, g5⟩
          all_goals go_wp2
          all_goals (go_ret; exact ⟨rfl, BG.out, GW.out⟩)
        rw [hno] at H
        have HL := Aside0.mk (show prog_count_fine.l1 k1 a0 l1 l2 l deep i 0 s2 n2 = some (r, st', nd') from H)
        clear H hno
        go_upto_region 10 with (fail)
        go_cut [78] (fun v78 wc => v78 = .bool false ∧ Aside0 (wc.heap[G]? = some (.cells #[.int .i64 s2, .int .i64 n2] 90 (0, 0))) ∧ Aside0 (wc.heap[w.heap.size]? = some (.cells #[.int .i64 a0, .slice A1 l1.length c1, .slice A2 l2.length c2] 25 (0, 0))) ∧ Aside0 (wc.heap[wr.heap.size]? = some (.cells #[.int .i64 (rd_T47 l i).f0, .int .i64 (rd_T47 l i).f1, .slice B2 (rd_T47 l i).f2.length b2, .slice B3 (rd_T47 l i).f3.length b3, .slice B4 (rd_T47 l i).f4.length b4] 47 (0, 0))) ∧ Aside0 (w.grownBy wc (some G)))
        case first =>
          rcases hcs with ⟨⟨g1, g2⟩, g3, g4, g5⟩ | ⟨⟨g1, g2⟩, g3, g4, g5⟩ | ⟨⟨g1, g2⟩, g3, g4, g5, g6⟩ | ⟨⟨g1, g2⟩, g3, g4⟩ | ⟨⟨g1, g2⟩, ⟨g3, g4⟩, g5⟩
          all_goals
            go_wp2
            go_meet
            case rel => exact ⟨rfl, BG, BP, BS, GW⟩
        case rest =>
          clear hcs BG BP BS GW hcG0 hcG1 hcP0 hcP1 hcP2 hcS0 hcS1 hcS2 hcS3 hcS4
          obtain ⟨rfl, BG, BP, BS, GW⟩ := hcut
          clear hlt hGlt
          generalize wr.heap.size = T at BS ⊢
          obtain ⟨cS0, cS1, cS2, cS3, cS4⟩ := cells5 BS.out
          go_wp2
          clear cS0 cS1 cS2 cS3 cS4
          go_loopg [82] k1 (fun kq v82 wl => ∃ (j s3 n3 : Int), v82 = .int .i64 j ∧ Aside0 (prog_count_fine.l1 kq a0 l1 l2 l deep i j s3 n3 = some (r, st', nd')) ∧ Aside0 (kq ≤ k1) ∧ Aside0 (wl.heap[G]? = some (.cells #[.int .i64 s3, .int .i64 n3] 90 (0, 0))) ∧
            Aside0 (wl.heap[w.heap.size]? = some (.cells #[.int .i64 a0, .slice A1 l1.length c1, .slice A2 l2.length c2] 25 (0, 0))) ∧ Aside0 (wl.heap[T]? = some (.cells #[.int .i64 (rd_T47 l i).f0, .int .i64 (rd_T47 l i).f1, .slice B2 (rd_T47 l i).f2.length b2, .slice B3 (rd_T47 l i).f3.length b3, .slice B4 (rd_T47 l i).f4.length b4] 47 (0, 0))) ∧ Aside0 (w.grownBy wl (some G)))
          case atStart => exact ⟨0, s2, n2, rfl, HL, ⟨Nat.le_refl _⟩, BG, BP, BS, GW⟩
          case round =>
            clear HL BG BP BS GW
            obtain ⟨j, s3, n3, rfl, HA, HK2, BG, BP, BS, GW⟩ := hrel
            cases gk with
            | zero => exact absurd HA.out (by simp [prog_count_fine.l1])
            | succ k2 =>
              have H := HA.out
              clear HA
              simp only [prog_count_fine.l1] at H
              have H2 := ite_b H
              clear H
              have hTG := blk_ne BS.out BG.out (by decide)
              obtain ⟨cG0, cG1⟩ := cells2 (fr := (0, 0)) BG.out
              obtain ⟨cP0, cP1, cP2⟩ := cells3 BP.out
              obtain ⟨cS0, cS1, cS2, cS3, cS4⟩ := cells5 BS.out
              have hGlt := blk_lt BG.out
              have hTlt := blk_lt BS.out
              have hPlt := blk_lt BP.out
              have B0 := Aside0.mk (below_gr HB.out GW.out HG0.out)
              have hk1 := HK.out
              have hk2 := HK2.out
              rcases H2 with ⟨t3, H⟩ | ⟨t3, H⟩
              case inr =>
                replace H := Option.bind_eq_some_iff.mp H
                obtain ⟨⟨r3, s4, n4⟩, A30, H⟩ := H
                have A3 := Aside0.mk A30
                clear A30
                have H2 := ite_t (t := r3) H
                clear H
                rcases H2 with ⟨rfl, H⟩ | ⟨rfl, H⟩
                case inr =>
                  injection (Option.some.inj H) with e1 e2
                  injection e2 with e2 e3
                  subst e1 e2 e3
                  clear H
                  go_wp2_with (first | (go_at_call 81; (with_reducible refine (ih'.out k2 (by omega) a0 _ _ l1 _ _ l2 _ _ (rd_T47 l i).f3 (wrap64 (deep + 1)) s3 n3 G false s4 n4 w0 _ HR1.out HC1.out HR2.out HC2.out QR3.out QL3.out B0.out HG0.out BG.out A3.out).mono ?_); rintro e w3 ⟨rfl, hG3, hgr3⟩))
                  go_ret
                  exact ⟨rfl, hG3, gtrans GW.out hgr3⟩
                replace H := Option.bind_eq_some_iff.mp H
                obtain ⟨⟨r4, s5, n5⟩, A40, H⟩ := H
                have A4 := Aside0.mk A40
                clear A40
                have H2 := ite_t (t := r4) H
                clear H
                rcases H2 with ⟨rfl, H⟩ | ⟨rfl, H⟩
                case inr =>
                  injection (Option.some.inj H) with e1 e2
                  injection e2 with e2 e3
                  subst e1 e2 e3
                  clear H
                  go_wp2_with (first
                    | (go_at_call 81; (with_reducible refine (ih'.out k2 (by omega) a0 _ _ l1 _ _ l2 _ _ (rd_T47 l i).f3 (wrap64 (deep + 1)) s3 n3 G true s4 n4 w0 _ HR1.out HC1.out HR2.out HC2.out QR3.out QL3.out B0.out HG0.out BG.out A3.out).mono ?_); rintro e w3 ⟨rfl, hG3, hgr3⟩; have BG3 := Aside0.mk hG3; have BP3 := Aside0.mk (grown_blk BP.out hgr3 hne); have BS3 := Aside0.mk (grown_blk BS.out hgr3 hTG); have GW3 := Aside0.mk (gtrans GW.out hgr3); have B3' := Aside0.mk (below_gr HB.out GW3.out HG0.out); obtain ⟨dP0, dP1, dP2⟩ := cells3 BP3.out; obtain ⟨dS0, dS1, dS2, dS3, dS4⟩ := cells5 BS3.out; clear hG3 hgr3)
                    | (go_at_call 81; (with_reducible refine (ih'.out k2 (by omega) a0 _ _ l1 _ _ l2 _ _ (rd_T47 l i).f4 (wrap64 (deep + 1)) s4 n4 G false s5 n5 w0 _ HR1.out HC1.out HR2.out HC2.out QR4.out QL4.out B3'.out HG0.out BG3.out A4.out).mono ?_); rintro e w4 ⟨rfl, hG4, hgr4⟩))
                  go_ret
                  exact ⟨rfl, hG4, gtrans GW3.out hgr4⟩
                have H' := Aside0.mk H
                clear H
                go_wp2_with (first
                  | (go_at_call 81; (with_reducible refine (ih'.out k2 (by omega) a0 _ _ l1 _ _ l2 _ _ (rd_T47 l i).f3 (wrap64 (deep + 1)) s3 n3 G true s4 n4 w0 _ HR1.out HC1.out HR2.out HC2.out QR3.out QL3.out B0.out HG0.out BG.out A3.out).mono ?_); rintro e w3 ⟨rfl, hG3, hgr3⟩; have BG3 := Aside0.mk hG3; have BP3 := Aside0.mk (grown_blk BP.out hgr3 hne); have BS3 := Aside0.mk (grown_blk BS.out hgr3 hTG); have GW3 := Aside0.mk (gtrans GW.out hgr3); have B3' := Aside0.mk (below_gr HB.out GW3.out HG0.out); obtain ⟨dP0, dP1, dP2⟩ := cells3 BP3.out; obtain ⟨dS0, dS1, dS2, dS3, dS4⟩ := cells5 BS3.out; clear hG3 hgr3)
                  | (go_at_call 81; (with_reducible refine (ih'.out k2 (by omega) a0 _ _ l1 _ _ l2 _ _ (rd_T47 l i).f4 (wrap64 (deep + 1)) s4 n4 G true s5 n5 w0 _ HR1.out HC1.out HR2.out HC2.out QR4.out QL4.out B3'.out HG0.out BG3.out A4.out).mono ?_); rintro e w4 ⟨rfl, hG4, hgr4⟩))
                go_roundg k2
                case measure => omega
                case rel => exact ⟨_, s5, n5, rfl, H', ⟨by omega⟩, ⟨hG4⟩, ⟨grown_blk BP3.out hgr4 hne⟩, ⟨gtrans GW3.out hgr4⟩⟩
              have H2 := ite_b H
              clear H
              rcases H2 with ⟨t4, H⟩ | ⟨t4, H⟩
              case inr => exact absurd H (by simp)
              have p2 : 0 ≤ j := of_decide_eq_true t4
              have p3 : j < ((rd_T47 l i).f2.length : Int) := of_decide_eq_true t3
              obtain ⟨ae, D3, d3, e2, u0, u1, u2, u3, ul, ur⟩ := at_T96 QR2.out j p2 p3
              cases e2
              replace u0 := (B0.out.cell (World.block_lt_of_cell? w0 _ u0)).trans u0
              replace u1 := (B0.out.cell (World.block_lt_of_cell? w0 _ u1)).trans u1
              replace u2 := (B0.out.cell (World.block_lt_of_cell? w0 _ u2)).trans u2
              replace u3 := (B0.out.cell (World.block_lt_of_cell? w0 _ u3)).trans u3
              have UL := Aside0.mk ul
              have UR := Aside0.mk ur
              clear ul ur
              replace H := Option.bind_eq_some_iff.mp H
              obtain ⟨tc, AC0, H⟩ := H
              have AC := Aside0.mk AC0
              clear AC0
              have hf0 := blk_frozen BG.out 0
              have hf1 := blk_frozen BG.out 1
              by_cases htc : tc = 0
              case neg =>
                rw [if_neg htc] at H
                injection (Option.some.inj H) with e1 e2
                injection e2 with e2 e3
                subst e1 e2 e3
                clear H
                have g1 : (tc == 0) = false := beq_eq_false_iff_ne.mpr htc
                have g2 : (tc != 0) = true := bne_iff_ne.mpr htc
                clear htc
                go_wp2_with (first | (go_at_call 92; (with_reducible refine (expr_Check.calls k2 a0 _ _ l1 1 _ _ _ _ _ (rd_T96 (rd_T47 l i).f2 j).f3 tc _ ?s1 HC1.out ?s2 UL.out AC.out).mono ?_); (case s1 => exact Kd.C_below HR1.out (by repeat (first | exact B0.out | apply bal | apply below_drew))); (case s2 => exact Kd.C_below UR.out (by repeat (first | exact B0.out | apply bal | apply below_drew))); rintro e w5 ⟨rfl, hb5⟩))
                go_ret
                exact ⟨rfl, fine_end (gtrans GW.out (World.grownBy_alloc _ _ _)) (kal BG.out _) hb5⟩
              subst htc
              rw [if_pos rfl] at H
              replace H := Option.bind_eq_some_iff.mp H
              obtain ⟨m, AM0, H⟩ := H
              have AM := Aside0.mk AM0
              have H' := Aside0.mk H
              clear AM0 H
              go_wp2_with (first | (go_at_call 92; (with_reducible refine (expr_Check.calls k2 a0 _ _ l1 1 _ _ _ _ _ (rd_T96 (rd_T47 l i).f2 j).f3 0 _ ?s1 HC1.out ?s2 UL.out AC.out).mono ?_); (case s1 => exact Kd.C_below HR1.out (by repeat (first | exact B0.out | apply bal | apply below_drew))); (case s2 => exact Kd.C_below UR.out (by repeat (first | exact B0.out | apply bal | apply below_drew))); rintro e w5 ⟨rfl, hb5⟩))
              have F5 := fine_end (gtrans GW.out (World.grownBy_alloc _ _ _)) (kal BG.out _) hb5
              have BG5 := Aside0.mk F5.1
              have GW5 := Aside0.mk F5.2
              have BP5 := Aside0.mk ((hb5.block _ (by simp; omega)).trans (kal BP.out _))
              have BS5 := Aside0.mk ((hb5.block _ (by simp; omega)).trans (kal BS.out _))
              have BE5 := (hb5.block wr.heap.size (by simp)).trans (heap_alloc_new _ _)
              have B5 := Aside0.mk (below_gr HB.out GW5.out HG0.out)
              have e0 : w5.cell? ⟨wr.heap.size, 0, none⟩ = some (.int .i64 (rd_T96 (rd_T47 l i).f2 j).f0) := (blk_cell BE5 0).trans rfl
              have e1 : w5.cell? ⟨wr.heap.size, 1, none⟩ = some (.int .i64 (rd_T96 (rd_T47 l i).f2 j).f1) := (blk_cell BE5 1).trans rfl
              have e2 : w5.cell? ⟨wr.heap.size, 2, none⟩ = some (.int .i64 (rd_T96 (rd_T47 l i).f2 j).f2) := (blk_cell BE5 2).trans rfl
              have e3 : w5.cell? ⟨wr.heap.size, 3, none⟩ = some (.slice D3 (rd_T96 (rd_T47 l i).f2 j).f3.length d3) := (blk_cell BE5 3).trans rfl
              obtain ⟨gG0, gG1⟩ := cells2 (fr := (0, 0)) BG5.out
              have gf1 := blk_frozen BG5.out 1
              have hEG : wr.heap.size ≠ G := by omega
              have hGl5 := blk_lt BG5.out
              clear F5 hb5 BE5 u0 u1 u2 u3 cG0 cG1 cP0 cP1 cP2 cS0 cS1 cS2 cS3 cS4 hf0 hf1 AC
              go_region_with
                (first | (go_at_call 93; (with_reducible refine (expr_Nodes.calls k2 _ _ _ _ _ (rd_T96 (rd_T47 l i).f2 j).f3 m _ ?s1 UL.out AM.out).mono ?_); (case s1 => exact Kd.C_below UR.out (by repeat (first | exact B5.out | apply below_drew))); rintro e w' ⟨rfl, hb⟩; have gG1' := pw_cell_below hb (show w5.drew.cell? _ = _ from gG1); have gf1' : w'.frozen? ⟨G, 1, none⟩ = false := (hb.frozen (p := ⟨G, 1, none⟩) hGl5).trans gf1; have hb' := Aside0.mk (undrew hb)))
              all_goals
                go_wp2
                go_roundg k2
                case measure => omega
                case rel =>
                  have E6 := fine_end GW5.out BG5.out hb'.out
                  have BP6 := (hb'.out.block _ (blk_lt BP5.out)).trans BP5.out
                  have BS6 := (hb'.out.block _ (blk_lt BS5.out)).trans BS5.out
                  have q1 := blk_set E6.1 1 (.int .i64 (wrap64 (n3 + m)))
                  refine ⟨_, s3, _, rfl, H', ⟨by omega⟩, ⟨?_⟩, ⟨(Below.heap_setCell _ _ _ _ hne).trans BP6⟩, ⟨(Below.heap_setCell _ _ _ _ hTG).trans BS6⟩, ⟨gtrans E6.2 ⟨rfl, rfl, rfl, by simp [World.setCell], fun i hi hn => Below.heap_setCell _ _ _ _ (fun e => hn (by rw [e]))⟩⟩⟩
                  first | simpa using q1 | simpa [i64_w] using q1
def prog_counted.f (k : Nat) (a0 : Int) (l1 : List S82) (l2 : List S47) : Option (Int × Int × Bool) :=
  (expr_Heading.f k a0 l1).bind fun t => if t = 0 then ((prog_count_fine.f k a0 l1 l2 l2 1 0 0).bind fun p => if p.1 = true then some (p.2.1, p.2.2, true) else some (0, 0, false)) else some (0, 0, false)
theorem two_blocks {w w1 : World} {o1 o2 : Obj} (hb : Below ((w.alloc o1).alloc o2).heap.size ((w.alloc o1).alloc o2) w1) :
    w1.heap[w.heap.size]? = some o1 ∧ w1.heap[w.heap.size + 1]? = some o2 ∧ Below w.heap.size w w1 := by
  have b1 : ((w.alloc o1).alloc o2).heap[w.heap.size]? = some o1 := kal (heap_alloc_new w _) _
  have b2 : ((w.alloc o1).alloc o2).heap[w.heap.size + 1]? = some o2 := by have := heap_alloc_new (w.alloc o1) o2; simpa using this
  exact ⟨(hb.block _ (blk_lt b1)).trans b1, (hb.block _ (blk_lt b2)).trans b2, below_then (bal (bal (Below.refl _ _) _) _) (by simp; omega) hb⟩
set_option maxHeartbeats 8000000 in
set_option maxRecDepth 100000 in
theorem prog_counted.calls (k : Nat) (a0 : Int) (A1 : Option Addr) (c1 : Nat) (l1 : List S82) (A2 : Option Addr) (c2 : Nat) (l2 : List S47) (r1 r2 : Int) (r3 : Bool) (w : World)
    (hr1 : Kd.C k82 w A1 l1.length l1) (hc1 : l1.length ≤ c1) (hr2 : Kd.C k47 w A2 l2.length l2) (hc2 : l2.length ≤ c2) (h : prog_counted.f k a0 l1 l2 = some (r1, r2, r3)) :
    Calls Try.prog 61 #[.agg #[.int .i64 a0, .slice A1 l1.length c1, .slice A2 l2.length c2]] w fun e w' => e = .returned (.tuple #[.agg #[.int .i64 r1, .int .i64 r2], .bool r3]) ∧ Below w.heap.size w w' := by
  have huP := Try.underlying25
  have huC := Try.underlying90
  have HR1 := Aside0.mk hr1
  have HC1 := Aside0.mk hc1
  have HR2 := Aside0.mk hr2
  have HC2 := Aside0.mk hc2
  clear hr1 hc1 hr2 hc2
  unfold prog_counted.f at h
  obtain ⟨t, T0, H⟩ := Option.bind_eq_some_iff.mp h
  have T := Aside0.mk T0
  have HB := Aside0.mk (Below.refl w.heap.size w)
  clear T0 h
  by_cases ht : t = 0
  case neg =>
    rw [if_neg ht] at H
    injection (Option.some.inj H) with e1 e2
    injection e2 with e2 e3
    subst e1 e2 e3
    have g1 : (t == 0) = false := beq_eq_false_iff_ne.mpr ht
    have g2 : (t != 0) = true := bne_iff_ne.mpr ht
    clear ht H
    go_enter Try.func61, Try.ntmps61
    go_wp2_with (first
      | (go_at_call 80; (with_reducible refine (expr_Heading.calls k a0 _ _ l1 _ _ ?side1 HC1.out T.out).mono ?_); (case side1 => exact Kd.C_below HR1.out (by repeat (first | exact HB.out | apply bal | apply bd1))); rintro e w1 ⟨rfl, hb⟩; obtain ⟨k1, k2, hb1⟩ := two_blocks hb; have B1 := Aside0.mk hb1; have BC := Aside0.mk k2; obtain ⟨x0, x1⟩ := cells2 (fr := (0, 0)) k2; have y0 := blk_frozen k2 0; have y1 := blk_frozen k2 1; have z1 := blk_lt k2; clear hb hb1 k1 k2))
    refine bodyPost_ret (v := .tuple #[.agg #[.int .i64 0, .int .i64 0], .bool false]) (by simp [results, Try.results61, go_sem, x0, x1]) rfl ⟨rfl, ?_⟩
    repeat (first | exact B1.out | refine bst ?_ (by omega))
  subst ht
  rw [if_pos rfl] at H
  obtain ⟨⟨q, s', n'⟩, F0, H⟩ := Option.bind_eq_some_iff.mp H
  have F := Aside0.mk F0
  clear F0
  have H2 := ite_t (t := q) H
  clear H
  rcases H2 with ⟨rfl, H⟩ | ⟨rfl, H⟩
  · injection (Option.some.inj H) with e1 e2
    injection e2 with e2 e3
    dsimp only at e1 e2
    subst e1 e2 e3
    clear H
    go_enter Try.func61, Try.ntmps61
    go_wp2_with (first | (go_at_call 80; (with_reducible refine (expr_Heading.calls k a0 _ _ l1 _ _ ?side1 HC1.out T.out).mono ?_); (case side1 => exact Kd.C_below HR1.out (by repeat (first | exact HB.out | apply bal | apply bd1))); rintro e w1 ⟨rfl, hb⟩; obtain ⟨k1, k2, hb1⟩ := two_blocks hb; have B1 := Aside0.mk hb1; have BC := Aside0.mk k2; have BP := Aside0.mk k1; obtain ⟨x0, x1⟩ := cells2 (fr := (0, 0)) k2; obtain ⟨u0, u1, u2⟩ := cells3 k1; have y0 := blk_frozen k2 0; have y1 := blk_frozen k2 1; have z1 := blk_lt k2; clear hb hb1 k1 k2) | (go_at_call 81; (with_reducible refine (prog_count_fine.calls k a0 _ _ l1 _ _ l2 _ _ l2 1 0 0 (w.heap.size + 1) true s' n' w _ HR1.out HC1.out HR2.out HC2.out HR2.out HC2.out B1.out (by omega) BC.out F.out).mono ?_); rintro e w2 ⟨rfl, hG2, hgr2⟩; have B2 := Aside0.mk (below_gr B1.out hgr2 (by omega)); have BC2 := Aside0.mk hG2; obtain ⟨v0, v1⟩ := cells2 (fr := (0, 0)) hG2; have f0 := blk_frozen hG2 0; have f1 := blk_frozen hG2 1; have z2 := blk_lt hG2; clear hG2 hgr2))
    refine bodyPost_ret (v := .tuple #[.agg #[.int .i64 s', .int .i64 n'], .bool true]) (by simp [results, Try.results61, go_sem, v0, v1]) rfl ⟨rfl, ?_⟩
    repeat (first | exact B2.out | refine bst ?_ (by omega))
  · injection (Option.some.inj H) with e1 e2
    injection e2 with e2 e3
    subst e1 e2 e3
    clear H
    go_enter Try.func61, Try.ntmps61
    go_wp2_with (first | (go_at_call 80; (with_reducible refine (expr_Heading.calls k a0 _ _ l1 _ _ ?side1 HC1.out T.out).mono ?_); (case side1 => exact Kd.C_below HR1.out (by repeat (first | exact HB.out | apply bal | apply bd1))); rintro e w1 ⟨rfl, hb⟩; obtain ⟨k1, k2, hb1⟩ := two_blocks hb; have B1 := Aside0.mk hb1; have BC := Aside0.mk k2; have BP := Aside0.mk k1; obtain ⟨x0, x1⟩ := cells2 (fr := (0, 0)) k2; obtain ⟨u0, u1, u2⟩ := cells3 k1; have y0 := blk_frozen k2 0; have y1 := blk_frozen k2 1; have z1 := blk_lt k2; clear hb hb1 k1 k2) | (go_at_call 81; (with_reducible refine (prog_count_fine.calls k a0 _ _ l1 _ _ l2 _ _ l2 1 0 0 (w.heap.size + 1) false s' n' w _ HR1.out HC1.out HR2.out HC2.out HR2.out HC2.out B1.out (by omega) BC.out F.out).mono ?_); rintro e w2 ⟨rfl, hG2, hgr2⟩; have B2 := Aside0.mk (below_gr B1.out hgr2 (by omega)); have BC2 := Aside0.mk hG2; obtain ⟨v0, v1⟩ := cells2 (fr := (0, 0)) hG2; have f0 := blk_frozen hG2 0; have f1 := blk_frozen hG2 1; have z2 := blk_lt hG2; clear hG2 hgr2))
    refine bodyPost_ret (v := .tuple #[.agg #[.int .i64 0, .int .i64 0], .bool false]) (by simp [results, Try.results61, go_sem, v0, v1]) rfl ⟨rfl, ?_⟩
    repeat (first | exact B2.out | refine bst ?_ (by omega))
def prog_Check.f (k : Nat) (a0_0 : Int) (l0_1 : List (S82)) (l0_2 : List (S47)) : Option (Int) := (prog_counted.f k a0_0 l0_1 l0_2).bind fun bt138 => (if bt138.2.2 = true then (some 0) else (some 30))
set_option maxHeartbeats 8000000 in
set_option maxRecDepth 100000 in
theorem prog_Check.calls (k : Nat) (a0_0 : Int) (A0_1 : Option Addr) (c0_1 : Nat) (l0_1 : List (S82)) (A0_2 : Option Addr) (c0_2 : Nat) (l0_2 : List (S47)) (r : Int) (w : World) (hr0_1 : Kd.C k82 w A0_1 l0_1.length l0_1) (hc0_1 : l0_1.length ≤ c0_1) (hr0_2 : Kd.C k47 w A0_2 l0_2.length l0_2) (hc0_2 : l0_2.length ≤ c0_2) (h : prog_Check.f k a0_0 l0_1 l0_2 = some r) :
  Calls Try.prog 39 #[.agg #[.int .i64 a0_0, .slice A0_1 l0_1.length c0_1, .slice A0_2 l0_2.length c0_2]] w fun e w' => e = .returned (.int .i64 r) ∧ Below w.heap.size w w' := by
 have hu25 := Try.underlying25
 have hu90 := Try.underlying90
 have HR0_1 := Aside0.mk hr0_1
 have HC0_1 := Aside0.mk hc0_1
 clear hr0_1 hc0_1
 have HR0_2 := Aside0.mk hr0_2
 have HC0_2 := Aside0.mk hc0_2
 clear hr0_2 hc0_2
 have HB := Aside0.mk (Below.refl w.heap.size w)
 have H : ((prog_counted.f k a0_0 l0_1 l0_2).bind fun bt138 => (if bt138.2.2 = true then (some 0) else (some 30))) = some r := h
 clear h
 replace H := Option.bind_eq_some_iff.mp H
 obtain ⟨⟨t138, t139, t140⟩, A20, H⟩ := H
 replace H : (if t140 = true then (some 0) else (some 30)) = some r := H
 have A2 := Aside0.mk A20
 clear A20
 by_cases c3 : t140 = true
 ·subst c3
  have H1 : (some 0) = some r := by rw [if_pos rfl] at H; exact H
  clear H
  have H := H1
  clear H1
  obtain rfl := Option.some.inj H
  go_enter Try.func39, Try.ntmps39
  go_wp2_with (first | ((with_reducible refine gate_dst (N := 1) rfl ?_); refine box_event ?hg (N := 1) ?hd (cs := #[.int .i64 a0_0, .slice A0_1 l0_1.length c0_1, .slice A0_2 l0_2.length c0_2]) (t := 25) ?hr ?_; (case hd => rfl); (case hg => rfl); (case hr => first | (go_simp; done) | (go_simp; rfl)); intro gb137 hg w4 hbox hb; have n0_ := Aside0.mk (bsp (by repeat (first | (with_reducible first | exact HB.out | apply bal | apply bdN | apply bd1) | exact HB.out)) hb); have n1_ := Aside0.mk (hbox); have n2_ := Aside0.mk ((by rw [hg]; exact (bsz (by repeat (first | (with_reducible first | exact HB.out | apply bal | apply bdN | apply bd1) | exact HB.out))) : w.heap.size ≤ gb137)); have n3_ := Aside0.mk ((by rw [hg]; exact (bsz (by repeat (first | (with_reducible first | exact HB.out | apply bal | apply bdN | apply bd1) | exact HB.out))) : w.heap.size ≤ gb137)); clear HB; have HB := n0_; have BK137 := n1_; have GW137 := n2_; have GE137 := n3_; clear n0_ n1_ n2_ n3_; clear hb hbox hg; obtain ⟨hcz5_0, hcz5_1, hcz5_2, hfz5_0, hfz5_1, hfz5_2⟩ := cf3 BK137.out) | ((with_reducible refine gate_callee (f := 61) rfl ?_); refine goesL_ (some 7) rfl rfl Try.func61 (by kernel_rfl) rfl #[.agg #[.int .i64 a0_0, .slice A0_1 l0_1.length c0_1, .slice A0_2 l0_2.length c0_2]] rfl (by (try simp only [List.map_toArray, List.map_cons, List.map_nil]); first | done | rfl | (simp only [List.length_drop, List.length_take]; rfl)) ?_; (with_reducible refine (prog_counted.calls k a0_0 _ _ l0_1 _ _ l0_2 t138 t139 true _ ?side1 ?side2 ?side3 ?side4 A2.out).mono ?_); (case side1 => repeat (first | exact (Kd.C_below HR0_1.out HB.out) | with_reducible first | apply Kd.C_alloc | apply Kd.C_drewN | apply Kd.C_drew)); (case side2 => exact HC0_1.out); (case side3 => repeat (first | exact (Kd.C_below HR0_2.out HB.out) | with_reducible first | apply Kd.C_alloc | apply Kd.C_drewN | apply Kd.C_drew)); (case side4 => exact HC0_2.out); rintro e w6 ⟨rfl, hb⟩; refine ⟨_, rfl, ?_⟩; have n0_ := Aside0.mk (blk_below (g := gb137) (o := .cells #[.int .i64 a0_0, .slice A0_1 l0_1.length c0_1, .slice A0_2 l0_2.length c0_2] 25 (0, 0)) (by (with_reducible repeat (first | refine kdN ?_ _ | refine kdr ?_ | refine kal ?_ _)); exact BK137.out) hb); have n1_ := Aside0.mk (bsp (by repeat (first | (with_reducible first | exact HB.out | apply bal | apply bdN | apply bd1 | refine bst ?_ GE137.out) | exact HB.out)) hb); clear BK137; clear HB; have BK137 := n0_; have HB := n1_; clear n0_ n1_; (try clear hb); (try clear hb2); (try clear hk); (try clear hi)) | ((with_reducible refine gate_dst (N := 3) rfl ?_); refine box_event ?hg (N := 3) ?hd (cs := #[.int .i64 0, .int .i64 0]) (t := 90) ?hr ?_; (case hd => rfl); (case hg => rfl); (case hr => first | (go_simp; done) | (go_simp; rfl)); intro gb141 hg w7 hbox hb; have n0_ := Aside0.mk (blk_below (g := gb137) (o := .cells #[.int .i64 a0_0, .slice A0_1 l0_1.length c0_1, .slice A0_2 l0_2.length c0_2] 25 (0, 0)) (by (with_reducible repeat (first | refine kdN ?_ _ | refine kdr ?_ | refine kal ?_ _)); exact BK137.out) hb); have n1_ := Aside0.mk (bsp (by repeat (first | (with_reducible first | exact HB.out | apply bal | apply bdN | apply bd1 | refine bst ?_ GE137.out) | exact HB.out)) hb); have n2_ := Aside0.mk (hbox); have n3_ := Aside0.mk ((by rw [hg]; exact (bsz (by repeat (first | (with_reducible first | exact HB.out | apply bal | apply bdN | apply bd1 | refine bst ?_ GE137.out) | exact HB.out))) : w.heap.size ≤ gb141)); have n4_ := Aside0.mk ((by rw [hg]; exact (bsz (by repeat (first | (with_reducible first | exact HB.out | apply bal | apply bdN | apply bd1 | refine bst ?_ GE137.out) | exact HB.out))) : w.heap.size ≤ gb141)); have n5_ := Aside0.mk ((by rw [hg]; exact Nat.ne_of_lt (blk_lt (g := gb137) (o := .cells #[.int .i64 a0_0, .slice A0_1 l0_1.length c0_1, .slice A0_2 l0_2.length c0_2] 25 (0, 0)) (by (with_reducible repeat (first | refine kdN ?_ _ | refine kdr ?_ | refine kal ?_ _)); exact BK137.out)) : gb137 ≠ gb141)); have n6_ := Aside0.mk ((by rw [hg]; exact Nat.ne_of_gt (blk_lt (g := gb137) (o := .cells #[.int .i64 a0_0, .slice A0_1 l0_1.length c0_1, .slice A0_2 l0_2.length c0_2] 25 (0, 0)) (by (with_reducible repeat (first | refine kdN ?_ _ | refine kdr ?_ | refine kal ?_ _)); exact BK137.out)) : gb141 ≠ gb137)); clear BK137; clear HB; have BK137 := n0_; have HB := n1_; have BK141 := n2_; have GW141 := n3_; have GE141 := n4_; have NB137_141 := n5_; have NB141_137 := n6_; clear n0_ n1_ n2_ n3_ n4_ n5_ n6_; clear hb hbox hg; have hnb8 := NB141_137.out; have hnc8 := NB137_141.out; obtain ⟨hcz9_0, hcz9_1, hfz9_0, hfz9_1⟩ := cf2 BK141.out))
  go_ret
  exact ⟨by first | rfl | (simp [*] <;> rfl), by repeat (first | (with_reducible first | exact HB.out | apply bal | apply bdN | apply bd1 | refine bst ?_ GE137.out | refine bst ?_ GE141.out) | exact HB.out)⟩
 ·replace c3 := Bool.eq_false_iff.mpr c3
  subst c3
  have H1 : (some 30) = some r := by rw [if_neg (show ¬ (false = true) by decide)] at H; exact H
  clear H
  have H := H1
  clear H1
  obtain rfl := Option.some.inj H
  go_enter Try.func39, Try.ntmps39
  go_wp2_with (first | ((with_reducible refine gate_dst (N := 1) rfl ?_); refine box_event ?hg (N := 1) ?hd (cs := #[.int .i64 a0_0, .slice A0_1 l0_1.length c0_1, .slice A0_2 l0_2.length c0_2]) (t := 25) ?hr ?_; (case hd => rfl); (case hg => rfl); (case hr => first | (go_simp; done) | (go_simp; rfl)); intro gb137 hg w10 hbox hb; have n0_ := Aside0.mk (bsp (by repeat (first | (with_reducible first | exact HB.out | apply bal | apply bdN | apply bd1) | exact HB.out)) hb); have n1_ := Aside0.mk (hbox); have n2_ := Aside0.mk ((by rw [hg]; exact (bsz (by repeat (first | (with_reducible first | exact HB.out | apply bal | apply bdN | apply bd1) | exact HB.out))) : w.heap.size ≤ gb137)); have n3_ := Aside0.mk ((by rw [hg]; exact (bsz (by repeat (first | (with_reducible first | exact HB.out | apply bal | apply bdN | apply bd1) | exact HB.out))) : w.heap.size ≤ gb137)); clear HB; have HB := n0_; have BK137 := n1_; have GW137 := n2_; have GE137 := n3_; clear n0_ n1_ n2_ n3_; clear hb hbox hg; obtain ⟨hcz11_0, hcz11_1, hcz11_2, hfz11_0, hfz11_1, hfz11_2⟩ := cf3 BK137.out) | ((with_reducible refine gate_callee (f := 61) rfl ?_); refine goesL_ (some 7) rfl rfl Try.func61 (by kernel_rfl) rfl #[.agg #[.int .i64 a0_0, .slice A0_1 l0_1.length c0_1, .slice A0_2 l0_2.length c0_2]] rfl (by (try simp only [List.map_toArray, List.map_cons, List.map_nil]); first | done | rfl | (simp only [List.length_drop, List.length_take]; rfl)) ?_; (with_reducible refine (prog_counted.calls k a0_0 _ _ l0_1 _ _ l0_2 t138 t139 false _ ?side1 ?side2 ?side3 ?side4 A2.out).mono ?_); (case side1 => repeat (first | exact (Kd.C_below HR0_1.out HB.out) | with_reducible first | apply Kd.C_alloc | apply Kd.C_drewN | apply Kd.C_drew)); (case side2 => exact HC0_1.out); (case side3 => repeat (first | exact (Kd.C_below HR0_2.out HB.out) | with_reducible first | apply Kd.C_alloc | apply Kd.C_drewN | apply Kd.C_drew)); (case side4 => exact HC0_2.out); rintro e w12 ⟨rfl, hb⟩; refine ⟨_, rfl, ?_⟩; have n0_ := Aside0.mk (blk_below (g := gb137) (o := .cells #[.int .i64 a0_0, .slice A0_1 l0_1.length c0_1, .slice A0_2 l0_2.length c0_2] 25 (0, 0)) (by (with_reducible repeat (first | refine kdN ?_ _ | refine kdr ?_ | refine kal ?_ _)); exact BK137.out) hb); have n1_ := Aside0.mk (bsp (by repeat (first | (with_reducible first | exact HB.out | apply bal | apply bdN | apply bd1 | refine bst ?_ GE137.out) | exact HB.out)) hb); clear BK137; clear HB; have BK137 := n0_; have HB := n1_; clear n0_ n1_; (try clear hb); (try clear hb2); (try clear hk); (try clear hi)) | ((with_reducible refine gate_dst (N := 3) rfl ?_); refine box_event ?hg (N := 3) ?hd (cs := #[.int .i64 0, .int .i64 0]) (t := 90) ?hr ?_; (case hd => rfl); (case hg => rfl); (case hr => first | (go_simp; done) | (go_simp; rfl)); intro gb141 hg w13 hbox hb; have n0_ := Aside0.mk (blk_below (g := gb137) (o := .cells #[.int .i64 a0_0, .slice A0_1 l0_1.length c0_1, .slice A0_2 l0_2.length c0_2] 25 (0, 0)) (by (with_reducible repeat (first | refine kdN ?_ _ | refine kdr ?_ | refine kal ?_ _)); exact BK137.out) hb); have n1_ := Aside0.mk (bsp (by repeat (first | (with_reducible first | exact HB.out | apply bal | apply bdN | apply bd1 | refine bst ?_ GE137.out) | exact HB.out)) hb); have n2_ := Aside0.mk (hbox); have n3_ := Aside0.mk ((by rw [hg]; exact (bsz (by repeat (first | (with_reducible first | exact HB.out | apply bal | apply bdN | apply bd1 | refine bst ?_ GE137.out) | exact HB.out))) : w.heap.size ≤ gb141)); have n4_ := Aside0.mk ((by rw [hg]; exact (bsz (by repeat (first | (with_reducible first | exact HB.out | apply bal | apply bdN | apply bd1 | refine bst ?_ GE137.out) | exact HB.out))) : w.heap.size ≤ gb141)); have n5_ := Aside0.mk ((by rw [hg]; exact Nat.ne_of_lt (blk_lt (g := gb137) (o := .cells #[.int .i64 a0_0, .slice A0_1 l0_1.length c0_1, .slice A0_2 l0_2.length c0_2] 25 (0, 0)) (by (with_reducible repeat (first | refine kdN ?_ _ | refine kdr ?_ | refine kal ?_ _)); exact BK137.out)) : gb137 ≠ gb141)); have n6_ := Aside0.mk ((by rw [hg]; exact Nat.ne_of_gt (blk_lt (g := gb137) (o := .cells #[.int .i64 a0_0, .slice A0_1 l0_1.length c0_1, .slice A0_2 l0_2.length c0_2] 25 (0, 0)) (by (with_reducible repeat (first | refine kdN ?_ _ | refine kdr ?_ | refine kal ?_ _)); exact BK137.out)) : gb141 ≠ gb137)); clear BK137; clear HB; have BK137 := n0_; have HB := n1_; have BK141 := n2_; have GW141 := n3_; have GE141 := n4_; have NB137_141 := n5_; have NB141_137 := n6_; clear n0_ n1_ n2_ n3_ n4_ n5_ n6_; clear hb hbox hg; have hnb14 := NB141_137.out; have hnc14 := NB137_141.out; obtain ⟨hcz15_0, hcz15_1, hfz15_0, hfz15_1⟩ := cf2 BK141.out))
  go_ret
  exact ⟨by first | rfl | (simp [*] <;> rfl), by repeat (first | (with_reducible first | exact HB.out | apply bal | apply bdN | apply bd1 | refine bst ?_ GE137.out | refine bst ?_ GE141.out) | exact HB.out)⟩
def prog_Count.f (k : Nat) (a0_0 : Int) (l0_1 : List (S82)) (l0_2 : List (S47)) : Option (Int × Int × Int) := (prog_counted.f k a0_0 l0_1 l0_2).bind fun bt243 => (if bt243.2.2 = true then (some (bt243.1, bt243.2.1, 0)) else (some (0, 0, 30)))
set_option maxHeartbeats 8000000 in
set_option maxRecDepth 100000 in
theorem prog_Count.calls (k : Nat) (a0_0 : Int) (A0_1 : Option Addr) (c0_1 : Nat) (l0_1 : List (S82)) (A0_2 : Option Addr) (c0_2 : Nat) (l0_2 : List (S47)) (r1 : Int) (r2 : Int) (r3 : Int) (w : World) (hr0_1 : Kd.C k82 w A0_1 l0_1.length l0_1) (hc0_1 : l0_1.length ≤ c0_1) (hr0_2 : Kd.C k47 w A0_2 l0_2.length l0_2) (hc0_2 : l0_2.length ≤ c0_2) (h : prog_Count.f k a0_0 l0_1 l0_2 = some (r1, r2, r3)) :
  Calls Try.prog 33 #[.agg #[.int .i64 a0_0, .slice A0_1 l0_1.length c0_1, .slice A0_2 l0_2.length c0_2]] w fun e w' => e = .returned (.tuple #[.int .i64 r1, .int .i64 r2, .int .i64 r3]) ∧ Below w.heap.size w w' := by
 have hu25 := Try.underlying25
 have hu90 := Try.underlying90
 have HR0_1 := Aside0.mk hr0_1
 have HC0_1 := Aside0.mk hc0_1
 clear hr0_1 hc0_1
 have HR0_2 := Aside0.mk hr0_2
 have HC0_2 := Aside0.mk hc0_2
 clear hr0_2 hc0_2
 have HB := Aside0.mk (Below.refl w.heap.size w)
 have H : ((prog_counted.f k a0_0 l0_1 l0_2).bind fun bt243 => (if bt243.2.2 = true then (some (bt243.1, bt243.2.1, 0)) else (some (0, 0, 30)))) = some (r1, r2, r3) := h
 clear h
 replace H := Option.bind_eq_some_iff.mp H
 obtain ⟨⟨t243, t244, t245⟩, A20, H⟩ := H
 replace H : (if t245 = true then (some (t243, t244, 0)) else (some (0, 0, 30))) = some (r1, r2, r3) := H
 have A2 := Aside0.mk A20
 clear A20
 by_cases c3 : t245 = true
 ·subst c3
  have H1 : (some (t243, t244, 0)) = some (r1, r2, r3) := by rw [if_pos rfl] at H; exact H
  clear H
  have H := H1
  clear H1
  simp only [Option.some.injEq, Prod.mk.injEq] at H
  obtain ⟨rfl, rfl, rfl⟩ := H
  go_enter Try.func33, Try.ntmps33
  go_wp2_with (first | ((with_reducible refine gate_dst (N := 1) rfl ?_); refine box_event ?hg (N := 1) ?hd (cs := #[.int .i64 a0_0, .slice A0_1 l0_1.length c0_1, .slice A0_2 l0_2.length c0_2]) (t := 25) ?hr ?_; (case hd => rfl); (case hg => rfl); (case hr => first | (go_simp; done) | (go_simp; rfl)); intro gb242 hg w4 hbox hb; have n0_ := Aside0.mk (bsp (by repeat (first | (with_reducible first | exact HB.out | apply bal | apply bdN | apply bd1) | exact HB.out)) hb); have n1_ := Aside0.mk (hbox); have n2_ := Aside0.mk ((by rw [hg]; exact (bsz (by repeat (first | (with_reducible first | exact HB.out | apply bal | apply bdN | apply bd1) | exact HB.out))) : w.heap.size ≤ gb242)); have n3_ := Aside0.mk ((by rw [hg]; exact (bsz (by repeat (first | (with_reducible first | exact HB.out | apply bal | apply bdN | apply bd1) | exact HB.out))) : w.heap.size ≤ gb242)); clear HB; have HB := n0_; have BK242 := n1_; have GW242 := n2_; have GE242 := n3_; clear n0_ n1_ n2_ n3_; clear hb hbox hg; obtain ⟨hcz5_0, hcz5_1, hcz5_2, hfz5_0, hfz5_1, hfz5_2⟩ := cf3 BK242.out) | (go_at_call 61; (with_reducible refine (prog_counted.calls k a0_0 _ _ l0_1 _ _ l0_2 t243 t244 true _ ?side1 ?side2 ?side3 ?side4 A2.out).mono ?_); (case side1 => repeat (first | exact (Kd.C_below HR0_1.out HB.out) | with_reducible first | apply Kd.C_alloc | apply Kd.C_drewN | apply Kd.C_drew)); (case side2 => exact HC0_1.out); (case side3 => repeat (first | exact (Kd.C_below HR0_2.out HB.out) | with_reducible first | apply Kd.C_alloc | apply Kd.C_drewN | apply Kd.C_drew)); (case side4 => exact HC0_2.out); rintro e w6 ⟨rfl, hb⟩; have n0_ := Aside0.mk (blk_below (g := gb242) (o := .cells #[.int .i64 a0_0, .slice A0_1 l0_1.length c0_1, .slice A0_2 l0_2.length c0_2] 25 (0, 0)) (by (with_reducible repeat (first | refine kdN ?_ _ | refine kdr ?_ | refine kal ?_ _)); exact BK242.out) hb); have n1_ := Aside0.mk (bsp (by repeat (first | (with_reducible first | exact HB.out | apply bal | apply bdN | apply bd1 | refine bst ?_ GE242.out) | exact HB.out)) hb); clear BK242; clear HB; have BK242 := n0_; have HB := n1_; clear n0_ n1_; (try clear hb); (try clear hb2); (try clear hk); (try clear hi)) | ((with_reducible refine gate_dst (N := 5) rfl ?_); refine box_event ?hg (N := 5) ?hd (cs := #[.int .i64 0, .int .i64 0]) (t := 90) ?hr ?_; (case hd => rfl); (case hg => rfl); (case hr => first | (go_simp; done) | (go_simp; rfl)); intro gb246 hg w7 hbox hb; have n0_ := Aside0.mk (blk_below (g := gb242) (o := .cells #[.int .i64 a0_0, .slice A0_1 l0_1.length c0_1, .slice A0_2 l0_2.length c0_2] 25 (0, 0)) (by (with_reducible repeat (first | refine kdN ?_ _ | refine kdr ?_ | refine kal ?_ _)); exact BK242.out) hb); have n1_ := Aside0.mk (bsp (by repeat (first | (with_reducible first | exact HB.out | apply bal | apply bdN | apply bd1 | refine bst ?_ GE242.out) | exact HB.out)) hb); have n2_ := Aside0.mk (hbox); have n3_ := Aside0.mk ((by rw [hg]; exact (bsz (by repeat (first | (with_reducible first | exact HB.out | apply bal | apply bdN | apply bd1 | refine bst ?_ GE242.out) | exact HB.out))) : w.heap.size ≤ gb246)); have n4_ := Aside0.mk ((by rw [hg]; exact (bsz (by repeat (first | (with_reducible first | exact HB.out | apply bal | apply bdN | apply bd1 | refine bst ?_ GE242.out) | exact HB.out))) : w.heap.size ≤ gb246)); have n5_ := Aside0.mk ((by rw [hg]; exact Nat.ne_of_lt (blk_lt (g := gb242) (o := .cells #[.int .i64 a0_0, .slice A0_1 l0_1.length c0_1, .slice A0_2 l0_2.length c0_2] 25 (0, 0)) (by (with_reducible repeat (first | refine kdN ?_ _ | refine kdr ?_ | refine kal ?_ _)); exact BK242.out)) : gb242 ≠ gb246)); have n6_ := Aside0.mk ((by rw [hg]; exact Nat.ne_of_gt (blk_lt (g := gb242) (o := .cells #[.int .i64 a0_0, .slice A0_1 l0_1.length c0_1, .slice A0_2 l0_2.length c0_2] 25 (0, 0)) (by (with_reducible repeat (first | refine kdN ?_ _ | refine kdr ?_ | refine kal ?_ _)); exact BK242.out)) : gb246 ≠ gb242)); clear BK242; clear HB; have BK242 := n0_; have HB := n1_; have BK246 := n2_; have GW246 := n3_; have GE246 := n4_; have NB242_246 := n5_; have NB246_242 := n6_; clear n0_ n1_ n2_ n3_ n4_ n5_ n6_; clear hb hbox hg; have hnb8 := NB246_242.out; have hnc8 := NB242_246.out; obtain ⟨hcz9_0, hcz9_1, hfz9_0, hfz9_1⟩ := cf2 BK246.out))
  repeat (go_quiet (first | ((with_reducible refine gate_dst (N := 1) rfl ?_); refine box_event ?hg (N := 1) ?hd (cs := #[.int .i64 a0_0, .slice A0_1 l0_1.length c0_1, .slice A0_2 l0_2.length c0_2]) (t := 25) ?hr ?_; (case hd => rfl); (case hg => rfl); (case hr => first | (go_simp; done) | (go_simp; rfl)); intro gb242 hg w4 hbox hb; have n0_ := Aside0.mk (bsp (by repeat (first | (with_reducible first | exact HB.out | apply bal | apply bdN | apply bd1) | exact HB.out)) hb); have n1_ := Aside0.mk (hbox); have n2_ := Aside0.mk ((by rw [hg]; exact (bsz (by repeat (first | (with_reducible first | exact HB.out | apply bal | apply bdN | apply bd1) | exact HB.out))) : w.heap.size ≤ gb242)); have n3_ := Aside0.mk ((by rw [hg]; exact (bsz (by repeat (first | (with_reducible first | exact HB.out | apply bal | apply bdN | apply bd1) | exact HB.out))) : w.heap.size ≤ gb242)); clear HB; have HB := n0_; have BK242 := n1_; have GW242 := n2_; have GE242 := n3_; clear n0_ n1_ n2_ n3_; clear hb hbox hg; obtain ⟨hcz5_0, hcz5_1, hcz5_2, hfz5_0, hfz5_1, hfz5_2⟩ := cf3 BK242.out) | (go_at_call 61; (with_reducible refine (prog_counted.calls k a0_0 _ _ l0_1 _ _ l0_2 t243 t244 true _ ?side1 ?side2 ?side3 ?side4 A2.out).mono ?_); (case side1 => repeat (first | exact (Kd.C_below HR0_1.out HB.out) | with_reducible first | apply Kd.C_alloc | apply Kd.C_drewN | apply Kd.C_drew)); (case side2 => exact HC0_1.out); (case side3 => repeat (first | exact (Kd.C_below HR0_2.out HB.out) | with_reducible first | apply Kd.C_alloc | apply Kd.C_drewN | apply Kd.C_drew)); (case side4 => exact HC0_2.out); rintro e w6 ⟨rfl, hb⟩; have n0_ := Aside0.mk (blk_below (g := gb242) (o := .cells #[.int .i64 a0_0, .slice A0_1 l0_1.length c0_1, .slice A0_2 l0_2.length c0_2] 25 (0, 0)) (by (with_reducible repeat (first | refine kdN ?_ _ | refine kdr ?_ | refine kal ?_ _)); exact BK242.out) hb); have n1_ := Aside0.mk (bsp (by repeat (first | (with_reducible first | exact HB.out | apply bal | apply bdN | apply bd1 | refine bst ?_ GE242.out) | exact HB.out)) hb); clear BK242; clear HB; have BK242 := n0_; have HB := n1_; clear n0_ n1_; (try clear hb); (try clear hb2); (try clear hk); (try clear hi)) | ((with_reducible refine gate_dst (N := 5) rfl ?_); refine box_event ?hg (N := 5) ?hd (cs := #[.int .i64 0, .int .i64 0]) (t := 90) ?hr ?_; (case hd => rfl); (case hg => rfl); (case hr => first | (go_simp; done) | (go_simp; rfl)); intro gb246 hg w7 hbox hb; have n0_ := Aside0.mk (blk_below (g := gb242) (o := .cells #[.int .i64 a0_0, .slice A0_1 l0_1.length c0_1, .slice A0_2 l0_2.length c0_2] 25 (0, 0)) (by (with_reducible repeat (first | refine kdN ?_ _ | refine kdr ?_ | refine kal ?_ _)); exact BK242.out) hb); have n1_ := Aside0.mk (bsp (by repeat (first | (with_reducible first | exact HB.out | apply bal | apply bdN | apply bd1 | refine bst ?_ GE242.out) | exact HB.out)) hb); have n2_ := Aside0.mk (hbox); have n3_ := Aside0.mk ((by rw [hg]; exact (bsz (by repeat (first | (with_reducible first | exact HB.out | apply bal | apply bdN | apply bd1 | refine bst ?_ GE242.out) | exact HB.out))) : w.heap.size ≤ gb246)); have n4_ := Aside0.mk ((by rw [hg]; exact (bsz (by repeat (first | (with_reducible first | exact HB.out | apply bal | apply bdN | apply bd1 | refine bst ?_ GE242.out) | exact HB.out))) : w.heap.size ≤ gb246)); have n5_ := Aside0.mk ((by rw [hg]; exact Nat.ne_of_lt (blk_lt (g := gb242) (o := .cells #[.int .i64 a0_0, .slice A0_1 l0_1.length c0_1, .slice A0_2 l0_2.length c0_2] 25 (0, 0)) (by (with_reducible repeat (first | refine kdN ?_ _ | refine kdr ?_ | refine kal ?_ _)); exact BK242.out)) : gb242 ≠ gb246)); have n6_ := Aside0.mk ((by rw [hg]; exact Nat.ne_of_gt (blk_lt (g := gb242) (o := .cells #[.int .i64 a0_0, .slice A0_1 l0_1.length c0_1, .slice A0_2 l0_2.length c0_2] 25 (0, 0)) (by (with_reducible repeat (first | refine kdN ?_ _ | refine kdr ?_ | refine kal ?_ _)); exact BK242.out)) : gb246 ≠ gb242)); clear BK242; clear HB; have BK242 := n0_; have HB := n1_; have BK246 := n2_; have GW246 := n3_; have GE246 := n4_; have NB242_246 := n5_; have NB246_242 := n6_; clear n0_ n1_ n2_ n3_ n4_ n5_ n6_; clear hb hbox hg; have hnb8 := NB246_242.out; have hnc8 := NB242_246.out; obtain ⟨hcz9_0, hcz9_1, hfz9_0, hfz9_1⟩ := cf2 BK246.out)); try go_wp2_with (first | ((with_reducible refine gate_dst (N := 1) rfl ?_); refine box_event ?hg (N := 1) ?hd (cs := #[.int .i64 a0_0, .slice A0_1 l0_1.length c0_1, .slice A0_2 l0_2.length c0_2]) (t := 25) ?hr ?_; (case hd => rfl); (case hg => rfl); (case hr => first | (go_simp; done) | (go_simp; rfl)); intro gb242 hg w4 hbox hb; have n0_ := Aside0.mk (bsp (by repeat (first | (with_reducible first | exact HB.out | apply bal | apply bdN | apply bd1) | exact HB.out)) hb); have n1_ := Aside0.mk (hbox); have n2_ := Aside0.mk ((by rw [hg]; exact (bsz (by repeat (first | (with_reducible first | exact HB.out | apply bal | apply bdN | apply bd1) | exact HB.out))) : w.heap.size ≤ gb242)); have n3_ := Aside0.mk ((by rw [hg]; exact (bsz (by repeat (first | (with_reducible first | exact HB.out | apply bal | apply bdN | apply bd1) | exact HB.out))) : w.heap.size ≤ gb242)); clear HB; have HB := n0_; have BK242 := n1_; have GW242 := n2_; have GE242 := n3_; clear n0_ n1_ n2_ n3_; clear hb hbox hg; obtain ⟨hcz5_0, hcz5_1, hcz5_2, hfz5_0, hfz5_1, hfz5_2⟩ := cf3 BK242.out) | (go_at_call 61; (with_reducible refine (prog_counted.calls k a0_0 _ _ l0_1 _ _ l0_2 t243 t244 true _ ?side1 ?side2 ?side3 ?side4 A2.out).mono ?_); (case side1 => repeat (first | exact (Kd.C_below HR0_1.out HB.out) | with_reducible first | apply Kd.C_alloc | apply Kd.C_drewN | apply Kd.C_drew)); (case side2 => exact HC0_1.out); (case side3 => repeat (first | exact (Kd.C_below HR0_2.out HB.out) | with_reducible first | apply Kd.C_alloc | apply Kd.C_drewN | apply Kd.C_drew)); (case side4 => exact HC0_2.out); rintro e w6 ⟨rfl, hb⟩; have n0_ := Aside0.mk (blk_below (g := gb242) (o := .cells #[.int .i64 a0_0, .slice A0_1 l0_1.length c0_1, .slice A0_2 l0_2.length c0_2] 25 (0, 0)) (by (with_reducible repeat (first | refine kdN ?_ _ | refine kdr ?_ | refine kal ?_ _)); exact BK242.out) hb); have n1_ := Aside0.mk (bsp (by repeat (first | (with_reducible first | exact HB.out | apply bal | apply bdN | apply bd1 | refine bst ?_ GE242.out) | exact HB.out)) hb); clear BK242; clear HB; have BK242 := n0_; have HB := n1_; clear n0_ n1_; (try clear hb); (try clear hb2); (try clear hk); (try clear hi)) | ((with_reducible refine gate_dst (N := 5) rfl ?_); refine box_event ?hg (N := 5) ?hd (cs := #[.int .i64 0, .int .i64 0]) (t := 90) ?hr ?_; (case hd => rfl); (case hg => rfl); (case hr => first | (go_simp; done) | (go_simp; rfl)); intro gb246 hg w7 hbox hb; have n0_ := Aside0.mk (blk_below (g := gb242) (o := .cells #[.int .i64 a0_0, .slice A0_1 l0_1.length c0_1, .slice A0_2 l0_2.length c0_2] 25 (0, 0)) (by (with_reducible repeat (first | refine kdN ?_ _ | refine kdr ?_ | refine kal ?_ _)); exact BK242.out) hb); have n1_ := Aside0.mk (bsp (by repeat (first | (with_reducible first | exact HB.out | apply bal | apply bdN | apply bd1 | refine bst ?_ GE242.out) | exact HB.out)) hb); have n2_ := Aside0.mk (hbox); have n3_ := Aside0.mk ((by rw [hg]; exact (bsz (by repeat (first | (with_reducible first | exact HB.out | apply bal | apply bdN | apply bd1 | refine bst ?_ GE242.out) | exact HB.out))) : w.heap.size ≤ gb246)); have n4_ := Aside0.mk ((by rw [hg]; exact (bsz (by repeat (first | (with_reducible first | exact HB.out | apply bal | apply bdN | apply bd1 | refine bst ?_ GE242.out) | exact HB.out))) : w.heap.size ≤ gb246)); have n5_ := Aside0.mk ((by rw [hg]; exact Nat.ne_of_lt (blk_lt (g := gb242) (o := .cells #[.int .i64 a0_0, .slice A0_1 l0_1.length c0_1, .slice A0_2 l0_2.length c0_2] 25 (0, 0)) (by (with_reducible repeat (first | refine kdN ?_ _ | refine kdr ?_ | refine kal ?_ _)); exact BK242.out)) : gb242 ≠ gb246)); have n6_ := Aside0.mk ((by rw [hg]; exact Nat.ne_of_gt (blk_lt (g := gb242) (o := .cells #[.int .i64 a0_0, .slice A0_1 l0_1.length c0_1, .slice A0_2 l0_2.length c0_2] 25 (0, 0)) (by (with_reducible repeat (first | refine kdN ?_ _ | refine kdr ?_ | refine kal ?_ _)); exact BK242.out)) : gb246 ≠ gb242)); clear BK242; clear HB; have BK242 := n0_; have HB := n1_; have BK246 := n2_; have GW246 := n3_; have GE246 := n4_; have NB242_246 := n5_; have NB246_242 := n6_; clear n0_ n1_ n2_ n3_ n4_ n5_ n6_; clear hb hbox hg; have hnb8 := NB246_242.out; have hnc8 := NB242_246.out; obtain ⟨hcz9_0, hcz9_1, hfz9_0, hfz9_1⟩ := cf2 BK246.out)))
  go_ret3
  exact ⟨by first | rfl | (simp [*] <;> rfl), by repeat (first | (with_reducible first | exact HB.out | apply bal | apply bdN | apply bd1 | refine bst ?_ GE242.out | refine bst ?_ GE246.out) | exact HB.out)⟩
 ·replace c3 := Bool.eq_false_iff.mpr c3
  subst c3
  have H1 : (some (0, 0, 30)) = some (r1, r2, r3) := by rw [if_neg (show ¬ (false = true) by decide)] at H; exact H
  clear H
  have H := H1
  clear H1
  simp only [Option.some.injEq, Prod.mk.injEq] at H
  obtain ⟨rfl, rfl, rfl⟩ := H
  go_enter Try.func33, Try.ntmps33
  go_wp2_with (first | ((with_reducible refine gate_dst (N := 1) rfl ?_); refine box_event ?hg (N := 1) ?hd (cs := #[.int .i64 a0_0, .slice A0_1 l0_1.length c0_1, .slice A0_2 l0_2.length c0_2]) (t := 25) ?hr ?_; (case hd => rfl); (case hg => rfl); (case hr => first | (go_simp; done) | (go_simp; rfl)); intro gb242 hg w10 hbox hb; have n0_ := Aside0.mk (bsp (by repeat (first | (with_reducible first | exact HB.out | apply bal | apply bdN | apply bd1) | exact HB.out)) hb); have n1_ := Aside0.mk (hbox); have n2_ := Aside0.mk ((by rw [hg]; exact (bsz (by repeat (first | (with_reducible first | exact HB.out | apply bal | apply bdN | apply bd1) | exact HB.out))) : w.heap.size ≤ gb242)); have n3_ := Aside0.mk ((by rw [hg]; exact (bsz (by repeat (first | (with_reducible first | exact HB.out | apply bal | apply bdN | apply bd1) | exact HB.out))) : w.heap.size ≤ gb242)); clear HB; have HB := n0_; have BK242 := n1_; have GW242 := n2_; have GE242 := n3_; clear n0_ n1_ n2_ n3_; clear hb hbox hg; obtain ⟨hcz11_0, hcz11_1, hcz11_2, hfz11_0, hfz11_1, hfz11_2⟩ := cf3 BK242.out) | (go_at_call 61; (with_reducible refine (prog_counted.calls k a0_0 _ _ l0_1 _ _ l0_2 t243 t244 false _ ?side1 ?side2 ?side3 ?side4 A2.out).mono ?_); (case side1 => repeat (first | exact (Kd.C_below HR0_1.out HB.out) | with_reducible first | apply Kd.C_alloc | apply Kd.C_drewN | apply Kd.C_drew)); (case side2 => exact HC0_1.out); (case side3 => repeat (first | exact (Kd.C_below HR0_2.out HB.out) | with_reducible first | apply Kd.C_alloc | apply Kd.C_drewN | apply Kd.C_drew)); (case side4 => exact HC0_2.out); rintro e w12 ⟨rfl, hb⟩; have n0_ := Aside0.mk (blk_below (g := gb242) (o := .cells #[.int .i64 a0_0, .slice A0_1 l0_1.length c0_1, .slice A0_2 l0_2.length c0_2] 25 (0, 0)) (by (with_reducible repeat (first | refine kdN ?_ _ | refine kdr ?_ | refine kal ?_ _)); exact BK242.out) hb); have n1_ := Aside0.mk (bsp (by repeat (first | (with_reducible first | exact HB.out | apply bal | apply bdN | apply bd1 | refine bst ?_ GE242.out) | exact HB.out)) hb); clear BK242; clear HB; have BK242 := n0_; have HB := n1_; clear n0_ n1_; (try clear hb); (try clear hb2); (try clear hk); (try clear hi)) | ((with_reducible refine gate_dst (N := 5) rfl ?_); refine box_event ?hg (N := 5) ?hd (cs := #[.int .i64 0, .int .i64 0]) (t := 90) ?hr ?_; (case hd => rfl); (case hg => rfl); (case hr => first | (go_simp; done) | (go_simp; rfl)); intro gb246 hg w13 hbox hb; have n0_ := Aside0.mk (blk_below (g := gb242) (o := .cells #[.int .i64 a0_0, .slice A0_1 l0_1.length c0_1, .slice A0_2 l0_2.length c0_2] 25 (0, 0)) (by (with_reducible repeat (first | refine kdN ?_ _ | refine kdr ?_ | refine kal ?_ _)); exact BK242.out) hb); have n1_ := Aside0.mk (bsp (by repeat (first | (with_reducible first | exact HB.out | apply bal | apply bdN | apply bd1 | refine bst ?_ GE242.out) | exact HB.out)) hb); have n2_ := Aside0.mk (hbox); have n3_ := Aside0.mk ((by rw [hg]; exact (bsz (by repeat (first | (with_reducible first | exact HB.out | apply bal | apply bdN | apply bd1 | refine bst ?_ GE242.out) | exact HB.out))) : w.heap.size ≤ gb246)); have n4_ := Aside0.mk ((by rw [hg]; exact (bsz (by repeat (first | (with_reducible first | exact HB.out | apply bal | apply bdN | apply bd1 | refine bst ?_ GE242.out) | exact HB.out))) : w.heap.size ≤ gb246)); have n5_ := Aside0.mk ((by rw [hg]; exact Nat.ne_of_lt (blk_lt (g := gb242) (o := .cells #[.int .i64 a0_0, .slice A0_1 l0_1.length c0_1, .slice A0_2 l0_2.length c0_2] 25 (0, 0)) (by (with_reducible repeat (first | refine kdN ?_ _ | refine kdr ?_ | refine kal ?_ _)); exact BK242.out)) : gb242 ≠ gb246)); have n6_ := Aside0.mk ((by rw [hg]; exact Nat.ne_of_gt (blk_lt (g := gb242) (o := .cells #[.int .i64 a0_0, .slice A0_1 l0_1.length c0_1, .slice A0_2 l0_2.length c0_2] 25 (0, 0)) (by (with_reducible repeat (first | refine kdN ?_ _ | refine kdr ?_ | refine kal ?_ _)); exact BK242.out)) : gb246 ≠ gb242)); clear BK242; clear HB; have BK242 := n0_; have HB := n1_; have BK246 := n2_; have GW246 := n3_; have GE246 := n4_; have NB242_246 := n5_; have NB246_242 := n6_; clear n0_ n1_ n2_ n3_ n4_ n5_ n6_; clear hb hbox hg; have hnb14 := NB246_242.out; have hnc14 := NB242_246.out; obtain ⟨hcz15_0, hcz15_1, hfz15_0, hfz15_1⟩ := cf2 BK246.out))
  repeat (go_quiet (first | ((with_reducible refine gate_dst (N := 1) rfl ?_); refine box_event ?hg (N := 1) ?hd (cs := #[.int .i64 a0_0, .slice A0_1 l0_1.length c0_1, .slice A0_2 l0_2.length c0_2]) (t := 25) ?hr ?_; (case hd => rfl); (case hg => rfl); (case hr => first | (go_simp; done) | (go_simp; rfl)); intro gb242 hg w10 hbox hb; have n0_ := Aside0.mk (bsp (by repeat (first | (with_reducible first | exact HB.out | apply bal | apply bdN | apply bd1) | exact HB.out)) hb); have n1_ := Aside0.mk (hbox); have n2_ := Aside0.mk ((by rw [hg]; exact (bsz (by repeat (first | (with_reducible first | exact HB.out | apply bal | apply bdN | apply bd1) | exact HB.out))) : w.heap.size ≤ gb242)); have n3_ := Aside0.mk ((by rw [hg]; exact (bsz (by repeat (first | (with_reducible first | exact HB.out | apply bal | apply bdN | apply bd1) | exact HB.out))) : w.heap.size ≤ gb242)); clear HB; have HB := n0_; have BK242 := n1_; have GW242 := n2_; have GE242 := n3_; clear n0_ n1_ n2_ n3_; clear hb hbox hg; obtain ⟨hcz11_0, hcz11_1, hcz11_2, hfz11_0, hfz11_1, hfz11_2⟩ := cf3 BK242.out) | (go_at_call 61; (with_reducible refine (prog_counted.calls k a0_0 _ _ l0_1 _ _ l0_2 t243 t244 false _ ?side1 ?side2 ?side3 ?side4 A2.out).mono ?_); (case side1 => repeat (first | exact (Kd.C_below HR0_1.out HB.out) | with_reducible first | apply Kd.C_alloc | apply Kd.C_drewN | apply Kd.C_drew)); (case side2 => exact HC0_1.out); (case side3 => repeat (first | exact (Kd.C_below HR0_2.out HB.out) | with_reducible first | apply Kd.C_alloc | apply Kd.C_drewN | apply Kd.C_drew)); (case side4 => exact HC0_2.out); rintro e w12 ⟨rfl, hb⟩; have n0_ := Aside0.mk (blk_below (g := gb242) (o := .cells #[.int .i64 a0_0, .slice A0_1 l0_1.length c0_1, .slice A0_2 l0_2.length c0_2] 25 (0, 0)) (by (with_reducible repeat (first | refine kdN ?_ _ | refine kdr ?_ | refine kal ?_ _)); exact BK242.out) hb); have n1_ := Aside0.mk (bsp (by repeat (first | (with_reducible first | exact HB.out | apply bal | apply bdN | apply bd1 | refine bst ?_ GE242.out) | exact HB.out)) hb); clear BK242; clear HB; have BK242 := n0_; have HB := n1_; clear n0_ n1_; (try clear hb); (try clear hb2); (try clear hk); (try clear hi)) | ((with_reducible refine gate_dst (N := 5) rfl ?_); refine box_event ?hg (N := 5) ?hd (cs := #[.int .i64 0, .int .i64 0]) (t := 90) ?hr ?_; (case hd => rfl); (case hg => rfl); (case hr => first | (go_simp; done) | (go_simp; rfl)); intro gb246 hg w13 hbox hb; have n0_ := Aside0.mk (blk_below (g := gb242) (o := .cells #[.int .i64 a0_0, .slice A0_1 l0_1.length c0_1, .slice A0_2 l0_2.length c0_2] 25 (0, 0)) (by (with_reducible repeat (first | refine kdN ?_ _ | refine kdr ?_ | refine kal ?_ _)); exact BK242.out) hb); have n1_ := Aside0.mk (bsp (by repeat (first | (with_reducible first | exact HB.out | apply bal | apply bdN | apply bd1 | refine bst ?_ GE242.out) | exact HB.out)) hb); have n2_ := Aside0.mk (hbox); have n3_ := Aside0.mk ((by rw [hg]; exact (bsz (by repeat (first | (with_reducible first | exact HB.out | apply bal | apply bdN | apply bd1 | refine bst ?_ GE242.out) | exact HB.out))) : w.heap.size ≤ gb246)); have n4_ := Aside0.mk ((by rw [hg]; exact (bsz (by repeat (first | (with_reducible first | exact HB.out | apply bal | apply bdN | apply bd1 | refine bst ?_ GE242.out) | exact HB.out))) : w.heap.size ≤ gb246)); have n5_ := Aside0.mk ((by rw [hg]; exact Nat.ne_of_lt (blk_lt (g := gb242) (o := .cells #[.int .i64 a0_0, .slice A0_1 l0_1.length c0_1, .slice A0_2 l0_2.length c0_2] 25 (0, 0)) (by (with_reducible repeat (first | refine kdN ?_ _ | refine kdr ?_ | refine kal ?_ _)); exact BK242.out)) : gb242 ≠ gb246)); have n6_ := Aside0.mk ((by rw [hg]; exact Nat.ne_of_gt (blk_lt (g := gb242) (o := .cells #[.int .i64 a0_0, .slice A0_1 l0_1.length c0_1, .slice A0_2 l0_2.length c0_2] 25 (0, 0)) (by (with_reducible repeat (first | refine kdN ?_ _ | refine kdr ?_ | refine kal ?_ _)); exact BK242.out)) : gb246 ≠ gb242)); clear BK242; clear HB; have BK242 := n0_; have HB := n1_; have BK246 := n2_; have GW246 := n3_; have GE246 := n4_; have NB242_246 := n5_; have NB246_242 := n6_; clear n0_ n1_ n2_ n3_ n4_ n5_ n6_; clear hb hbox hg; have hnb14 := NB246_242.out; have hnc14 := NB242_246.out; obtain ⟨hcz15_0, hcz15_1, hfz15_0, hfz15_1⟩ := cf2 BK246.out)); try go_wp2_with (first | ((with_reducible refine gate_dst (N := 1) rfl ?_); refine box_event ?hg (N := 1) ?hd (cs := #[.int .i64 a0_0, .slice A0_1 l0_1.length c0_1, .slice A0_2 l0_2.length c0_2]) (t := 25) ?hr ?_; (case hd => rfl); (case hg => rfl); (case hr => first | (go_simp; done) | (go_simp; rfl)); intro gb242 hg w10 hbox hb; have n0_ := Aside0.mk (bsp (by repeat (first | (with_reducible first | exact HB.out | apply bal | apply bdN | apply bd1) | exact HB.out)) hb); have n1_ := Aside0.mk (hbox); have n2_ := Aside0.mk ((by rw [hg]; exact (bsz (by repeat (first | (with_reducible first | exact HB.out | apply bal | apply bdN | apply bd1) | exact HB.out))) : w.heap.size ≤ gb242)); have n3_ := Aside0.mk ((by rw [hg]; exact (bsz (by repeat (first | (with_reducible first | exact HB.out | apply bal | apply bdN | apply bd1) | exact HB.out))) : w.heap.size ≤ gb242)); clear HB; have HB := n0_; have BK242 := n1_; have GW242 := n2_; have GE242 := n3_; clear n0_ n1_ n2_ n3_; clear hb hbox hg; obtain ⟨hcz11_0, hcz11_1, hcz11_2, hfz11_0, hfz11_1, hfz11_2⟩ := cf3 BK242.out) | (go_at_call 61; (with_reducible refine (prog_counted.calls k a0_0 _ _ l0_1 _ _ l0_2 t243 t244 false _ ?side1 ?side2 ?side3 ?side4 A2.out).mono ?_); (case side1 => repeat (first | exact (Kd.C_below HR0_1.out HB.out) | with_reducible first | apply Kd.C_alloc | apply Kd.C_drewN | apply Kd.C_drew)); (case side2 => exact HC0_1.out); (case side3 => repeat (first | exact (Kd.C_below HR0_2.out HB.out) | with_reducible first | apply Kd.C_alloc | apply Kd.C_drewN | apply Kd.C_drew)); (case side4 => exact HC0_2.out); rintro e w12 ⟨rfl, hb⟩; have n0_ := Aside0.mk (blk_below (g := gb242) (o := .cells #[.int .i64 a0_0, .slice A0_1 l0_1.length c0_1, .slice A0_2 l0_2.length c0_2] 25 (0, 0)) (by (with_reducible repeat (first | refine kdN ?_ _ | refine kdr ?_ | refine kal ?_ _)); exact BK242.out) hb); have n1_ := Aside0.mk (bsp (by repeat (first | (with_reducible first | exact HB.out | apply bal | apply bdN | apply bd1 | refine bst ?_ GE242.out) | exact HB.out)) hb); clear BK242; clear HB; have BK242 := n0_; have HB := n1_; clear n0_ n1_; (try clear hb); (try clear hb2); (try clear hk); (try clear hi)) | ((with_reducible refine gate_dst (N := 5) rfl ?_); refine box_event ?hg (N := 5) ?hd (cs := #[.int .i64 0, .int .i64 0]) (t := 90) ?hr ?_; (case hd => rfl); (case hg => rfl); (case hr => first | (go_simp; done) | (go_simp; rfl)); intro gb246 hg w13 hbox hb; have n0_ := Aside0.mk (blk_below (g := gb242) (o := .cells #[.int .i64 a0_0, .slice A0_1 l0_1.length c0_1, .slice A0_2 l0_2.length c0_2] 25 (0, 0)) (by (with_reducible repeat (first | refine kdN ?_ _ | refine kdr ?_ | refine kal ?_ _)); exact BK242.out) hb); have n1_ := Aside0.mk (bsp (by repeat (first | (with_reducible first | exact HB.out | apply bal | apply bdN | apply bd1 | refine bst ?_ GE242.out) | exact HB.out)) hb); have n2_ := Aside0.mk (hbox); have n3_ := Aside0.mk ((by rw [hg]; exact (bsz (by repeat (first | (with_reducible first | exact HB.out | apply bal | apply bdN | apply bd1 | refine bst ?_ GE242.out) | exact HB.out))) : w.heap.size ≤ gb246)); have n4_ := Aside0.mk ((by rw [hg]; exact (bsz (by repeat (first | (with_reducible first | exact HB.out | apply bal | apply bdN | apply bd1 | refine bst ?_ GE242.out) | exact HB.out))) : w.heap.size ≤ gb246)); have n5_ := Aside0.mk ((by rw [hg]; exact Nat.ne_of_lt (blk_lt (g := gb242) (o := .cells #[.int .i64 a0_0, .slice A0_1 l0_1.length c0_1, .slice A0_2 l0_2.length c0_2] 25 (0, 0)) (by (with_reducible repeat (first | refine kdN ?_ _ | refine kdr ?_ | refine kal ?_ _)); exact BK242.out)) : gb242 ≠ gb246)); have n6_ := Aside0.mk ((by rw [hg]; exact Nat.ne_of_gt (blk_lt (g := gb242) (o := .cells #[.int .i64 a0_0, .slice A0_1 l0_1.length c0_1, .slice A0_2 l0_2.length c0_2] 25 (0, 0)) (by (with_reducible repeat (first | refine kdN ?_ _ | refine kdr ?_ | refine kal ?_ _)); exact BK242.out)) : gb246 ≠ gb242)); clear BK242; clear HB; have BK242 := n0_; have HB := n1_; have BK246 := n2_; have GW246 := n3_; have GE246 := n4_; have NB242_246 := n5_; have NB246_242 := n6_; clear n0_ n1_ n2_ n3_ n4_ n5_ n6_; clear hb hbox hg; have hnb14 := NB246_242.out; have hnc14 := NB242_246.out; obtain ⟨hcz15_0, hcz15_1, hfz15_0, hfz15_1⟩ := cf2 BK246.out)))
  go_ret3
  exact ⟨by first | rfl | (simp [*] <;> rfl), by repeat (first | (with_reducible first | exact HB.out | apply bal | apply bdN | apply bd1 | refine bst ?_ GE242.out | refine bst ?_ GE246.out) | exact HB.out)⟩
mutual
def r3_Depth.l0 : Nat → List (S47) → Int → Int → Option (Int)
 | 0, _, _, _ => none
 | k + 1, x0, x3, x4 => if x4 < (x0.length : Int) then (if 0 ≤ x4 then ((r3_Depth.f k ((rd_T47 x0 x4).f3)).bind fun t260 => ((r3_Depth.f k ((rd_T47 x0 x4).f4)).bind fun t262 => (r3_Depth.l0 k x0 (mx (mx x3 (wrap64 (1 + t260))) (wrap64 (1 + t262))) (wrap64 (x4 + 1))))) else (none)) else (some x3)
def r3_Depth.f : Nat → List (S47) → Option (Int)
 | 0, _ => none
 | k + 1, l0 => r3_Depth.l0 k l0 0 0
end
def r3_Depth.T5 : Bool × List (List Nat × List Nat) := (true, [([], []), ([], []), ([], []), ([1, 2], [1, 2]), ([3], [3]), ([4], [4]), ([5], [5]), ([6], [6]), ([], []), ([], []), ([8, 9], [8, 9]), ([10], [10]), ([11], [11]), ([12, 6], [12]), ([13], [13]), ([0, 7, 14], [0, 7, 14]), ([15, 13, 0, 1, 2, 3, 4, 5, 6, 7, 8, 9, 10, 11, 12, 13, 14, 15], [0, 15])])
def r3_Depth.B5 : List Nat := [0, 0, 0, 6, 14, 30, 62, 126, 0, 0, 768, 1792, 3840, 8062, 16254, 32767, 65535]
theorem r3_Depth.tab5 : rtab .any (opsOf Try.f47 5) = r3_Depth.T5 := by kernel_rfl
theorem r3_Depth.bits5 : waitsOk r3_Depth.T5.2 r3_Depth.B5 = true := by kernel_rfl
set_option maxHeartbeats 8000000 in
set_option maxRecDepth 100000 in
theorem r3_Depth.calls (k : Nat) : ∀ (A0 : Option Addr) (c0 : Nat) (l0 : List (S47)) (r : Int) (w : World) (hr0 : Kd.C k47 w A0 l0.length l0) (hc0 : l0.length ≤ c0) (h : r3_Depth.f k l0 = some r),
  Calls Try.prog 47 #[.slice A0 l0.length c0] w fun e w' => e = .returned (.int .i64 r) ∧ Below w.heap.size w w' := by
 induction k using Nat.strongRecOn with
 | _ k ih =>
 intro A0 c0 l0 r w hr0 hc0 h
 cases k with
 | zero => exact absurd h (by simp [r3_Depth.f])
 | succ k =>
 simp only [r3_Depth.f] at h
 have HR0 := Aside0.mk hr0
 have HC0 := Aside0.mk hc0
 clear hr0 hc0
 have HB := Aside0.mk (Below.refl w.heap.size w)
 have H : (r3_Depth.l0 k l0 0 0) = some r := h
 clear h
 have H' := Aside0.mk H
 clear H
 go_enter Try.func47, Try.ntmps47
 go_wp2
 go_loopg [3, 4] k (fun kq v3 v4 w' => ∃ (x3_1 : Int) (x4_1 : Int), v3 = .int .i64 x3_1 ∧ v4 = .int .i64 x4_1 ∧ Aside0 (r3_Depth.l0 kq l0 x3_1 x4_1 = some r) ∧ Aside0 (kq ≤ k) ∧ Aside0 (Below w.heap.size w w'))
 case atStart => exact ⟨(0), (0), (by first | rfl | (simp; done) | (simp [*]; done)), (by first | rfl | (simp; done) | (simp [*]; done)), H', ⟨Nat.le_refl _⟩, ⟨by repeat (first | (with_reducible first | exact HB.out | apply bal | apply bdN | apply bd1) | exact HB.out)⟩⟩
 case round =>
  clear H'
  obtain ⟨x3_1, x4_1, rfl, rfl, HA, HK1, HB⟩ := hrel
  cases gk with
  | zero => exact absurd HA.out (by simp [r3_Depth.l0])
  | succ k1 =>
   have H := HA.out
   clear HA
   simp only [r3_Depth.l0] at H
   by_cases c2 : x4_1 < (l0.length : Int)
   ·rw [if_pos c2] at H
    have c2b0 : decide (x4_1 < (l0.length : Int)) = true := decide_eq_true c2
    clear c2
    by_cases c3 : 0 ≤ x4_1
    ·rw [if_pos c3] at H
     have c3b0 : decide (0 ≤ x4_1) = true := decide_eq_true c3
     clear c3
     replace H := Option.bind_eq_some_iff.mp H
     obtain ⟨t260, A40, H⟩ := H
     replace H : ((r3_Depth.f k1 ((rd_T47 l0 x4_1).f4)).bind fun t262 => (r3_Depth.l0 k1 l0 (mx (mx x3_1 (wrap64 (1 + t260))) (wrap64 (1 + t262))) (wrap64 (x4_1 + 1)))) = some r := H
     have A4 := Aside0.mk A40
     clear A40
     replace H := Option.bind_eq_some_iff.mp H
     obtain ⟨t262, A50, H⟩ := H
     replace H : (r3_Depth.l0 k1 l0 (mx (mx x3_1 (wrap64 (1 + t260))) (wrap64 (1 + t262))) (wrap64 (x4_1 + 1))) = some r := H
     have A5 := Aside0.mk A50
     clear A50
     obtain ⟨ji6, hji6⟩ : ∃ j_ : Int, (mx x3_1 (wrap64 (1 + t260))) = j_ := ⟨_, rfl⟩
     replace H : (r3_Depth.l0 k1 l0 (mx (ji6) (wrap64 (1 + t262))) (wrap64 (x4_1 + 1))) = some r := by first | (rw [hji6] at H; exact H) | (simp only [hji6] at H ⊢; exact H)
     (try rw [hji6] at A4)
     (try rw [hji6] at A5)
     have hji6_ : (if x3_1 < (wrap64 (1 + t260)) then (wrap64 (1 + t260)) else x3_1) = ji6 := hji6
     obtain ⟨ji7, hji7⟩ : ∃ j_ : Int, (mx (ji6) (wrap64 (1 + t262))) = j_ := ⟨_, rfl⟩
     replace H : (r3_Depth.l0 k1 l0 ji7 (wrap64 (x4_1 + 1))) = some r := by first | (rw [hji7] at H; exact H) | (simp only [hji7] at H ⊢; exact H)
     (try rw [hji7] at A4)
     (try rw [hji7] at A5)
     have hji7_ : (if (ji6) < (wrap64 (1 + t262)) then (wrap64 (1 + t262)) else (ji6)) = ji7 := hji7
     have H' := Aside0.mk H
     clear H
     try go_wp2
     have n0_ := Aside0.mk (bd1 HB.out)
     clear HB
     have HB := n0_
     clear n0_
     have p259 : 0 ≤ (x4_1 : Int) := of_decide_eq_true (by first | (with_reducible assumption) | assumption)
     have q259 : x4_1 < (l0.length : Int) := of_decide_eq_true (by first | (with_reducible assumption) | assumption)
     obtain ⟨ad259, A259_2, c259_2, A259_3, c259_3, A259_4, c259_4, e259, hx259_0, hx259_1, hx259_2, hx259_3, hx259_4, hl259_2, hi259_2, hl259_3, hi259_3, hl259_4, hi259_4⟩ := at_T47 HR0.out x4_1 p259 q259
     have hw259_4 := hx259_4
     have hw259_3 := hx259_3
     have hw259_2 := hx259_2
     have hw259_1 := hx259_1
     have hw259_0 := hx259_0
     cases e259
     replace hx259_0 := bcell HB.out hx259_0
     replace hx259_1 := bcell HB.out hx259_1
     replace hx259_2 := bcell HB.out hx259_2
     replace hx259_3 := bcell HB.out hx259_3
     replace hx259_4 := bcell HB.out hx259_4
     have HR259_2 := Aside0.mk hi259_2
     have HC259_2 := Aside0.mk hl259_2
     clear hi259_2 hl259_2
     have HR259_3 := Aside0.mk hi259_3
     have HC259_3 := Aside0.mk hl259_3
     clear hi259_3 hl259_3
     have HR259_4 := Aside0.mk hi259_4
     have HC259_4 := Aside0.mk hl259_4
     clear hi259_4 hl259_4
     replace p259 := eq_true p259
     replace q259 := eq_true q259
     have p261 : 0 ≤ (x4_1 : Int) := of_decide_eq_true (by first | (with_reducible assumption) | assumption)
     have q261 : x4_1 < (l0.length : Int) := of_decide_eq_true (by first | (with_reducible assumption) | assumption)
     obtain ⟨ad261, A261_2, c261_2, A261_3, c261_3, A261_4, c261_4, e261, hx261_0, hx261_1, hx261_2, hx261_3, hx261_4, hl261_2, hi261_2, hl261_3, hi261_3, hl261_4, hi261_4⟩ := at_T47 HR0.out x4_1 p261 q261
     have hw261_4 := hx261_4
     have hw261_3 := hx261_3
     have hw261_2 := hx261_2
     have hw261_1 := hx261_1
     have hw261_0 := hx261_0
     obtain rfl : ad259 = ad261 := (by injection e261)
     replace hx261_0 := bcell HB.out hx261_0
     replace hx261_1 := bcell HB.out hx261_1
     replace hx261_2 := bcell HB.out hx261_2
     replace hx261_3 := bcell HB.out hx261_3
     replace hx261_4 := bcell HB.out hx261_4
     have HR261_2 := Aside0.mk hi261_2
     have HC261_2 := Aside0.mk hl261_2
     clear hi261_2 hl261_2
     have HR261_3 := Aside0.mk hi261_3
     have HC261_3 := Aside0.mk hl261_3
     clear hi261_3 hl261_3
     have HR261_4 := Aside0.mk hi261_4
     have HC261_4 := Aside0.mk hl261_4
     clear hi261_4 hl261_4
     replace p261 := eq_true p261
     replace q261 := eq_true q261
     have ea_ := Option.some.inj (hx259_2.symm.trans hx261_2)
     injection ea_ with ea_ en_ ec_
     subst ea_
     subst ec_
     clear en_
     have ea_ := Option.some.inj (hx259_3.symm.trans hx261_3)
     injection ea_ with ea_ en_ ec_
     subst ea_
     subst ec_
     clear en_
     have ea_ := Option.some.inj (hx259_4.symm.trans hx261_4)
     injection ea_ with ea_ en_ ec_
     subst ea_
     subst ec_
     clear en_
     refine start_ (n := 17) (S := fun w' => w'.cell? (ad259.add ((x4_1).toNat * 5)) = some (.int .i64 ((rd_T47 l0 x4_1).f0)) ∧ w'.cell? ⟨(ad259.add ((x4_1).toNat * 5)).block, (ad259.add ((x4_1).toNat * 5)).off + 1, none⟩ = some (.int .i64 ((rd_T47 l0 x4_1).f1)) ∧ w'.cell? ⟨(ad259.add ((x4_1).toNat * 5)).block, (ad259.add ((x4_1).toNat * 5)).off + 2, none⟩ = some (.slice A259_2 ((rd_T47 l0 x4_1).f2).length c259_2) ∧ w'.cell? ⟨(ad259.add ((x4_1).toNat * 5)).block, (ad259.add ((x4_1).toNat * 5)).off + 3, none⟩ = some (.slice A259_3 ((rd_T47 l0 x4_1).f3).length c259_3) ∧ w'.cell? ⟨(ad259.add ((x4_1).toNat * 5)).block, (ad259.add ((x4_1).toNat * 5)).off + 4, none⟩ = some (.slice A259_4 ((rd_T47 l0 x4_1).f4).length c259_4) ∧ w'.cell? (ad259.add ((x4_1).toNat * 5)) = some (.int .i64 ((rd_T47 l0 x4_1).f0)) ∧ w'.cell? ⟨(ad259.add ((x4_1).toNat * 5)).block, (ad259.add ((x4_1).toNat * 5)).off + 1, none⟩ = some (.int .i64 ((rd_T47 l0 x4_1).f1)) ∧ w'.cell? ⟨(ad259.add ((x4_1).toNat * 5)).block, (ad259.add ((x4_1).toNat * 5)).off + 2, none⟩ = some (.slice A259_2 ((rd_T47 l0 x4_1).f2).length c259_2) ∧ w'.cell? ⟨(ad259.add ((x4_1).toNat * 5)).block, (ad259.add ((x4_1).toNat * 5)).off + 3, none⟩ = some (.slice A259_3 ((rd_T47 l0 x4_1).f3).length c259_3) ∧ w'.cell? ⟨(ad259.add ((x4_1).toNat * 5)).block, (ad259.add ((x4_1).toNat * 5)).off + 4, none⟩ = some (.slice A259_4 ((rd_T47 l0 x4_1).f4).length c259_4)) (ds := []) #[false, false, false, false, false, false, false, false, false, false, false, false, false, false, false, false, false] (by kernel_rfl) rfl rfl ⟨(bcell HB.out hw259_0), (bcell HB.out hw259_1), (bcell HB.out hw259_2), (bcell HB.out hw259_3), (bcell HB.out hw259_4), (bcell HB.out hw261_0), (bcell HB.out hw261_1), (bcell HB.out hw261_2), (bcell HB.out hw261_3), (bcell HB.out hw261_4)⟩ (fun hHeld => ?_); refine with_tabW r3_Depth.tab5 r3_Depth.bits5 (fun HT_ HW_ => ?_)
     generalize wr.drew = w8 at HB HR259_2 HR259_3 HR259_4 HR261_2 HR261_3 HR261_4 hx259_0 hx259_1 hx259_2 hx259_3 hx259_4 hx261_0 hx261_1 hx261_2 hx261_3 hx261_4 hHeld ⊢
     refine pure_ (i := 0) (N := some 11) (v := ?_) (a' := ?_) #[true, false, false, false, false, false, false, false, false, false, false, false, false, false, false, false, false] rfl rfl (any_of HT_.out (by kernel_rfl)) (fun _ _ _ h => h) (Or.inl ⟨by rfl, ?_⟩) ?_ ?_
     rotate_left
     ·intro w'
      go_simp
      with_reducible rfl
     rotate_left
     ·simp only [Act.put, List.setIfInBounds_toArray, List.set_cons_zero, List.set_cons_succ, i64_w, i32_w]
      rfl
     refine pure_ (i := 1) (N := some 12) (v := ?_) (a' := ?_) #[true, true, false, false, false, false, false, false, false, false, false, false, false, false, false, false, false] rfl rfl (any_of HT_.out (by kernel_rfl)) (fun _ _ _ h => h) (Or.inl ⟨by rfl, ?_⟩) ?_ ?_
     rotate_left
     ·intro w'
      go_simp
      with_reducible rfl
     rotate_left
     ·simp only [Act.put, List.setIfInBounds_toArray, List.set_cons_zero, List.set_cons_succ, i64_w, i32_w]
      rfl
     refine pure_ (i := 2) (N := some 13) (v := ?_) (a' := ?_) #[true, true, true, false, false, false, false, false, false, false, false, false, false, false, false, false, false] rfl rfl (any_of HT_.out (by kernel_rfl)) (fun _ _ _ h => h) (Or.inl ⟨by rfl, ?_⟩) ?_ ?_
     rotate_left
     ·intro w'
      go_simp
      with_reducible rfl
     rotate_left
     ·simp only [Act.put, List.setIfInBounds_toArray, List.set_cons_zero, List.set_cons_succ, i64_w, i32_w]
      rfl
     refine pure_ (i := 3) (N := some 14) (v := ?_) (a' := ?_) #[true, true, true, true, false, false, false, false, false, false, false, false, false, false, false, false, false] rfl rfl (any_of HT_.out (by kernel_rfl)) (fun _ _ _ h => h) (Or.inl ⟨by rfl, ?_⟩) ?_ ?_
     rotate_left
     ·intro w'
      go_simp
      with_reducible rfl
     rotate_left
     ·simp only [Act.put, List.setIfInBounds_toArray, List.set_cons_zero, List.set_cons_succ, i64_w, i32_w]
      rfl
     refine pure_ (i := 4) (N := some 15) (v := ?_) (a' := ?_) #[true, true, true, true, true, false, false, false, false, false, false, false, false, false, false, false, false] rfl rfl (any_of HT_.out (by kernel_rfl)) (fun _ _ _ h => h) (Or.inl ⟨by rfl, ?_⟩) ?_ ?_
     rotate_left
     ·intro w'
      go_simp
      with_reducible rfl
     rotate_left
     ·simp only [Act.put, List.setIfInBounds_toArray, List.set_cons_zero, List.set_cons_succ, i64_w, i32_w]
      rfl
     refine pure_ (i := 8) (N := some 19) (v := ?_) (a' := ?_) #[true, true, true, true, true, false, false, false, true, false, false, false, false, false, false, false, false] rfl rfl (any_of HT_.out (by kernel_rfl)) (fun _ _ _ h => h) (Or.inl ⟨by rfl, ?_⟩) ?_ ?_
     rotate_left
     ·intro w'
      go_simp
      with_reducible rfl
     rotate_left
     ·simp only [Act.put, List.setIfInBounds_toArray, List.set_cons_zero, List.set_cons_succ, i64_w, i32_w]
      rfl
     refine pure_ (i := 9) (N := some 20) (v := ?_) (a' := ?_) #[true, true, true, true, true, false, false, false, true, true, false, false, false, false, false, false, false] rfl rfl (any_of HT_.out (by kernel_rfl)) (fun _ _ _ h => h) (Or.inl ⟨by rfl, ?_⟩) ?_ ?_
     rotate_left
     ·intro w'
      go_simp
      with_reducible rfl
     rotate_left
     ·simp only [Act.put, List.setIfInBounds_toArray, List.set_cons_zero, List.set_cons_succ, i64_w, i32_w]
      rfl
     refine pure_ (i := 10) (N := some 21) (v := ?_) (a' := ?_) #[true, true, true, true, true, false, false, false, true, true, true, false, false, false, false, false, false] rfl rfl (any_of HT_.out (by kernel_rfl)) (fun _ _ _ h => h) (Or.inl ⟨by rfl, ?_⟩) ?_ ?_
     rotate_left
     ·intro w'
      go_simp
      with_reducible rfl
     rotate_left
     ·simp only [Act.put, List.setIfInBounds_toArray, List.set_cons_zero, List.set_cons_succ, i64_w, i32_w]
      rfl
     refine pure_ (i := 11) (N := some 22) (v := ?_) (a' := ?_) #[true, true, true, true, true, false, false, false, true, true, true, true, false, false, false, false, false] rfl rfl (any_of HT_.out (by kernel_rfl)) (fun _ _ _ h => h) (Or.inl ⟨by rfl, ?_⟩) ?_ ?_
     rotate_left
     ·intro w'
      go_simp
      with_reducible rfl
     rotate_left
     ·simp only [Act.put, List.setIfInBounds_toArray, List.set_cons_zero, List.set_cons_succ, i64_w, i32_w]
      rfl
     refine take_ (i := 5) (N := some 16) (v := ?_) (a' := ?_) #[true, true, true, true, true, true, false, false, true, true, true, true, false, false, false, false, false] rfl rfl (take_ofW HT_.out HW_.out (by kernel_rfl)) (fun _ _ _ h => h) (Or.inl ⟨by rfl, ?_⟩) hHeld ?_ ?_
     rotate_left
     ·rintro w' ⟨s0, s1, s2, s3, s4, s5, s6, s7, s8, s9⟩
      go_simp
      with_reducible rfl
     rotate_left
     ·simp only [Act.put, List.setIfInBounds_toArray, List.set_cons_zero, List.set_cons_succ, i64_w, i32_w]
      rfl
     refine take_ (i := 12) (N := some 23) (v := ?_) (a' := ?_) #[true, true, true, true, true, true, false, false, true, true, true, true, true, false, false, false, false] rfl rfl (take_ofW HT_.out HW_.out (by kernel_rfl)) (fun _ _ _ h => h) (Or.inl ⟨by rfl, ?_⟩) hHeld ?_ ?_
     rotate_left
     ·rintro w' ⟨s0, s1, s2, s3, s4, s5, s6, s7, s8, s9⟩
      go_simp
      with_reducible rfl
     rotate_left
     ·simp only [Act.put, List.setIfInBounds_toArray, List.set_cons_zero, List.set_cons_succ, i64_w, i32_w]
      rfl
     refine one_ (i := 6) (N := some 17) #[true, true, true, true, true, true, true, false, true, true, true, true, true, false, false, false, false] rfl rfl (one_of HT_.out (by kernel_rfl)) (by decide) (fun K hK => ?_)
     refine goes_ Try.func47 (by kernel_rfl) rfl #[.slice A259_3 ((rd_T47 l0 x4_1).f3).length c259_3] (by rfl) rfl rfl (by (try simp only [List.map_toArray, List.map_cons, List.map_nil]); first | done | rfl | (simp only [List.length_drop, List.length_take]; rfl)) ?_
     with_reducible refine (ih k1 (by have := HK1.out; omega) _ _ ((rd_T47 l0 x4_1).f3) t260 _ ?side1 ?side2 A4.out).mono ?_
     (case side1 => repeat (first | exact (Kd.C_below HR259_3.out HB.out) | with_reducible first | apply Kd.C_alloc | apply Kd.C_drewN | apply Kd.C_drew))
     (case side2 => exact HC259_3.out)
     rintro e w9 ⟨rfl, hb⟩
     refine ⟨_, rfl, ?_⟩
     have n0_ := Aside0.mk (bsp (by repeat (first | (with_reducible first | exact HB.out | apply bal | apply bdN | apply bd1) | exact HB.out)) hb)
     clear HB
     have HB := n0_
     clear n0_
     (try clear hb)
     (try clear hb2)
     (try clear hk)
     (try clear hi)
     refine hK.out _ _ ⟨(bcell HB.out hw259_0), (bcell HB.out hw259_1), (bcell HB.out hw259_2), (bcell HB.out hw259_3), (bcell HB.out hw259_4), (bcell HB.out hw261_0), (bcell HB.out hw261_1), (bcell HB.out hw261_2), (bcell HB.out hw261_3), (bcell HB.out hw261_4)⟩ (fun hHeld => ?_)
     clear hK K
     refine norm_ (a' := ?_) ?_ ?_
     rotate_left
     ·show Act.put _ (some 17) _ = _
      simp only [Act.put, List.setIfInBounds_toArray, List.set_cons_zero, List.set_cons_succ, i64_w, i32_w]
      rfl
     refine pure_ (i := 7) (N := some 18) (v := ?_) (a' := ?_) #[true, true, true, true, true, true, true, true, true, true, true, true, true, false, false, false, false] rfl rfl (any_of HT_.out (by kernel_rfl)) (fun _ _ _ h => h) (Or.inl ⟨by rfl, ?_⟩) ?_ ?_
     rotate_left
     ·intro w'
      go_simp
      with_reducible rfl
     rotate_left
     ·simp only [Act.put, List.setIfInBounds_toArray, List.set_cons_zero, List.set_cons_succ, i64_w, i32_w]
      rfl
     refine one_ (i := 13) (N := some 24) #[true, true, true, true, true, true, true, true, true, true, true, true, true, true, false, false, false] rfl rfl (one_of HT_.out (by kernel_rfl)) (by decide) (fun K hK => ?_)
     refine goes_ Try.func47 (by kernel_rfl) rfl #[.slice A259_4 ((rd_T47 l0 x4_1).f4).length c259_4] (by rfl) rfl rfl (by (try simp only [List.map_toArray, List.map_cons, List.map_nil]); first | done | rfl | (simp only [List.length_drop, List.length_take]; rfl)) ?_
     with_reducible refine (ih k1 (by have := HK1.out; omega) _ _ ((rd_T47 l0 x4_1).f4) t262 _ ?side1 ?side2 A5.out).mono ?_
     (case side1 => repeat (first | exact (Kd.C_below HR261_4.out HB.out) | with_reducible first | apply Kd.C_alloc | apply Kd.C_drewN | apply Kd.C_drew))
     (case side2 => exact HC261_4.out)
     rintro e w10 ⟨rfl, hb⟩
     refine ⟨_, rfl, ?_⟩
     have n0_ := Aside0.mk (bsp (by repeat (first | (with_reducible first | exact HB.out | apply bal | apply bdN | apply bd1) | exact HB.out)) hb)
     clear HB
     have HB := n0_
     clear n0_
     (try clear hb)
     (try clear hb2)
     (try clear hk)
     (try clear hi)
     refine hK.out _ _ ⟨(bcell HB.out hw259_0), (bcell HB.out hw259_1), (bcell HB.out hw259_2), (bcell HB.out hw259_3), (bcell HB.out hw259_4), (bcell HB.out hw261_0), (bcell HB.out hw261_1), (bcell HB.out hw261_2), (bcell HB.out hw261_3), (bcell HB.out hw261_4)⟩ (fun hHeld => ?_)
     clear hK K
     refine norm_ (a' := ?_) ?_ ?_
     rotate_left
     ·show Act.put _ (some 24) _ = _
      simp only [Act.put, List.setIfInBounds_toArray, List.set_cons_zero, List.set_cons_succ, i64_w, i32_w]
      rfl
     refine pure_ (i := 14) (N := some 25) (v := ?_) (a' := ?_) #[true, true, true, true, true, true, true, true, true, true, true, true, true, true, true, false, false] rfl rfl (any_of HT_.out (by kernel_rfl)) (fun _ _ _ h => h) (Or.inl ⟨by rfl, ?_⟩) ?_ ?_
     rotate_left
     ·intro w'
      go_simp
      with_reducible rfl
     rotate_left
     ·simp only [Act.put, List.setIfInBounds_toArray, List.set_cons_zero, List.set_cons_succ, i64_w, i32_w]
      rfl
     refine pure_ (i := 15) (N := some 26) (v := ?_) (a' := ?_) #[true, true, true, true, true, true, true, true, true, true, true, true, true, true, true, true, false] rfl rfl (any_of HT_.out (by kernel_rfl)) (fun _ _ _ h => h) (Or.inl ⟨by rfl, ?_⟩) ?_ ?_
     rotate_left
     ·intro w'
      go_simp
      with_reducible rfl
     rotate_left
     ·simp only [Act.put, List.setIfInBounds_toArray, List.set_cons_zero, List.set_cons_succ, i64_w, i32_w]
      rfl
     refine pure_ (i := 16) (N := some 3) (v := ?_) (a' := ?_) #[true, true, true, true, true, true, true, true, true, true, true, true, true, true, true, true, true] rfl rfl (any_of HT_.out (by kernel_rfl)) (fun _ _ _ h => h) (Or.inl ⟨by rfl, ?_⟩) ?_ ?_
     rotate_left
     ·intro w'
      go_simp
      with_reducible rfl
     rotate_left
     ·simp only [Act.put, List.setIfInBounds_toArray, List.set_cons_zero, List.set_cons_succ, i64_w, i32_w]
      rfl
     refine done_ (done_of HT_.out (by kernel_rfl)) ?_
     try go_wp2
     go_roundg k1
     case measure => have := HK1.out; omega
     case rel => exact ⟨(ji7), (wrap64 (x4_1 + 1)), (by first | rfl | (simp; done) | (simp only [← hji7] <;> (first | rfl | simp)) | (simp [*]; done)), (by first | rfl | (simp; done) | (simp [*]; done)), H', ⟨by have := HK1.out; omega⟩, ⟨by repeat (first | (with_reducible first | exact HB.out | apply bal | apply bdN | apply bd1) | exact HB.out)⟩⟩
    ·rw [if_neg c3] at H
     exact absurd H (by simp)
   ·rw [if_neg c2] at H
    have c2b0 : decide (x4_1 < (l0.length : Int)) = false := decide_eq_false c2
    clear c2
    obtain rfl := Option.some.inj H
    go_wp2
    go_ret
    exact ⟨by first | rfl | (simp [*] <;> rfl), by repeat (first | (with_reducible first | exact HB.out | apply bal | apply bdN | apply bd1) | exact HB.out)⟩
mutual
def r3_left.l0 : Nat → List (S47) → Int → Int → Option (Int)
 | 0, _, _, _ => none
 | k + 1, x0, x1, x5 => if x5 < (x0.length : Int) then (r3_left.j1 k x0 x1 x5 (decide (x1 > 0))) else (r3_left.j1 k x0 x1 x5 false)
def r3_left.j1 : Nat → List (S47) → Int → Int → Bool → Option (Int)
 | 0, _, _, _, _ => none
 | k + 1, x0, x1, x5, x14 => if x14 = true then (r3_left.l1 k x0 (wrap64 (x1 - 1)) x5 0) else (some x1)
def r3_left.l1 : Nat → List (S47) → Int → Int → Int → Option (Int)
 | 0, _, _, _, _ => none
 | k + 1, x0, x1, x5, x6 => if 0 ≤ x5 then (if x5 < (x0.length : Int) then (if x6 < (((rd_T47 x0 x5).f2).length : Int) then (if 0 ≤ x6 then ((r2_Left.f k ((rd_T96 ((rd_T47 x0 x5).f2) x6).f0) ((rd_T96 ((rd_T47 x0 x5).f2) x6).f1) ((rd_T96 ((rd_T47 x0 x5).f2) x6).f2) ((rd_T96 ((rd_T47 x0 x5).f2) x6).f3) x1).bind fun t107 => (r3_left.l1 k x0 t107 x5 (wrap64 (x6 + 1)))) else (none)) else ((r3_left.f k ((rd_T47 x0 x5).f3) x1).bind fun t109 => ((r3_left.f k ((rd_T47 x0 x5).f4) t109).bind fun t111 => (r3_left.l0 k x0 t111 (wrap64 (x5 + 1)))))) else (none)) else (none)
def r3_left.f : Nat → List (S47) → Int → Option (Int)
 | 0, _, _ => none
 | k + 1, l0, a1 => r3_left.l0 k l0 a1 0
end
set_option maxHeartbeats 8000000 in
set_option maxRecDepth 100000 in
theorem r3_left.calls (k : Nat) : ∀ (A0 : Option Addr) (c0 : Nat) (l0 : List (S47)) (a1 : Int) (r : Int) (w : World) (hr0 : Kd.C k47 w A0 l0.length l0) (hc0 : l0.length ≤ c0) (h : r3_left.f k l0 a1 = some r),
  Calls Try.prog 43 #[.slice A0 l0.length c0, .int .i64 a1] w fun e w' => e = .returned (.int .i64 r) ∧ Below w.heap.size w w' := by
 induction k using Nat.strongRecOn with
 | _ k ih =>
 intro A0 c0 l0 a1 r w hr0 hc0 h
 cases k with
 | zero => exact absurd h (by simp [r3_left.f])
 | succ k =>
 simp only [r3_left.f] at h
 have hu96 := Try.underlying96
 have HR0 := Aside0.mk hr0
 have HC0 := Aside0.mk hc0
 clear hr0 hc0
 have HB := Aside0.mk (Below.refl w.heap.size w)
 have H : (r3_left.l0 k l0 a1 0) = some r := h
 clear h
 have H' := Aside0.mk H
 clear H
 go_enter Try.func43, Try.ntmps43
 go_wp2
 go_loopg [1, 5] k (fun kq v1 v5 w' => ∃ (x1_1 : Int) (x5_1 : Int), v1 = .int .i64 x1_1 ∧ v5 = .int .i64 x5_1 ∧ Aside0 (r3_left.l0 kq l0 x1_1 x5_1 = some r) ∧ Aside0 (kq ≤ k) ∧ Aside0 (Below w.heap.size w w'))
 case atStart => exact ⟨(a1), (0), (by first | rfl | (simp; done) | (simp [*]; done)), (by first | rfl | (simp; done) | (simp [*]; done)), H', ⟨Nat.le_refl _⟩, ⟨by repeat (first | (with_reducible first | exact HB.out | apply bal | apply bdN | apply bd1) | exact HB.out)⟩⟩
 case round =>
  clear H'
  try clear p2
  obtain ⟨x1_1, x5_1, rfl, rfl, HA, HK1, HB⟩ := hrel
  cases gk with
  | zero => exact absurd HA.out (by simp [r3_left.l0])
  | succ k1 =>
   have H := HA.out
   clear HA
   simp only [r3_left.l0] at H
   have HC3 := Aside0.mk H
   clear H
   go_upto_region 2 with (fail)
   go_cut [14] (fun v14 wc => ∃ (kq : Nat) (x14_2 : Bool), v14 = .bool x14_2 ∧ Aside0 (r3_left.j1 kq l0 x1_1 x5_1 x14_2 = some r) ∧ Aside0 (kq ≤ k1) ∧ Aside0 (Below w.heap.size w wc))
   case first =>
    have H := HC3.out
    clear HC3
    by_cases c4 : x5_1 < (l0.length : Int)
    ·rw [if_pos c4] at H
     have c4b0 : decide (x5_1 < (l0.length : Int)) = true := decide_eq_true c4
     clear c4
     (first | rw [c4b0] | (simp only [i64_w, i32_w]; rw [c4b0]) | skip)
     have H' := Aside0.mk H
     clear H
     go_wp2
     go_meet
     case rel => exact ⟨_, (decide (x1_1 > 0)), (by first | rfl | (simp; done) | (simp [*]; done)), H', ⟨by have := HK1.out; first | omega | exact Nat.le_refl _⟩, ⟨by repeat (first | (with_reducible first | exact HB.out | apply bal | apply bdN | apply bd1) | exact HB.out)⟩⟩
    ·rw [if_neg c4] at H
     have c4b0 : decide (x5_1 < (l0.length : Int)) = false := decide_eq_false c4
     clear c4
     (first | rw [c4b0] | (simp only [i64_w, i32_w]; rw [c4b0]) | skip)
     have H' := Aside0.mk H
     clear H
     go_wp2
     go_meet
     case rel => exact ⟨_, (false), (by first | rfl | (simp; done) | (simp [*]; done)), H', ⟨by have := HK1.out; first | omega | exact Nat.le_refl _⟩, ⟨by repeat (first | (with_reducible first | exact HB.out | apply bal | apply bdN | apply bd1) | exact HB.out)⟩⟩
   case rest =>
    clear HC3
    try clear p2
    try clear c4
    try clear c4b0
    try clear p2
    obtain ⟨kq, x14_2, rfl, HA, HJ2, HB⟩ := hcut
    cases kq with
    | zero => exact absurd HA.out (by simp [r3_left.j1])
    | succ kj2 =>
     have H := HA.out
     clear HA
     simp only [r3_left.j1] at H
     by_cases c5 : x14_2 = true
     ·subst c5
      have H1 : (r3_left.l1 kj2 l0 (wrap64 (x1_1 - 1)) x5_1 0) = some r := by rw [if_pos rfl] at H; exact H
      clear H
      have H := H1
      clear H1
      have H' := Aside0.mk H
      clear H
      go_wp2
      go_loopg [1, 6] kj2 (fun kq v1 v6 w' => ∃ (x1_3 : Int) (x6_3 : Int), v1 = .int .i64 x1_3 ∧ v6 = .int .i64 x6_3 ∧ Aside0 (r3_left.l1 kq l0 x1_3 x5_1 x6_3 = some r) ∧ Aside0 (kq ≤ kj2) ∧ Aside0 (Below w.heap.size w w'))
      case atStart => exact ⟨(wrap64 (x1_1 - 1)), (0), (by first | rfl | (simp; done) | (simp [*]; done)), (by first | rfl | (simp; done) | (simp [*]; done)), H', ⟨Nat.le_refl _⟩, ⟨by repeat (first | (with_reducible first | exact HB.out | apply bal | apply bdN | apply bd1) | exact HB.out)⟩⟩
      case round =>
       clear H'
       try clear p2
       try clear c4
       try clear c4b0
       try clear c5
       try clear p2
       obtain ⟨x1_3, x6_3, rfl, rfl, HA, HK3, HB⟩ := hrel
       cases gk with
       | zero => exact absurd HA.out (by simp [r3_left.l1])
       | succ k3 =>
        have H := HA.out
        clear HA
        simp only [r3_left.l1] at H
        by_cases c6 : 0 ≤ x5_1
        ·rw [if_pos c6] at H
         have c6b0 : decide (0 ≤ x5_1) = true := decide_eq_true c6
         clear c6
         by_cases c7 : x5_1 < (l0.length : Int)
         ·rw [if_pos c7] at H
          have c7b0 : decide (x5_1 < (l0.length : Int)) = true := decide_eq_true c7
          clear c7
          by_cases c8 : x6_3 < (((rd_T47 l0 x5_1).f2).length : Int)
          ·rw [if_pos c8] at H
           have c8b0 : decide (x6_3 < (((rd_T47 l0 x5_1).f2).length : Int)) = true := decide_eq_true c8
           clear c8
           by_cases c9 : 0 ≤ x6_3
           ·rw [if_pos c9] at H
            have c9b0 : decide (0 ≤ x6_3) = true := decide_eq_true c9
            clear c9
            replace H := Option.bind_eq_some_iff.mp H
            obtain ⟨t107, A100, H⟩ := H
            replace H : (r3_left.l1 k3 l0 t107 x5_1 (wrap64 (x6_3 + 1))) = some r := H
            have A10 := Aside0.mk A100
            clear A100
            have H' := Aside0.mk H
            clear H
            have p104 : 0 ≤ (x5_1 : Int) := of_decide_eq_true (by first | (with_reducible assumption) | assumption)
            have q104 : x5_1 < (l0.length : Int) := of_decide_eq_true (by first | (with_reducible assumption) | assumption)
            obtain ⟨ad104, A104_2, c104_2, A104_3, c104_3, A104_4, c104_4, e104, hx104_0, hx104_1, hx104_2, hx104_3, hx104_4, hl104_2, hi104_2, hl104_3, hi104_3, hl104_4, hi104_4⟩ := at_T47 HR0.out x5_1 p104 q104
            cases e104
            replace hx104_0 := bcell HB.out hx104_0
            replace hx104_1 := bcell HB.out hx104_1
            replace hx104_2 := bcell HB.out hx104_2
            replace hx104_3 := bcell HB.out hx104_3
            replace hx104_4 := bcell HB.out hx104_4
            have HR104_2 := Aside0.mk hi104_2
            have HC104_2 := Aside0.mk hl104_2
            clear hi104_2 hl104_2
            have HR104_3 := Aside0.mk hi104_3
            have HC104_3 := Aside0.mk hl104_3
            clear hi104_3 hl104_3
            have HR104_4 := Aside0.mk hi104_4
            have HC104_4 := Aside0.mk hl104_4
            clear hi104_4 hl104_4
            replace p104 := eq_true p104
            replace q104 := eq_true q104
            have p105 : 0 ≤ (x5_1 : Int) := of_decide_eq_true (by first | (with_reducible assumption) | assumption)
            have q105 : x5_1 < (l0.length : Int) := of_decide_eq_true (by first | (with_reducible assumption) | assumption)
            obtain ⟨ad105, A105_2, c105_2, A105_3, c105_3, A105_4, c105_4, e105, hx105_0, hx105_1, hx105_2, hx105_3, hx105_4, hl105_2, hi105_2, hl105_3, hi105_3, hl105_4, hi105_4⟩ := at_T47 HR0.out x5_1 p105 q105
            obtain rfl : ad104 = ad105 := (by injection e105)
            replace hx105_0 := bcell HB.out hx105_0
            replace hx105_1 := bcell HB.out hx105_1
            replace hx105_2 := bcell HB.out hx105_2
            replace hx105_3 := bcell HB.out hx105_3
            replace hx105_4 := bcell HB.out hx105_4
            have HR105_2 := Aside0.mk hi105_2
            have HC105_2 := Aside0.mk hl105_2
            clear hi105_2 hl105_2
            have HR105_3 := Aside0.mk hi105_3
            have HC105_3 := Aside0.mk hl105_3
            clear hi105_3 hl105_3
            have HR105_4 := Aside0.mk hi105_4
            have HC105_4 := Aside0.mk hl105_4
            clear hi105_4 hl105_4
            replace p105 := eq_true p105
            replace q105 := eq_true q105
            have ea_ := Option.some.inj (hx104_2.symm.trans hx105_2)
            injection ea_ with ea_ en_ ec_
            subst ea_
            subst ec_
            clear en_
            have ea_ := Option.some.inj (hx104_3.symm.trans hx105_3)
            injection ea_ with ea_ en_ ec_
            subst ea_
            subst ec_
            clear en_
            have ea_ := Option.some.inj (hx104_4.symm.trans hx105_4)
            injection ea_ with ea_ en_ ec_
            subst ea_
            subst ec_
            clear en_
            have p106 : 0 ≤ (x6_3 : Int) := of_decide_eq_true (by first | (with_reducible assumption) | assumption)
            have q106 : x6_3 < (((rd_T47 l0 x5_1).f2).length : Int) := of_decide_eq_true (by first | (with_reducible assumption) | assumption)
            obtain ⟨ad106, A106_3, c106_3, e106, hx106_0, hx106_1, hx106_2, hx106_3, hl106_3, hi106_3⟩ := at_T96 HR105_2.out x6_3 p106 q106
            cases e106
            replace hx106_0 := bcell HB.out hx106_0
            replace hx106_1 := bcell HB.out hx106_1
            replace hx106_2 := bcell HB.out hx106_2
            replace hx106_3 := bcell HB.out hx106_3
            have HR106_3 := Aside0.mk hi106_3
            have HC106_3 := Aside0.mk hl106_3
            clear hi106_3 hl106_3
            replace p106 := eq_true p106
            replace q106 := eq_true q106
            go_wp2_with (first | ((with_reducible refine gate_callee (f := 67) rfl ?_); refine goesL_ (some 38) rfl rfl Try.func67 (by kernel_rfl) rfl #[.agg #[.int .i64 ((rd_T96 ((rd_T47 l0 x5_1).f2) x6_3).f0), .int .i64 ((rd_T96 ((rd_T47 l0 x5_1).f2) x6_3).f1), .int .i64 ((rd_T96 ((rd_T47 l0 x5_1).f2) x6_3).f2), .slice A106_3 ((rd_T96 ((rd_T47 l0 x5_1).f2) x6_3).f3).length c106_3], .int .i64 x1_3] rfl (by (try simp only [List.map_toArray, List.map_cons, List.map_nil]); first | done | rfl | (simp only [List.length_drop, List.length_take]; rfl)) ?_; (with_reducible refine (r2_Left.calls k3 ((rd_T96 ((rd_T47 l0 x5_1).f2) x6_3).f0) ((rd_T96 ((rd_T47 l0 x5_1).f2) x6_3).f1) ((rd_T96 ((rd_T47 l0 x5_1).f2) x6_3).f2) _ _ ((rd_T96 ((rd_T47 l0 x5_1).f2) x6_3).f3) x1_3 t107 _ ?side1 ?side2 A10.out).mono ?_); (case side1 => repeat (first | exact (Kd.C_below HR106_3.out HB.out) | with_reducible first | apply Kd.C_alloc | apply Kd.C_drewN | apply Kd.C_drew)); (case side2 => exact HC106_3.out); rintro e w11 ⟨rfl, hb⟩; refine ⟨_, rfl, ?_⟩; have n0_ := Aside0.mk (bsp (by repeat (first | (with_reducible first | exact HB.out | apply bal | apply bdN | apply bd1) | exact HB.out)) hb); clear HB; have HB := n0_; clear n0_; (try clear hb); (try clear hb2); (try clear hk); (try clear hi)))
            go_roundg k3
            case measure => have := HK1.out; have := HJ2.out; have := HK3.out; omega
            case rel => exact ⟨(t107), (wrap64 (x6_3 + 1)), (by first | rfl | (simp; done) | (simp [*]; done)), (by first | rfl | (simp; done) | (simp [*]; done)), H', ⟨by have := HK1.out; have := HJ2.out; have := HK3.out; omega⟩, ⟨by repeat (first | (with_reducible first | exact HB.out | apply bal | apply bdN | apply bd1) | exact HB.out)⟩⟩
           ·rw [if_neg c9] at H
            exact absurd H (by simp)
          ·rw [if_neg c8] at H
           have c8b0 : decide (x6_3 < (((rd_T47 l0 x5_1).f2).length : Int)) = false := decide_eq_false c8
           clear c8
           replace H := Option.bind_eq_some_iff.mp H
           obtain ⟨t109, A120, H⟩ := H
           replace H : ((r3_left.f k3 ((rd_T47 l0 x5_1).f4) t109).bind fun t111 => (r3_left.l0 k3 l0 t111 (wrap64 (x5_1 + 1)))) = some r := H
           have A12 := Aside0.mk A120
           clear A120
           replace H := Option.bind_eq_some_iff.mp H
           obtain ⟨t111, A130, H⟩ := H
           replace H : (r3_left.l0 k3 l0 t111 (wrap64 (x5_1 + 1))) = some r := H
           have A13 := Aside0.mk A130
           clear A130
           have H' := Aside0.mk H
           clear H
           have p104 : 0 ≤ (x5_1 : Int) := of_decide_eq_true (by first | (with_reducible assumption) | assumption)
           have q104 : x5_1 < (l0.length : Int) := of_decide_eq_true (by first | (with_reducible assumption) | assumption)
           obtain ⟨ad104, A104_2, c104_2, A104_3, c104_3, A104_4, c104_4, e104, hx104_0, hx104_1, hx104_2, hx104_3, hx104_4, hl104_2, hi104_2, hl104_3, hi104_3, hl104_4, hi104_4⟩ := at_T47 HR0.out x5_1 p104 q104
           cases e104
           replace hx104_0 := bcell HB.out hx104_0
           replace hx104_1 := bcell HB.out hx104_1
           replace hx104_2 := bcell HB.out hx104_2
           replace hx104_3 := bcell HB.out hx104_3
           replace hx104_4 := bcell HB.out hx104_4
           have HR104_2 := Aside0.mk hi104_2
           have HC104_2 := Aside0.mk hl104_2
           clear hi104_2 hl104_2
           have HR104_3 := Aside0.mk hi104_3
           have HC104_3 := Aside0.mk hl104_3
           clear hi104_3 hl104_3
           have HR104_4 := Aside0.mk hi104_4
           have HC104_4 := Aside0.mk hl104_4
           clear hi104_4 hl104_4
           replace p104 := eq_true p104
           replace q104 := eq_true q104
           have p108 : 0 ≤ (x5_1 : Int) := of_decide_eq_true (by first | (with_reducible assumption) | assumption)
           have q108 : x5_1 < (l0.length : Int) := of_decide_eq_true (by first | (with_reducible assumption) | assumption)
           obtain ⟨ad108, A108_2, c108_2, A108_3, c108_3, A108_4, c108_4, e108, hx108_0, hx108_1, hx108_2, hx108_3, hx108_4, hl108_2, hi108_2, hl108_3, hi108_3, hl108_4, hi108_4⟩ := at_T47 HR0.out x5_1 p108 q108
           obtain rfl : ad104 = ad108 := (by injection e108)
           replace hx108_0 := bcell HB.out hx108_0
           replace hx108_1 := bcell HB.out hx108_1
           replace hx108_2 := bcell HB.out hx108_2
           replace hx108_3 := bcell HB.out hx108_3
           replace hx108_4 := bcell HB.out hx108_4
           have HR108_2 := Aside0.mk hi108_2
           have HC108_2 := Aside0.mk hl108_2
           clear hi108_2 hl108_2
           have HR108_3 := Aside0.mk hi108_3
           have HC108_3 := Aside0.mk hl108_3
           clear hi108_3 hl108_3
           have HR108_4 := Aside0.mk hi108_4
           have HC108_4 := Aside0.mk hl108_4
           clear hi108_4 hl108_4
           replace p108 := eq_true p108
           replace q108 := eq_true q108
           have ea_ := Option.some.inj (hx104_2.symm.trans hx108_2)
           injection ea_ with ea_ en_ ec_
           subst ea_
           subst ec_
           clear en_
           have ea_ := Option.some.inj (hx104_3.symm.trans hx108_3)
           injection ea_ with ea_ en_ ec_
           subst ea_
           subst ec_
           clear en_
           have ea_ := Option.some.inj (hx104_4.symm.trans hx108_4)
           injection ea_ with ea_ en_ ec_
           subst ea_
           subst ec_
           clear en_
           go_wp2_with (first | ((with_reducible refine gate_callee (f := 43) rfl ?_); refine goesL_ (some 45) rfl rfl Try.func43 (by kernel_rfl) rfl #[.slice A104_3 ((rd_T47 l0 x5_1).f3).length c104_3, .int .i64 x1_3] rfl (by (try simp only [List.map_toArray, List.map_cons, List.map_nil]); first | done | rfl | (simp only [List.length_drop, List.length_take]; rfl)) ?_; (with_reducible refine (ih k3 (by have := HK1.out; have := HJ2.out; have := HK3.out; omega) _ _ ((rd_T47 l0 x5_1).f3) x1_3 t109 _ ?side1 ?side2 A12.out).mono ?_); (case side1 => repeat (first | exact (Kd.C_below HR108_3.out HB.out) | with_reducible first | apply Kd.C_alloc | apply Kd.C_drewN | apply Kd.C_drew)); (case side2 => exact HC108_3.out); rintro e w14 ⟨rfl, hb⟩; refine ⟨_, rfl, ?_⟩; have n0_ := Aside0.mk (bsp (by repeat (first | (with_reducible first | exact HB.out | apply bal | apply bdN | apply bd1) | exact HB.out)) hb); clear HB; have HB := n0_; clear n0_; (try clear hb); (try clear hb2); (try clear hk); (try clear hi); have p110 : 0 ≤ (x5_1 : Int) := of_decide_eq_true (by first | (with_reducible assumption) | assumption); have q110 : x5_1 < (l0.length : Int) := of_decide_eq_true (by first | (with_reducible assumption) | assumption); obtain ⟨ad110, A110_2, c110_2, A110_3, c110_3, A110_4, c110_4, e110, hx110_0, hx110_1, hx110_2, hx110_3, hx110_4, hl110_2, hi110_2, hl110_3, hi110_3, hl110_4, hi110_4⟩ := at_T47 HR0.out x5_1 p110 q110; obtain rfl : ad104 = ad110 := (by injection e110); replace hx110_0 := bcell HB.out hx110_0; replace hx110_1 := bcell HB.out hx110_1; replace hx110_2 := bcell HB.out hx110_2; replace hx110_3 := bcell HB.out hx110_3; replace hx110_4 := bcell HB.out hx110_4; have HR110_2 := Aside0.mk hi110_2; have HC110_2 := Aside0.mk hl110_2; clear hi110_2 hl110_2; have HR110_3 := Aside0.mk hi110_3; have HC110_3 := Aside0.mk hl110_3; clear hi110_3 hl110_3; have HR110_4 := Aside0.mk hi110_4; have HC110_4 := Aside0.mk hl110_4; clear hi110_4 hl110_4; replace p110 := eq_true p110; replace q110 := eq_true q110) | ((with_reducible refine gate_callee (f := 43) rfl ?_); refine goesL_ (some 52) rfl rfl Try.func43 (by kernel_rfl) rfl #[.slice A110_4 ((rd_T47 l0 x5_1).f4).length c110_4, .int .i64 t109] rfl (by (try simp only [List.map_toArray, List.map_cons, List.map_nil]); first | done | rfl | (simp only [List.length_drop, List.length_take]; rfl)) ?_; (with_reducible refine (ih k3 (by have := HK1.out; have := HJ2.out; have := HK3.out; omega) _ _ ((rd_T47 l0 x5_1).f4) t109 t111 _ ?side1 ?side2 A13.out).mono ?_); (case side1 => repeat (first | exact (Kd.C_below HR110_4.out HB.out) | with_reducible first | apply Kd.C_alloc | apply Kd.C_drewN | apply Kd.C_drew)); (case side2 => exact HC110_4.out); rintro e w15 ⟨rfl, hb⟩; refine ⟨_, rfl, ?_⟩; have n0_ := Aside0.mk (bsp (by repeat (first | (with_reducible first | exact HB.out | apply bal | apply bdN | apply bd1) | exact HB.out)) hb); clear HB; have HB := n0_; clear n0_; (try clear hb); (try clear hb2); (try clear hk); (try clear hi)))
           go_roundg k3
           case measure => have := HK1.out; have := HJ2.out; have := HK3.out; omega
           case rel => exact ⟨(t111), (wrap64 (x5_1 + 1)), (by first | rfl | (simp; done) | (simp [*]; done)), (by first | rfl | (simp; done) | (simp [*]; done)), H', ⟨by have := HK1.out; have := HJ2.out; have := HK3.out; omega⟩, ⟨by repeat (first | (with_reducible first | exact HB.out | apply bal | apply bdN | apply bd1) | exact HB.out)⟩⟩
         ·rw [if_neg c7] at H
          exact absurd H (by simp)
        ·rw [if_neg c6] at H
         exact absurd H (by simp)
     ·replace c5 := Bool.eq_false_iff.mpr c5
      subst c5
      have H1 : (some x1_1) = some r := by rw [if_neg (show ¬ (false = true) by decide)] at H; exact H
      clear H
      have H := H1
      clear H1
      obtain rfl := Option.some.inj H
      go_wp2
      go_ret
      exact ⟨by first | rfl | (simp [*] <;> rfl), by repeat (first | (with_reducible first | exact HB.out | apply bal | apply bdN | apply bd1) | exact HB.out)⟩
def r3_Fits.f (k : Nat) (l0 : List (S47)) (a1 : Int) : Option (Bool) := (r3_left.f k l0 (wrap64 (a1 + 1))).bind fun t112 => (some (decide (t112 > 0)))
set_option maxHeartbeats 8000000 in
set_option maxRecDepth 100000 in
theorem r3_Fits.calls (k : Nat) (A0 : Option Addr) (c0 : Nat) (l0 : List (S47)) (a1 : Int) (r : Bool) (w : World) (hr0 : Kd.C k47 w A0 l0.length l0) (hc0 : l0.length ≤ c0) (h : r3_Fits.f k l0 a1 = some r) :
  Calls Try.prog 11 #[.slice A0 l0.length c0, .int .i64 a1] w fun e w' => e = .returned (.bool r) ∧ Below w.heap.size w w' := by
 have HR0 := Aside0.mk hr0
 have HC0 := Aside0.mk hc0
 clear hr0 hc0
 have HB := Aside0.mk (Below.refl w.heap.size w)
 have H : ((r3_left.f k l0 (wrap64 (a1 + 1))).bind fun t112 => (some (decide (t112 > 0)))) = some r := h
 clear h
 replace H := Option.bind_eq_some_iff.mp H
 obtain ⟨t112, A30, H⟩ := H
 replace H : (some (decide (t112 > 0))) = some r := H
 have A3 := Aside0.mk A30
 clear A30
 obtain rfl := Option.some.inj H
 go_enter Try.func11, Try.ntmps11
 go_wp2_with (first | ((with_reducible refine gate_callee (f := 43) rfl ?_); refine goesL_ (some 8) rfl rfl Try.func43 (by kernel_rfl) rfl #[.slice A0 l0.length c0, .int .i64 (wrap64 (a1 + 1))] rfl (by (try simp only [List.map_toArray, List.map_cons, List.map_nil]); first | done | rfl | (simp only [List.length_drop, List.length_take]; rfl)) ?_; (with_reducible refine (r3_left.calls k _ _ l0 (wrap64 (a1 + 1)) t112 _ ?side1 ?side2 A3.out).mono ?_); (case side1 => repeat (first | exact HR0.out | with_reducible first | apply Kd.C_alloc | apply Kd.C_drewN | apply Kd.C_drew)); (case side2 => exact HC0.out); rintro e w4 ⟨rfl, hb⟩; refine ⟨_, rfl, ?_⟩; have n0_ := Aside0.mk (bsp (by repeat (first | (with_reducible first | exact HB.out | apply bal | apply bdN | apply bd1) | exact HB.out)) hb); clear HB; have HB := n0_; clear n0_; (try clear hb); (try clear hb2); (try clear hk); (try clear hi)))
 go_ret
 exact ⟨by first | rfl | (simp [*] <;> rfl), by repeat (first | (with_reducible first | exact HB.out | apply bal | apply bdN | apply bd1) | exact HB.out)⟩
end Go.Proofs.Ytffcpbgbhkbplaa.Print
