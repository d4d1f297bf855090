/- For every program and number the law ProgOwn returns true, and what came in reads as before. No condition. -/
import Derived.Test.YtffcpbgbhkbplaaW5
set_option maxRecDepth 100000
set_option maxHeartbeats 16000000
namespace Go.Proofs.Ytffcpbgbhkbplaa.Print
open Go.RowKit Go.Proofs.YtffcpbgbhkbplaaW.PrintWords Go.Proofs.YtffcpbgbhkbplaaW.PrintLast Go.Proofs.YtffcpbgbhkbplaaW.PrintMore
attribute [local go_sem] max2_int min2_int max_two min_two max_three min_three max_four min_four
set_option linter.unusedVariables false
set_option linter.unusedSimpArgs false
open Go.RowKit
inductive Shape
  | v (x : S82) | ex (x : S96) | s (x : S47) | rv (l : List S82) | re (l : List S96) | rs (l : List S47) | p (n : Int) (l : List S82) (m : List S47)
def Shape.at (B : Nat) (W : World) (v : Value) : Shape → Prop
  | .v x => Is k82 B W v x
  | .ex x => Is k96 B W v x
  | .s x => Is k47 B W v x
  | .rv l => IsRow k82 B 82 W v l
  | .re l => IsRow k96 B 96 W v l
  | .rs l => IsRow k47 B 47 W v l
  | .p n l m => ∃ v2 v3, v = .agg #[.int .i64 n, v2, v3] ∧ IsRow k82 B 82 W v2 l ∧ IsRow k47 B 47 W v3 m
theorem Shape.at.below {B : Nat} {W W1 : World} {v : Value} : ∀ {q : Shape}, q.at B W v → Below W.heap.size W W1 → q.at B W1 v
  | .v _, h, hb => Is.below h hb
  | .ex _, h, hb => Is.below h hb
  | .s _, h, hb => Is.below h hb
  | .rv _, h, hb => IsRow.below h hb
  | .re _, h, hb => IsRow.below h hb
  | .rs _, h, hb => IsRow.below h hb
  | .p _ _ _, ⟨v2, v3, e1, h2, h3⟩, hb => ⟨v2, v3, e1, IsRow.below h2 hb, IsRow.below h3 hb⟩
def one_c1 : S96 := ⟨0, 1, 0, []⟩
def one_c2 : S96 := ⟨0, 2, 0, []⟩
def one_r0 : S96 := ⟨1, 0, 0, []⟩
def one_r1 : S96 := ⟨1, 1, 0, []⟩
def one_x0 : S82 := ⟨{ data := #[104] }, 1, 1⟩
def one_x1 : S82 := ⟨{ data := #[108] }, 0, 1⟩
def one_s5 : S47 := ⟨0, 0, [one_c1], [], []⟩
def one_s10 : S47 := ⟨0, 1, [one_c2], [], []⟩
def one_s13 : S47 := ⟨3, 0, [one_r1], [], []⟩
def one_s17 : S47 := ⟨5, 0, [one_r1], [], []⟩
def one_s19 : S47 := ⟨1, 0, [one_r0], [one_s10, one_s13], [one_s17]⟩
def one_s22 : S47 := ⟨6, 0, [one_c1], [], []⟩
def one_vars : List S82 := [one_x0, one_x1]
def one_body : List S47 := [one_s5, one_s19, one_s22]
def oneShape : Nat → Shape
  | 0 => .v one_x0 | 1 => .v one_x1 | 2 => .rv one_vars | 3 => .ex one_c1 | 4 => .re [one_c1] | 5 => .s one_s5 | 6 => .ex one_r0 | 7 => .re [one_r0] | 8 => .ex one_c2 | 9 => .re [one_c2] | 10 => .s one_s10
  | 11 => .ex one_r1 | 12 => .re [one_r1] | 13 => .s one_s13 | 14 => .rs [one_s10, one_s13] | 15 => .ex one_r1 | 16 => .re [one_r1] | 17 => .s one_s17 | 18 => .rs [one_s17] | 19 => .s one_s19 | 20 => .ex one_c1
  | 21 => .re [one_c1] | 22 => .s one_s22 | 23 => .rs one_body | _ => .p 2 one_vars one_body
structure OneInv (w : World) (g1 g2 : Nat) (L : Array Bool) (a : Act) (W : World) : Prop where
  len : L.size = 26
  size : a.tmps.size = 30
  defers : a.defers = []
  t0 : a.tmps.getD 0 undef = .pointer (some ⟨w.heap.size, 0, none⟩)
  t1 : a.tmps.getD 1 undef = .pointer (some ⟨g1, 0, none⟩)
  t2 : a.tmps.getD 2 undef = .pointer (some ⟨g2, 0, none⟩)
  below : Below w.heap.size w W
  b1 : ∃ D d, W.heap[g1]? = some (.cells #[.int .i64 1, .int .i64 0, .int .i64 0, .slice D 0 d] 96 (0, 0))
  b2 : ∃ D d, W.heap[g2]? = some (.cells #[.int .i64 1, .int .i64 1, .int .i64 0, .slice D 0 d] 96 (0, 0))
  lt : w.heap.size + 1 ≤ W.heap.size
  all : L.getD 25 false = true → ∀ j, j < 25 → L.getD j true = true
  facts : L.getD 25 false = false → ∀ j, j < 25 → L.getD j false = true → (oneShape j).at (w.heap.size + 1) W (a.tmps.getD (5 + j) undef)
  done : L.getD 25 false = true → ∃ v2 v3, W.heap[w.heap.size]? = some (.cells #[.int .i64 2, v2, v3] 25 (0, 0)) ∧ IsRow k82 (w.heap.size + 1) 82 W v2 one_vars ∧ IsRow k47 (w.heap.size + 1) 47 W v3 one_body
  open_ : L.getD 25 false = false → W.heap[w.heap.size]? = some (.cells #[.int .i64 0, .slice none 0 0, .slice none 0 0] 25 (0, 0))
theorem getD_set {α : Type} (A : Array α) (i j : Nat) (x d : α) (hi : i < A.size) : (A.setIfInBounds i x).getD j d = if j = i then x else A.getD j d := by
  by_cases h : j = i
  · subst h
    simp [Array.getD, hi]
  · rw [if_neg h]
    simp only [Array.getD_eq_getD_getElem?, Array.getElem?_setIfInBounds]
    rw [if_neg (Ne.symm h)]
theorem size_lit (W : World) (o : Obj) : (W.alloc o).heap.size = W.heap.size + 1 := by simp
theorem OneInv.no {w W : World} {g1 g2 : Nat} {L : Array Bool} {a : Act} {i : Nat} (h : OneInv w g1 g2 L a W) (hi : i < 25) (hl : L.getD i true = false) : L.getD 25 false = false := by
  cases h25 : L.getD 25 false with
  | false => rfl
  | true =>
    have := h.all h25 i hi
    rw [hl] at this
    cases this
theorem OneInv.put {w W W1 : World} {g1 g2 : Nat} {L : Array Bool} {a : Act} {v : Value} {i d : Nat} (h : OneInv w g1 g2 L a W) (hi : i < 25) (hd : d = 5 + i) (hb : Below W.heap.size W W1) (hv : (oneShape i).at (w.heap.size + 1) W1 v) : OneInv w g1 g2 (L.setIfInBounds i true) (a.put (some d) v) W1 := by
  subst hd
  have hs : 5 + i < a.tmps.size := by rw [h.size]; omega
  have g : ∀ j, (a.put (some (5 + i)) v).tmps.getD j undef = if j = 5 + i then v else a.tmps.getD j undef := fun j => getD_set _ _ _ _ _ hs
  have l25 : (L.setIfInBounds i true).getD 25 false = L.getD 25 false := by
    simp only [Array.getD_eq_getD_getElem?, Array.getElem?_setIfInBounds]
    rw [if_neg (by omega)]
  refine ⟨by simp [h.len], by simp [Act.put, h.size], h.defers, ?_, ?_, ?_, h.below.trans (hb.mono h.below.size), ?_, ?_, Nat.le_trans h.lt hb.size, ?_, ?_, ?_, ?_⟩
  · rw [g, if_neg (by omega)]; exact h.t0
  · rw [g, if_neg (by omega)]; exact h.t1
  · rw [g, if_neg (by omega)]; exact h.t2
  · obtain ⟨D, d, e⟩ := h.b1
    exact ⟨D, d, (hb.block _ (blk_lt e)).trans e⟩
  · obtain ⟨D, d, e⟩ := h.b2
    exact ⟨D, d, (hb.block _ (blk_lt e)).trans e⟩
  · intro h25 j hj
    have h1 := h.all (l25 ▸ h25) j hj
    by_cases hji : j = i
    · subst hji
      rcases Nat.lt_or_ge j L.size with hs | hs
      · simp [Array.getD, hs]
      · simp [Array.getD, Nat.not_lt.mpr hs]
    · have : (L.setIfInBounds i true).getD j true = L.getD j true := by
        simp only [Array.getD_eq_getD_getElem?, Array.getElem?_setIfInBounds]
        rw [if_neg (by omega)]
      rw [this]
      exact h1
  · intro h25 j hj hl
    rw [g]
    by_cases hji : j = i
    · subst hji
      rw [if_pos rfl]
      exact hv
    · rw [if_neg (by omega)]
      refine (h.facts (l25 ▸ h25) j hj ?_).below hb
      have : (L.setIfInBounds i true).getD j false = L.getD j false := by
        simp only [Array.getD_eq_getD_getElem?, Array.getElem?_setIfInBounds]
        rw [if_neg (by omega)]
      rw [← this]
      exact hl
  · intro hl
    obtain ⟨v2, v3, e, r2, r3⟩ := h.done (l25 ▸ hl)
    exact ⟨v2, v3, (hb.block _ (blk_lt e)).trans e, r2.below hb, r3.below hb⟩
  · intro hl
    have e := h.open_ (l25 ▸ hl)
    exact (hb.block _ (blk_lt e)).trans e
theorem step_value {P : Program} {ops : Array Oper} {Q : Exit → Act → World → Prop} {i : Nat} {K : Act → World → Prop} {a : Act} {W W1 : World} {o : Oper} {v : Value} (ho : ops[i]? = some o) (hg : o.guard = none) (hrun : (execOp a.eval o).run P W = .ok (.value v) W1) (hK : K (a.put o.dst v) W1) : wpOp P ops Q i K a W := by
  unfold wpOp
  rw [ho]
  have hw : Region.wanted o (yielded ops a.tmps) = true := by simp [Region.wanted, hg]
  simp only [hw, if_true]
  left
  unfold Oper.wp
  rw [hrun]
  exact hK
theorem step_enter {P : Program} {ops : Array Oper} {Q : Exit → Act → World → Prop} {i : Nat} {K : Act → World → Prop} {a : Act} {W W1 : World} {o : Oper} {f : FuncId} {args : Array Value} (ho : ops[i]? = some o) (hg : o.guard = none) (hrun : (execOp a.eval o).run P W = .ok (.enter f args) W1)
    (hc : Calls P f args W1 fun e w' => ∃ v, e = .returned v ∧ K (a.put o.dst v) w') : wpOp P ops Q i K a W := by
  unfold wpOp
  rw [ho]
  have hw : Region.wanted o (yielded ops a.tmps) = true := by simp [Region.wanted, hg]
  simp only [hw, if_true]
  left
  unfold Oper.wp
  rw [hrun]
  refine hc.mono ?_
  rintro e w' ⟨v, rfl, hk⟩
  exact hk
theorem step_skip {P : Program} {ops : Array Oper} {Q : Exit → Act → World → Prop} {i : Nat} {K : Act → World → Prop} {a : Act} {W W1 : World} {o : Oper} (ho : ops[i]? = some o) (hg : o.guard = none) (hrun : (execOp a.eval o).run P W = .ok .skip W1) (hK : K (a.put o.dst undef) W1) : wpOp P ops Q i K a W := by
  unfold wpOp
  rw [ho]
  have hw : Region.wanted o (yielded ops a.tmps) = true := by simp [Region.wanted, hg]
  simp only [hw, if_true]
  left
  unfold Oper.wp
  rw [hrun]
  exact hK
theorem getD_tf {L : Array Bool} {i : Nat} (h : L.getD i true = false) : L.getD i false = false := by
  rcases Nat.lt_or_ge i L.size with hs | hs
  · simp [Array.getD, hs] at h ⊢
    exact h
  · simp [Array.getD, Nat.not_lt.mpr hs] at h
theorem getD_ft {L : Array Bool} {i : Nat} (h : L.getD i false = true) : L.getD i true = true := by
  rcases Nat.lt_or_ge i L.size with hs | hs
  · simp [Array.getD, hs] at h ⊢
    exact h
  · simp [Array.getD, Nat.not_lt.mpr hs] at h
theorem lit_below {n B i : Nat} (W : World) (u : Value) (h : n ≤ B) : Below n W (W.setCell ⟨B, i, none⟩ u) := ⟨rfl, rfl, rfl, by simp [World.setCell], fun k hk => Below.heap_setCell _ _ _ _ (by intro e; simp at e; omega)⟩
theorem OneInv.close {w W : World} {g1 g2 : Nat} {L : Array Bool} {a : Act} {v2 v3 : Value} (h : OneInv w g1 g2 L a W) (h1 : w.heap.size < g1) (h2 : w.heap.size < g2) (hl : L.getD 25 true = false) (hA : ∀ j, j < 25 → L.getD j false = true)
    (r2 : IsRow k82 (w.heap.size + 1) 82 W v2 one_vars) (r3 : IsRow k47 (w.heap.size + 1) 47 W v3 one_body) :
    OneInv w g1 g2 (L.setIfInBounds 25 true) a (((W.setCell ⟨w.heap.size, 0, none⟩ (.int .i64 2)).setCell ⟨w.heap.size, 1, none⟩ v2).setCell ⟨w.heap.size, 2, none⟩ v3) := by
  have hO := h.open_ (getD_tf hl)
  have k0 := blk_put hO 0 (.int .i64 2) (cs' := #[.int .i64 2, .slice none 0 0, .slice none 0 0]) rfl
  have k1 := blk_put k0 1 v2 (cs' := #[.int .i64 2, v2, .slice none 0 0]) rfl
  have k2 := blk_put k1 2 v3 (cs' := #[.int .i64 2, v2, v3]) rfl
  have hs : 25 < L.size := by
    rcases Nat.lt_or_ge 25 L.size with hs | hs
    · exact hs
    · simp [Array.getD, Nat.not_lt.mpr hs] at hl
  have t25 : (L.setIfInBounds 25 true).getD 25 false = true := by simp [Array.getD, hs]
  have far : ∀ k, k ≠ w.heap.size → (((W.setCell ⟨w.heap.size, 0, none⟩ (.int .i64 2)).setCell ⟨w.heap.size, 1, none⟩ v2).setCell ⟨w.heap.size, 2, none⟩ v3).heap[k]? = W.heap[k]? := fun k hk => by
    rw [Below.heap_setCell _ _ _ _ hk, Below.heap_setCell _ _ _ _ hk, Below.heap_setCell _ _ _ _ hk]
  have hb : Below w.heap.size W (((W.setCell ⟨w.heap.size, 0, none⟩ (.int .i64 2)).setCell ⟨w.heap.size, 1, none⟩ v2).setCell ⟨w.heap.size, 2, none⟩ v3) :=
    ((lit_below W _ (Nat.le_refl _)).trans (lit_below _ _ (Nat.le_refl _))).trans (lit_below _ _ (Nat.le_refl _))
  refine ⟨by simp [h.len], h.size, h.defers, h.t0, h.t1, h.t2, h.below.trans hb, ?_, ?_, Nat.le_trans h.lt hb.size, ?_, ?_, ?_, ?_⟩
  · obtain ⟨D, d, e⟩ := h.b1
    exact ⟨D, d, (far _ (by omega)).trans e⟩
  · obtain ⟨D, d, e⟩ := h.b2
    exact ⟨D, d, (far _ (by omega)).trans e⟩
  · intro _ j hj
    have : (L.setIfInBounds 25 true).getD j true = L.getD j true := by
      simp only [Array.getD_eq_getD_getElem?, Array.getElem?_setIfInBounds]
      rw [if_neg (by omega)]
    rw [this]
    exact getD_ft (hA j hj)
  · intro hn
    rw [t25] at hn
    cases hn
  · intro _
    exact ⟨v2, v3, k2, ((r2.far (Nat.lt_succ_self _) _).far (Nat.lt_succ_self _) _).far (Nat.lt_succ_self _) _, ((r3.far (Nat.lt_succ_self _) _).far (Nat.lt_succ_self _) _).far (Nat.lt_succ_self _) _⟩
  · intro hn
    rw [t25] at hn
    cases hn
theorem Is.openV {B : Nat} {W : World} {v : Value} {x : S82} (h : Is k82 B W v x) : v = .agg #[.string x.f0, .int .i64 x.f1, .int .i64 x.f2] := by
  obtain ⟨cs, rfl, hk⟩ := h
  obtain rfl := k82_open (Kd.FK_now hk)
  rfl
theorem Is.openE {B : Nat} {W : World} {v : Value} {x : S96} (h : Is k96 B W v x) : ∃ A c, v = .agg #[.int .i64 x.f0, .int .i64 x.f1, .int .i64 x.f2, .slice A x.f3.length c] ∧ x.f3.length ≤ c ∧ Kd.F k96 W (fun k => B ≤ k ∧ k < W.heap.size) A x.f3.length x.f3 := by
  obtain ⟨cs, rfl, hk⟩ := h
  obtain ⟨A3, c3, rfl, h1, h2⟩ := k96_openF hk
  exact ⟨A3, c3, rfl, h1, h2⟩
theorem Is.openS {B : Nat} {W : World} {v : Value} {x : S47} (h : Is k47 B W v x) : ∃ A2 c2 A3 c3 A4 c4, v = .agg #[.int .i64 x.f0, .int .i64 x.f1, .slice A2 x.f2.length c2, .slice A3 x.f3.length c3, .slice A4 x.f4.length c4] ∧ Kd.FK k47 W (fun k => B ≤ k ∧ k < W.heap.size) x [.int .i64 x.f0, .int .i64 x.f1, .slice A2 x.f2.length c2, .slice A3 x.f3.length c3, .slice A4 x.f4.length c4] := by
  obtain ⟨cs, rfl, hk⟩ := h
  obtain ⟨A2, c2, A3, c3, A4, c4, rfl, _⟩ := k47_openF hk
  exact ⟨A2, c2, A3, c3, A4, c4, rfl, hk⟩
theorem each1 {α : Type} {R : α → List Value → Prop} {x0 : α} {c0 : List Value} (h0 : R x0 c0) : ∀ (j : Nat) (x : α) (c : List Value), [x0][j]? = some x → [c0][j]? = some c → R x c
  | 0, x, c, h1, h2 => by cases h1; cases h2; exact h0
  | j + 1, x, c, h1, h2 => by simp at h1
theorem each2 {α : Type} {R : α → List Value → Prop} {x0 x1 : α} {c0 c1 : List Value} (h0 : R x0 c0) (h1' : R x1 c1) : ∀ (j : Nat) (x : α) (c : List Value), [x0, x1][j]? = some x → [c0, c1][j]? = some c → R x c
  | 0, x, c, h1, h2 => by cases h1; cases h2; exact h0
  | j + 1, x, c, h1, h2 => each1 h1' j x c (by simpa using h1) (by simpa using h2)
theorem each3 {α : Type} {R : α → List Value → Prop} {x0 x1 x2 : α} {c0 c1 c2 : List Value} (h0 : R x0 c0) (h1' : R x1 c1) (h2' : R x2 c2) : ∀ (j : Nat) (x : α) (c : List Value), [x0, x1, x2][j]? = some x → [c0, c1, c2][j]? = some c → R x c
  | 0, x, c, h1, h2 => by cases h1; cases h2; exact h0
  | j + 1, x, c, h1, h2 => each2 h1' h2' j x c (by simpa using h1) (by simpa using h2)
theorem tmp_q {a : Act} {n : Nat} {v : Value} (h : a.tmps.getD n undef = v) : a.tmps[n]?.getD undef = v := by simpa using h
theorem w3_one.lit (w : World) : Calls Try.prog 44 #[] w fun e w' => ∃ v2 v3 : Value, e = .returned (.agg #[.int .i64 2, v2, v3]) ∧ IsRow k82 (w.heap.size + 1) 82 w' v2 one_vars ∧ IsRow k47 (w.heap.size + 1) 47 w' v3 one_body ∧ Below w.heap.size w w' := by
  have huP := Try.underlying25
  have huS := Try.underlying47
  have huV := Try.underlying82
  have huE := Try.underlying96
  refine calls_of_wp Try.func44 rfl ?_
  simp only [Try.ntmps44, List.size_toArray, List.length_cons, List.length_nil, Nat.reduceAdd, Nat.reduceSub, Array.replicate_succ, Array.replicate_zero, List.push_toArray, List.append_toArray, List.nil_append, List.cons_append]
  go_wp2_with (first | (go_at_call 68; (with_reducible refine (r2_Read.calls 0 0 _ _ _ _ _ rfl).mono ?_); rintro e w1 ⟨v1, rfl, o1, hb1⟩; obtain ⟨D1, d1, ev⟩ := Kd.R_slice o1; subst ev) | (go_at_call 68; (with_reducible refine (r2_Read.calls 1 0 _ _ _ _ _ rfl).mono ?_); rintro e w2 ⟨v2, rfl, o2, hb2⟩; obtain ⟨D2, d2, ev⟩ := Kd.R_slice o2; subst ev))
  have hx1 := hb1.size
  have hx2 := hb2.size
  simp only [size_lit] at hx1
  have hg : w.heap.size < w2.heap.size := by omega
  refine wp_region_any (by kernel_rfl) ?_
  refine wpAny_inv (by kernel_rfl) (OneInv w w2.heap.size (w2.heap.size + 1)) ?hend ?step _ _ _ _ (by decide) ?start
  case start =>
    have z0 : (w.alloc (.cells #[.int .i64 0, .slice none 0 0, .slice none 0 0] 25)).heap[w.heap.size]? = some (.cells #[.int .i64 0, .slice none 0 0, .slice none 0 0] 25 (0, 0)) := heap_alloc_new _ _
    have z1 := (hb1.block _ (blk_lt z0)).trans z0
    have z2 := (hb2.block _ (blk_lt z1)).trans z1
    have bw : Below w.heap.size w w2 := (bal (Below.refl _ _) _).trans ((hb1.mono (by simp only [size_lit]; omega)).trans (hb2.mono (by omega)))
    refine ⟨rfl, rfl, rfl, rfl, rfl, rfl, ?_, ⟨D1, d1, ?_⟩, ⟨D2, d2, ?_⟩, ?_, ?_, ?_, ?_, ?_⟩
    · exact bd1 (bal (bal bw _) _)
    · exact kdr (kal (heap_alloc_new _ _) _)
    · refine kdr ?_
      have := heap_alloc_new (w2.alloc (.cells #[.int .i64 1, .int .i64 0, .int .i64 0, .slice D1 0 d1] 96)) (.cells #[.int .i64 1, .int .i64 1, .int .i64 0, .slice D2 0 d2] 96)
      simpa using this
    · show w.heap.size + 1 ≤ ((w2.alloc _).alloc _).heap.size
      simp only [size_lit]
      omega
    · intro h
      exact absurd h (by decide)
    · intro _ j hj h
      refine absurd h ?_
      match j, hj with
      | j, hj => simp [Array.getD]
    · intro h
      exact absurd h (by decide)
    · intro _
      exact kdr (kal (kal z2 _) _)
  case hend =>
    intro L a W hI hL
    obtain ⟨v2, v3, hk, r2, r3⟩ := hI.done (by
      have h1 := hL 25 (by decide)
      cases h2 : L.getD 25 false with
      | true => rfl
      | false => simp [Array.getD, hI.len] at h1 h2; rw [h1] at h2; cases h2)
    go_wp2
    exact bodyPost_ret (results_cell_row rfl _ _ w.heap.size 25 #[.int .i64 2, v2, v3] (0, 0) _ hI.t0 hk huP rfl rfl) hI.defers ⟨v2, v3, rfl, r2, r3, hI.below⟩
  case step =>
    intro L a W i o hI ho hl hall
    have hi : i < 26 := (Array.getElem?_eq_some_iff.1 ho).1
    match i, hi with
    | 0, _ =>
      cases ho
      have hno : L.getD 25 false = false := hI.no (by omega) hl
      refine step_value (v := .agg #[.string one_x0.f0, .int .i64 one_x0.f1, .int .i64 one_x0.f2]) (W1 := W) rfl rfl (by go_simp; exact ⟨rfl, rfl, rfl⟩) ?_
      exact hI.put (i := 0) (by omega) rfl (Below.refl _ _) ⟨_, rfl, k82_mkF _ _ _⟩
    | 1, _ =>
      cases ho
      have hno : L.getD 25 false = false := hI.no (by omega) hl
      refine step_value (v := .agg #[.string one_x1.f0, .int .i64 one_x1.f1, .int .i64 one_x1.f2]) (W1 := W) rfl rfl (by go_simp; exact ⟨rfl, rfl, rfl⟩) ?_
      exact hI.put (i := 1) (by omega) rfl (Below.refl _ _) ⟨_, rfl, k82_mkF _ _ _⟩
    | 2, _ =>
      cases ho
      have hno : L.getD 25 false = false := hI.no (by omega) hl
      have q5 := tmp_q (Is.openV (hI.facts hno 0 (by omega) (hall ⟨0, .data⟩ (by simp) rfl)))
      have q6 := tmp_q (Is.openV (hI.facts hno 1 (by omega) (hall ⟨1, .data⟩ (by simp) rfl)))
      refine step_value (v := .slice (some ⟨W.heap.size, 0, none⟩) 2 2) (W1 := W.alloc (.cells #[.string one_x0.f0, .int .i64 one_x0.f1, .int .i64 one_x0.f2, .string one_x1.f0, .int .i64 one_x1.f1, .int .i64 one_x1.f2] 82)) rfl rfl (by go_simp; done) ?_
      exact hI.put (i := 2) (by omega) rfl (bal (Below.refl _ _) _) (IsRow.new hI.lt (l := one_vars) [[.string one_x0.f0, .int .i64 one_x0.f1, .int .i64 one_x0.f2], [.string one_x1.f0, .int .i64 one_x1.f1, .int .i64 one_x1.f2]] rfl rfl (by decide) (each2 (k82_mkF _ _ _) (k82_mkF _ _ _)))
    | 3, _ =>
      cases ho
      have hno : L.getD 25 false = false := hI.no (by omega) hl
      refine step_enter (f := 69) (args := #[.int .i64 1]) (W1 := W) rfl rfl (by go_simp; done) ?_
      refine (r2_Const.calls 1 _ _ _ _ W rfl).mono ?_
      rintro e w' ⟨v3, rfl, o3, hb⟩
      obtain ⟨D3, d3, rfl⟩ := Kd.R_slice o3
      exact ⟨_, rfl, hI.put (i := 3) (by omega) rfl hb ⟨[.int .i64 0, .int .i64 1, .int .i64 0, .slice D3 0 d3], rfl, k96_mkF _ _ one_c1 (Nat.zero_le _) (F_zero _ _)⟩⟩
    | 4, _ =>
      cases ho
      have hno : L.getD 25 false = false := hI.no (by omega) hl
      obtain ⟨A8, z8, q8, l8, f8⟩ := Is.openE (hI.facts hno 3 (by omega) (hall ⟨3, .data⟩ (by simp) rfl))
      have q8' := tmp_q q8
      refine step_value (v := .slice (some ⟨W.heap.size, 0, none⟩) 1 1) (W1 := W.alloc (.cells #[.int .i64 one_c1.f0, .int .i64 one_c1.f1, .int .i64 one_c1.f2, .slice A8 one_c1.f3.length z8] 96)) rfl rfl (by go_simp; done) ?_
      exact hI.put (i := 4) (by omega) rfl (bal (Below.refl _ _) _) (IsRow.new hI.lt (l := [one_c1]) [[.int .i64 one_c1.f0, .int .i64 one_c1.f1, .int .i64 one_c1.f2, .slice A8 one_c1.f3.length z8]] rfl rfl (by decide) (each1 (k96_mkF _ _ _ l8 f8)))
    | 5, _ =>
      cases ho
      have hno : L.getD 25 false = false := hI.no (by omega) hl
      obtain ⟨A9, q9, f9⟩ := IsRow.foot (hI.facts hno 4 (by omega) (hall ⟨4, .data⟩ (by simp) rfl))
      have q9' := tmp_q q9
      refine step_value (v := .agg #[.int .i64 0, .int .i64 0, .slice A9 1 1, .slice none 0 0, .slice none 0 0]) (W1 := W) rfl rfl (by go_simp; done) ?_
      exact hI.put (i := 5) (by omega) rfl (Below.refl _ _) ⟨[.int .i64 0, .int .i64 0, .slice A9 1 1, .slice none 0 0, .slice none 0 0], rfl, k47_mkF _ _ one_s5 (A2 := A9) (c2 := 1) (Nat.le_refl _) f9 (A3 := none) (c3 := 0) (Nat.le_refl _) (F_zero _ _) (A4 := none) (c4 := 0) (Nat.le_refl _) (F_zero _ _)⟩
    | 6, _ =>
      cases ho
      have hno : L.getD 25 false = false := hI.no (by omega) hl
      obtain ⟨D3, d3, hb⟩ := hI.b1
      have q0 := tmp_q hI.t1
      have c0 : W.cell? ⟨w2.heap.size, 0, none⟩ = some (.int .i64 1) := (blk_cell hb 0).trans rfl
      have c1 : W.cell? ⟨w2.heap.size, 1, none⟩ = some (.int .i64 0) := (blk_cell hb 1).trans rfl
      have c2 : W.cell? ⟨w2.heap.size, 2, none⟩ = some (.int .i64 0) := (blk_cell hb 2).trans rfl
      have c3 : W.cell? ⟨w2.heap.size, 3, none⟩ = some (.slice D3 0 d3) := (blk_cell hb 3).trans rfl
      refine step_value (v := .agg #[.int .i64 1, .int .i64 0, .int .i64 0, .slice D3 0 d3]) (W1 := W) rfl rfl (by go_simp; done) ?_
      exact hI.put (i := 6) (by omega) rfl (Below.refl _ _) ⟨[.int .i64 1, .int .i64 0, .int .i64 0, .slice D3 0 d3], rfl, k96_mkF _ _ one_r0 (Nat.zero_le _) (F_zero _ _)⟩
    | 7, _ =>
      cases ho
      have hno : L.getD 25 false = false := hI.no (by omega) hl
      obtain ⟨A8, z8, q8, l8, f8⟩ := Is.openE (hI.facts hno 6 (by omega) (hall ⟨6, .data⟩ (by simp) rfl))
      have q8' := tmp_q q8
      refine step_value (v := .slice (some ⟨W.heap.size, 0, none⟩) 1 1) (W1 := W.alloc (.cells #[.int .i64 one_r0.f0, .int .i64 one_r0.f1, .int .i64 one_r0.f2, .slice A8 one_r0.f3.length z8] 96)) rfl rfl (by go_simp; done) ?_
      exact hI.put (i := 7) (by omega) rfl (bal (Below.refl _ _) _) (IsRow.new hI.lt (l := [one_r0]) [[.int .i64 one_r0.f0, .int .i64 one_r0.f1, .int .i64 one_r0.f2, .slice A8 one_r0.f3.length z8]] rfl rfl (by decide) (each1 (k96_mkF _ _ _ l8 f8)))
    | 8, _ =>
      cases ho
      have hno : L.getD 25 false = false := hI.no (by omega) hl
      refine step_enter (f := 69) (args := #[.int .i64 2]) (W1 := W) rfl rfl (by go_simp; done) ?_
      refine (r2_Const.calls 2 _ _ _ _ W rfl).mono ?_
      rintro e w' ⟨v3, rfl, o3, hb⟩
      obtain ⟨D3, d3, rfl⟩ := Kd.R_slice o3
      exact ⟨_, rfl, hI.put (i := 8) (by omega) rfl hb ⟨[.int .i64 0, .int .i64 2, .int .i64 0, .slice D3 0 d3], rfl, k96_mkF _ _ one_c2 (Nat.zero_le _) (F_zero _ _)⟩⟩
    | 9, _ =>
      cases ho
      have hno : L.getD 25 false = false := hI.no (by omega) hl
      obtain ⟨A8, z8, q8, l8, f8⟩ := Is.openE (hI.facts hno 8 (by omega) (hall ⟨8, .data⟩ (by simp) rfl))
      have q8' := tmp_q q8
      refine step_value (v := .slice (some ⟨W.heap.size, 0, none⟩) 1 1) (W1 := W.alloc (.cells #[.int .i64 one_c2.f0, .int .i64 one_c2.f1, .int .i64 one_c2.f2, .slice A8 one_c2.f3.length z8] 96)) rfl rfl (by go_simp; done) ?_
      exact hI.put (i := 9) (by omega) rfl (bal (Below.refl _ _) _) (IsRow.new hI.lt (l := [one_c2]) [[.int .i64 one_c2.f0, .int .i64 one_c2.f1, .int .i64 one_c2.f2, .slice A8 one_c2.f3.length z8]] rfl rfl (by decide) (each1 (k96_mkF _ _ _ l8 f8)))
    | 10, _ =>
      cases ho
      have hno : L.getD 25 false = false := hI.no (by omega) hl
      obtain ⟨A9, q9, f9⟩ := IsRow.foot (hI.facts hno 9 (by omega) (hall ⟨9, .data⟩ (by simp) rfl))
      have q9' := tmp_q q9
      refine step_value (v := .agg #[.int .i64 0, .int .i64 1, .slice A9 1 1, .slice none 0 0, .slice none 0 0]) (W1 := W) rfl rfl (by go_simp; done) ?_
      exact hI.put (i := 10) (by omega) rfl (Below.refl _ _) ⟨[.int .i64 0, .int .i64 1, .slice A9 1 1, .slice none 0 0, .slice none 0 0], rfl, k47_mkF _ _ one_s10 (A2 := A9) (c2 := 1) (Nat.le_refl _) f9 (A3 := none) (c3 := 0) (Nat.le_refl _) (F_zero _ _) (A4 := none) (c4 := 0) (Nat.le_refl _) (F_zero _ _)⟩
    | 11, _ =>
      cases ho
      have hno : L.getD 25 false = false := hI.no (by omega) hl
      obtain ⟨D3, d3, hb⟩ := hI.b2
      have q0 := tmp_q hI.t2
      have c0 : W.cell? ⟨w2.heap.size + 1, 0, none⟩ = some (.int .i64 1) := (blk_cell hb 0).trans rfl
      have c1 : W.cell? ⟨w2.heap.size + 1, 1, none⟩ = some (.int .i64 1) := (blk_cell hb 1).trans rfl
      have c2 : W.cell? ⟨w2.heap.size + 1, 2, none⟩ = some (.int .i64 0) := (blk_cell hb 2).trans rfl
      have c3 : W.cell? ⟨w2.heap.size + 1, 3, none⟩ = some (.slice D3 0 d3) := (blk_cell hb 3).trans rfl
      refine step_value (v := .agg #[.int .i64 1, .int .i64 1, .int .i64 0, .slice D3 0 d3]) (W1 := W) rfl rfl (by go_simp; done) ?_
      exact hI.put (i := 11) (by omega) rfl (Below.refl _ _) ⟨[.int .i64 1, .int .i64 1, .int .i64 0, .slice D3 0 d3], rfl, k96_mkF _ _ one_r1 (Nat.zero_le _) (F_zero _ _)⟩
    | 12, _ =>
      cases ho
      have hno : L.getD 25 false = false := hI.no (by omega) hl
      obtain ⟨A8, z8, q8, l8, f8⟩ := Is.openE (hI.facts hno 11 (by omega) (hall ⟨11, .data⟩ (by simp) rfl))
      have q8' := tmp_q q8
      refine step_value (v := .slice (some ⟨W.heap.size, 0, none⟩) 1 1) (W1 := W.alloc (.cells #[.int .i64 one_r1.f0, .int .i64 one_r1.f1, .int .i64 one_r1.f2, .slice A8 one_r1.f3.length z8] 96)) rfl rfl (by go_simp; done) ?_
      exact hI.put (i := 12) (by omega) rfl (bal (Below.refl _ _) _) (IsRow.new hI.lt (l := [one_r1]) [[.int .i64 one_r1.f0, .int .i64 one_r1.f1, .int .i64 one_r1.f2, .slice A8 one_r1.f3.length z8]] rfl rfl (by decide) (each1 (k96_mkF _ _ _ l8 f8)))
    | 13, _ =>
      cases ho
      have hno : L.getD 25 false = false := hI.no (by omega) hl
      obtain ⟨A9, q9, f9⟩ := IsRow.foot (hI.facts hno 12 (by omega) (hall ⟨12, .data⟩ (by simp) rfl))
      have q9' := tmp_q q9
      refine step_value (v := .agg #[.int .i64 3, .int .i64 0, .slice A9 1 1, .slice none 0 0, .slice none 0 0]) (W1 := W) rfl rfl (by go_simp; done) ?_
      exact hI.put (i := 13) (by omega) rfl (Below.refl _ _) ⟨[.int .i64 3, .int .i64 0, .slice A9 1 1, .slice none 0 0, .slice none 0 0], rfl, k47_mkF _ _ one_s13 (A2 := A9) (c2 := 1) (Nat.le_refl _) f9 (A3 := none) (c3 := 0) (Nat.le_refl _) (F_zero _ _) (A4 := none) (c4 := 0) (Nat.le_refl _) (F_zero _ _)⟩
    | 14, _ =>
      cases ho
      have hno : L.getD 25 false = false := hI.no (by omega) hl
      obtain ⟨A02, z02, A03, z03, A04, z04, q0, f0⟩ := Is.openS (hI.facts hno 10 (by omega) (hall ⟨10, .data⟩ (by simp) rfl))
      have q0' := tmp_q q0
      obtain ⟨A12, z12, A13, z13, A14, z14, q1, f1⟩ := Is.openS (hI.facts hno 13 (by omega) (hall ⟨13, .data⟩ (by simp) rfl))
      have q1' := tmp_q q1
      refine step_value (v := .slice (some ⟨W.heap.size, 0, none⟩) 2 2) (W1 := W.alloc (.cells #[.int .i64 one_s10.f0, .int .i64 one_s10.f1, .slice A02 one_s10.f2.length z02, .slice A03 one_s10.f3.length z03, .slice A04 one_s10.f4.length z04, .int .i64 one_s13.f0, .int .i64 one_s13.f1, .slice A12 one_s13.f2.length z12, .slice A13 one_s13.f3.length z13, .slice A14 one_s13.f4.length z14] 47)) rfl rfl (by go_simp; done) ?_
      exact hI.put (i := 14) (by omega) rfl (bal (Below.refl _ _) _) (IsRow.new hI.lt (l := [one_s10, one_s13]) [[.int .i64 one_s10.f0, .int .i64 one_s10.f1, .slice A02 one_s10.f2.length z02, .slice A03 one_s10.f3.length z03, .slice A04 one_s10.f4.length z04], [.int .i64 one_s13.f0, .int .i64 one_s13.f1, .slice A12 one_s13.f2.length z12, .slice A13 one_s13.f3.length z13, .slice A14 one_s13.f4.length z14]] rfl rfl (by decide) (each2 f0 f1))
    | 15, _ =>
      cases ho
      have hno : L.getD 25 false = false := hI.no (by omega) hl
      obtain ⟨D3, d3, hb⟩ := hI.b2
      have q0 := tmp_q hI.t2
      have c0 : W.cell? ⟨w2.heap.size + 1, 0, none⟩ = some (.int .i64 1) := (blk_cell hb 0).trans rfl
      have c1 : W.cell? ⟨w2.heap.size + 1, 1, none⟩ = some (.int .i64 1) := (blk_cell hb 1).trans rfl
      have c2 : W.cell? ⟨w2.heap.size + 1, 2, none⟩ = some (.int .i64 0) := (blk_cell hb 2).trans rfl
      have c3 : W.cell? ⟨w2.heap.size + 1, 3, none⟩ = some (.slice D3 0 d3) := (blk_cell hb 3).trans rfl
      refine step_value (v := .agg #[.int .i64 1, .int .i64 1, .int .i64 0, .slice D3 0 d3]) (W1 := W) rfl rfl (by go_simp; done) ?_
      exact hI.put (i := 15) (by omega) rfl (Below.refl _ _) ⟨[.int .i64 1, .int .i64 1, .int .i64 0, .slice D3 0 d3], rfl, k96_mkF _ _ one_r1 (Nat.zero_le _) (F_zero _ _)⟩
    | 16, _ =>
      cases ho
      have hno : L.getD 25 false = false := hI.no (by omega) hl
      obtain ⟨A8, z8, q8, l8, f8⟩ := Is.openE (hI.facts hno 15 (by omega) (hall ⟨15, .data⟩ (by simp) rfl))
      have q8' := tmp_q q8
      refine step_value (v := .slice (some ⟨W.heap.size, 0, none⟩) 1 1) (W1 := W.alloc (.cells #[.int .i64 one_r1.f0, .int .i64 one_r1.f1, .int .i64 one_r1.f2, .slice A8 one_r1.f3.length z8] 96)) rfl rfl (by go_simp; done) ?_
      exact hI.put (i := 16) (by omega) rfl (bal (Below.refl _ _) _) (IsRow.new hI.lt (l := [one_r1]) [[.int .i64 one_r1.f0, .int .i64 one_r1.f1, .int .i64 one_r1.f2, .slice A8 one_r1.f3.length z8]] rfl rfl (by decide) (each1 (k96_mkF _ _ _ l8 f8)))
    | 17, _ =>
      cases ho
      have hno : L.getD 25 false = false := hI.no (by omega) hl
      obtain ⟨A9, q9, f9⟩ := IsRow.foot (hI.facts hno 16 (by omega) (hall ⟨16, .data⟩ (by simp) rfl))
      have q9' := tmp_q q9
      refine step_value (v := .agg #[.int .i64 5, .int .i64 0, .slice A9 1 1, .slice none 0 0, .slice none 0 0]) (W1 := W) rfl rfl (by go_simp; done) ?_
      exact hI.put (i := 17) (by omega) rfl (Below.refl _ _) ⟨[.int .i64 5, .int .i64 0, .slice A9 1 1, .slice none 0 0, .slice none 0 0], rfl, k47_mkF _ _ one_s17 (A2 := A9) (c2 := 1) (Nat.le_refl _) f9 (A3 := none) (c3 := 0) (Nat.le_refl _) (F_zero _ _) (A4 := none) (c4 := 0) (Nat.le_refl _) (F_zero _ _)⟩
    | 18, _ =>
      cases ho
      have hno : L.getD 25 false = false := hI.no (by omega) hl
      obtain ⟨A02, z02, A03, z03, A04, z04, q0, f0⟩ := Is.openS (hI.facts hno 17 (by omega) (hall ⟨17, .data⟩ (by simp) rfl))
      have q0' := tmp_q q0
      refine step_value (v := .slice (some ⟨W.heap.size, 0, none⟩) 1 1) (W1 := W.alloc (.cells #[.int .i64 one_s17.f0, .int .i64 one_s17.f1, .slice A02 one_s17.f2.length z02, .slice A03 one_s17.f3.length z03, .slice A04 one_s17.f4.length z04] 47)) rfl rfl (by go_simp; done) ?_
      exact hI.put (i := 18) (by omega) rfl (bal (Below.refl _ _) _) (IsRow.new hI.lt (l := [one_s17]) [[.int .i64 one_s17.f0, .int .i64 one_s17.f1, .slice A02 one_s17.f2.length z02, .slice A03 one_s17.f3.length z03, .slice A04 one_s17.f4.length z04]] rfl rfl (by decide) (each1 f0))
    | 19, _ =>
      cases ho
      have hno : L.getD 25 false = false := hI.no (by omega) hl
      obtain ⟨A2, q2, f2⟩ := IsRow.foot (hI.facts hno 7 (by omega) (hall ⟨7, .data⟩ (by simp) rfl))
      have q2' := tmp_q q2
      obtain ⟨A3, q3, f3⟩ := IsRow.foot (hI.facts hno 14 (by omega) (hall ⟨14, .data⟩ (by simp) rfl))
      have q3' := tmp_q q3
      obtain ⟨A4, q4, f4⟩ := IsRow.foot (hI.facts hno 18 (by omega) (hall ⟨18, .data⟩ (by simp) rfl))
      have q4' := tmp_q q4
      refine step_value (v := .agg #[.int .i64 1, .int .i64 0, .slice A2 1 1, .slice A3 2 2, .slice A4 1 1]) (W1 := W) rfl rfl (by go_simp; done) ?_
      exact hI.put (i := 19) (by omega) rfl (Below.refl _ _) ⟨[.int .i64 1, .int .i64 0, .slice A2 1 1, .slice A3 2 2, .slice A4 1 1], rfl, k47_mkF _ _ one_s19 (A2 := A2) (c2 := 1) (Nat.le_refl _) f2 (A3 := A3) (c3 := 2) (Nat.le_refl _) f3 (A4 := A4) (c4 := 1) (Nat.le_refl _) f4⟩
    | 20, _ =>
      cases ho
      have hno : L.getD 25 false = false := hI.no (by omega) hl
      refine step_enter (f := 69) (args := #[.int .i64 1]) (W1 := W) rfl rfl (by go_simp; done) ?_
      refine (r2_Const.calls 1 _ _ _ _ W rfl).mono ?_
      rintro e w' ⟨v3, rfl, o3, hb⟩
      obtain ⟨D3, d3, rfl⟩ := Kd.R_slice o3
      exact ⟨_, rfl, hI.put (i := 20) (by omega) rfl hb ⟨[.int .i64 0, .int .i64 1, .int .i64 0, .slice D3 0 d3], rfl, k96_mkF _ _ one_c1 (Nat.zero_le _) (F_zero _ _)⟩⟩
    | 21, _ =>
      cases ho
      have hno : L.getD 25 false = false := hI.no (by omega) hl
      obtain ⟨A8, z8, q8, l8, f8⟩ := Is.openE (hI.facts hno 20 (by omega) (hall ⟨20, .data⟩ (by simp) rfl))
      have q8' := tmp_q q8
      refine step_value (v := .slice (some ⟨W.heap.size, 0, none⟩) 1 1) (W1 := W.alloc (.cells #[.int .i64 one_c1.f0, .int .i64 one_c1.f1, .int .i64 one_c1.f2, .slice A8 one_c1.f3.length z8] 96)) rfl rfl (by go_simp; done) ?_
      exact hI.put (i := 21) (by omega) rfl (bal (Below.refl _ _) _) (IsRow.new hI.lt (l := [one_c1]) [[.int .i64 one_c1.f0, .int .i64 one_c1.f1, .int .i64 one_c1.f2, .slice A8 one_c1.f3.length z8]] rfl rfl (by decide) (each1 (k96_mkF _ _ _ l8 f8)))
    | 22, _ =>
      cases ho
      have hno : L.getD 25 false = false := hI.no (by omega) hl
      obtain ⟨A9, q9, f9⟩ := IsRow.foot (hI.facts hno 21 (by omega) (hall ⟨21, .data⟩ (by simp) rfl))
      have q9' := tmp_q q9
      refine step_value (v := .agg #[.int .i64 6, .int .i64 0, .slice A9 1 1, .slice none 0 0, .slice none 0 0]) (W1 := W) rfl rfl (by go_simp; done) ?_
      exact hI.put (i := 22) (by omega) rfl (Below.refl _ _) ⟨[.int .i64 6, .int .i64 0, .slice A9 1 1, .slice none 0 0, .slice none 0 0], rfl, k47_mkF _ _ one_s22 (A2 := A9) (c2 := 1) (Nat.le_refl _) f9 (A3 := none) (c3 := 0) (Nat.le_refl _) (F_zero _ _) (A4 := none) (c4 := 0) (Nat.le_refl _) (F_zero _ _)⟩
    | 23, _ =>
      cases ho
      have hno : L.getD 25 false = false := hI.no (by omega) hl
      obtain ⟨A02, z02, A03, z03, A04, z04, q0, f0⟩ := Is.openS (hI.facts hno 5 (by omega) (hall ⟨5, .data⟩ (by simp) rfl))
      have q0' := tmp_q q0
      obtain ⟨A12, z12, A13, z13, A14, z14, q1, f1⟩ := Is.openS (hI.facts hno 19 (by omega) (hall ⟨19, .data⟩ (by simp) rfl))
      have q1' := tmp_q q1
      obtain ⟨A22, z22, A23, z23, A24, z24, q2, f2⟩ := Is.openS (hI.facts hno 22 (by omega) (hall ⟨22, .data⟩ (by simp) rfl))
      have q2' := tmp_q q2
      refine step_value (v := .slice (some ⟨W.heap.size, 0, none⟩) 3 3) (W1 := W.alloc (.cells #[.int .i64 one_s5.f0, .int .i64 one_s5.f1, .slice A02 one_s5.f2.length z02, .slice A03 one_s5.f3.length z03, .slice A04 one_s5.f4.length z04, .int .i64 one_s19.f0, .int .i64 one_s19.f1, .slice A12 one_s19.f2.length z12, .slice A13 one_s19.f3.length z13, .slice A14 one_s19.f4.length z14, .int .i64 one_s22.f0, .int .i64 one_s22.f1, .slice A22 one_s22.f2.length z22, .slice A23 one_s22.f3.length z23, .slice A24 one_s22.f4.length z24] 47)) rfl rfl (by go_simp; done) ?_
      exact hI.put (i := 23) (by omega) rfl (bal (Below.refl _ _) _) (IsRow.new hI.lt (l := [one_s5, one_s19, one_s22]) [[.int .i64 one_s5.f0, .int .i64 one_s5.f1, .slice A02 one_s5.f2.length z02, .slice A03 one_s5.f3.length z03, .slice A04 one_s5.f4.length z04], [.int .i64 one_s19.f0, .int .i64 one_s19.f1, .slice A12 one_s19.f2.length z12, .slice A13 one_s19.f3.length z13, .slice A14 one_s19.f4.length z14], [.int .i64 one_s22.f0, .int .i64 one_s22.f1, .slice A22 one_s22.f2.length z22, .slice A23 one_s22.f3.length z23, .slice A24 one_s22.f4.length z24]] rfl rfl (by decide) (each3 f0 f1 f2))
    | 24, _ =>
      cases ho
      have hno : L.getD 25 false = false := hI.no (by omega) hl
      have r2 := (hI.facts hno 2 (by omega) (hall ⟨2, .data⟩ (by simp) rfl))
      have r3 := (hI.facts hno 23 (by omega) (hall ⟨23, .data⟩ (by simp) rfl))
      obtain ⟨A2, q2, _⟩ := IsRow.foot r2
      have q2' := tmp_q q2
      obtain ⟨A3, q3, _⟩ := IsRow.foot r3
      have q3' := tmp_q q3
      refine step_value (v := .agg #[.int .i64 2, .slice A2 2 2, .slice A3 3 3]) (W1 := W) rfl rfl (by go_simp; exact ⟨rfl, rfl⟩) ?_
      exact hI.put (i := 24) (by omega) rfl (Below.refl _ _) ⟨_, _, rfl, by rw [← show _ = Value.slice A2 2 2 from q2]; exact r2, by rw [← show _ = Value.slice A3 3 3 from q3]; exact r3⟩
    | 25, _ =>
      cases ho
      have hA : ∀ j, j < 25 → L.getD j false = true := by
        intro j hj
        match j, hj with
        | 0, _ => first | exact hall ⟨0, .phase⟩ (by simp) rfl | exact hall ⟨0, .data⟩ (by simp) rfl
        | 1, _ => first | exact hall ⟨1, .phase⟩ (by simp) rfl | exact hall ⟨1, .data⟩ (by simp) rfl
        | 2, _ => first | exact hall ⟨2, .phase⟩ (by simp) rfl | exact hall ⟨2, .data⟩ (by simp) rfl
        | 3, _ => first | exact hall ⟨3, .phase⟩ (by simp) rfl | exact hall ⟨3, .data⟩ (by simp) rfl
        | 4, _ => first | exact hall ⟨4, .phase⟩ (by simp) rfl | exact hall ⟨4, .data⟩ (by simp) rfl
        | 5, _ => first | exact hall ⟨5, .phase⟩ (by simp) rfl | exact hall ⟨5, .data⟩ (by simp) rfl
        | 6, _ => first | exact hall ⟨6, .phase⟩ (by simp) rfl | exact hall ⟨6, .data⟩ (by simp) rfl
        | 7, _ => first | exact hall ⟨7, .phase⟩ (by simp) rfl | exact hall ⟨7, .data⟩ (by simp) rfl
        | 8, _ => first | exact hall ⟨8, .phase⟩ (by simp) rfl | exact hall ⟨8, .data⟩ (by simp) rfl
        | 9, _ => first | exact hall ⟨9, .phase⟩ (by simp) rfl | exact hall ⟨9, .data⟩ (by simp) rfl
        | 10, _ => first | exact hall ⟨10, .phase⟩ (by simp) rfl | exact hall ⟨10, .data⟩ (by simp) rfl
        | 11, _ => first | exact hall ⟨11, .phase⟩ (by simp) rfl | exact hall ⟨11, .data⟩ (by simp) rfl
        | 12, _ => first | exact hall ⟨12, .phase⟩ (by simp) rfl | exact hall ⟨12, .data⟩ (by simp) rfl
        | 13, _ => first | exact hall ⟨13, .phase⟩ (by simp) rfl | exact hall ⟨13, .data⟩ (by simp) rfl
        | 14, _ => first | exact hall ⟨14, .phase⟩ (by simp) rfl | exact hall ⟨14, .data⟩ (by simp) rfl
        | 15, _ => first | exact hall ⟨15, .phase⟩ (by simp) rfl | exact hall ⟨15, .data⟩ (by simp) rfl
        | 16, _ => first | exact hall ⟨16, .phase⟩ (by simp) rfl | exact hall ⟨16, .data⟩ (by simp) rfl
        | 17, _ => first | exact hall ⟨17, .phase⟩ (by simp) rfl | exact hall ⟨17, .data⟩ (by simp) rfl
        | 18, _ => first | exact hall ⟨18, .phase⟩ (by simp) rfl | exact hall ⟨18, .data⟩ (by simp) rfl
        | 19, _ => first | exact hall ⟨19, .phase⟩ (by simp) rfl | exact hall ⟨19, .data⟩ (by simp) rfl
        | 20, _ => first | exact hall ⟨20, .phase⟩ (by simp) rfl | exact hall ⟨20, .data⟩ (by simp) rfl
        | 21, _ => first | exact hall ⟨21, .phase⟩ (by simp) rfl | exact hall ⟨21, .data⟩ (by simp) rfl
        | 22, _ => first | exact hall ⟨22, .phase⟩ (by simp) rfl | exact hall ⟨22, .data⟩ (by simp) rfl
        | 23, _ => first | exact hall ⟨23, .phase⟩ (by simp) rfl | exact hall ⟨23, .data⟩ (by simp) rfl
        | 24, _ => first | exact hall ⟨24, .phase⟩ (by simp) rfl | exact hall ⟨24, .data⟩ (by simp) rfl
        | j + 25, h => exact absurd h (by omega)
      have hl25 := getD_tf hl
      obtain ⟨v2, v3, e29, r2, r3⟩ := hI.facts hl25 24 (by omega) (hA 24 (by omega))
      obtain ⟨A2, q2, _⟩ := IsRow.foot r2
      obtain ⟨A3, q3, _⟩ := IsRow.foot r3
      subst q2 q3
      have q0 := tmp_q hI.t0
      have q29 := tmp_q e29
      have hO := hI.open_ hl25
      have c0 : W.cell? ⟨w.heap.size, 0, none⟩ = some (.int .i64 0) := (blk_cell hO 0).trans rfl
      have c1 : W.cell? ⟨w.heap.size, 1, none⟩ = some (.slice none 0 0) := (blk_cell hO 1).trans rfl
      have c2 : W.cell? ⟨w.heap.size, 2, none⟩ = some (.slice none 0 0) := (blk_cell hO 2).trans rfl
      have f0 := blk_frozen hO 0
      have f1 := blk_frozen hO 1
      have f2 := blk_frozen hO 2
      refine step_skip (W1 := ((W.setCell ⟨w.heap.size, 0, none⟩ (.int .i64 2)).setCell ⟨w.heap.size, 1, none⟩ (.slice A2 2 2)).setCell ⟨w.heap.size, 2, none⟩ (.slice A3 3 3)) rfl rfl (by go_simp; rfl) ?_
      exact hI.close (by omega) (by omega) hl hA r2 r3
    | i + 26, h => exact absurd h (by omega)
end Go.Proofs.Ytffcpbgbhkbplaa.Print
namespace Go.Proofs.Ytffcpbgbhkbplaa.Print
open Go.RowKit Go.Proofs.YtffcpbgbhkbplaaW.PrintWords Go.Proofs.YtffcpbgbhkbplaaW.PrintLast Go.Proofs.YtffcpbgbhkbplaaW.PrintMore
attribute [local go_sem] max2_int min2_int max_two min_two max_three min_three max_four min_four
set_option linter.unusedVariables false
set_option linter.unusedSimpArgs false
def prog_cells.l0 : Nat → Int → List (S82) → Int → Int → Option (Int)
 | 0, _, _, _, _ => none
 | k + 1, x3, x7, x8, x9 => if x9 < x8 then (if 0 ≤ x9 then (if x9 < (x7.length : Int) then (prog_cells.l0 k (wrap64 (x3 + ((rd_T82 x7 x9).f2))) x7 x8 (wrap64 (x9 + 1))) else (none)) else (none)) else (some x3)
def prog_cells.f (k : Nat) (a0_0 : Int) (l0_1 : List (S82)) (l0_2 : List (S47)) : Option (Int) := prog_cells.l0 k 0 l0_1 (l0_1.length : Int) 0
theorem prog_cells.calls (k : Nat) (a0_0 : Int) (A0_1 : Option Addr) (c0_1 : Nat) (l0_1 : List (S82)) (A0_2 : Option Addr) (c0_2 : Nat) (l0_2 : List (S47)) (r : Int) (w : World) (hr0_1 : Kd.C k82 w A0_1 l0_1.length l0_1) (hc0_1 : l0_1.length ≤ c0_1) (hr0_2 : Kd.C k47 w A0_2 l0_2.length l0_2) (hc0_2 : l0_2.length ≤ c0_2) (h : prog_cells.f k a0_0 l0_1 l0_2 = some r) :
  Calls Try.prog 45 #[.agg #[.int .i64 a0_0, .slice A0_1 l0_1.length c0_1, .slice A0_2 l0_2.length c0_2]] w fun e w' => e = .returned (.int .i64 r) ∧ Below w.heap.size w w' := by
 have hu25 := Try.underlying25
 have hu82 := Try.underlying82
 have HR0_1 := Aside0.mk hr0_1
 have HC0_1 := Aside0.mk hc0_1
 clear hr0_1 hc0_1
 have HR0_2 := Aside0.mk hr0_2
 have HC0_2 := Aside0.mk hc0_2
 clear hr0_2 hc0_2
 have HB := Aside0.mk (Below.refl w.heap.size w)
 have H : (prog_cells.l0 k 0 l0_1 (l0_1.length : Int) 0) = some r := h
 clear h
 have H' := Aside0.mk H
 clear H
 go_enter Try.func45, Try.ntmps45
 go_wp2_with (first | ((with_reducible refine gate_dst (N := 1) rfl ?_); refine bx 1 rfl rfl #[.int .i64 a0_0, .slice A0_1 l0_1.length c0_1, .slice A0_2 l0_2.length c0_2] 25 ?_; intro gb142 hg w2 hbox hb; have BK142 := Aside0.mk (hbox); have GE142 := ge HB hg; replace HB := sb HB hb; clear hb hbox hg; obtain ⟨hcz3_0, hcz3_1, hcz3_2, hfz3_0, hfz3_1, hfz3_2⟩ := cf3 BK142.out))
 go_loopg [3, 9] k (fun kq v3 v9 w' => ∃ (x3_1 : Int) (x9_1 : Int), v3 = .int .i64 x3_1 ∧ v9 = .int .i64 x9_1 ∧ Aside0 (prog_cells.l0 kq x3_1 l0_1 (l0_1.length : Int) x9_1 = some r) ∧ Aside0 (kq ≤ k) ∧ Aside0 (w'.heap[gb142]? = some (.cells #[.int .i64 a0_0, (.slice A0_1 l0_1.length c0_1), (.slice A0_2 l0_2.length c0_2)] 25 (0, 0))) ∧ Aside0 (Below w.heap.size w w'))
 case atStart => exact ⟨(0), (0), rs, rs, H', ⟨Nat.le_refl _⟩, ⟨kk BK142⟩, ⟨bb HB⟩⟩
 case round =>
  clear H'
  try clear p2
  try clear hcz3_0 hcz3_1 hcz3_2 hfz3_0 hfz3_1 hfz3_2
  obtain ⟨x3_1, x9_1, rfl, rfl, HA, HK1, BK142, HB⟩ := hrel
  cases gk with
  | zero => exact absurd HA.out (by simp [prog_cells.l0])
  | succ k1 =>
   have H := HA.out
   clear HA
   simp only [prog_cells.l0] at H
   by_cases c4 : x9_1 < (l0_1.length : Int)
   rotate_left
   ·rw [if_neg c4] at H
    have c4b0 : decide (x9_1 < (l0_1.length : Int)) = false := decide_eq_false c4
    clear c4
    obtain rfl := Option.some.inj H
    go_wp2
    go_ret
    exact ⟨rr, bb HB⟩
   rw [if_pos c4] at H
   have c4b0 : decide (x9_1 < (l0_1.length : Int)) = true := decide_eq_true c4
   clear c4
   by_cases c5 : 0 ≤ x9_1
   rotate_left
   ·rw [if_neg c5] at H
    exact absurd H (by simp)
   rw [if_pos c5] at H
   have c5b0 : decide (0 ≤ x9_1) = true := decide_eq_true c5
   clear c5
   by_cases c6 : x9_1 < (l0_1.length : Int)
   rotate_left
   ·rw [if_neg c6] at H
    exact absurd H (by simp)
   rw [if_pos c6] at H
   have c6b0 : decide (x9_1 < (l0_1.length : Int)) = true := decide_eq_true c6
   clear c6
   have H' := Aside0.mk H
   clear H
   have p143 : 0 ≤ (x9_1 : Int) := od
   have q143 : x9_1 < (l0_1.length : Int) := od
   obtain ⟨ad143, e143, hx143_0, hx143_1, hx143_2⟩ := at_T82 HR0_1.out x9_1 p143 q143
   cases e143
   replace hx143_0 := bcell HB.out hx143_0
   replace hx143_1 := bcell HB.out hx143_1
   replace hx143_2 := bcell HB.out hx143_2
   replace p143 := eq_true p143
   replace q143 := eq_true q143
   go_wp2_with (first | ((with_reducible refine gate_dst (N := 5) rfl ?_); refine bx 5 rfl rfl #[.string (⟨#[]⟩ : ByteArray), .int .i64 0, .int .i64 0] 82 ?_; intro gb144 hg w7 hbox hb; have BK144 := Aside0.mk (hbox); have GE144 := ge HB hg; have NB142_144 := Aside0.mk ((by rw [hg]; exact Nat.ne_of_lt (blk_lt (kk BK142)) : gb142 ≠ gb144)); have NB144_142 := Aside0.mk ((by rw [hg]; exact Nat.ne_of_gt (blk_lt (kk BK142)) : gb144 ≠ gb142)); replace BK142 := kb BK142 hb; replace HB := sb HB hb; clear hb hbox hg; have hnb8 := NB144_142.out; have hnc8 := NB142_144.out; obtain ⟨hcz9_0, hcz9_1, hcz9_2, hfz9_0, hfz9_1, hfz9_2⟩ := cf3 BK144.out))
   go_roundg k1
   case measure => have := HK1.out; omega
   case rel => exact ⟨(wrap64 (x3_1 + ((rd_T82 l0_1 x9_1).f2))), (wrap64 (x9_1 + 1)), rs, rs, H', ⟨by have := HK1.out; omega⟩, ⟨kk BK142⟩, ⟨bb HB⟩⟩
def prog_Space.f (k : Nat) (a0_0 : Int) (l0_1 : List (S82)) (l0_2 : List (S47)) : Option (Int × Int) := (prog_Check.f k a0_0 l0_1 l0_2).bind fun t146 => (if t146 = 0 then ((prog_cells.f k a0_0 l0_1 l0_2).bind fun t147 => (if (wrap64 (a0_0 * t147)) > 60 then (some (0, 5)) else ((prog_cells.f k a0_0 l0_1 l0_2).bind fun t148 => (if 0 ≤ (IntKind.u64.wrap (wrap64 (a0_0 * t148))) then (some (shl .i64 1 (IntKind.u64.wrap (wrap64 (a0_0 * t148))), 0)) else (none))))) else (some (0, 30)))
def prog_Space.T5 : Bool × List (List Nat × List Nat) := (true, [([], []), ([0], [0]), ([], []), ([2], [2]), ([1, 3], [1, 3]), ([4], [4]), ([5], [5]), ([6, 3, 0, 1, 2, 3, 4, 5, 6], [6]), ([7, 0, 1, 2, 3, 4, 5, 6, 7], [])])
def prog_Space.B5 : List Nat := [0, 1, 0, 4, 15, 31, 63, 127, 255]
theorem prog_Space.tab5 : rtab .any (opsOf Try.f13 5) = prog_Space.T5 := by kernel_rfl
theorem prog_Space.bits5 : waitsOk prog_Space.T5.2 prog_Space.B5 = true := by kernel_rfl
theorem prog_Space.calls (k : Nat) (a0_0 : Int) (A0_1 : Option Addr) (c0_1 : Nat) (l0_1 : List (S82)) (A0_2 : Option Addr) (c0_2 : Nat) (l0_2 : List (S47)) (r1 : Int) (r2 : Int) (w : World) (hr0_1 : Kd.C k82 w A0_1 l0_1.length l0_1) (hc0_1 : l0_1.length ≤ c0_1) (hr0_2 : Kd.C k47 w A0_2 l0_2.length l0_2) (hc0_2 : l0_2.length ≤ c0_2) (h : prog_Space.f k a0_0 l0_1 l0_2 = some (r1, r2)) :
  Calls Try.prog 13 #[.agg #[.int .i64 a0_0, .slice A0_1 l0_1.length c0_1, .slice A0_2 l0_2.length c0_2]] w fun e w' => e = .returned (.tuple #[.int .i64 r1, .int .i64 r2]) ∧ Below w.heap.size w w' := by
 have hu25 := Try.underlying25
 have HR0_1 := Aside0.mk hr0_1
 have HC0_1 := Aside0.mk hc0_1
 clear hr0_1 hc0_1
 have HR0_2 := Aside0.mk hr0_2
 have HC0_2 := Aside0.mk hc0_2
 clear hr0_2 hc0_2
 have HB := Aside0.mk (Below.refl w.heap.size w)
 have H : ((prog_Check.f k a0_0 l0_1 l0_2).bind fun t146 => (if t146 = 0 then ((prog_cells.f k a0_0 l0_1 l0_2).bind fun t147 => (if (wrap64 (a0_0 * t147)) > 60 then (some (0, 5)) else ((prog_cells.f k a0_0 l0_1 l0_2).bind fun t148 => (if 0 ≤ (IntKind.u64.wrap (wrap64 (a0_0 * t148))) then (some (shl .i64 1 (IntKind.u64.wrap (wrap64 (a0_0 * t148))), 0)) else (none))))) else (some (0, 30)))) = some (r1, r2) := h
 clear h
 obtain ⟨t146, A2, H⟩ := be H
 by_cases c3 : t146 = 0
 rotate_left
 ·rw [if_neg c3] at H
  have c3b0 : (t146 == 0) = false := beq_eq_false_iff_ne.mpr c3
  have c3b1 : (t146 != 0) = true := bne_iff_ne.mpr c3
  simp only [Option.some.injEq, Prod.mk.injEq] at H
  obtain ⟨rfl, rfl⟩ := H
  go_enter Try.func13, Try.ntmps13
  go_wp2_with (first | ((with_reducible refine gate_dst (N := 1) rfl ?_); refine bx 1 rfl rfl #[.int .i64 a0_0, .slice A0_1 l0_1.length c0_1, .slice A0_2 l0_2.length c0_2] 25 ?_; intro gb145 hg w22 hbox hb; have BK145 := Aside0.mk (hbox); have GE145 := ge HB hg; replace HB := sb HB hb; clear hb hbox hg; obtain ⟨hcz23_0, hcz23_1, hcz23_2, hfz23_0, hfz23_1, hfz23_2⟩ := cf3 BK145.out) | ((with_reducible refine gate_callee (f := 39) rfl ?_); refine gL (some 5) rfl rfl Try.func39 #[.agg #[.int .i64 a0_0, .slice A0_1 l0_1.length c0_1, .slice A0_2 l0_2.length c0_2]] rfl ?_; (with_reducible refine (prog_Check.calls k a0_0 _ _ l0_1 _ _ l0_2 t146 _ ?side1 ?side2 ?side3 ?side4 A2.out).mono ?_); (case side1 => exact cb HR0_1 HB); (case side2 => exact HC0_1.out); (case side3 => exact cb HR0_2 HB); (case side4 => exact HC0_2.out); rintro e w24 ⟨rfl, hb⟩; refine ⟨_, rfl, ?_⟩; replace BK145 := kb BK145 hb; replace HB := sb HB hb; (try clear hb)))
  go_ret2
  exact ⟨rr, bb HB⟩
 rw [if_pos c3] at H
 have c3b0 : (t146 == 0) = true := beq_iff_eq.mpr c3
 have c3b1 : (t146 != 0) = false := bne_eq_false_iff_eq.mpr c3
 clear c3
 obtain ⟨t147, A4, H⟩ := be H
 by_cases c5 : (wrap64 (a0_0 * t147)) > 60
 ·rw [if_pos c5] at H
  have c5b0 : decide (60 < (wrap64 (a0_0 * t147))) = true := decide_eq_true c5
  clear c5
  simp only [Option.some.injEq, Prod.mk.injEq] at H
  obtain ⟨rfl, rfl⟩ := H
  go_enter Try.func13, Try.ntmps13
  try go_wp2_with (first | ((with_reducible refine gate_dst (N := 1) rfl ?_); refine bx 1 rfl rfl #[.int .i64 a0_0, .slice A0_1 l0_1.length c0_1, .slice A0_2 l0_2.length c0_2] 25 ?_; intro gb145 hg w6 hbox hb; have BK145 := Aside0.mk (hbox); have GE145 := ge HB hg; replace HB := sb HB hb; clear hb hbox hg; obtain ⟨hcz7_0, hcz7_1, hcz7_2, hfz7_0, hfz7_1, hfz7_2⟩ := cf3 BK145.out) | ((with_reducible refine gate_callee (f := 39) rfl ?_); refine gL (some 5) rfl rfl Try.func39 #[.agg #[.int .i64 a0_0, .slice A0_1 l0_1.length c0_1, .slice A0_2 l0_2.length c0_2]] rfl ?_; (with_reducible refine (prog_Check.calls k a0_0 _ _ l0_1 _ _ l0_2 t146 _ ?side1 ?side2 ?side3 ?side4 A2.out).mono ?_); (case side1 => exact cb HR0_1 HB); (case side2 => exact HC0_1.out); (case side3 => exact cb HR0_2 HB); (case side4 => exact HC0_2.out); rintro e w8 ⟨rfl, hb⟩; refine ⟨_, rfl, ?_⟩; replace BK145 := kb BK145 hb; replace HB := sb HB hb; (try clear hb)))
  replace BK145 := Aside0.mk (kdr BK145.out)
  replace HB := Aside0.mk (bd1 HB.out)
  refine start_ (n := 6) (S := fun w' => w'.cell? ⟨gb145, 0, none⟩ = some (.int .i64 a0_0) ∧ w'.cell? ⟨gb145, 1, none⟩ = some (.slice A0_1 l0_1.length c0_1) ∧ w'.cell? ⟨gb145, 2, none⟩ = some (.slice A0_2 l0_2.length c0_2)) (ds := []) #[false, false, false, false, false, false] (by kernel_rfl) rfl rfl ⟨(blk_cell BK145.out 0).trans rfl, (blk_cell BK145.out 1).trans rfl, (blk_cell BK145.out 2).trans rfl⟩ (fun hHeld => ?_)
  generalize w8.drew = w9 at BK145 HB hHeld ⊢
  refine pu (i := 0) (N := some 7) (bl 6 1) rfl rfl (by kernel_rfl) ?_
  refine tk (i := 1) (N := some 8) (bl 6 3) rfl rfl (by kernel_rfl) hHeld ?_
  refine tk (i := 2) (N := some 9) (bl 6 7) rfl rfl (by kernel_rfl) hHeld ?_
  refine one_ (i := 3) (N := some 10) (bl 6 15) rfl rfl (by kernel_rfl) (by decide) (fun K hK => ?_)
  refine gO Try.func45 #[.agg #[.int .i64 a0_0, .slice A0_1 l0_1.length c0_1, .slice A0_2 l0_2.length c0_2]] (by rfl) rfl rfl ?_
  with_reducible refine (prog_cells.calls k a0_0 _ _ l0_1 _ _ l0_2 t147 _ ?side1 ?side2 ?side3 ?side4 A4.out).mono ?_
  (case side1 => exact cb HR0_1 HB)
  (case side2 => exact HC0_1.out)
  (case side3 => exact cb HR0_2 HB)
  (case side4 => exact HC0_2.out)
  rintro e w10 ⟨rfl, hb⟩
  refine ⟨_, rfl, ?_⟩
  replace BK145 := kb BK145 hb
  replace HB := sb HB hb
  (try clear hb)
  (try clear hb2)
  (try clear hk)
  (try clear hi)
  refine hK.out _ _ ⟨(blk_cell BK145.out 0).trans rfl, (blk_cell BK145.out 1).trans rfl, (blk_cell BK145.out 2).trans rfl⟩ (fun hHeld => ?_)
  clear hK K
  refine nm 10 ?_
  refine pu (i := 4) (N := some 11) (bl 6 31) rfl rfl (by kernel_rfl) ?_
  refine pu (i := 5) (N := some 12) (bl 6 63) rfl rfl (by kernel_rfl) ?_
  refine done_ (by kernel_rfl) ?_
  try go_wp2
  go_ret2
  exact ⟨rr, bb HB⟩
 rw [if_neg c5] at H
 have c5b0 : decide (60 < (wrap64 (a0_0 * t147))) = false := decide_eq_false c5
 clear c5
 obtain ⟨t148, A11, H⟩ := be H
 obtain ⟨ji12, hji12⟩ : ∃ j_ : Int, (IntKind.u64.wrap (wrap64 (a0_0 * t148))) = j_ := ⟨_, rfl⟩
 replace H : (if 0 ≤ (ji12) then (some (shl .i64 1 (ji12), 0)) else (none)) = some (r1, r2) := by first | (rw [hji12] at H; exact H) | (simp only [hji12] at H ⊢; exact H)
 (try rw [hji12] at A2)
 (try rw [hji12] at A4)
 (try rw [hji12] at A11)
 by_cases c13 : 0 ≤ (ji12)
 rotate_left
 ·rw [if_neg c13] at H
  exact absurd H (by simp)
 rw [if_pos c13] at H
 have c13b0 := eq_true c13
 have c13b1 : decide (0 ≤ (ji12)) = true := decide_eq_true c13
 clear c13
 obtain ⟨ji14, hji14⟩ : ∃ j_ : Int, (shl .i64 1 (ji12)) = j_ := ⟨_, rfl⟩
 replace H : (some (ji14, 0)) = some (r1, r2) := by first | (rw [hji14] at H; exact H) | (simp only [hji14] at H ⊢; exact H)
 (try rw [hji14] at A2)
 (try rw [hji14] at A4)
 (try rw [hji14] at A11)
 have hji14_ : (IntKind.i64.wrap (1 * 2 ^ min (ji12).toNat 64)) = ji14 := hji14
 have hji14z : (ji12) ≤ 64 → (IntKind.i64.wrap (1 * 2 ^ (ji12).toNat)) = ji14 := shl_small hji14
 have hji14u : (IntKind.i64.wrap (2 ^ min (ji12).toNat 64)) = ji14 := by have h_ := hji14_; rw [Int.one_mul] at h_; exact h_
 have hji14v : (ji12) ≤ 64 → (IntKind.i64.wrap (2 ^ (ji12).toNat)) = ji14 := fun hle_ => by have h_ := hji14z hle_; rw [Int.one_mul] at h_; exact h_
 have hji14y : (wrap64 (1 * 2 ^ min (ji12).toNat 64)) = ji14 := (i64_w _).symm.trans hji14_
 have hji14x : (ji12) ≤ 64 → (wrap64 (1 * 2 ^ (ji12).toNat)) = ji14 := fun h_ => (i64_w _).symm.trans (hji14z h_)
 simp only [Option.some.injEq, Prod.mk.injEq] at H
 obtain ⟨rfl, rfl⟩ := H
 go_enter Try.func13, Try.ntmps13
 try go_wp2_with (first | ((with_reducible refine gate_dst (N := 1) rfl ?_); refine bx 1 rfl rfl #[.int .i64 a0_0, .slice A0_1 l0_1.length c0_1, .slice A0_2 l0_2.length c0_2] 25 ?_; intro gb145 hg w15 hbox hb; have BK145 := Aside0.mk (hbox); have GE145 := ge HB hg; replace HB := sb HB hb; clear hb hbox hg; obtain ⟨hcz16_0, hcz16_1, hcz16_2, hfz16_0, hfz16_1, hfz16_2⟩ := cf3 BK145.out) | ((with_reducible refine gate_callee (f := 39) rfl ?_); refine gL (some 5) rfl rfl Try.func39 #[.agg #[.int .i64 a0_0, .slice A0_1 l0_1.length c0_1, .slice A0_2 l0_2.length c0_2]] rfl ?_; (with_reducible refine (prog_Check.calls k a0_0 _ _ l0_1 _ _ l0_2 t146 _ ?side1 ?side2 ?side3 ?side4 A2.out).mono ?_); (case side1 => exact cb HR0_1 HB); (case side2 => exact HC0_1.out); (case side3 => exact cb HR0_2 HB); (case side4 => exact HC0_2.out); rintro e w17 ⟨rfl, hb⟩; refine ⟨_, rfl, ?_⟩; replace BK145 := kb BK145 hb; replace HB := sb HB hb; (try clear hb)))
 replace BK145 := Aside0.mk (kdr BK145.out)
 replace HB := Aside0.mk (bd1 HB.out)
 refine start_ (n := 6) (S := fun w' => w'.cell? ⟨gb145, 0, none⟩ = some (.int .i64 a0_0) ∧ w'.cell? ⟨gb145, 1, none⟩ = some (.slice A0_1 l0_1.length c0_1) ∧ w'.cell? ⟨gb145, 2, none⟩ = some (.slice A0_2 l0_2.length c0_2)) (ds := []) #[false, false, false, false, false, false] (by kernel_rfl) rfl rfl ⟨(blk_cell BK145.out 0).trans rfl, (blk_cell BK145.out 1).trans rfl, (blk_cell BK145.out 2).trans rfl⟩ (fun hHeld => ?_)
 generalize w17.drew = w18 at BK145 HB hHeld ⊢
 refine pu (i := 0) (N := some 7) (bl 6 1) rfl rfl (by kernel_rfl) ?_
 refine tk (i := 1) (N := some 8) (bl 6 3) rfl rfl (by kernel_rfl) hHeld ?_
 refine tk (i := 2) (N := some 9) (bl 6 7) rfl rfl (by kernel_rfl) hHeld ?_
 refine one_ (i := 3) (N := some 10) (bl 6 15) rfl rfl (by kernel_rfl) (by decide) (fun K hK => ?_)
 refine gO Try.func45 #[.agg #[.int .i64 a0_0, .slice A0_1 l0_1.length c0_1, .slice A0_2 l0_2.length c0_2]] (by rfl) rfl rfl ?_
 with_reducible refine (prog_cells.calls k a0_0 _ _ l0_1 _ _ l0_2 t147 _ ?side1 ?side2 ?side3 ?side4 A4.out).mono ?_
 (case side1 => exact cb HR0_1 HB)
 (case side2 => exact HC0_1.out)
 (case side3 => exact cb HR0_2 HB)
 (case side4 => exact HC0_2.out)
 rintro e w19 ⟨rfl, hb⟩
 refine ⟨_, rfl, ?_⟩
 replace BK145 := kb BK145 hb
 replace HB := sb HB hb
 (try clear hb)
 (try clear hb2)
 (try clear hk)
 (try clear hi)
 refine hK.out _ _ ⟨(blk_cell BK145.out 0).trans rfl, (blk_cell BK145.out 1).trans rfl, (blk_cell BK145.out 2).trans rfl⟩ (fun hHeld => ?_)
 clear hK K
 refine nm 10 ?_
 refine pu (i := 4) (N := some 11) (bl 6 31) rfl rfl (by kernel_rfl) ?_
 refine pu (i := 5) (N := some 12) (bl 6 63) rfl rfl (by kernel_rfl) ?_
 refine done_ (by kernel_rfl) ?_
 try go_wp2
 replace BK145 := Aside0.mk (kdr BK145.out)
 replace HB := Aside0.mk (bd1 HB.out)
 refine start_ (n := 9) (S := fun w' => w'.cell? ⟨gb145, 0, none⟩ = some (.int .i64 a0_0) ∧ w'.cell? ⟨gb145, 1, none⟩ = some (.slice A0_1 l0_1.length c0_1) ∧ w'.cell? ⟨gb145, 2, none⟩ = some (.slice A0_2 l0_2.length c0_2)) (ds := []) #[false, false, false, false, false, false, false, false, false] (by kernel_rfl) rfl rfl ⟨(blk_cell BK145.out 0).trans rfl, (blk_cell BK145.out 1).trans rfl, (blk_cell BK145.out 2).trans rfl⟩ (fun hHeld => ?_); refine with_tabW prog_Space.tab5 prog_Space.bits5 (fun HT_ HW_ => ?_)
 generalize w19.drew = w20 at BK145 HB hHeld ⊢
 refine pT 0 13 (bl 9 1) HT_ rfl rfl ?_
 refine tk (i := 1) (N := some 14) (bl 9 3) rfl rfl (take_ofW HT_.out HW_.out (by kernel_rfl)) hHeld ?_
 refine tk (i := 2) (N := some 15) (bl 9 7) rfl rfl (take_ofW HT_.out HW_.out (by kernel_rfl)) hHeld ?_
 refine one_ (i := 3) (N := some 16) (bl 9 15) rfl rfl (one_of HT_.out (by kernel_rfl)) (by decide) (fun K hK => ?_)
 refine gO Try.func45 #[.agg #[.int .i64 a0_0, .slice A0_1 l0_1.length c0_1, .slice A0_2 l0_2.length c0_2]] (by rfl) rfl rfl ?_
 with_reducible refine (prog_cells.calls k a0_0 _ _ l0_1 _ _ l0_2 t148 _ ?side1 ?side2 ?side3 ?side4 A11.out).mono ?_
 (case side1 => exact cb HR0_1 HB)
 (case side2 => exact HC0_1.out)
 (case side3 => exact cb HR0_2 HB)
 (case side4 => exact HC0_2.out)
 rintro e w21 ⟨rfl, hb⟩
 refine ⟨_, rfl, ?_⟩
 replace BK145 := kb BK145 hb
 replace HB := sb HB hb
 (try clear hb)
 (try clear hb2)
 (try clear hk)
 (try clear hi)
 refine hK.out _ _ ⟨(blk_cell BK145.out 0).trans rfl, (blk_cell BK145.out 1).trans rfl, (blk_cell BK145.out 2).trans rfl⟩ (fun hHeld => ?_)
 clear hK K
 refine nm 16 ?_
 refine pT 4 17 (bl 9 31) HT_ rfl rfl ?_
 refine pT 5 18 (bl 9 63) HT_ rfl rfl ?_
 refine pT 6 19 (bl 9 127) HT_ rfl rfl ?_
 refine pT 7 2 (bl 9 255) HT_ rfl rfl ?_
 refine pT 8 3 (bl 9 511) HT_ rfl rfl ?_
 refine done_ (done_of HT_.out (by kernel_rfl)) ?_
 try go_wp2
 go_ret2
 exact ⟨by first | rfl | (simp [errW_none, errW_some] <;> rfl) | (simp only [← hji12, ← hji14]; first | rfl | (simp [errW_none, errW_some] <;> rfl)) | (simp [*, errW_none, errW_some] <;> rfl), bb HB⟩
mutual
def prog_Store.j0 : Nat → Int → Bool → Int → List (S82) → List (S47) → Option (List Int × Int)
 | 0, _, _, _, _, _ => none
 | k + 1, x1, x23, x150000, x150001, x150002 => if x23 = true then (some (([] : List Int), 1)) else ((prog_cells.f k x150000 x150001 x150002).bind fun t152 => (prog_Store.l0 k x1 ([] : List Int) t152 0 x150000 x150001 x150002))
def prog_Store.l0 : Nat → Int → List Int → Int → Int → Int → List (S82) → List (S47) → Option (List Int × Int)
 | 0, _, _, _, _, _, _, _ => none
 | k + 1, x1, x8, x25, x26, x150000, x150001, x150002 => if x26 < x25 then (if 0 ≤ (IntKind.u64.wrap (x150000)) then (if x8.length < 17592186044416 then (prog_Store.l0 k (shr .i64 x1 (IntKind.u64.wrap (x150000))) (x8 ++ [Go.bits .and .i64 x1 (wrap64 ((shl .i64 1 (IntKind.u64.wrap (x150000))) - 1))]) x25 (wrap64 (x26 + 1)) x150000 x150001 x150002) else (none)) else (none)) else (some (x8, 0))
end
def prog_Store.f (k : Nat) (a0_0 : Int) (l0_1 : List (S82)) (l0_2 : List (S47)) (a1 : Int) : Option (List Int × Int) := (prog_Space.f k a0_0 l0_1 l0_2).bind fun bt150 => (if bt150.2 = 0 then (if a1 < 0 then (prog_Store.j0 k a1 true a0_0 l0_1 l0_2) else (prog_Store.j0 k a1 (decide (a1 ≥ bt150.1)) a0_0 l0_1 l0_2)) else (some (([] : List Int), bt150.2)))
theorem prog_Store.calls (k : Nat) (a0_0 : Int) (A0_1 : Option Addr) (c0_1 : Nat) (l0_1 : List (S82)) (A0_2 : Option Addr) (c0_2 : Nat) (l0_2 : List (S47)) (a1 : Int) (r1 : List Int) (r2 : Int) (w : World) (hr0_1 : Kd.C k82 w A0_1 l0_1.length l0_1) (hc0_1 : l0_1.length ≤ c0_1) (hr0_2 : Kd.C k47 w A0_2 l0_2.length l0_2) (hc0_2 : l0_2.length ≤ c0_2) (h : prog_Store.f k a0_0 l0_1 l0_2 a1 = some (r1, r2)) :
  Calls Try.prog 14 #[.agg #[.int .i64 a0_0, .slice A0_1 l0_1.length c0_1, .slice A0_2 l0_2.length c0_2], .int .i64 a1] w fun e w' => ∃ v0_ : Value, e = .returned (.tuple #[v0_, .int .i64 r2]) ∧ Kd.R (Kd.int .i64) 3 w' w.heap.size (fun _ => True) v0_ r1 ∧ Below w.heap.size w w' := by
 have hu25 := Try.underlying25
 have HR0_1 := Aside0.mk hr0_1
 have HC0_1 := Aside0.mk hc0_1
 clear hr0_1 hc0_1
 have HR0_2 := Aside0.mk hr0_2
 have HC0_2 := Aside0.mk hc0_2
 clear hr0_2 hc0_2
 have HB := Aside0.mk (Below.refl w.heap.size w)
 have H : ((prog_Space.f k a0_0 l0_1 l0_2).bind fun bt150 => (if bt150.2 = 0 then (if a1 < 0 then (prog_Store.j0 k a1 true a0_0 l0_1 l0_2) else (prog_Store.j0 k a1 (decide (a1 ≥ bt150.1)) a0_0 l0_1 l0_2)) else (some (([] : List Int), bt150.2)))) = some (r1, r2) := h
 clear h
 replace H := Option.bind_eq_some_iff.mp H
 obtain ⟨⟨t150, t151⟩, A30, H⟩ := H
 replace H : (if t151 = 0 then (if a1 < 0 then (prog_Store.j0 k a1 true a0_0 l0_1 l0_2) else (prog_Store.j0 k a1 (decide (a1 ≥ t150)) a0_0 l0_1 l0_2)) else (some (([] : List Int), t151))) = some (r1, r2) := H
 have A3 := Aside0.mk A30
 clear A30
 by_cases c4 : t151 = 0
 rotate_left
 ·rw [if_neg c4] at H
  have c4b0 : (t151 == 0) = false := beq_eq_false_iff_ne.mpr c4
  have c4b1 : (t151 != 0) = true := bne_iff_ne.mpr c4
  simp only [Option.some.injEq, Prod.mk.injEq] at H
  obtain ⟨rfl, rfl⟩ := H
  go_enter Try.func14, Try.ntmps14
  go_wp2_with (first | ((with_reducible refine gate_dst (N := 2) rfl ?_); refine bx 2 rfl rfl #[.int .i64 a0_0, .slice A0_1 l0_1.length c0_1, .slice A0_2 l0_2.length c0_2] 25 ?_; intro gb149 hg w24 hbox hb; have BK149 := Aside0.mk (hbox); have GE149 := ge HB hg; replace HB := sb HB hb; clear hb hbox hg; obtain ⟨hcz25_0, hcz25_1, hcz25_2, hfz25_0, hfz25_1, hfz25_2⟩ := cf3 BK149.out) | ((with_reducible refine gate_callee (f := 13) rfl ?_); refine gL (some 11) rfl rfl Try.func13 #[.agg #[.int .i64 a0_0, .slice A0_1 l0_1.length c0_1, .slice A0_2 l0_2.length c0_2]] rfl ?_; (with_reducible refine (prog_Space.calls k a0_0 _ _ l0_1 _ _ l0_2 t150 t151 _ ?side1 ?side2 ?side3 ?side4 A3.out).mono ?_); (case side1 => exact cb HR0_1 HB); (case side2 => exact HC0_1.out); (case side3 => exact cb HR0_2 HB); (case side4 => exact HC0_2.out); rintro e w26 ⟨rfl, hb⟩; refine ⟨_, rfl, ?_⟩; replace BK149 := kb BK149 hb; replace HB := sb HB hb; (try clear hb)))
  go_ret2
  exact ⟨_, rr, by first | exact Kd.R_nil _ _ _ _ _ | exact Kd.N_nil _ _ _ _ _ | exact Kd.V_nil _ _ _ _ _ | exact Kd.Q_nil _ _ _ _ _ | exact Kd.S_nil _ _ _ _ _, bb HB⟩
 rw [if_pos c4] at H
 have c4b0 : (t151 == 0) = true := beq_iff_eq.mpr c4
 have c4b1 : (t151 != 0) = false := bne_eq_false_iff_eq.mpr c4
 clear c4
 have HC5 := Aside0.mk H
 clear H
 go_enter Try.func14, Try.ntmps14
 go_upto_region 4 with (first | ((with_reducible refine gate_dst (N := 2) rfl ?_); refine bx 2 rfl rfl #[.int .i64 a0_0, .slice A0_1 l0_1.length c0_1, .slice A0_2 l0_2.length c0_2] 25 ?_; intro gb149 hg w6 hbox hb; have BK149 := Aside0.mk (hbox); have GE149 := ge HB hg; replace HB := sb HB hb; clear hb hbox hg; obtain ⟨hcz7_0, hcz7_1, hcz7_2, hfz7_0, hfz7_1, hfz7_2⟩ := cf3 BK149.out) | ((with_reducible refine gate_callee (f := 13) rfl ?_); refine gL (some 11) rfl rfl Try.func13 #[.agg #[.int .i64 a0_0, .slice A0_1 l0_1.length c0_1, .slice A0_2 l0_2.length c0_2]] rfl ?_; (with_reducible refine (prog_Space.calls k a0_0 _ _ l0_1 _ _ l0_2 t150 t151 _ ?side1 ?side2 ?side3 ?side4 A3.out).mono ?_); (case side1 => exact cb HR0_1 HB); (case side2 => exact HC0_1.out); (case side3 => exact cb HR0_2 HB); (case side4 => exact HC0_2.out); rintro e w8 ⟨rfl, hb⟩; refine ⟨_, rfl, ?_⟩; replace BK149 := kb BK149 hb; replace HB := sb HB hb; (try clear hb)))
 (try simp only [Act.put, List.setIfInBounds_toArray, List.set_cons_zero, List.set_cons_succ])
 go_cut [23] (fun v23 wc => ∃ (kq : Nat) (x23_4 : Bool), v23 = .bool x23_4 ∧ Aside0 (prog_Store.j0 kq a1 x23_4 a0_0 l0_1 l0_2 = some (r1, r2)) ∧ Aside0 (kq ≤ k) ∧ Aside0 (wc.heap[gb149]? = some (.cells #[.int .i64 a0_0, (.slice A0_1 l0_1.length c0_1), (.slice A0_2 l0_2.length c0_2)] 25 (0, 0))) ∧ Aside0 (Below w.heap.size w wc))
 case first =>
  have H := HC5.out
  clear HC5
  by_cases c9 : a1 < 0
  ·rw [if_pos c9] at H
   have c9b0 : decide (a1 < 0) = true := decide_eq_true c9
   clear c9
   (first | rw [c9b0] | (simp only [i64_w, i32_w]; rw [c9b0]) | skip)
   have H' := Aside0.mk H
   clear H
   go_wp2
   go_meet
   case rel => exact ⟨_, (true), rs, H', ⟨by first | omega | exact Nat.le_refl _⟩, ⟨kk BK149⟩, ⟨bb HB⟩⟩
  rw [if_neg c9] at H
  have c9b0 : decide (a1 < 0) = false := decide_eq_false c9
  clear c9
  (first | rw [c9b0] | (simp only [i64_w, i32_w]; rw [c9b0]) | skip)
  have H' := Aside0.mk H
  clear H
  go_wp2
  go_meet
  case rel => exact ⟨_, (decide (a1 ≥ t150)), rs, H', ⟨by first | omega | exact Nat.le_refl _⟩, ⟨kk BK149⟩, ⟨bb HB⟩⟩
 case rest =>
  clear HC5
  try clear c1
  try clear p2
  try clear c4
  try clear c4b0
  try clear c4b1
  try clear c9
  try clear c9b0
  try clear hcz7_0 hcz7_1 hcz7_2 hfz7_0 hfz7_1 hfz7_2
  obtain ⟨kq, x23_4, rfl, HA, HJ4, BK149, HB⟩ := hcut
  cases kq with
  | zero => exact absurd HA.out (by simp [prog_Store.j0])
  | succ kj4 =>
   have H := HA.out
   clear HA
   simp only [prog_Store.j0] at H
   by_cases c10 : x23_4 = true
   ·subst c10
    replace H := it H
    simp only [Option.some.injEq, Prod.mk.injEq] at H
    obtain ⟨rfl, rfl⟩ := H
    go_wp2
    go_ret2
    exact ⟨_, rr, by first | exact Kd.R_nil _ _ _ _ _ | exact Kd.N_nil _ _ _ _ _ | exact Kd.V_nil _ _ _ _ _ | exact Kd.Q_nil _ _ _ _ _ | exact Kd.S_nil _ _ _ _ _, bb HB⟩
   replace c10 := Bool.eq_false_iff.mpr c10
   subst c10
   replace H := fi H
   obtain ⟨t152, A11, H⟩ := be H
   have H' := Aside0.mk H
   clear H
   obtain ⟨hcz12_0, hcz12_1, hcz12_2, hfz12_0, hfz12_1, hfz12_2⟩ := cf3 BK149.out
   go_wp2_with (first | ((with_reducible refine gate_callee (f := 45) rfl ?_); refine gL (some 25) rfl rfl Try.func45 #[.agg #[.int .i64 a0_0, .slice A0_1 l0_1.length c0_1, .slice A0_2 l0_2.length c0_2]] rfl ?_; (with_reducible refine (prog_cells.calls kj4 a0_0 _ _ l0_1 _ _ l0_2 t152 _ ?side1 ?side2 ?side3 ?side4 A11.out).mono ?_); (case side1 => exact cb HR0_1 HB); (case side2 => exact HC0_1.out); (case side3 => exact cb HR0_2 HB); (case side4 => exact HC0_2.out); rintro e w13 ⟨rfl, hb⟩; refine ⟨_, rfl, ?_⟩; replace BK149 := kb BK149 hb; replace HB := sb HB hb; (try clear hb)))
   go_loopg [1, 8, 26] kj4 (fun kq v1 v8 v26 w' => ∃ (x1_2 : Int) (x8_2 : List Int) (x26_2 : Int), v1 = .int .i64 x1_2 ∧ v26 = .int .i64 x26_2 ∧ Aside0 (prog_Store.l0 kq x1_2 x8_2 t152 x26_2 a0_0 l0_1 l0_2 = some (r1, r2)) ∧ Aside0 (kq ≤ kj4) ∧ Aside0 (Kd.R (Kd.int .i64) 3 w' w.heap.size (fun _ => True) v8 x8_2) ∧ Aside0 (w'.heap[gb149]? = some (.cells #[.int .i64 a0_0, (.slice A0_1 l0_1.length c0_1), (.slice A0_2 l0_2.length c0_2)] 25 (0, 0))) ∧ Aside0 (Below w.heap.size w w'))
   case atStart => exact ⟨(a1), (([] : List Int)), (0), rs, rs, H', ⟨Nat.le_refl _⟩, ⟨by first | exact Kd.R_nil _ _ _ _ _ | exact Kd.N_nil _ _ _ _ _ | exact Kd.V_nil _ _ _ _ _ | exact Kd.Q_nil _ _ _ _ _ | exact Kd.S_nil _ _ _ _ _⟩, ⟨kk BK149⟩, ⟨bb HB⟩⟩
   case round =>
    clear H'
    try clear c1
    try clear p2
    try clear c4
    try clear c4b0
    try clear c4b1
    try clear c9
    try clear c9b0
    try clear c10
    try clear c13
    try clear hcz12_0 hcz12_1 hcz12_2
    try clear hcz7_0 hcz7_1 hcz7_2
    try clear hfz12_0 hfz12_1 hfz12_2
    try clear hfz7_0 hfz7_1 hfz7_2
    try clear p2
    obtain ⟨x1_2, x8_2, x26_2, rfl, rfl, HA, HK2, HO_8, BK149, HB⟩ := hrel
    cases gk with
    | zero => exact absurd HA.out (by simp [prog_Store.l0])
    | succ k2 =>
     have H := HA.out
     clear HA
     simp only [prog_Store.l0] at H
     by_cases c14 : x26_2 < t152
     rotate_left
     ·rw [if_neg c14] at H
      have c14b0 : decide (x26_2 < t152) = false := decide_eq_false c14
      clear c14
      simp only [Option.some.injEq, Prod.mk.injEq] at H
      obtain ⟨rfl, rfl⟩ := H
      go_wp2
      go_ret2
      exact ⟨_, rr, by (with_reducible repeat (first | apply Kd.R_alloc | apply Kd.R_drewN | apply Kd.R_drew)); exact HO_8.out, bb HB⟩
     rw [if_pos c14] at H
     have c14b0 : decide (x26_2 < t152) = true := decide_eq_true c14
     clear c14
     obtain ⟨ji15, hji15⟩ : ∃ j_ : Int, (IntKind.u64.wrap (a0_0)) = j_ := ⟨_, rfl⟩
     replace H : (if 0 ≤ (ji15) then (if x8_2.length < 17592186044416 then (prog_Store.l0 k2 (shr .i64 x1_2 (ji15)) (x8_2 ++ [Go.bits .and .i64 x1_2 (wrap64 ((shl .i64 1 (ji15)) - 1))]) t152 (wrap64 (x26_2 + 1)) a0_0 l0_1 l0_2) else (none)) else (none)) = some (r1, r2) := by first | (rw [hji15] at H; exact H) | (simp only [hji15] at H ⊢; exact H)
     by_cases c16 : 0 ≤ (ji15)
     rotate_left
     ·rw [if_neg c16] at H
      exact absurd H (by simp)
     rw [if_pos c16] at H
     have c16b0 := eq_true c16
     have c16b1 : decide (0 ≤ (ji15)) = true := decide_eq_true c16
     clear c16
     obtain ⟨ji17, hji17⟩ : ∃ j_ : Int, (shl .i64 1 (ji15)) = j_ := ⟨_, rfl⟩
     replace H : (if x8_2.length < 17592186044416 then (prog_Store.l0 k2 (shr .i64 x1_2 (ji15)) (x8_2 ++ [Go.bits .and .i64 x1_2 (wrap64 ((ji17) - 1))]) t152 (wrap64 (x26_2 + 1)) a0_0 l0_1 l0_2) else (none)) = some (r1, r2) := by first | (rw [hji17] at H; exact H) | (simp only [hji17] at H ⊢; exact H)
     have hji17_ : (IntKind.i64.wrap (1 * 2 ^ min (ji15).toNat 64)) = ji17 := hji17
     have hji17z : (ji15) ≤ 64 → (IntKind.i64.wrap (1 * 2 ^ (ji15).toNat)) = ji17 := shl_small hji17
     have hji17u : (IntKind.i64.wrap (2 ^ min (ji15).toNat 64)) = ji17 := by have h_ := hji17_; rw [Int.one_mul] at h_; exact h_
     have hji17v : (ji15) ≤ 64 → (IntKind.i64.wrap (2 ^ (ji15).toNat)) = ji17 := fun hle_ => by have h_ := hji17z hle_; rw [Int.one_mul] at h_; exact h_
     have hji17y : (wrap64 (1 * 2 ^ min (ji15).toNat 64)) = ji17 := (i64_w _).symm.trans hji17_
     have hji17x : (ji15) ≤ 64 → (wrap64 (1 * 2 ^ (ji15).toNat)) = ji17 := fun h_ => (i64_w _).symm.trans (hji17z h_)
     by_cases c18 : x8_2.length < 17592186044416
     rotate_left
     ·rw [if_neg c18] at H
      exact absurd H (by simp)
     rw [if_pos c18] at H
     have LMc18 := Aside0.mk c18
     clear c18
     obtain ⟨y153, hy153⟩ : ∃ y_ : List Int, y_ = (x8_2 ++ [Go.bits .and .i64 x1_2 (wrap64 ((ji17) - 1))]) := ⟨_, rfl⟩
     replace H : (prog_Store.l0 k2 (shr .i64 x1_2 (ji15)) y153 t152 (wrap64 (x26_2 + 1)) a0_0 l0_1 l0_2) = some (r1, r2) := by first | (rw [hy153]; with_reducible exact H) | (have H2_ := (Option.bind_some _ _).symm.trans H; rw [hy153]; with_reducible exact H2_) | (have H2_ := (Option.bind_some _ _).symm.trans H; with_reducible exact H2_) | with_reducible exact H | (rw [hy153]; exact H) | exact H
     have Ny153 := Aside0.mk hy153
     clear hy153
     have c19b0 := eq_true (od : 0 ≤ (ji15))
     obtain ⟨ji20, hji20⟩ : ∃ j_ : Int, (shr .i64 x1_2 (ji15)) = j_ := ⟨_, rfl⟩
     replace H : (prog_Store.l0 k2 ji20 y153 t152 (wrap64 (x26_2 + 1)) a0_0 l0_1 l0_2) = some (r1, r2) := by first | (rw [hji20] at H; exact H) | (simp only [hji20] at H ⊢; exact H)
     have hji20_ : (x1_2 / 2 ^ min (ji15).toNat 64) = ji20 := hji20
     have hji20z : (ji15) ≤ 64 → (x1_2 / 2 ^ (ji15).toNat) = ji20 := shr_small hji20
     have H' := Aside0.mk H
     clear H
     obtain ⟨hcz21_0, hcz21_1, hcz21_2, hfz21_0, hfz21_1, hfz21_2⟩ := cf3 BK149.out
     go_wp2_with (first | ((with_reducible refine gate_builtin (b := .append) (xs := #[.tmp 28, .tmp 36]) rfl ?_); at_builtin; refine Kd.R_append (Kd.int .i64) (w0 := w) w.heap.size rfl (.tmp 28) (.tmp 36) 26 3 (.int .i64 0) 8 rfl Try.underlying26 info3 rfl (by decide) (by omega) u8 x8_2 (Go.bits .and .i64 x1_2 (wrap64 ((ji17) - 1))) [.int .i64 (Go.bits .and .i64 x1_2 (wrap64 ((ji17) - 1)))] (fun _ => True) (fun _ => False) rfl rfl ?aP (fun _ hk => hk.elim) ?aF ?aO ?aB ?aS ?aL ?_; (case aP => exact rfl); (case aB => exact (bb HB)); (case aF => exact (fun _ _ => trivial)); (case aO => exact (iR HO_8)); (case aS => exact (bsz (bb HB))); (case aL => have := LMc18.out; omega); intro v154 w22 ho hb hg hat; rw [← Ny153.out] at ho; have HO155 := Aside0.mk (ho); replace BK149 := Aside0.mk (blk_grown (kk BK149) hg (Kd.R_ne HO_8.out BK149.out (by decide))); replace HB := Aside0.mk (hb); clear HO_8; clear ho hb hg hat; obtain ⟨hcz23_0, hcz23_1, hcz23_2, hfz23_0, hfz23_1, hfz23_2⟩ := cf3 BK149.out))
     go_roundg k2
     case measure => have := HJ4.out; have := HK2.out; omega
     case rel => exact ⟨(ji20), (y153), (wrap64 (x26_2 + 1)), (by first | rfl | (simp; done) | (simp only [← hji20] <;> (first | rfl | simp)) | (simp [*]; done)), rs, H', ⟨by have := HJ4.out; have := HK2.out; omega⟩, ⟨by (with_reducible repeat (first | apply Kd.R_alloc | apply Kd.R_drewN | apply Kd.R_drew)); exact HO155.out⟩, ⟨kk BK149⟩, ⟨bb HB⟩⟩
def prog_Index.l0 : Nat → List Int → Int → Int → Int → List (S82) → List (S47) → Option (Int × Int)
 | 0, _, _, _, _, _, _ => none
 | k + 1, x1, x8, x9, x157000, x157001, x157002 => if x9 ≥ 0 then (if 0 ≤ x9 then (if x9 < (x1.length : Int) then (if (rd x1 x9) < 0 then (some (0, 1)) else (if 0 ≤ (IntKind.u64.wrap (x157000)) then (if (rd x1 x9) ≥ (shl .i64 1 (IntKind.u64.wrap (x157000))) then (some (0, 1)) else (prog_Index.l0 k x1 (Go.bits .or .i64 (shl .i64 x8 (IntKind.u64.wrap (x157000))) (rd x1 x9)) (wrap64 (x9 - 1)) x157000 x157001 x157002)) else (none))) else (none)) else (none)) else (some (x8, 0))
def prog_Index.f (k : Nat) (a0_0 : Int) (l0_1 : List (S82)) (l0_2 : List (S47)) (l1 : List Int) : Option (Int × Int) := (prog_Space.f k a0_0 l0_1 l0_2).bind fun bt157 => (if bt157.2 = 0 then ((prog_cells.f k a0_0 l0_1 l0_2).bind fun t159 => (if (l1.length : Int) = t159 then (prog_Index.l0 k l1 0 (wrap64 ((l1.length : Int) - 1)) a0_0 l0_1 l0_2) else (some (0, 1)))) else (some (0, bt157.2)))
theorem prog_Index.calls (k : Nat) (a0_0 : Int) (A0_1 : Option Addr) (c0_1 : Nat) (l0_1 : List (S82)) (A0_2 : Option Addr) (c0_2 : Nat) (l0_2 : List (S47)) (A1 : Option Addr) (c1 : Nat) (l1 : List Int) (r1 : Int) (r2 : Int) (w : World) (hr0_1 : Kd.C k82 w A0_1 l0_1.length l0_1) (hc0_1 : l0_1.length ≤ c0_1) (hr0_2 : Kd.C k47 w A0_2 l0_2.length l0_2) (hc0_2 : l0_2.length ≤ c0_2) (hr1 : Kd.C (Kd.int .i64) w A1 l1.length l1) (hc1 : l1.length ≤ c1) (h : prog_Index.f k a0_0 l0_1 l0_2 l1 = some (r1, r2)) :
  Calls Try.prog 15 #[.agg #[.int .i64 a0_0, .slice A0_1 l0_1.length c0_1, .slice A0_2 l0_2.length c0_2], .slice A1 l1.length c1] w fun e w' => e = .returned (.tuple #[.int .i64 r1, .int .i64 r2]) ∧ Below w.heap.size w w' := by
 have hu25 := Try.underlying25
 have HR0_1 := Aside0.mk hr0_1
 have HC0_1 := Aside0.mk hc0_1
 clear hr0_1 hc0_1
 have HR0_2 := Aside0.mk hr0_2
 have HC0_2 := Aside0.mk hc0_2
 clear hr0_2 hc0_2
 have HR1 := Aside0.mk hr1
 have HC1 := Aside0.mk hc1
 clear hr1 hc1
 have HB := Aside0.mk (Below.refl w.heap.size w)
 have H : ((prog_Space.f k a0_0 l0_1 l0_2).bind fun bt157 => (if bt157.2 = 0 then ((prog_cells.f k a0_0 l0_1 l0_2).bind fun t159 => (if (l1.length : Int) = t159 then (prog_Index.l0 k l1 0 (wrap64 ((l1.length : Int) - 1)) a0_0 l0_1 l0_2) else (some (0, 1)))) else (some (0, bt157.2)))) = some (r1, r2) := h
 clear h
 replace H := Option.bind_eq_some_iff.mp H
 obtain ⟨⟨t157, t158⟩, A30, H⟩ := H
 replace H : (if t158 = 0 then ((prog_cells.f k a0_0 l0_1 l0_2).bind fun t159 => (if (l1.length : Int) = t159 then (prog_Index.l0 k l1 0 (wrap64 ((l1.length : Int) - 1)) a0_0 l0_1 l0_2) else (some (0, 1)))) else (some (0, t158))) = some (r1, r2) := H
 have A3 := Aside0.mk A30
 clear A30
 by_cases c4 : t158 = 0
 rotate_left
 ·rw [if_neg c4] at H
  have c4b0 : (t158 == 0) = false := beq_eq_false_iff_ne.mpr c4
  have c4b1 : (t158 != 0) = true := bne_iff_ne.mpr c4
  simp only [Option.some.injEq, Prod.mk.injEq] at H
  obtain ⟨rfl, rfl⟩ := H
  go_enter Try.func15, Try.ntmps15
  go_wp2_with (first | ((with_reducible refine gate_dst (N := 2) rfl ?_); refine bx 2 rfl rfl #[.int .i64 a0_0, .slice A0_1 l0_1.length c0_1, .slice A0_2 l0_2.length c0_2] 25 ?_; intro gb156 hg w29 hbox hb; have BK156 := Aside0.mk (hbox); have GE156 := ge HB hg; replace HB := sb HB hb; clear hb hbox hg; obtain ⟨hcz30_0, hcz30_1, hcz30_2, hfz30_0, hfz30_1, hfz30_2⟩ := cf3 BK156.out) | (go_at_call 13; (with_reducible refine (prog_Space.calls k a0_0 _ _ l0_1 _ _ l0_2 t157 t158 _ ?side1 ?side2 ?side3 ?side4 A3.out).mono ?_); (case side1 => exact cb HR0_1 HB); (case side2 => exact HC0_1.out); (case side3 => exact cb HR0_2 HB); (case side4 => exact HC0_2.out); rintro e w31 ⟨rfl, hb⟩; replace BK156 := kb BK156 hb; replace HB := sb HB hb; (try clear hb)))
  repeat (go_quiet (first | ((with_reducible refine gate_dst (N := 2) rfl ?_); refine bx 2 rfl rfl #[.int .i64 a0_0, .slice A0_1 l0_1.length c0_1, .slice A0_2 l0_2.length c0_2] 25 ?_; intro gb156 hg w29 hbox hb; have BK156 := Aside0.mk (hbox); have GE156 := ge HB hg; replace HB := sb HB hb; clear hb hbox hg; obtain ⟨hcz30_0, hcz30_1, hcz30_2, hfz30_0, hfz30_1, hfz30_2⟩ := cf3 BK156.out) | (go_at_call 13; (with_reducible refine (prog_Space.calls k a0_0 _ _ l0_1 _ _ l0_2 t157 t158 _ ?side1 ?side2 ?side3 ?side4 A3.out).mono ?_); (case side1 => exact cb HR0_1 HB); (case side2 => exact HC0_1.out); (case side3 => exact cb HR0_2 HB); (case side4 => exact HC0_2.out); rintro e w31 ⟨rfl, hb⟩; replace BK156 := kb BK156 hb; replace HB := sb HB hb; (try clear hb))); try go_wp2_with (first | ((with_reducible refine gate_dst (N := 2) rfl ?_); refine bx 2 rfl rfl #[.int .i64 a0_0, .slice A0_1 l0_1.length c0_1, .slice A0_2 l0_2.length c0_2] 25 ?_; intro gb156 hg w29 hbox hb; have BK156 := Aside0.mk (hbox); have GE156 := ge HB hg; replace HB := sb HB hb; clear hb hbox hg; obtain ⟨hcz30_0, hcz30_1, hcz30_2, hfz30_0, hfz30_1, hfz30_2⟩ := cf3 BK156.out) | (go_at_call 13; (with_reducible refine (prog_Space.calls k a0_0 _ _ l0_1 _ _ l0_2 t157 t158 _ ?side1 ?side2 ?side3 ?side4 A3.out).mono ?_); (case side1 => exact cb HR0_1 HB); (case side2 => exact HC0_1.out); (case side3 => exact cb HR0_2 HB); (case side4 => exact HC0_2.out); rintro e w31 ⟨rfl, hb⟩; replace BK156 := kb BK156 hb; replace HB := sb HB hb; (try clear hb))))
  go_ret2
  exact ⟨rr, bb HB⟩
 rw [if_pos c4] at H
 have c4b0 : (t158 == 0) = true := beq_iff_eq.mpr c4
 have c4b1 : (t158 != 0) = false := bne_eq_false_iff_eq.mpr c4
 clear c4
 obtain ⟨t159, A5, H⟩ := be H
 by_cases c6 : (l1.length : Int) = t159
 rotate_left
 ·rw [if_neg c6] at H
  have c6b0 : ((l1.length : Int) == t159) = false := beq_eq_false_iff_ne.mpr c6
  have c6b1 : ((l1.length : Int) != t159) = true := bne_iff_ne.mpr c6
  simp only [Option.some.injEq, Prod.mk.injEq] at H
  obtain ⟨rfl, rfl⟩ := H
  go_enter Try.func15, Try.ntmps15
  go_wp2_with (first | ((with_reducible refine gate_dst (N := 2) rfl ?_); refine bx 2 rfl rfl #[.int .i64 a0_0, .slice A0_1 l0_1.length c0_1, .slice A0_2 l0_2.length c0_2] 25 ?_; intro gb156 hg w24 hbox hb; have BK156 := Aside0.mk (hbox); have GE156 := ge HB hg; replace HB := sb HB hb; clear hb hbox hg; obtain ⟨hcz25_0, hcz25_1, hcz25_2, hfz25_0, hfz25_1, hfz25_2⟩ := cf3 BK156.out) | (go_at_call 13; (with_reducible refine (prog_Space.calls k a0_0 _ _ l0_1 _ _ l0_2 t157 t158 _ ?side1 ?side2 ?side3 ?side4 A3.out).mono ?_); (case side1 => exact cb HR0_1 HB); (case side2 => exact HC0_1.out); (case side3 => exact cb HR0_2 HB); (case side4 => exact HC0_2.out); rintro e w26 ⟨rfl, hb⟩; replace BK156 := kb BK156 hb; replace HB := sb HB hb; (try clear hb); obtain ⟨hcz27_0, hcz27_1, hcz27_2, hfz27_0, hfz27_1, hfz27_2⟩ := cf3 BK156.out) | (go_at_call 45; (with_reducible refine (prog_cells.calls k a0_0 _ _ l0_1 _ _ l0_2 t159 _ ?side1 ?side2 ?side3 ?side4 A5.out).mono ?_); (case side1 => exact cb HR0_1 HB); (case side2 => exact HC0_1.out); (case side3 => exact cb HR0_2 HB); (case side4 => exact HC0_2.out); rintro e w28 ⟨rfl, hb⟩; replace BK156 := kb BK156 hb; replace HB := sb HB hb; (try clear hb)))
  repeat (go_quiet (first | ((with_reducible refine gate_dst (N := 2) rfl ?_); refine bx 2 rfl rfl #[.int .i64 a0_0, .slice A0_1 l0_1.length c0_1, .slice A0_2 l0_2.length c0_2] 25 ?_; intro gb156 hg w24 hbox hb; have BK156 := Aside0.mk (hbox); have GE156 := ge HB hg; replace HB := sb HB hb; clear hb hbox hg; obtain ⟨hcz25_0, hcz25_1, hcz25_2, hfz25_0, hfz25_1, hfz25_2⟩ := cf3 BK156.out) | (go_at_call 13; (with_reducible refine (prog_Space.calls k a0_0 _ _ l0_1 _ _ l0_2 t157 t158 _ ?side1 ?side2 ?side3 ?side4 A3.out).mono ?_); (case side1 => exact cb HR0_1 HB); (case side2 => exact HC0_1.out); (case side3 => exact cb HR0_2 HB); (case side4 => exact HC0_2.out); rintro e w26 ⟨rfl, hb⟩; replace BK156 := kb BK156 hb; replace HB := sb HB hb; (try clear hb); obtain ⟨hcz27_0, hcz27_1, hcz27_2, hfz27_0, hfz27_1, hfz27_2⟩ := cf3 BK156.out) | (go_at_call 45; (with_reducible refine (prog_cells.calls k a0_0 _ _ l0_1 _ _ l0_2 t159 _ ?side1 ?side2 ?side3 ?side4 A5.out).mono ?_); (case side1 => exact cb HR0_1 HB); (case side2 => exact HC0_1.out); (case side3 => exact cb HR0_2 HB); (case side4 => exact HC0_2.out); rintro e w28 ⟨rfl, hb⟩; replace BK156 := kb BK156 hb; replace HB := sb HB hb; (try clear hb))); try go_wp2_with (first | ((with_reducible refine gate_dst (N := 2) rfl ?_); refine bx 2 rfl rfl #[.int .i64 a0_0, .slice A0_1 l0_1.length c0_1, .slice A0_2 l0_2.length c0_2] 25 ?_; intro gb156 hg w24 hbox hb; have BK156 := Aside0.mk (hbox); have GE156 := ge HB hg; replace HB := sb HB hb; clear hb hbox hg; obtain ⟨hcz25_0, hcz25_1, hcz25_2, hfz25_0, hfz25_1, hfz25_2⟩ := cf3 BK156.out) | (go_at_call 13; (with_reducible refine (prog_Space.calls k a0_0 _ _ l0_1 _ _ l0_2 t157 t158 _ ?side1 ?side2 ?side3 ?side4 A3.out).mono ?_); (case side1 => exact cb HR0_1 HB); (case side2 => exact HC0_1.out); (case side3 => exact cb HR0_2 HB); (case side4 => exact HC0_2.out); rintro e w26 ⟨rfl, hb⟩; replace BK156 := kb BK156 hb; replace HB := sb HB hb; (try clear hb); obtain ⟨hcz27_0, hcz27_1, hcz27_2, hfz27_0, hfz27_1, hfz27_2⟩ := cf3 BK156.out) | (go_at_call 45; (with_reducible refine (prog_cells.calls k a0_0 _ _ l0_1 _ _ l0_2 t159 _ ?side1 ?side2 ?side3 ?side4 A5.out).mono ?_); (case side1 => exact cb HR0_1 HB); (case side2 => exact HC0_1.out); (case side3 => exact cb HR0_2 HB); (case side4 => exact HC0_2.out); rintro e w28 ⟨rfl, hb⟩; replace BK156 := kb BK156 hb; replace HB := sb HB hb; (try clear hb))))
  go_ret2
  exact ⟨rr, bb HB⟩
 rw [if_pos c6] at H
 have c6b0 : ((l1.length : Int) == t159) = true := beq_iff_eq.mpr c6
 have c6b1 : ((l1.length : Int) != t159) = false := bne_eq_false_iff_eq.mpr c6
 clear c6
 have H' := Aside0.mk H
 clear H
 go_enter Try.func15, Try.ntmps15
 go_wp2_with (first | ((with_reducible refine gate_dst (N := 2) rfl ?_); refine bx 2 rfl rfl #[.int .i64 a0_0, .slice A0_1 l0_1.length c0_1, .slice A0_2 l0_2.length c0_2] 25 ?_; intro gb156 hg w7 hbox hb; have BK156 := Aside0.mk (hbox); have GE156 := ge HB hg; replace HB := sb HB hb; clear hb hbox hg; obtain ⟨hcz8_0, hcz8_1, hcz8_2, hfz8_0, hfz8_1, hfz8_2⟩ := cf3 BK156.out) | (go_at_call 13; (with_reducible refine (prog_Space.calls k a0_0 _ _ l0_1 _ _ l0_2 t157 t158 _ ?side1 ?side2 ?side3 ?side4 A3.out).mono ?_); (case side1 => exact cb HR0_1 HB); (case side2 => exact HC0_1.out); (case side3 => exact cb HR0_2 HB); (case side4 => exact HC0_2.out); rintro e w9 ⟨rfl, hb⟩; replace BK156 := kb BK156 hb; replace HB := sb HB hb; (try clear hb); obtain ⟨hcz10_0, hcz10_1, hcz10_2, hfz10_0, hfz10_1, hfz10_2⟩ := cf3 BK156.out) | (go_at_call 45; (with_reducible refine (prog_cells.calls k a0_0 _ _ l0_1 _ _ l0_2 t159 _ ?side1 ?side2 ?side3 ?side4 A5.out).mono ?_); (case side1 => exact cb HR0_1 HB); (case side2 => exact HC0_1.out); (case side3 => exact cb HR0_2 HB); (case side4 => exact HC0_2.out); rintro e w11 ⟨rfl, hb⟩; replace BK156 := kb BK156 hb; replace HB := sb HB hb; (try clear hb)))
 repeat (go_quiet (first | ((with_reducible refine gate_dst (N := 2) rfl ?_); refine bx 2 rfl rfl #[.int .i64 a0_0, .slice A0_1 l0_1.length c0_1, .slice A0_2 l0_2.length c0_2] 25 ?_; intro gb156 hg w7 hbox hb; have BK156 := Aside0.mk (hbox); have GE156 := ge HB hg; replace HB := sb HB hb; clear hb hbox hg; obtain ⟨hcz8_0, hcz8_1, hcz8_2, hfz8_0, hfz8_1, hfz8_2⟩ := cf3 BK156.out) | (go_at_call 13; (with_reducible refine (prog_Space.calls k a0_0 _ _ l0_1 _ _ l0_2 t157 t158 _ ?side1 ?side2 ?side3 ?side4 A3.out).mono ?_); (case side1 => exact cb HR0_1 HB); (case side2 => exact HC0_1.out); (case side3 => exact cb HR0_2 HB); (case side4 => exact HC0_2.out); rintro e w9 ⟨rfl, hb⟩; replace BK156 := kb BK156 hb; replace HB := sb HB hb; (try clear hb); obtain ⟨hcz10_0, hcz10_1, hcz10_2, hfz10_0, hfz10_1, hfz10_2⟩ := cf3 BK156.out) | (go_at_call 45; (with_reducible refine (prog_cells.calls k a0_0 _ _ l0_1 _ _ l0_2 t159 _ ?side1 ?side2 ?side3 ?side4 A5.out).mono ?_); (case side1 => exact cb HR0_1 HB); (case side2 => exact HC0_1.out); (case side3 => exact cb HR0_2 HB); (case side4 => exact HC0_2.out); rintro e w11 ⟨rfl, hb⟩; replace BK156 := kb BK156 hb; replace HB := sb HB hb; (try clear hb))); try go_wp2_with (first | ((with_reducible refine gate_dst (N := 2) rfl ?_); refine bx 2 rfl rfl #[.int .i64 a0_0, .slice A0_1 l0_1.length c0_1, .slice A0_2 l0_2.length c0_2] 25 ?_; intro gb156 hg w7 hbox hb; have BK156 := Aside0.mk (hbox); have GE156 := ge HB hg; replace HB := sb HB hb; clear hb hbox hg; obtain ⟨hcz8_0, hcz8_1, hcz8_2, hfz8_0, hfz8_1, hfz8_2⟩ := cf3 BK156.out) | (go_at_call 13; (with_reducible refine (prog_Space.calls k a0_0 _ _ l0_1 _ _ l0_2 t157 t158 _ ?side1 ?side2 ?side3 ?side4 A3.out).mono ?_); (case side1 => exact cb HR0_1 HB); (case side2 => exact HC0_1.out); (case side3 => exact cb HR0_2 HB); (case side4 => exact HC0_2.out); rintro e w9 ⟨rfl, hb⟩; replace BK156 := kb BK156 hb; replace HB := sb HB hb; (try clear hb); obtain ⟨hcz10_0, hcz10_1, hcz10_2, hfz10_0, hfz10_1, hfz10_2⟩ := cf3 BK156.out) | (go_at_call 45; (with_reducible refine (prog_cells.calls k a0_0 _ _ l0_1 _ _ l0_2 t159 _ ?side1 ?side2 ?side3 ?side4 A5.out).mono ?_); (case side1 => exact cb HR0_1 HB); (case side2 => exact HC0_1.out); (case side3 => exact cb HR0_2 HB); (case side4 => exact HC0_2.out); rintro e w11 ⟨rfl, hb⟩; replace BK156 := kb BK156 hb; replace HB := sb HB hb; (try clear hb))))
 go_loopg [8, 9] k (fun kq v8 v9 w' => ∃ (x8_1 : Int) (x9_1 : Int), v8 = .int .i64 x8_1 ∧ v9 = .int .i64 x9_1 ∧ Aside0 (prog_Index.l0 kq l1 x8_1 x9_1 a0_0 l0_1 l0_2 = some (r1, r2)) ∧ Aside0 (kq ≤ k) ∧ Aside0 (w'.heap[gb156]? = some (.cells #[.int .i64 a0_0, (.slice A0_1 l0_1.length c0_1), (.slice A0_2 l0_2.length c0_2)] 25 (0, 0))) ∧ Aside0 (Below w.heap.size w w'))
 case atStart => exact ⟨(0), (wrap64 ((l1.length : Int) - 1)), rs, rs, H', ⟨Nat.le_refl _⟩, ⟨kk BK156⟩, ⟨bb HB⟩⟩
 case round =>
  clear H'
  try clear c1
  try clear p2
  try clear c4
  try clear c4b0
  try clear c4b1
  try clear c6
  try clear c6b0
  try clear c6b1
  try clear p6
  try clear hcz10_0 hcz10_1 hcz10_2
  try clear hcz8_0 hcz8_1 hcz8_2
  try clear hfz10_0 hfz10_1 hfz10_2
  try clear hfz8_0 hfz8_1 hfz8_2
  obtain ⟨x8_1, x9_1, rfl, rfl, HA, HK1, BK156, HB⟩ := hrel
  cases gk with
  | zero => exact absurd HA.out (by simp [prog_Index.l0])
  | succ k1 =>
   have H := HA.out
   clear HA
   simp only [prog_Index.l0] at H
   by_cases c12 : x9_1 ≥ 0
   rotate_left
   ·rw [if_neg c12] at H
    have c12b0 : decide (0 ≤ x9_1) = false := decide_eq_false c12
    clear c12
    simp only [Option.some.injEq, Prod.mk.injEq] at H
    obtain ⟨rfl, rfl⟩ := H
    go_wp2
    repeat (go_quiet (fail); try go_wp2)
    go_ret2
    exact ⟨rr, bb HB⟩
   rw [if_pos c12] at H
   have c12b0 : decide (0 ≤ x9_1) = true := decide_eq_true c12
   clear c12
   by_cases c13 : 0 ≤ x9_1
   rotate_left
   ·rw [if_neg c13] at H
    exact absurd H (by simp)
   rw [if_pos c13] at H
   have c13b0 : decide (0 ≤ x9_1) = true := decide_eq_true c13
   clear c13
   by_cases c14 : x9_1 < (l1.length : Int)
   rotate_left
   ·rw [if_neg c14] at H
    exact absurd H (by simp)
   rw [if_pos c14] at H
   have c14b0 : decide (x9_1 < (l1.length : Int)) = true := decide_eq_true c14
   clear c14
   by_cases c15 : (rd l1 x9_1) < 0
   ·rw [if_pos c15] at H
    have c15b0 : decide ((rd l1 x9_1) < 0) = true := decide_eq_true c15
    clear c15
    simp only [Option.some.injEq, Prod.mk.injEq] at H
    obtain ⟨rfl, rfl⟩ := H
    have p160 : 0 ≤ (x9_1 : Int) := od
    have q160 : x9_1 < (l1.length : Int) := od
    obtain ⟨ad160, e160, hx160_0⟩ := Kd.at_int HR1.out x9_1 p160 q160
    cases e160
    replace hx160_0 := bcell HB.out hx160_0
    replace p160 := eq_true p160
    replace q160 := eq_true q160
    go_wp2
    repeat (go_quiet (fail); try go_wp2)
    go_ret2
    exact ⟨rr, bb HB⟩
   rw [if_neg c15] at H
   have c15b0 : decide ((rd l1 x9_1) < 0) = false := decide_eq_false c15
   clear c15
   obtain ⟨ji16, hji16⟩ : ∃ j_ : Int, (IntKind.u64.wrap (a0_0)) = j_ := ⟨_, rfl⟩
   replace H : (if 0 ≤ (ji16) then (if (rd l1 x9_1) ≥ (shl .i64 1 (ji16)) then (some (0, 1)) else (prog_Index.l0 k1 l1 (Go.bits .or .i64 (shl .i64 x8_1 (ji16)) (rd l1 x9_1)) (wrap64 (x9_1 - 1)) a0_0 l0_1 l0_2)) else (none)) = some (r1, r2) := by first | (rw [hji16] at H; exact H) | (simp only [hji16] at H ⊢; exact H)
   by_cases c17 : 0 ≤ (ji16)
   rotate_left
   ·rw [if_neg c17] at H
    exact absurd H (by simp)
   rw [if_pos c17] at H
   have c17b0 := eq_true c17
   have c17b1 : decide (0 ≤ (ji16)) = true := decide_eq_true c17
   clear c17
   obtain ⟨ji18, hji18⟩ : ∃ j_ : Int, (shl .i64 1 (ji16)) = j_ := ⟨_, rfl⟩
   replace H : (if (rd l1 x9_1) ≥ (ji18) then (some (0, 1)) else (prog_Index.l0 k1 l1 (Go.bits .or .i64 (shl .i64 x8_1 (ji16)) (rd l1 x9_1)) (wrap64 (x9_1 - 1)) a0_0 l0_1 l0_2)) = some (r1, r2) := by first | (rw [hji18] at H; exact H) | (simp only [hji18] at H ⊢; exact H)
   have hji18_ : (IntKind.i64.wrap (1 * 2 ^ min (ji16).toNat 64)) = ji18 := hji18
   have hji18z : (ji16) ≤ 64 → (IntKind.i64.wrap (1 * 2 ^ (ji16).toNat)) = ji18 := shl_small hji18
   have hji18u : (IntKind.i64.wrap (2 ^ min (ji16).toNat 64)) = ji18 := by have h_ := hji18_; rw [Int.one_mul] at h_; exact h_
   have hji18v : (ji16) ≤ 64 → (IntKind.i64.wrap (2 ^ (ji16).toNat)) = ji18 := fun hle_ => by have h_ := hji18z hle_; rw [Int.one_mul] at h_; exact h_
   have hji18y : (wrap64 (1 * 2 ^ min (ji16).toNat 64)) = ji18 := (i64_w _).symm.trans hji18_
   have hji18x : (ji16) ≤ 64 → (wrap64 (1 * 2 ^ (ji16).toNat)) = ji18 := fun h_ => (i64_w _).symm.trans (hji18z h_)
   by_cases c19 : (rd l1 x9_1) ≥ (ji18)
   ·rw [if_pos c19] at H
    have c19b0 : decide ((ji18) ≤ (rd l1 x9_1)) = true := decide_eq_true c19
    clear c19
    simp only [Option.some.injEq, Prod.mk.injEq] at H
    obtain ⟨rfl, rfl⟩ := H
    have p160 : 0 ≤ (x9_1 : Int) := od
    have q160 : x9_1 < (l1.length : Int) := od
    obtain ⟨ad160, e160, hx160_0⟩ := Kd.at_int HR1.out x9_1 p160 q160
    cases e160
    replace hx160_0 := bcell HB.out hx160_0
    replace p160 := eq_true p160
    replace q160 := eq_true q160
    have p161 : 0 ≤ (x9_1 : Int) := od
    have q161 : x9_1 < (l1.length : Int) := od
    obtain ⟨ad161, e161, hx161_0⟩ := Kd.at_int HR1.out x9_1 p161 q161
    obtain rfl : ad160 = ad161 := (by injection e161)
    replace hx161_0 := bcell HB.out hx161_0
    replace p161 := eq_true p161
    replace q161 := eq_true q161
    obtain ⟨hcz20_0, hcz20_1, hcz20_2, hfz20_0, hfz20_1, hfz20_2⟩ := cf3 BK156.out
    go_wp2
    repeat (go_quiet (fail); try go_wp2)
    go_ret2
    exact ⟨by first | rfl | (simp [errW_none, errW_some] <;> rfl) | (simp only [← hji16, ← hji18]; first | rfl | (simp [errW_none, errW_some] <;> rfl)) | (simp [*, errW_none, errW_some] <;> rfl), bb HB⟩
   rw [if_neg c19] at H
   have c19b0 : decide ((ji18) ≤ (rd l1 x9_1)) = false := decide_eq_false c19
   clear c19
   have c21b0 := eq_true (od : 0 ≤ (ji16))
   obtain ⟨ji22, hji22⟩ : ∃ j_ : Int, (shl .i64 x8_1 (ji16)) = j_ := ⟨_, rfl⟩
   replace H : (prog_Index.l0 k1 l1 (Go.bits .or .i64 (ji22) (rd l1 x9_1)) (wrap64 (x9_1 - 1)) a0_0 l0_1 l0_2) = some (r1, r2) := by first | (rw [hji22] at H; exact H) | (simp only [hji22] at H ⊢; exact H)
   have hji22_ : (IntKind.i64.wrap (x8_1 * 2 ^ min (ji16).toNat 64)) = ji22 := hji22
   have hji22z : (ji16) ≤ 64 → (IntKind.i64.wrap (x8_1 * 2 ^ (ji16).toNat)) = ji22 := shl_small hji22
   have hji22y : (wrap64 (x8_1 * 2 ^ min (ji16).toNat 64)) = ji22 := (i64_w _).symm.trans hji22_
   have hji22x : (ji16) ≤ 64 → (wrap64 (x8_1 * 2 ^ (ji16).toNat)) = ji22 := fun h_ => (i64_w _).symm.trans (hji22z h_)
   have H' := Aside0.mk H
   clear H
   have p160 : 0 ≤ (x9_1 : Int) := od
   have q160 : x9_1 < (l1.length : Int) := od
   obtain ⟨ad160, e160, hx160_0⟩ := Kd.at_int HR1.out x9_1 p160 q160
   cases e160
   replace hx160_0 := bcell HB.out hx160_0
   replace p160 := eq_true p160
   replace q160 := eq_true q160
   have p161 : 0 ≤ (x9_1 : Int) := od
   have q161 : x9_1 < (l1.length : Int) := od
   obtain ⟨ad161, e161, hx161_0⟩ := Kd.at_int HR1.out x9_1 p161 q161
   obtain rfl : ad160 = ad161 := (by injection e161)
   replace hx161_0 := bcell HB.out hx161_0
   replace p161 := eq_true p161
   replace q161 := eq_true q161
   obtain ⟨hcz23_0, hcz23_1, hcz23_2, hfz23_0, hfz23_1, hfz23_2⟩ := cf3 BK156.out
   have p162 : 0 ≤ (x9_1 : Int) := od
   have q162 : x9_1 < (l1.length : Int) := od
   obtain ⟨ad162, e162, hx162_0⟩ := Kd.at_int HR1.out x9_1 p162 q162
   obtain rfl : ad160 = ad162 := (by injection e162)
   replace hx162_0 := bcell HB.out hx162_0
   replace p162 := eq_true p162
   replace q162 := eq_true q162
   go_wp2
   repeat (go_quiet (fail); try go_wp2)
   go_roundg k1
   case measure => have := HK1.out; omega
   case rel => exact ⟨(Go.bits .or .i64 (ji22) (rd l1 x9_1)), (wrap64 (x9_1 - 1)), (by first | rfl | (simp; done) | (simp only [← hji22] <;> (first | rfl | simp)) | (simp [*]; done)), rs, H', ⟨by have := HK1.out; omega⟩, ⟨kk BK156⟩, ⟨bb HB⟩⟩
def r1_Same.l0 : Nat → List Int → List Int → Int → Option (Bool)
 | 0, _, _, _ => none
 | k + 1, x0, x1, x5 => if x5 < (x0.length : Int) then (if 0 ≤ x5 then (if x5 < (x1.length : Int) then (if (rd x0 x5) = (rd x1 x5) then (r1_Same.l0 k x0 x1 (wrap64 (x5 + 1))) else (some false)) else (none)) else (none)) else (some true)
def r1_Same.f (k : Nat) (l0 : List Int) (l1 : List Int) : Option (Bool) := if (l0.length : Int) = (l1.length : Int) then (r1_Same.l0 k l0 l1 0) else (some false)
theorem r1_Same.calls (k : Nat) (A0 : Option Addr) (c0 : Nat) (l0 : List Int) (A1 : Option Addr) (c1 : Nat) (l1 : List Int) (r : Bool) (w : World) (hr0 : Kd.C (Kd.int .i64) w A0 l0.length l0) (hc0 : l0.length ≤ c0) (hr1 : Kd.C (Kd.int .i64) w A1 l1.length l1) (hc1 : l1.length ≤ c1) (h : r1_Same.f k l0 l1 = some r) :
  Calls Try.prog 19 #[.slice A0 l0.length c0, .slice A1 l1.length c1] w fun e w' => e = .returned (.bool r) ∧ Drawn0 w w' := by
 have HR0 := Aside0.mk hr0
 have HC0 := Aside0.mk hc0
 clear hr0 hc0
 have HR1 := Aside0.mk hr1
 have HC1 := Aside0.mk hc1
 clear hr1 hc1
 have H : (if (l0.length : Int) = (l1.length : Int) then (r1_Same.l0 k l0 l1 0) else (some false)) = some r := h
 clear h
 by_cases c3 : (l0.length : Int) = (l1.length : Int)
 rotate_left
 ·rw [if_neg c3] at H
  have c3b0 : ((l0.length : Int) == (l1.length : Int)) = false := beq_eq_false_iff_ne.mpr c3
  have c3b1 : ((l0.length : Int) != (l1.length : Int)) = true := bne_iff_ne.mpr c3
  have c3b2 : (l0.length == l1.length) = false := by first | simpa using c3 | (simp at c3 ⊢; omega)
  obtain rfl := Option.some.inj H
  go_enter Try.func19, Try.ntmps19
  go_wp2
  repeat (go_quiet (fail); try go_wp2)
  go_ret
  exact ⟨rs, dr⟩
 rw [if_pos c3] at H
 have c3b0 : ((l0.length : Int) == (l1.length : Int)) = true := beq_iff_eq.mpr c3
 have c3b1 : ((l0.length : Int) != (l1.length : Int)) = false := bne_eq_false_iff_eq.mpr c3
 have c3b2 : (l0.length == l1.length) = true := by first | simpa using c3 | (simp at c3 ⊢; omega)
 clear c3
 have H' := Aside0.mk H
 clear H
 go_enter Try.func19, Try.ntmps19
 go_wp2
 repeat (go_quiet (fail); try go_wp2)
 go_loopg [5] k (fun kq v5 w' => ∃ (x5_1 : Int), v5 = .int .i64 x5_1 ∧ Aside0 (r1_Same.l0 kq l0 l1 x5_1 = some r) ∧ Aside0 (kq ≤ k) ∧ Drawn0 w w')
 case atStart => exact ⟨(0), rs, H', ⟨Nat.le_refl _⟩, dr⟩
 case round =>
  clear H'
  try clear c1
  try clear p2
  try clear c3
  try clear c3b0
  try clear c3b1
  try clear c3b2
  obtain ⟨x5_1, rfl, HA, HK1, ⟨m1, rfl⟩⟩ := hrel
  cases gk with
  | zero => exact absurd HA.out (by simp [r1_Same.l0])
  | succ k1 =>
   have H := HA.out
   clear HA
   simp only [r1_Same.l0] at H
   by_cases c4 : x5_1 < (l0.length : Int)
   rotate_left
   ·rw [if_neg c4] at H
    have c4b0 : decide (x5_1 < (l0.length : Int)) = false := decide_eq_false c4
    clear c4
    obtain rfl := Option.some.inj H
    go_wp2
    repeat (go_quiet (fail); try go_wp2)
    go_ret
    exact ⟨rs, dr⟩
   rw [if_pos c4] at H
   have c4b0 : decide (x5_1 < (l0.length : Int)) = true := decide_eq_true c4
   clear c4
   by_cases c5 : 0 ≤ x5_1
   rotate_left
   ·rw [if_neg c5] at H
    exact absurd H (by simp)
   rw [if_pos c5] at H
   have c5b0 : decide (0 ≤ x5_1) = true := decide_eq_true c5
   clear c5
   by_cases c6 : x5_1 < (l1.length : Int)
   rotate_left
   ·rw [if_neg c6] at H
    exact absurd H (by simp)
   rw [if_pos c6] at H
   have c6b0 : decide (x5_1 < (l1.length : Int)) = true := decide_eq_true c6
   clear c6
   by_cases c7 : (rd l0 x5_1) = (rd l1 x5_1)
   rotate_left
   ·rw [if_neg c7] at H
    have c7b0 : ((rd l0 x5_1) == (rd l1 x5_1)) = false := beq_eq_false_iff_ne.mpr c7
    have c7b1 : ((rd l0 x5_1) != (rd l1 x5_1)) = true := bne_iff_ne.mpr c7
    obtain rfl := Option.some.inj H
    have p163 : 0 ≤ (x5_1 : Int) := od
    have q163 : x5_1 < (l0.length : Int) := od
    obtain ⟨ad163, e163, hx163_0⟩ := Kd.at_int HR0.out x5_1 p163 q163
    cases e163
    replace p163 := eq_true p163
    replace q163 := eq_true q163
    have p164 : 0 ≤ (x5_1 : Int) := od
    have q164 : x5_1 < (l1.length : Int) := od
    obtain ⟨ad164, e164, hx164_0⟩ := Kd.at_int HR1.out x5_1 p164 q164
    cases e164
    replace p164 := eq_true p164
    replace q164 := eq_true q164
    go_wp2
    repeat (go_quiet (fail); try go_wp2)
    go_ret
    exact ⟨rs, dr⟩
   rw [if_pos c7] at H
   have c7b0 : ((rd l0 x5_1) == (rd l1 x5_1)) = true := beq_iff_eq.mpr c7
   have c7b1 : ((rd l0 x5_1) != (rd l1 x5_1)) = false := bne_eq_false_iff_eq.mpr c7
   clear c7
   have H' := Aside0.mk H
   clear H
   have p163 : 0 ≤ (x5_1 : Int) := od
   have q163 : x5_1 < (l0.length : Int) := od
   obtain ⟨ad163, e163, hx163_0⟩ := Kd.at_int HR0.out x5_1 p163 q163
   cases e163
   replace p163 := eq_true p163
   replace q163 := eq_true q163
   have p164 : 0 ≤ (x5_1 : Int) := od
   have q164 : x5_1 < (l1.length : Int) := od
   obtain ⟨ad164, e164, hx164_0⟩ := Kd.at_int HR1.out x5_1 p164 q164
   cases e164
   replace p164 := eq_true p164
   replace q164 := eq_true q164
   go_wp2
   repeat (go_quiet (fail); try go_wp2)
   go_roundg k1
   case measure => have := HK1.out; omega
   case rel => exact ⟨(wrap64 (x5_1 + 1)), rs, H', ⟨by have := HK1.out; omega⟩, dr⟩
theorem aw_check : prog_Check.f 60 2 one_vars one_body = some 0 := by kernel_rfl
theorem aw_count : prog_Count.f 60 2 one_vars one_body = some (6, 12, 0) := by kernel_rfl
theorem aw_inside : prog_Inside.f 60 2 one_vars one_body 1 = some ([2, 3], [4], 0) := by kernel_rfl
theorem aw_space : prog_Space.f 60 2 one_vars one_body = some (16, 0) := by kernel_rfl
theorem aw_store : prog_Store.f 60 2 one_vars one_body 6 = some ([2, 1], 0) := by kernel_rfl
theorem aw_index : prog_Index.f 60 2 one_vars one_body [2, 1] = some (6, 0) := by kernel_rfl
theorem aw_same : r1_Same.f 60 [2, 3] [2, 3] = some true := by kernel_rfl
def one_bad : List S47 := [⟨0, 2, [one_c1], [], []⟩, one_s19, one_s22]
theorem aw_bad : prog_Check.f 60 2 one_vars one_bad = some 30 := by kernel_rfl
end Go.Proofs.Ytffcpbgbhkbplaa.Print
namespace Go.Proofs.Ytffcpbgbhkbplaa.Print
open Go.RowKit Go.Proofs.YtffcpbgbhkbplaaW.PrintWords Go.Proofs.YtffcpbgbhkbplaaW.PrintLast Go.Proofs.YtffcpbgbhkbplaaW.PrintMore
attribute [local go_sem] max2_int min2_int max_two min_two max_three min_three max_four min_four
set_option linter.unusedVariables false
set_option linter.unusedSimpArgs false
open Go.RowKit
theorem one_spoil {B : Nat} {W : World} {v : Value} (h : IsRow k47 B 47 W v one_body) :
    ∃ b : Nat, v = .slice (some ⟨b, 0, none⟩) 3 3 ∧ B ≤ b ∧ b < W.heap.size ∧ W.cell? ⟨b, 1, none⟩ = some (.int .i64 0) ∧ W.frozen? ⟨b, 1, none⟩ = false ∧ IsRow k47 B 47 (W.setCell ⟨b, 1, none⟩ (.int .i64 2)) v one_bad := by
  obtain ⟨b, css, rfl, h1, h0, h2, h3, h4⟩ := h
  obtain ⟨x0, x1, x2, rfl⟩ : ∃ x0 x1 x2, css = [x0, x1, x2] := by
    match css, h2 with
    | [x0, x1, x2], _ => exact ⟨x0, x1, x2, rfl⟩
  obtain ⟨A2, z2, A3, z3, A4, z4, rfl, l2, f2, l3, f3, l4, f4⟩ := k47_openF (h4 0 one_s5 x0 rfl rfl)
  have hne : ∀ k, B ≤ k ∧ k < b → k ≠ b := fun k hk => by omega
  have hc : W.cell? ⟨b, 1, none⟩ = some (.int .i64 0) := (blk_cell h1 1).trans rfl
  have hs := blk_set h1 1 (.int .i64 2)
  refine ⟨b, rfl, h0, blk_lt h1, hc, blk_frozen h1 1, b, [[.int .i64 0, .int .i64 2, .slice A2 one_s5.f2.length z2, .slice A3 one_s5.f3.length z3, .slice A4 one_s5.f4.length z4], x1, x2], rfl, ?_, h0, rfl, h3, ?_⟩
  · rw [hs]
    simp
    rfl
  · have far : ∀ {α : Type} {d : Kd α} {x : α} {c : List Value}, Kd.FK d W (fun k => B ≤ k ∧ k < b) x c → Kd.FK d (W.setCell ⟨b, 1, none⟩ (.int .i64 2)) (fun k => B ≤ k ∧ k < b) x c := fun h => Kd.FK_step h (fun k hk _ => Below.heap_setCell _ _ _ _ (hne k hk))
    exact each3 (k47_mkF _ _ ⟨0, 2, [one_c1], [], []⟩ (A2 := A2) (c2 := z2) l2 (Kd.F_far f2 hne _) (A3 := A3) (c3 := z3) l3 (Kd.F_far f3 hne _) (A4 := A4) (c4 := z4) l4 (Kd.F_far f4 hne _)) (far (h4 1 one_s19 x1 rfl rfl)) (far (h4 2 one_s22 x2 rfl rfl))
theorem aw_same2 : r1_Same.f 60 [4] [4] = some true := by kernel_rfl
theorem aw_same3 : r1_Same.f 60 [2, 1] [2, 1] = some true := by kernel_rfl
theorem vars_far {B : Nat} {W : World} {v : Value} {l : List S82} {b i t : Nat} {cs : Array Value} (h : IsRow k82 B 82 W v l) (hb : W.heap[b]? = some (.cells cs t (0, 0))) (ht : t ≠ 82) (u : Value) : IsRow k82 B 82 (W.setCell ⟨b, i, none⟩ u) v l := by
  obtain ⟨b2, css, e1, h1, h0, h2, h3, h4⟩ := h
  have hne : b2 ≠ b := by
    intro e
    subst e
    rw [h1] at hb
    cases hb
    exact ht rfl
  refine ⟨b2, css, e1, (Below.heap_setCell _ _ _ _ hne).trans h1, h0, h2, h3, fun j x c hj hc => ?_⟩
  obtain rfl := k82_open (Kd.FK_now (h4 j x c hj hc))
  exact k82_mkF _ _ _
theorem int2 (W : World) (a b : Int) : Kd.C (Kd.int .i64) (W.alloc (.cells #[.int .i64 a, .int .i64 b] 3)) (some ⟨W.heap.size, 0, none⟩) 2 [a, b] := by
  obtain ⟨A, e, h⟩ := (IsRow.new (d := Kd.int .i64) (e := 3) (l := [a, b]) (Nat.zero_le W.heap.size) [[.int .i64 a], [.int .i64 b]] (cs := #[.int .i64 a, .int .i64 b]) rfl rfl (by simp) (each2 (fun _ _ => rfl) (fun _ _ => rfl))).C
  cases e
  exact h
theorem int1 (W : World) (a : Int) : Kd.C (Kd.int .i64) (W.alloc (.cells #[.int .i64 a] 3)) (some ⟨W.heap.size, 0, none⟩) 1 [a] := by
  obtain ⟨A, e, h⟩ := (IsRow.new (d := Kd.int .i64) (e := 3) (l := [a]) (Nat.zero_le W.heap.size) [[.int .i64 a]] (cs := #[.int .i64 a]) rfl rfl (by simp) (each1 (fun _ _ => rfl))).C
  cases e
  exact h
def w3_awake.f (_ : Nat) : Option Bool := some true
theorem w3_awake.calls (k : Nat) (r : Bool) (w : World) (h : w3_awake.f k = some r) : Calls Try.prog 12 #[] w fun e w' => e = .returned (.bool r) ∧ Below w.heap.size w w' := by
  obtain rfl := Option.some.inj h
  clear h
  have huP := Try.underlying25
  have huS := Try.underlying47
  refine callsIn_wide.1 (?_ : CallsIn Fence.wide 9 _ _ _ _ _)
  refine callsIn_of_wp Try.func12 rfl trivial ?_ rfl
  simp only [Try.ntmps12, List.size_toArray, List.length_cons, List.length_nil, Nat.reduceAdd, Nat.reduceSub, Array.replicate_succ, Array.replicate_zero, List.push_toArray, List.append_toArray, List.nil_append, List.cons_append]
  gi_wp2
  refine ⟨trivial, ?_⟩
  refine (callsIn_wide.2 (w3_one.lit w)).mono ?_
  rintro e w1 ⟨v2, v3, rfl, r2, r3, hb1⟩
  obtain ⟨A2, rfl, c2⟩ := IsRow.C r2
  obtain ⟨A3, rfl, c3⟩ := IsRow.C r3
  have C2 := Aside0.mk c2
  have C3 := Aside0.mk c3
  have B1 := Aside0.mk hb1
  clear c2 c3 r2 r3 hb1
  have P2 := Aside0.mk (heap_alloc_new w1 (.cells #[.int .i64 2, .slice A2 one_vars.length one_vars.length, .slice A3 one_body.length one_body.length] 25))
  gi_wp2
  have L2 := Aside0.mk (bal (Below.refl _ w1) (.cells #[.int .i64 2, .slice A2 one_vars.length one_vars.length, .slice A3 one_body.length one_body.length] 25))
  generalize w1.alloc (.cells #[.int .i64 2, .slice A2 one_vars.length one_vars.length, .slice A3 one_body.length one_body.length] 25) = w2 at P2 L2 ⊢
  refine ⟨trivial, ?_⟩
  refine (callsIn_wide.2 (prog_Count.calls 60 2 A2 _ one_vars A3 _ one_body 6 12 0 w2 (Kd.C_below C2.out L2.out) (Nat.le_refl _) (Kd.C_below C3.out L2.out) (Nat.le_refl _) aw_count)).mono ?_
  rintro e w3 ⟨rfl, hb⟩
  have L3 := Aside0.mk (L2.out.trans (hb.mono L2.out.size))
  have P3 := Aside0.mk (blk_below P2.out hb)
  clear hb P2
  have k0 : w3.cell? ⟨w1.heap.size, 0, none⟩ = some (.int .i64 2) := (blk_cell P3.out 0).trans rfl
  have k1 : w3.cell? ⟨w1.heap.size, 1, none⟩ = some (.slice A2 one_vars.length one_vars.length) := (blk_cell P3.out 1).trans rfl
  have k2 : w3.cell? ⟨w1.heap.size, 2, none⟩ = some (.slice A3 one_body.length one_body.length) := (blk_cell P3.out 2).trans rfl
  gi_wp2
  clear k0 k1 k2
  refine ⟨trivial, ?_⟩
  refine (callsIn_wide.2 (prog_Inside.calls 60 2 A2 _ one_vars A3 _ one_body 1 [2, 3] [4] 0 w3 (Kd.C_below C2.out L3.out) (Nat.le_refl _) (Kd.C_below C3.out L3.out) (Nat.le_refl _) aw_inside)).mono ?_
  rintro e w4 ⟨vt, ve, rfl, ot, oe, hb⟩
  obtain ⟨At, zt, rfl, lt, ct⟩ := Kd.R_reads ot
  obtain ⟨Ae, ze, rfl, le, ce⟩ := Kd.R_reads oe
  have CT := Aside0.mk ct
  have CE := Aside0.mk ce
  have L4 := Aside0.mk (L3.out.trans (hb.mono L3.out.size))
  have P4 := Aside0.mk (blk_below P3.out hb)
  clear hb P3 ot oe ct ce
  have k0 : w4.cell? ⟨w1.heap.size, 0, none⟩ = some (.int .i64 2) := (blk_cell P4.out 0).trans rfl
  have k1 : w4.cell? ⟨w1.heap.size, 1, none⟩ = some (.slice A2 one_vars.length one_vars.length) := (blk_cell P4.out 1).trans rfl
  have k2 : w4.cell? ⟨w1.heap.size, 2, none⟩ = some (.slice A3 one_body.length one_body.length) := (blk_cell P4.out 2).trans rfl
  gi_wp2
  clear k0 k1 k2
  have X4 := Aside0.mk (Below.refl w4.heap.size w4)
  refine ⟨trivial, ?_⟩
  refine (callsIn_wide.2 (prog_Space.calls 60 2 A2 _ one_vars A3 _ one_body 16 0 w4 (Kd.C_below C2.out L4.out) (Nat.le_refl _) (Kd.C_below C3.out L4.out) (Nat.le_refl _) aw_space)).mono ?_
  rintro e w5 ⟨rfl, hb⟩
  have L5 := Aside0.mk (L4.out.trans (hb.mono L4.out.size))
  have P5 := Aside0.mk (blk_below P4.out hb)
  have X5 := Aside0.mk (X4.out.trans (hb.mono X4.out.size))
  clear hb P4
  have k0 : w5.cell? ⟨w1.heap.size, 0, none⟩ = some (.int .i64 2) := (blk_cell P5.out 0).trans rfl
  have k1 : w5.cell? ⟨w1.heap.size, 1, none⟩ = some (.slice A2 one_vars.length one_vars.length) := (blk_cell P5.out 1).trans rfl
  have k2 : w5.cell? ⟨w1.heap.size, 2, none⟩ = some (.slice A3 one_body.length one_body.length) := (blk_cell P5.out 2).trans rfl
  gi_wp2
  clear k0 k1 k2
  refine ⟨trivial, ?_⟩
  refine (callsIn_wide.2 (prog_Store.calls 60 2 A2 _ one_vars A3 _ one_body 6 [2, 1] 0 w5 (Kd.C_below C2.out L5.out) (Nat.le_refl _) (Kd.C_below C3.out L5.out) (Nat.le_refl _) aw_store)).mono ?_
  rintro e w6 ⟨vs, rfl, os, hb⟩
  obtain ⟨As, zs, rfl, ls, cs⟩ := Kd.R_reads os
  have CS := Aside0.mk cs
  have L6 := Aside0.mk (L5.out.trans (hb.mono L5.out.size))
  have P6 := Aside0.mk (blk_below P5.out hb)
  have X6 := Aside0.mk (X5.out.trans (hb.mono X5.out.size))
  clear hb P5 os cs
  have k0 : w6.cell? ⟨w1.heap.size, 0, none⟩ = some (.int .i64 2) := (blk_cell P6.out 0).trans rfl
  have k1 : w6.cell? ⟨w1.heap.size, 1, none⟩ = some (.slice A2 one_vars.length one_vars.length) := (blk_cell P6.out 1).trans rfl
  have k2 : w6.cell? ⟨w1.heap.size, 2, none⟩ = some (.slice A3 one_body.length one_body.length) := (blk_cell P6.out 2).trans rfl
  have I7 := Aside0.mk (int2 w6 2 1)
  have b67 := bal (Below.refl w6.heap.size w6) (.cells #[.int .i64 2, .int .i64 1] 3)
  gi_wp2
  clear k0 k1 k2
  generalize w6.alloc (.cells #[.int .i64 2, .int .i64 1] 3) = w7 at I7 b67 ⊢
  have hb := b67
  have L7 := Aside0.mk (L6.out.trans (hb.mono L6.out.size))
  have P7 := Aside0.mk (blk_below P6.out hb)
  have X7 := Aside0.mk (X6.out.trans (hb.mono X6.out.size))
  have Y7 := Aside0.mk b67
  clear hb P6 b67
  refine ⟨trivial, ?_⟩
  refine (callsIn_wide.2 (prog_Index.calls 60 2 A2 _ one_vars A3 _ one_body _ _ [2, 1] 6 0 w7 (Kd.C_below C2.out L7.out) (Nat.le_refl _) (Kd.C_below C3.out L7.out) (Nat.le_refl _) I7.out (Nat.le_refl _) aw_index)).mono ?_
  rintro e w8 ⟨rfl, hb⟩
  have L8 := Aside0.mk (L7.out.trans (hb.mono L7.out.size))
  have P8 := Aside0.mk (blk_below P7.out hb)
  have X8 := Aside0.mk (X7.out.trans (hb.mono X7.out.size))
  have Y8 := Aside0.mk (Y7.out.trans (hb.mono Y7.out.size))
  clear hb P7
  gi_wp2
  refine ⟨trivial, ?_⟩
  refine (callsIn_wide.2 (w3_one.lit w8)).mono ?_
  rintro e w9 ⟨v2, v3, rfl, r2, r3, hb⟩
  have L9 := Aside0.mk (L8.out.trans (hb.mono L8.out.size))
  have P9 := Aside0.mk (blk_below P8.out hb)
  have X9 := Aside0.mk (X8.out.trans (hb.mono X8.out.size))
  have Y9 := Aside0.mk (Y8.out.trans (hb.mono Y8.out.size))
  clear hb P8
  obtain ⟨D2, rfl, d2⟩ := IsRow.C r2
  obtain ⟨b, eb, hb8, hb9, _, _, r4⟩ := one_spoil r3
  have Q10 := heap_alloc_new w9 (.cells #[.int .i64 2, .slice D2 one_vars.length one_vars.length, .slice (some ⟨b, 0, none⟩) 3 3] 25)
  have b910 := bal (Below.refl w9.heap.size w9) (.cells #[.int .i64 2, .slice D2 one_vars.length one_vars.length, .slice (some ⟨b, 0, none⟩) 3 3] 25)
  obtain ⟨b', eb', _, _, hc, hf, _⟩ := one_spoil (r3.below b910)
  subst eb
  cases eb'
  have b8w1 := L8.out.size
  have b8w4 := X8.out.size
  have b8w6 := Y8.out.size
  have lw1 := blk_lt P9.out
  have L11 := Aside0.mk (bal (L9.out.trans (lit_below (i := 1) w9 (.int .i64 2) (by omega : w1.heap.size ≤ b))) (.cells #[.int .i64 2, .slice D2 one_vars.length one_vars.length, .slice (some ⟨b, 0, none⟩) 3 3] 25))
  have X11 := Aside0.mk (bal (X9.out.trans (lit_below (i := 1) w9 (.int .i64 2) (by omega : w4.heap.size ≤ b))) (.cells #[.int .i64 2, .slice D2 one_vars.length one_vars.length, .slice (some ⟨b, 0, none⟩) 3 3] 25))
  have Y11 := Aside0.mk (bal (Y9.out.trans (lit_below (i := 1) w9 (.int .i64 2) (by omega : w6.heap.size ≤ b))) (.cells #[.int .i64 2, .slice D2 one_vars.length one_vars.length, .slice (some ⟨b, 0, none⟩) 3 3] 25))
  have P11 := Aside0.mk (kal (blk_far P9.out (p := ⟨b, 1, none⟩) (by show w1.heap.size ≠ b; omega) (.int .i64 2)) (.cells #[.int .i64 2, .slice D2 one_vars.length one_vars.length, .slice (some ⟨b, 0, none⟩) 3 3] 25))
  have R11 := Aside0.mk (r4.below (bal (Below.refl _ _) (.cells #[.int .i64 2, .slice D2 one_vars.length one_vars.length, .slice (some ⟨b, 0, none⟩) 3 3] 25)))
  obtain ⟨b3, cs3, eb3, hb3, _⟩ := r3
  cases eb3
  have RV11 := Aside0.mk ((vars_far (i := 1) r2 hb3 (by decide) (.int .i64 2)).below (bal (Below.refl _ _) (.cells #[.int .i64 2, .slice D2 one_vars.length one_vars.length, .slice (some ⟨b, 0, none⟩) 3 3] 25)))
  have Q11 : Aside0 (((w9.setCell ⟨b, 1, none⟩ (.int .i64 2)).alloc (.cells #[.int .i64 2, .slice D2 one_vars.length one_vars.length, .slice (some ⟨b, 0, none⟩) 3 3] 25)).heap[w9.heap.size]? = some (.cells #[.int .i64 2, .slice D2 one_vars.length one_vars.length, .slice (some ⟨b, 0, none⟩) 3 3] 25)) := ⟨by
    have := heap_alloc_new (w9.setCell ⟨b, 1, none⟩ (.int .i64 2)) (.cells #[.int .i64 2, .slice D2 one_vars.length one_vars.length, .slice (some ⟨b, 0, none⟩) 3 3] 25)
    simpa [World.setCell] using this⟩
  clear r2 r4 b910 P9 hb3
  have q0 : (w9.alloc (.cells #[.int .i64 2, .slice D2 one_vars.length one_vars.length, .slice (some ⟨b, 0, none⟩) 3 3] 25)).cell? ⟨w9.heap.size, 0, none⟩ = some (.int .i64 2) := (blk_cell Q10 0).trans rfl
  have q1 : (w9.alloc (.cells #[.int .i64 2, .slice D2 one_vars.length one_vars.length, .slice (some ⟨b, 0, none⟩) 3 3] 25)).cell? ⟨w9.heap.size, 1, none⟩ = some (.slice D2 one_vars.length one_vars.length) := (blk_cell Q10 1).trans rfl
  have q2 : (w9.alloc (.cells #[.int .i64 2, .slice D2 one_vars.length one_vars.length, .slice (some ⟨b, 0, none⟩) 3 3] 25)).cell? ⟨w9.heap.size, 2, none⟩ = some (.slice (some ⟨b, 0, none⟩) 3 3) := (blk_cell Q10 2).trans rfl
  have k0 : ((w9.setCell ⟨b, 1, none⟩ (.int .i64 2)).alloc (.cells #[.int .i64 2, .slice D2 one_vars.length one_vars.length, .slice (some ⟨b, 0, none⟩) 3 3] 25)).cell? ⟨w1.heap.size, 0, none⟩ = some (.int .i64 2) := (blk_cell P11.out 0).trans rfl
  have k1 : ((w9.setCell ⟨b, 1, none⟩ (.int .i64 2)).alloc (.cells #[.int .i64 2, .slice D2 one_vars.length one_vars.length, .slice (some ⟨b, 0, none⟩) 3 3] 25)).cell? ⟨w1.heap.size, 1, none⟩ = some (.slice A2 one_vars.length one_vars.length) := (blk_cell P11.out 1).trans rfl
  have k2 : ((w9.setCell ⟨b, 1, none⟩ (.int .i64 2)).alloc (.cells #[.int .i64 2, .slice D2 one_vars.length one_vars.length, .slice (some ⟨b, 0, none⟩) 3 3] 25)).cell? ⟨w1.heap.size, 2, none⟩ = some (.slice A3 one_body.length one_body.length) := (blk_cell P11.out 2).trans rfl
  gi_wp2
  clear k0 k1 k2 q0 q1 q2 hc hf Q10
  generalize ((w9.setCell ⟨b, 1, none⟩ (.int .i64 2)).alloc (.cells #[.int .i64 2, .slice D2 one_vars.length one_vars.length, .slice (some ⟨b, 0, none⟩) 3 3] 25)) = w11 at L11 X11 Y11 P11 R11 RV11 Q11 ⊢
  refine ⟨trivial, ?_⟩
  refine (callsIn_wide.2 (prog_Check.calls 60 2 A2 _ one_vars A3 _ one_body 0 w11 (Kd.C_below C2.out L11.out) (Nat.le_refl _) (Kd.C_below C3.out L11.out) (Nat.le_refl _) aw_check)).mono ?_
  rintro e w12 ⟨rfl, hb⟩
  have Q12 := Aside0.mk (blk_below Q11.out hb)
  have R12 := Aside0.mk (R11.out.below hb)
  have RV12 := Aside0.mk (RV11.out.below hb)
  have L12 := Aside0.mk (L11.out.trans (hb.mono L11.out.size))
  have P12 := Aside0.mk (blk_below P11.out hb)
  have X12 := Aside0.mk (X11.out.trans (hb.mono X11.out.size))
  have Y12 := Aside0.mk (Y11.out.trans (hb.mono Y11.out.size))
  clear hb P11 Q11 R11 RV11
  gi_wp2
  refine ⟨trivial, ?_⟩
  refine (callsIn_wide.2 (r1_Same.calls 60 At _ [2, 3] (some ⟨w12.heap.size, 0, none⟩) _ [2, 3] true (w12.alloc (.cells #[.int .i64 2, .int .i64 3] 3)) (Kd.C_below CT.out (bal X12.out _)) lt (int2 w12 2 3) (Nat.le_refl _) aw_same)).mono ?_
  rintro e w13 ⟨rfl, hd⟩
  have hb : Below w12.heap.size w12 w13 := by
    obtain ⟨nd, rfl⟩ := hd
    exact bdN (bal (Below.refl _ _) _) nd
  clear hd
  have Q13 := Aside0.mk (blk_below Q12.out hb)
  have R13 := Aside0.mk (R12.out.below hb)
  have RV13 := Aside0.mk (RV12.out.below hb)
  have L13 := Aside0.mk (L12.out.trans (hb.mono L12.out.size))
  have P13 := Aside0.mk (blk_below P12.out hb)
  have X13 := Aside0.mk (X12.out.trans (hb.mono X12.out.size))
  have Y13 := Aside0.mk (Y12.out.trans (hb.mono Y12.out.size))
  clear hb P12 Q12 R12 RV12
  gi_wp2
  refine ⟨trivial, ?_⟩
  refine (callsIn_wide.2 (r1_Same.calls 60 Ae _ [4] (some ⟨w13.heap.size, 0, none⟩) _ [4] true (w13.alloc (.cells #[.int .i64 4] 3)) (Kd.C_below CE.out (bal X13.out _)) le (int1 w13 4) (Nat.le_refl _) aw_same2)).mono ?_
  rintro e w14 ⟨rfl, hd⟩
  have hb : Below w13.heap.size w13 w14 := by
    obtain ⟨nd, rfl⟩ := hd
    exact bdN (bal (Below.refl _ _) _) nd
  clear hd
  have Q14 := Aside0.mk (blk_below Q13.out hb)
  have R14 := Aside0.mk (R13.out.below hb)
  have RV14 := Aside0.mk (RV13.out.below hb)
  have L14 := Aside0.mk (L13.out.trans (hb.mono L13.out.size))
  have P14 := Aside0.mk (blk_below P13.out hb)
  have X14 := Aside0.mk (X13.out.trans (hb.mono X13.out.size))
  have Y14 := Aside0.mk (Y13.out.trans (hb.mono Y13.out.size))
  clear hb P13 Q13 R13 RV13
  gi_wp2
  refine ⟨trivial, ?_⟩
  refine (callsIn_wide.2 (r1_Same.calls 60 As _ [2, 1] (some ⟨w14.heap.size, 0, none⟩) _ [2, 1] true (w14.alloc (.cells #[.int .i64 2, .int .i64 1] 3)) (Kd.C_below CS.out (bal Y14.out _)) ls (int2 w14 2 1) (Nat.le_refl _) aw_same3)).mono ?_
  rintro e w15 ⟨rfl, hd⟩
  have hb : Below w14.heap.size w14 w15 := by
    obtain ⟨nd, rfl⟩ := hd
    exact bdN (bal (Below.refl _ _) _) nd
  clear hd
  have Q15 := Aside0.mk (blk_below Q14.out hb)
  have R15 := Aside0.mk (R14.out.below hb)
  have RV15 := Aside0.mk (RV14.out.below hb)
  have L15 := Aside0.mk (L14.out.trans (hb.mono L14.out.size))
  have P15 := Aside0.mk (blk_below P14.out hb)
  have X15 := Aside0.mk (X14.out.trans (hb.mono X14.out.size))
  have Y15 := Aside0.mk (Y14.out.trans (hb.mono Y14.out.size))
  clear hb P14 Q14 R14 RV14
  have k0 : w15.cell? ⟨w9.heap.size, 0, none⟩ = some (.int .i64 2) := (blk_cell Q15.out 0).trans rfl
  have k1 : w15.cell? ⟨w9.heap.size, 1, none⟩ = some (.slice D2 one_vars.length one_vars.length) := (blk_cell Q15.out 1).trans rfl
  have k2 : w15.cell? ⟨w9.heap.size, 2, none⟩ = some (.slice (some ⟨b, 0, none⟩) 3 3) := (blk_cell Q15.out 2).trans rfl
  gi_wp2
  clear k0 k1 k2
  obtain ⟨D3, eD, dv⟩ := IsRow.C RV15.out
  cases eD
  obtain ⟨D4, eD, db⟩ := IsRow.C R15.out
  cases eD
  refine ⟨trivial, ?_⟩
  refine (callsIn_wide.2 (prog_Check.calls 60 2 _ _ one_vars _ _ one_bad 30 w15 dv (Nat.le_refl _) db (Nat.le_refl _) aw_bad)).mono ?_
  rintro e w16 ⟨rfl, hb⟩
  gi_wp2
  go_ret
  exact ⟨rfl, B1.out.trans ((L15.out.mono B1.out.size).trans (hb.mono (Nat.le_trans B1.out.size L15.out.size)))⟩
end Go.Proofs.Ytffcpbgbhkbplaa.Print
namespace Go.Proofs.Ytffcpbgbhkbplaa.Print
open Go.RowKit Go.Proofs.YtffcpbgbhkbplaaW.PrintWords Go.Proofs.YtffcpbgbhkbplaaW.PrintLast Go.Proofs.YtffcpbgbhkbplaaW.PrintMore
attribute [local go_sem] max2_int min2_int max_two min_two max_three min_three max_four min_four
set_option linter.unusedVariables false
set_option linter.unusedSimpArgs false
open Go.Shelf Go.RowKit
attribute [local go_sem] Oper.semAt_some
theorem one_box (w : World) (o : Obj) : Below w.heap.size w (w.alloc o) ∧ (w.alloc o).heap[w.heap.size]? = some o := ⟨(Below.refl _ _).alloc (Nat.le_refl _) _, heap_alloc_new _ _⟩
theorem w3_ProgOwn.walk (k : Nat) (a0 : Int) (A1 : Option Addr) (c1 : Nat) (l1 : List S82) (A2 : Option Addr) (c2 : Nat) (l2 : List S47) (n : Int) (b : Bool) (its : List (Int × S47)) (n' r1 r2 : Int) (r3 : List S96) (r4 r5 : List S47) (r6 : Int) (i1 i2 : List Int) (i3 : Int) (w : World)
    (hr1 : Kd.C k82 w A1 l1.length l1) (hc1 : l1.length ≤ c1) (hr2 : Kd.C k47 w A2 l2.length l2) (hc2 : l2.length ≤ c2) (hIs : r3_Is.f k a0 l1 l2 = some b)
    (hb : b = true → prog_Check.f k a0 l1 l2 = some 0 ∧ prog_walk.f k l2 0 = some (its, n') ∧ (∀ x ∈ its, ∃ r, prog_Copied.f k x.2.f0 x.2.f1 x.2.f2 x.2.f3 x.2.f4 = some r) ∧ r3_Copy.f k a0 l1 l2 = some (a0, l1, l2) ∧
      prog_At.f k a0 l1 l2 n = some (r1, r2, r3, r4, r5, r6) ∧ prog_Inside.f k a0 l1 l2 n = some (i1, i2, i3) ∧ r3_Same.f k a0 l1 l2 a0 l1 l2 = some true) :
    Calls Try.prog 9 #[.agg #[.int .i64 a0, .slice A1 l1.length c1, .slice A2 l2.length c2], .int .i64 n] w fun e w' => e = .returned (.bool true) ∧ Below w.heap.size w w' := by
  refine callsIn_wide.1 (?_ : CallsIn Fence.wide 9 _ _ _ _ _)
  have huP := Try.underlying25
  have huS := Try.underlying47
  refine callsIn_of_wp_marks Try.func9 rfl trivial ?_ rfl
  simp only [Try.ntmps9, List.size_toArray, List.length_cons, List.length_nil, Nat.reduceAdd, Nat.reduceSub, Array.replicate_succ, Array.replicate_zero, List.push_toArray, List.append_toArray, List.nil_append, List.cons_append]
  have HR1 := Aside0.mk hr1
  have HC1 := Aside0.mk hc1
  have HR2 := Aside0.mk hr2
  have HC2 := Aside0.mk hc2
  clear hr1 hc1 hr2 hc2
  have FB := one_box w (.cells #[.int .i64 a0, .slice A1 l1.length c1, .slice A2 l2.length c2] 25)
  gi_wp2
  generalize w.alloc (.cells #[.int .i64 a0, .slice A1 l1.length c1, .slice A2 l2.length c2] 25) = W1 at FB ⊢
  obtain ⟨b1, p1⟩ := FB
  refine ⟨trivial, ?_⟩
  refine (callsIn_wide.2 (r3_Is.calls k a0 _ _ l1 _ _ l2 b W1 (Kd.C_below HR1.out b1) HC1.out (Kd.C_below HR2.out b1) HC2.out hIs)).mono ?_
  rintro e W2 ⟨rfl, hb2⟩
  have b2 := b1.trans (hb2.mono b1.size)
  have hs2 := hb2.size
  have p2 := (hb2.block _ (blk_lt p1)).trans p1
  clear p1 hb2 b1
  cases b with
  | false =>
    gi_wp2_with (first | (refine ⟨trivial, ?_⟩; refine (callsIn_wide.2 (w3_awake.calls k true W2 rfl)).mono ?_; rintro e W3 ⟨rfl, hb3⟩))
    exact ⟨_, results_tmp rfl _ _ _, rfl, b2.trans (hb3.mono b2.size)⟩
  | true =>
    obtain ⟨hck, hwk, hcp, hcy, hat, hin, hsm⟩ := hb rfl
    clear hb
    have HCP := Aside0.mk hcp
    clear hcp
    obtain ⟨q0, q1, q2⟩ := cells3 p2
    gi_wp2
    refine ⟨trivial, ?_⟩
    refine (callsIn_wide.2 (r3_Copy.calls k a0 _ _ l1 _ _ l2 a0 l1 l2 W2 (Kd.C_below HR1.out b2) HC1.out (Kd.C_below HR2.out b2) HC2.out hcy)).mono ?_
    rintro e W3 ⟨v1, v2, rfl, o1, o2, hb3⟩
    obtain ⟨D1, d1, ev1, el1, oc1⟩ := Kd.R_reads o1
    obtain ⟨D2, d2, ev2, el2, oc2⟩ := Kd.R_reads o2
    subst ev1 ev2
    clear o1 o2
    have OC1 := Aside0.mk oc1
    have OL1 := Aside0.mk el1
    have OC2 := Aside0.mk oc2
    have OL2 := Aside0.mk el2
    clear oc1 el1 oc2 el2
    have b3 := b2.trans (hb3.mono b2.size)
    have hs3 := hb3.size
    have p3 := (hb3.block _ (blk_lt p2)).trans p2
    have l3 := blk_lt p3
    clear p2 hb3 q0 q1 q2
    obtain ⟨q0, q1, q2⟩ := cells3 p3
    have FB3 := one_box W3 (.cells #[.int .i64 a0, .slice D1 l1.length d1, .slice D2 l2.length d2] 25)
    gi_wp2
    generalize W3.alloc (.cells #[.int .i64 a0, .slice D1 l1.length d1, .slice D2 l2.length d2] 25) = W4 at FB3 ⊢
    obtain ⟨hb4, k4⟩ := FB3
    have b4 := b3.trans (hb4.mono b3.size)
    have hs4 := hb4.size
    have p4 := (hb4.block _ l3).trans p3
    have OD1 := Aside0.mk (Kd.C_below OC1.out hb4)
    have OD2 := Aside0.mk (Kd.C_below OC2.out hb4)
    have lk4 := blk_lt k4
    clear p3 hb4 q0 q1 q2 OC1 OC2
    refine ⟨trivial, ?_⟩
    refine (callsIn_wide.2 (prog_At.calls k a0 _ _ l1 _ _ l2 n r1 r2 r3 r4 r5 r6 W4 (Kd.C_below HR1.out b4) HC1.out (Kd.C_below HR2.out b4) HC2.out hat)).mono ?_
    rintro e W5 ⟨v3, v4, v5, rfl, o3, o4, o5, hb5⟩
    obtain ⟨D3, d3, ev3, el3, oc3⟩ := Kd.R_reads o3
    obtain ⟨D4, d4, ev4, el4, oc4⟩ := Kd.R_reads o4
    obtain ⟨D5, d5, ev5, el5, oc5⟩ := Kd.R_reads o5
    subst ev3 ev4 ev5
    have wr3 := Aside0.mk (wr_of_R (sz := 4) o3 rfl)
    have wr4 := Aside0.mk (wr_of_R (sz := 5) o4 rfl)
    have wr5 := Aside0.mk (wr_of_R (sz := 5) o5 rfl)
    clear o3 o4 o5 el3 el4 el5 oc3 oc4 oc5
    have hs5 := hb5.size
    have b5 := b4.trans (hb5.mono b4.size)
    have f5 := hb5
    have p5 := (hb5.block _ (blk_lt p4)).trans p4
    have k5 := (hb5.block _ lk4).trans k4
    have l5 := blk_lt p5
    clear p4 k4 hb5
    obtain ⟨q0, q1, q2⟩ := cells3 p5
    have FB5 := one_box W5 (.cells #[.int .i64 r1, .int .i64 r2, .slice D3 r3.length d3, .slice D4 r4.length d4, .slice D5 r5.length d5] 47)
    gi_wp2
    generalize W5.alloc (.cells #[.int .i64 r1, .int .i64 r2, .slice D3 r3.length d3, .slice D4 r4.length d4, .slice D5 r5.length d5] 47) = W6 at FB5 ⊢
    obtain ⟨hb6, s6⟩ := FB5
    have hs6 := hb6.size
    have b6 := b5.trans (hb6.mono b5.size)
    have f6 := f5.trans (hb6.mono f5.size)
    have p6 := (hb6.block _ l5).trans p5
    have k6 := (hb6.block _ (blk_lt k5)).trans k5
    have wq3 := Aside0.mk (wr3.out.below hb6)
    have wq4 := Aside0.mk (wr4.out.below hb6)
    have wq5 := Aside0.mk (wr5.out.below hb6)
    clear p5 k5 hb6 f5 q0 q1 q2 wr3 wr4 wr5
    refine ⟨trivial, ?_⟩
    refine (callsIn_wide.2 (prog_Inside.calls k a0 _ _ l1 _ _ l2 n i1 i2 i3 W6 (Kd.C_below HR1.out b6) HC1.out (Kd.C_below HR2.out b6) HC2.out hin)).mono ?_
    rintro e W7 ⟨v6, v7, rfl, _, _, hb7⟩
    have hs7 := hb7.size
    have b7 := b6.trans (hb7.mono b6.size)
    have f7 := f6.trans (hb7.mono f6.size)
    have p7 := (hb7.block _ (blk_lt p6)).trans p6
    have k7 := (hb7.block _ (blk_lt k6)).trans k6
    have s7 := (hb7.block _ (blk_lt s6)).trans s6
    have wp3 := Aside0.mk (wq3.out.below hb7)
    have wp4 := Aside0.mk (wq4.out.below hb7)
    have wp5 := Aside0.mk (wq5.out.below hb7)
    have l7 := blk_lt p7
    clear p6 k6 s6 f6 hb7 wq3 wq4 wq5
    obtain ⟨q0, q1, q2⟩ := cells3 p7
    gi_wp2
    refine ⟨trivial, ?_⟩
    refine (callsIn_wide.2 (prog_All.fn _ _ _ W7)).mono ?_
    rintro e W8 ⟨rfl, hb8, q8⟩
    clear q0 q1 q2
    have l8 := blk_lt q8
    gi_wp2
    refine wpIn_rangeM (gf := 62) (lb := #[.pointer (some ⟨W7.heap.size, 0, none⟩)]) rfl (enters_of Try.func62 (by kernel_rfl) rfl)
      (prog_All.seqOwn W7 W7.heap.size a0 A1 c1 l1 A2 c2 l2 0 its n' k (Kd.C_below HR1.out b7) HC1.out (Kd.C_below HR2.out b7) HC2.out hck hwk HCP.out) (fun W9 h9 => (h9.block _ l8).trans q8) hb8 (by rintro x av A M ⟨_, _, _, _, _, _, _, _, _, _, _, _, rfl, _⟩; rfl)
      (fun _ _ => true) (fun _ _ => True) (fun _ _ _ => False) (fun _ _ _ _ _ => trivial) (fun c pre X j o o' hj h hA ho => h.elim) trivial ?round ?done (fun c q X hst h => h.elim)
    case round =>
      rintro l pre x av X M _ ⟨s1, s2, s3, s4, s5, F3, g3, F4, g4, F5, g5, _, rfl, wx3, wx4, wx5⟩ hpre hbX hM hMX
      gi_wp2
      refine ⟨World.grownBy_alloc _ _ _, ?_⟩
      intro W2' hg2 hs2' hb2'
      have hsa : (X.alloc (.cells #[.int .i64 s1, .int .i64 s2, .slice F3 s3.length g3, .slice F4 s4.length g4, .slice F5 s5.length g5] 47)).heap.size = X.heap.size + 1 := by simp
      have hsW : W2'.heap.size = X.heap.size + 1 := hs2'
      have x4 : W2'.heap[X.heap.size]? = some (.cells #[.int .i64 s1, .int .i64 s2, .slice F3 s3.length g3, .slice F4 s4.length g4, .slice F5 s5.length g5] 47 (0, 0)) :=
        (hg2.block X.heap.size (by simp) (by intro e; injection e; omega)).trans (heap_alloc_new _ _)
      have mv : ∀ (b : Nat), M ≤ b → b < X.heap.size → W2'.heap[b]? = X.heap[b]? := fun b hb1 hb2 => (hg2.block b (by rw [hsa]; omega) (by intro e; injection e; omega)).trans (Below.heap_alloc _ _ _ hb2)
      have y3 := wx3.moveB mv
      have y4 := wx4.moveB mv
      have y5 := wx5.moveB mv
      obtain ⟨m0, m1, m2, m3, m4⟩ := cells5 x4
      have HY3 := Aside0.mk y3
      have HY4 := Aside0.mk y4
      have HY5 := Aside0.mk y5
      clear y3 y4 y5 mv wx3 wx4 wx5 hsa
      gi_wp2
      refine ⟨trivial, ?_⟩
      refine CallsIn.inRound l ((callsIn_wide.2 (w3_spoil.calls M s1 s2 F3 s3.length g3 F4 s4.length g4 F5 s5.length g5 W2' (by omega) HY3.out HY4.out HY5.out)).mono ?_)
      rintro e W3' ⟨⟨v, rfl⟩, hbs, _⟩
      gi_wp2
      exact ⟨rfl, hbs.size, fun k h1 h2 => hbs.block k h2, hb2'.trans (hbs.mono (by have := hb8.size; omega)), trivial⟩
    case done =>
      rintro X hst _ bX hD
      clear hst
      simp only [Exit.inBlock, Exit.then]
      have b9 := b7.trans (bX.mono b7.size)
      have f9 := f7.trans (bX.mono f7.size)
      have p9 := (bX.block _ l7).trans p7
      have k9 := (bX.block _ (blk_lt k7)).trans k7
      have s9 := (bX.block _ (blk_lt s7)).trans s7
      have wz3 := wp3.out.below bX
      have wz4 := wp4.out.below bX
      have wz5 := wp5.out.below bX
      have lx := bX.size
      have SM : ∀ Z, Below W4.heap.size X Z → Z.heap[W8.heap.size]? = some (.deferred (some [])) → Below w.heap.size w Z ∧ Below W4.heap.size W4 Z ∧ Z.heap[w.heap.size]? = some (.cells #[.int .i64 a0, .slice A1 l1.length c1, .slice A2 l2.length c2] 25 (0, 0)) ∧ Z.heap[W3.heap.size]? = some (.cells #[.int .i64 a0, .slice D1 l1.length d1, .slice D2 l2.length d2] 25 (0, 0)) := fun Z hz _ =>
        ⟨b9.trans (hz.mono b4.size), f9.trans hz, (hz.block _ (by omega)).trans p9, (hz.block _ (by omega)).trans k9⟩
      by_cases h6 : r6 = 0
      · subst h6
        obtain ⟨m0, m1, m2, m3, m4⟩ := cells5 s9
        gi_wp2
        refine ⟨trivial, ?_⟩
        refine (callsIn_wide.2 (w3_spoil.calls W4.heap.size r1 r2 D3 r3.length d3 D4 r4.length d4 D5 r5.length d5 X (by omega) wz3 wz4 wz5)).mono ?_
        rintro e Z ⟨⟨v, rfl⟩, hbz, hfz⟩
        have dz := hfz _ _ hD rfl
        obtain ⟨bz, fz, pz, kz⟩ := SM Z hbz dz
        clear m0 m1 m2 m3 m4 hfz
        obtain ⟨q0, q1, q2⟩ := cells3 pz
        obtain ⟨m0, m1, m2⟩ := cells3 kz
        gi_wp2
        refine ⟨trivial, ?_⟩
        refine (callsIn_wide.2 (r3_Same.calls k a0 _ _ l1 _ _ l2 a0 _ _ l1 _ _ l2 true Z (Kd.C_below OD1.out fz) OL1.out (Kd.C_below OD2.out fz) OL2.out (Kd.C_below HR1.out bz) HC1.out (Kd.C_below HR2.out bz) HC2.out hsm)).mono ?_
        rintro e Z1 ⟨rfl, hz1⟩
        have dz1 := (hz1.block _ (blk_lt dz)).trans dz
        have bz1 := bz.trans (hz1.mono bz.size)
        clear q0 q1 q2 m0 m1 m2 hz1
        gi_wp2
        refine ⟨trivial, ?_⟩
        refine (callsIn_wide.2 (w3_awake.calls k true Z1 rfl)).mono ?_
        rintro e Z2 ⟨rfl, hz2⟩
        have dz2 := (hz2.block _ (blk_lt dz1)).trans dz1
        have bz2 := bz1.trans (hz2.mono bz1.size)
        clear hz2
        gi_wp2
        refine ⟨by simp, .inl ⟨_, _, rfl, run_takeDeferred dz2, ?_⟩⟩
        exact ⟨_, results_tmp rfl _ _ _, rfl, bz2.trans (below_put _ _ _ (by have := b7.size; have := hb8.size; omega))⟩
      · have g6 : (r6 == 0) = false := beq_eq_false_iff_ne.mpr h6
        obtain ⟨Z, hZ⟩ : ∃ Z, X = Z := ⟨_, rfl⟩
        obtain ⟨bz, fz, pz, kz⟩ := SM X (Below.refl _ _) hD
        subst hZ
        have dz := hD
        obtain ⟨q0, q1, q2⟩ := cells3 pz
        obtain ⟨m0, m1, m2⟩ := cells3 kz
        gi_wp2
        refine ⟨trivial, ?_⟩
        refine (callsIn_wide.2 (r3_Same.calls k a0 _ _ l1 _ _ l2 a0 _ _ l1 _ _ l2 true X (Kd.C_below OD1.out fz) OL1.out (Kd.C_below OD2.out fz) OL2.out (Kd.C_below HR1.out bz) HC1.out (Kd.C_below HR2.out bz) HC2.out hsm)).mono ?_
        rintro e Z1 ⟨rfl, hz1⟩
        have dz1 := (hz1.block _ (blk_lt dz)).trans dz
        have bz1 := bz.trans (hz1.mono bz.size)
        clear q0 q1 q2 m0 m1 m2 hz1
        gi_wp2
        refine ⟨trivial, ?_⟩
        refine (callsIn_wide.2 (w3_awake.calls k true Z1 rfl)).mono ?_
        rintro e Z2 ⟨rfl, hz2⟩
        have dz2 := (hz2.block _ (blk_lt dz1)).trans dz1
        have bz2 := bz1.trans (hz2.mono bz1.size)
        clear hz2
        gi_wp2
        refine ⟨by simp, .inl ⟨_, _, rfl, run_takeDeferred dz2, ?_⟩⟩
        exact ⟨_, results_tmp rfl _ _ _, rfl, bz2.trans (below_put _ _ _ (by have := b7.size; have := hb8.size; omega))⟩
end Go.Proofs.Ytffcpbgbhkbplaa.Print
namespace Go.Proofs.Ytffcpbgbhkbplaa.Print
open Go.RowKit Go.Proofs.YtffcpbgbhkbplaaW.PrintWords Go.Proofs.YtffcpbgbhkbplaaW.PrintLast Go.Proofs.YtffcpbgbhkbplaaW.PrintMore
attribute [local go_sem] max2_int min2_int max_two min_two max_three min_three max_four min_four
set_option linter.unusedVariables false
set_option linter.unusedSimpArgs false
theorem at_inside (w : Int) (vars : List S82) (body : List S47) (hl : body.length ≤ 9223372036854775807) (hg : goodSs body) (hp : pIs w vars body = true) (n : Int) :
    (∃ r, Tells (fun k => prog_At.f k w vars body n) r) ∧ ∃ r, Tells (fun k => prog_Inside.f k w vars body n) r := by
  have hn4 := (pIs_all hp).2
  have hle := (s_le.2 body).1
  have tc := pCheck_tells w vars body hl hg
  rw [hp] at tc
  have tw : Tells (fun k => prog_walk.f k body 0) (wks 0 body, 0 + sCs body) := by
    refine Tells.succ ?_
    simp only [prog_walk.f]
    exact walk_tells.2 body [] hg hl 0 (by decide) (by omega)
  cases hf : (wks 0 body).find? (fun y => decide (y.1 = n)) with
  | none =>
    have ta : Tells (fun k => prog_At.f k w vars body n) (0, 0, [], [], [], 1) := by
      unfold prog_At.f
      refine Tells.bind tc (Tells.ifT rfl (Tells.bind tw ?_))
      simp only [prog_At.pick, hf]
      exact Tells.pure _
    refine ⟨⟨_, ta⟩, ([], [], 1), ?_⟩
    unfold prog_Inside.f
    exact Tells.bind ta (Tells.ifF (show ¬ ((1 : Int) = 0) by decide) (Tells.pure _))
  | some x =>
    have hx := List.find?_some hf
    have hmem := List.mem_of_find?_eq_some hf
    rw [decide_eq_true_eq] at hx
    obtain ⟨i, hi, hxe⟩ := List.mem_iff_getElem.1 hmem
    have h2 : (wks 0 body)[i]? = some x := by rw [← hxe, List.getElem?_eq_getElem hi]
    have hnum := wks_num.2 body 0 i x h2
    obtain ⟨gx, nx⟩ := wks_good.2 body hg 0 x hmem
    have hni : n = (i : Int) := by omega
    refine ⟨⟨(x.2.f0, x.2.f1, x.2.f2, x.2.f3, x.2.f4, 0), ?_⟩, ?_⟩
    · unfold prog_At.f
      refine Tells.bind tc (Tells.ifT rfl (Tells.bind tw ?_))
      simp only [prog_At.pick, hf]
      exact Tells.bind (copyS.1 x.2 gx (by omega)) (Tells.pure _)
    · rw [hni]
      exact ⟨_, inside_tells w vars body hl hg hp i x h2⟩
theorem own_law (w : Int) (A1 : Option Addr) (c1 : Nat) (l1 : List S82) (A2 : Option Addr) (c2 : Nat) (l2 : List S47) (n : Int) (W : World) (hr1 : Kd.C k82 W A1 l1.length l1) (hc1 : l1.length ≤ c1) (hr2 : Kd.C k47 W A2 l2.length l2) (hc2 : l2.length ≤ c2) (hl : l2.length ≤ 9223372036854775807) (hg : goodSs l2) :
    Calls Try.prog 9 #[.agg #[.int .i64 w, .slice A1 l1.length c1, .slice A2 l2.length c2], .int .i64 n] W fun e W' => e = .returned (.bool true) ∧ Below W.heap.size W W' := by
  obtain ⟨ki, hki⟩ := pIs_tells w l1 l2 hl hg
  cases hp : pIs w l1 l2 with
  | false =>
    rw [hp] at hki
    exact w3_ProgOwn.walk ki w A1 c1 l1 A2 c2 l2 n false [] 0 0 0 [] [] [] 0 [] [] 0 W hr1 hc1 hr2 hc2 (hki ki (Nat.le_refl _)) (fun h => by cases h)
  | true =>
    rw [hp] at hki
    obtain ⟨hh, hn4⟩ := pIs_all hp
    obtain ⟨_, _, _, h18, _, _⟩ := hIs_all hh
    have hle := (s_le.2 l2).1
    obtain ⟨kc, hkc⟩ := pCheck_tells w l1 l2 hl hg
    rw [hp] at hkc
    have tw : Tells (fun k => prog_walk.f k l2 0) (wks 0 l2, 0 + sCs l2) := by
      refine Tells.succ ?_
      simp only [prog_walk.f]
      exact walk_tells.2 l2 [] hg hl 0 (by decide) (by omega)
    obtain ⟨kw, hkw⟩ := tw
    obtain ⟨⟨⟨r1, r2, r3, r4, r5, r6⟩, ka, hka⟩, ⟨⟨i1, i2, i3⟩, kn, hkn⟩⟩ := at_inside w l1 l2 hl hg hp n
    obtain ⟨kp, hkp⟩ := Tells.all (g := fun (x : Int × S47) k => prog_Copied.f k x.2.f0 x.2.f1 x.2.f2 x.2.f3 x.2.f4) (v := fun x => (x.2.f0, x.2.f1, x.2.f2, x.2.f3, x.2.f4)) (wks 0 l2) (fun x hx => by
      obtain ⟨gx, nx⟩ := wks_good.2 l2 hg 0 x hx
      exact copyS.1 x.2 gx (by omega))
    obtain ⟨ky, hky⟩ := rcopyP w l1 l2 hl hg (by omega) (by omega)
    obtain ⟨ks, hks⟩ := sameProg w l1 l2 (by omega) hg hl
    obtain ⟨K, hK⟩ : ∃ K, K = max (max (max ki kc) (max kw ka)) (max (max kn kp) (max ky ks)) := ⟨_, rfl⟩
    exact w3_ProgOwn.walk K w A1 c1 l1 A2 c2 l2 n true (wks 0 l2) (0 + sCs l2) r1 r2 r3 r4 r5 r6 i1 i2 i3 W hr1 hc1 hr2 hc2 (hki K (by omega))
      (fun _ => ⟨hkc K (by omega), hkw K (by omega), fun x hx => ⟨_, hkp K (by omega) x hx⟩, hky K (by omega), hka K (by omega), hkn K (by omega), hks K (by omega)⟩)
end Go.Proofs.Ytffcpbgbhkbplaa.Print
