/- What the laws of products share: contracts of the functions that they call, and what these compute, for every program that comes in. -/
import Derived.Test.YtilebfkehmecaaaB4
import Derived.Deep.DeepCutAuto
namespace Go.Proofs.Ytilebfkehmecaaa.Print
open Go.RowKit Go.Proofs.YtilebfkehmecaaaW.PrintWords Go.Proofs.YtilebfkehmecaaaW.PrintLast Go.Proofs.YtilebfkehmecaaaW.PrintMore
attribute [local go_sem] max2_int min2_int max_two min_two max_three min_three max_four min_four
set_option linter.unusedVariables false
set_option linter.unusedSimpArgs false
open Go.Shelf Go.RowKit
attribute [local go_sem] Oper.semAt_some
attribute [local go_sem high] eqA66
theorem aw_nil (W : World) (A : Option Addr) : Kd.C k28 W A ([] : List S28).length [] := Kd.F_now (F_zero (W := W) A (fun _ => True))
theorem aw_nilS (W : World) (A : Option Addr) : Kd.C k64 W A ([] : List S64).length [] := Kd.F_now (F_zero (W := W) A (fun _ => True))
theorem each1' {α : Type} {Q : α → List Value → Prop} {x : α} {c : List Value} (h : Q x c) : ∀ (j : Nat) (y : α) (d : List Value), [x][j]? = some y → [c][j]? = some d → Q y d := by
  intro j y d hy hd
  match j with
  | 0 => simp at hy hd; subst hy; subst hd; exact h
  | j + 1 => simp at hy
theorem each2' {α : Type} {Q : α → List Value → Prop} {x1 x2 : α} {c1 c2 : List Value} (h1 : Q x1 c1) (h2 : Q x2 c2) : ∀ (j : Nat) (y : α) (d : List Value), [x1, x2][j]? = some y → [c1, c2][j]? = some d → Q y d := by
  intro j y d hy hd
  match j with
  | 0 => simp at hy hd; subst hy; subst hd; exact h1
  | 1 => simp at hy hd; subst hy; subst hd; exact h2
  | j + 2 => simp at hy
theorem each4' {α : Type} {Q : α → List Value → Prop} {x1 x2 x3 x4 : α} {c1 c2 c3 c4 : List Value} (h1 : Q x1 c1) (h2 : Q x2 c2) (h3 : Q x3 c3) (h4 : Q x4 c4) : ∀ (j : Nat) (y : α) (d : List Value), [x1, x2, x3, x4][j]? = some y → [c1, c2, c3, c4][j]? = some d → Q y d := by
  intro j y d hy hd
  match j with
  | 0 => simp at hy hd; subst hy; subst hd; exact h1
  | 1 => simp at hy hd; subst hy; subst hd; exact h2
  | 2 => simp at hy hd; subst hy; subst hd; exact h3
  | 3 => simp at hy hd; subst hy; subst hd; exact h4
  | j + 4 => simp at hy
theorem aw_row2 (W : World) (m1 n1 m2 n2 : Int) (Ea : Option Addr) (fa : Nat) (Eb : Option Addr) (fb : Nat) : Kd.V k28 28 (W.alloc (.cells #[.int .i64 1, .int .i64 m1, .int .i64 n1, .slice Ea 0 fa, .int .i64 1, .int .i64 m2, .int .i64 n2, .slice Eb 0 fb] 28)) 0 (fun _ => True) (.slice (some ⟨W.heap.size, 0, none⟩) [aw_r m1 n1, aw_r m2 n2].length 2) [aw_r m1 n1, aw_r m2 n2] := by
  obtain ⟨A, e1, hf⟩ := (IsRow.new (d := k28) (B := 0) (e := 28) (W := W) (l := [aw_r m1 n1, aw_r m2 n2]) (Nat.zero_le _) [[.int .i64 1, .int .i64 m1, .int .i64 n1, .slice Ea 0 fa], [.int .i64 1, .int .i64 m2, .int .i64 n2, .slice Eb 0 fb]] rfl rfl (by simp)
    (each2' (Q := fun x c => Kd.FK k28 W (fun k => 0 ≤ k ∧ k < W.heap.size) x c) (k28_mkF W _ (aw_r m1 n1) (Nat.zero_le _) (F_zero Ea _)) (k28_mkF W _ (aw_r m2 n2) (Nat.zero_le _) (F_zero Eb _)))).foot
  cases e1
  exact Kd.V_mk (Nat.le_refl _) (Kd.F_mono hf (fun _ _ => trivial))
theorem aw_int2 {W : World} {b : Nat} {m n : Int} (h : W.heap[b]? = some (.cells #[.int .i64 m, .int .i64 n] 3 (0, 0))) : Kd.C (Kd.int .i64) W (some ⟨b, 0, none⟩) [m, n].length [m, n] := C_of_row (css := [[.int .i64 m], [.int .i64 n]]) h rfl (by simp) (each2' rfl rfl)
theorem aw_w7 (W : World) : Kd.C (Kd.slice 3 (Kd.int .i64)) (((W.alloc (.cells #[.int .i64 1, .int .i64 2] 3)).alloc (.cells #[.int .i64 3, .int .i64 0] 3)).alloc (.cells #[.slice (some ⟨W.heap.size, 0, none⟩) 2 2, .slice (some ⟨W.heap.size + 1, 0, none⟩) 2 2] 45)) (some ⟨W.heap.size + 1 + 1, 0, none⟩) [[1, 2], [3, 0]].length [[1, 2], [3, 0]] ∧ Below W.heap.size W (((W.alloc (.cells #[.int .i64 1, .int .i64 2] 3)).alloc (.cells #[.int .i64 3, .int .i64 0] 3)).alloc (.cells #[.slice (some ⟨W.heap.size, 0, none⟩) 2 2, .slice (some ⟨W.heap.size + 1, 0, none⟩) 2 2] 45)) := by
  have h1 : (((W.alloc (.cells #[.int .i64 1, .int .i64 2] 3)).alloc (.cells #[.int .i64 3, .int .i64 0] 3)).alloc (.cells #[.slice (some ⟨W.heap.size, 0, none⟩) 2 2, .slice (some ⟨W.heap.size + 1, 0, none⟩) 2 2] 45)).heap[W.heap.size]? = some (.cells #[.int .i64 1, .int .i64 2] 3 (0, 0)) := kal (kal (blk_new _ _) _) _
  have h2 : (((W.alloc (.cells #[.int .i64 1, .int .i64 2] 3)).alloc (.cells #[.int .i64 3, .int .i64 0] 3)).alloc (.cells #[.slice (some ⟨W.heap.size, 0, none⟩) 2 2, .slice (some ⟨W.heap.size + 1, 0, none⟩) 2 2] 45)).heap[W.heap.size + 1]? = some (.cells #[.int .i64 3, .int .i64 0] 3 (0, 0)) := by
    have e : (W.alloc (.cells #[.int .i64 1, .int .i64 2] 3)).heap.size = W.heap.size + 1 := by simp
    rw [← e]
    exact kal (blk_new _ _) _
  have h3 : (((W.alloc (.cells #[.int .i64 1, .int .i64 2] 3)).alloc (.cells #[.int .i64 3, .int .i64 0] 3)).alloc (.cells #[.slice (some ⟨W.heap.size, 0, none⟩) 2 2, .slice (some ⟨W.heap.size + 1, 0, none⟩) 2 2] 45)).heap[W.heap.size + 1 + 1]? = some (.cells #[.slice (some ⟨W.heap.size, 0, none⟩) 2 2, .slice (some ⟨W.heap.size + 1, 0, none⟩) 2 2] 45 (0, 0)) := by
    have e : ((W.alloc (.cells #[.int .i64 1, .int .i64 2] 3)).alloc (.cells #[.int .i64 3, .int .i64 0] 3)).heap.size = W.heap.size + 1 + 1 := by simp
    rw [← e]
    exact blk_new _ _
  refine ⟨C_of_row (css := [[.slice (some ⟨W.heap.size, 0, none⟩) 2 2], [.slice (some ⟨W.heap.size + 1, 0, none⟩) 2 2]]) h3 rfl (by decide) (each2' ⟨_, _, rfl, by decide, aw_int2 h1⟩ ⟨_, _, rfl, by decide, aw_int2 h2⟩), bal (bal (bal (Below.refl _ _) _) _) _⟩
theorem aw_outs2 (W : World) (A9 : Option Addr) (c9 : Nat) (A10 : Option Addr) (c10 : Nat) : Kd.C k74 ((W.alloc (.cells #[.int .i64 0, .slice A9 0 c9, .slice A10 0 c10] 25)).alloc (.cells #[.int .i64 17, .int .i64 3, .int .i64 1, .int .i64 2] 74)) (some ⟨W.heap.size + 1, 0, none⟩) [(⟨17, 3⟩ : S74), ⟨1, 2⟩].length [⟨17, 3⟩, ⟨1, 2⟩] := by
  have e : (W.alloc (.cells #[.int .i64 0, .slice A9 0 c9, .slice A10 0 c10] 25)).heap.size = W.heap.size + 1 := by simp
  rw [← e]
  exact C_of_row (css := [[.int .i64 17, .int .i64 3], [.int .i64 1, .int .i64 2]]) (blk_new _ _) rfl (by decide) (each2' (k74_mk _ _) (k74_mk _ _))
theorem aw_int4 {W : World} {b : Nat} {m n o p : Int} (h : W.heap[b]? = some (.cells #[.int .i64 m, .int .i64 n, .int .i64 o, .int .i64 p] 3 (0, 0))) : Kd.C (Kd.int .i64) W (some ⟨b, 0, none⟩) [m, n, o, p].length [m, n, o, p] := C_of_row (css := [[.int .i64 m], [.int .i64 n], [.int .i64 o], [.int .i64 p]]) h rfl (by simp) (each4' rfl rfl rfl rfl)
theorem aw_out1 {W : World} {b : Nat} (h : W.heap[b]? = some (.cells #[.int .i64 1, .int .i64 3] 74 (0, 0))) : Kd.C k74 W (some ⟨b, 0, none⟩) [(⟨1, 3⟩ : S74)].length [⟨1, 3⟩] := C_of_row (css := [[.int .i64 1, .int .i64 3]]) h rfl (by simp) (each1' (k74_mk W (⟨1, 3⟩ : S74)))
theorem aw_cv {W : World} {b : Nat} (h : W.heap[b]? = some (.cells #[.string ⟨#[104]⟩, .int .i64 1, .int .i64 1, .string ⟨#[108]⟩, .int .i64 0, .int .i64 1] 66 (0, 0))) : Kd.C k66 W (some ⟨b, 0, none⟩) aw_vars.length aw_vars :=
  C_of_row (css := [[.string ⟨#[104]⟩, .int .i64 1, .int .i64 1], [.string ⟨#[108]⟩, .int .i64 0, .int .i64 1]]) h rfl (by decide) (each2' (k66_mk W _) (k66_mk W _))
theorem aw_cx {W : World} {b : Nat} {m n : Int} {A : Option Addr} {c : Nat} (h : W.heap[b]? = some (.cells #[.int .i64 1, .int .i64 m, .int .i64 n, .slice A 0 c] 28 (0, 0))) : Kd.C k28 W (some ⟨b, 0, none⟩) [aw_r m n].length [aw_r m n] :=
  C_of_row (css := [[.int .i64 1, .int .i64 m, .int .i64 n, .slice A 0 c]]) h rfl (by simp) (each1' (k28_mk W (aw_r m n) (Nat.zero_le _) (aw_nil W A)))
theorem aw_cb {W : World} {b1 b2 b3 : Nat} {E1 E2 : Option Addr} {f1 f2 : Nat} (h1 : W.heap[b1]? = some (.cells #[.int .i64 1, .int .i64 1, .int .i64 0, .slice E1 0 f1] 28 (0, 0))) (h2 : W.heap[b2]? = some (.cells #[.int .i64 1, .int .i64 0, .int .i64 0, .slice E2 0 f2] 28 (0, 0)))
    (h3 : W.heap[b3]? = some (.cells #[.int .i64 0, .int .i64 0, .slice (some ⟨b1, 0, none⟩) 1 1, .slice none 0 0, .slice none 0 0, .int .i64 3, .int .i64 2, .slice (some ⟨b2, 0, none⟩) 1 1, .slice none 0 0, .slice none 0 0] 64 (0, 0))) : Kd.C k64 W (some ⟨b3, 0, none⟩) aw_body.length aw_body :=
  C_of_row (css := [[.int .i64 0, .int .i64 0, .slice (some ⟨b1, 0, none⟩) 1 1, .slice none 0 0, .slice none 0 0], [.int .i64 3, .int .i64 2, .slice (some ⟨b2, 0, none⟩) 1 1, .slice none 0 0, .slice none 0 0]]) h3 rfl (by decide)
    (each2' (k64_mk W (⟨0, 0, [aw_r 1 0], [], []⟩ : S64) (by decide) (aw_cx h1) (Nat.le_refl _) (aw_nilS W _) (Nat.le_refl _) (aw_nilS W _)) (k64_mk W (⟨3, 2, [aw_r 0 0], [], []⟩ : S64) (by decide) (aw_cx h2) (Nat.le_refl _) (aw_nilS W _) (Nat.le_refl _) (aw_nilS W _)))
theorem aw_w3 (W2 : World) (E2 : Option Addr) (f2 b1 bv : Nat) : let W := ((W2.alloc (.cells #[.int .i64 1, .int .i64 0, .int .i64 0, .slice E2 0 f2] 28)).alloc (.cells #[.int .i64 0, .int .i64 0, .slice (some ⟨b1, 0, none⟩) 1 1, .slice none 0 0, .slice none 0 0, .int .i64 3, .int .i64 2, .slice (some ⟨W2.heap.size, 0, none⟩) 1 1, .slice none 0 0, .slice none 0 0] 64)).alloc (.cells #[.int .i64 2, .slice (some ⟨bv, 0, none⟩) 2 2, .slice (some ⟨W2.heap.size + 1, 0, none⟩) 2 2] 25)
    W.heap[W2.heap.size]? = some (.cells #[.int .i64 1, .int .i64 0, .int .i64 0, .slice E2 0 f2] 28 (0, 0)) ∧ W.heap[W2.heap.size + 1]? = some (.cells #[.int .i64 0, .int .i64 0, .slice (some ⟨b1, 0, none⟩) 1 1, .slice none 0 0, .slice none 0 0, .int .i64 3, .int .i64 2, .slice (some ⟨W2.heap.size, 0, none⟩) 1 1, .slice none 0 0, .slice none 0 0] 64 (0, 0)) ∧
    W.heap[W2.heap.size + 1 + 1]? = some (.cells #[.int .i64 2, .slice (some ⟨bv, 0, none⟩) 2 2, .slice (some ⟨W2.heap.size + 1, 0, none⟩) 2 2] 25 (0, 0)) ∧ Below W2.heap.size W2 W := by
  intro W
  refine ⟨kal (kal (blk_new _ _) _) _, kal ?_ _, ?_, bal (bal (bal (Below.refl _ _) _) _) _⟩
  · have := blk_new (W2.alloc (.cells #[.int .i64 1, .int .i64 0, .int .i64 0, .slice E2 0 f2] 28)) (.cells #[.int .i64 0, .int .i64 0, .slice (some ⟨b1, 0, none⟩) 1 1, .slice none 0 0, .slice none 0 0, .int .i64 3, .int .i64 2, .slice (some ⟨W2.heap.size, 0, none⟩) 1 1, .slice none 0 0, .slice none 0 0] 64)
    simpa using this
  · have e : ((W2.alloc (.cells #[.int .i64 1, .int .i64 0, .int .i64 0, .slice E2 0 f2] 28)).alloc (.cells #[.int .i64 0, .int .i64 0, .slice (some ⟨b1, 0, none⟩) 1 1, .slice none 0 0, .slice none 0 0, .int .i64 3, .int .i64 2, .slice (some ⟨W2.heap.size, 0, none⟩) 1 1, .slice none 0 0, .slice none 0 0] 64)).heap.size = W2.heap.size + 1 + 1 := by simp
    rw [← e]
    exact blk_new _ _
def w12_awake.f (_ : Nat) : Option Bool := some true
theorem w12_awake.mono (k : Nat) : LeO (w12_awake.f k) (w12_awake.f (k + 1)) := LeO.refl _
set_option maxHeartbeats 16000000 in
set_option maxRecDepth 100000 in
theorem w12_awake.calls (k : Nat) (r : Bool) (w : World) (h : w12_awake.f k = some r) : Calls Try.prog 11 #[] w fun e w' => e = .returned (.bool r) ∧ Below w.heap.size w w' := by
  obtain rfl := Option.some.inj h
  clear h
  have huP := Try.underlying25
  have huS := Try.underlying64
  have huE := Try.underlying28
  have huV := Try.underlying66
  go_enter Try.func11, Try.ntmps11
  go_wp2_with (first | (go_at_call 41; refine (r2_Read.calls 1 0 1 1 0 [] (w.alloc (.cells #[.string ⟨#[104]⟩, .int .i64 1, .int .i64 1, .string ⟨#[108]⟩, .int .i64 0, .int .i64 1] 66)) (aw_read 1 0)).mono ?_; rintro e W1 ⟨v, rfl, o_, hb_⟩; obtain ⟨E1, f1, e_⟩ := Kd.R_slice o_; subst e_; have V1 := (hb_.block _ (by simp)).trans (blk_new w (.cells #[.string ⟨#[104]⟩, .int .i64 1, .int .i64 1, .string ⟨#[108]⟩, .int .i64 0, .int .i64 1] 66)); have b1 : Below w.heap.size w W1 := (bal (Below.refl _ _) _).trans (hb_.mono (by simp)); have s1 : w.heap.size < W1.heap.size := blk_lt V1; clear hb_ o_) | (go_at_call 41; refine (r2_Read.calls 0 0 1 0 0 [] (W1.alloc (.cells #[.int .i64 1, .int .i64 1, .int .i64 0, .slice E1 0 f1] 28)) (aw_read 0 0)).mono ?_; rintro e W2 ⟨v, rfl, o_, hb_⟩; obtain ⟨E2, f2, e_⟩ := Kd.R_slice o_; subst e_; have Y1 := (hb_.block _ (by simp)).trans (blk_new W1 (.cells #[.int .i64 1, .int .i64 1, .int .i64 0, .slice E1 0 f1] 28)); have b2 : Below W1.heap.size W1 W2 := (bal (Below.refl _ _) _).trans (hb_.mono (by simp)); have s2 : W1.heap.size < W2.heap.size := blk_lt Y1; have V2 := (b2.block _ s1).trans V1; clear hb_ o_; have hq := aw_w3 W2 E2 f2 W1.heap.size w.heap.size; obtain ⟨W3, hW3⟩ : ∃ X, ((W2.alloc (.cells #[.int .i64 1, .int .i64 0, .int .i64 0, .slice E2 0 f2] 28)).alloc (.cells #[.int .i64 0, .int .i64 0, .slice (some ⟨W1.heap.size, 0, none⟩) 1 1, .slice none 0 0, .slice none 0 0, .int .i64 3, .int .i64 2, .slice (some ⟨W2.heap.size, 0, none⟩) 1 1, .slice none 0 0, .slice none 0 0] 64)).alloc (.cells #[.int .i64 2, .slice (some ⟨w.heap.size, 0, none⟩) 2 2, .slice (some ⟨W2.heap.size + 1, 0, none⟩) 2 2] 25) = X := ⟨_, rfl⟩; simp only [hW3] at hq; obtain ⟨Y2, S3, P3, B3⟩ := hq; have p0 : W3.cell? ⟨W2.heap.size + 1 + 1, 0, none⟩ = some (.int .i64 2) := (blk_cell P3 0).trans rfl; have p1 : W3.cell? ⟨W2.heap.size + 1 + 1, 1, none⟩ = some (.slice (some ⟨w.heap.size, 0, none⟩) 2 2) := (blk_cell P3 1).trans rfl; have p2 : W3.cell? ⟨W2.heap.size + 1 + 1, 2, none⟩ = some (.slice (some ⟨W2.heap.size + 1, 0, none⟩) 2 2) := (blk_cell P3 2).trans rfl; have V3 := (B3.block _ (Nat.lt_trans s1 s2)).trans V2; have Y3 := (B3.block _ s2).trans Y1; have CV := aw_cv V3; have CB := aw_cb Y3 Y2 S3) | (go_at_call 26; refine (prod_Self.calls 60 2 (some ⟨w.heap.size, 0, none⟩) 2 aw_vars (some ⟨W2.heap.size + 1, 0, none⟩) 2 aw_body 2 2 aw_qv aw_qb 0 W3 CV (by decide) CB (by decide) aw_self).mono ?_; rintro e W4 ⟨v1, v2, rfl, rq1, nq2, hb4⟩; obtain ⟨D1, d1, e_⟩ := Kd.R_slice rq1; subst e_; obtain ⟨D2, d2, e_⟩ := Kd.V_slice nq2; subst e_))
  have k25e : aw_qv.length = 4 := rfl
  have k25f : aw_qb.length = 4 := rfl
  have hq := blk_new W4 (.cells #[.int .i64 2, .slice D1 aw_qv.length d1, .slice D2 aw_qb.length d2] 25)
  have bq := bal (Below.refl W4.heap.size W4) (.cells #[.int .i64 2, .slice D1 aw_qv.length d1, .slice D2 aw_qb.length d2] 25)
  generalize W4.alloc (.cells #[.int .i64 2, .slice D1 aw_qv.length d1, .slice D2 aw_qb.length d2] 25) = WQ at hq bq ⊢
  have b3 := hb4.trans (bq.mono hb4.size)
  have QR := Aside0.mk hq
  have PQ := Aside0.mk ((b3.block _ (blk_lt P3)).trans P3)
  have CVQ := Aside0.mk (Kd.C_below CV b3)
  have CBQ := Aside0.mk (Kd.C_below CB b3)
  have C1 := Aside0.mk (Kd.C_below (Kd.R_reads' rq1).2.2 bq)
  have C2 := Aside0.mk (Kd.C_below (Kd.V_reads' nq2).2.2 bq)
  have BW := Aside0.mk ((b1.trans (b2.mono b1.size)).trans ((B3.trans (b3.mono B3.size)).mono (Nat.le_trans b1.size b2.size)))
  clear hq bq b3 rq1 nq2 hb4 CV CB p0 p1 p2 V3 Y3 P3 S3 Y2 B3 V2 Y1 V1 b1 b2 hW3
  obtain ⟨bp, hbp⟩ : ∃ x, W2.heap.size + 1 + 1 = x := ⟨_, rfl⟩
  obtain ⟨bv, hbv⟩ : ∃ x, w.heap.size = x := ⟨_, rfl⟩
  obtain ⟨bb, hbb⟩ : ∃ x, W2.heap.size + 1 = x := ⟨_, rfl⟩
  have PQ := Aside0.mk (show WQ.heap[bp]? = some (.cells #[.int .i64 2, .slice (some ⟨bv, 0, none⟩) 2 2, .slice (some ⟨bb, 0, none⟩) 2 2] 25 (0, 0)) from by rw [← hbp, ← hbv, ← hbb]; exact PQ.out)
  have pS : ∀ W, Below WQ.heap.size WQ W → W.cell? ⟨bp, 0, none⟩ = some (.int .i64 2) ∧ W.cell? ⟨bp, 1, none⟩ = some (.slice (some ⟨bv, 0, none⟩) 2 2) ∧ W.cell? ⟨bp, 2, none⟩ = some (.slice (some ⟨bb, 0, none⟩) 2 2) := fun W hW => by
    have h := (hW.block _ (blk_lt PQ.out)).trans PQ.out
    exact ⟨(blk_cell h 0).trans rfl, (blk_cell h 1).trans rfl, (blk_cell h 2).trans rfl⟩
  rw [hbp]
  (try simp only [hbv, hbb, hbp])
  go_cut [4, 5] (fun v4 v5 wc => ∃ (G : Nat) (D : Option Addr) (d : Nat), v4 = .pointer (some ⟨G, 0, none⟩) ∧ v5 = .int .i64 0 ∧ Aside0 (wc.heap[G]? = some (.cells #[.int .i64 13, .int .i64 0, .int .i64 0, .slice D 2 d] 28 (0, 0))) ∧ Aside0 (Kd.C k28 wc D [aw_r 0 0, aw_r 3 0].length [aw_r 0 0, aw_r 3 0]) ∧ Aside0 (2 ≤ d) ∧ Aside0 (Below WQ.heap.size WQ wc))
  case first =>
    refine start_ (n := 12) (S := fun W => W.cell? ⟨bp, 0, none⟩ = some (.int .i64 2) ∧ W.cell? ⟨bp, 1, none⟩ = some (.slice (some ⟨bv, 0, none⟩) 2 2) ∧ W.cell? ⟨bp, 2, none⟩ = some (.slice (some ⟨bb, 0, none⟩) 2 2)) (ds := [10]) #[false, false, false, false, false, false, false, false, false, false, false, false] (by kernel_rfl) rfl rfl (pS _ (below_drew (Below.refl _ _))) (fun hHeld => ?_)
    have b0 := below_drew (Below.refl WQ.heap.size WQ)
    generalize WQ.drew = U0 at b0 hHeld ⊢
    refine take_ (i := 0) (N := (some 28)) (v := ?_) (a' := ?_) #[true, false, false, false, false, false, false, false, false, false, false, false] rfl rfl (by kernel_rfl) (fun _ _ _ h => h) (Or.inl ⟨by rfl, ?_⟩) hHeld ?_ ?_
    rotate_left
    · rintro w' ⟨s0, s1, s2⟩
      go_simp
      with_reducible rfl
    rotate_left
    · simp only [Act.put, List.setIfInBounds_toArray, List.set_cons_zero, List.set_cons_succ, i64_w, i32_w]
      rfl
    refine two_ (i := 1) (j := 9) (Ni := some 29) (Nj := some 4) #[true, true, false, false, false, false, false, false, false, false, false, false] #[true, false, false, false, false, false, false, false, false, true, false, false] rfl rfl rfl rfl (by kernel_rfl) (by decide) (by decide) (fun K hK => ?_) (fun K hK => ?_)
    · refine goes_ Try.func41 (by kernel_rfl) rfl #[.int .i64 0, .int .i64 0] (by rfl) rfl rfl (by (try simp only [List.map_toArray, List.map_cons, List.map_nil]); rfl) ?_
      refine (r2_Read.calls 0 0 1 0 0 [] U0 (aw_read 0 0)).mono ?_
      rintro e U1 ⟨v, rfl, o_, h2⟩
      obtain ⟨Ea, fa, e_⟩ := Kd.R_slice o_
      subst e_
      clear o_
      have b3 := b0.trans (h2.mono b0.size)
      refine ⟨_, rfl, ?_⟩
      refine hK.out _ _ (pS _ b3) (fun hHeld => ?_)
      clear hK K
      refine norm_ (a' := ?_) ?_ ?_
      rotate_left
      · show Act.put _ (some 29) _ = _
        simp only [Act.put, List.setIfInBounds_toArray, List.set_cons_zero, List.set_cons_succ, i64_w, i32_w]
        rfl
      refine two_ (i := 2) (j := 9) (Ni := some 30) (Nj := some 4) #[true, true, true, false, false, false, false, false, false, false, false, false] #[true, true, false, false, false, false, false, false, false, true, false, false] rfl rfl rfl rfl (by kernel_rfl) (by decide) (by decide) (fun K hK => ?_) (fun K hK => ?_)
      · refine goes_ Try.func41 (by kernel_rfl) rfl #[.int .i64 1, .int .i64 1] (by rfl) rfl rfl (by (try simp only [List.map_toArray, List.map_cons, List.map_nil]); rfl) ?_
        refine (r2_Read.calls 1 1 1 1 1 [] U1 (aw_read 1 1)).mono ?_
        rintro e U4 ⟨v, rfl, o_, h5⟩
        obtain ⟨Eb, fb, e_⟩ := Kd.R_slice o_
        subst e_
        clear o_
        have b6 := b3.trans (h5.mono b3.size)
        refine ⟨_, rfl, ?_⟩
        refine hK.out _ _ (pS _ b6) (fun hHeld => ?_)
        clear hK K
        refine norm_ (a' := ?_) ?_ ?_
        rotate_left
        · show Act.put _ (some 30) _ = _
          simp only [Act.put, List.setIfInBounds_toArray, List.set_cons_zero, List.set_cons_succ, i64_w, i32_w]
          rfl
        refine two_ (i := 3) (j := 9) (Ni := some 31) (Nj := some 4) #[true, true, true, true, false, false, false, false, false, false, false, false] #[true, true, true, false, false, false, false, false, false, true, false, false] rfl rfl rfl rfl (by kernel_rfl) (by decide) (by decide) (fun K hK => ?_) (fun K hK => ?_)
        · refine value_ (w1 := ?_) (v := ?_) (by rfl) rfl ?_ ?_
          rotate_left 2
          · go_simp
            constructor
            · rfl
            · rfl
          have v9 := aw_row2 U4 0 0 1 1 Ea fa Eb fb
          have h8 := bal (Below.refl U4.heap.size U4) (.cells #[.int .i64 1, .int .i64 0, .int .i64 0, .slice Ea 0 fa, .int .i64 1, .int .i64 1, .int .i64 1, .slice Eb 0 fb] 28)
          (try simp only [List.length_nil])
          generalize U4.alloc (.cells #[.int .i64 1, .int .i64 0, .int .i64 0, .slice Ea 0 fa, .int .i64 1, .int .i64 1, .int .i64 1, .slice Eb 0 fb] 28) = U7 at v9 h8 ⊢
          have b11 := b6.trans (h8.mono b6.size)
          refine hK.out _ _ (pS _ b11) (fun hHeld => ?_)
          clear hK K
          refine norm_ (a' := ?_) ?_ ?_
          rotate_left
          · show Act.put _ (some 31) _ = _
            simp only [Act.put, List.setIfInBounds_toArray, List.set_cons_zero, List.set_cons_succ, i64_w, i32_w]
            rfl
          refine two_ (i := 4) (j := 9) (Ni := some 32) (Nj := some 4) #[true, true, true, true, true, false, false, false, false, false, false, false] #[true, true, true, true, false, false, false, false, false, true, false, false] rfl rfl rfl rfl (by kernel_rfl) (by decide) (by decide) (fun K hK => ?_) (fun K hK => ?_)
          · refine goes_ Try.func42 (by kernel_rfl) rfl #[.int .i64 13, .slice (some ⟨U4.heap.size, 0, none⟩) 2 2] (by rfl) rfl rfl (by (try simp only [List.map_toArray, List.map_cons, List.map_nil]); rfl) ?_
            refine (r2_Of.calls 13 (fun _ => True) (some ⟨U4.heap.size, 0, none⟩) 2 [aw_r 0 0, aw_r 1 1] 13 0 0 [aw_r 0 0, aw_r 1 1] U7 v9 aw_of).mono ?_
            rintro e U12 ⟨v, rfl, o14, h13⟩
            obtain ⟨Ec, fc, e_⟩ := Kd.V_slice o14
            subst e_
            have b15 := b11.trans (h13.mono b11.size)
            refine ⟨_, rfl, ?_⟩
            refine hK.out _ _ (pS _ b15) (fun hHeld => ?_)
            clear hK K
            refine norm_ (a' := ?_) ?_ ?_
            rotate_left
            · show Act.put _ (some 32) _ = _
              simp only [Act.put, List.setIfInBounds_toArray, List.set_cons_zero, List.set_cons_succ, i64_w, i32_w]
              rfl
            refine two_ (i := 5) (j := 9) (Ni := some 33) (Nj := some 4) #[true, true, true, true, true, true, false, false, false, false, false, false] #[true, true, true, true, true, false, false, false, false, true, false, false] rfl rfl rfl rfl (by kernel_rfl) (by decide) (by decide) (fun K hK => ?_) (fun K hK => ?_)
            · refine goes_ Try.func12 (by kernel_rfl) rfl #[.agg #[.int .i64 2, .slice (some ⟨bv, 0, none⟩) 2 2, .slice (some ⟨bb, 0, none⟩) 2 2], .int .i64 2, .agg #[.int .i64 13, .int .i64 0, .int .i64 0, .slice Ec 2 fc]] (by rfl) rfl rfl (by (try simp only [List.map_toArray, List.map_cons, List.map_nil]); rfl) ?_
              refine (prod_Plain.calls 60 2 (some ⟨bv, 0, none⟩) 2 aw_vars (some ⟨bb, 0, none⟩) 2 aw_body 2 13 0 0 Ec fc [aw_r 0 0, aw_r 1 1] 13 0 0 [aw_r 0 0, aw_r 3 0] 0 U12 (by rw [← hbv]; exact Kd.C_below CVQ.out b15) (by decide) (by rw [← hbb]; exact Kd.C_below CBQ.out b15) (by decide) (Kd.V_reads' o14).2.2 (Kd.V_reads' o14).2.1 aw_plain).mono ?_
              rintro e U16 ⟨v, rfl, r18, h17⟩
              obtain ⟨Ed, fd, e_⟩ := Kd.R_slice r18
              subst e_
              have b19 := b15.trans (h17.mono b15.size)
              refine ⟨_, rfl, ?_⟩
              refine hK.out _ _ (pS _ b19) (fun hHeld => ?_)
              clear hK K
              refine norm_ (a' := ?_) ?_ ?_
              rotate_left
              · show Act.put _ (some 33) _ = _
                simp only [Act.put, List.setIfInBounds_toArray, List.set_cons_zero, List.set_cons_succ, i64_w, i32_w]
                rfl
              refine pure_ (i := 6) (N := (some 27)) (v := ?_) (a' := ?_) #[true, true, true, true, true, true, true, false, false, false, false, false] rfl rfl (by kernel_rfl) (fun _ _ _ h => h) (Or.inl ⟨by rfl, ?_⟩) ?_ ?_
              rotate_left
              · intro w'
                go_simp
                with_reducible rfl
              rotate_left
              · simp only [Act.put, List.setIfInBounds_toArray, List.set_cons_zero, List.set_cons_succ, i64_w, i32_w]
                rfl
              refine pure_ (i := 7) (N := (some 34)) (v := ?_) (a' := ?_) #[true, true, true, true, true, true, true, true, false, false, false, false] rfl rfl (by kernel_rfl) (fun _ _ _ h => h) (Or.inl ⟨by rfl, ?_⟩) ?_ ?_
              rotate_left
              · intro w'
                go_simp
                with_reducible rfl
              rotate_left
              · simp only [Act.put, List.setIfInBounds_toArray, List.set_cons_zero, List.set_cons_succ, i64_w, i32_w]
                rfl
              refine pure_ (i := 8) (N := (some 35)) (v := ?_) (a' := ?_) #[true, true, true, true, true, true, true, true, true, false, false, false] rfl rfl (by kernel_rfl) (fun _ _ _ h => h) (Or.inl ⟨by rfl, ?_⟩) ?_ ?_
              rotate_left
              · intro w'
                go_simp
                with_reducible rfl
              rotate_left
              · simp only [Act.put, List.setIfInBounds_toArray, List.set_cons_zero, List.set_cons_succ, i64_w, i32_w]
                rfl
              refine one_ (i := 9) (N := (some 4)) #[true, true, true, true, true, true, true, true, true, true, false, false] rfl rfl (by kernel_rfl) (by decide) (fun K hK => ?_)
              refine value_ (w1 := ?_) (v := ?_) (by rfl) rfl ?_ ?_
              rotate_left 2
              · go_simp
                constructor
                · rfl
                · rfl
              have h21 := bal (Below.refl U16.heap.size U16) (.cells #[.int .i64 0, .int .i64 0, .int .i64 0, .slice none 0 0] 28)
              have z23 := blk_new U16 (.cells #[.int .i64 0, .int .i64 0, .int .i64 0, .slice none 0 0] 28)
              generalize U16.alloc (.cells #[.int .i64 0, .int .i64 0, .int .i64 0, .slice none 0 0] 28) = U20 at h21 z23 ⊢
              have b22 := b19.trans (h21.mono b19.size)
              have f24 := Kd.R_below (Kd.R_bound r18) h21
              have gle := b19.size
              refine hK.out _ _ (pS _ b22) (fun hHeld => ?_)
              clear hK K
              refine norm_ (a' := ?_) ?_ ?_
              rotate_left
              · show Act.put _ (some 4) _ = _
                simp only [Act.put, List.setIfInBounds_toArray, List.set_cons_zero, List.set_cons_succ, i64_w, i32_w]
                rfl
              refine last_ (i := 10) (N := none) #[true, true, true, true, true, true, true, true, true, true, true, false] rfl rfl (by kernel_rfl) (by decide) (fun K hK => ?_)
              obtain ⟨zc, zk, zb⟩ := row4_put z23 (.int .i64 13) (.int .i64 0) (.int .i64 0) (.slice Ed 2 fd)
              have bG := b22.size
              have lG := blk_lt z23
              have hGw : WQ.heap.size ≤ U16.heap.size := gle
              refine skip_ (w1 := ((((U20.setCell ⟨U16.heap.size, 0, none⟩ (.int .i64 13)).setCell ⟨U16.heap.size, 1, none⟩ (.int .i64 0)).setCell ⟨U16.heap.size, 2, none⟩ (.int .i64 0)).setCell ⟨U16.heap.size, 3, none⟩ (.slice Ed 2 fd))) (by rfl) rfl ?st ?_
              case st =>
                have q0 : U20.cell? ⟨U16.heap.size, 0, none⟩ = some (.int .i64 0) := (blk_cell z23 0).trans rfl
                have g0 := blk_frozen z23 0
                have q1 : U20.cell? ⟨U16.heap.size, 1, none⟩ = some (.int .i64 0) := (blk_cell z23 1).trans rfl
                have g1 := blk_frozen z23 1
                have q2 : U20.cell? ⟨U16.heap.size, 2, none⟩ = some (.int .i64 0) := (blk_cell z23 2).trans rfl
                have g2 := blk_frozen z23 2
                have q3 : U20.cell? ⟨U16.heap.size, 3, none⟩ = some (.slice none 0 0) := (blk_cell z23 3).trans rfl
                have g3 := blk_frozen z23 3
                go_simp
                try rfl
              refine hK.out _ _ ?_
              clear hK K
              refine pure_ (i := 11) (N := (some 5)) (v := ?_) (a' := ?_) #[true, true, true, true, true, true, true, true, true, true, true, true] rfl rfl (by kernel_rfl) (fun _ _ _ h => h) (Or.inl ⟨by rfl, ?_⟩) ?_ ?_
              rotate_left
              · intro w'
                go_simp
                with_reducible rfl
              rotate_left
              · simp only [Act.put, List.setIfInBounds_toArray, List.set_cons_zero, List.set_cons_succ, i64_w, i32_w]
                rfl
              refine done_ (by kernel_rfl) ?_
              try simp only [Exit.then]
              try go_wp2
              go_meet
              case rel => exact ⟨_, Ed, fd, rfl, rfl, ⟨zc⟩, ⟨(Kd.R_reads' (Kd.R_step f24 (fun q hq _ => zk q (by have h9 := hq.2.2.1; omega)))).2.2⟩, ⟨(Kd.R_reads' f24).2.1⟩, ⟨b22.trans (zb _ hGw)⟩⟩
            · refine value_ (w1 := ?_) (v := ?_) (by rfl) rfl ?_ ?_
              rotate_left 2
              · go_simp
                constructor
                · rfl
                · rfl
              have h26 := bal (Below.refl U12.heap.size U12) (.cells #[.int .i64 0, .int .i64 0, .int .i64 0, .slice none 0 0] 28)
              have z28 := blk_new U12 (.cells #[.int .i64 0, .int .i64 0, .int .i64 0, .slice none 0 0] 28)
              generalize U12.alloc (.cells #[.int .i64 0, .int .i64 0, .int .i64 0, .slice none 0 0] 28) = U25 at h26 z28 ⊢
              have b27 := b15.trans (h26.mono b15.size)
              have f29 := Kd.V_below o14 h26
              have gle := b15.size
              refine hK.out _ _ (pS _ b27) (fun hHeld => ?_)
              clear hK K
              refine norm_ (a' := ?_) ?_ ?_
              rotate_left
              · show Act.put _ (some 4) _ = _
                simp only [Act.put, List.setIfInBounds_toArray, List.set_cons_zero, List.set_cons_succ, i64_w, i32_w]
                rfl
              refine one_ (i := 5) (N := (some 33)) #[true, true, true, true, true, true, false, false, false, true, false, false] rfl rfl (by kernel_rfl) (by decide) (fun K hK => ?_)
              refine goes_ Try.func12 (by kernel_rfl) rfl #[.agg #[.int .i64 2, .slice (some ⟨bv, 0, none⟩) 2 2, .slice (some ⟨bb, 0, none⟩) 2 2], .int .i64 2, .agg #[.int .i64 13, .int .i64 0, .int .i64 0, .slice Ec 2 fc]] (by rfl) rfl rfl (by (try simp only [List.map_toArray, List.map_cons, List.map_nil]); rfl) ?_
              have lz := blk_lt z28
              refine (prod_Plain.calls 60 2 (some ⟨bv, 0, none⟩) 2 aw_vars (some ⟨bb, 0, none⟩) 2 aw_body 2 13 0 0 Ec fc [aw_r 0 0, aw_r 1 1] 13 0 0 [aw_r 0 0, aw_r 3 0] 0 U25 (by rw [← hbv]; exact Kd.C_below CVQ.out b27) (by decide) (by rw [← hbb]; exact Kd.C_below CBQ.out b27) (by decide) (Kd.V_reads' f29).2.2 (Kd.V_reads' f29).2.1 aw_plain).mono ?_
              rintro e U30 ⟨v, rfl, r32, h31⟩
              obtain ⟨Ed, fd, e_⟩ := Kd.R_slice r32
              subst e_
              have b33 := b27.trans (h31.mono b27.size)
              have z34 := blk_below z28 h31
              refine ⟨_, rfl, ?_⟩
              refine hK.out _ _ (pS _ b33) (fun hHeld => ?_)
              clear hK K
              refine norm_ (a' := ?_) ?_ ?_
              rotate_left
              · show Act.put _ (some 33) _ = _
                simp only [Act.put, List.setIfInBounds_toArray, List.set_cons_zero, List.set_cons_succ, i64_w, i32_w]
                rfl
              refine pure_ (i := 6) (N := (some 27)) (v := ?_) (a' := ?_) #[true, true, true, true, true, true, true, false, false, true, false, false] rfl rfl (by kernel_rfl) (fun _ _ _ h => h) (Or.inl ⟨by rfl, ?_⟩) ?_ ?_
              rotate_left
              · intro w'
                go_simp
                with_reducible rfl
              rotate_left
              · simp only [Act.put, List.setIfInBounds_toArray, List.set_cons_zero, List.set_cons_succ, i64_w, i32_w]
                rfl
              refine pure_ (i := 7) (N := (some 34)) (v := ?_) (a' := ?_) #[true, true, true, true, true, true, true, true, false, true, false, false] rfl rfl (by kernel_rfl) (fun _ _ _ h => h) (Or.inl ⟨by rfl, ?_⟩) ?_ ?_
              rotate_left
              · intro w'
                go_simp
                with_reducible rfl
              rotate_left
              · simp only [Act.put, List.setIfInBounds_toArray, List.set_cons_zero, List.set_cons_succ, i64_w, i32_w]
                rfl
              refine pure_ (i := 8) (N := (some 35)) (v := ?_) (a' := ?_) #[true, true, true, true, true, true, true, true, true, true, false, false] rfl rfl (by kernel_rfl) (fun _ _ _ h => h) (Or.inl ⟨by rfl, ?_⟩) ?_ ?_
              rotate_left
              · intro w'
                go_simp
                with_reducible rfl
              rotate_left
              · simp only [Act.put, List.setIfInBounds_toArray, List.set_cons_zero, List.set_cons_succ, i64_w, i32_w]
                rfl
              refine last_ (i := 10) (N := none) #[true, true, true, true, true, true, true, true, true, true, true, false] rfl rfl (by kernel_rfl) (by decide) (fun K hK => ?_)
              obtain ⟨zc, zk, zb⟩ := row4_put z34 (.int .i64 13) (.int .i64 0) (.int .i64 0) (.slice Ed 2 fd)
              have bG := b33.size
              have lG := blk_lt z34
              have hGw : WQ.heap.size ≤ U12.heap.size := gle
              refine skip_ (w1 := ((((U30.setCell ⟨U12.heap.size, 0, none⟩ (.int .i64 13)).setCell ⟨U12.heap.size, 1, none⟩ (.int .i64 0)).setCell ⟨U12.heap.size, 2, none⟩ (.int .i64 0)).setCell ⟨U12.heap.size, 3, none⟩ (.slice Ed 2 fd))) (by rfl) rfl ?st ?_
              case st =>
                have q0 : U30.cell? ⟨U12.heap.size, 0, none⟩ = some (.int .i64 0) := (blk_cell z34 0).trans rfl
                have g0 := blk_frozen z34 0
                have q1 : U30.cell? ⟨U12.heap.size, 1, none⟩ = some (.int .i64 0) := (blk_cell z34 1).trans rfl
                have g1 := blk_frozen z34 1
                have q2 : U30.cell? ⟨U12.heap.size, 2, none⟩ = some (.int .i64 0) := (blk_cell z34 2).trans rfl
                have g2 := blk_frozen z34 2
                have q3 : U30.cell? ⟨U12.heap.size, 3, none⟩ = some (.slice none 0 0) := (blk_cell z34 3).trans rfl
                have g3 := blk_frozen z34 3
                go_simp
                try rfl
              refine hK.out _ _ ?_
              clear hK K
              refine pure_ (i := 11) (N := (some 5)) (v := ?_) (a' := ?_) #[true, true, true, true, true, true, true, true, true, true, true, true] rfl rfl (by kernel_rfl) (fun _ _ _ h => h) (Or.inl ⟨by rfl, ?_⟩) ?_ ?_
              rotate_left
              · intro w'
                go_simp
                with_reducible rfl
              rotate_left
              · simp only [Act.put, List.setIfInBounds_toArray, List.set_cons_zero, List.set_cons_succ, i64_w, i32_w]
                rfl
              refine done_ (by kernel_rfl) ?_
              try simp only [Exit.then]
              try go_wp2
              go_meet
              case rel => exact ⟨_, Ed, fd, rfl, rfl, ⟨zc⟩, ⟨(Kd.R_reads' (Kd.R_step (Kd.R_bound r32) (fun q hq _ => zk q (by have h9 := hq.2.1; omega)))).2.2⟩, ⟨(Kd.R_reads' r32).2.1⟩, ⟨b33.trans (zb _ hGw)⟩⟩
          · refine value_ (w1 := ?_) (v := ?_) (by rfl) rfl ?_ ?_
            rotate_left 2
            · go_simp
              constructor
              · rfl
              · rfl
            have h36 := bal (Below.refl U7.heap.size U7) (.cells #[.int .i64 0, .int .i64 0, .int .i64 0, .slice none 0 0] 28)
            have z38 := blk_new U7 (.cells #[.int .i64 0, .int .i64 0, .int .i64 0, .slice none 0 0] 28)
            generalize U7.alloc (.cells #[.int .i64 0, .int .i64 0, .int .i64 0, .slice none 0 0] 28) = U35 at h36 z38 ⊢
            have b37 := b11.trans (h36.mono b11.size)
            have f39 := Kd.V_below v9 h36
            have gle := b11.size
            refine hK.out _ _ (pS _ b37) (fun hHeld => ?_)
            clear hK K
            refine norm_ (a' := ?_) ?_ ?_
            rotate_left
            · show Act.put _ (some 4) _ = _
              simp only [Act.put, List.setIfInBounds_toArray, List.set_cons_zero, List.set_cons_succ, i64_w, i32_w]
              rfl
            refine one_ (i := 4) (N := (some 32)) #[true, true, true, true, true, false, false, false, false, true, false, false] rfl rfl (by kernel_rfl) (by decide) (fun K hK => ?_)
            refine goes_ Try.func42 (by kernel_rfl) rfl #[.int .i64 13, .slice (some ⟨U4.heap.size, 0, none⟩) 2 2] (by rfl) rfl rfl (by (try simp only [List.map_toArray, List.map_cons, List.map_nil]); rfl) ?_
            refine (r2_Of.calls 13 (fun _ => True) (some ⟨U4.heap.size, 0, none⟩) 2 [aw_r 0 0, aw_r 1 1] 13 0 0 [aw_r 0 0, aw_r 1 1] U35 f39 aw_of).mono ?_
            rintro e U40 ⟨v, rfl, o42, h41⟩
            obtain ⟨Ec, fc, e_⟩ := Kd.V_slice o42
            subst e_
            have b43 := b37.trans (h41.mono b37.size)
            have z44 := blk_below z38 h41
            refine ⟨_, rfl, ?_⟩
            refine hK.out _ _ (pS _ b43) (fun hHeld => ?_)
            clear hK K
            refine norm_ (a' := ?_) ?_ ?_
            rotate_left
            · show Act.put _ (some 32) _ = _
              simp only [Act.put, List.setIfInBounds_toArray, List.set_cons_zero, List.set_cons_succ, i64_w, i32_w]
              rfl
            refine one_ (i := 5) (N := (some 33)) #[true, true, true, true, true, true, false, false, false, true, false, false] rfl rfl (by kernel_rfl) (by decide) (fun K hK => ?_)
            refine goes_ Try.func12 (by kernel_rfl) rfl #[.agg #[.int .i64 2, .slice (some ⟨bv, 0, none⟩) 2 2, .slice (some ⟨bb, 0, none⟩) 2 2], .int .i64 2, .agg #[.int .i64 13, .int .i64 0, .int .i64 0, .slice Ec 2 fc]] (by rfl) rfl rfl (by (try simp only [List.map_toArray, List.map_cons, List.map_nil]); rfl) ?_
            have lz := blk_lt z44
            refine (prod_Plain.calls 60 2 (some ⟨bv, 0, none⟩) 2 aw_vars (some ⟨bb, 0, none⟩) 2 aw_body 2 13 0 0 Ec fc [aw_r 0 0, aw_r 1 1] 13 0 0 [aw_r 0 0, aw_r 3 0] 0 U40 (by rw [← hbv]; exact Kd.C_below CVQ.out b43) (by decide) (by rw [← hbb]; exact Kd.C_below CBQ.out b43) (by decide) (Kd.V_reads' o42).2.2 (Kd.V_reads' o42).2.1 aw_plain).mono ?_
            rintro e U45 ⟨v, rfl, r47, h46⟩
            obtain ⟨Ed, fd, e_⟩ := Kd.R_slice r47
            subst e_
            have b48 := b43.trans (h46.mono b43.size)
            have z49 := blk_below z44 h46
            refine ⟨_, rfl, ?_⟩
            refine hK.out _ _ (pS _ b48) (fun hHeld => ?_)
            clear hK K
            refine norm_ (a' := ?_) ?_ ?_
            rotate_left
            · show Act.put _ (some 33) _ = _
              simp only [Act.put, List.setIfInBounds_toArray, List.set_cons_zero, List.set_cons_succ, i64_w, i32_w]
              rfl
            refine pure_ (i := 6) (N := (some 27)) (v := ?_) (a' := ?_) #[true, true, true, true, true, true, true, false, false, true, false, false] rfl rfl (by kernel_rfl) (fun _ _ _ h => h) (Or.inl ⟨by rfl, ?_⟩) ?_ ?_
            rotate_left
            · intro w'
              go_simp
              with_reducible rfl
            rotate_left
            · simp only [Act.put, List.setIfInBounds_toArray, List.set_cons_zero, List.set_cons_succ, i64_w, i32_w]
              rfl
            refine pure_ (i := 7) (N := (some 34)) (v := ?_) (a' := ?_) #[true, true, true, true, true, true, true, true, false, true, false, false] rfl rfl (by kernel_rfl) (fun _ _ _ h => h) (Or.inl ⟨by rfl, ?_⟩) ?_ ?_
            rotate_left
            · intro w'
              go_simp
              with_reducible rfl
            rotate_left
            · simp only [Act.put, List.setIfInBounds_toArray, List.set_cons_zero, List.set_cons_succ, i64_w, i32_w]
              rfl
            refine pure_ (i := 8) (N := (some 35)) (v := ?_) (a' := ?_) #[true, true, true, true, true, true, true, true, true, true, false, false] rfl rfl (by kernel_rfl) (fun _ _ _ h => h) (Or.inl ⟨by rfl, ?_⟩) ?_ ?_
            rotate_left
            · intro w'
              go_simp
              with_reducible rfl
            rotate_left
            · simp only [Act.put, List.setIfInBounds_toArray, List.set_cons_zero, List.set_cons_succ, i64_w, i32_w]
              rfl
            refine last_ (i := 10) (N := none) #[true, true, true, true, true, true, true, true, true, true, true, false] rfl rfl (by kernel_rfl) (by decide) (fun K hK => ?_)
            obtain ⟨zc, zk, zb⟩ := row4_put z49 (.int .i64 13) (.int .i64 0) (.int .i64 0) (.slice Ed 2 fd)
            have bG := b48.size
            have lG := blk_lt z49
            have hGw : WQ.heap.size ≤ U7.heap.size := gle
            refine skip_ (w1 := ((((U45.setCell ⟨U7.heap.size, 0, none⟩ (.int .i64 13)).setCell ⟨U7.heap.size, 1, none⟩ (.int .i64 0)).setCell ⟨U7.heap.size, 2, none⟩ (.int .i64 0)).setCell ⟨U7.heap.size, 3, none⟩ (.slice Ed 2 fd))) (by rfl) rfl ?st ?_
            case st =>
              have q0 : U45.cell? ⟨U7.heap.size, 0, none⟩ = some (.int .i64 0) := (blk_cell z49 0).trans rfl
              have g0 := blk_frozen z49 0
              have q1 : U45.cell? ⟨U7.heap.size, 1, none⟩ = some (.int .i64 0) := (blk_cell z49 1).trans rfl
              have g1 := blk_frozen z49 1
              have q2 : U45.cell? ⟨U7.heap.size, 2, none⟩ = some (.int .i64 0) := (blk_cell z49 2).trans rfl
              have g2 := blk_frozen z49 2
              have q3 : U45.cell? ⟨U7.heap.size, 3, none⟩ = some (.slice none 0 0) := (blk_cell z49 3).trans rfl
              have g3 := blk_frozen z49 3
              go_simp
              try rfl
            refine hK.out _ _ ?_
            clear hK K
            refine pure_ (i := 11) (N := (some 5)) (v := ?_) (a' := ?_) #[true, true, true, true, true, true, true, true, true, true, true, true] rfl rfl (by kernel_rfl) (fun _ _ _ h => h) (Or.inl ⟨by rfl, ?_⟩) ?_ ?_
            rotate_left
            · intro w'
              go_simp
              with_reducible rfl
            rotate_left
            · simp only [Act.put, List.setIfInBounds_toArray, List.set_cons_zero, List.set_cons_succ, i64_w, i32_w]
              rfl
            refine done_ (by kernel_rfl) ?_
            try simp only [Exit.then]
            try go_wp2
            go_meet
            case rel => exact ⟨_, Ed, fd, rfl, rfl, ⟨zc⟩, ⟨(Kd.R_reads' (Kd.R_step (Kd.R_bound r47) (fun q hq _ => zk q (by have h9 := hq.2.1; omega)))).2.2⟩, ⟨(Kd.R_reads' r47).2.1⟩, ⟨b48.trans (zb _ hGw)⟩⟩
        · refine value_ (w1 := ?_) (v := ?_) (by rfl) rfl ?_ ?_
          rotate_left 2
          · go_simp
            constructor
            · rfl
            · rfl
          have h51 := bal (Below.refl U4.heap.size U4) (.cells #[.int .i64 0, .int .i64 0, .int .i64 0, .slice none 0 0] 28)
          have z53 := blk_new U4 (.cells #[.int .i64 0, .int .i64 0, .int .i64 0, .slice none 0 0] 28)
          generalize U4.alloc (.cells #[.int .i64 0, .int .i64 0, .int .i64 0, .slice none 0 0] 28) = U50 at h51 z53 ⊢
          have b52 := b6.trans (h51.mono b6.size)
          have gle := b6.size
          refine hK.out _ _ (pS _ b52) (fun hHeld => ?_)
          clear hK K
          refine norm_ (a' := ?_) ?_ ?_
          rotate_left
          · show Act.put _ (some 4) _ = _
            simp only [Act.put, List.setIfInBounds_toArray, List.set_cons_zero, List.set_cons_succ, i64_w, i32_w]
            rfl
          refine one_ (i := 3) (N := (some 31)) #[true, true, true, true, false, false, false, false, false, true, false, false] rfl rfl (by kernel_rfl) (by decide) (fun K hK => ?_)
          refine value_ (w1 := ?_) (v := ?_) (by rfl) rfl ?_ ?_
          rotate_left 2
          · go_simp
            constructor
            · rfl
            · rfl
          have v56 := aw_row2 U50 0 0 1 1 Ea fa Eb fb
          have h55 := bal (Below.refl U50.heap.size U50) (.cells #[.int .i64 1, .int .i64 0, .int .i64 0, .slice Ea 0 fa, .int .i64 1, .int .i64 1, .int .i64 1, .slice Eb 0 fb] 28)
          (try simp only [List.length_nil])
          generalize U50.alloc (.cells #[.int .i64 1, .int .i64 0, .int .i64 0, .slice Ea 0 fa, .int .i64 1, .int .i64 1, .int .i64 1, .slice Eb 0 fb] 28) = U54 at v56 h55 ⊢
          have b58 := b52.trans (h55.mono b52.size)
          have z59 := blk_below z53 h55
          refine hK.out _ _ (pS _ b58) (fun hHeld => ?_)
          clear hK K
          refine norm_ (a' := ?_) ?_ ?_
          rotate_left
          · show Act.put _ (some 31) _ = _
            simp only [Act.put, List.setIfInBounds_toArray, List.set_cons_zero, List.set_cons_succ, i64_w, i32_w]
            rfl
          refine one_ (i := 4) (N := (some 32)) #[true, true, true, true, true, false, false, false, false, true, false, false] rfl rfl (by kernel_rfl) (by decide) (fun K hK => ?_)
          refine goes_ Try.func42 (by kernel_rfl) rfl #[.int .i64 13, .slice (some ⟨U50.heap.size, 0, none⟩) 2 2] (by rfl) rfl rfl (by (try simp only [List.map_toArray, List.map_cons, List.map_nil]); rfl) ?_
          refine (r2_Of.calls 13 (fun _ => True) (some ⟨U50.heap.size, 0, none⟩) 2 [aw_r 0 0, aw_r 1 1] 13 0 0 [aw_r 0 0, aw_r 1 1] U54 v56 aw_of).mono ?_
          rintro e U60 ⟨v, rfl, o62, h61⟩
          obtain ⟨Ec, fc, e_⟩ := Kd.V_slice o62
          subst e_
          have b63 := b58.trans (h61.mono b58.size)
          have z64 := blk_below z59 h61
          refine ⟨_, rfl, ?_⟩
          refine hK.out _ _ (pS _ b63) (fun hHeld => ?_)
          clear hK K
          refine norm_ (a' := ?_) ?_ ?_
          rotate_left
          · show Act.put _ (some 32) _ = _
            simp only [Act.put, List.setIfInBounds_toArray, List.set_cons_zero, List.set_cons_succ, i64_w, i32_w]
            rfl
          refine one_ (i := 5) (N := (some 33)) #[true, true, true, true, true, true, false, false, false, true, false, false] rfl rfl (by kernel_rfl) (by decide) (fun K hK => ?_)
          refine goes_ Try.func12 (by kernel_rfl) rfl #[.agg #[.int .i64 2, .slice (some ⟨bv, 0, none⟩) 2 2, .slice (some ⟨bb, 0, none⟩) 2 2], .int .i64 2, .agg #[.int .i64 13, .int .i64 0, .int .i64 0, .slice Ec 2 fc]] (by rfl) rfl rfl (by (try simp only [List.map_toArray, List.map_cons, List.map_nil]); rfl) ?_
          have lz := blk_lt z64
          refine (prod_Plain.calls 60 2 (some ⟨bv, 0, none⟩) 2 aw_vars (some ⟨bb, 0, none⟩) 2 aw_body 2 13 0 0 Ec fc [aw_r 0 0, aw_r 1 1] 13 0 0 [aw_r 0 0, aw_r 3 0] 0 U60 (by rw [← hbv]; exact Kd.C_below CVQ.out b63) (by decide) (by rw [← hbb]; exact Kd.C_below CBQ.out b63) (by decide) (Kd.V_reads' o62).2.2 (Kd.V_reads' o62).2.1 aw_plain).mono ?_
          rintro e U65 ⟨v, rfl, r67, h66⟩
          obtain ⟨Ed, fd, e_⟩ := Kd.R_slice r67
          subst e_
          have b68 := b63.trans (h66.mono b63.size)
          have z69 := blk_below z64 h66
          refine ⟨_, rfl, ?_⟩
          refine hK.out _ _ (pS _ b68) (fun hHeld => ?_)
          clear hK K
          refine norm_ (a' := ?_) ?_ ?_
          rotate_left
          · show Act.put _ (some 33) _ = _
            simp only [Act.put, List.setIfInBounds_toArray, List.set_cons_zero, List.set_cons_succ, i64_w, i32_w]
            rfl
          refine pure_ (i := 6) (N := (some 27)) (v := ?_) (a' := ?_) #[true, true, true, true, true, true, true, false, false, true, false, false] rfl rfl (by kernel_rfl) (fun _ _ _ h => h) (Or.inl ⟨by rfl, ?_⟩) ?_ ?_
          rotate_left
          · intro w'
            go_simp
            with_reducible rfl
          rotate_left
          · simp only [Act.put, List.setIfInBounds_toArray, List.set_cons_zero, List.set_cons_succ, i64_w, i32_w]
            rfl
          refine pure_ (i := 7) (N := (some 34)) (v := ?_) (a' := ?_) #[true, true, true, true, true, true, true, true, false, true, false, false] rfl rfl (by kernel_rfl) (fun _ _ _ h => h) (Or.inl ⟨by rfl, ?_⟩) ?_ ?_
          rotate_left
          · intro w'
            go_simp
            with_reducible rfl
          rotate_left
          · simp only [Act.put, List.setIfInBounds_toArray, List.set_cons_zero, List.set_cons_succ, i64_w, i32_w]
            rfl
          refine pure_ (i := 8) (N := (some 35)) (v := ?_) (a' := ?_) #[true, true, true, true, true, true, true, true, true, true, false, false] rfl rfl (by kernel_rfl) (fun _ _ _ h => h) (Or.inl ⟨by rfl, ?_⟩) ?_ ?_
          rotate_left
          · intro w'
            go_simp
            with_reducible rfl
          rotate_left
          · simp only [Act.put, List.setIfInBounds_toArray, List.set_cons_zero, List.set_cons_succ, i64_w, i32_w]
            rfl
          refine last_ (i := 10) (N := none) #[true, true, true, true, true, true, true, true, true, true, true, false] rfl rfl (by kernel_rfl) (by decide) (fun K hK => ?_)
          obtain ⟨zc, zk, zb⟩ := row4_put z69 (.int .i64 13) (.int .i64 0) (.int .i64 0) (.slice Ed 2 fd)
          have bG := b68.size
          have lG := blk_lt z69
          have hGw : WQ.heap.size ≤ U4.heap.size := gle
          refine skip_ (w1 := ((((U65.setCell ⟨U4.heap.size, 0, none⟩ (.int .i64 13)).setCell ⟨U4.heap.size, 1, none⟩ (.int .i64 0)).setCell ⟨U4.heap.size, 2, none⟩ (.int .i64 0)).setCell ⟨U4.heap.size, 3, none⟩ (.slice Ed 2 fd))) (by rfl) rfl ?st ?_
          case st =>
            have q0 : U65.cell? ⟨U4.heap.size, 0, none⟩ = some (.int .i64 0) := (blk_cell z69 0).trans rfl
            have g0 := blk_frozen z69 0
            have q1 : U65.cell? ⟨U4.heap.size, 1, none⟩ = some (.int .i64 0) := (blk_cell z69 1).trans rfl
            have g1 := blk_frozen z69 1
            have q2 : U65.cell? ⟨U4.heap.size, 2, none⟩ = some (.int .i64 0) := (blk_cell z69 2).trans rfl
            have g2 := blk_frozen z69 2
            have q3 : U65.cell? ⟨U4.heap.size, 3, none⟩ = some (.slice none 0 0) := (blk_cell z69 3).trans rfl
            have g3 := blk_frozen z69 3
            go_simp
            try rfl
          refine hK.out _ _ ?_
          clear hK K
          refine pure_ (i := 11) (N := (some 5)) (v := ?_) (a' := ?_) #[true, true, true, true, true, true, true, true, true, true, true, true] rfl rfl (by kernel_rfl) (fun _ _ _ h => h) (Or.inl ⟨by rfl, ?_⟩) ?_ ?_
          rotate_left
          · intro w'
            go_simp
            with_reducible rfl
          rotate_left
          · simp only [Act.put, List.setIfInBounds_toArray, List.set_cons_zero, List.set_cons_succ, i64_w, i32_w]
            rfl
          refine done_ (by kernel_rfl) ?_
          try simp only [Exit.then]
          try go_wp2
          go_meet
          case rel => exact ⟨_, Ed, fd, rfl, rfl, ⟨zc⟩, ⟨(Kd.R_reads' (Kd.R_step (Kd.R_bound r67) (fun q hq _ => zk q (by have h9 := hq.2.1; omega)))).2.2⟩, ⟨(Kd.R_reads' r67).2.1⟩, ⟨b68.trans (zb _ hGw)⟩⟩
      · refine value_ (w1 := ?_) (v := ?_) (by rfl) rfl ?_ ?_
        rotate_left 2
        · go_simp
          constructor
          · rfl
          · rfl
        have h71 := bal (Below.refl U1.heap.size U1) (.cells #[.int .i64 0, .int .i64 0, .int .i64 0, .slice none 0 0] 28)
        have z73 := blk_new U1 (.cells #[.int .i64 0, .int .i64 0, .int .i64 0, .slice none 0 0] 28)
        generalize U1.alloc (.cells #[.int .i64 0, .int .i64 0, .int .i64 0, .slice none 0 0] 28) = U70 at h71 z73 ⊢
        have b72 := b3.trans (h71.mono b3.size)
        have gle := b3.size
        refine hK.out _ _ (pS _ b72) (fun hHeld => ?_)
        clear hK K
        refine norm_ (a' := ?_) ?_ ?_
        rotate_left
        · show Act.put _ (some 4) _ = _
          simp only [Act.put, List.setIfInBounds_toArray, List.set_cons_zero, List.set_cons_succ, i64_w, i32_w]
          rfl
        refine one_ (i := 2) (N := (some 30)) #[true, true, true, false, false, false, false, false, false, true, false, false] rfl rfl (by kernel_rfl) (by decide) (fun K hK => ?_)
        refine goes_ Try.func41 (by kernel_rfl) rfl #[.int .i64 1, .int .i64 1] (by rfl) rfl rfl (by (try simp only [List.map_toArray, List.map_cons, List.map_nil]); rfl) ?_
        refine (r2_Read.calls 1 1 1 1 1 [] U70 (aw_read 1 1)).mono ?_
        rintro e U74 ⟨v, rfl, o_, h75⟩
        obtain ⟨Eb, fb, e_⟩ := Kd.R_slice o_
        subst e_
        clear o_
        have b76 := b72.trans (h75.mono b72.size)
        have z77 := blk_below z73 h75
        refine ⟨_, rfl, ?_⟩
        refine hK.out _ _ (pS _ b76) (fun hHeld => ?_)
        clear hK K
        refine norm_ (a' := ?_) ?_ ?_
        rotate_left
        · show Act.put _ (some 30) _ = _
          simp only [Act.put, List.setIfInBounds_toArray, List.set_cons_zero, List.set_cons_succ, i64_w, i32_w]
          rfl
        refine one_ (i := 3) (N := (some 31)) #[true, true, true, true, false, false, false, false, false, true, false, false] rfl rfl (by kernel_rfl) (by decide) (fun K hK => ?_)
        refine value_ (w1 := ?_) (v := ?_) (by rfl) rfl ?_ ?_
        rotate_left 2
        · go_simp
          constructor
          · rfl
          · rfl
        have v80 := aw_row2 U74 0 0 1 1 Ea fa Eb fb
        have h79 := bal (Below.refl U74.heap.size U74) (.cells #[.int .i64 1, .int .i64 0, .int .i64 0, .slice Ea 0 fa, .int .i64 1, .int .i64 1, .int .i64 1, .slice Eb 0 fb] 28)
        (try simp only [List.length_nil])
        generalize U74.alloc (.cells #[.int .i64 1, .int .i64 0, .int .i64 0, .slice Ea 0 fa, .int .i64 1, .int .i64 1, .int .i64 1, .slice Eb 0 fb] 28) = U78 at v80 h79 ⊢
        have b82 := b76.trans (h79.mono b76.size)
        have z83 := blk_below z77 h79
        refine hK.out _ _ (pS _ b82) (fun hHeld => ?_)
        clear hK K
        refine norm_ (a' := ?_) ?_ ?_
        rotate_left
        · show Act.put _ (some 31) _ = _
          simp only [Act.put, List.setIfInBounds_toArray, List.set_cons_zero, List.set_cons_succ, i64_w, i32_w]
          rfl
        refine one_ (i := 4) (N := (some 32)) #[true, true, true, true, true, false, false, false, false, true, false, false] rfl rfl (by kernel_rfl) (by decide) (fun K hK => ?_)
        refine goes_ Try.func42 (by kernel_rfl) rfl #[.int .i64 13, .slice (some ⟨U74.heap.size, 0, none⟩) 2 2] (by rfl) rfl rfl (by (try simp only [List.map_toArray, List.map_cons, List.map_nil]); rfl) ?_
        refine (r2_Of.calls 13 (fun _ => True) (some ⟨U74.heap.size, 0, none⟩) 2 [aw_r 0 0, aw_r 1 1] 13 0 0 [aw_r 0 0, aw_r 1 1] U78 v80 aw_of).mono ?_
        rintro e U84 ⟨v, rfl, o86, h85⟩
        obtain ⟨Ec, fc, e_⟩ := Kd.V_slice o86
        subst e_
        have b87 := b82.trans (h85.mono b82.size)
        have z88 := blk_below z83 h85
        refine ⟨_, rfl, ?_⟩
        refine hK.out _ _ (pS _ b87) (fun hHeld => ?_)
        clear hK K
        refine norm_ (a' := ?_) ?_ ?_
        rotate_left
        · show Act.put _ (some 32) _ = _
          simp only [Act.put, List.setIfInBounds_toArray, List.set_cons_zero, List.set_cons_succ, i64_w, i32_w]
          rfl
        refine one_ (i := 5) (N := (some 33)) #[true, true, true, true, true, true, false, false, false, true, false, false] rfl rfl (by kernel_rfl) (by decide) (fun K hK => ?_)
        refine goes_ Try.func12 (by kernel_rfl) rfl #[.agg #[.int .i64 2, .slice (some ⟨bv, 0, none⟩) 2 2, .slice (some ⟨bb, 0, none⟩) 2 2], .int .i64 2, .agg #[.int .i64 13, .int .i64 0, .int .i64 0, .slice Ec 2 fc]] (by rfl) rfl rfl (by (try simp only [List.map_toArray, List.map_cons, List.map_nil]); rfl) ?_
        have lz := blk_lt z88
        refine (prod_Plain.calls 60 2 (some ⟨bv, 0, none⟩) 2 aw_vars (some ⟨bb, 0, none⟩) 2 aw_body 2 13 0 0 Ec fc [aw_r 0 0, aw_r 1 1] 13 0 0 [aw_r 0 0, aw_r 3 0] 0 U84 (by rw [← hbv]; exact Kd.C_below CVQ.out b87) (by decide) (by rw [← hbb]; exact Kd.C_below CBQ.out b87) (by decide) (Kd.V_reads' o86).2.2 (Kd.V_reads' o86).2.1 aw_plain).mono ?_
        rintro e U89 ⟨v, rfl, r91, h90⟩
        obtain ⟨Ed, fd, e_⟩ := Kd.R_slice r91
        subst e_
        have b92 := b87.trans (h90.mono b87.size)
        have z93 := blk_below z88 h90
        refine ⟨_, rfl, ?_⟩
        refine hK.out _ _ (pS _ b92) (fun hHeld => ?_)
        clear hK K
        refine norm_ (a' := ?_) ?_ ?_
        rotate_left
        · show Act.put _ (some 33) _ = _
          simp only [Act.put, List.setIfInBounds_toArray, List.set_cons_zero, List.set_cons_succ, i64_w, i32_w]
          rfl
        refine pure_ (i := 6) (N := (some 27)) (v := ?_) (a' := ?_) #[true, true, true, true, true, true, true, false, false, true, false, false] rfl rfl (by kernel_rfl) (fun _ _ _ h => h) (Or.inl ⟨by rfl, ?_⟩) ?_ ?_
        rotate_left
        · intro w'
          go_simp
          with_reducible rfl
        rotate_left
        · simp only [Act.put, List.setIfInBounds_toArray, List.set_cons_zero, List.set_cons_succ, i64_w, i32_w]
          rfl
        refine pure_ (i := 7) (N := (some 34)) (v := ?_) (a' := ?_) #[true, true, true, true, true, true, true, true, false, true, false, false] rfl rfl (by kernel_rfl) (fun _ _ _ h => h) (Or.inl ⟨by rfl, ?_⟩) ?_ ?_
        rotate_left
        · intro w'
          go_simp
          with_reducible rfl
        rotate_left
        · simp only [Act.put, List.setIfInBounds_toArray, List.set_cons_zero, List.set_cons_succ, i64_w, i32_w]
          rfl
        refine pure_ (i := 8) (N := (some 35)) (v := ?_) (a' := ?_) #[true, true, true, true, true, true, true, true, true, true, false, false] rfl rfl (by kernel_rfl) (fun _ _ _ h => h) (Or.inl ⟨by rfl, ?_⟩) ?_ ?_
        rotate_left
        · intro w'
          go_simp
          with_reducible rfl
        rotate_left
        · simp only [Act.put, List.setIfInBounds_toArray, List.set_cons_zero, List.set_cons_succ, i64_w, i32_w]
          rfl
        refine last_ (i := 10) (N := none) #[true, true, true, true, true, true, true, true, true, true, true, false] rfl rfl (by kernel_rfl) (by decide) (fun K hK => ?_)
        obtain ⟨zc, zk, zb⟩ := row4_put z93 (.int .i64 13) (.int .i64 0) (.int .i64 0) (.slice Ed 2 fd)
        have bG := b92.size
        have lG := blk_lt z93
        have hGw : WQ.heap.size ≤ U1.heap.size := gle
        refine skip_ (w1 := ((((U89.setCell ⟨U1.heap.size, 0, none⟩ (.int .i64 13)).setCell ⟨U1.heap.size, 1, none⟩ (.int .i64 0)).setCell ⟨U1.heap.size, 2, none⟩ (.int .i64 0)).setCell ⟨U1.heap.size, 3, none⟩ (.slice Ed 2 fd))) (by rfl) rfl ?st ?_
        case st =>
          have q0 : U89.cell? ⟨U1.heap.size, 0, none⟩ = some (.int .i64 0) := (blk_cell z93 0).trans rfl
          have g0 := blk_frozen z93 0
          have q1 : U89.cell? ⟨U1.heap.size, 1, none⟩ = some (.int .i64 0) := (blk_cell z93 1).trans rfl
          have g1 := blk_frozen z93 1
          have q2 : U89.cell? ⟨U1.heap.size, 2, none⟩ = some (.int .i64 0) := (blk_cell z93 2).trans rfl
          have g2 := blk_frozen z93 2
          have q3 : U89.cell? ⟨U1.heap.size, 3, none⟩ = some (.slice none 0 0) := (blk_cell z93 3).trans rfl
          have g3 := blk_frozen z93 3
          go_simp
          try rfl
        refine hK.out _ _ ?_
        clear hK K
        refine pure_ (i := 11) (N := (some 5)) (v := ?_) (a' := ?_) #[true, true, true, true, true, true, true, true, true, true, true, true] rfl rfl (by kernel_rfl) (fun _ _ _ h => h) (Or.inl ⟨by rfl, ?_⟩) ?_ ?_
        rotate_left
        · intro w'
          go_simp
          with_reducible rfl
        rotate_left
        · simp only [Act.put, List.setIfInBounds_toArray, List.set_cons_zero, List.set_cons_succ, i64_w, i32_w]
          rfl
        refine done_ (by kernel_rfl) ?_
        try simp only [Exit.then]
        try go_wp2
        go_meet
        case rel => exact ⟨_, Ed, fd, rfl, rfl, ⟨zc⟩, ⟨(Kd.R_reads' (Kd.R_step (Kd.R_bound r91) (fun q hq _ => zk q (by have h9 := hq.2.1; omega)))).2.2⟩, ⟨(Kd.R_reads' r91).2.1⟩, ⟨b92.trans (zb _ hGw)⟩⟩
    · refine value_ (w1 := ?_) (v := ?_) (by rfl) rfl ?_ ?_
      rotate_left 2
      · go_simp
        constructor
        · rfl
        · rfl
      have h95 := bal (Below.refl U0.heap.size U0) (.cells #[.int .i64 0, .int .i64 0, .int .i64 0, .slice none 0 0] 28)
      have z97 := blk_new U0 (.cells #[.int .i64 0, .int .i64 0, .int .i64 0, .slice none 0 0] 28)
      generalize U0.alloc (.cells #[.int .i64 0, .int .i64 0, .int .i64 0, .slice none 0 0] 28) = U94 at h95 z97 ⊢
      have b96 := b0.trans (h95.mono b0.size)
      have gle := b0.size
      refine hK.out _ _ (pS _ b96) (fun hHeld => ?_)
      clear hK K
      refine norm_ (a' := ?_) ?_ ?_
      rotate_left
      · show Act.put _ (some 4) _ = _
        simp only [Act.put, List.setIfInBounds_toArray, List.set_cons_zero, List.set_cons_succ, i64_w, i32_w]
        rfl
      refine one_ (i := 1) (N := (some 29)) #[true, true, false, false, false, false, false, false, false, true, false, false] rfl rfl (by kernel_rfl) (by decide) (fun K hK => ?_)
      refine goes_ Try.func41 (by kernel_rfl) rfl #[.int .i64 0, .int .i64 0] (by rfl) rfl rfl (by (try simp only [List.map_toArray, List.map_cons, List.map_nil]); rfl) ?_
      refine (r2_Read.calls 0 0 1 0 0 [] U94 (aw_read 0 0)).mono ?_
      rintro e U98 ⟨v, rfl, o_, h99⟩
      obtain ⟨Ea, fa, e_⟩ := Kd.R_slice o_
      subst e_
      clear o_
      have b100 := b96.trans (h99.mono b96.size)
      have z101 := blk_below z97 h99
      refine ⟨_, rfl, ?_⟩
      refine hK.out _ _ (pS _ b100) (fun hHeld => ?_)
      clear hK K
      refine norm_ (a' := ?_) ?_ ?_
      rotate_left
      · show Act.put _ (some 29) _ = _
        simp only [Act.put, List.setIfInBounds_toArray, List.set_cons_zero, List.set_cons_succ, i64_w, i32_w]
        rfl
      refine one_ (i := 2) (N := (some 30)) #[true, true, true, false, false, false, false, false, false, true, false, false] rfl rfl (by kernel_rfl) (by decide) (fun K hK => ?_)
      refine goes_ Try.func41 (by kernel_rfl) rfl #[.int .i64 1, .int .i64 1] (by rfl) rfl rfl (by (try simp only [List.map_toArray, List.map_cons, List.map_nil]); rfl) ?_
      refine (r2_Read.calls 1 1 1 1 1 [] U98 (aw_read 1 1)).mono ?_
      rintro e U102 ⟨v, rfl, o_, h103⟩
      obtain ⟨Eb, fb, e_⟩ := Kd.R_slice o_
      subst e_
      clear o_
      have b104 := b100.trans (h103.mono b100.size)
      have z105 := blk_below z101 h103
      refine ⟨_, rfl, ?_⟩
      refine hK.out _ _ (pS _ b104) (fun hHeld => ?_)
      clear hK K
      refine norm_ (a' := ?_) ?_ ?_
      rotate_left
      · show Act.put _ (some 30) _ = _
        simp only [Act.put, List.setIfInBounds_toArray, List.set_cons_zero, List.set_cons_succ, i64_w, i32_w]
        rfl
      refine one_ (i := 3) (N := (some 31)) #[true, true, true, true, false, false, false, false, false, true, false, false] rfl rfl (by kernel_rfl) (by decide) (fun K hK => ?_)
      refine value_ (w1 := ?_) (v := ?_) (by rfl) rfl ?_ ?_
      rotate_left 2
      · go_simp
        constructor
        · rfl
        · rfl
      have v108 := aw_row2 U102 0 0 1 1 Ea fa Eb fb
      have h107 := bal (Below.refl U102.heap.size U102) (.cells #[.int .i64 1, .int .i64 0, .int .i64 0, .slice Ea 0 fa, .int .i64 1, .int .i64 1, .int .i64 1, .slice Eb 0 fb] 28)
      (try simp only [List.length_nil])
      generalize U102.alloc (.cells #[.int .i64 1, .int .i64 0, .int .i64 0, .slice Ea 0 fa, .int .i64 1, .int .i64 1, .int .i64 1, .slice Eb 0 fb] 28) = U106 at v108 h107 ⊢
      have b110 := b104.trans (h107.mono b104.size)
      have z111 := blk_below z105 h107
      refine hK.out _ _ (pS _ b110) (fun hHeld => ?_)
      clear hK K
      refine norm_ (a' := ?_) ?_ ?_
      rotate_left
      · show Act.put _ (some 31) _ = _
        simp only [Act.put, List.setIfInBounds_toArray, List.set_cons_zero, List.set_cons_succ, i64_w, i32_w]
        rfl
      refine one_ (i := 4) (N := (some 32)) #[true, true, true, true, true, false, false, false, false, true, false, false] rfl rfl (by kernel_rfl) (by decide) (fun K hK => ?_)
      refine goes_ Try.func42 (by kernel_rfl) rfl #[.int .i64 13, .slice (some ⟨U102.heap.size, 0, none⟩) 2 2] (by rfl) rfl rfl (by (try simp only [List.map_toArray, List.map_cons, List.map_nil]); rfl) ?_
      refine (r2_Of.calls 13 (fun _ => True) (some ⟨U102.heap.size, 0, none⟩) 2 [aw_r 0 0, aw_r 1 1] 13 0 0 [aw_r 0 0, aw_r 1 1] U106 v108 aw_of).mono ?_
      rintro e U112 ⟨v, rfl, o114, h113⟩
      obtain ⟨Ec, fc, e_⟩ := Kd.V_slice o114
      subst e_
      have b115 := b110.trans (h113.mono b110.size)
      have z116 := blk_below z111 h113
      refine ⟨_, rfl, ?_⟩
      refine hK.out _ _ (pS _ b115) (fun hHeld => ?_)
      clear hK K
      refine norm_ (a' := ?_) ?_ ?_
      rotate_left
      · show Act.put _ (some 32) _ = _
        simp only [Act.put, List.setIfInBounds_toArray, List.set_cons_zero, List.set_cons_succ, i64_w, i32_w]
        rfl
      refine one_ (i := 5) (N := (some 33)) #[true, true, true, true, true, true, false, false, false, true, false, false] rfl rfl (by kernel_rfl) (by decide) (fun K hK => ?_)
      refine goes_ Try.func12 (by kernel_rfl) rfl #[.agg #[.int .i64 2, .slice (some ⟨bv, 0, none⟩) 2 2, .slice (some ⟨bb, 0, none⟩) 2 2], .int .i64 2, .agg #[.int .i64 13, .int .i64 0, .int .i64 0, .slice Ec 2 fc]] (by rfl) rfl rfl (by (try simp only [List.map_toArray, List.map_cons, List.map_nil]); rfl) ?_
      have lz := blk_lt z116
      refine (prod_Plain.calls 60 2 (some ⟨bv, 0, none⟩) 2 aw_vars (some ⟨bb, 0, none⟩) 2 aw_body 2 13 0 0 Ec fc [aw_r 0 0, aw_r 1 1] 13 0 0 [aw_r 0 0, aw_r 3 0] 0 U112 (by rw [← hbv]; exact Kd.C_below CVQ.out b115) (by decide) (by rw [← hbb]; exact Kd.C_below CBQ.out b115) (by decide) (Kd.V_reads' o114).2.2 (Kd.V_reads' o114).2.1 aw_plain).mono ?_
      rintro e U117 ⟨v, rfl, r119, h118⟩
      obtain ⟨Ed, fd, e_⟩ := Kd.R_slice r119
      subst e_
      have b120 := b115.trans (h118.mono b115.size)
      have z121 := blk_below z116 h118
      refine ⟨_, rfl, ?_⟩
      refine hK.out _ _ (pS _ b120) (fun hHeld => ?_)
      clear hK K
      refine norm_ (a' := ?_) ?_ ?_
      rotate_left
      · show Act.put _ (some 33) _ = _
        simp only [Act.put, List.setIfInBounds_toArray, List.set_cons_zero, List.set_cons_succ, i64_w, i32_w]
        rfl
      refine pure_ (i := 6) (N := (some 27)) (v := ?_) (a' := ?_) #[true, true, true, true, true, true, true, false, false, true, false, false] rfl rfl (by kernel_rfl) (fun _ _ _ h => h) (Or.inl ⟨by rfl, ?_⟩) ?_ ?_
      rotate_left
      · intro w'
        go_simp
        with_reducible rfl
      rotate_left
      · simp only [Act.put, List.setIfInBounds_toArray, List.set_cons_zero, List.set_cons_succ, i64_w, i32_w]
        rfl
      refine pure_ (i := 7) (N := (some 34)) (v := ?_) (a' := ?_) #[true, true, true, true, true, true, true, true, false, true, false, false] rfl rfl (by kernel_rfl) (fun _ _ _ h => h) (Or.inl ⟨by rfl, ?_⟩) ?_ ?_
      rotate_left
      · intro w'
        go_simp
        with_reducible rfl
      rotate_left
      · simp only [Act.put, List.setIfInBounds_toArray, List.set_cons_zero, List.set_cons_succ, i64_w, i32_w]
        rfl
      refine pure_ (i := 8) (N := (some 35)) (v := ?_) (a' := ?_) #[true, true, true, true, true, true, true, true, true, true, false, false] rfl rfl (by kernel_rfl) (fun _ _ _ h => h) (Or.inl ⟨by rfl, ?_⟩) ?_ ?_
      rotate_left
      · intro w'
        go_simp
        with_reducible rfl
      rotate_left
      · simp only [Act.put, List.setIfInBounds_toArray, List.set_cons_zero, List.set_cons_succ, i64_w, i32_w]
        rfl
      refine last_ (i := 10) (N := none) #[true, true, true, true, true, true, true, true, true, true, true, false] rfl rfl (by kernel_rfl) (by decide) (fun K hK => ?_)
      obtain ⟨zc, zk, zb⟩ := row4_put z121 (.int .i64 13) (.int .i64 0) (.int .i64 0) (.slice Ed 2 fd)
      have bG := b120.size
      have lG := blk_lt z121
      have hGw : WQ.heap.size ≤ U0.heap.size := gle
      refine skip_ (w1 := ((((U117.setCell ⟨U0.heap.size, 0, none⟩ (.int .i64 13)).setCell ⟨U0.heap.size, 1, none⟩ (.int .i64 0)).setCell ⟨U0.heap.size, 2, none⟩ (.int .i64 0)).setCell ⟨U0.heap.size, 3, none⟩ (.slice Ed 2 fd))) (by rfl) rfl ?st ?_
      case st =>
        have q0 : U117.cell? ⟨U0.heap.size, 0, none⟩ = some (.int .i64 0) := (blk_cell z121 0).trans rfl
        have g0 := blk_frozen z121 0
        have q1 : U117.cell? ⟨U0.heap.size, 1, none⟩ = some (.int .i64 0) := (blk_cell z121 1).trans rfl
        have g1 := blk_frozen z121 1
        have q2 : U117.cell? ⟨U0.heap.size, 2, none⟩ = some (.int .i64 0) := (blk_cell z121 2).trans rfl
        have g2 := blk_frozen z121 2
        have q3 : U117.cell? ⟨U0.heap.size, 3, none⟩ = some (.slice none 0 0) := (blk_cell z121 3).trans rfl
        have g3 := blk_frozen z121 3
        go_simp
        try rfl
      refine hK.out _ _ ?_
      clear hK K
      refine pure_ (i := 11) (N := (some 5)) (v := ?_) (a' := ?_) #[true, true, true, true, true, true, true, true, true, true, true, true] rfl rfl (by kernel_rfl) (fun _ _ _ h => h) (Or.inl ⟨by rfl, ?_⟩) ?_ ?_
      rotate_left
      · intro w'
        go_simp
        with_reducible rfl
      rotate_left
      · simp only [Act.put, List.setIfInBounds_toArray, List.set_cons_zero, List.set_cons_succ, i64_w, i32_w]
        rfl
      refine done_ (by kernel_rfl) ?_
      try simp only [Exit.then]
      try go_wp2
      go_meet
      case rel => exact ⟨_, Ed, fd, rfl, rfl, ⟨zc⟩, ⟨(Kd.R_reads' (Kd.R_step (Kd.R_bound r119) (fun q hq _ => zk q (by have h9 := hq.2.1; omega)))).2.2⟩, ⟨(Kd.R_reads' r119).2.1⟩, ⟨b120.trans (zb _ hGw)⟩⟩
  case rest =>
    obtain ⟨G, D, d, rfl, rfl, XG, XC, Xd, XB⟩ := hcut
    have CVw : ∀ W, Below WQ.heap.size WQ W → Kd.C k66 W (some ⟨bv, 0, none⟩) aw_vars.length aw_vars := fun W h => by rw [← hbv]; exact Kd.C_below CVQ.out h
    have CBw : ∀ W, Below WQ.heap.size WQ W → Kd.C k64 W (some ⟨bb, 0, none⟩) aw_body.length aw_body := fun W h => by rw [← hbb]; exact Kd.C_below CBQ.out h
    clear hbv hbb hbp
    obtain ⟨x0, x1, x2⟩ := pS _ XB.out
    obtain ⟨CS7, b67⟩ := aw_w7 wc
    obtain ⟨W7, hW7⟩ : ∃ X, (((wc.alloc (.cells #[.int .i64 1, .int .i64 2] 3)).alloc (.cells #[.int .i64 3, .int .i64 0] 3)).alloc (.cells #[.slice (some ⟨wc.heap.size, 0, none⟩) 2 2, .slice (some ⟨wc.heap.size + 1, 0, none⟩) 2 2] 45)) = X := ⟨_, rfl⟩
    rw [hW7] at CS7 b67
    have B7 := XB.out.trans (b67.mono XB.out.size)
    go_wp2_with (first | (go_at_call 21; refine (prod_Join.calls 60 2 (some ⟨bv, 0, none⟩) 2 aw_vars (some ⟨bb, 0, none⟩) 2 aw_body (some ⟨wc.heap.size + 1 + 1, 0, none⟩) 2 [[1, 2], [3, 0]] [1, 2, 3, 0] 0 W7 (CVw _ B7) (by decide) (CBw _ B7) (by decide) CS7 (by decide) aw_join).mono ?_; rintro e W8 ⟨v, rfl, os, hb8⟩; obtain ⟨As, cs_, e_⟩ := Kd.R_slice os; subst e_; have B8 := B7.trans (hb8.mono B7.size); obtain ⟨y0, y1, y2⟩ := pS _ B8; have w8 := b67.trans (hb8.mono b67.size)) | (go_at_call 25; refine (prod_Copy.calls 60 2 (some ⟨bv, 0, none⟩) 2 aw_vars (some ⟨bb, 0, none⟩) 2 aw_body 3 0 [] [] 1 W8 (CVw _ B8) (by decide) (CBw _ B8) (by decide) aw_copy).mono ?_; rintro e W9 ⟨v1, v2, rfl, oc1, oc2, hb9⟩; obtain ⟨A9, c9, e_⟩ := Kd.R_slice oc1; subst e_; obtain ⟨A10, c10, e_⟩ := Kd.V_slice oc2; subst e_; have B9 := B8.trans (hb9.mono B8.size); have OS9 := Kd.R_below os hb9; have w9 := w8.trans (hb9.mono w8.size)) | (go_at_call 16; refine (prod_Told.calls 60 (some ⟨W9.heap.size + 1, 0, none⟩) 2 [⟨17, 3⟩, ⟨1, 2⟩] 1 [⟨1, 3⟩] _ (aw_outs2 W9 A9 c9 A10 c10) (by decide) aw_told).mono ?_; rintro e W11 ⟨v, rfl, ot, hb11⟩; obtain ⟨At, ct, e_⟩ := Kd.R_slice ot; subst e_; have b9 := (bal (bal (Below.refl W9.heap.size W9) (.cells #[.int .i64 0, .slice A9 0 c9, .slice A10 0 c10] 25)) (.cells #[.int .i64 17, .int .i64 3, .int .i64 1, .int .i64 2] 74)).trans (hb11.mono (by simp; omega)); have w11 := w9.trans (b9.mono w9.size); have B11 := B9.trans (b9.mono B9.size); have OS11 := Kd.R_below OS9 b9; have q11 := (B11.block _ (blk_lt QR.out)).trans QR.out; have u1 : W11.cell? ⟨W4.heap.size, 1, none⟩ = some (.slice D1 aw_qv.length d1) := (blk_cell q11 1).trans rfl; have u2 : W11.cell? ⟨W4.heap.size, 2, none⟩ = some (.slice D2 aw_qb.length d2) := (blk_cell q11 2).trans rfl))
    obtain ⟨ad1, e1, v0, v1, v2⟩ := at_T66 (Kd.C_below C1.out B11) 2 (by decide) (by decide)
    obtain ⟨ad2, B2, b2, B3, b3, B4, b4, e2, _, n3, _, _, _, _, _, _, _, _, _⟩ := at_T64 (Kd.C_below C2.out B11) 3 (by decide) (by decide)
    obtain ⟨ad3, B5, b5, B6, b6, B7', b7', e3, _, n2, _, _, _, _, _, _, _, _, _⟩ := at_T64 (Kd.C_below C2.out B11) 2 (by decide) (by decide)
    obtain rfl : ad2 = ad3 := Option.some.inj (e2.symm.trans e3)
    subst e1 e2
    clear e3
    have xG := (w11.block _ (blk_lt XG.out)).trans XG.out
    have XCf := Aside0.mk (Kd.C_below XC.out w11)
    have OSf := Aside0.mk OS11
    have OTf := Aside0.mk ot
    have BWf := Aside0.mk (BW.out.trans (B11.mono BW.out.size))
    have v0 : W11.cell? ⟨ad1.block, ad1.off + 6, none⟩ = some (.string ⟨#[104, 95, 49]⟩) := v0
    have v1 : W11.cell? ⟨ad1.block, ad1.off + 6 + 1, none⟩ = some (.int .i64 17) := v1
    have v2 : W11.cell? ⟨ad1.block, ad1.off + 6 + 2, none⟩ = some (.int .i64 1) := v2
    have n3 : W11.cell? ⟨ad2.block, ad2.off + 15 + 1, none⟩ = some (.int .i64 18) := n3
    have n2 : W11.cell? ⟨ad2.block, ad2.off + 10 + 1, none⟩ = some (.int .i64 2) := n2
    have x0 : W11.cell? ⟨G, 0, none⟩ = some (.int .i64 13) := (blk_cell xG 0).trans rfl
    have x1 : W11.cell? ⟨G, 1, none⟩ = some (.int .i64 0) := (blk_cell xG 1).trans rfl
    have x2 : W11.cell? ⟨G, 2, none⟩ = some (.int .i64 0) := (blk_cell xG 2).trans rfl
    have x3 : W11.cell? ⟨G, 3, none⟩ = some (.slice D 2 d) := (blk_cell xG 3).trans rfl
    have sS : ∀ W, Below W11.heap.size W11 W → W.cell? ⟨W4.heap.size, 1, none⟩ = some (.slice (some ad1) aw_qv.length d1) ∧ W.cell? ⟨W4.heap.size, 2, none⟩ = some (.slice (some ad2) aw_qb.length d2) ∧ W.cell? ⟨ad1.block, ad1.off + 6, none⟩ = some (.string ⟨#[104, 95, 49]⟩) ∧ W.cell? ⟨ad1.block, ad1.off + 6 + 1, none⟩ = some (.int .i64 17) ∧ W.cell? ⟨ad1.block, ad1.off + 6 + 2, none⟩ = some (.int .i64 1) ∧ W.cell? ⟨ad2.block, ad2.off + 15 + 1, none⟩ = some (.int .i64 18) ∧ W.cell? ⟨ad2.block, ad2.off + 10 + 1, none⟩ = some (.int .i64 2) ∧ W.cell? ⟨G, 0, none⟩ = some (.int .i64 13) ∧ W.cell? ⟨G, 1, none⟩ = some (.int .i64 0) ∧ W.cell? ⟨G, 2, none⟩ = some (.int .i64 0) ∧ W.cell? ⟨G, 3, none⟩ = some (.slice D 2 d) := fun W hW => ⟨(hW.cell (World.block_lt_of_cell? W11 _ u1)).trans u1, (hW.cell (World.block_lt_of_cell? W11 _ u2)).trans u2, (hW.cell (World.block_lt_of_cell? W11 _ v0)).trans v0, (hW.cell (World.block_lt_of_cell? W11 _ v1)).trans v1, (hW.cell (World.block_lt_of_cell? W11 _ v2)).trans v2, (hW.cell (World.block_lt_of_cell? W11 _ n3)).trans n3, (hW.cell (World.block_lt_of_cell? W11 _ n2)).trans n2, (hW.cell (World.block_lt_of_cell? W11 _ x0)).trans x0, (hW.cell (World.block_lt_of_cell? W11 _ x1)).trans x1, (hW.cell (World.block_lt_of_cell? W11 _ x2)).trans x2, (hW.cell (World.block_lt_of_cell? W11 _ x3)).trans x3⟩
    refine start_ (n := 42) (S := fun W => W.cell? ⟨W4.heap.size, 1, none⟩ = some (.slice (some ad1) aw_qv.length d1) ∧ W.cell? ⟨W4.heap.size, 2, none⟩ = some (.slice (some ad2) aw_qb.length d2) ∧ W.cell? ⟨ad1.block, ad1.off + 6, none⟩ = some (.string ⟨#[104, 95, 49]⟩) ∧ W.cell? ⟨ad1.block, ad1.off + 6 + 1, none⟩ = some (.int .i64 17) ∧ W.cell? ⟨ad1.block, ad1.off + 6 + 2, none⟩ = some (.int .i64 1) ∧ W.cell? ⟨ad2.block, ad2.off + 15 + 1, none⟩ = some (.int .i64 18) ∧ W.cell? ⟨ad2.block, ad2.off + 10 + 1, none⟩ = some (.int .i64 2) ∧ W.cell? ⟨G, 0, none⟩ = some (.int .i64 13) ∧ W.cell? ⟨G, 1, none⟩ = some (.int .i64 0) ∧ W.cell? ⟨G, 2, none⟩ = some (.int .i64 0) ∧ W.cell? ⟨G, 3, none⟩ = some (.slice D 2 d)) (ds := []) #[false, false, false, false, false, false, false, false, false, false, false, false, false, false, false, false, false, false, false, false, false, false, false, false, false, false, false, false, false, false, false, false, false, false, false, false, false, false, false, false, false, false] (by kernel_rfl) rfl rfl (sS _ (below_drew (Below.refl _ _))) (fun hHeld => ?_)
    have b0 := below_drew (Below.refl W11.heap.size W11)
    generalize W11.drew = U0 at b0 hHeld ⊢
    refine pure_ (i := 0) (N := (some 79)) (v := ?_) (a' := ?_) #[true, false, false, false, false, false, false, false, false, false, false, false, false, false, false, false, false, false, false, false, false, false, false, false, false, false, false, false, false, false, false, false, false, false, false, false, false, false, false, false, false, false] rfl rfl (by kernel_rfl) (fun _ _ _ h => h) (Or.inl ⟨by rfl, ?_⟩) ?_ ?_
    rotate_left
    · intro w'
      go_simp
      with_reducible rfl
    rotate_left
    · simp only [Act.put, List.setIfInBounds_toArray, List.set_cons_zero, List.set_cons_succ, i64_w, i32_w]
      rfl
    refine take_ (i := 1) (N := (some 80)) (v := ?_) (a' := ?_) #[true, true, false, false, false, false, false, false, false, false, false, false, false, false, false, false, false, false, false, false, false, false, false, false, false, false, false, false, false, false, false, false, false, false, false, false, false, false, false, false, false, false] rfl rfl (by kernel_rfl) (fun _ _ _ h => h) (Or.inl ⟨by rfl, ?_⟩) hHeld ?_ ?_
    rotate_left
    · rintro w' ⟨s0, s1, s2, s3, s4, s5, s6, s7, s8, s9, s10⟩
      go_simp
      with_reducible rfl
    rotate_left
    · simp only [Act.put, List.setIfInBounds_toArray, List.set_cons_zero, List.set_cons_succ, i64_w, i32_w]
      rfl
    refine pure_ (i := 2) (N := (some 81)) (v := ?_) (a' := ?_) #[true, true, true, false, false, false, false, false, false, false, false, false, false, false, false, false, false, false, false, false, false, false, false, false, false, false, false, false, false, false, false, false, false, false, false, false, false, false, false, false, false, false] rfl rfl (by kernel_rfl) (fun _ _ _ h => h) (Or.inl ⟨by rfl, ?_⟩) ?_ ?_
    rotate_left
    · intro w'
      go_simp
      with_reducible rfl
    rotate_left
    · simp only [Act.put, List.setIfInBounds_toArray, List.set_cons_zero, List.set_cons_succ, i64_w, i32_w]
      rfl
    refine take_ (i := 3) (N := (some 82)) (v := ?_) (a' := ?_) #[true, true, true, true, false, false, false, false, false, false, false, false, false, false, false, false, false, false, false, false, false, false, false, false, false, false, false, false, false, false, false, false, false, false, false, false, false, false, false, false, false, false] rfl rfl (by kernel_rfl) (fun _ _ _ h => h) (Or.inl ⟨by rfl, ?_⟩) hHeld ?_ ?_
    rotate_left
    · rintro w' ⟨s0, s1, s2, s3, s4, s5, s6, s7, s8, s9, s10⟩
      go_simp
      with_reducible rfl
    rotate_left
    · simp only [Act.put, List.setIfInBounds_toArray, List.set_cons_zero, List.set_cons_succ, i64_w, i32_w]
      rfl
    refine pure_ (i := 4) (N := (some 83)) (v := ?_) (a' := ?_) #[true, true, true, true, true, false, false, false, false, false, false, false, false, false, false, false, false, false, false, false, false, false, false, false, false, false, false, false, false, false, false, false, false, false, false, false, false, false, false, false, false, false] rfl rfl (by kernel_rfl) (fun _ _ _ h => h) (Or.inl ⟨by rfl, ?_⟩) ?_ ?_
    rotate_left
    · intro w'
      go_simp
      with_reducible rfl
    rotate_left
    · simp only [Act.put, List.setIfInBounds_toArray, List.set_cons_zero, List.set_cons_succ, i64_w, i32_w]
      rfl
    refine pure_ (i := 5) (N := (some 84)) (v := ?_) (a' := ?_) #[true, true, true, true, true, true, false, false, false, false, false, false, false, false, false, false, false, false, false, false, false, false, false, false, false, false, false, false, false, false, false, false, false, false, false, false, false, false, false, false, false, false] rfl rfl (by kernel_rfl) (fun _ _ _ h => h) (Or.inl ⟨by rfl, ?_⟩) ?_ ?_
    rotate_left
    · intro w'
      go_simp
      with_reducible rfl
    rotate_left
    · simp only [Act.put, List.setIfInBounds_toArray, List.set_cons_zero, List.set_cons_succ, i64_w, i32_w]
      rfl
    refine pure_ (i := 6) (N := (some 85)) (v := ?_) (a' := ?_) #[true, true, true, true, true, true, true, false, false, false, false, false, false, false, false, false, false, false, false, false, false, false, false, false, false, false, false, false, false, false, false, false, false, false, false, false, false, false, false, false, false, false] rfl rfl (by kernel_rfl) (fun _ _ _ h => h) (Or.inl ⟨by rfl, ?_⟩) ?_ ?_
    rotate_left
    · intro w'
      go_simp
      with_reducible rfl
    rotate_left
    · simp only [Act.put, List.setIfInBounds_toArray, List.set_cons_zero, List.set_cons_succ, i64_w, i32_w]
      rfl
    refine pure_ (i := 7) (N := (some 86)) (v := ?_) (a' := ?_) #[true, true, true, true, true, true, true, true, false, false, false, false, false, false, false, false, false, false, false, false, false, false, false, false, false, false, false, false, false, false, false, false, false, false, false, false, false, false, false, false, false, false] rfl rfl (by kernel_rfl) (fun _ _ _ h => h) (Or.inl ⟨by rfl, ?_⟩) ?_ ?_
    rotate_left
    · intro w'
      go_simp
      with_reducible rfl
    rotate_left
    · simp only [Act.put, List.setIfInBounds_toArray, List.set_cons_zero, List.set_cons_succ, i64_w, i32_w]
      rfl
    refine take_ (i := 8) (N := (some 87)) (v := ?_) (a' := ?_) #[true, true, true, true, true, true, true, true, true, false, false, false, false, false, false, false, false, false, false, false, false, false, false, false, false, false, false, false, false, false, false, false, false, false, false, false, false, false, false, false, false, false] rfl rfl (by kernel_rfl) (fun _ _ _ h => h) (Or.inl ⟨by rfl, ?_⟩) hHeld ?_ ?_
    rotate_left
    · rintro w' ⟨s0, s1, s2, s3, s4, s5, s6, s7, s8, s9, s10⟩
      go_simp
      with_reducible rfl
    rotate_left
    · simp only [Act.put, List.setIfInBounds_toArray, List.set_cons_zero, List.set_cons_succ, i64_w, i32_w]
      rfl
    refine pure_ (i := 9) (N := (some 88)) (v := ?_) (a' := ?_) #[true, true, true, true, true, true, true, true, true, true, false, false, false, false, false, false, false, false, false, false, false, false, false, false, false, false, false, false, false, false, false, false, false, false, false, false, false, false, false, false, false, false] rfl rfl (by kernel_rfl) (fun _ _ _ h => h) (Or.inl ⟨by rfl, ?_⟩) ?_ ?_
    rotate_left
    · intro w'
      go_simp
      with_reducible rfl
    rotate_left
    · simp only [Act.put, List.setIfInBounds_toArray, List.set_cons_zero, List.set_cons_succ, i64_w, i32_w]
      rfl
    refine pure_ (i := 10) (N := (some 89)) (v := ?_) (a' := ?_) #[true, true, true, true, true, true, true, true, true, true, true, false, false, false, false, false, false, false, false, false, false, false, false, false, false, false, false, false, false, false, false, false, false, false, false, false, false, false, false, false, false, false] rfl rfl (by kernel_rfl) (fun _ _ _ h => h) (Or.inl ⟨by rfl, ?_⟩) ?_ ?_
    rotate_left
    · intro w'
      go_simp
      with_reducible rfl
    rotate_left
    · simp only [Act.put, List.setIfInBounds_toArray, List.set_cons_zero, List.set_cons_succ, i64_w, i32_w]
      rfl
    refine take_ (i := 11) (N := (some 90)) (v := ?_) (a' := ?_) #[true, true, true, true, true, true, true, true, true, true, true, true, false, false, false, false, false, false, false, false, false, false, false, false, false, false, false, false, false, false, false, false, false, false, false, false, false, false, false, false, false, false] rfl rfl (by kernel_rfl) (fun _ _ _ h => h) (Or.inl ⟨by rfl, ?_⟩) hHeld ?_ ?_
    rotate_left
    · rintro w' ⟨s0, s1, s2, s3, s4, s5, s6, s7, s8, s9, s10⟩
      go_simp
      with_reducible rfl
    rotate_left
    · simp only [Act.put, List.setIfInBounds_toArray, List.set_cons_zero, List.set_cons_succ, i64_w, i32_w]
      rfl
    refine pure_ (i := 12) (N := (some 91)) (v := ?_) (a' := ?_) #[true, true, true, true, true, true, true, true, true, true, true, true, true, false, false, false, false, false, false, false, false, false, false, false, false, false, false, false, false, false, false, false, false, false, false, false, false, false, false, false, false, false] rfl rfl (by kernel_rfl) (fun _ _ _ h => h) (Or.inl ⟨by rfl, ?_⟩) ?_ ?_
    rotate_left
    · intro w'
      go_simp
      with_reducible rfl
    rotate_left
    · simp only [Act.put, List.setIfInBounds_toArray, List.set_cons_zero, List.set_cons_succ, i64_w, i32_w]
      rfl
    refine pure_ (i := 13) (N := (some 92)) (v := ?_) (a' := ?_) #[true, true, true, true, true, true, true, true, true, true, true, true, true, true, false, false, false, false, false, false, false, false, false, false, false, false, false, false, false, false, false, false, false, false, false, false, false, false, false, false, false, false] rfl rfl (by kernel_rfl) (fun _ _ _ h => h) (Or.inl ⟨by rfl, ?_⟩) ?_ ?_
    rotate_left
    · intro w'
      go_simp
      with_reducible rfl
    rotate_left
    · simp only [Act.put, List.setIfInBounds_toArray, List.set_cons_zero, List.set_cons_succ, i64_w, i32_w]
      rfl
    refine pure_ (i := 14) (N := (some 93)) (v := ?_) (a' := ?_) #[true, true, true, true, true, true, true, true, true, true, true, true, true, true, true, false, false, false, false, false, false, false, false, false, false, false, false, false, false, false, false, false, false, false, false, false, false, false, false, false, false, false] rfl rfl (by kernel_rfl) (fun _ _ _ h => h) (Or.inl ⟨by rfl, ?_⟩) ?_ ?_
    rotate_left
    · intro w'
      go_simp
      with_reducible rfl
    rotate_left
    · simp only [Act.put, List.setIfInBounds_toArray, List.set_cons_zero, List.set_cons_succ, i64_w, i32_w]
      rfl
    refine pure_ (i := 15) (N := (some 94)) (v := ?_) (a' := ?_) #[true, true, true, true, true, true, true, true, true, true, true, true, true, true, true, true, false, false, false, false, false, false, false, false, false, false, false, false, false, false, false, false, false, false, false, false, false, false, false, false, false, false] rfl rfl (by kernel_rfl) (fun _ _ _ h => h) (Or.inl ⟨by rfl, ?_⟩) ?_ ?_
    rotate_left
    · intro w'
      go_simp
      with_reducible rfl
    rotate_left
    · simp only [Act.put, List.setIfInBounds_toArray, List.set_cons_zero, List.set_cons_succ, i64_w, i32_w]
      rfl
    refine take_ (i := 16) (N := (some 95)) (v := ?_) (a' := ?_) #[true, true, true, true, true, true, true, true, true, true, true, true, true, true, true, true, true, false, false, false, false, false, false, false, false, false, false, false, false, false, false, false, false, false, false, false, false, false, false, false, false, false] rfl rfl (by kernel_rfl) (fun _ _ _ h => h) (Or.inl ⟨by rfl, ?_⟩) hHeld ?_ ?_
    rotate_left
    · rintro w' ⟨s0, s1, s2, s3, s4, s5, s6, s7, s8, s9, s10⟩
      go_simp
      with_reducible rfl
    rotate_left
    · simp only [Act.put, List.setIfInBounds_toArray, List.set_cons_zero, List.set_cons_succ, i64_w, i32_w]
      rfl
    refine pure_ (i := 17) (N := (some 96)) (v := ?_) (a' := ?_) #[true, true, true, true, true, true, true, true, true, true, true, true, true, true, true, true, true, true, false, false, false, false, false, false, false, false, false, false, false, false, false, false, false, false, false, false, false, false, false, false, false, false] rfl rfl (by kernel_rfl) (fun _ _ _ h => h) (Or.inl ⟨by rfl, ?_⟩) ?_ ?_
    rotate_left
    · intro w'
      go_simp
      with_reducible rfl
    rotate_left
    · simp only [Act.put, List.setIfInBounds_toArray, List.set_cons_zero, List.set_cons_succ, i64_w, i32_w]
      rfl
    refine pure_ (i := 18) (N := (some 97)) (v := ?_) (a' := ?_) #[true, true, true, true, true, true, true, true, true, true, true, true, true, true, true, true, true, true, true, false, false, false, false, false, false, false, false, false, false, false, false, false, false, false, false, false, false, false, false, false, false, false] rfl rfl (by kernel_rfl) (fun _ _ _ h => h) (Or.inl ⟨by rfl, ?_⟩) ?_ ?_
    rotate_left
    · intro w'
      go_simp
      with_reducible rfl
    rotate_left
    · simp only [Act.put, List.setIfInBounds_toArray, List.set_cons_zero, List.set_cons_succ, i64_w, i32_w]
      rfl
    refine take_ (i := 19) (N := (some 98)) (v := ?_) (a' := ?_) #[true, true, true, true, true, true, true, true, true, true, true, true, true, true, true, true, true, true, true, true, false, false, false, false, false, false, false, false, false, false, false, false, false, false, false, false, false, false, false, false, false, false] rfl rfl (by kernel_rfl) (fun _ _ _ h => h) (Or.inl ⟨by rfl, ?_⟩) hHeld ?_ ?_
    rotate_left
    · rintro w' ⟨s0, s1, s2, s3, s4, s5, s6, s7, s8, s9, s10⟩
      go_simp
      with_reducible rfl
    rotate_left
    · simp only [Act.put, List.setIfInBounds_toArray, List.set_cons_zero, List.set_cons_succ, i64_w, i32_w]
      rfl
    refine pure_ (i := 20) (N := (some 99)) (v := ?_) (a' := ?_) #[true, true, true, true, true, true, true, true, true, true, true, true, true, true, true, true, true, true, true, true, true, false, false, false, false, false, false, false, false, false, false, false, false, false, false, false, false, false, false, false, false, false] rfl rfl (by kernel_rfl) (fun _ _ _ h => h) (Or.inl ⟨by rfl, ?_⟩) ?_ ?_
    rotate_left
    · intro w'
      go_simp
      with_reducible rfl
    rotate_left
    · simp only [Act.put, List.setIfInBounds_toArray, List.set_cons_zero, List.set_cons_succ, i64_w, i32_w]
      rfl
    refine pure_ (i := 21) (N := (some 100)) (v := ?_) (a' := ?_) #[true, true, true, true, true, true, true, true, true, true, true, true, true, true, true, true, true, true, true, true, true, true, false, false, false, false, false, false, false, false, false, false, false, false, false, false, false, false, false, false, false, false] rfl rfl (by kernel_rfl) (fun _ _ _ h => h) (Or.inl ⟨by rfl, ?_⟩) ?_ ?_
    rotate_left
    · intro w'
      go_simp
      with_reducible rfl
    rotate_left
    · simp only [Act.put, List.setIfInBounds_toArray, List.set_cons_zero, List.set_cons_succ, i64_w, i32_w]
      rfl
    refine pure_ (i := 22) (N := (some 101)) (v := ?_) (a' := ?_) #[true, true, true, true, true, true, true, true, true, true, true, true, true, true, true, true, true, true, true, true, true, true, true, false, false, false, false, false, false, false, false, false, false, false, false, false, false, false, false, false, false, false] rfl rfl (by kernel_rfl) (fun _ _ _ h => h) (Or.inl ⟨by rfl, ?_⟩) ?_ ?_
    rotate_left
    · intro w'
      go_simp
      with_reducible rfl
    rotate_left
    · simp only [Act.put, List.setIfInBounds_toArray, List.set_cons_zero, List.set_cons_succ, i64_w, i32_w]
      rfl
    refine take_ (i := 23) (N := (some 102)) (v := ?_) (a' := ?_) #[true, true, true, true, true, true, true, true, true, true, true, true, true, true, true, true, true, true, true, true, true, true, true, true, false, false, false, false, false, false, false, false, false, false, false, false, false, false, false, false, false, false] rfl rfl (by kernel_rfl) (fun _ _ _ h => h) (Or.inl ⟨by rfl, ?_⟩) hHeld ?_ ?_
    rotate_left
    · rintro w' ⟨s0, s1, s2, s3, s4, s5, s6, s7, s8, s9, s10⟩
      go_simp
      with_reducible rfl
    rotate_left
    · simp only [Act.put, List.setIfInBounds_toArray, List.set_cons_zero, List.set_cons_succ, i64_w, i32_w]
      rfl
    refine one_ (i := 24) (N := (some 103)) #[true, true, true, true, true, true, true, true, true, true, true, true, true, true, true, true, true, true, true, true, true, true, true, true, true, false, false, false, false, false, false, false, false, false, false, false, false, false, false, false, false, false] rfl rfl (by kernel_rfl) (by decide) (fun K hK => ?_)
    refine goes_ Try.func41 (by kernel_rfl) rfl #[.int .i64 0, .int .i64 0] (by rfl) rfl rfl (by (try simp only [List.map_toArray, List.map_cons, List.map_nil]); rfl) ?_
    refine (r2_Read.calls 0 0 1 0 0 [] U0 (aw_read 0 0)).mono ?_
    rintro e X1 ⟨v, rfl, o_, hb_⟩
    obtain ⟨Ea, fa, e_⟩ := Kd.R_slice o_
    subst e_
    clear o_
    have c1 := b0.trans (hb_.mono b0.size)
    refine ⟨_, rfl, ?_⟩
    refine hK.out _ _ (sS _ c1) (fun hHeld => ?_)
    clear hK K
    refine norm_ (a' := ?_) ?_ ?_
    rotate_left
    · show Act.put _ (some 103) _ = _
      simp only [Act.put, List.setIfInBounds_toArray, List.set_cons_zero, List.set_cons_succ, i64_w, i32_w]
      rfl
    refine one_ (i := 25) (N := (some 104)) #[true, true, true, true, true, true, true, true, true, true, true, true, true, true, true, true, true, true, true, true, true, true, true, true, true, true, false, false, false, false, false, false, false, false, false, false, false, false, false, false, false, false] rfl rfl (by kernel_rfl) (by decide) (fun K hK => ?_)
    refine goes_ Try.func41 (by kernel_rfl) rfl #[.int .i64 3, .int .i64 0] (by rfl) rfl rfl (by (try simp only [List.map_toArray, List.map_cons, List.map_nil]); rfl) ?_
    refine (r2_Read.calls 3 0 1 3 0 [] X1 (aw_read 3 0)).mono ?_
    rintro e X2 ⟨v, rfl, o_, hb_⟩
    obtain ⟨Eb, fb, e_⟩ := Kd.R_slice o_
    subst e_
    clear o_
    have c2 := c1.trans (hb_.mono c1.size)
    refine ⟨_, rfl, ?_⟩
    refine hK.out _ _ (sS _ c2) (fun hHeld => ?_)
    clear hK K
    refine norm_ (a' := ?_) ?_ ?_
    rotate_left
    · show Act.put _ (some 104) _ = _
      simp only [Act.put, List.setIfInBounds_toArray, List.set_cons_zero, List.set_cons_succ, i64_w, i32_w]
      rfl
    refine one_ (i := 26) (N := (some 105)) #[true, true, true, true, true, true, true, true, true, true, true, true, true, true, true, true, true, true, true, true, true, true, true, true, true, true, true, false, false, false, false, false, false, false, false, false, false, false, false, false, false, false] rfl rfl (by kernel_rfl) (by decide) (fun K hK => ?_)
    refine value_ (w1 := ?_) (v := ?_) (by rfl) rfl ?_ ?_
    rotate_left 2
    · go_simp
      constructor
      · rfl
      · rfl
    have vf := aw_row2 X2 0 0 3 0 Ea fa Eb fb
    have hb_ := bal (Below.refl X2.heap.size X2) (.cells #[.int .i64 1, .int .i64 0, .int .i64 0, .slice Ea 0 fa, .int .i64 1, .int .i64 3, .int .i64 0, .slice Eb 0 fb] 28)
    (try simp only [List.length_nil])
    generalize X2.alloc (.cells #[.int .i64 1, .int .i64 0, .int .i64 0, .slice Ea 0 fa, .int .i64 1, .int .i64 3, .int .i64 0, .slice Eb 0 fb] 28) = X3 at vf hb_ ⊢
    have c3 := c2.trans (hb_.mono c2.size)
    refine hK.out _ _ (sS _ c3) (fun hHeld => ?_)
    clear hK K
    refine norm_ (a' := ?_) ?_ ?_
    rotate_left
    · show Act.put _ (some 105) _ = _
      simp only [Act.put, List.setIfInBounds_toArray, List.set_cons_zero, List.set_cons_succ, i64_w, i32_w]
      rfl
    refine one_ (i := 27) (N := (some 106)) #[true, true, true, true, true, true, true, true, true, true, true, true, true, true, true, true, true, true, true, true, true, true, true, true, true, true, true, true, false, false, false, false, false, false, false, false, false, false, false, false, false, false] rfl rfl (by kernel_rfl) (by decide) (fun K hK => ?_)
    refine goes_ Try.func42 (by kernel_rfl) rfl #[.int .i64 13, .slice (some ⟨X2.heap.size, 0, none⟩) 2 2] (by rfl) rfl rfl (by (try simp only [List.map_toArray, List.map_cons, List.map_nil]); rfl) ?_
    refine (r2_Of.calls 13 (fun _ => True) (some ⟨X2.heap.size, 0, none⟩) 2 [aw_r 0 0, aw_r 3 0] 13 0 0 [aw_r 0 0, aw_r 3 0] X3 vf aw_of2).mono ?_
    rintro e X4 ⟨v, rfl, vo, hb_⟩
    obtain ⟨Ec, fc, e_⟩ := Kd.V_slice vo
    subst e_
    have c4 := c3.trans (hb_.mono c3.size)
    refine ⟨_, rfl, ?_⟩
    refine hK.out _ _ (sS _ c4) (fun hHeld => ?_)
    clear hK K
    refine norm_ (a' := ?_) ?_ ?_
    rotate_left
    · show Act.put _ (some 106) _ = _
      simp only [Act.put, List.setIfInBounds_toArray, List.set_cons_zero, List.set_cons_succ, i64_w, i32_w]
      rfl
    refine one_ (i := 28) (N := (some 107)) #[true, true, true, true, true, true, true, true, true, true, true, true, true, true, true, true, true, true, true, true, true, true, true, true, true, true, true, true, true, false, false, false, false, false, false, false, false, false, false, false, false, false] rfl rfl (by kernel_rfl) (by decide) (fun K hK => ?_)
    refine goes_ Try.func14 (by kernel_rfl) rfl #[.agg #[.int .i64 13, .int .i64 0, .int .i64 0, .slice D 2 d], .agg #[.int .i64 13, .int .i64 0, .int .i64 0, .slice Ec 2 fc]] (by rfl) rfl rfl (by (try simp only [List.map_toArray, List.map_cons, List.map_nil]); rfl) ?_
    refine (r2_Same.calls 60 13 0 0 D d [aw_r 0 0, aw_r 3 0] 13 0 0 Ec fc [aw_r 0 0, aw_r 3 0] true X4 (Kd.C_below XCf.out c4) Xd.out (Kd.V_reads' vo).2.2 (Kd.V_reads' vo).2.1 aw_sameE).mono ?_
    rintro e X5 ⟨rfl, hb_⟩
    have c5 := c4.trans (hb_.mono c4.size)
    refine ⟨_, rfl, ?_⟩
    refine hK.out _ _ (sS _ c5) (fun hHeld => ?_)
    clear hK K
    refine norm_ (a' := ?_) ?_ ?_
    rotate_left
    · show Act.put _ (some 107) _ = _
      simp only [Act.put, List.setIfInBounds_toArray, List.set_cons_zero, List.set_cons_succ, i64_w, i32_w]
      rfl
    refine pure_ (i := 29) (N := (some 108)) (v := ?_) (a' := ?_) #[true, true, true, true, true, true, true, true, true, true, true, true, true, true, true, true, true, true, true, true, true, true, true, true, true, true, true, true, true, true, false, false, false, false, false, false, false, false, false, false, false, false] rfl rfl (by kernel_rfl) (fun _ _ _ h => h) (Or.inl ⟨by rfl, ?_⟩) ?_ ?_
    rotate_left
    · intro w'
      go_simp
      with_reducible rfl
    rotate_left
    · simp only [Act.put, List.setIfInBounds_toArray, List.set_cons_zero, List.set_cons_succ, i64_w, i32_w]
      rfl
    refine pure_ (i := 30) (N := (some 109)) (v := ?_) (a' := ?_) #[true, true, true, true, true, true, true, true, true, true, true, true, true, true, true, true, true, true, true, true, true, true, true, true, true, true, true, true, true, true, true, false, false, false, false, false, false, false, false, false, false, false] rfl rfl (by kernel_rfl) (fun _ _ _ h => h) (Or.inl ⟨by rfl, ?_⟩) ?_ ?_
    rotate_left
    · intro w'
      go_simp
      with_reducible rfl
    rotate_left
    · simp only [Act.put, List.setIfInBounds_toArray, List.set_cons_zero, List.set_cons_succ, i64_w, i32_w]
      rfl
    refine pure_ (i := 31) (N := (some 110)) (v := ?_) (a' := ?_) #[true, true, true, true, true, true, true, true, true, true, true, true, true, true, true, true, true, true, true, true, true, true, true, true, true, true, true, true, true, true, true, true, false, false, false, false, false, false, false, false, false, false] rfl rfl (by kernel_rfl) (fun _ _ _ h => h) (Or.inl ⟨by rfl, ?_⟩) ?_ ?_
    rotate_left
    · intro w'
      go_simp
      with_reducible rfl
    rotate_left
    · simp only [Act.put, List.setIfInBounds_toArray, List.set_cons_zero, List.set_cons_succ, i64_w, i32_w]
      rfl
    refine one_ (i := 32) (N := (some 111)) #[true, true, true, true, true, true, true, true, true, true, true, true, true, true, true, true, true, true, true, true, true, true, true, true, true, true, true, true, true, true, true, true, true, false, false, false, false, false, false, false, false, false] rfl rfl (by kernel_rfl) (by decide) (fun K hK => ?_)
    refine value_ (w1 := ?_) (v := ?_) (by rfl) rfl ?_ ?_
    rotate_left 2
    · go_simp
      constructor
      · rfl
      · rfl
    have ci := aw_int4 (blk_new X5 (.cells #[.int .i64 1, .int .i64 2, .int .i64 3, .int .i64 0] 3))
    have hb_ := bal (Below.refl X5.heap.size X5) (.cells #[.int .i64 1, .int .i64 2, .int .i64 3, .int .i64 0] 3)
    generalize X5.alloc (.cells #[.int .i64 1, .int .i64 2, .int .i64 3, .int .i64 0] 3) = X6 at ci hb_ ⊢
    have c6 := c5.trans (hb_.mono c5.size)
    refine hK.out _ _ (sS _ c6) (fun hHeld => ?_)
    clear hK K
    refine norm_ (a' := ?_) ?_ ?_
    rotate_left
    · show Act.put _ (some 111) _ = _
      simp only [Act.put, List.setIfInBounds_toArray, List.set_cons_zero, List.set_cons_succ, i64_w, i32_w]
      rfl
    refine one_ (i := 33) (N := (some 112)) #[true, true, true, true, true, true, true, true, true, true, true, true, true, true, true, true, true, true, true, true, true, true, true, true, true, true, true, true, true, true, true, true, true, true, false, false, false, false, false, false, false, false] rfl rfl (by kernel_rfl) (by decide) (fun K hK => ?_)
    refine goes_ Try.func35 (by kernel_rfl) rfl #[.slice As 4 cs_, .slice (some ⟨X5.heap.size, 0, none⟩) 4 4] (by rfl) rfl rfl (by (try simp only [List.map_toArray, List.map_cons, List.map_nil]); rfl) ?_
    refine (r1_Same.calls 60 As cs_ [1, 2, 3, 0] (some ⟨X5.heap.size, 0, none⟩) 4 [1, 2, 3, 0] true X6 (Kd.R_reads' (Kd.R_below OSf.out c6)).2.2 (Kd.R_reads' OSf.out).2.1 ci (by decide) aw_sameI).mono ?_
    rintro e X7 ⟨rfl, hd_⟩
    have hb_ : Below X6.heap.size X6 X7 := by
      obtain ⟨nd, rfl⟩ := hd_
      exact bdN (Below.refl _ _) nd
    clear hd_
    have c7 := c6.trans (hb_.mono c6.size)
    refine ⟨_, rfl, ?_⟩
    refine hK.out _ _ (sS _ c7) (fun hHeld => ?_)
    clear hK K
    refine norm_ (a' := ?_) ?_ ?_
    rotate_left
    · show Act.put _ (some 112) _ = _
      simp only [Act.put, List.setIfInBounds_toArray, List.set_cons_zero, List.set_cons_succ, i64_w, i32_w]
      rfl
    refine pure_ (i := 34) (N := (some 113)) (v := ?_) (a' := ?_) #[true, true, true, true, true, true, true, true, true, true, true, true, true, true, true, true, true, true, true, true, true, true, true, true, true, true, true, true, true, true, true, true, true, true, true, false, false, false, false, false, false, false] rfl rfl (by kernel_rfl) (fun _ _ _ h => h) (Or.inl ⟨by rfl, ?_⟩) ?_ ?_
    rotate_left
    · intro w'
      go_simp
      with_reducible rfl
    rotate_left
    · simp only [Act.put, List.setIfInBounds_toArray, List.set_cons_zero, List.set_cons_succ, i64_w, i32_w]
      rfl
    refine pure_ (i := 35) (N := (some 114)) (v := ?_) (a' := ?_) #[true, true, true, true, true, true, true, true, true, true, true, true, true, true, true, true, true, true, true, true, true, true, true, true, true, true, true, true, true, true, true, true, true, true, true, true, false, false, false, false, false, false] rfl rfl (by kernel_rfl) (fun _ _ _ h => h) (Or.inl ⟨by rfl, ?_⟩) ?_ ?_
    rotate_left
    · intro w'
      go_simp
      with_reducible rfl
    rotate_left
    · simp only [Act.put, List.setIfInBounds_toArray, List.set_cons_zero, List.set_cons_succ, i64_w, i32_w]
      rfl
    refine pure_ (i := 36) (N := (some 115)) (v := ?_) (a' := ?_) #[true, true, true, true, true, true, true, true, true, true, true, true, true, true, true, true, true, true, true, true, true, true, true, true, true, true, true, true, true, true, true, true, true, true, true, true, true, false, false, false, false, false] rfl rfl (by kernel_rfl) (fun _ _ _ h => h) (Or.inl ⟨by rfl, ?_⟩) ?_ ?_
    rotate_left
    · intro w'
      go_simp
      with_reducible rfl
    rotate_left
    · simp only [Act.put, List.setIfInBounds_toArray, List.set_cons_zero, List.set_cons_succ, i64_w, i32_w]
      rfl
    refine pure_ (i := 37) (N := (some 116)) (v := ?_) (a' := ?_) #[true, true, true, true, true, true, true, true, true, true, true, true, true, true, true, true, true, true, true, true, true, true, true, true, true, true, true, true, true, true, true, true, true, true, true, true, true, true, false, false, false, false] rfl rfl (by kernel_rfl) (fun _ _ _ h => h) (Or.inl ⟨by rfl, ?_⟩) ?_ ?_
    rotate_left
    · intro w'
      go_simp
      with_reducible rfl
    rotate_left
    · simp only [Act.put, List.setIfInBounds_toArray, List.set_cons_zero, List.set_cons_succ, i64_w, i32_w]
      rfl
    refine one_ (i := 38) (N := (some 117)) #[true, true, true, true, true, true, true, true, true, true, true, true, true, true, true, true, true, true, true, true, true, true, true, true, true, true, true, true, true, true, true, true, true, true, true, true, true, true, true, false, false, false] rfl rfl (by kernel_rfl) (by decide) (fun K hK => ?_)
    refine value_ (w1 := ?_) (v := ?_) (by rfl) rfl ?_ ?_
    rotate_left 2
    · go_simp
      constructor
      · rfl
      · rfl
    have co := aw_out1 (blk_new X7 (.cells #[.int .i64 1, .int .i64 3] 74))
    have hb_ := bal (Below.refl X7.heap.size X7) (.cells #[.int .i64 1, .int .i64 3] 74)
    generalize X7.alloc (.cells #[.int .i64 1, .int .i64 3] 74) = X8 at co hb_ ⊢
    have c8 := c7.trans (hb_.mono c7.size)
    refine hK.out _ _ (sS _ c8) (fun hHeld => ?_)
    clear hK K
    refine norm_ (a' := ?_) ?_ ?_
    rotate_left
    · show Act.put _ (some 117) _ = _
      simp only [Act.put, List.setIfInBounds_toArray, List.set_cons_zero, List.set_cons_succ, i64_w, i32_w]
      rfl
    refine one_ (i := 39) (N := (some 118)) #[true, true, true, true, true, true, true, true, true, true, true, true, true, true, true, true, true, true, true, true, true, true, true, true, true, true, true, true, true, true, true, true, true, true, true, true, true, true, true, true, false, false] rfl rfl (by kernel_rfl) (by decide) (fun K hK => ?_)
    refine goes_ Try.func15 (by kernel_rfl) rfl #[.slice At 1 ct, .slice (some ⟨X7.heap.size, 0, none⟩) 1 1] (by rfl) rfl rfl (by (try simp only [List.map_toArray, List.map_cons, List.map_nil]); rfl) ?_
    refine (r5_Outs.calls 60 At ct [⟨1, 3⟩] (some ⟨X7.heap.size, 0, none⟩) 1 [⟨1, 3⟩] true X8 (Kd.R_reads' (Kd.R_below OTf.out c8)).2.2 (Kd.R_reads' OTf.out).2.1 co (by decide) aw_outs).mono ?_
    rintro e X9 ⟨rfl, hd_⟩
    have hb_ : Below X8.heap.size X8 X9 := by
      obtain ⟨nd, rfl⟩ := hd_
      exact bdN (Below.refl _ _) nd
    clear hd_
    have c9_ := c8.trans (hb_.mono c8.size)
    refine ⟨_, rfl, ?_⟩
    refine hK.out _ _ (sS _ c9_) (fun hHeld => ?_)
    clear hK K
    refine norm_ (a' := ?_) ?_ ?_
    rotate_left
    · show Act.put _ (some 118) _ = _
      simp only [Act.put, List.setIfInBounds_toArray, List.set_cons_zero, List.set_cons_succ, i64_w, i32_w]
      rfl
    refine pure_ (i := 40) (N := (some 119)) (v := ?_) (a' := ?_) #[true, true, true, true, true, true, true, true, true, true, true, true, true, true, true, true, true, true, true, true, true, true, true, true, true, true, true, true, true, true, true, true, true, true, true, true, true, true, true, true, true, false] rfl rfl (by kernel_rfl) (fun _ _ _ h => h) (Or.inl ⟨by rfl, ?_⟩) ?_ ?_
    rotate_left
    · intro w'
      go_simp
      with_reducible rfl
    rotate_left
    · simp only [Act.put, List.setIfInBounds_toArray, List.set_cons_zero, List.set_cons_succ, i64_w, i32_w]
      rfl
    refine pure_ (i := 41) (N := (some 0)) (v := ?_) (a' := ?_) #[true, true, true, true, true, true, true, true, true, true, true, true, true, true, true, true, true, true, true, true, true, true, true, true, true, true, true, true, true, true, true, true, true, true, true, true, true, true, true, true, true, true] rfl rfl (by kernel_rfl) (fun _ _ _ h => h) (Or.inl ⟨by rfl, ?_⟩) ?_ ?_
    rotate_left
    · intro w'
      go_simp
      with_reducible rfl
    rotate_left
    · simp only [Act.put, List.setIfInBounds_toArray, List.set_cons_zero, List.set_cons_succ, i64_w, i32_w]
      rfl
    refine done_ (by kernel_rfl) ?_
    try simp only [Exit.then]
    go_wp2
    go_ret
    exact ⟨rfl, BWf.out.trans (c9_.mono BWf.out.size)⟩
end Go.Proofs.Ytilebfkehmecaaa.Print
