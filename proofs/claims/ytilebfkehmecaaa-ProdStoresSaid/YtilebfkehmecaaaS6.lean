/- For every program, number, list of stores and store the law ProdStores returns true, and what came in reads as before. No condition. -/
import Derived.Test.YtilebfkehmecaaaS5
import Derived.Deep.DeepCutAuto
namespace Go.Proofs.Ytilebfkehmecaaa.Print
open Go.RowKit Go.Proofs.YtilebfkehmecaaaW.PrintWords Go.Proofs.YtilebfkehmecaaaW.PrintLast Go.Proofs.YtilebfkehmecaaaW.PrintMore
attribute [local go_sem] max2_int min2_int max_two min_two max_three min_three max_four min_four
set_option linter.unusedVariables false
set_option linter.unusedSimpArgs false
open Go.Shelf Go.RowKit
attribute [local go_sem] Oper.semAt_some
def prod_Self.f (k : Nat) (a0_0 : Int) (l0_1 : List S66) (l0_2 : List S64) (a1 : Int) : Option (Int × List S66 × List S64 × Int) :=
  (prog_Check.f k a0_0 l0_1 l0_2).bind fun t => if t = 0 then (if a1 < 1 then some (0, [], [], 1) else if a1 > 3 then some (0, [], [], 1) else
    (prod_single.f k a0_0 l0_1 l0_2).bind fun s => if s = 0 then ((prod_Of.f k (List.replicate a1.toNat (⟨a0_0, l0_1, l0_2⟩ : S25))).bind fun o => prod_made.f k o.1 o.2.1 o.2.2)
      else some (0, [], [], 1)) else some (0, [], [], 30)
theorem row3_put {W : World} {B t : Nat} {x0 x1 x2 : Value} (hz : W.heap[B]? = some (.cells #[x0, x1, x2] t (0, 0))) (a b c : Value) :
    (((W.setCell ⟨B, 0, none⟩ a).setCell ⟨B, 1, none⟩ b).setCell ⟨B, 2, none⟩ c).heap[B]? = some (.cells #[a, b, c] t (0, 0)) ∧
    (∀ k, k ≠ B → (((W.setCell ⟨B, 0, none⟩ a).setCell ⟨B, 1, none⟩ b).setCell ⟨B, 2, none⟩ c).heap[k]? = W.heap[k]?) ∧
    (∀ n, n ≤ B → Below n W (((W.setCell ⟨B, 0, none⟩ a).setCell ⟨B, 1, none⟩ b).setCell ⟨B, 2, none⟩ c)) := by
  have h0 := blk_put hz 0 a (cs' := #[a, x1, x2]) rfl
  have h1 := blk_put h0 1 b (cs' := #[a, b, x2]) rfl
  refine ⟨blk_put h1 2 c (cs' := #[a, b, c]) rfl, fun k hk => ?_, fun n hn => ?_⟩
  · rw [Below.heap_setCell _ _ _ _ hk, Below.heap_setCell _ _ _ _ hk, Below.heap_setCell _ _ _ _ hk]
  · exact ((below_cell _ _ hn).trans (below_cell _ _ hn)).trans (below_cell _ _ hn)
theorem rep_each {n : Nat} {a0_0 : Int} {A0_1 : Option Addr} {c0_1 : Nat} {l0_1 : List S66} {A0_2 : Option Addr} {c0_2 : Nat} {l0_2 : List S64} (W : World)
    (h1 : Kd.C k66 W A0_1 l0_1.length l0_1) (c1 : l0_1.length ≤ c0_1) (h2 : Kd.C k64 W A0_2 l0_2.length l0_2) (c2 : l0_2.length ≤ c0_2) :
    ∀ (j : Nat) (x : S25) (c : List Value), (List.replicate n (⟨a0_0, l0_1, l0_2⟩ : S25))[j]? = some x → (List.replicate n [Value.int .i64 a0_0, .slice A0_1 l0_1.length c0_1, .slice A0_2 l0_2.length c0_2])[j]? = some c → k25.K W x c := by
  intro j x c hx hc
  rw [List.getElem?_replicate] at hx hc
  by_cases hj : j < n
  · rw [if_pos hj] at hx hc
    obtain rfl := Option.some.inj hx
    obtain rfl := Option.some.inj hc
    exact k25_mk W _ c1 h1 c2 h2
  · rw [if_neg hj] at hx; cases hx
set_option maxHeartbeats 16000000 in
set_option maxRecDepth 100000 in
theorem prod_Self.calls (k : Nat) (a0_0 : Int) (A0_1 : Option Addr) (c0_1 : Nat) (l0_1 : List S66) (A0_2 : Option Addr) (c0_2 : Nat) (l0_2 : List S64) (a1 : Int) (r1 : Int) (r2 : List S66) (r3 : List S64) (r4 : Int) (w : World)
    (hr1 : Kd.C k66 w A0_1 l0_1.length l0_1) (hc1 : l0_1.length ≤ c0_1) (hr2 : Kd.C k64 w A0_2 l0_2.length l0_2) (hc2 : l0_2.length ≤ c0_2) (h : prod_Self.f k a0_0 l0_1 l0_2 a1 = some (r1, r2, r3, r4)) :
    Calls Try.prog 26 #[.agg #[.int .i64 a0_0, .slice A0_1 l0_1.length c0_1, .slice A0_2 l0_2.length c0_2], .int .i64 a1] w fun en w' => ∃ v1_ v2_ : Value, en = .returned (.tuple #[.agg #[.int .i64 r1, v1_, v2_], .int .i64 r4]) ∧
      Kd.R k66 66 w' w.heap.size (fun _ => True) v1_ r2 ∧ Kd.V k64 64 w' w.heap.size (fun k_ => w.heap.size ≤ k_ ∧ some k_ ≠ (v1_ : Value).ownBlock) v2_ r3 ∧ Below w.heap.size w w' := by
  have huP := Try.underlying25
  have HR1 := Aside0.mk hr1
  have HC1 := Aside0.mk hc1
  have HR2 := Aside0.mk hr2
  have HC2 := Aside0.mk hc2
  clear hr1 hc1 hr2 hc2
  unfold prod_Self.f at h
  obtain ⟨tc, ac, h⟩ := Option.bind_eq_some_iff.mp h
  have AC := Aside0.mk ac
  clear ac
  obtain ⟨W0, hW0⟩ : ∃ X, ((w.alloc (.cells #[.int .i64 a0_0, .slice A0_1 l0_1.length c0_1, .slice A0_2 l0_2.length c0_2] 25)).alloc (.cells #[.int .i64 0, .slice none 0 0, .slice none 0 0] 25)) = X := ⟨_, rfl⟩
  have b0 : Below w.heap.size w W0 := by rw [← hW0]; exact bal (bal (Below.refl _ _) _) _
  have p0 : W0.heap[w.heap.size]? = some (.cells #[.int .i64 a0_0, .slice A0_1 l0_1.length c0_1, .slice A0_2 l0_2.length c0_2] 25 (0, 0)) := by rw [← hW0]; exact kal (blk_new _ _) _
  have z0 : W0.heap[w.heap.size + 1]? = some (.cells #[.int .i64 0, .slice none 0 0, .slice none 0 0] 25 (0, 0)) := by
    rw [← hW0]
    have := blk_new (w.alloc (.cells #[.int .i64 a0_0, .slice A0_1 l0_1.length c0_1, .slice A0_2 l0_2.length c0_2] 25)) (.cells #[.int .i64 0, .slice none 0 0, .slice none 0 0] 25)
    simpa using this
  have x0 : W0.cell? ⟨w.heap.size, 0, none⟩ = some (.int .i64 a0_0) := (blk_cell p0 0).trans rfl
  have x1 : W0.cell? ⟨w.heap.size, 1, none⟩ = some (.slice A0_1 l0_1.length c0_1) := (blk_cell p0 1).trans rfl
  have x2 : W0.cell? ⟨w.heap.size, 2, none⟩ = some (.slice A0_2 l0_2.length c0_2) := (blk_cell p0 2).trans rfl
  by_cases htc : tc = 0
  case neg =>
    rw [if_neg htc] at h
    have H := Aside0.mk h
    have g2 : (tc != 0) = true := bne_iff_ne.mpr htc
    clear h
    go_enter Try.func26, Try.ntmps26
    go_wp2_with (first | (go_at_call 43; refine (prog_Check.calls k a0_0 _ _ l0_1 _ _ l0_2 _ W0 (Kd.C_below HR1.out b0) HC1.out (Kd.C_below HR2.out b0) HC2.out AC.out).mono ?_; rintro e W1 ⟨rfl, hb1⟩; have b1 := b0.trans (hb1.mono b0.size); have p1 := blk_below p0 hb1; have z1 := blk_below z0 hb1; have y0 : W1.cell? ⟨w.heap.size, 0, none⟩ = some (.int .i64 a0_0) := (blk_cell p1 0).trans rfl; have y1 : W1.cell? ⟨w.heap.size, 1, none⟩ = some (.slice A0_1 l0_1.length c0_1) := (blk_cell p1 1).trans rfl; have y2 : W1.cell? ⟨w.heap.size, 2, none⟩ = some (.slice A0_2 l0_2.length c0_2) := (blk_cell p1 2).trans rfl; have z_0 : W1.cell? ⟨w.heap.size + 1, 0, none⟩ = some (.int .i64 0) := (blk_cell z1 0).trans rfl; have z_1 : W1.cell? ⟨w.heap.size + 1, 1, none⟩ = some (.slice none 0 0) := (blk_cell z1 1).trans rfl; have z_2 : W1.cell? ⟨w.heap.size + 1, 2, none⟩ = some (.slice none 0 0) := (blk_cell z1 2).trans rfl; have f_0 := blk_frozen z1 0; have f_1 := blk_frozen z1 1; have f_2 := blk_frozen z1 2))
    obtain ⟨zc, zk, zb⟩ := row3_put z1 (.int .i64 0) (.slice none 0 0) (.slice none 0 0)
    refine bodyPost_ret (results_ct rfl _ _ (w.heap.size + 1) 25 #[.int .i64 0, .slice none 0 0, .slice none 0 0] (0, 0) _ rfl zc huP rfl (by kernel_rfl)) rfl ?_
    obtain ⟨rfl, rfl, rfl, rfl⟩ : r1 = 0 ∧ r2 = [] ∧ r3 = [] ∧ r4 = 30 := by
      injection (Option.some.inj H.out) with g1 g2; injection g2 with g2 g3; injection g3 with g3 g4
      exact ⟨g1.symm, g2.symm, g3.symm, g4.symm⟩
    exact ⟨_, _, rfl, Kd.R_nil _ _ _ _ _, Kd.V_nil _ _ _ _ _, b1.trans (zb _ (by omega))⟩
  subst htc
  rw [if_pos rfl] at h
  by_cases h1 : a1 < 1
  case pos =>
    rw [if_pos h1] at h
    have H := Aside0.mk h
    have g2 : decide (a1 < 1) = true := decide_eq_true h1
    clear h h1
    go_enter Try.func26, Try.ntmps26
    go_wp2_with (first | (go_at_call 43; refine (prog_Check.calls k a0_0 _ _ l0_1 _ _ l0_2 _ W0 (Kd.C_below HR1.out b0) HC1.out (Kd.C_below HR2.out b0) HC2.out AC.out).mono ?_; rintro e W1 ⟨rfl, hb1⟩; have b1 := b0.trans (hb1.mono b0.size); have p1 := blk_below p0 hb1; have z1 := blk_below z0 hb1; have y0 : W1.cell? ⟨w.heap.size, 0, none⟩ = some (.int .i64 a0_0) := (blk_cell p1 0).trans rfl; have y1 : W1.cell? ⟨w.heap.size, 1, none⟩ = some (.slice A0_1 l0_1.length c0_1) := (blk_cell p1 1).trans rfl; have y2 : W1.cell? ⟨w.heap.size, 2, none⟩ = some (.slice A0_2 l0_2.length c0_2) := (blk_cell p1 2).trans rfl; have z_0 : W1.cell? ⟨w.heap.size + 1, 0, none⟩ = some (.int .i64 0) := (blk_cell z1 0).trans rfl; have z_1 : W1.cell? ⟨w.heap.size + 1, 1, none⟩ = some (.slice none 0 0) := (blk_cell z1 1).trans rfl; have z_2 : W1.cell? ⟨w.heap.size + 1, 2, none⟩ = some (.slice none 0 0) := (blk_cell z1 2).trans rfl; have f_0 := blk_frozen z1 0; have f_1 := blk_frozen z1 1; have f_2 := blk_frozen z1 2))
    obtain ⟨zc, zk, zb⟩ := row3_put z1 (.int .i64 0) (.slice none 0 0) (.slice none 0 0)
    refine bodyPost_ret (results_ct rfl _ _ (w.heap.size + 1) 25 #[.int .i64 0, .slice none 0 0, .slice none 0 0] (0, 0) _ rfl zc huP rfl (by kernel_rfl)) rfl ?_
    obtain ⟨rfl, rfl, rfl, rfl⟩ : r1 = 0 ∧ r2 = [] ∧ r3 = [] ∧ r4 = 1 := by
      injection (Option.some.inj H.out) with g1 g2; injection g2 with g2 g3; injection g3 with g3 g4
      exact ⟨g1.symm, g2.symm, g3.symm, g4.symm⟩
    exact ⟨_, _, rfl, Kd.R_nil _ _ _ _ _, Kd.V_nil _ _ _ _ _, b1.trans (zb _ (by omega))⟩
  rw [if_neg h1] at h
  have g1 : decide (a1 < 1) = false := decide_eq_false h1
  by_cases h3 : a1 > 3
  case pos =>
    rw [if_pos h3] at h
    have H := Aside0.mk h
    have g2 : decide (3 < a1) = true := decide_eq_true h3
    have g3 : decide (a1 > 3) = true := decide_eq_true h3
    clear h h1 h3
    go_enter Try.func26, Try.ntmps26
    go_wp2_with (first | (go_at_call 43; refine (prog_Check.calls k a0_0 _ _ l0_1 _ _ l0_2 _ W0 (Kd.C_below HR1.out b0) HC1.out (Kd.C_below HR2.out b0) HC2.out AC.out).mono ?_; rintro e W1 ⟨rfl, hb1⟩; have b1 := b0.trans (hb1.mono b0.size); have p1 := blk_below p0 hb1; have z1 := blk_below z0 hb1; have y0 : W1.cell? ⟨w.heap.size, 0, none⟩ = some (.int .i64 a0_0) := (blk_cell p1 0).trans rfl; have y1 : W1.cell? ⟨w.heap.size, 1, none⟩ = some (.slice A0_1 l0_1.length c0_1) := (blk_cell p1 1).trans rfl; have y2 : W1.cell? ⟨w.heap.size, 2, none⟩ = some (.slice A0_2 l0_2.length c0_2) := (blk_cell p1 2).trans rfl; have z_0 : W1.cell? ⟨w.heap.size + 1, 0, none⟩ = some (.int .i64 0) := (blk_cell z1 0).trans rfl; have z_1 : W1.cell? ⟨w.heap.size + 1, 1, none⟩ = some (.slice none 0 0) := (blk_cell z1 1).trans rfl; have z_2 : W1.cell? ⟨w.heap.size + 1, 2, none⟩ = some (.slice none 0 0) := (blk_cell z1 2).trans rfl; have f_0 := blk_frozen z1 0; have f_1 := blk_frozen z1 1; have f_2 := blk_frozen z1 2))
    obtain ⟨zc, zk, zb⟩ := row3_put z1 (.int .i64 0) (.slice none 0 0) (.slice none 0 0)
    refine bodyPost_ret (results_ct rfl _ _ (w.heap.size + 1) 25 #[.int .i64 0, .slice none 0 0, .slice none 0 0] (0, 0) _ rfl zc huP rfl (by kernel_rfl)) rfl ?_
    obtain ⟨rfl, rfl, rfl, rfl⟩ : r1 = 0 ∧ r2 = [] ∧ r3 = [] ∧ r4 = 1 := by
      injection (Option.some.inj H.out) with g1 g2; injection g2 with g2 g3; injection g3 with g3 g4
      exact ⟨g1.symm, g2.symm, g3.symm, g4.symm⟩
    exact ⟨_, _, rfl, Kd.R_nil _ _ _ _ _, Kd.V_nil _ _ _ _ _, b1.trans (zb _ (by omega))⟩
  rw [if_neg h3] at h
  have g3 : decide (3 < a1) = false := decide_eq_false h3
  have g4 : decide (a1 > 3) = false := decide_eq_false h3
  obtain ⟨sc, as_, h⟩ := Option.bind_eq_some_iff.mp h
  have AS := Aside0.mk as_
  obtain ⟨n, hn, hna⟩ : ∃ n : Nat, (n = 1 ∨ n = 2 ∨ n = 3) ∧ a1 = (n : Int) := ⟨a1.toNat, by omega, by omega⟩
  clear as_ h1 h3
  by_cases hsc : sc = 0
  case neg =>
    rw [if_neg hsc] at h
    have H := Aside0.mk h
    have g5 : (sc != 0) = true := bne_iff_ne.mpr hsc
    clear h hsc
    go_enter Try.func26, Try.ntmps26
    go_wp2_with (first | (go_at_call 43; refine (prog_Check.calls k a0_0 _ _ l0_1 _ _ l0_2 _ W0 (Kd.C_below HR1.out b0) HC1.out (Kd.C_below HR2.out b0) HC2.out AC.out).mono ?_; rintro e W1 ⟨rfl, hb1⟩; have b1 := b0.trans (hb1.mono b0.size); have p1 := blk_below p0 hb1; have z1 := blk_below z0 hb1; have y0 : W1.cell? ⟨w.heap.size, 0, none⟩ = some (.int .i64 a0_0) := (blk_cell p1 0).trans rfl; have y1 : W1.cell? ⟨w.heap.size, 1, none⟩ = some (.slice A0_1 l0_1.length c0_1) := (blk_cell p1 1).trans rfl; have y2 : W1.cell? ⟨w.heap.size, 2, none⟩ = some (.slice A0_2 l0_2.length c0_2) := (blk_cell p1 2).trans rfl; have z_0 : W1.cell? ⟨w.heap.size + 1, 0, none⟩ = some (.int .i64 0) := (blk_cell z1 0).trans rfl; have z_1 : W1.cell? ⟨w.heap.size + 1, 1, none⟩ = some (.slice none 0 0) := (blk_cell z1 1).trans rfl; have z_2 : W1.cell? ⟨w.heap.size + 1, 2, none⟩ = some (.slice none 0 0) := (blk_cell z1 2).trans rfl; have f_0 := blk_frozen z1 0; have f_1 := blk_frozen z1 1; have f_2 := blk_frozen z1 2) | (go_at_call 44; refine (prod_single.calls k a0_0 _ _ l0_1 _ _ l0_2 _ W1 (Kd.C_below HR1.out b1) HC1.out (Kd.C_below HR2.out b1) HC2.out AS.out).mono ?_; rintro e W2 ⟨rfl, hb2⟩; have b2 := b1.trans (hb2.mono b1.size); have p2 := blk_below p1 hb2; have z2 := blk_below z1 hb2; have y0 : W2.cell? ⟨w.heap.size, 0, none⟩ = some (.int .i64 a0_0) := (blk_cell p2 0).trans rfl; have y1 : W2.cell? ⟨w.heap.size, 1, none⟩ = some (.slice A0_1 l0_1.length c0_1) := (blk_cell p2 1).trans rfl; have y2 : W2.cell? ⟨w.heap.size, 2, none⟩ = some (.slice A0_2 l0_2.length c0_2) := (blk_cell p2 2).trans rfl; have z_0 : W2.cell? ⟨w.heap.size + 1, 0, none⟩ = some (.int .i64 0) := (blk_cell z2 0).trans rfl; have z_1 : W2.cell? ⟨w.heap.size + 1, 1, none⟩ = some (.slice none 0 0) := (blk_cell z2 1).trans rfl; have z_2 : W2.cell? ⟨w.heap.size + 1, 2, none⟩ = some (.slice none 0 0) := (blk_cell z2 2).trans rfl; have f_0 := blk_frozen z2 0; have f_1 := blk_frozen z2 1; have f_2 := blk_frozen z2 2))
    obtain ⟨zc, zk, zb⟩ := row3_put z2 (.int .i64 0) (.slice none 0 0) (.slice none 0 0)
    refine bodyPost_ret (results_ct rfl _ _ (w.heap.size + 1) 25 #[.int .i64 0, .slice none 0 0, .slice none 0 0] (0, 0) _ rfl zc huP rfl (by kernel_rfl)) rfl ?_
    obtain ⟨rfl, rfl, rfl, rfl⟩ : r1 = 0 ∧ r2 = [] ∧ r3 = [] ∧ r4 = 1 := by
      injection (Option.some.inj H.out) with g1 g2; injection g2 with g2 g3; injection g3 with g3 g4
      exact ⟨g1.symm, g2.symm, g3.symm, g4.symm⟩
    exact ⟨_, _, rfl, Kd.R_nil _ _ _ _ _, Kd.V_nil _ _ _ _ _, b2.trans (zb _ (by omega))⟩
  subst hsc
  rw [if_pos rfl] at h
  obtain ⟨⟨o1, o2, o3⟩, ao, hmm⟩ := Option.bind_eq_some_iff.mp h
  rw [hna, Int.toNat_natCast] at ao
  subst hna
  have AO := Aside0.mk ao
  have HM := Aside0.mk hmm
  have hn3 : n ≤ 3 := by omega
  have hn := Aside0.mk hn
  clear ao h hmm
  go_enter Try.func26, Try.ntmps26
  go_wp2_with (first | (go_at_call 43; refine (prog_Check.calls k a0_0 _ _ l0_1 _ _ l0_2 _ W0 (Kd.C_below HR1.out b0) HC1.out (Kd.C_below HR2.out b0) HC2.out AC.out).mono ?_; rintro e W1 ⟨rfl, hb1⟩; have b1 := b0.trans (hb1.mono b0.size); have p1 := blk_below p0 hb1; have z1 := blk_below z0 hb1; have y0 : W1.cell? ⟨w.heap.size, 0, none⟩ = some (.int .i64 a0_0) := (blk_cell p1 0).trans rfl; have y1 : W1.cell? ⟨w.heap.size, 1, none⟩ = some (.slice A0_1 l0_1.length c0_1) := (blk_cell p1 1).trans rfl; have y2 : W1.cell? ⟨w.heap.size, 2, none⟩ = some (.slice A0_2 l0_2.length c0_2) := (blk_cell p1 2).trans rfl; have z_0 : W1.cell? ⟨w.heap.size + 1, 0, none⟩ = some (.int .i64 0) := (blk_cell z1 0).trans rfl; have z_1 : W1.cell? ⟨w.heap.size + 1, 1, none⟩ = some (.slice none 0 0) := (blk_cell z1 1).trans rfl; have z_2 : W1.cell? ⟨w.heap.size + 1, 2, none⟩ = some (.slice none 0 0) := (blk_cell z1 2).trans rfl; have f_0 := blk_frozen z1 0; have f_1 := blk_frozen z1 1; have f_2 := blk_frozen z1 2) | (go_at_call 44; refine (prod_single.calls k a0_0 _ _ l0_1 _ _ l0_2 _ W1 (Kd.C_below HR1.out b1) HC1.out (Kd.C_below HR2.out b1) HC2.out AS.out).mono ?_; rintro e W2 ⟨rfl, hb2⟩; have b2 := b1.trans (hb2.mono b1.size); have p2 := blk_below p1 hb2; have z2 := blk_below z1 hb2; have y0 : W2.cell? ⟨w.heap.size, 0, none⟩ = some (.int .i64 a0_0) := (blk_cell p2 0).trans rfl; have y1 : W2.cell? ⟨w.heap.size, 1, none⟩ = some (.slice A0_1 l0_1.length c0_1) := (blk_cell p2 1).trans rfl; have y2 : W2.cell? ⟨w.heap.size, 2, none⟩ = some (.slice A0_2 l0_2.length c0_2) := (blk_cell p2 2).trans rfl; have z_0 : W2.cell? ⟨w.heap.size + 1, 0, none⟩ = some (.int .i64 0) := (blk_cell z2 0).trans rfl; have z_1 : W2.cell? ⟨w.heap.size + 1, 1, none⟩ = some (.slice none 0 0) := (blk_cell z2 1).trans rfl; have z_2 : W2.cell? ⟨w.heap.size + 1, 2, none⟩ = some (.slice none 0 0) := (blk_cell z2 2).trans rfl; have f_0 := blk_frozen z2 0; have f_1 := blk_frozen z2 1; have f_2 := blk_frozen z2 2) | (go_at_call 66; refine (slices_Repeat.calls n hn.out a0_0 A0_1 l0_1.length c0_1 A0_2 l0_2.length c0_2 W2.heap.size _ (blk_new _ _)).mono ?_; rintro e W3 ⟨B3, rfl, h3, hb3⟩; have q2 := bal (Below.refl W2.heap.size W2) (.cells #[.int .i64 a0_0, .slice A0_1 l0_1.length c0_1, .slice A0_2 l0_2.length c0_2] 25); have hb23 := q2.trans (hb3.mono q2.size); have b3 := b2.trans (hb23.mono b2.size); have z3 := blk_below z2 hb23; have c3 := C_of_row (d := k25) (l := List.replicate n (⟨a0_0, l0_1, l0_2⟩ : S25)) (css := List.replicate n [.int .i64 a0_0, .slice A0_1 l0_1.length c0_1, .slice A0_2 l0_2.length c0_2]) h3 (by simp) (by simp; omega) (rep_each W3 (Kd.C_below HR1.out b3) HC1.out (Kd.C_below HR2.out b3) HC2.out)) | (go_at_call 65; refine calls_of_args (args' := #[.slice (some ⟨B3, 0, none⟩) (List.replicate n (⟨a0_0, l0_1, l0_2⟩ : S25)).length n]) (by rw [List.length_replicate]) ?_; refine (prod_Of.calls k (some ⟨B3, 0, none⟩) n (List.replicate n (⟨a0_0, l0_1, l0_2⟩ : S25)) o1 o2 o3 W3 c3 (by simp) AO.out).mono ?_; rintro e W4 ⟨v1, v2, rfl, r4_, n4_, hb4⟩; have b4 := b3.trans (hb4.mono b3.size); have z4 := blk_below z3 hb4; have V4 := Kd.N_V (base' := W3.heap.size) n4_; obtain ⟨D1, d1, e1⟩ := Kd.R_slice r4_; subst e1; obtain ⟨D2, d2, e2⟩ := Kd.V_slice V4; subst e2) | (go_at_call 63; refine (prod_made.calls k o1 (fun k_ => W3.heap.size ≤ k_) _ o2 (fun k_ => W3.heap.size ≤ k_) _ _ o3 r1 r2 r3 r4 W3 W4 hb4 r4_ V4 HM.out).mono ?_; rintro e W5 ⟨v1, v2, rfl, r5_, v5_, hb5, hk5⟩; obtain ⟨D3, d3, e3⟩ := Kd.R_slice r5_; subst e3; obtain ⟨D4, d4, e4⟩ := Kd.V_slice v5_; subst e4; have b5 := b3.trans (hb5.mono b3.size); have z5 := blk_below z3 hb5; have z_0 : W5.cell? ⟨w.heap.size + 1, 0, none⟩ = some (.int .i64 0) := (blk_cell z5 0).trans rfl; have z_1 : W5.cell? ⟨w.heap.size + 1, 1, none⟩ = some (.slice none 0 0) := (blk_cell z5 1).trans rfl; have z_2 : W5.cell? ⟨w.heap.size + 1, 2, none⟩ = some (.slice none 0 0) := (blk_cell z5 2).trans rfl; have f_0 := blk_frozen z5 0; have f_1 := blk_frozen z5 1; have f_2 := blk_frozen z5 2))
  have s3 := b3.size
  have lz := blk_lt z3
  obtain ⟨zc, zk, zb⟩ := row3_put z5 (.int .i64 r1) (.slice D3 r2.length d3) (.slice D4 r3.length d4)
  refine bodyPost_ret (results_ct rfl _ _ (w.heap.size + 1) 25 #[.int .i64 r1, .slice D3 r2.length d3, .slice D4 r3.length d4] (0, 0) _ rfl zc huP rfl (by kernel_rfl)) rfl ?_
  refine ⟨_, _, rfl, Kd.R_lower (Kd.R_mono (Kd.R_step (Kd.R_bound r5_) (fun q hq _ => zk q (by have := hq.2.1; omega))) (fun _ _ => trivial)) s3, ?_, b5.trans (zb _ (by omega))⟩
  refine Kd.V_mono (ok := fun k_ => (W3.heap.size ≤ k_ ∧ some k_ ≠ (Value.slice D3 r2.length d3).ownBlock)) (Kd.V_step (Kd.V_mono v5_ (fun q hq => ⟨?_, hq.2⟩)) (fun q hq _ => zk q (by have := hq.1; omega))) (fun q hq => ⟨by have := hq.1; omega, hq.2⟩)
  have s4 := hb4.size
  rcases hq.1 with (h9 | h9) | h9 <;> omega
end Go.Proofs.Ytilebfkehmecaaa.Print
namespace Go.Proofs.Ytilebfkehmecaaa.Print
open Go.RowKit Go.Proofs.YtilebfkehmecaaaW.PrintWords Go.Proofs.YtilebfkehmecaaaW.PrintLast Go.Proofs.YtilebfkehmecaaaW.PrintMore
attribute [local go_sem] max2_int min2_int max_two min_two max_three min_three max_four min_four
set_option linter.unusedVariables false
set_option linter.unusedSimpArgs false
def prod_Copy.j0 : Nat → Int → Bool → Int → List (S66) → List (S64) → Option (Int × (List (S66)) × (List (S64)) × Int)
 | 0, _, _, _, _, _ => none
 | k + 1, x1, x20, x184000, x184001, x184002 => if x20 = true then (some (0, ([] : List (S66)), ([] : List (S64)), 1)) else ((prod_variables.f k x184001 x1).bind fun t187 => ((prod_Moved.f k x184002 x1 0).bind fun t190 => ((prod_made.f k x184000 t187 t190).bind fun bt193 => (some (bt193.1, bt193.2.1, bt193.2.2.1, bt193.2.2.2)))))
def prod_Copy.f (k : Nat) (a0_0 : Int) (l0_1 : List (S66)) (l0_2 : List (S64)) (a1 : Int) : Option (Int × (List (S66)) × (List (S64)) × Int) := (prog_Check.f k a0_0 l0_1 l0_2).bind fun t185 => (if t185 = 0 then (if a1 < 0 then (prod_Copy.j0 k a1 true a0_0 l0_1 l0_2) else (if a1 ≥ 3 then (prod_Copy.j0 k a1 true a0_0 l0_1 l0_2) else ((prod_single.f k a0_0 l0_1 l0_2).bind fun t186 => (prod_Copy.j0 k a1 (t186 != 0) a0_0 l0_1 l0_2)))) else (some (0, ([] : List (S66)), ([] : List (S64)), 30)))
def prod_Copy.T5 : Bool × List (List Nat × List Nat) := (true, [([], []), ([0], [0]), ([], []), ([2], [2]), ([], []), ([3, 4], [3, 4]), ([], []), ([6], [6]), ([], []), ([7, 8, 5], [7, 8]), ([1, 5, 9], [1, 5, 9]), ([10, 9], [10]), ([11], [11]), ([11], [11]), ([12, 11, 0, 1, 2, 3, 4, 5, 6, 7, 8, 9, 10, 11, 12, 13], [12]), ([13, 14, 0, 1, 2, 3, 4, 5, 6, 7, 8, 9, 10, 11, 12, 13, 14], [13])])
def prod_Copy.B5 : List Nat := [0, 1, 0, 4, 0, 28, 0, 64, 0, 508, 1023, 2047, 4095, 4095, 16383, 32767]
theorem prod_Copy.tab5 : rtab .any (opsOf Try.f25 5) = prod_Copy.T5 := by kernel_rfl
theorem prod_Copy.bits5 : waitsOk prod_Copy.T5.2 prod_Copy.B5 = true := by kernel_rfl
set_option maxHeartbeats 8000000 in
set_option maxRecDepth 100000 in
theorem prod_Copy.calls (k : Nat) (a0_0 : Int) (A0_1 : Option Addr) (c0_1 : Nat) (l0_1 : List (S66)) (A0_2 : Option Addr) (c0_2 : Nat) (l0_2 : List (S64)) (a1 : Int) (r1 : Int) (r2 : List (S66)) (r3 : List (S64)) (r4 : Int) (w : World) (hr0_1 : Kd.C k66 w A0_1 l0_1.length l0_1) (hc0_1 : l0_1.length ≤ c0_1) (hr0_2 : Kd.C k64 w A0_2 l0_2.length l0_2) (hc0_2 : l0_2.length ≤ c0_2) (h : prod_Copy.f k a0_0 l0_1 l0_2 a1 = some (r1, r2, r3, r4)) :
  Calls Try.prog 25 #[.agg #[.int .i64 a0_0, .slice A0_1 l0_1.length c0_1, .slice A0_2 l0_2.length c0_2], .int .i64 a1] w fun e w' => ∃ v1_ v2_ : Value, e = .returned (.tuple #[.agg #[.int .i64 r1, v1_, v2_], .int .i64 r4]) ∧ Kd.R k66 66 w' w.heap.size (fun k_ => (w.heap.size ≤ k_)) v1_ r2 ∧ Kd.V k64 64 w' w.heap.size (fun k_ => (w.heap.size ≤ k_) ∧ some k_ ≠ (v1_ : Value).ownBlock) v2_ r3 ∧ Below w.heap.size w w' := by
 have hu25 := Try.underlying25
 have HR0_1 := Aside0.mk hr0_1
 have HC0_1 := Aside0.mk hc0_1
 clear hr0_1 hc0_1
 have HR0_2 := Aside0.mk hr0_2
 have HC0_2 := Aside0.mk hc0_2
 clear hr0_2 hc0_2
 have HB := Aside0.mk (Below.refl w.heap.size w)
 have H : ((prog_Check.f k a0_0 l0_1 l0_2).bind fun t185 => (if t185 = 0 then (if a1 < 0 then (prod_Copy.j0 k a1 true a0_0 l0_1 l0_2) else (if a1 ≥ 3 then (prod_Copy.j0 k a1 true a0_0 l0_1 l0_2) else ((prod_single.f k a0_0 l0_1 l0_2).bind fun t186 => (prod_Copy.j0 k a1 (t186 != 0) a0_0 l0_1 l0_2)))) else (some (0, ([] : List (S66)), ([] : List (S64)), 30)))) = some (r1, r2, r3, r4) := h
 clear h
 obtain ⟨t185, A3, H⟩ := be H
 replace H : (if t185 = 0 then (if a1 < 0 then (prod_Copy.j0 k a1 true a0_0 l0_1 l0_2) else (if a1 ≥ 3 then (prod_Copy.j0 k a1 true a0_0 l0_1 l0_2) else ((prod_single.f k a0_0 l0_1 l0_2).bind fun t186 => (prod_Copy.j0 k a1 (t186 != 0) a0_0 l0_1 l0_2)))) else (some (0, ([] : List (S66)), ([] : List (S64)), 30))) = some (r1, r2, r3, r4) := H
 by_cases c4 : t185 = 0
 rotate_left
 ·rw [if_neg c4] at H
  have c4b0 : (t185 == 0) = false := beq_eq_false_iff_ne.mpr c4
  have c4b1 : (t185 != 0) = true := bne_iff_ne.mpr c4
  simp only [Option.some.injEq, Prod.mk.injEq] at H
  obtain ⟨rfl, rfl, rfl, rfl⟩ := H
  go_enter Try.func25, Try.ntmps25
  go_wp2_with (first | ((with_reducible refine gate_dst (N := 2) rfl ?_); refine bx 2 rfl rfl #[.int .i64 a0_0, .slice A0_1 l0_1.length c0_1, .slice A0_2 l0_2.length c0_2] 25 ?_; intro gb183 hg w34 hbox hb; have BK183 := Aside0.mk (hbox); have GW183 := ge HB hg; have GE183 := ge HB hg; replace HB := sb HB hb; clear hb hbox hg) | ((with_reducible refine gate_dst (N := 4) rfl ?_); refine bx 4 rfl rfl #[.int .i64 0, .slice none 0 0, .slice none 0 0] 25 ?_; intro gb184 hg w35 hbox hb; have BK184 := Aside0.mk (hbox); have GW184 := ge HB hg; have GE184 := ge HB hg; have NB183_184 := nl BK183 hg; have NB184_183 := ng BK183 hg; replace BK183 := kb BK183 hb; replace HB := sb HB hb; clear hb hbox hg; have hnb36 := NB183_184.out; have hnc36 := NB184_183.out; obtain ⟨hcz37_0, hcz37_1, hcz37_2, hfz37_0, hfz37_1, hfz37_2⟩ := cf3 BK183.out) | ((with_reducible refine gate_callee (f := 43) rfl ?_); refine gL (some 7) rfl rfl Try.func43 #[.agg #[.int .i64 a0_0, .slice A0_1 l0_1.length c0_1, .slice A0_2 l0_2.length c0_2]] rfl ?_; (with_reducible refine (prog_Check.calls k a0_0 _ _ l0_1 _ _ l0_2 t185 _ ?side1 ?side2 ?side3 ?side4 A3.out).mono ?_); (case side1 => exact cb HR0_1 HB); (case side2 => exact HC0_1.out); (case side3 => exact cb HR0_2 HB); (case side4 => exact HC0_2.out); rintro e w38 ⟨rfl, hb⟩; refine ⟨_, rfl, ?_⟩; replace BK183 := kb BK183 hb; replace BK184 := kb BK184 hb; replace HB := sb HB hb; (try clear hb); (try clear hb2); (try clear hk); (try clear hi); obtain ⟨hcz39_0, hcz39_1, hcz39_2, hfz39_0, hfz39_1, hfz39_2⟩ := cf3 BK184.out))
  refine bodyPost_ret (results_ct rfl _ _ gb184 25 #[.int .i64 0, .slice none 0 0, .slice none 0 0] (0, 0) _ rfl (by (with_reducible repeat (first | refine kdN ?_ _ | refine kdr ?_ | refine kal ?_ _)); refine blk_put (cs := #[.int .i64 0, .slice none 0 0, .slice none 0 0]) ?_ 2 _ rfl; (with_reducible repeat (first | refine kdN ?_ _ | refine kdr ?_ | refine kal ?_ _)); refine blk_put (cs := #[.int .i64 0, .slice none 0 0, .slice none 0 0]) ?_ 1 _ rfl; (with_reducible repeat (first | refine kdN ?_ _ | refine kdr ?_ | refine kal ?_ _)); refine blk_put (cs := #[.int .i64 0, .slice none 0 0, .slice none 0 0]) ?_ 0 _ rfl; (with_reducible repeat (first | refine kdN ?_ _ | refine kdr ?_ | refine kal ?_ _)); exact BK184.out) Try.underlying25 rfl (by kernel_rfl)) rfl ?_
  exact ⟨_, _, rr, by first | exact Kd.R_nil _ _ _ _ _ | exact Kd.N_nil _ _ _ _ _ | exact Kd.V_nil _ _ _ _ _ | exact Kd.Q_nil _ _ _ _ _ | exact Kd.S_nil _ _ _ _ _, Kd.R_V (by first | exact Kd.R_nil _ _ _ _ _ | exact Kd.N_nil _ _ _ _ _ | exact Kd.V_nil _ _ _ _ _ | exact Kd.Q_nil _ _ _ _ _ | exact Kd.S_nil _ _ _ _ _ | exact Kd.N_nil _ _ _ 0 _ | exact Kd.R_nil _ _ _ 0 _), bb HB⟩
 rw [if_pos c4] at H
 have c4b0 : (t185 == 0) = true := beq_iff_eq.mpr c4
 have c4b1 : (t185 != 0) = false := bne_eq_false_iff_eq.mpr c4
 clear c4
 have HC5 := Aside0.mk H
 clear H
 go_enter Try.func25, Try.ntmps25
 go_upto_region 3 with (first | ((with_reducible refine gate_dst (N := 2) rfl ?_); refine bx 2 rfl rfl #[.int .i64 a0_0, .slice A0_1 l0_1.length c0_1, .slice A0_2 l0_2.length c0_2] 25 ?_; intro gb183 hg w6 hbox hb; have BK183 := Aside0.mk (hbox); have GW183 := ge HB hg; have GE183 := ge HB hg; replace HB := sb HB hb; clear hb hbox hg) | ((with_reducible refine gate_dst (N := 4) rfl ?_); refine bx 4 rfl rfl #[.int .i64 0, .slice none 0 0, .slice none 0 0] 25 ?_; intro gb184 hg w7 hbox hb; have BK184 := Aside0.mk (hbox); have GW184 := ge HB hg; have GE184 := ge HB hg; have NB183_184 := nl BK183 hg; have NB184_183 := ng BK183 hg; replace BK183 := kb BK183 hb; replace HB := sb HB hb; clear hb hbox hg; have hnb8 := NB183_184.out; have hnc8 := NB184_183.out; obtain ⟨hcz9_0, hcz9_1, hcz9_2, hfz9_0, hfz9_1, hfz9_2⟩ := cf3 BK183.out) | ((with_reducible refine gate_callee (f := 43) rfl ?_); refine gL (some 7) rfl rfl Try.func43 #[.agg #[.int .i64 a0_0, .slice A0_1 l0_1.length c0_1, .slice A0_2 l0_2.length c0_2]] rfl ?_; (with_reducible refine (prog_Check.calls k a0_0 _ _ l0_1 _ _ l0_2 t185 _ ?side1 ?side2 ?side3 ?side4 A3.out).mono ?_); (case side1 => exact cb HR0_1 HB); (case side2 => exact HC0_1.out); (case side3 => exact cb HR0_2 HB); (case side4 => exact HC0_2.out); rintro e w10 ⟨rfl, hb⟩; refine ⟨_, rfl, ?_⟩; replace BK183 := kb BK183 hb; replace BK184 := kb BK184 hb; replace HB := sb HB hb; (try clear hb); (try clear hb2); (try clear hk); (try clear hi)))
 (try simp only [Act.put, List.setIfInBounds_toArray, List.set_cons_zero, List.set_cons_succ])
 go_cut [20] (fun v20 wc => ∃ (kq : Nat) (x20_4 : Bool), v20 = .bool x20_4 ∧ Aside0 (prod_Copy.j0 kq a1 x20_4 a0_0 l0_1 l0_2 = some (r1, r2, r3, r4)) ∧ Aside0 (kq ≤ k) ∧ Aside0 (wc.heap[gb183]? = some (.cells #[.int .i64 a0_0, (.slice A0_1 l0_1.length c0_1), (.slice A0_2 l0_2.length c0_2)] 25 (0, 0))) ∧ Aside0 (wc.heap[gb184]? = some (.cells #[.int .i64 0, (.slice none 0 0), (.slice none 0 0)] 25 (0, 0))) ∧ Aside0 (Below w.heap.size w wc))
 case first =>
  have H := HC5.out
  clear HC5
  by_cases c11 : a1 < 0
  ·rw [if_pos c11] at H
   have c11b0 : decide (a1 < 0) = true := decide_eq_true c11
   clear c11
   (first | rw [c11b0] | (simp only [i64_w, i32_w]; rw [c11b0]) | skip)
   have H' := Aside0.mk H
   clear H
   go_wp2
   go_meet
   case rel => exact ⟨_, (true), rs, H', ⟨by first | omega | exact Nat.le_refl _⟩, ⟨by (with_reducible repeat (first | refine kdN ?_ _ | refine kdr ?_ | refine kal ?_ _)); exact BK183.out⟩, ⟨by (with_reducible repeat (first | refine kdN ?_ _ | refine kdr ?_ | refine kal ?_ _)); exact BK184.out⟩, ⟨bb HB⟩⟩
  rw [if_neg c11] at H
  have c11b0 : decide (a1 < 0) = false := decide_eq_false c11
  clear c11
  (first | rw [c11b0] | (simp only [i64_w, i32_w]; rw [c11b0]) | skip)
  by_cases c12 : a1 ≥ 3
  ·rw [if_pos c12] at H
   have c12b0 : decide (3 ≤ a1) = true := decide_eq_true c12
   clear c12
   have H' := Aside0.mk H
   clear H
   go_wp2
   go_meet
   case rel => exact ⟨_, (true), rs, H', ⟨by first | omega | exact Nat.le_refl _⟩, ⟨by (with_reducible repeat (first | refine kdN ?_ _ | refine kdr ?_ | refine kal ?_ _)); exact BK183.out⟩, ⟨by (with_reducible repeat (first | refine kdN ?_ _ | refine kdr ?_ | refine kal ?_ _)); exact BK184.out⟩, ⟨bb HB⟩⟩
  rw [if_neg c12] at H
  have c12b0 : decide (3 ≤ a1) = false := decide_eq_false c12
  clear c12
  obtain ⟨t186, A13, H⟩ := be H
  replace H : (prod_Copy.j0 k a1 (t186 != 0) a0_0 l0_1 l0_2) = some (r1, r2, r3, r4) := H
  have H' := Aside0.mk H
  clear H
  have hnb14 := NB183_184.out
  have hnc14 := NB184_183.out
  obtain ⟨hcz15_0, hcz15_1, hcz15_2, hfz15_0, hfz15_1, hfz15_2⟩ := cf3 BK183.out
  go_wp2_with (first | (go_at_call 44; (with_reducible refine (prod_single.calls k a0_0 _ _ l0_1 _ _ l0_2 t186 _ ?side1 ?side2 ?side3 ?side4 A13.out).mono ?_); (case side1 => exact cb HR0_1 HB); (case side2 => exact HC0_1.out); (case side3 => exact cb HR0_2 HB); (case side4 => exact HC0_2.out); rintro e w16 ⟨rfl, hb⟩; replace BK183 := kb BK183 hb; replace BK184 := kb BK184 hb; replace HB := sb HB hb; (try clear hb); (try clear hb2); (try clear hk); (try clear hi)))
  go_meet
  case rel => exact ⟨_, ((t186 != 0)), rs, H', ⟨by first | omega | exact Nat.le_refl _⟩, ⟨by (with_reducible repeat (first | refine kdN ?_ _ | refine kdr ?_ | refine kal ?_ _)); exact BK183.out⟩, ⟨by (with_reducible repeat (first | refine kdN ?_ _ | refine kdr ?_ | refine kal ?_ _)); exact BK184.out⟩, ⟨bb HB⟩⟩
 case rest =>
  clear HC5
  try clear c1
  try clear c2
  try clear p2
  try clear c4
  try clear c4b0
  try clear c4b1
  try clear c8
  try clear c11
  try clear c11b0
  try clear c12
  try clear c12b0
  try clear c14
  try clear hcz15_0 hcz15_1 hcz15_2
  try clear hcz9_0 hcz9_1 hcz9_2
  try clear hfz15_0 hfz15_1 hfz15_2
  try clear hfz9_0 hfz9_1 hfz9_2
  obtain ⟨kq, x20_4, rfl, HA, HJ4, BK183, BK184, HB⟩ := hcut
  cases kq with
  | zero => exact absurd HA.out (by simp [prod_Copy.j0])
  | succ kj4 =>
   have H := HA.out
   clear HA
   simp only [prod_Copy.j0] at H
   by_cases c17 : x20_4 = true
   ·subst c17
    have H1 : (some (0, ([] : List (S66)), ([] : List (S64)), 1)) = some (r1, r2, r3, r4) := by rw [if_pos rfl] at H; exact H
    clear H
    have H := H1
    clear H1
    simp only [Option.some.injEq, Prod.mk.injEq] at H
    obtain ⟨rfl, rfl, rfl, rfl⟩ := H
    have hnb18 := NB184_183.out
    have hnc18 := NB183_184.out
    obtain ⟨hcz19_0, hcz19_1, hcz19_2, hfz19_0, hfz19_1, hfz19_2⟩ := cf3 BK184.out
    go_wp2
    refine bodyPost_ret (results_ct rfl _ _ gb184 25 #[.int .i64 0, .slice none 0 0, .slice none 0 0] (0, 0) _ rfl (by (with_reducible repeat (first | refine kdN ?_ _ | refine kdr ?_ | refine kal ?_ _)); refine blk_put (cs := #[.int .i64 0, .slice none 0 0, .slice none 0 0]) ?_ 2 _ rfl; (with_reducible repeat (first | refine kdN ?_ _ | refine kdr ?_ | refine kal ?_ _)); refine blk_put (cs := #[.int .i64 0, .slice none 0 0, .slice none 0 0]) ?_ 1 _ rfl; (with_reducible repeat (first | refine kdN ?_ _ | refine kdr ?_ | refine kal ?_ _)); refine blk_put (cs := #[.int .i64 0, .slice none 0 0, .slice none 0 0]) ?_ 0 _ rfl; (with_reducible repeat (first | refine kdN ?_ _ | refine kdr ?_ | refine kal ?_ _)); exact BK184.out) Try.underlying25 rfl (by kernel_rfl)) rfl ?_
    exact ⟨_, _, rr, by first | exact Kd.R_nil _ _ _ _ _ | exact Kd.N_nil _ _ _ _ _ | exact Kd.V_nil _ _ _ _ _ | exact Kd.Q_nil _ _ _ _ _ | exact Kd.S_nil _ _ _ _ _, Kd.R_V (by first | exact Kd.R_nil _ _ _ _ _ | exact Kd.N_nil _ _ _ _ _ | exact Kd.V_nil _ _ _ _ _ | exact Kd.Q_nil _ _ _ _ _ | exact Kd.S_nil _ _ _ _ _ | exact Kd.N_nil _ _ _ 0 _ | exact Kd.R_nil _ _ _ 0 _), bb HB⟩
   replace c17 := Bool.eq_false_iff.mpr c17
   subst c17
   have H1 : ((prod_variables.f kj4 l0_1 a1).bind fun t187 => ((prod_Moved.f kj4 l0_2 a1 0).bind fun t190 => ((prod_made.f kj4 a0_0 t187 t190).bind fun bt193 => (some (bt193.1, bt193.2.1, bt193.2.2.1, bt193.2.2.2))))) = some (r1, r2, r3, r4) := by rw [if_neg (show ¬ (false = true) by decide)] at H; exact H
   clear H
   have H := H1
   clear H1
   obtain ⟨t187, A20, H⟩ := be H
   replace H : ((prod_Moved.f kj4 l0_2 a1 0).bind fun t190 => ((prod_made.f kj4 a0_0 t187 t190).bind fun bt193 => (some (bt193.1, bt193.2.1, bt193.2.2.1, bt193.2.2.2)))) = some (r1, r2, r3, r4) := H
   obtain ⟨t190, A21, H⟩ := be H
   replace H : ((prod_made.f kj4 a0_0 t187 t190).bind fun bt193 => (some (bt193.1, bt193.2.1, bt193.2.2.1, bt193.2.2.2))) = some (r1, r2, r3, r4) := H
   replace H := Option.bind_eq_some_iff.mp H
   obtain ⟨⟨t193, t194, t197, t200⟩, A220, H⟩ := H
   replace H : (some (t193, t194, t197, t200)) = some (r1, r2, r3, r4) := H
   have A22 := Aside0.mk A220
   clear A220
   simp only [Option.some.injEq, Prod.mk.injEq] at H
   obtain ⟨rfl, rfl, rfl, rfl⟩ := H
   try go_wp2
   replace BK183 := Aside0.mk (kdr BK183.out)
   replace BK184 := Aside0.mk (kdr BK184.out)
   replace HB := Aside0.mk (bd1 HB.out)
   refine start_ (n := 16) (S := fun w' => w'.cell? ⟨gb183, 0, none⟩ = some (.int .i64 a0_0) ∧ w'.cell? ⟨gb183, 1, none⟩ = some (.slice A0_1 l0_1.length c0_1) ∧ w'.cell? ⟨gb183, 2, none⟩ = some (.slice A0_2 l0_2.length c0_2)) (ds := []) #[false, false, false, false, false, false, false, false, false, false, false, false, false, false, false, false] (by kernel_rfl) rfl rfl ⟨(blk_cell BK183.out 0).trans rfl, (blk_cell BK183.out 1).trans rfl, (blk_cell BK183.out 2).trans rfl⟩ (fun hHeld => ?_); refine with_tabW prod_Copy.tab5 prod_Copy.bits5 (fun HT_ HW_ => ?_)
   generalize wc.drew = w23 at BK183 BK184 HB hHeld ⊢
   refine pu (i := 0) (N := some 22) #[true, false, false, false, false, false, false, false, false, false, false, false, false, false, false, false] rfl rfl (any_of HT_.out (by kernel_rfl)) ?_
   refine pu (i := 2) (N := some 24) #[true, false, true, false, false, false, false, false, false, false, false, false, false, false, false, false] rfl rfl (any_of HT_.out (by kernel_rfl)) ?_
   refine pu (i := 4) (N := some 26) #[true, false, true, false, true, false, false, false, false, false, false, false, false, false, false, false] rfl rfl (any_of HT_.out (by kernel_rfl)) ?_
   refine pu (i := 6) (N := some 28) #[true, false, true, false, true, false, true, false, false, false, false, false, false, false, false, false] rfl rfl (any_of HT_.out (by kernel_rfl)) ?_
   refine pu (i := 8) (N := some 30) #[true, false, true, false, true, false, true, false, true, false, false, false, false, false, false, false] rfl rfl (any_of HT_.out (by kernel_rfl)) ?_
   refine tk (i := 1) (N := some 23) #[true, true, true, false, true, false, true, false, true, false, false, false, false, false, false, false] rfl rfl (take_ofW HT_.out HW_.out (by kernel_rfl)) hHeld ?_
   refine tk (i := 3) (N := some 25) #[true, true, true, true, true, false, true, false, true, false, false, false, false, false, false, false] rfl rfl (take_ofW HT_.out HW_.out (by kernel_rfl)) hHeld ?_
   refine tk (i := 7) (N := some 29) #[true, true, true, true, true, false, true, true, true, false, false, false, false, false, false, false] rfl rfl (take_ofW HT_.out HW_.out (by kernel_rfl)) hHeld ?_
   refine one_ (i := 5) (N := some 27) #[true, true, true, true, true, true, true, true, true, false, false, false, false, false, false, false] rfl rfl (one_of HT_.out (by kernel_rfl)) (by decide) (fun K hK => ?_)
   refine gO Try.func45 #[.slice A0_1 l0_1.length c0_1, .int .i64 a1] (by rfl) rfl rfl ?_
   with_reducible refine (prod_variables.calls kj4 _ _ l0_1 a1 t187 _ ?side1 ?side2 A20.out).mono ?_
   (case side1 => exact cb HR0_1 HB)
   (case side2 => exact HC0_1.out)
   rintro e w24 ⟨v188, rfl, ho0, hb⟩
   refine ⟨_, rfl, ?_⟩
   have HO189 := Aside0.mk (Kd.R_lower (Kd.R_newM (M := fun k_ => (w.heap.size ≤ k_)) ho0 (bsz (bb HB)) (fun k_ h_ => h_)) (bsz (bb HB)))
   replace BK183 := kb BK183 hb
   replace BK184 := kb BK184 hb
   replace HB := sb HB hb
   (try clear hb)
   (try clear hb2)
   (try clear hk)
   (try clear hi)
   (try clear ho0)
   refine hK.out _ _ ⟨(blk_cell BK183.out 0).trans rfl, (blk_cell BK183.out 1).trans rfl, (blk_cell BK183.out 2).trans rfl⟩ (fun hHeld => ?_)
   clear hK K
   refine nm 27 ?_
   refine one_ (i := 9) (N := some 31) #[true, true, true, true, true, true, true, true, true, true, false, false, false, false, false, false] rfl rfl (one_of HT_.out (by kernel_rfl)) (by decide) (fun K hK => ?_)
   refine gO Try.func64 #[.slice A0_2 l0_2.length c0_2, .int .i64 a1, .int .i64 0] (by rfl) rfl rfl ?_
   with_reducible refine (prod_Moved.calls kj4 _ _ l0_2 a1 0 t190 _ ?side1 ?side2 A21.out).mono ?_
   (case side1 => exact cb HR0_2 HB)
   (case side2 => exact HC0_2.out)
   rintro e w25 ⟨v191, rfl, ho0, hb⟩
   refine ⟨_, rfl, ?_⟩
   have HO192 := Aside0.mk (Kd.R_lower (Kd.R_newM (M := fun k_ => (w.heap.size ≤ k_)) ho0 (bsz (bb HB)) (fun k_ h_ => h_)) (bsz (bb HB)))
   replace HO189 := Aside0.mk (Kd.R_below (by (with_reducible repeat (first | apply Kd.R_alloc | apply Kd.R_drewN | apply Kd.R_drew)); exact HO189.out) hb)
   replace BK183 := kb BK183 hb
   replace BK184 := kb BK184 hb
   replace HB := sb HB hb
   (try clear hb)
   (try clear hb2)
   (try clear hk)
   (try clear hi)
   (try clear ho0)
   obtain ⟨Ao26, co26, eo26⟩ := Kd.R_slice HO192.out
   (first | subst eo26 | (injection eo26 with f1_ f2_ f3_; have f4_ := f1_.symm; have f5_ := f3_.symm; clear f1_ f2_ f3_; subst f4_; subst f5_))
   obtain ⟨Ao27, co27, eo27⟩ := Kd.R_slice HO189.out
   (first | subst eo27 | (injection eo27 with f1_ f2_ f3_; have f4_ := f1_.symm; have f5_ := f3_.symm; clear f1_ f2_ f3_; subst f4_; subst f5_))
   refine hK.out _ _ ⟨(blk_cell BK183.out 0).trans rfl, (blk_cell BK183.out 1).trans rfl, (blk_cell BK183.out 2).trans rfl⟩ (fun hHeld => ?_)
   clear hK K
   refine nm 31 ?_
   refine pu (i := 10) (N := some 32) #[true, true, true, true, true, true, true, true, true, true, true, false, false, false, false, false] rfl rfl (any_of HT_.out (by kernel_rfl)) ?_
   refine one_ (i := 11) (N := some 33) #[true, true, true, true, true, true, true, true, true, true, true, true, false, false, false, false] rfl rfl (one_of HT_.out (by kernel_rfl)) (by decide) (fun K hK => ?_)
   refine gO Try.func63 #[.agg #[.int .i64 a0_0, .slice Ao27 t187.length co27, .slice Ao26 t190.length co26]] (by rfl) rfl rfl ?_
   with_reducible refine (prod_made.calls kj4 a0_0 (fun k_ => some k_ = (.slice Ao27 t187.length co27 : Value).ownBlock) (.slice Ao27 t187.length co27) t187 (fun k_ => (((((w.heap.size ≤ k_) ∧ True) ∧ some k_ ≠ (.slice Ao27 t187.length co27 : Value).ownBlock) ∧ k_ ≠ gb183) ∧ k_ ≠ gb184)) _ _ t190 t193 t194 t197 t200 w _ ?side1 ?side2 ?side3 A22.out).mono ?_
   (case side1 => repeat (first | (with_reducible first | exact HB.out | apply bal | apply bdN | apply bd1 | refine bst ?_ GE183.out | refine bst ?_ GE184.out) | exact HB.out))
   (case side2 => exact Kd.R_tight rfl HO189.out)
   (case side3 => exact Kd.V_mono (Kd.R_V (Kd.R_types (Kd.R_types (Kd.R_apart' (HO192.out) (Kd.R_typed HO189.out) (by decide)) BK183.out (by decide)) BK184.out (by decide))) (fun k_ hk_ => ⟨hk_, hk_.1.1.2⟩))
   rintro e w28 ⟨v195, v198, rfl, ho0, ho1, hb, hkp⟩
   refine ⟨_, rfl, ?_⟩
   have HO196 := Aside0.mk (Kd.R_mono (ok' := fun k_ => (w.heap.size ≤ k_)) ho0 (fun k_ hk_ => Or.elim hk_ (fun hs_ => (HO189.out.1 k_ (hs_).symm).1) (fun hn_ => (Nat.le_trans (bsz (bb HB)) hn_))))
   have HO199 := Aside0.mk (Kd.V_mono (ok' := fun k_ => (w.heap.size ≤ k_) ∧ some k_ ≠ (v195 : Value).ownBlock ∧ k_ ≠ gb183 ∧ k_ ≠ gb184) ho1 (fun k_ hk_ => ⟨Or.elim hk_.1 (fun hs_ => Or.elim hs_ (fun hs_ => (HO189.out.1 k_ (hs_).symm).1) (fun hs_ => hs_.1.1.1.1)) (fun hn_ => (Nat.le_trans (bsz (bb HB)) hn_)), hk_.2, Or.elim hk_.1 (fun hs_ => Or.elim hs_ (fun hs_ => fun e_ => (Kd.R_ne HO189.out BK183.out (by decide)) (by rw [← e_]; exact hs_)) (fun hs_ => hs_.1.2)) (fun hn_ => (Kd.freshB (g := gb183) (o := .cells #[.int .i64 a0_0, .slice A0_1 l0_1.length c0_1, .slice A0_2 l0_2.length c0_2] 25 (0, 0)) (by (with_reducible repeat (first | refine kdN ?_ _ | refine kdr ?_ | refine kal ?_ _)); exact BK183.out) k_ hn_)), Or.elim hk_.1 (fun hs_ => Or.elim hs_ (fun hs_ => fun e_ => (Kd.R_ne HO189.out BK184.out (by decide)) (by rw [← e_]; exact hs_)) (fun hs_ => hs_.2)) (fun hn_ => (Kd.freshB (g := gb184) (o := .cells #[.int .i64 0, .slice none 0 0, .slice none 0 0] 25 (0, 0)) (by (with_reducible repeat (first | refine kdN ?_ _ | refine kdr ?_ | refine kal ?_ _)); exact BK184.out) k_ hn_))⟩))
   replace BK183 := Aside0.mk (blk_kept (by (with_reducible repeat (first | refine kdN ?_ _ | refine kdr ?_ | refine kal ?_ _)); exact BK183.out) hkp (fun hs_ => (fun e_ => (Kd.R_ne HO189.out BK183.out (by decide)) e_) hs_))
   replace BK184 := Aside0.mk (blk_kept (by (with_reducible repeat (first | refine kdN ?_ _ | refine kdr ?_ | refine kal ?_ _)); exact BK184.out) hkp (fun hs_ => (fun e_ => (Kd.R_ne HO189.out BK184.out (by decide)) e_) hs_))
   replace HO192 := Aside0.mk (Kd.R_mono (ok' := fun k_ => (w.heap.size ≤ k_)) (Kd.R_keptB ((Kd.R_apart' HO192.out (Kd.R_typed HO189.out) (by decide))) hkp (fun k_ hk_ hs_ => (hk_.2) hs_)) (fun k_ hk_ => hk_.1.1.1))
   replace HB := Aside0.mk (hb)
   clear HO189
   (try clear hb)
   (try clear hkp)
   (try clear ho0)
   (try clear ho1)
   obtain ⟨Ao30, co30, eo30⟩ := Kd.R_slice HO196.out
   (first | subst eo30 | (injection eo30 with f1_ f2_ f3_; have f4_ := f1_.symm; have f5_ := f3_.symm; clear f1_ f2_ f3_; subst f4_; subst f5_))
   obtain ⟨Ao32, co32, eo32⟩ := Kd.V_slice HO199.out
   (first | subst eo32 | (injection eo32 with f1_ f2_ f3_; have f4_ := f1_.symm; have f5_ := f3_.symm; clear f1_ f2_ f3_; subst f4_; subst f5_))
   refine hK.out _ _ ⟨(blk_cell BK183.out 0).trans rfl, (blk_cell BK183.out 1).trans rfl, (blk_cell BK183.out 2).trans rfl⟩ (fun hHeld => ?_)
   clear hK K
   refine nm 33 ?_
   refine pu (i := 12) (N := some 34) #[true, true, true, true, true, true, true, true, true, true, true, true, true, false, false, false] rfl rfl (any_of HT_.out (by kernel_rfl)) ?_
   refine pu (i := 13) (N := some 35) #[true, true, true, true, true, true, true, true, true, true, true, true, true, true, false, false] rfl rfl (any_of HT_.out (by kernel_rfl)) ?_
   refine one_ (i := 14) (N := none) #[true, true, true, true, true, true, true, true, true, true, true, true, true, true, true, false] rfl rfl (one_of HT_.out (by kernel_rfl)) (by decide) (fun K hK => ?_)
   have hs29 : w28.cell? ⟨gb184, 0, none⟩ = some (.int .i64 0) := (blk_cell BK184.out 0).trans rfl
   have hfs29 := blk_frozen BK184.out 0
   have hns29_0 := NB183_184.out
   have hms29_0 := NB184_183.out
   have hs31 : w28.cell? ⟨gb184, 1, none⟩ = some (.slice none 0 0) := (blk_cell BK184.out 1).trans rfl
   have hfs31 := blk_frozen BK184.out 1
   have hns31_0 := NB183_184.out
   have hms31_0 := NB184_183.out
   have hs33 : w28.cell? ⟨gb184, 2, none⟩ = some (.slice none 0 0) := (blk_cell BK184.out 2).trans rfl
   have hfs33 := blk_frozen BK184.out 2
   have hns33_0 := NB183_184.out
   have hms33_0 := NB184_183.out
   refine skip_ (w1 := ?_) (by rfl) rfl ?_ ?_
   rotate_left
   ·go_simp
    rfl
   refine hK.out _ _ ⟨((cell_far (p := ⟨gb184, _, none⟩) NB183_184.out _).trans (((cell_far (p := ⟨gb184, _, none⟩) NB183_184.out _).trans (((cell_far (p := ⟨gb184, _, none⟩) NB183_184.out _).trans (hHeld.1)))))), ((cell_far (p := ⟨gb184, _, none⟩) NB183_184.out _).trans (((cell_far (p := ⟨gb184, _, none⟩) NB183_184.out _).trans (((cell_far (p := ⟨gb184, _, none⟩) NB183_184.out _).trans (hHeld.2.1)))))), ((cell_far (p := ⟨gb184, _, none⟩) NB183_184.out _).trans (((cell_far (p := ⟨gb184, _, none⟩) NB183_184.out _).trans (((cell_far (p := ⟨gb184, _, none⟩) NB183_184.out _).trans (hHeld.2.2))))))⟩ (fun hHeld => ?_)
   clear hK K
   refine pu (i := 15) (N := some 5) #[true, true, true, true, true, true, true, true, true, true, true, true, true, true, true, true] rfl rfl (any_of HT_.out (by kernel_rfl)) ?_
   refine done_ (done_of HT_.out (by kernel_rfl)) ?_
   try go_wp2
   refine bodyPost_ret (results_ct rfl _ _ gb184 25 #[.int .i64 t193, .slice Ao30 t194.length co30, .slice Ao32 t197.length co32] (0, 0) _ rfl (by (with_reducible repeat (first | refine kdN ?_ _ | refine kdr ?_ | refine kal ?_ _)); refine blk_put (cs := #[.int .i64 t193, .slice Ao30 t194.length co30, .slice none 0 0]) ?_ 2 _ rfl; (with_reducible repeat (first | refine kdN ?_ _ | refine kdr ?_ | refine kal ?_ _)); refine blk_put (cs := #[.int .i64 t193, .slice none 0 0, .slice none 0 0]) ?_ 1 _ rfl; (with_reducible repeat (first | refine kdN ?_ _ | refine kdr ?_ | refine kal ?_ _)); refine blk_put (cs := #[.int .i64 0, .slice none 0 0, .slice none 0 0]) ?_ 0 _ rfl; (with_reducible repeat (first | refine kdN ?_ _ | refine kdr ?_ | refine kal ?_ _)); exact BK184.out) Try.underlying25 rfl (by kernel_rfl)) rfl ?_
   exact ⟨_, _, rr, by (with_reducible repeat (first | apply Kd.R_alloc | apply Kd.R_drewN | apply Kd.R_drew)); exact Kd.R_mono (Kd.R_far (p := ⟨gb184, 2, none⟩) (Kd.R_far (p := ⟨gb184, 1, none⟩) (Kd.R_far (p := ⟨gb184, 0, none⟩) (Kd.R_types HO196.out BK184.out (by decide)) (fun _ hk => hk.2) (.int .i64 t193)) (fun _ hk => hk.2) (.slice Ao30 t194.length co30)) (fun _ hk => hk.2) (.slice Ao32 t197.length co32)) (fun _ hk => hk.1), by (with_reducible repeat (first | apply Kd.V_alloc | apply Kd.V_drewN | apply Kd.V_drew)); exact Kd.V_mono (Kd.V_far (p := ⟨gb184, 2, none⟩) (Kd.V_far (p := ⟨gb184, 1, none⟩) (Kd.V_far (p := ⟨gb184, 0, none⟩) (Kd.V_mono HO199.out (fun k_ hk => (⟨hk, hk.2.2.2⟩ : _ ∧ k_ ≠ gb184))) (fun _ hk => hk.2) (.int .i64 t193)) (fun _ hk => hk.2) (.slice Ao30 t194.length co30)) (fun _ hk => hk.2) (.slice Ao32 t197.length co32)) (fun _ hk => ⟨hk.1.1, hk.1.2.1⟩), bb HB⟩
mutual
def prod_Told.j0 : Nat → List (S74) → Int → Bool → Option ((List (S74)))
 | 0, _, _, _ => none
 | k + 1, x0, x1, x13 => if x13 = true then (some ([] : List (S74))) else (prod_Told.l0 k x1 ([] : List (S74)) x0 (x0.length : Int) 0)
def prod_Told.l0 : Nat → Int → List (S74) → List (S74) → Int → Int → Option ((List (S74)))
 | 0, _, _, _, _, _ => none
 | k + 1, x1, x5, x14, x15, x16 => if x16 < x15 then (if 0 ≤ x16 then (if x16 < (x14.length : Int) then (if ((rd_T74 x14 x16).f0) ≥ (wrap64 (16 * x1)) then (if ((rd_T74 x14 x16).f0) ≤ (wrap64 ((wrap64 (16 * x1)) + 15)) then (if x5.length < 8796093022208 then (prod_Told.l0 k x1 (x5 ++ [(⟨wrap64 (((rd_T74 x14 x16).f0) - (wrap64 (16 * x1))), (rd_T74 x14 x16).f1⟩ : S74)]) x14 x15 (wrap64 (x16 + 1))) else (none)) else (prod_Told.l0 k x1 x5 x14 x15 (wrap64 (x16 + 1)))) else (prod_Told.l0 k x1 x5 x14 x15 (wrap64 (x16 + 1)))) else (none)) else (none)) else (some x5)
end
def prod_Told.f (k : Nat) (l0 : List (S74)) (a1 : Int) : Option ((List (S74))) := if a1 < 0 then (prod_Told.j0 k l0 a1 true) else (prod_Told.j0 k l0 a1 (decide (a1 ≥ 3)))
set_option maxHeartbeats 8000000 in
set_option maxRecDepth 100000 in
theorem prod_Told.calls (k : Nat) (A0 : Option Addr) (c0 : Nat) (l0 : List (S74)) (a1 : Int) (r : List (S74)) (w : World) (hr0 : Kd.C k74 w A0 l0.length l0) (hc0 : l0.length ≤ c0) (h : prod_Told.f k l0 a1 = some r) :
  Calls Try.prog 16 #[.slice A0 l0.length c0, .int .i64 a1] w fun e w' => ∃ v0_ : Value, e = .returned (v0_) ∧ Kd.R k74 74 w' w.heap.size (fun _ => True) v0_ r ∧ Below w.heap.size w w' := by
 have hu74 := Try.underlying74
 have HR0 := Aside0.mk hr0
 have HC0 := Aside0.mk hc0
 clear hr0 hc0
 have HB := Aside0.mk (Below.refl w.heap.size w)
 have H : (if a1 < 0 then (prod_Told.j0 k l0 a1 true) else (prod_Told.j0 k l0 a1 (decide (a1 ≥ 3)))) = some r := h
 clear h
 have HC3 := Aside0.mk H
 clear H
 go_enter Try.func16, Try.ntmps16
 go_upto_region 1 with (fail)
 go_cut [13] (fun v13 wc => ∃ (kq : Nat) (x13_2 : Bool), v13 = .bool x13_2 ∧ Aside0 (prod_Told.j0 kq l0 a1 x13_2 = some r) ∧ Aside0 (kq ≤ k) ∧ Aside0 (Below w.heap.size w wc))
 case first =>
  have H := HC3.out
  clear HC3
  by_cases c4 : a1 < 0
  ·rw [if_pos c4] at H
   have c4b0 : decide (a1 < 0) = true := decide_eq_true c4
   clear c4
   (first | rw [c4b0] | (simp only [i64_w, i32_w]; rw [c4b0]) | skip)
   have H' := Aside0.mk H
   clear H
   go_wp2
   go_meet
   case rel => exact ⟨_, (true), rs, H', ⟨by first | omega | exact Nat.le_refl _⟩, ⟨bb HB⟩⟩
  rw [if_neg c4] at H
  have c4b0 : decide (a1 < 0) = false := decide_eq_false c4
  clear c4
  (first | rw [c4b0] | (simp only [i64_w, i32_w]; rw [c4b0]) | skip)
  have H' := Aside0.mk H
  clear H
  go_wp2
  go_meet
  case rel => exact ⟨_, (decide (a1 ≥ 3)), rs, H', ⟨by first | omega | exact Nat.le_refl _⟩, ⟨bb HB⟩⟩
 case rest =>
  clear HC3
  try clear c1
  try clear p2
  try clear c4
  try clear c4b0
  obtain ⟨kq, x13_2, rfl, HA, HJ2, HB⟩ := hcut
  cases kq with
  | zero => exact absurd HA.out (by simp [prod_Told.j0])
  | succ kj2 =>
   have H := HA.out
   clear HA
   simp only [prod_Told.j0] at H
   by_cases c5 : x13_2 = true
   ·subst c5
    have H1 : (some ([] : List (S74))) = some r := by rw [if_pos rfl] at H; exact H
    clear H
    have H := H1
    clear H1
    obtain rfl := Option.some.inj H
    go_wp2
    go_ret
    exact ⟨_, rr, by first | exact Kd.R_nil _ _ _ _ _ | exact Kd.N_nil _ _ _ _ _ | exact Kd.V_nil _ _ _ _ _ | exact Kd.Q_nil _ _ _ _ _ | exact Kd.S_nil _ _ _ _ _, bb HB⟩
   replace c5 := Bool.eq_false_iff.mpr c5
   subst c5
   have H1 : (prod_Told.l0 kj2 a1 ([] : List (S74)) l0 (l0.length : Int) 0) = some r := by rw [if_neg (show ¬ (false = true) by decide)] at H; exact H
   clear H
   have H := H1
   clear H1
   have H' := Aside0.mk H
   clear H
   go_wp2
   go_loopg [5, 16] kj2 (fun kq v5 v16 w' => ∃ (x5_2 : List (S74)) (x16_2 : Int), v16 = .int .i64 x16_2 ∧ Aside0 (prod_Told.l0 kq a1 x5_2 l0 (l0.length : Int) x16_2 = some r) ∧ Aside0 (kq ≤ kj2) ∧ Aside0 (Kd.R k74 74 w' w.heap.size (fun _ => True) v5 x5_2) ∧ Aside0 (Below w.heap.size w w'))
   case atStart => exact ⟨(([] : List (S74))), (0), rs, H', ⟨Nat.le_refl _⟩, ⟨by first | exact Kd.R_nil _ _ _ _ _ | exact Kd.N_nil _ _ _ _ _ | exact Kd.V_nil _ _ _ _ _ | exact Kd.Q_nil _ _ _ _ _ | exact Kd.S_nil _ _ _ _ _⟩, ⟨bb HB⟩⟩
   case round =>
    clear H'
    try clear c1
    try clear p2
    try clear c4
    try clear c4b0
    try clear c5
    try clear p2
    obtain ⟨x5_2, x16_2, rfl, HA, HK2, HO_5, HB⟩ := hrel
    cases gk with
    | zero => exact absurd HA.out (by simp [prod_Told.l0])
    | succ k2 =>
     have H := HA.out
     clear HA
     simp only [prod_Told.l0] at H
     by_cases c6 : x16_2 < (l0.length : Int)
     rotate_left
     ·rw [if_neg c6] at H
      have c6b0 : decide (x16_2 < (l0.length : Int)) = false := decide_eq_false c6
      clear c6
      obtain rfl := Option.some.inj H
      go_wp2
      go_ret
      exact ⟨_, rr, by (with_reducible repeat (first | apply Kd.R_alloc | apply Kd.R_drewN | apply Kd.R_drew)); exact HO_5.out, bb HB⟩
     rw [if_pos c6] at H
     have c6b0 : decide (x16_2 < (l0.length : Int)) = true := decide_eq_true c6
     clear c6
     by_cases c7 : 0 ≤ x16_2
     rotate_left
     ·rw [if_neg c7] at H
      exact absurd H (by simp)
     rw [if_pos c7] at H
     have c7b0 : decide (0 ≤ x16_2) = true := decide_eq_true c7
     clear c7
     by_cases c8 : x16_2 < (l0.length : Int)
     rotate_left
     ·rw [if_neg c8] at H
      exact absurd H (by simp)
     rw [if_pos c8] at H
     have c8b0 : decide (x16_2 < (l0.length : Int)) = true := decide_eq_true c8
     clear c8
     by_cases c9 : ((rd_T74 l0 x16_2).f0) ≥ (wrap64 (16 * a1))
     rotate_left
     ·rw [if_neg c9] at H
      have c9b0 : decide ((wrap64 (16 * a1)) ≤ ((rd_T74 l0 x16_2).f0)) = false := decide_eq_false c9
      clear c9
      have H' := Aside0.mk H
      clear H
      have p160 : 0 ≤ (x16_2 : Int) := od
      have q160 : x16_2 < (l0.length : Int) := od
      obtain ⟨ad160, e160, hx160_0, hx160_1⟩ := at_T74 HR0.out x16_2 p160 q160
      cases e160
      replace hx160_0 := bcell HB.out hx160_0
      replace hx160_1 := bcell HB.out hx160_1
      replace p160 := eq_true p160
      replace q160 := eq_true q160
      go_wp2_with (first | ((with_reducible refine gate_dst (N := 7) rfl ?_); refine bx 7 rfl rfl #[.int .i64 0, .int .i64 0] 74 ?_; intro gb161 hg w17 hbox hb; have BK161 := Aside0.mk (hbox); have GW161 := ge HB hg; have GE161 := ge HB hg; replace HO_5 := Aside0.mk (Kd.R_below (Kd.R_elderB (by (with_reducible repeat (first | apply Kd.R_alloc | apply Kd.R_drewN | apply Kd.R_drew)); exact HO_5.out) gb161 (Nat.le_of_eq hg.symm)) hb); replace HB := sb HB hb; clear hb hbox hg; obtain ⟨hcz18_0, hcz18_1, hfz18_0, hfz18_1⟩ := cf2 BK161.out))
      go_roundg k2
      case measure => have := HJ2.out; have := HK2.out; omega
      case rel => exact ⟨(x5_2), (wrap64 (x16_2 + 1)), rs, H', ⟨by have := HJ2.out; have := HK2.out; omega⟩, ⟨by (with_reducible repeat (first | apply Kd.R_alloc | apply Kd.R_drewN | apply Kd.R_drew)); exact Kd.R_mono (Kd.R_far (p := ⟨gb161, 1, none⟩) (Kd.R_far (p := ⟨gb161, 0, none⟩) (Kd.R_mono HO_5.out (fun k_ hk => (⟨hk, hk.2⟩ : _ ∧ k_ ≠ gb161))) (fun _ hk => hk.2) (.int .i64 ((rd_T74 l0 x16_2).f0))) (fun _ hk => hk.2) (.int .i64 ((rd_T74 l0 x16_2).f1))) (fun _ hk => trivial)⟩, ⟨bb HB⟩⟩
     rw [if_pos c9] at H
     have c9b0 : decide ((wrap64 (16 * a1)) ≤ ((rd_T74 l0 x16_2).f0)) = true := decide_eq_true c9
     clear c9
     by_cases c10 : ((rd_T74 l0 x16_2).f0) ≤ (wrap64 ((wrap64 (16 * a1)) + 15))
     rotate_left
     ·rw [if_neg c10] at H
      have c10b0 : decide (((rd_T74 l0 x16_2).f0) ≤ (wrap64 ((wrap64 (16 * a1)) + 15))) = false := decide_eq_false c10
      clear c10
      have H' := Aside0.mk H
      clear H
      have p160 : 0 ≤ (x16_2 : Int) := od
      have q160 : x16_2 < (l0.length : Int) := od
      obtain ⟨ad160, e160, hx160_0, hx160_1⟩ := at_T74 HR0.out x16_2 p160 q160
      cases e160
      replace hx160_0 := bcell HB.out hx160_0
      replace hx160_1 := bcell HB.out hx160_1
      replace p160 := eq_true p160
      replace q160 := eq_true q160
      go_wp2_with (first | ((with_reducible refine gate_dst (N := 7) rfl ?_); refine bx 7 rfl rfl #[.int .i64 0, .int .i64 0] 74 ?_; intro gb161 hg w15 hbox hb; have BK161 := Aside0.mk (hbox); have GW161 := ge HB hg; have GE161 := ge HB hg; replace HO_5 := Aside0.mk (Kd.R_below (Kd.R_elderB (by (with_reducible repeat (first | apply Kd.R_alloc | apply Kd.R_drewN | apply Kd.R_drew)); exact HO_5.out) gb161 (Nat.le_of_eq hg.symm)) hb); replace HB := sb HB hb; clear hb hbox hg; obtain ⟨hcz16_0, hcz16_1, hfz16_0, hfz16_1⟩ := cf2 BK161.out))
      go_roundg k2
      case measure => have := HJ2.out; have := HK2.out; omega
      case rel => exact ⟨(x5_2), (wrap64 (x16_2 + 1)), rs, H', ⟨by have := HJ2.out; have := HK2.out; omega⟩, ⟨by (with_reducible repeat (first | apply Kd.R_alloc | apply Kd.R_drewN | apply Kd.R_drew)); exact Kd.R_mono (Kd.R_far (p := ⟨gb161, 1, none⟩) (Kd.R_far (p := ⟨gb161, 0, none⟩) (Kd.R_mono HO_5.out (fun k_ hk => (⟨hk, hk.2⟩ : _ ∧ k_ ≠ gb161))) (fun _ hk => hk.2) (.int .i64 ((rd_T74 l0 x16_2).f0))) (fun _ hk => hk.2) (.int .i64 ((rd_T74 l0 x16_2).f1))) (fun _ hk => trivial)⟩, ⟨bb HB⟩⟩
     rw [if_pos c10] at H
     have c10b0 : decide (((rd_T74 l0 x16_2).f0) ≤ (wrap64 ((wrap64 (16 * a1)) + 15))) = true := decide_eq_true c10
     clear c10
     by_cases c11 : x5_2.length < 8796093022208
     rotate_left
     ·rw [if_neg c11] at H
      exact absurd H (by simp)
     rw [if_pos c11] at H
     have LMc11 := Aside0.mk c11
     clear c11
     obtain ⟨y162, hy162⟩ : ∃ y_ : List (S74), y_ = (x5_2 ++ [(⟨wrap64 (((rd_T74 l0 x16_2).f0) - (wrap64 (16 * a1))), (rd_T74 l0 x16_2).f1⟩ : S74)]) := ⟨_, rfl⟩
     replace H : (prod_Told.l0 k2 a1 y162 l0 (l0.length : Int) (wrap64 (x16_2 + 1))) = some r := by first | (rw [hy162]; with_reducible exact H) | (have H2_ := (Option.bind_some _ _).symm.trans H; rw [hy162]; with_reducible exact H2_) | (have H2_ := (Option.bind_some _ _).symm.trans H; with_reducible exact H2_) | with_reducible exact H | (rw [hy162]; exact H) | exact H
     have Ny162 := Aside0.mk hy162
     clear hy162
     have H' := Aside0.mk H
     clear H
     have p160 : 0 ≤ (x16_2 : Int) := od
     have q160 : x16_2 < (l0.length : Int) := od
     obtain ⟨ad160, e160, hx160_0, hx160_1⟩ := at_T74 HR0.out x16_2 p160 q160
     cases e160
     replace hx160_0 := bcell HB.out hx160_0
     replace hx160_1 := bcell HB.out hx160_1
     replace p160 := eq_true p160
     replace q160 := eq_true q160
     go_wp2_with (first | ((with_reducible refine gate_dst (N := 7) rfl ?_); refine bx 7 rfl rfl #[.int .i64 0, .int .i64 0] 74 ?_; intro gb161 hg w12 hbox hb; have BK161 := Aside0.mk (hbox); have GW161 := ge HB hg; have GE161 := ge HB hg; replace HO_5 := Aside0.mk (Kd.R_below (Kd.R_elderB (by (with_reducible repeat (first | apply Kd.R_alloc | apply Kd.R_drewN | apply Kd.R_drew)); exact HO_5.out) gb161 (Nat.le_of_eq hg.symm)) hb); replace HB := sb HB hb; clear hb hbox hg; obtain ⟨hcz13_0, hcz13_1, hfz13_0, hfz13_1⟩ := cf2 BK161.out) | ((with_reducible refine gate_builtin (b := .append) (xs := #[.tmp 33, .tmp 42]) rfl ?_); at_builtin; refine Kd.R_append k74 (w0 := w) w.heap.size rfl (.tmp 33) (.tmp 42) 37 74 (.agg #[(.int .i64 0), (.int .i64 0)]) 16 rfl Try.underlying37 info74 rfl (by decide) (by omega) u5 x5_2 (⟨wrap64 (((rd_T74 l0 x16_2).f0) - (wrap64 (16 * a1))), (rd_T74 l0 x16_2).f1⟩ : S74) [.int .i64 (wrap64 (((rd_T74 l0 x16_2).f0) - (wrap64 (16 * a1)))), .int .i64 ((rd_T74 l0 x16_2).f1)] (fun k_ => k_ ≠ gb161) (fun _ => False) rfl (by first | (go_simp; done) | (go_simp; rfl)) ?aP (fun _ hk => hk.elim) ?aF ?aO ?aB ?aS ?aL ?_; (case aP => exact k74_mkM _ _ _ (⟨wrap64 (((rd_T74 l0 x16_2).f0) - (wrap64 (16 * a1))), (rd_T74 l0 x16_2).f1⟩ : S74)); (case aB => exact (bb HB)); (case aF => exact (fun k_ hk => Kd.freshB (g := gb161) (o := .cells #[.int .i64 ((rd_T74 l0 x16_2).f0), .int .i64 ((rd_T74 l0 x16_2).f1)] 74 (0, 0)) (by (with_reducible repeat (first | refine kdN ?_ _ | refine kdr ?_ | refine kal ?_ _)); refine blk_put (cs := #[.int .i64 ((rd_T74 l0 x16_2).f0), .int .i64 0]) ?_ 1 _ rfl; (with_reducible repeat (first | refine kdN ?_ _ | refine kdr ?_ | refine kal ?_ _)); refine blk_put (cs := #[.int .i64 0, .int .i64 0]) ?_ 0 _ rfl; (with_reducible repeat (first | refine kdN ?_ _ | refine kdr ?_ | refine kal ?_ _)); exact BK161.out) k_ hk)); (case aO => exact (by (with_reducible repeat (first | apply Kd.R_alloc | apply Kd.R_drewN | apply Kd.R_drew)); exact Kd.R_mono (Kd.R_far (p := ⟨gb161, 1, none⟩) (Kd.R_far (p := ⟨gb161, 0, none⟩) (Kd.R_mono HO_5.out (fun k_ hk => (⟨hk, hk.2⟩ : _ ∧ k_ ≠ gb161))) (fun _ hk => hk.2) (.int .i64 ((rd_T74 l0 x16_2).f0))) (fun _ hk => hk.2) (.int .i64 ((rd_T74 l0 x16_2).f1))) (fun _ hk => hk.1.2))); (case aS => exact (bsz (bb HB))); (case aL => have := LMc11.out; omega); intro v163 w14 ho hb hg hat; rw [← Ny162.out] at ho; have HO164 := Aside0.mk (ho); replace BK161 := Aside0.mk (blk_grown (g := gb161) (o := .cells #[.int .i64 ((rd_T74 l0 x16_2).f0), .int .i64 ((rd_T74 l0 x16_2).f1)] 74 (0, 0)) (by (with_reducible repeat (first | refine kdN ?_ _ | refine kdr ?_ | refine kal ?_ _)); refine blk_put (cs := #[.int .i64 ((rd_T74 l0 x16_2).f0), .int .i64 0]) ?_ 1 _ rfl; (with_reducible repeat (first | refine kdN ?_ _ | refine kdr ?_ | refine kal ?_ _)); refine blk_put (cs := #[.int .i64 0, .int .i64 0]) ?_ 0 _ rfl; (with_reducible repeat (first | refine kdN ?_ _ | refine kdr ?_ | refine kal ?_ _)); exact BK161.out) hg (Kd.R_away HO_5.out (fun _ hk => hk.2))); replace HB := Aside0.mk (hb); clear HO_5; clear ho hb hg hat))
     go_roundg k2
     case measure => have := HJ2.out; have := HK2.out; omega
     case rel => exact ⟨(y162), (wrap64 (x16_2 + 1)), rs, H', ⟨by have := HJ2.out; have := HK2.out; omega⟩, ⟨by (with_reducible repeat (first | apply Kd.R_alloc | apply Kd.R_drewN | apply Kd.R_drew)); exact Kd.R_mono HO164.out (fun _ hk => trivial)⟩, ⟨bb HB⟩⟩
def r2_Of.f (a0 : Int) (l1 : List (S28)) : Option (Int × Int × Int × (List (S28))) := some (a0, 0, 0, l1)
set_option maxHeartbeats 8000000 in
set_option maxRecDepth 100000 in
theorem r2_Of.calls (a0 : Int) (P1_ : Nat → Prop) (A1 : Option Addr) (c1 : Nat) (l1 : List (S28)) (r1 : Int) (r2 : Int) (r3 : Int) (r4 : List (S28)) (w : World) (hs1 : Kd.V k28 28 w w.heap.size (fun k_ => P1_ k_) (.slice A1 l1.length c1) l1) (h : r2_Of.f a0 l1 = some (r1, r2, r3, r4)) :
  Calls Try.prog 42 #[.int .i64 a0, .slice A1 l1.length c1] w fun e w' => ∃ v3_ : Value, e = .returned (.agg #[.int .i64 r1, .int .i64 r2, .int .i64 r3, v3_]) ∧ Kd.V k28 28 w' w.heap.size (fun k_ => (P1_ k_ ∨ w.heap.size ≤ k_)) v3_ r4 ∧ Below w.heap.size w w' := by
 have hu28 := Try.underlying28
 have HO1 := Aside0.mk (show Kd.V k28 28 w w.heap.size (fun k_ => (P1_ k_ ∨ w.heap.size ≤ k_)) (.slice A1 l1.length c1) l1 from Kd.V_mono hs1 (fun k_ hk => .inl hk))
 have HB := Aside0.mk (Below.refl w.heap.size w)
 have H : (some (a0, 0, 0, l1)) = some (r1, r2, r3, r4) := h
 clear h
 simp only [Option.some.injEq, Prod.mk.injEq] at H
 obtain ⟨rfl, rfl, rfl, rfl⟩ := H
 go_enter Try.func42, Try.ntmps42
 go_wp2_with (first | ((with_reducible refine gate_dst (N := 4) rfl ?_); refine bx 4 rfl rfl #[.int .i64 0, .int .i64 0, .int .i64 0, .slice none 0 0] 28 ?_; intro gb248 hg w3 hbox hb; have BK248 := Aside0.mk (hbox); have GW248 := ge HB hg; have GE248 := ge HB hg; replace HO1 := Aside0.mk (Kd.V_below (Kd.V_elderB (by (with_reducible repeat (first | apply Kd.V_alloc | apply Kd.V_drewN | apply Kd.V_drew)); exact HO1.out) gb248 (Nat.le_of_eq hg.symm)) hb); replace HB := sb HB hb; clear hb hbox hg; obtain ⟨hcz4_0, hcz4_1, hcz4_2, hcz4_3, hfz4_0, hfz4_1, hfz4_2, hfz4_3⟩ := cf4 BK248.out))
 refine bodyPost_ret (results_cell_row rfl _ _ gb248 28 #[.int .i64 a0, .int .i64 0, .int .i64 0, .slice A1 l1.length c1] (0, 0) _ rfl (by (with_reducible repeat (first | refine kdN ?_ _ | refine kdr ?_ | refine kal ?_ _)); refine blk_put (cs := #[.int .i64 a0, .int .i64 0, .int .i64 0, .slice none 0 0]) ?_ 3 _ rfl; (with_reducible repeat (first | refine kdN ?_ _ | refine kdr ?_ | refine kal ?_ _)); refine blk_put (cs := #[.int .i64 a0, .int .i64 0, .int .i64 0, .slice none 0 0]) ?_ 2 _ rfl; (with_reducible repeat (first | refine kdN ?_ _ | refine kdr ?_ | refine kal ?_ _)); refine blk_put (cs := #[.int .i64 a0, .int .i64 0, .int .i64 0, .slice none 0 0]) ?_ 1 _ rfl; (with_reducible repeat (first | refine kdN ?_ _ | refine kdr ?_ | refine kal ?_ _)); refine blk_put (cs := #[.int .i64 0, .int .i64 0, .int .i64 0, .slice none 0 0]) ?_ 0 _ rfl; (with_reducible repeat (first | refine kdN ?_ _ | refine kdr ?_ | refine kal ?_ _)); exact BK248.out) Try.underlying28 rfl (by kernel_rfl)) rfl ?_
 exact ⟨_, rr, by (with_reducible repeat (first | apply Kd.V_alloc | apply Kd.V_drewN | apply Kd.V_drew)); exact Kd.V_mono (Kd.V_far (p := ⟨gb248, 3, none⟩) (Kd.V_far (p := ⟨gb248, 2, none⟩) (Kd.V_far (p := ⟨gb248, 1, none⟩) (Kd.V_far (p := ⟨gb248, 0, none⟩) (Kd.V_mono HO1.out (fun k_ hk => (⟨hk, hk.2⟩ : _ ∧ k_ ≠ gb248))) (fun _ hk => hk.2) (.int .i64 a0)) (fun _ hk => hk.2) (.int .i64 0)) (fun _ hk => hk.2) (.int .i64 0)) (fun _ hk => hk.2) (.slice A1 l1.length c1)) (fun _ hk => hk.1.1), bb HB⟩
def r2_Read.f (a0 : Int) (a1 : Int) : Option (Int × Int × Int × (List (S28))) := some (1, a0, a1, ([] : List (S28)))
set_option maxHeartbeats 8000000 in
set_option maxRecDepth 100000 in
theorem r2_Read.calls (a0 : Int) (a1 : Int) (r1 : Int) (r2 : Int) (r3 : Int) (r4 : List (S28)) (w : World) (h : r2_Read.f a0 a1 = some (r1, r2, r3, r4)) :
  Calls Try.prog 41 #[.int .i64 a0, .int .i64 a1] w fun e w' => ∃ v3_ : Value, e = .returned (.agg #[.int .i64 r1, .int .i64 r2, .int .i64 r3, v3_]) ∧ Kd.R k28 28 w' w.heap.size (fun _ => True) v3_ r4 ∧ Below w.heap.size w w' := by
 have hu28 := Try.underlying28
 have HB := Aside0.mk (Below.refl w.heap.size w)
 have H : (some (1, a0, a1, ([] : List (S28)))) = some (r1, r2, r3, r4) := h
 clear h
 simp only [Option.some.injEq, Prod.mk.injEq] at H
 obtain ⟨rfl, rfl, rfl, rfl⟩ := H
 go_enter Try.func41, Try.ntmps41
 go_wp2_with (first | ((with_reducible refine gate_dst (N := 4) rfl ?_); refine bx 4 rfl rfl #[.int .i64 0, .int .i64 0, .int .i64 0, .slice none 0 0] 28 ?_; intro gb247 hg w3 hbox hb; have BK247 := Aside0.mk (hbox); have GW247 := ge HB hg; have GE247 := ge HB hg; replace HB := sb HB hb; clear hb hbox hg; obtain ⟨hcz4_0, hcz4_1, hcz4_2, hcz4_3, hfz4_0, hfz4_1, hfz4_2, hfz4_3⟩ := cf4 BK247.out))
 refine bodyPost_ret (results_cell_row rfl _ _ gb247 28 #[.int .i64 1, .int .i64 a0, .int .i64 a1, .slice none 0 0] (0, 0) _ rfl (by (with_reducible repeat (first | refine kdN ?_ _ | refine kdr ?_ | refine kal ?_ _)); refine blk_put (cs := #[.int .i64 1, .int .i64 a0, .int .i64 a1, .slice none 0 0]) ?_ 3 _ rfl; (with_reducible repeat (first | refine kdN ?_ _ | refine kdr ?_ | refine kal ?_ _)); refine blk_put (cs := #[.int .i64 1, .int .i64 a0, .int .i64 0, .slice none 0 0]) ?_ 2 _ rfl; (with_reducible repeat (first | refine kdN ?_ _ | refine kdr ?_ | refine kal ?_ _)); refine blk_put (cs := #[.int .i64 1, .int .i64 0, .int .i64 0, .slice none 0 0]) ?_ 1 _ rfl; (with_reducible repeat (first | refine kdN ?_ _ | refine kdr ?_ | refine kal ?_ _)); refine blk_put (cs := #[.int .i64 0, .int .i64 0, .int .i64 0, .slice none 0 0]) ?_ 0 _ rfl; (with_reducible repeat (first | refine kdN ?_ _ | refine kdr ?_ | refine kal ?_ _)); exact BK247.out) Try.underlying28 rfl (by kernel_rfl)) rfl ?_
 exact ⟨_, rr, by first | exact Kd.R_nil _ _ _ _ _ | exact Kd.N_nil _ _ _ _ _ | exact Kd.V_nil _ _ _ _ _ | exact Kd.Q_nil _ _ _ _ _ | exact Kd.S_nil _ _ _ _ _, bb HB⟩
theorem eqA74 (d : Nat) (w : World) (x0 y0 : Int) (x1 y1 : Int) :
  (Op.equalIn (d + 2) 74 (.agg #[.int .i64 x0, .int .i64 x1]) (.agg #[.int .i64 y0, .int .i64 y1])).run Try.prog w = .ok (x0 == y0 && (x1 == y1)) w := by
 refine eqA_of Try.underlying74 (by kernel_rfl) ?_
 refine eqf_cons (by rfl) (by go_simp; rfl) (by go_simp; rfl) (by go_simp) ?_
 exact eqf_last (by rfl) (by go_simp; rfl) (by go_simp; rfl) (by go_simp)
end Go.Proofs.Ytilebfkehmecaaa.Print
namespace Go.Proofs.Ytilebfkehmecaaa.Print
open Go.RowKit Go.Proofs.YtilebfkehmecaaaW.PrintWords Go.Proofs.YtilebfkehmecaaaW.PrintLast Go.Proofs.YtilebfkehmecaaaW.PrintMore
attribute [local go_sem] max2_int min2_int max_two min_two max_three min_three max_four min_four
set_option linter.unusedVariables false
set_option linter.unusedSimpArgs false
attribute [local go_sem high] eqA74
def r5_Outs.l0 : Nat → List (S74) → List (S74) → Int → Option (Bool)
 | 0, _, _, _ => none
 | k + 1, x0, x1, x5 => if x5 < (x0.length : Int) then (if 0 ≤ x5 then (if x5 < (x1.length : Int) then (if (!(((rd_T74 x0 x5).f0) == ((rd_T74 x1 x5).f0)) || (!(((rd_T74 x0 x5).f1) == ((rd_T74 x1 x5).f1)))) = true then (some false) else (r5_Outs.l0 k x0 x1 (wrap64 (x5 + 1)))) else (none)) else (none)) else (some true)
def r5_Outs.f (k : Nat) (l0 : List (S74)) (l1 : List (S74)) : Option (Bool) := if (l0.length : Int) = (l1.length : Int) then (r5_Outs.l0 k l0 l1 0) else (some false)
set_option maxHeartbeats 8000000 in
set_option maxRecDepth 100000 in
theorem r5_Outs.calls (k : Nat) (A0 : Option Addr) (c0 : Nat) (l0 : List (S74)) (A1 : Option Addr) (c1 : Nat) (l1 : List (S74)) (r : Bool) (w : World) (hr0 : Kd.C k74 w A0 l0.length l0) (hc0 : l0.length ≤ c0) (hr1 : Kd.C k74 w A1 l1.length l1) (hc1 : l1.length ≤ c1) (h : r5_Outs.f k l0 l1 = some r) :
  Calls Try.prog 15 #[.slice A0 l0.length c0, .slice A1 l1.length c1] w fun e w' => e = .returned (.bool r) ∧ Drawn0 w w' := by
 have hu74 := Try.underlying74
 have HR0 := Aside0.mk hr0
 have HC0 := Aside0.mk hc0
 clear hr0 hc0
 have HR1 := Aside0.mk hr1
 have HC1 := Aside0.mk hc1
 clear hr1 hc1
 have H : (if (l0.length : Int) = (l1.length : Int) then (r5_Outs.l0 k l0 l1 0) else (some false)) = some r := h
 clear h
 by_cases c3 : (l0.length : Int) = (l1.length : Int)
 rotate_left
 ·rw [if_neg c3] at H
  have c3b0 : ((l0.length : Int) == (l1.length : Int)) = false := beq_eq_false_iff_ne.mpr c3
  have c3b1 : ((l0.length : Int) != (l1.length : Int)) = true := bne_iff_ne.mpr c3
  have c3b2 : (l0.length == l1.length) = false := by first | simpa using c3 | (simp at c3 ⊢; omega)
  obtain rfl := Option.some.inj H
  go_enter Try.func15, Try.ntmps15
  go_wp2
  repeat (go_quiet (fail); try go_wp2)
  go_ret
  exact ⟨rs, dr⟩
 rw [if_pos c3] at H
 have c3b0 : ((l0.length : Int) == (l1.length : Int)) = true := beq_iff_eq.mpr c3
 have c3b1 : ((l0.length : Int) != (l1.length : Int)) = false := bne_eq_false_iff_eq.mpr c3
 have c3b2 : (l0.length == l1.length) = true := by first | simpa using c3 | (simp at c3 ⊢; omega)
 clear c3
 have H' := Aside0.mk H
 clear H
 go_enter Try.func15, Try.ntmps15
 go_wp2
 repeat (go_quiet (fail); try go_wp2)
 go_loopg [5] k (fun kq v5 w' => ∃ (x5_1 : Int), v5 = .int .i64 x5_1 ∧ Aside0 (r5_Outs.l0 kq l0 l1 x5_1 = some r) ∧ Aside0 (kq ≤ k) ∧ Drawn0 w w')
 case atStart => exact ⟨(0), rs, H', ⟨Nat.le_refl _⟩, dr⟩
 case round =>
  clear H'
  try clear c1
  try clear p2
  try clear c3
  try clear c3b0
  try clear c3b1
  try clear c3b2
  obtain ⟨x5_1, rfl, HA, HK1, ⟨m1, rfl⟩⟩ := hrel
  cases gk with
  | zero => exact absurd HA.out (by simp [r5_Outs.l0])
  | succ k1 =>
   have H := HA.out
   clear HA
   simp only [r5_Outs.l0] at H
   by_cases c4 : x5_1 < (l0.length : Int)
   rotate_left
   ·rw [if_neg c4] at H
    have c4b0 : decide (x5_1 < (l0.length : Int)) = false := decide_eq_false c4
    clear c4
    obtain rfl := Option.some.inj H
    go_wp2
    repeat (go_quiet (fail); try go_wp2)
    go_ret
    exact ⟨rs, dr⟩
   rw [if_pos c4] at H
   have c4b0 : decide (x5_1 < (l0.length : Int)) = true := decide_eq_true c4
   clear c4
   by_cases c5 : 0 ≤ x5_1
   rotate_left
   ·rw [if_neg c5] at H
    exact absurd H (by simp)
   rw [if_pos c5] at H
   have c5b0 : decide (0 ≤ x5_1) = true := decide_eq_true c5
   clear c5
   by_cases c6 : x5_1 < (l1.length : Int)
   rotate_left
   ·rw [if_neg c6] at H
    exact absurd H (by simp)
   rw [if_pos c6] at H
   have c6b0 : decide (x5_1 < (l1.length : Int)) = true := decide_eq_true c6
   clear c6
   by_cases c7 : (!(((rd_T74 l0 x5_1).f0) == ((rd_T74 l1 x5_1).f0)) || (!(((rd_T74 l0 x5_1).f1) == ((rd_T74 l1 x5_1).f1)))) = true
   ·rw [if_pos c7] at H
    have c7b0 : (!(((rd_T74 l0 x5_1).f0) == ((rd_T74 l1 x5_1).f0)) || (!(((rd_T74 l0 x5_1).f1) == ((rd_T74 l1 x5_1).f1)))) = true := c7
    clear c7
    obtain rfl := Option.some.inj H
    have p158 : 0 ≤ (x5_1 : Int) := od
    have q158 : x5_1 < (l0.length : Int) := od
    obtain ⟨ad158, e158, hx158_0, hx158_1⟩ := at_T74 HR0.out x5_1 p158 q158
    cases e158
    replace p158 := eq_true p158
    replace q158 := eq_true q158
    have p159 : 0 ≤ (x5_1 : Int) := od
    have q159 : x5_1 < (l1.length : Int) := od
    obtain ⟨ad159, e159, hx159_0, hx159_1⟩ := at_T74 HR1.out x5_1 p159 q159
    cases e159
    replace p159 := eq_true p159
    replace q159 := eq_true q159
    go_wp2
    repeat (go_quiet (fail); try go_wp2)
    go_ret
    exact ⟨rs, dr⟩
   rw [if_neg c7] at H
   have c7b0 : (!(((rd_T74 l0 x5_1).f0) == ((rd_T74 l1 x5_1).f0)) || (!(((rd_T74 l0 x5_1).f1) == ((rd_T74 l1 x5_1).f1)))) = false := by simpa using c7
   clear c7
   have H' := Aside0.mk H
   clear H
   have p158 : 0 ≤ (x5_1 : Int) := od
   have q158 : x5_1 < (l0.length : Int) := od
   obtain ⟨ad158, e158, hx158_0, hx158_1⟩ := at_T74 HR0.out x5_1 p158 q158
   cases e158
   replace p158 := eq_true p158
   replace q158 := eq_true q158
   have p159 : 0 ≤ (x5_1 : Int) := od
   have q159 : x5_1 < (l1.length : Int) := od
   obtain ⟨ad159, e159, hx159_0, hx159_1⟩ := at_T74 HR1.out x5_1 p159 q159
   cases e159
   replace p159 := eq_true p159
   replace q159 := eq_true q159
   go_wp2
   repeat (go_quiet (fail); try go_wp2)
   go_roundg k1
   case measure => have := HK1.out; omega
   case rel => exact ⟨(wrap64 (x5_1 + 1)), rs, H', ⟨by have := HK1.out; omega⟩, dr⟩
end Go.Proofs.Ytilebfkehmecaaa.Print
namespace Go.Proofs.Ytilebfkehmecaaa.Print
open Go.RowKit Go.Proofs.YtilebfkehmecaaaW.PrintWords Go.Proofs.YtilebfkehmecaaaW.PrintLast Go.Proofs.YtilebfkehmecaaaW.PrintMore
attribute [local go_sem] max2_int min2_int max_two min_two max_three min_three max_four min_four
set_option linter.unusedVariables false
set_option linter.unusedSimpArgs false
def aw_r (a b : Int) : S28 := ⟨1, a, b, []⟩
def aw_vars : List S66 := [⟨⟨#[104]⟩, 1, 1⟩, ⟨⟨#[108]⟩, 0, 1⟩]
def aw_body : List S64 := [⟨0, 0, [aw_r 1 0], [], []⟩, ⟨3, 2, [aw_r 0 0], [], []⟩]
def aw_qv : List S66 := [⟨⟨#[104, 95, 48]⟩, 1, 1⟩, ⟨⟨#[108, 95, 48]⟩, 0, 1⟩, ⟨⟨#[104, 95, 49]⟩, 17, 1⟩, ⟨⟨#[108, 95, 49]⟩, 16, 1⟩]
def aw_qb : List S64 := [⟨0, 0, [aw_r 1 0], [], []⟩, ⟨3, 2, [aw_r 0 0], [], []⟩, ⟨0, 2, [aw_r 3 0], [], []⟩, ⟨3, 18, [aw_r 2 0], [], []⟩]
set_option maxRecDepth 100000 in
theorem aw_read (a b : Int) : r2_Read.f a b = some (1, a, b, []) := rfl
set_option maxRecDepth 100000 in
theorem aw_of : r2_Of.f 13 [aw_r 0 0, aw_r 1 1] = some (13, 0, 0, [aw_r 0 0, aw_r 1 1]) := by kernel_rfl
set_option maxRecDepth 100000 in
theorem aw_of2 : r2_Of.f 13 [aw_r 0 0, aw_r 3 0] = some (13, 0, 0, [aw_r 0 0, aw_r 3 0]) := by kernel_rfl
set_option maxRecDepth 100000 in
theorem aw_self : prod_Self.f 60 2 aw_vars aw_body 2 = some (2, aw_qv, aw_qb, 0) := by kernel_rfl
set_option maxRecDepth 100000 in
theorem aw_plain : prod_Plain.f 60 2 aw_vars aw_body 2 13 0 0 [aw_r 0 0, aw_r 1 1] = some (13, 0, 0, [aw_r 0 0, aw_r 3 0], 0) := by kernel_rfl
set_option maxRecDepth 100000 in
theorem aw_join : prod_Join.f 60 2 aw_vars aw_body [[1, 2], [3, 0]] = some ([1, 2, 3, 0], 0) := by kernel_rfl
set_option maxRecDepth 100000 in
theorem aw_copy : prod_Copy.f 60 2 aw_vars aw_body 3 = some (0, [], [], 1) := by kernel_rfl
set_option maxRecDepth 100000 in
theorem aw_told : prod_Told.f 60 [⟨17, 3⟩, ⟨1, 2⟩] 1 = some [⟨1, 3⟩] := by kernel_rfl
set_option maxRecDepth 100000 in
theorem aw_sameE : r2_Same.f 60 13 0 0 [aw_r 0 0, aw_r 3 0] 13 0 0 [aw_r 0 0, aw_r 3 0] = some true := by kernel_rfl
set_option maxRecDepth 100000 in
theorem aw_sameI : r1_Same.f 60 [1, 2, 3, 0] [1, 2, 3, 0] = some true := by kernel_rfl
set_option maxRecDepth 100000 in
theorem aw_outs : r5_Outs.f 60 [⟨1, 3⟩] [⟨1, 3⟩] = some true := by kernel_rfl
end Go.Proofs.Ytilebfkehmecaaa.Print
namespace Go.Proofs.Ytilebfkehmecaaa.Print
open Go.RowKit Go.Proofs.YtilebfkehmecaaaW.PrintWords Go.Proofs.YtilebfkehmecaaaW.PrintLast Go.Proofs.YtilebfkehmecaaaW.PrintMore
attribute [local go_sem] max2_int min2_int max_two min_two max_three min_three max_four min_four
set_option linter.unusedVariables false
set_option linter.unusedSimpArgs false
open Go.Shelf Go.RowKit
attribute [local go_sem] Oper.semAt_some
attribute [local go_sem high] eqA66
theorem aw_nil (W : World) (A : Option Addr) : Kd.C k28 W A ([] : List S28).length [] := Kd.F_now (F_zero (W := W) A (fun _ => True))
theorem aw_nilS (W : World) (A : Option Addr) : Kd.C k64 W A ([] : List S64).length [] := Kd.F_now (F_zero (W := W) A (fun _ => True))
theorem each1' {α : Type} {Q : α → List Value → Prop} {x : α} {c : List Value} (h : Q x c) : ∀ (j : Nat) (y : α) (d : List Value), [x][j]? = some y → [c][j]? = some d → Q y d := by
  intro j y d hy hd
  match j with
  | 0 => simp at hy hd; subst hy; subst hd; exact h
  | j + 1 => simp at hy
theorem each2' {α : Type} {Q : α → List Value → Prop} {x1 x2 : α} {c1 c2 : List Value} (h1 : Q x1 c1) (h2 : Q x2 c2) : ∀ (j : Nat) (y : α) (d : List Value), [x1, x2][j]? = some y → [c1, c2][j]? = some d → Q y d := by
  intro j y d hy hd
  match j with
  | 0 => simp at hy hd; subst hy; subst hd; exact h1
  | 1 => simp at hy hd; subst hy; subst hd; exact h2
  | j + 2 => simp at hy
theorem each4' {α : Type} {Q : α → List Value → Prop} {x1 x2 x3 x4 : α} {c1 c2 c3 c4 : List Value} (h1 : Q x1 c1) (h2 : Q x2 c2) (h3 : Q x3 c3) (h4 : Q x4 c4) : ∀ (j : Nat) (y : α) (d : List Value), [x1, x2, x3, x4][j]? = some y → [c1, c2, c3, c4][j]? = some d → Q y d := by
  intro j y d hy hd
  match j with
  | 0 => simp at hy hd; subst hy; subst hd; exact h1
  | 1 => simp at hy hd; subst hy; subst hd; exact h2
  | 2 => simp at hy hd; subst hy; subst hd; exact h3
  | 3 => simp at hy hd; subst hy; subst hd; exact h4
  | j + 4 => simp at hy
theorem aw_row2 (W : World) (m1 n1 m2 n2 : Int) (Ea : Option Addr) (fa : Nat) (Eb : Option Addr) (fb : Nat) : Kd.V k28 28 (W.alloc (.cells #[.int .i64 1, .int .i64 m1, .int .i64 n1, .slice Ea 0 fa, .int .i64 1, .int .i64 m2, .int .i64 n2, .slice Eb 0 fb] 28)) 0 (fun _ => True) (.slice (some ⟨W.heap.size, 0, none⟩) [aw_r m1 n1, aw_r m2 n2].length 2) [aw_r m1 n1, aw_r m2 n2] := by
  obtain ⟨A, e1, hf⟩ := (IsRow.new (d := k28) (B := 0) (e := 28) (W := W) (l := [aw_r m1 n1, aw_r m2 n2]) (Nat.zero_le _) [[.int .i64 1, .int .i64 m1, .int .i64 n1, .slice Ea 0 fa], [.int .i64 1, .int .i64 m2, .int .i64 n2, .slice Eb 0 fb]] rfl rfl (by simp)
    (each2' (Q := fun x c => Kd.FK k28 W (fun k => 0 ≤ k ∧ k < W.heap.size) x c) (k28_mkF W _ (aw_r m1 n1) (Nat.zero_le _) (F_zero Ea _)) (k28_mkF W _ (aw_r m2 n2) (Nat.zero_le _) (F_zero Eb _)))).foot
  cases e1
  exact Kd.V_mk (Nat.le_refl _) (Kd.F_mono hf (fun _ _ => trivial))
theorem aw_int2 {W : World} {b : Nat} {m n : Int} (h : W.heap[b]? = some (.cells #[.int .i64 m, .int .i64 n] 3 (0, 0))) : Kd.C (Kd.int .i64) W (some ⟨b, 0, none⟩) [m, n].length [m, n] := C_of_row (css := [[.int .i64 m], [.int .i64 n]]) h rfl (by simp) (each2' rfl rfl)
theorem aw_w7 (W : World) : Kd.C (Kd.slice 3 (Kd.int .i64)) (((W.alloc (.cells #[.int .i64 1, .int .i64 2] 3)).alloc (.cells #[.int .i64 3, .int .i64 0] 3)).alloc (.cells #[.slice (some ⟨W.heap.size, 0, none⟩) 2 2, .slice (some ⟨W.heap.size + 1, 0, none⟩) 2 2] 45)) (some ⟨W.heap.size + 1 + 1, 0, none⟩) [[1, 2], [3, 0]].length [[1, 2], [3, 0]] ∧ Below W.heap.size W (((W.alloc (.cells #[.int .i64 1, .int .i64 2] 3)).alloc (.cells #[.int .i64 3, .int .i64 0] 3)).alloc (.cells #[.slice (some ⟨W.heap.size, 0, none⟩) 2 2, .slice (some ⟨W.heap.size + 1, 0, none⟩) 2 2] 45)) := by
  have h1 : (((W.alloc (.cells #[.int .i64 1, .int .i64 2] 3)).alloc (.cells #[.int .i64 3, .int .i64 0] 3)).alloc (.cells #[.slice (some ⟨W.heap.size, 0, none⟩) 2 2, .slice (some ⟨W.heap.size + 1, 0, none⟩) 2 2] 45)).heap[W.heap.size]? = some (.cells #[.int .i64 1, .int .i64 2] 3 (0, 0)) := kal (kal (blk_new _ _) _) _
  have h2 : (((W.alloc (.cells #[.int .i64 1, .int .i64 2] 3)).alloc (.cells #[.int .i64 3, .int .i64 0] 3)).alloc (.cells #[.slice (some ⟨W.heap.size, 0, none⟩) 2 2, .slice (some ⟨W.heap.size + 1, 0, none⟩) 2 2] 45)).heap[W.heap.size + 1]? = some (.cells #[.int .i64 3, .int .i64 0] 3 (0, 0)) := by
    have e : (W.alloc (.cells #[.int .i64 1, .int .i64 2] 3)).heap.size = W.heap.size + 1 := by simp
    rw [← e]
    exact kal (blk_new _ _) _
  have h3 : (((W.alloc (.cells #[.int .i64 1, .int .i64 2] 3)).alloc (.cells #[.int .i64 3, .int .i64 0] 3)).alloc (.cells #[.slice (some ⟨W.heap.size, 0, none⟩) 2 2, .slice (some ⟨W.heap.size + 1, 0, none⟩) 2 2] 45)).heap[W.heap.size + 1 + 1]? = some (.cells #[.slice (some ⟨W.heap.size, 0, none⟩) 2 2, .slice (some ⟨W.heap.size + 1, 0, none⟩) 2 2] 45 (0, 0)) := by
    have e : ((W.alloc (.cells #[.int .i64 1, .int .i64 2] 3)).alloc (.cells #[.int .i64 3, .int .i64 0] 3)).heap.size = W.heap.size + 1 + 1 := by simp
    rw [← e]
    exact blk_new _ _
  refine ⟨C_of_row (css := [[.slice (some ⟨W.heap.size, 0, none⟩) 2 2], [.slice (some ⟨W.heap.size + 1, 0, none⟩) 2 2]]) h3 rfl (by decide) (each2' ⟨_, _, rfl, by decide, aw_int2 h1⟩ ⟨_, _, rfl, by decide, aw_int2 h2⟩), bal (bal (bal (Below.refl _ _) _) _) _⟩
theorem aw_outs2 (W : World) (A9 : Option Addr) (c9 : Nat) (A10 : Option Addr) (c10 : Nat) : Kd.C k74 ((W.alloc (.cells #[.int .i64 0, .slice A9 0 c9, .slice A10 0 c10] 25)).alloc (.cells #[.int .i64 17, .int .i64 3, .int .i64 1, .int .i64 2] 74)) (some ⟨W.heap.size + 1, 0, none⟩) [(⟨17, 3⟩ : S74), ⟨1, 2⟩].length [⟨17, 3⟩, ⟨1, 2⟩] := by
  have e : (W.alloc (.cells #[.int .i64 0, .slice A9 0 c9, .slice A10 0 c10] 25)).heap.size = W.heap.size + 1 := by simp
  rw [← e]
  exact C_of_row (css := [[.int .i64 17, .int .i64 3], [.int .i64 1, .int .i64 2]]) (blk_new _ _) rfl (by decide) (each2' (k74_mk _ _) (k74_mk _ _))
theorem aw_int4 {W : World} {b : Nat} {m n o p : Int} (h : W.heap[b]? = some (.cells #[.int .i64 m, .int .i64 n, .int .i64 o, .int .i64 p] 3 (0, 0))) : Kd.C (Kd.int .i64) W (some ⟨b, 0, none⟩) [m, n, o, p].length [m, n, o, p] := C_of_row (css := [[.int .i64 m], [.int .i64 n], [.int .i64 o], [.int .i64 p]]) h rfl (by simp) (each4' rfl rfl rfl rfl)
theorem aw_out1 {W : World} {b : Nat} (h : W.heap[b]? = some (.cells #[.int .i64 1, .int .i64 3] 74 (0, 0))) : Kd.C k74 W (some ⟨b, 0, none⟩) [(⟨1, 3⟩ : S74)].length [⟨1, 3⟩] := C_of_row (css := [[.int .i64 1, .int .i64 3]]) h rfl (by simp) (each1' (k74_mk W (⟨1, 3⟩ : S74)))
theorem aw_cv {W : World} {b : Nat} (h : W.heap[b]? = some (.cells #[.string ⟨#[104]⟩, .int .i64 1, .int .i64 1, .string ⟨#[108]⟩, .int .i64 0, .int .i64 1] 66 (0, 0))) : Kd.C k66 W (some ⟨b, 0, none⟩) aw_vars.length aw_vars :=
  C_of_row (css := [[.string ⟨#[104]⟩, .int .i64 1, .int .i64 1], [.string ⟨#[108]⟩, .int .i64 0, .int .i64 1]]) h rfl (by decide) (each2' (k66_mk W _) (k66_mk W _))
theorem aw_cx {W : World} {b : Nat} {m n : Int} {A : Option Addr} {c : Nat} (h : W.heap[b]? = some (.cells #[.int .i64 1, .int .i64 m, .int .i64 n, .slice A 0 c] 28 (0, 0))) : Kd.C k28 W (some ⟨b, 0, none⟩) [aw_r m n].length [aw_r m n] :=
  C_of_row (css := [[.int .i64 1, .int .i64 m, .int .i64 n, .slice A 0 c]]) h rfl (by simp) (each1' (k28_mk W (aw_r m n) (Nat.zero_le _) (aw_nil W A)))
theorem aw_cb {W : World} {b1 b2 b3 : Nat} {E1 E2 : Option Addr} {f1 f2 : Nat} (h1 : W.heap[b1]? = some (.cells #[.int .i64 1, .int .i64 1, .int .i64 0, .slice E1 0 f1] 28 (0, 0))) (h2 : W.heap[b2]? = some (.cells #[.int .i64 1, .int .i64 0, .int .i64 0, .slice E2 0 f2] 28 (0, 0)))
    (h3 : W.heap[b3]? = some (.cells #[.int .i64 0, .int .i64 0, .slice (some ⟨b1, 0, none⟩) 1 1, .slice none 0 0, .slice none 0 0, .int .i64 3, .int .i64 2, .slice (some ⟨b2, 0, none⟩) 1 1, .slice none 0 0, .slice none 0 0] 64 (0, 0))) : Kd.C k64 W (some ⟨b3, 0, none⟩) aw_body.length aw_body :=
  C_of_row (css := [[.int .i64 0, .int .i64 0, .slice (some ⟨b1, 0, none⟩) 1 1, .slice none 0 0, .slice none 0 0], [.int .i64 3, .int .i64 2, .slice (some ⟨b2, 0, none⟩) 1 1, .slice none 0 0, .slice none 0 0]]) h3 rfl (by decide)
    (each2' (k64_mk W (⟨0, 0, [aw_r 1 0], [], []⟩ : S64) (by decide) (aw_cx h1) (Nat.le_refl _) (aw_nilS W _) (Nat.le_refl _) (aw_nilS W _)) (k64_mk W (⟨3, 2, [aw_r 0 0], [], []⟩ : S64) (by decide) (aw_cx h2) (Nat.le_refl _) (aw_nilS W _) (Nat.le_refl _) (aw_nilS W _)))
theorem aw_w3 (W2 : World) (E2 : Option Addr) (f2 b1 bv : Nat) : let W := ((W2.alloc (.cells #[.int .i64 1, .int .i64 0, .int .i64 0, .slice E2 0 f2] 28)).alloc (.cells #[.int .i64 0, .int .i64 0, .slice (some ⟨b1, 0, none⟩) 1 1, .slice none 0 0, .slice none 0 0, .int .i64 3, .int .i64 2, .slice (some ⟨W2.heap.size, 0, none⟩) 1 1, .slice none 0 0, .slice none 0 0] 64)).alloc (.cells #[.int .i64 2, .slice (some ⟨bv, 0, none⟩) 2 2, .slice (some ⟨W2.heap.size + 1, 0, none⟩) 2 2] 25)
    W.heap[W2.heap.size]? = some (.cells #[.int .i64 1, .int .i64 0, .int .i64 0, .slice E2 0 f2] 28 (0, 0)) ∧ W.heap[W2.heap.size + 1]? = some (.cells #[.int .i64 0, .int .i64 0, .slice (some ⟨b1, 0, none⟩) 1 1, .slice none 0 0, .slice none 0 0, .int .i64 3, .int .i64 2, .slice (some ⟨W2.heap.size, 0, none⟩) 1 1, .slice none 0 0, .slice none 0 0] 64 (0, 0)) ∧
    W.heap[W2.heap.size + 1 + 1]? = some (.cells #[.int .i64 2, .slice (some ⟨bv, 0, none⟩) 2 2, .slice (some ⟨W2.heap.size + 1, 0, none⟩) 2 2] 25 (0, 0)) ∧ Below W2.heap.size W2 W := by
  intro W
  refine ⟨kal (kal (blk_new _ _) _) _, kal ?_ _, ?_, bal (bal (bal (Below.refl _ _) _) _) _⟩
  · have := blk_new (W2.alloc (.cells #[.int .i64 1, .int .i64 0, .int .i64 0, .slice E2 0 f2] 28)) (.cells #[.int .i64 0, .int .i64 0, .slice (some ⟨b1, 0, none⟩) 1 1, .slice none 0 0, .slice none 0 0, .int .i64 3, .int .i64 2, .slice (some ⟨W2.heap.size, 0, none⟩) 1 1, .slice none 0 0, .slice none 0 0] 64)
    simpa using this
  · have e : ((W2.alloc (.cells #[.int .i64 1, .int .i64 0, .int .i64 0, .slice E2 0 f2] 28)).alloc (.cells #[.int .i64 0, .int .i64 0, .slice (some ⟨b1, 0, none⟩) 1 1, .slice none 0 0, .slice none 0 0, .int .i64 3, .int .i64 2, .slice (some ⟨W2.heap.size, 0, none⟩) 1 1, .slice none 0 0, .slice none 0 0] 64)).heap.size = W2.heap.size + 1 + 1 := by simp
    rw [← e]
    exact blk_new _ _
def w12_awake.f (_ : Nat) : Option Bool := some true
set_option maxHeartbeats 16000000 in
set_option maxRecDepth 100000 in
theorem w12_awake.calls (k : Nat) (r : Bool) (w : World) (h : w12_awake.f k = some r) : Calls Try.prog 11 #[] w fun e w' => e = .returned (.bool r) ∧ Below w.heap.size w w' := by
  obtain rfl := Option.some.inj h
  clear h
  have huP := Try.underlying25
  have huS := Try.underlying64
  have huE := Try.underlying28
  have huV := Try.underlying66
  go_enter Try.func11, Try.ntmps11
  go_wp2_with (first | (go_at_call 41; refine (r2_Read.calls 1 0 1 1 0 [] (w.alloc (.cells #[.string ⟨#[104]⟩, .int .i64 1, .int .i64 1, .string ⟨#[108]⟩, .int .i64 0, .int .i64 1] 66)) (aw_read 1 0)).mono ?_; rintro e W1 ⟨v, rfl, o_, hb_⟩; obtain ⟨E1, f1, e_⟩ := Kd.R_slice o_; subst e_; have V1 := (hb_.block _ (by simp)).trans (blk_new w (.cells #[.string ⟨#[104]⟩, .int .i64 1, .int .i64 1, .string ⟨#[108]⟩, .int .i64 0, .int .i64 1] 66)); have b1 : Below w.heap.size w W1 := (bal (Below.refl _ _) _).trans (hb_.mono (by simp)); have s1 : w.heap.size < W1.heap.size := blk_lt V1; clear hb_ o_) | (go_at_call 41; refine (r2_Read.calls 0 0 1 0 0 [] (W1.alloc (.cells #[.int .i64 1, .int .i64 1, .int .i64 0, .slice E1 0 f1] 28)) (aw_read 0 0)).mono ?_; rintro e W2 ⟨v, rfl, o_, hb_⟩; obtain ⟨E2, f2, e_⟩ := Kd.R_slice o_; subst e_; have Y1 := (hb_.block _ (by simp)).trans (blk_new W1 (.cells #[.int .i64 1, .int .i64 1, .int .i64 0, .slice E1 0 f1] 28)); have b2 : Below W1.heap.size W1 W2 := (bal (Below.refl _ _) _).trans (hb_.mono (by simp)); have s2 : W1.heap.size < W2.heap.size := blk_lt Y1; have V2 := (b2.block _ s1).trans V1; clear hb_ o_; have hq := aw_w3 W2 E2 f2 W1.heap.size w.heap.size; obtain ⟨W3, hW3⟩ : ∃ X, ((W2.alloc (.cells #[.int .i64 1, .int .i64 0, .int .i64 0, .slice E2 0 f2] 28)).alloc (.cells #[.int .i64 0, .int .i64 0, .slice (some ⟨W1.heap.size, 0, none⟩) 1 1, .slice none 0 0, .slice none 0 0, .int .i64 3, .int .i64 2, .slice (some ⟨W2.heap.size, 0, none⟩) 1 1, .slice none 0 0, .slice none 0 0] 64)).alloc (.cells #[.int .i64 2, .slice (some ⟨w.heap.size, 0, none⟩) 2 2, .slice (some ⟨W2.heap.size + 1, 0, none⟩) 2 2] 25) = X := ⟨_, rfl⟩; simp only [hW3] at hq; obtain ⟨Y2, S3, P3, B3⟩ := hq; have p0 : W3.cell? ⟨W2.heap.size + 1 + 1, 0, none⟩ = some (.int .i64 2) := (blk_cell P3 0).trans rfl; have p1 : W3.cell? ⟨W2.heap.size + 1 + 1, 1, none⟩ = some (.slice (some ⟨w.heap.size, 0, none⟩) 2 2) := (blk_cell P3 1).trans rfl; have p2 : W3.cell? ⟨W2.heap.size + 1 + 1, 2, none⟩ = some (.slice (some ⟨W2.heap.size + 1, 0, none⟩) 2 2) := (blk_cell P3 2).trans rfl; have V3 := (B3.block _ (Nat.lt_trans s1 s2)).trans V2; have Y3 := (B3.block _ s2).trans Y1; have CV := aw_cv V3; have CB := aw_cb Y3 Y2 S3) | (go_at_call 26; refine (prod_Self.calls 60 2 (some ⟨w.heap.size, 0, none⟩) 2 aw_vars (some ⟨W2.heap.size + 1, 0, none⟩) 2 aw_body 2 2 aw_qv aw_qb 0 W3 CV (by decide) CB (by decide) aw_self).mono ?_; rintro e W4 ⟨v1, v2, rfl, rq1, nq2, hb4⟩; obtain ⟨D1, d1, e_⟩ := Kd.R_slice rq1; subst e_; obtain ⟨D2, d2, e_⟩ := Kd.V_slice nq2; subst e_))
  have k25e : aw_qv.length = 4 := rfl
  have k25f : aw_qb.length = 4 := rfl
  have hq := blk_new W4 (.cells #[.int .i64 2, .slice D1 aw_qv.length d1, .slice D2 aw_qb.length d2] 25)
  have bq := bal (Below.refl W4.heap.size W4) (.cells #[.int .i64 2, .slice D1 aw_qv.length d1, .slice D2 aw_qb.length d2] 25)
  generalize W4.alloc (.cells #[.int .i64 2, .slice D1 aw_qv.length d1, .slice D2 aw_qb.length d2] 25) = WQ at hq bq ⊢
  have b3 := hb4.trans (bq.mono hb4.size)
  have QR := Aside0.mk hq
  have PQ := Aside0.mk ((b3.block _ (blk_lt P3)).trans P3)
  have CVQ := Aside0.mk (Kd.C_below CV b3)
  have CBQ := Aside0.mk (Kd.C_below CB b3)
  have C1 := Aside0.mk (Kd.C_below (Kd.R_reads' rq1).2.2 bq)
  have C2 := Aside0.mk (Kd.C_below (Kd.V_reads' nq2).2.2 bq)
  have BW := Aside0.mk ((b1.trans (b2.mono b1.size)).trans ((B3.trans (b3.mono B3.size)).mono (Nat.le_trans b1.size b2.size)))
  clear hq bq b3 rq1 nq2 hb4 CV CB p0 p1 p2 V3 Y3 P3 S3 Y2 B3 V2 Y1 V1 b1 b2 hW3
  obtain ⟨bp, hbp⟩ : ∃ x, W2.heap.size + 1 + 1 = x := ⟨_, rfl⟩
  obtain ⟨bv, hbv⟩ : ∃ x, w.heap.size = x := ⟨_, rfl⟩
  obtain ⟨bb, hbb⟩ : ∃ x, W2.heap.size + 1 = x := ⟨_, rfl⟩
  have PQ := Aside0.mk (show WQ.heap[bp]? = some (.cells #[.int .i64 2, .slice (some ⟨bv, 0, none⟩) 2 2, .slice (some ⟨bb, 0, none⟩) 2 2] 25 (0, 0)) from by rw [← hbp, ← hbv, ← hbb]; exact PQ.out)
  have pS : ∀ W, Below WQ.heap.size WQ W → W.cell? ⟨bp, 0, none⟩ = some (.int .i64 2) ∧ W.cell? ⟨bp, 1, none⟩ = some (.slice (some ⟨bv, 0, none⟩) 2 2) ∧ W.cell? ⟨bp, 2, none⟩ = some (.slice (some ⟨bb, 0, none⟩) 2 2) := fun W hW => by
    have h := (hW.block _ (blk_lt PQ.out)).trans PQ.out
    exact ⟨(blk_cell h 0).trans rfl, (blk_cell h 1).trans rfl, (blk_cell h 2).trans rfl⟩
  rw [hbp]
  (try simp only [hbv, hbb, hbp])
  go_cut [4, 5] (fun v4 v5 wc => ∃ (G : Nat) (D : Option Addr) (d : Nat), v4 = .pointer (some ⟨G, 0, none⟩) ∧ v5 = .int .i64 0 ∧ Aside0 (wc.heap[G]? = some (.cells #[.int .i64 13, .int .i64 0, .int .i64 0, .slice D 2 d] 28 (0, 0))) ∧ Aside0 (Kd.C k28 wc D [aw_r 0 0, aw_r 3 0].length [aw_r 0 0, aw_r 3 0]) ∧ Aside0 (2 ≤ d) ∧ Aside0 (Below WQ.heap.size WQ wc))
  case first =>
    refine start_ (n := 12) (S := fun W => W.cell? ⟨bp, 0, none⟩ = some (.int .i64 2) ∧ W.cell? ⟨bp, 1, none⟩ = some (.slice (some ⟨bv, 0, none⟩) 2 2) ∧ W.cell? ⟨bp, 2, none⟩ = some (.slice (some ⟨bb, 0, none⟩) 2 2)) (ds := [10]) #[false, false, false, false, false, false, false, false, false, false, false, false] (by kernel_rfl) rfl rfl (pS _ (below_drew (Below.refl _ _))) (fun hHeld => ?_)
    have b0 := below_drew (Below.refl WQ.heap.size WQ)
    generalize WQ.drew = U0 at b0 hHeld ⊢
    refine tk (i := 0) (N := some 28) #[true, false, false, false, false, false, false, false, false, false, false, false] rfl rfl (by kernel_rfl) hHeld ?_
    refine two_ (i := 1) (j := 9) (Ni := some 29) (Nj := some 4) #[true, true, false, false, false, false, false, false, false, false, false, false] #[true, false, false, false, false, false, false, false, false, true, false, false] rfl rfl rfl rfl (by kernel_rfl) (by decide) (by decide) (fun K hK => ?_) (fun K hK => ?_)
    · refine goes_ Try.func41 (by kernel_rfl) rfl #[.int .i64 0, .int .i64 0] (by rfl) rfl rfl (by (try simp only [List.map_toArray, List.map_cons, List.map_nil]); rfl) ?_
      refine (r2_Read.calls 0 0 1 0 0 [] U0 (aw_read 0 0)).mono ?_
      rintro e U1 ⟨v, rfl, o_, h2⟩
      obtain ⟨Ea, fa, e_⟩ := Kd.R_slice o_
      subst e_
      clear o_
      have b3 := b0.trans (h2.mono b0.size)
      refine ⟨_, rfl, ?_⟩
      refine hK.out _ _ (pS _ b3) (fun hHeld => ?_)
      clear hK K
      refine nm 29 ?_
      refine two_ (i := 2) (j := 9) (Ni := some 30) (Nj := some 4) #[true, true, true, false, false, false, false, false, false, false, false, false] #[true, true, false, false, false, false, false, false, false, true, false, false] rfl rfl rfl rfl (by kernel_rfl) (by decide) (by decide) (fun K hK => ?_) (fun K hK => ?_)
      · refine goes_ Try.func41 (by kernel_rfl) rfl #[.int .i64 1, .int .i64 1] (by rfl) rfl rfl (by (try simp only [List.map_toArray, List.map_cons, List.map_nil]); rfl) ?_
        refine (r2_Read.calls 1 1 1 1 1 [] U1 (aw_read 1 1)).mono ?_
        rintro e U4 ⟨v, rfl, o_, h5⟩
        obtain ⟨Eb, fb, e_⟩ := Kd.R_slice o_
        subst e_
        clear o_
        have b6 := b3.trans (h5.mono b3.size)
        refine ⟨_, rfl, ?_⟩
        refine hK.out _ _ (pS _ b6) (fun hHeld => ?_)
        clear hK K
        refine nm 30 ?_
        refine two_ (i := 3) (j := 9) (Ni := some 31) (Nj := some 4) #[true, true, true, true, false, false, false, false, false, false, false, false] #[true, true, true, false, false, false, false, false, false, true, false, false] rfl rfl rfl rfl (by kernel_rfl) (by decide) (by decide) (fun K hK => ?_) (fun K hK => ?_)
        · refine value_ (w1 := ?_) (v := ?_) (by rfl) rfl ?_ ?_
          rotate_left 2
          · go_simp
            constructor
            · rfl
            · rfl
          have v9 := aw_row2 U4 0 0 1 1 Ea fa Eb fb
          have h8 := bal (Below.refl U4.heap.size U4) (.cells #[.int .i64 1, .int .i64 0, .int .i64 0, .slice Ea 0 fa, .int .i64 1, .int .i64 1, .int .i64 1, .slice Eb 0 fb] 28)
          (try simp only [List.length_nil])
          generalize U4.alloc (.cells #[.int .i64 1, .int .i64 0, .int .i64 0, .slice Ea 0 fa, .int .i64 1, .int .i64 1, .int .i64 1, .slice Eb 0 fb] 28) = U7 at v9 h8 ⊢
          have b11 := b6.trans (h8.mono b6.size)
          refine hK.out _ _ (pS _ b11) (fun hHeld => ?_)
          clear hK K
          refine nm 31 ?_
          refine two_ (i := 4) (j := 9) (Ni := some 32) (Nj := some 4) #[true, true, true, true, true, false, false, false, false, false, false, false] #[true, true, true, true, false, false, false, false, false, true, false, false] rfl rfl rfl rfl (by kernel_rfl) (by decide) (by decide) (fun K hK => ?_) (fun K hK => ?_)
          · refine goes_ Try.func42 (by kernel_rfl) rfl #[.int .i64 13, .slice (some ⟨U4.heap.size, 0, none⟩) 2 2] (by rfl) rfl rfl (by (try simp only [List.map_toArray, List.map_cons, List.map_nil]); rfl) ?_
            refine (r2_Of.calls 13 (fun _ => True) (some ⟨U4.heap.size, 0, none⟩) 2 [aw_r 0 0, aw_r 1 1] 13 0 0 [aw_r 0 0, aw_r 1 1] U7 v9 aw_of).mono ?_
            rintro e U12 ⟨v, rfl, o14, h13⟩
            obtain ⟨Ec, fc, e_⟩ := Kd.V_slice o14
            subst e_
            have b15 := b11.trans (h13.mono b11.size)
            refine ⟨_, rfl, ?_⟩
            refine hK.out _ _ (pS _ b15) (fun hHeld => ?_)
            clear hK K
            refine nm 32 ?_
            refine two_ (i := 5) (j := 9) (Ni := some 33) (Nj := some 4) #[true, true, true, true, true, true, false, false, false, false, false, false] #[true, true, true, true, true, false, false, false, false, true, false, false] rfl rfl rfl rfl (by kernel_rfl) (by decide) (by decide) (fun K hK => ?_) (fun K hK => ?_)
            · refine goes_ Try.func12 (by kernel_rfl) rfl #[.agg #[.int .i64 2, .slice (some ⟨bv, 0, none⟩) 2 2, .slice (some ⟨bb, 0, none⟩) 2 2], .int .i64 2, .agg #[.int .i64 13, .int .i64 0, .int .i64 0, .slice Ec 2 fc]] (by rfl) rfl rfl (by (try simp only [List.map_toArray, List.map_cons, List.map_nil]); rfl) ?_
              refine (prod_Plain.calls 60 2 (some ⟨bv, 0, none⟩) 2 aw_vars (some ⟨bb, 0, none⟩) 2 aw_body 2 13 0 0 Ec fc [aw_r 0 0, aw_r 1 1] 13 0 0 [aw_r 0 0, aw_r 3 0] 0 U12 (by rw [← hbv]; exact Kd.C_below CVQ.out b15) (by decide) (by rw [← hbb]; exact Kd.C_below CBQ.out b15) (by decide) (Kd.V_reads' o14).2.2 (Kd.V_reads' o14).2.1 aw_plain).mono ?_
              rintro e U16 ⟨v, rfl, r18, h17⟩
              obtain ⟨Ed, fd, e_⟩ := Kd.R_slice r18
              subst e_
              have b19 := b15.trans (h17.mono b15.size)
              refine ⟨_, rfl, ?_⟩
              refine hK.out _ _ (pS _ b19) (fun hHeld => ?_)
              clear hK K
              refine nm 33 ?_
              refine pu (i := 6) (N := some 27) #[true, true, true, true, true, true, true, false, false, false, false, false] rfl rfl (by kernel_rfl) ?_
              refine pu (i := 7) (N := some 34) #[true, true, true, true, true, true, true, true, false, false, false, false] rfl rfl (by kernel_rfl) ?_
              refine pu (i := 8) (N := some 35) #[true, true, true, true, true, true, true, true, true, false, false, false] rfl rfl (by kernel_rfl) ?_
              refine one_ (i := 9) (N := (some 4)) #[true, true, true, true, true, true, true, true, true, true, false, false] rfl rfl (by kernel_rfl) (by decide) (fun K hK => ?_)
              refine value_ (w1 := ?_) (v := ?_) (by rfl) rfl ?_ ?_
              rotate_left 2
              · go_simp
                constructor
                · rfl
                · rfl
              have h21 := bal (Below.refl U16.heap.size U16) (.cells #[.int .i64 0, .int .i64 0, .int .i64 0, .slice none 0 0] 28)
              have z23 := blk_new U16 (.cells #[.int .i64 0, .int .i64 0, .int .i64 0, .slice none 0 0] 28)
              generalize U16.alloc (.cells #[.int .i64 0, .int .i64 0, .int .i64 0, .slice none 0 0] 28) = U20 at h21 z23 ⊢
              have b22 := b19.trans (h21.mono b19.size)
              have f24 := Kd.R_below (Kd.R_bound r18) h21
              have gle := b19.size
              refine hK.out _ _ (pS _ b22) (fun hHeld => ?_)
              clear hK K
              refine nm 4 ?_
              refine last_ (i := 10) (N := none) #[true, true, true, true, true, true, true, true, true, true, true, false] rfl rfl (by kernel_rfl) (by decide) (fun K hK => ?_)
              obtain ⟨zc, zk, zb⟩ := row4_put z23 (.int .i64 13) (.int .i64 0) (.int .i64 0) (.slice Ed 2 fd)
              have bG := b22.size
              have lG := blk_lt z23
              have hGw : WQ.heap.size ≤ U16.heap.size := gle
              refine skip_ (w1 := ((((U20.setCell ⟨U16.heap.size, 0, none⟩ (.int .i64 13)).setCell ⟨U16.heap.size, 1, none⟩ (.int .i64 0)).setCell ⟨U16.heap.size, 2, none⟩ (.int .i64 0)).setCell ⟨U16.heap.size, 3, none⟩ (.slice Ed 2 fd))) (by rfl) rfl ?st ?_
              case st =>
                have q0 : U20.cell? ⟨U16.heap.size, 0, none⟩ = some (.int .i64 0) := (blk_cell z23 0).trans rfl
                have g0 := blk_frozen z23 0
                have q1 : U20.cell? ⟨U16.heap.size, 1, none⟩ = some (.int .i64 0) := (blk_cell z23 1).trans rfl
                have g1 := blk_frozen z23 1
                have q2 : U20.cell? ⟨U16.heap.size, 2, none⟩ = some (.int .i64 0) := (blk_cell z23 2).trans rfl
                have g2 := blk_frozen z23 2
                have q3 : U20.cell? ⟨U16.heap.size, 3, none⟩ = some (.slice none 0 0) := (blk_cell z23 3).trans rfl
                have g3 := blk_frozen z23 3
                go_simp
                try rfl
              refine hK.out _ _ ?_
              clear hK K
              refine pu (i := 11) (N := some 5) #[true, true, true, true, true, true, true, true, true, true, true, true] rfl rfl (by kernel_rfl) ?_
              refine done_ (by kernel_rfl) ?_
              try simp only [Exit.then]
              try go_wp2
              go_meet
              case rel => exact ⟨_, Ed, fd, rfl, rfl, ⟨zc⟩, ⟨(Kd.R_reads' (Kd.R_step f24 (fun q hq _ => zk q (by have h9 := hq.2.2.1; omega)))).2.2⟩, ⟨(Kd.R_reads' f24).2.1⟩, ⟨b22.trans (zb _ hGw)⟩⟩
            · refine value_ (w1 := ?_) (v := ?_) (by rfl) rfl ?_ ?_
              rotate_left 2
              · go_simp
                constructor
                · rfl
                · rfl
              have h26 := bal (Below.refl U12.heap.size U12) (.cells #[.int .i64 0, .int .i64 0, .int .i64 0, .slice none 0 0] 28)
              have z28 := blk_new U12 (.cells #[.int .i64 0, .int .i64 0, .int .i64 0, .slice none 0 0] 28)
              generalize U12.alloc (.cells #[.int .i64 0, .int .i64 0, .int .i64 0, .slice none 0 0] 28) = U25 at h26 z28 ⊢
              have b27 := b15.trans (h26.mono b15.size)
              have f29 := Kd.V_below o14 h26
              have gle := b15.size
              refine hK.out _ _ (pS _ b27) (fun hHeld => ?_)
              clear hK K
              refine nm 4 ?_
              refine one_ (i := 5) (N := (some 33)) #[true, true, true, true, true, true, false, false, false, true, false, false] rfl rfl (by kernel_rfl) (by decide) (fun K hK => ?_)
              refine goes_ Try.func12 (by kernel_rfl) rfl #[.agg #[.int .i64 2, .slice (some ⟨bv, 0, none⟩) 2 2, .slice (some ⟨bb, 0, none⟩) 2 2], .int .i64 2, .agg #[.int .i64 13, .int .i64 0, .int .i64 0, .slice Ec 2 fc]] (by rfl) rfl rfl (by (try simp only [List.map_toArray, List.map_cons, List.map_nil]); rfl) ?_
              have lz := blk_lt z28
              refine (prod_Plain.calls 60 2 (some ⟨bv, 0, none⟩) 2 aw_vars (some ⟨bb, 0, none⟩) 2 aw_body 2 13 0 0 Ec fc [aw_r 0 0, aw_r 1 1] 13 0 0 [aw_r 0 0, aw_r 3 0] 0 U25 (by rw [← hbv]; exact Kd.C_below CVQ.out b27) (by decide) (by rw [← hbb]; exact Kd.C_below CBQ.out b27) (by decide) (Kd.V_reads' f29).2.2 (Kd.V_reads' f29).2.1 aw_plain).mono ?_
              rintro e U30 ⟨v, rfl, r32, h31⟩
              obtain ⟨Ed, fd, e_⟩ := Kd.R_slice r32
              subst e_
              have b33 := b27.trans (h31.mono b27.size)
              have z34 := blk_below z28 h31
              refine ⟨_, rfl, ?_⟩
              refine hK.out _ _ (pS _ b33) (fun hHeld => ?_)
              clear hK K
              refine nm 33 ?_
              refine pu (i := 6) (N := some 27) #[true, true, true, true, true, true, true, false, false, true, false, false] rfl rfl (by kernel_rfl) ?_
              refine pu (i := 7) (N := some 34) #[true, true, true, true, true, true, true, true, false, true, false, false] rfl rfl (by kernel_rfl) ?_
              refine pu (i := 8) (N := some 35) #[true, true, true, true, true, true, true, true, true, true, false, false] rfl rfl (by kernel_rfl) ?_
              refine last_ (i := 10) (N := none) #[true, true, true, true, true, true, true, true, true, true, true, false] rfl rfl (by kernel_rfl) (by decide) (fun K hK => ?_)
              obtain ⟨zc, zk, zb⟩ := row4_put z34 (.int .i64 13) (.int .i64 0) (.int .i64 0) (.slice Ed 2 fd)
              have bG := b33.size
              have lG := blk_lt z34
              have hGw : WQ.heap.size ≤ U12.heap.size := gle
              refine skip_ (w1 := ((((U30.setCell ⟨U12.heap.size, 0, none⟩ (.int .i64 13)).setCell ⟨U12.heap.size, 1, none⟩ (.int .i64 0)).setCell ⟨U12.heap.size, 2, none⟩ (.int .i64 0)).setCell ⟨U12.heap.size, 3, none⟩ (.slice Ed 2 fd))) (by rfl) rfl ?st ?_
              case st =>
                have q0 : U30.cell? ⟨U12.heap.size, 0, none⟩ = some (.int .i64 0) := (blk_cell z34 0).trans rfl
                have g0 := blk_frozen z34 0
                have q1 : U30.cell? ⟨U12.heap.size, 1, none⟩ = some (.int .i64 0) := (blk_cell z34 1).trans rfl
                have g1 := blk_frozen z34 1
                have q2 : U30.cell? ⟨U12.heap.size, 2, none⟩ = some (.int .i64 0) := (blk_cell z34 2).trans rfl
                have g2 := blk_frozen z34 2
                have q3 : U30.cell? ⟨U12.heap.size, 3, none⟩ = some (.slice none 0 0) := (blk_cell z34 3).trans rfl
                have g3 := blk_frozen z34 3
                go_simp
                try rfl
              refine hK.out _ _ ?_
              clear hK K
              refine pu (i := 11) (N := some 5) #[true, true, true, true, true, true, true, true, true, true, true, true] rfl rfl (by kernel_rfl) ?_
              refine done_ (by kernel_rfl) ?_
              try simp only [Exit.then]
              try go_wp2
              go_meet
              case rel => exact ⟨_, Ed, fd, rfl, rfl, ⟨zc⟩, ⟨(Kd.R_reads' (Kd.R_step (Kd.R_bound r32) (fun q hq _ => zk q (by have h9 := hq.2.1; omega)))).2.2⟩, ⟨(Kd.R_reads' r32).2.1⟩, ⟨b33.trans (zb _ hGw)⟩⟩
          · refine value_ (w1 := ?_) (v := ?_) (by rfl) rfl ?_ ?_
            rotate_left 2
            · go_simp
              constructor
              · rfl
              · rfl
            have h36 := bal (Below.refl U7.heap.size U7) (.cells #[.int .i64 0, .int .i64 0, .int .i64 0, .slice none 0 0] 28)
            have z38 := blk_new U7 (.cells #[.int .i64 0, .int .i64 0, .int .i64 0, .slice none 0 0] 28)
            generalize U7.alloc (.cells #[.int .i64 0, .int .i64 0, .int .i64 0, .slice none 0 0] 28) = U35 at h36 z38 ⊢
            have b37 := b11.trans (h36.mono b11.size)
            have f39 := Kd.V_below v9 h36
            have gle := b11.size
            refine hK.out _ _ (pS _ b37) (fun hHeld => ?_)
            clear hK K
            refine nm 4 ?_
            refine one_ (i := 4) (N := (some 32)) #[true, true, true, true, true, false, false, false, false, true, false, false] rfl rfl (by kernel_rfl) (by decide) (fun K hK => ?_)
            refine goes_ Try.func42 (by kernel_rfl) rfl #[.int .i64 13, .slice (some ⟨U4.heap.size, 0, none⟩) 2 2] (by rfl) rfl rfl (by (try simp only [List.map_toArray, List.map_cons, List.map_nil]); rfl) ?_
            refine (r2_Of.calls 13 (fun _ => True) (some ⟨U4.heap.size, 0, none⟩) 2 [aw_r 0 0, aw_r 1 1] 13 0 0 [aw_r 0 0, aw_r 1 1] U35 f39 aw_of).mono ?_
            rintro e U40 ⟨v, rfl, o42, h41⟩
            obtain ⟨Ec, fc, e_⟩ := Kd.V_slice o42
            subst e_
            have b43 := b37.trans (h41.mono b37.size)
            have z44 := blk_below z38 h41
            refine ⟨_, rfl, ?_⟩
            refine hK.out _ _ (pS _ b43) (fun hHeld => ?_)
            clear hK K
            refine nm 32 ?_
            refine one_ (i := 5) (N := (some 33)) #[true, true, true, true, true, true, false, false, false, true, false, false] rfl rfl (by kernel_rfl) (by decide) (fun K hK => ?_)
            refine goes_ Try.func12 (by kernel_rfl) rfl #[.agg #[.int .i64 2, .slice (some ⟨bv, 0, none⟩) 2 2, .slice (some ⟨bb, 0, none⟩) 2 2], .int .i64 2, .agg #[.int .i64 13, .int .i64 0, .int .i64 0, .slice Ec 2 fc]] (by rfl) rfl rfl (by (try simp only [List.map_toArray, List.map_cons, List.map_nil]); rfl) ?_
            have lz := blk_lt z44
            refine (prod_Plain.calls 60 2 (some ⟨bv, 0, none⟩) 2 aw_vars (some ⟨bb, 0, none⟩) 2 aw_body 2 13 0 0 Ec fc [aw_r 0 0, aw_r 1 1] 13 0 0 [aw_r 0 0, aw_r 3 0] 0 U40 (by rw [← hbv]; exact Kd.C_below CVQ.out b43) (by decide) (by rw [← hbb]; exact Kd.C_below CBQ.out b43) (by decide) (Kd.V_reads' o42).2.2 (Kd.V_reads' o42).2.1 aw_plain).mono ?_
            rintro e U45 ⟨v, rfl, r47, h46⟩
            obtain ⟨Ed, fd, e_⟩ := Kd.R_slice r47
            subst e_
            have b48 := b43.trans (h46.mono b43.size)
            have z49 := blk_below z44 h46
            refine ⟨_, rfl, ?_⟩
            refine hK.out _ _ (pS _ b48) (fun hHeld => ?_)
            clear hK K
            refine nm 33 ?_
            refine pu (i := 6) (N := some 27) #[true, true, true, true, true, true, true, false, false, true, false, false] rfl rfl (by kernel_rfl) ?_
            refine pu (i := 7) (N := some 34) #[true, true, true, true, true, true, true, true, false, true, false, false] rfl rfl (by kernel_rfl) ?_
            refine pu (i := 8) (N := some 35) #[true, true, true, true, true, true, true, true, true, true, false, false] rfl rfl (by kernel_rfl) ?_
            refine last_ (i := 10) (N := none) #[true, true, true, true, true, true, true, true, true, true, true, false] rfl rfl (by kernel_rfl) (by decide) (fun K hK => ?_)
            obtain ⟨zc, zk, zb⟩ := row4_put z49 (.int .i64 13) (.int .i64 0) (.int .i64 0) (.slice Ed 2 fd)
            have bG := b48.size
            have lG := blk_lt z49
            have hGw : WQ.heap.size ≤ U7.heap.size := gle
            refine skip_ (w1 := ((((U45.setCell ⟨U7.heap.size, 0, none⟩ (.int .i64 13)).setCell ⟨U7.heap.size, 1, none⟩ (.int .i64 0)).setCell ⟨U7.heap.size, 2, none⟩ (.int .i64 0)).setCell ⟨U7.heap.size, 3, none⟩ (.slice Ed 2 fd))) (by rfl) rfl ?st ?_
            case st =>
              have q0 : U45.cell? ⟨U7.heap.size, 0, none⟩ = some (.int .i64 0) := (blk_cell z49 0).trans rfl
              have g0 := blk_frozen z49 0
              have q1 : U45.cell? ⟨U7.heap.size, 1, none⟩ = some (.int .i64 0) := (blk_cell z49 1).trans rfl
              have g1 := blk_frozen z49 1
              have q2 : U45.cell? ⟨U7.heap.size, 2, none⟩ = some (.int .i64 0) := (blk_cell z49 2).trans rfl
              have g2 := blk_frozen z49 2
              have q3 : U45.cell? ⟨U7.heap.size, 3, none⟩ = some (.slice none 0 0) := (blk_cell z49 3).trans rfl
              have g3 := blk_frozen z49 3
              go_simp
              try rfl
            refine hK.out _ _ ?_
            clear hK K
            refine pu (i := 11) (N := some 5) #[true, true, true, true, true, true, true, true, true, true, true, true] rfl rfl (by kernel_rfl) ?_
            refine done_ (by kernel_rfl) ?_
            try simp only [Exit.then]
            try go_wp2
            go_meet
            case rel => exact ⟨_, Ed, fd, rfl, rfl, ⟨zc⟩, ⟨(Kd.R_reads' (Kd.R_step (Kd.R_bound r47) (fun q hq _ => zk q (by have h9 := hq.2.1; omega)))).2.2⟩, ⟨(Kd.R_reads' r47).2.1⟩, ⟨b48.trans (zb _ hGw)⟩⟩
        · refine value_ (w1 := ?_) (v := ?_) (by rfl) rfl ?_ ?_
          rotate_left 2
          · go_simp
            constructor
            · rfl
            · rfl
          have h51 := bal (Below.refl U4.heap.size U4) (.cells #[.int .i64 0, .int .i64 0, .int .i64 0, .slice none 0 0] 28)
          have z53 := blk_new U4 (.cells #[.int .i64 0, .int .i64 0, .int .i64 0, .slice none 0 0] 28)
          generalize U4.alloc (.cells #[.int .i64 0, .int .i64 0, .int .i64 0, .slice none 0 0] 28) = U50 at h51 z53 ⊢
          have b52 := b6.trans (h51.mono b6.size)
          have gle := b6.size
          refine hK.out _ _ (pS _ b52) (fun hHeld => ?_)
          clear hK K
          refine nm 4 ?_
          refine one_ (i := 3) (N := (some 31)) #[true, true, true, true, false, false, false, false, false, true, false, false] rfl rfl (by kernel_rfl) (by decide) (fun K hK => ?_)
          refine value_ (w1 := ?_) (v := ?_) (by rfl) rfl ?_ ?_
          rotate_left 2
          · go_simp
            constructor
            · rfl
            · rfl
          have v56 := aw_row2 U50 0 0 1 1 Ea fa Eb fb
          have h55 := bal (Below.refl U50.heap.size U50) (.cells #[.int .i64 1, .int .i64 0, .int .i64 0, .slice Ea 0 fa, .int .i64 1, .int .i64 1, .int .i64 1, .slice Eb 0 fb] 28)
          (try simp only [List.length_nil])
          generalize U50.alloc (.cells #[.int .i64 1, .int .i64 0, .int .i64 0, .slice Ea 0 fa, .int .i64 1, .int .i64 1, .int .i64 1, .slice Eb 0 fb] 28) = U54 at v56 h55 ⊢
          have b58 := b52.trans (h55.mono b52.size)
          have z59 := blk_below z53 h55
          refine hK.out _ _ (pS _ b58) (fun hHeld => ?_)
          clear hK K
          refine nm 31 ?_
          refine one_ (i := 4) (N := (some 32)) #[true, true, true, true, true, false, false, false, false, true, false, false] rfl rfl (by kernel_rfl) (by decide) (fun K hK => ?_)
          refine goes_ Try.func42 (by kernel_rfl) rfl #[.int .i64 13, .slice (some ⟨U50.heap.size, 0, none⟩) 2 2] (by rfl) rfl rfl (by (try simp only [List.map_toArray, List.map_cons, List.map_nil]); rfl) ?_
          refine (r2_Of.calls 13 (fun _ => True) (some ⟨U50.heap.size, 0, none⟩) 2 [aw_r 0 0, aw_r 1 1] 13 0 0 [aw_r 0 0, aw_r 1 1] U54 v56 aw_of).mono ?_
          rintro e U60 ⟨v, rfl, o62, h61⟩
          obtain ⟨Ec, fc, e_⟩ := Kd.V_slice o62
          subst e_
          have b63 := b58.trans (h61.mono b58.size)
          have z64 := blk_below z59 h61
          refine ⟨_, rfl, ?_⟩
          refine hK.out _ _ (pS _ b63) (fun hHeld => ?_)
          clear hK K
          refine nm 32 ?_
          refine one_ (i := 5) (N := (some 33)) #[true, true, true, true, true, true, false, false, false, true, false, false] rfl rfl (by kernel_rfl) (by decide) (fun K hK => ?_)
          refine goes_ Try.func12 (by kernel_rfl) rfl #[.agg #[.int .i64 2, .slice (some ⟨bv, 0, none⟩) 2 2, .slice (some ⟨bb, 0, none⟩) 2 2], .int .i64 2, .agg #[.int .i64 13, .int .i64 0, .int .i64 0, .slice Ec 2 fc]] (by rfl) rfl rfl (by (try simp only [List.map_toArray, List.map_cons, List.map_nil]); rfl) ?_
          have lz := blk_lt z64
          refine (prod_Plain.calls 60 2 (some ⟨bv, 0, none⟩) 2 aw_vars (some ⟨bb, 0, none⟩) 2 aw_body 2 13 0 0 Ec fc [aw_r 0 0, aw_r 1 1] 13 0 0 [aw_r 0 0, aw_r 3 0] 0 U60 (by rw [← hbv]; exact Kd.C_below CVQ.out b63) (by decide) (by rw [← hbb]; exact Kd.C_below CBQ.out b63) (by decide) (Kd.V_reads' o62).2.2 (Kd.V_reads' o62).2.1 aw_plain).mono ?_
          rintro e U65 ⟨v, rfl, r67, h66⟩
          obtain ⟨Ed, fd, e_⟩ := Kd.R_slice r67
          subst e_
          have b68 := b63.trans (h66.mono b63.size)
          have z69 := blk_below z64 h66
          refine ⟨_, rfl, ?_⟩
          refine hK.out _ _ (pS _ b68) (fun hHeld => ?_)
          clear hK K
          refine nm 33 ?_
          refine pu (i := 6) (N := some 27) #[true, true, true, true, true, true, true, false, false, true, false, false] rfl rfl (by kernel_rfl) ?_
          refine pu (i := 7) (N := some 34) #[true, true, true, true, true, true, true, true, false, true, false, false] rfl rfl (by kernel_rfl) ?_
          refine pu (i := 8) (N := some 35) #[true, true, true, true, true, true, true, true, true, true, false, false] rfl rfl (by kernel_rfl) ?_
          refine last_ (i := 10) (N := none) #[true, true, true, true, true, true, true, true, true, true, true, false] rfl rfl (by kernel_rfl) (by decide) (fun K hK => ?_)
          obtain ⟨zc, zk, zb⟩ := row4_put z69 (.int .i64 13) (.int .i64 0) (.int .i64 0) (.slice Ed 2 fd)
          have bG := b68.size
          have lG := blk_lt z69
          have hGw : WQ.heap.size ≤ U4.heap.size := gle
          refine skip_ (w1 := ((((U65.setCell ⟨U4.heap.size, 0, none⟩ (.int .i64 13)).setCell ⟨U4.heap.size, 1, none⟩ (.int .i64 0)).setCell ⟨U4.heap.size, 2, none⟩ (.int .i64 0)).setCell ⟨U4.heap.size, 3, none⟩ (.slice Ed 2 fd))) (by rfl) rfl ?st ?_
          case st =>
            have q0 : U65.cell? ⟨U4.heap.size, 0, none⟩ = some (.int .i64 0) := (blk_cell z69 0).trans rfl
            have g0 := blk_frozen z69 0
            have q1 : U65.cell? ⟨U4.heap.size, 1, none⟩ = some (.int .i64 0) := (blk_cell z69 1).trans rfl
            have g1 := blk_frozen z69 1
            have q2 : U65.cell? ⟨U4.heap.size, 2, none⟩ = some (.int .i64 0) := (blk_cell z69 2).trans rfl
            have g2 := blk_frozen z69 2
            have q3 : U65.cell? ⟨U4.heap.size, 3, none⟩ = some (.slice none 0 0) := (blk_cell z69 3).trans rfl
            have g3 := blk_frozen z69 3
            go_simp
            try rfl
          refine hK.out _ _ ?_
          clear hK K
          refine pu (i := 11) (N := some 5) #[true, true, true, true, true, true, true, true, true, true, true, true] rfl rfl (by kernel_rfl) ?_
          refine done_ (by kernel_rfl) ?_
          try simp only [Exit.then]
          try go_wp2
          go_meet
          case rel => exact ⟨_, Ed, fd, rfl, rfl, ⟨zc⟩, ⟨(Kd.R_reads' (Kd.R_step (Kd.R_bound r67) (fun q hq _ => zk q (by have h9 := hq.2.1; omega)))).2.2⟩, ⟨(Kd.R_reads' r67).2.1⟩, ⟨b68.trans (zb _ hGw)⟩⟩
      · refine value_ (w1 := ?_) (v := ?_) (by rfl) rfl ?_ ?_
        rotate_left 2
        · go_simp
          constructor
          · rfl
          · rfl
        have h71 := bal (Below.refl U1.heap.size U1) (.cells #[.int .i64 0, .int .i64 0, .int .i64 0, .slice none 0 0] 28)
        have z73 := blk_new U1 (.cells #[.int .i64 0, .int .i64 0, .int .i64 0, .slice none 0 0] 28)
        generalize U1.alloc (.cells #[.int .i64 0, .int .i64 0, .int .i64 0, .slice none 0 0] 28) = U70 at h71 z73 ⊢
        have b72 := b3.trans (h71.mono b3.size)
        have gle := b3.size
        refine hK.out _ _ (pS _ b72) (fun hHeld => ?_)
        clear hK K
        refine nm 4 ?_
        refine one_ (i := 2) (N := (some 30)) #[true, true, true, false, false, false, false, false, false, true, false, false] rfl rfl (by kernel_rfl) (by decide) (fun K hK => ?_)
        refine goes_ Try.func41 (by kernel_rfl) rfl #[.int .i64 1, .int .i64 1] (by rfl) rfl rfl (by (try simp only [List.map_toArray, List.map_cons, List.map_nil]); rfl) ?_
        refine (r2_Read.calls 1 1 1 1 1 [] U70 (aw_read 1 1)).mono ?_
        rintro e U74 ⟨v, rfl, o_, h75⟩
        obtain ⟨Eb, fb, e_⟩ := Kd.R_slice o_
        subst e_
        clear o_
        have b76 := b72.trans (h75.mono b72.size)
        have z77 := blk_below z73 h75
        refine ⟨_, rfl, ?_⟩
        refine hK.out _ _ (pS _ b76) (fun hHeld => ?_)
        clear hK K
        refine nm 30 ?_
        refine one_ (i := 3) (N := (some 31)) #[true, true, true, true, false, false, false, false, false, true, false, false] rfl rfl (by kernel_rfl) (by decide) (fun K hK => ?_)
        refine value_ (w1 := ?_) (v := ?_) (by rfl) rfl ?_ ?_
        rotate_left 2
        · go_simp
          constructor
          · rfl
          · rfl
        have v80 := aw_row2 U74 0 0 1 1 Ea fa Eb fb
        have h79 := bal (Below.refl U74.heap.size U74) (.cells #[.int .i64 1, .int .i64 0, .int .i64 0, .slice Ea 0 fa, .int .i64 1, .int .i64 1, .int .i64 1, .slice Eb 0 fb] 28)
        (try simp only [List.length_nil])
        generalize U74.alloc (.cells #[.int .i64 1, .int .i64 0, .int .i64 0, .slice Ea 0 fa, .int .i64 1, .int .i64 1, .int .i64 1, .slice Eb 0 fb] 28) = U78 at v80 h79 ⊢
        have b82 := b76.trans (h79.mono b76.size)
        have z83 := blk_below z77 h79
        refine hK.out _ _ (pS _ b82) (fun hHeld => ?_)
        clear hK K
        refine nm 31 ?_
        refine one_ (i := 4) (N := (some 32)) #[true, true, true, true, true, false, false, false, false, true, false, false] rfl rfl (by kernel_rfl) (by decide) (fun K hK => ?_)
        refine goes_ Try.func42 (by kernel_rfl) rfl #[.int .i64 13, .slice (some ⟨U74.heap.size, 0, none⟩) 2 2] (by rfl) rfl rfl (by (try simp only [List.map_toArray, List.map_cons, List.map_nil]); rfl) ?_
        refine (r2_Of.calls 13 (fun _ => True) (some ⟨U74.heap.size, 0, none⟩) 2 [aw_r 0 0, aw_r 1 1] 13 0 0 [aw_r 0 0, aw_r 1 1] U78 v80 aw_of).mono ?_
        rintro e U84 ⟨v, rfl, o86, h85⟩
        obtain ⟨Ec, fc, e_⟩ := Kd.V_slice o86
        subst e_
        have b87 := b82.trans (h85.mono b82.size)
        have z88 := blk_below z83 h85
        refine ⟨_, rfl, ?_⟩
        refine hK.out _ _ (pS _ b87) (fun hHeld => ?_)
        clear hK K
        refine nm 32 ?_
        refine one_ (i := 5) (N := (some 33)) #[true, true, true, true, true, true, false, false, false, true, false, false] rfl rfl (by kernel_rfl) (by decide) (fun K hK => ?_)
        refine goes_ Try.func12 (by kernel_rfl) rfl #[.agg #[.int .i64 2, .slice (some ⟨bv, 0, none⟩) 2 2, .slice (some ⟨bb, 0, none⟩) 2 2], .int .i64 2, .agg #[.int .i64 13, .int .i64 0, .int .i64 0, .slice Ec 2 fc]] (by rfl) rfl rfl (by (try simp only [List.map_toArray, List.map_cons, List.map_nil]); rfl) ?_
        have lz := blk_lt z88
        refine (prod_Plain.calls 60 2 (some ⟨bv, 0, none⟩) 2 aw_vars (some ⟨bb, 0, none⟩) 2 aw_body 2 13 0 0 Ec fc [aw_r 0 0, aw_r 1 1] 13 0 0 [aw_r 0 0, aw_r 3 0] 0 U84 (by rw [← hbv]; exact Kd.C_below CVQ.out b87) (by decide) (by rw [← hbb]; exact Kd.C_below CBQ.out b87) (by decide) (Kd.V_reads' o86).2.2 (Kd.V_reads' o86).2.1 aw_plain).mono ?_
        rintro e U89 ⟨v, rfl, r91, h90⟩
        obtain ⟨Ed, fd, e_⟩ := Kd.R_slice r91
        subst e_
        have b92 := b87.trans (h90.mono b87.size)
        have z93 := blk_below z88 h90
        refine ⟨_, rfl, ?_⟩
        refine hK.out _ _ (pS _ b92) (fun hHeld => ?_)
        clear hK K
        refine nm 33 ?_
        refine pu (i := 6) (N := some 27) #[true, true, true, true, true, true, true, false, false, true, false, false] rfl rfl (by kernel_rfl) ?_
        refine pu (i := 7) (N := some 34) #[true, true, true, true, true, true, true, true, false, true, false, false] rfl rfl (by kernel_rfl) ?_
        refine pu (i := 8) (N := some 35) #[true, true, true, true, true, true, true, true, true, true, false, false] rfl rfl (by kernel_rfl) ?_
        refine last_ (i := 10) (N := none) #[true, true, true, true, true, true, true, true, true, true, true, false] rfl rfl (by kernel_rfl) (by decide) (fun K hK => ?_)
        obtain ⟨zc, zk, zb⟩ := row4_put z93 (.int .i64 13) (.int .i64 0) (.int .i64 0) (.slice Ed 2 fd)
        have bG := b92.size
        have lG := blk_lt z93
        have hGw : WQ.heap.size ≤ U1.heap.size := gle
        refine skip_ (w1 := ((((U89.setCell ⟨U1.heap.size, 0, none⟩ (.int .i64 13)).setCell ⟨U1.heap.size, 1, none⟩ (.int .i64 0)).setCell ⟨U1.heap.size, 2, none⟩ (.int .i64 0)).setCell ⟨U1.heap.size, 3, none⟩ (.slice Ed 2 fd))) (by rfl) rfl ?st ?_
        case st =>
          have q0 : U89.cell? ⟨U1.heap.size, 0, none⟩ = some (.int .i64 0) := (blk_cell z93 0).trans rfl
          have g0 := blk_frozen z93 0
          have q1 : U89.cell? ⟨U1.heap.size, 1, none⟩ = some (.int .i64 0) := (blk_cell z93 1).trans rfl
          have g1 := blk_frozen z93 1
          have q2 : U89.cell? ⟨U1.heap.size, 2, none⟩ = some (.int .i64 0) := (blk_cell z93 2).trans rfl
          have g2 := blk_frozen z93 2
          have q3 : U89.cell? ⟨U1.heap.size, 3, none⟩ = some (.slice none 0 0) := (blk_cell z93 3).trans rfl
          have g3 := blk_frozen z93 3
          go_simp
          try rfl
        refine hK.out _ _ ?_
        clear hK K
        refine pu (i := 11) (N := some 5) #[true, true, true, true, true, true, true, true, true, true, true, true] rfl rfl (by kernel_rfl) ?_
        refine done_ (by kernel_rfl) ?_
        try simp only [Exit.then]
        try go_wp2
        go_meet
        case rel => exact ⟨_, Ed, fd, rfl, rfl, ⟨zc⟩, ⟨(Kd.R_reads' (Kd.R_step (Kd.R_bound r91) (fun q hq _ => zk q (by have h9 := hq.2.1; omega)))).2.2⟩, ⟨(Kd.R_reads' r91).2.1⟩, ⟨b92.trans (zb _ hGw)⟩⟩
    · refine value_ (w1 := ?_) (v := ?_) (by rfl) rfl ?_ ?_
      rotate_left 2
      · go_simp
        constructor
        · rfl
        · rfl
      have h95 := bal (Below.refl U0.heap.size U0) (.cells #[.int .i64 0, .int .i64 0, .int .i64 0, .slice none 0 0] 28)
      have z97 := blk_new U0 (.cells #[.int .i64 0, .int .i64 0, .int .i64 0, .slice none 0 0] 28)
      generalize U0.alloc (.cells #[.int .i64 0, .int .i64 0, .int .i64 0, .slice none 0 0] 28) = U94 at h95 z97 ⊢
      have b96 := b0.trans (h95.mono b0.size)
      have gle := b0.size
      refine hK.out _ _ (pS _ b96) (fun hHeld => ?_)
      clear hK K
      refine nm 4 ?_
      refine one_ (i := 1) (N := (some 29)) #[true, true, false, false, false, false, false, false, false, true, false, false] rfl rfl (by kernel_rfl) (by decide) (fun K hK => ?_)
      refine goes_ Try.func41 (by kernel_rfl) rfl #[.int .i64 0, .int .i64 0] (by rfl) rfl rfl (by (try simp only [List.map_toArray, List.map_cons, List.map_nil]); rfl) ?_
      refine (r2_Read.calls 0 0 1 0 0 [] U94 (aw_read 0 0)).mono ?_
      rintro e U98 ⟨v, rfl, o_, h99⟩
      obtain ⟨Ea, fa, e_⟩ := Kd.R_slice o_
      subst e_
      clear o_
      have b100 := b96.trans (h99.mono b96.size)
      have z101 := blk_below z97 h99
      refine ⟨_, rfl, ?_⟩
      refine hK.out _ _ (pS _ b100) (fun hHeld => ?_)
      clear hK K
      refine nm 29 ?_
      refine one_ (i := 2) (N := (some 30)) #[true, true, true, false, false, false, false, false, false, true, false, false] rfl rfl (by kernel_rfl) (by decide) (fun K hK => ?_)
      refine goes_ Try.func41 (by kernel_rfl) rfl #[.int .i64 1, .int .i64 1] (by rfl) rfl rfl (by (try simp only [List.map_toArray, List.map_cons, List.map_nil]); rfl) ?_
      refine (r2_Read.calls 1 1 1 1 1 [] U98 (aw_read 1 1)).mono ?_
      rintro e U102 ⟨v, rfl, o_, h103⟩
      obtain ⟨Eb, fb, e_⟩ := Kd.R_slice o_
      subst e_
      clear o_
      have b104 := b100.trans (h103.mono b100.size)
      have z105 := blk_below z101 h103
      refine ⟨_, rfl, ?_⟩
      refine hK.out _ _ (pS _ b104) (fun hHeld => ?_)
      clear hK K
      refine nm 30 ?_
      refine one_ (i := 3) (N := (some 31)) #[true, true, true, true, false, false, false, false, false, true, false, false] rfl rfl (by kernel_rfl) (by decide) (fun K hK => ?_)
      refine value_ (w1 := ?_) (v := ?_) (by rfl) rfl ?_ ?_
      rotate_left 2
      · go_simp
        constructor
        · rfl
        · rfl
      have v108 := aw_row2 U102 0 0 1 1 Ea fa Eb fb
      have h107 := bal (Below.refl U102.heap.size U102) (.cells #[.int .i64 1, .int .i64 0, .int .i64 0, .slice Ea 0 fa, .int .i64 1, .int .i64 1, .int .i64 1, .slice Eb 0 fb] 28)
      (try simp only [List.length_nil])
      generalize U102.alloc (.cells #[.int .i64 1, .int .i64 0, .int .i64 0, .slice Ea 0 fa, .int .i64 1, .int .i64 1, .int .i64 1, .slice Eb 0 fb] 28) = U106 at v108 h107 ⊢
      have b110 := b104.trans (h107.mono b104.size)
      have z111 := blk_below z105 h107
      refine hK.out _ _ (pS _ b110) (fun hHeld => ?_)
      clear hK K
      refine nm 31 ?_
      refine one_ (i := 4) (N := (some 32)) #[true, true, true, true, true, false, false, false, false, true, false, false] rfl rfl (by kernel_rfl) (by decide) (fun K hK => ?_)
      refine goes_ Try.func42 (by kernel_rfl) rfl #[.int .i64 13, .slice (some ⟨U102.heap.size, 0, none⟩) 2 2] (by rfl) rfl rfl (by (try simp only [List.map_toArray, List.map_cons, List.map_nil]); rfl) ?_
      refine (r2_Of.calls 13 (fun _ => True) (some ⟨U102.heap.size, 0, none⟩) 2 [aw_r 0 0, aw_r 1 1] 13 0 0 [aw_r 0 0, aw_r 1 1] U106 v108 aw_of).mono ?_
      rintro e U112 ⟨v, rfl, o114, h113⟩
      obtain ⟨Ec, fc, e_⟩ := Kd.V_slice o114
      subst e_
      have b115 := b110.trans (h113.mono b110.size)
      have z116 := blk_below z111 h113
      refine ⟨_, rfl, ?_⟩
      refine hK.out _ _ (pS _ b115) (fun hHeld => ?_)
      clear hK K
      refine nm 32 ?_
      refine one_ (i := 5) (N := (some 33)) #[true, true, true, true, true, true, false, false, false, true, false, false] rfl rfl (by kernel_rfl) (by decide) (fun K hK => ?_)
      refine goes_ Try.func12 (by kernel_rfl) rfl #[.agg #[.int .i64 2, .slice (some ⟨bv, 0, none⟩) 2 2, .slice (some ⟨bb, 0, none⟩) 2 2], .int .i64 2, .agg #[.int .i64 13, .int .i64 0, .int .i64 0, .slice Ec 2 fc]] (by rfl) rfl rfl (by (try simp only [List.map_toArray, List.map_cons, List.map_nil]); rfl) ?_
      have lz := blk_lt z116
      refine (prod_Plain.calls 60 2 (some ⟨bv, 0, none⟩) 2 aw_vars (some ⟨bb, 0, none⟩) 2 aw_body 2 13 0 0 Ec fc [aw_r 0 0, aw_r 1 1] 13 0 0 [aw_r 0 0, aw_r 3 0] 0 U112 (by rw [← hbv]; exact Kd.C_below CVQ.out b115) (by decide) (by rw [← hbb]; exact Kd.C_below CBQ.out b115) (by decide) (Kd.V_reads' o114).2.2 (Kd.V_reads' o114).2.1 aw_plain).mono ?_
      rintro e U117 ⟨v, rfl, r119, h118⟩
      obtain ⟨Ed, fd, e_⟩ := Kd.R_slice r119
      subst e_
      have b120 := b115.trans (h118.mono b115.size)
      have z121 := blk_below z116 h118
      refine ⟨_, rfl, ?_⟩
      refine hK.out _ _ (pS _ b120) (fun hHeld => ?_)
      clear hK K
      refine nm 33 ?_
      refine pu (i := 6) (N := some 27) #[true, true, true, true, true, true, true, false, false, true, false, false] rfl rfl (by kernel_rfl) ?_
      refine pu (i := 7) (N := some 34) #[true, true, true, true, true, true, true, true, false, true, false, false] rfl rfl (by kernel_rfl) ?_
      refine pu (i := 8) (N := some 35) #[true, true, true, true, true, true, true, true, true, true, false, false] rfl rfl (by kernel_rfl) ?_
      refine last_ (i := 10) (N := none) #[true, true, true, true, true, true, true, true, true, true, true, false] rfl rfl (by kernel_rfl) (by decide) (fun K hK => ?_)
      obtain ⟨zc, zk, zb⟩ := row4_put z121 (.int .i64 13) (.int .i64 0) (.int .i64 0) (.slice Ed 2 fd)
      have bG := b120.size
      have lG := blk_lt z121
      have hGw : WQ.heap.size ≤ U0.heap.size := gle
      refine skip_ (w1 := ((((U117.setCell ⟨U0.heap.size, 0, none⟩ (.int .i64 13)).setCell ⟨U0.heap.size, 1, none⟩ (.int .i64 0)).setCell ⟨U0.heap.size, 2, none⟩ (.int .i64 0)).setCell ⟨U0.heap.size, 3, none⟩ (.slice Ed 2 fd))) (by rfl) rfl ?st ?_
      case st =>
        have q0 : U117.cell? ⟨U0.heap.size, 0, none⟩ = some (.int .i64 0) := (blk_cell z121 0).trans rfl
        have g0 := blk_frozen z121 0
        have q1 : U117.cell? ⟨U0.heap.size, 1, none⟩ = some (.int .i64 0) := (blk_cell z121 1).trans rfl
        have g1 := blk_frozen z121 1
        have q2 : U117.cell? ⟨U0.heap.size, 2, none⟩ = some (.int .i64 0) := (blk_cell z121 2).trans rfl
        have g2 := blk_frozen z121 2
        have q3 : U117.cell? ⟨U0.heap.size, 3, none⟩ = some (.slice none 0 0) := (blk_cell z121 3).trans rfl
        have g3 := blk_frozen z121 3
        go_simp
        try rfl
      refine hK.out _ _ ?_
      clear hK K
      refine pu (i := 11) (N := some 5) #[true, true, true, true, true, true, true, true, true, true, true, true] rfl rfl (by kernel_rfl) ?_
      refine done_ (by kernel_rfl) ?_
      try simp only [Exit.then]
      try go_wp2
      go_meet
      case rel => exact ⟨_, Ed, fd, rfl, rfl, ⟨zc⟩, ⟨(Kd.R_reads' (Kd.R_step (Kd.R_bound r119) (fun q hq _ => zk q (by have h9 := hq.2.1; omega)))).2.2⟩, ⟨(Kd.R_reads' r119).2.1⟩, ⟨b120.trans (zb _ hGw)⟩⟩
  case rest =>
    obtain ⟨G, D, d, rfl, rfl, XG, XC, Xd, XB⟩ := hcut
    have CVw : ∀ W, Below WQ.heap.size WQ W → Kd.C k66 W (some ⟨bv, 0, none⟩) aw_vars.length aw_vars := fun W h => by rw [← hbv]; exact Kd.C_below CVQ.out h
    have CBw : ∀ W, Below WQ.heap.size WQ W → Kd.C k64 W (some ⟨bb, 0, none⟩) aw_body.length aw_body := fun W h => by rw [← hbb]; exact Kd.C_below CBQ.out h
    clear hbv hbb hbp
    obtain ⟨x0, x1, x2⟩ := pS _ XB.out
    obtain ⟨CS7, b67⟩ := aw_w7 wc
    obtain ⟨W7, hW7⟩ : ∃ X, (((wc.alloc (.cells #[.int .i64 1, .int .i64 2] 3)).alloc (.cells #[.int .i64 3, .int .i64 0] 3)).alloc (.cells #[.slice (some ⟨wc.heap.size, 0, none⟩) 2 2, .slice (some ⟨wc.heap.size + 1, 0, none⟩) 2 2] 45)) = X := ⟨_, rfl⟩
    rw [hW7] at CS7 b67
    have B7 := XB.out.trans (b67.mono XB.out.size)
    go_wp2_with (first | (go_at_call 21; refine (prod_Join.calls 60 2 (some ⟨bv, 0, none⟩) 2 aw_vars (some ⟨bb, 0, none⟩) 2 aw_body (some ⟨wc.heap.size + 1 + 1, 0, none⟩) 2 [[1, 2], [3, 0]] [1, 2, 3, 0] 0 W7 (CVw _ B7) (by decide) (CBw _ B7) (by decide) CS7 (by decide) aw_join).mono ?_; rintro e W8 ⟨v, rfl, os, hb8⟩; obtain ⟨As, cs_, e_⟩ := Kd.R_slice os; subst e_; have B8 := B7.trans (hb8.mono B7.size); obtain ⟨y0, y1, y2⟩ := pS _ B8; have w8 := b67.trans (hb8.mono b67.size)) | (go_at_call 25; refine (prod_Copy.calls 60 2 (some ⟨bv, 0, none⟩) 2 aw_vars (some ⟨bb, 0, none⟩) 2 aw_body 3 0 [] [] 1 W8 (CVw _ B8) (by decide) (CBw _ B8) (by decide) aw_copy).mono ?_; rintro e W9 ⟨v1, v2, rfl, oc1, oc2, hb9⟩; obtain ⟨A9, c9, e_⟩ := Kd.R_slice oc1; subst e_; obtain ⟨A10, c10, e_⟩ := Kd.V_slice oc2; subst e_; have B9 := B8.trans (hb9.mono B8.size); have OS9 := Kd.R_below os hb9; have w9 := w8.trans (hb9.mono w8.size)) | (go_at_call 16; refine (prod_Told.calls 60 (some ⟨W9.heap.size + 1, 0, none⟩) 2 [⟨17, 3⟩, ⟨1, 2⟩] 1 [⟨1, 3⟩] _ (aw_outs2 W9 A9 c9 A10 c10) (by decide) aw_told).mono ?_; rintro e W11 ⟨v, rfl, ot, hb11⟩; obtain ⟨At, ct, e_⟩ := Kd.R_slice ot; subst e_; have b9 := (bal (bal (Below.refl W9.heap.size W9) (.cells #[.int .i64 0, .slice A9 0 c9, .slice A10 0 c10] 25)) (.cells #[.int .i64 17, .int .i64 3, .int .i64 1, .int .i64 2] 74)).trans (hb11.mono (by simp; omega)); have w11 := w9.trans (b9.mono w9.size); have B11 := B9.trans (b9.mono B9.size); have OS11 := Kd.R_below OS9 b9; have q11 := (B11.block _ (blk_lt QR.out)).trans QR.out; have u1 : W11.cell? ⟨W4.heap.size, 1, none⟩ = some (.slice D1 aw_qv.length d1) := (blk_cell q11 1).trans rfl; have u2 : W11.cell? ⟨W4.heap.size, 2, none⟩ = some (.slice D2 aw_qb.length d2) := (blk_cell q11 2).trans rfl))
    obtain ⟨ad1, e1, v0, v1, v2⟩ := at_T66 (Kd.C_below C1.out B11) 2 (by decide) (by decide)
    obtain ⟨ad2, B2, b2, B3, b3, B4, b4, e2, _, n3, _, _, _, _, _, _, _, _, _⟩ := at_T64 (Kd.C_below C2.out B11) 3 (by decide) (by decide)
    obtain ⟨ad3, B5, b5, B6, b6, B7', b7', e3, _, n2, _, _, _, _, _, _, _, _, _⟩ := at_T64 (Kd.C_below C2.out B11) 2 (by decide) (by decide)
    obtain rfl : ad2 = ad3 := Option.some.inj (e2.symm.trans e3)
    subst e1 e2
    clear e3
    have xG := (w11.block _ (blk_lt XG.out)).trans XG.out
    have XCf := Aside0.mk (Kd.C_below XC.out w11)
    have OSf := Aside0.mk OS11
    have OTf := Aside0.mk ot
    have BWf := Aside0.mk (BW.out.trans (B11.mono BW.out.size))
    have v0 : W11.cell? ⟨ad1.block, ad1.off + 6, none⟩ = some (.string ⟨#[104, 95, 49]⟩) := v0
    have v1 : W11.cell? ⟨ad1.block, ad1.off + 6 + 1, none⟩ = some (.int .i64 17) := v1
    have v2 : W11.cell? ⟨ad1.block, ad1.off + 6 + 2, none⟩ = some (.int .i64 1) := v2
    have n3 : W11.cell? ⟨ad2.block, ad2.off + 15 + 1, none⟩ = some (.int .i64 18) := n3
    have n2 : W11.cell? ⟨ad2.block, ad2.off + 10 + 1, none⟩ = some (.int .i64 2) := n2
    have x0 : W11.cell? ⟨G, 0, none⟩ = some (.int .i64 13) := (blk_cell xG 0).trans rfl
    have x1 : W11.cell? ⟨G, 1, none⟩ = some (.int .i64 0) := (blk_cell xG 1).trans rfl
    have x2 : W11.cell? ⟨G, 2, none⟩ = some (.int .i64 0) := (blk_cell xG 2).trans rfl
    have x3 : W11.cell? ⟨G, 3, none⟩ = some (.slice D 2 d) := (blk_cell xG 3).trans rfl
    have sS : ∀ W, Below W11.heap.size W11 W → W.cell? ⟨W4.heap.size, 1, none⟩ = some (.slice (some ad1) aw_qv.length d1) ∧ W.cell? ⟨W4.heap.size, 2, none⟩ = some (.slice (some ad2) aw_qb.length d2) ∧ W.cell? ⟨ad1.block, ad1.off + 6, none⟩ = some (.string ⟨#[104, 95, 49]⟩) ∧ W.cell? ⟨ad1.block, ad1.off + 6 + 1, none⟩ = some (.int .i64 17) ∧ W.cell? ⟨ad1.block, ad1.off + 6 + 2, none⟩ = some (.int .i64 1) ∧ W.cell? ⟨ad2.block, ad2.off + 15 + 1, none⟩ = some (.int .i64 18) ∧ W.cell? ⟨ad2.block, ad2.off + 10 + 1, none⟩ = some (.int .i64 2) ∧ W.cell? ⟨G, 0, none⟩ = some (.int .i64 13) ∧ W.cell? ⟨G, 1, none⟩ = some (.int .i64 0) ∧ W.cell? ⟨G, 2, none⟩ = some (.int .i64 0) ∧ W.cell? ⟨G, 3, none⟩ = some (.slice D 2 d) := fun W hW => ⟨(hW.cell (World.block_lt_of_cell? W11 _ u1)).trans u1, (hW.cell (World.block_lt_of_cell? W11 _ u2)).trans u2, (hW.cell (World.block_lt_of_cell? W11 _ v0)).trans v0, (hW.cell (World.block_lt_of_cell? W11 _ v1)).trans v1, (hW.cell (World.block_lt_of_cell? W11 _ v2)).trans v2, (hW.cell (World.block_lt_of_cell? W11 _ n3)).trans n3, (hW.cell (World.block_lt_of_cell? W11 _ n2)).trans n2, (hW.cell (World.block_lt_of_cell? W11 _ x0)).trans x0, (hW.cell (World.block_lt_of_cell? W11 _ x1)).trans x1, (hW.cell (World.block_lt_of_cell? W11 _ x2)).trans x2, (hW.cell (World.block_lt_of_cell? W11 _ x3)).trans x3⟩
    refine start_ (n := 42) (S := fun W => W.cell? ⟨W4.heap.size, 1, none⟩ = some (.slice (some ad1) aw_qv.length d1) ∧ W.cell? ⟨W4.heap.size, 2, none⟩ = some (.slice (some ad2) aw_qb.length d2) ∧ W.cell? ⟨ad1.block, ad1.off + 6, none⟩ = some (.string ⟨#[104, 95, 49]⟩) ∧ W.cell? ⟨ad1.block, ad1.off + 6 + 1, none⟩ = some (.int .i64 17) ∧ W.cell? ⟨ad1.block, ad1.off + 6 + 2, none⟩ = some (.int .i64 1) ∧ W.cell? ⟨ad2.block, ad2.off + 15 + 1, none⟩ = some (.int .i64 18) ∧ W.cell? ⟨ad2.block, ad2.off + 10 + 1, none⟩ = some (.int .i64 2) ∧ W.cell? ⟨G, 0, none⟩ = some (.int .i64 13) ∧ W.cell? ⟨G, 1, none⟩ = some (.int .i64 0) ∧ W.cell? ⟨G, 2, none⟩ = some (.int .i64 0) ∧ W.cell? ⟨G, 3, none⟩ = some (.slice D 2 d)) (ds := []) #[false, false, false, false, false, false, false, false, false, false, false, false, false, false, false, false, false, false, false, false, false, false, false, false, false, false, false, false, false, false, false, false, false, false, false, false, false, false, false, false, false, false] (by kernel_rfl) rfl rfl (sS _ (below_drew (Below.refl _ _))) (fun hHeld => ?_)
    have b0 := below_drew (Below.refl W11.heap.size W11)
    generalize W11.drew = U0 at b0 hHeld ⊢
    refine pu (i := 0) (N := some 79) #[true, false, false, false, false, false, false, false, false, false, false, false, false, false, false, false, false, false, false, false, false, false, false, false, false, false, false, false, false, false, false, false, false, false, false, false, false, false, false, false, false, false] rfl rfl (by kernel_rfl) ?_
    refine tk (i := 1) (N := some 80) #[true, true, false, false, false, false, false, false, false, false, false, false, false, false, false, false, false, false, false, false, false, false, false, false, false, false, false, false, false, false, false, false, false, false, false, false, false, false, false, false, false, false] rfl rfl (by kernel_rfl) hHeld ?_
    refine pu (i := 2) (N := some 81) #[true, true, true, false, false, false, false, false, false, false, false, false, false, false, false, false, false, false, false, false, false, false, false, false, false, false, false, false, false, false, false, false, false, false, false, false, false, false, false, false, false, false] rfl rfl (by kernel_rfl) ?_
    refine tk (i := 3) (N := some 82) #[true, true, true, true, false, false, false, false, false, false, false, false, false, false, false, false, false, false, false, false, false, false, false, false, false, false, false, false, false, false, false, false, false, false, false, false, false, false, false, false, false, false] rfl rfl (by kernel_rfl) hHeld ?_
    refine pu (i := 4) (N := some 83) #[true, true, true, true, true, false, false, false, false, false, false, false, false, false, false, false, false, false, false, false, false, false, false, false, false, false, false, false, false, false, false, false, false, false, false, false, false, false, false, false, false, false] rfl rfl (by kernel_rfl) ?_
    refine pu (i := 5) (N := some 84) #[true, true, true, true, true, true, false, false, false, false, false, false, false, false, false, false, false, false, false, false, false, false, false, false, false, false, false, false, false, false, false, false, false, false, false, false, false, false, false, false, false, false] rfl rfl (by kernel_rfl) ?_
    refine pu (i := 6) (N := some 85) #[true, true, true, true, true, true, true, false, false, false, false, false, false, false, false, false, false, false, false, false, false, false, false, false, false, false, false, false, false, false, false, false, false, false, false, false, false, false, false, false, false, false] rfl rfl (by kernel_rfl) ?_
    refine pu (i := 7) (N := some 86) #[true, true, true, true, true, true, true, true, false, false, false, false, false, false, false, false, false, false, false, false, false, false, false, false, false, false, false, false, false, false, false, false, false, false, false, false, false, false, false, false, false, false] rfl rfl (by kernel_rfl) ?_
    refine tk (i := 8) (N := some 87) #[true, true, true, true, true, true, true, true, true, false, false, false, false, false, false, false, false, false, false, false, false, false, false, false, false, false, false, false, false, false, false, false, false, false, false, false, false, false, false, false, false, false] rfl rfl (by kernel_rfl) hHeld ?_
    refine pu (i := 9) (N := some 88) #[true, true, true, true, true, true, true, true, true, true, false, false, false, false, false, false, false, false, false, false, false, false, false, false, false, false, false, false, false, false, false, false, false, false, false, false, false, false, false, false, false, false] rfl rfl (by kernel_rfl) ?_
    refine pu (i := 10) (N := some 89) #[true, true, true, true, true, true, true, true, true, true, true, false, false, false, false, false, false, false, false, false, false, false, false, false, false, false, false, false, false, false, false, false, false, false, false, false, false, false, false, false, false, false] rfl rfl (by kernel_rfl) ?_
    refine tk (i := 11) (N := some 90) #[true, true, true, true, true, true, true, true, true, true, true, true, false, false, false, false, false, false, false, false, false, false, false, false, false, false, false, false, false, false, false, false, false, false, false, false, false, false, false, false, false, false] rfl rfl (by kernel_rfl) hHeld ?_
    refine pu (i := 12) (N := some 91) #[true, true, true, true, true, true, true, true, true, true, true, true, true, false, false, false, false, false, false, false, false, false, false, false, false, false, false, false, false, false, false, false, false, false, false, false, false, false, false, false, false, false] rfl rfl (by kernel_rfl) ?_
    refine pu (i := 13) (N := some 92) #[true, true, true, true, true, true, true, true, true, true, true, true, true, true, false, false, false, false, false, false, false, false, false, false, false, false, false, false, false, false, false, false, false, false, false, false, false, false, false, false, false, false] rfl rfl (by kernel_rfl) ?_
    refine pu (i := 14) (N := some 93) #[true, true, true, true, true, true, true, true, true, true, true, true, true, true, true, false, false, false, false, false, false, false, false, false, false, false, false, false, false, false, false, false, false, false, false, false, false, false, false, false, false, false] rfl rfl (by kernel_rfl) ?_
    refine pu (i := 15) (N := some 94) #[true, true, true, true, true, true, true, true, true, true, true, true, true, true, true, true, false, false, false, false, false, false, false, false, false, false, false, false, false, false, false, false, false, false, false, false, false, false, false, false, false, false] rfl rfl (by kernel_rfl) ?_
    refine tk (i := 16) (N := some 95) #[true, true, true, true, true, true, true, true, true, true, true, true, true, true, true, true, true, false, false, false, false, false, false, false, false, false, false, false, false, false, false, false, false, false, false, false, false, false, false, false, false, false] rfl rfl (by kernel_rfl) hHeld ?_
    refine pu (i := 17) (N := some 96) #[true, true, true, true, true, true, true, true, true, true, true, true, true, true, true, true, true, true, false, false, false, false, false, false, false, false, false, false, false, false, false, false, false, false, false, false, false, false, false, false, false, false] rfl rfl (by kernel_rfl) ?_
    refine pu (i := 18) (N := some 97) #[true, true, true, true, true, true, true, true, true, true, true, true, true, true, true, true, true, true, true, false, false, false, false, false, false, false, false, false, false, false, false, false, false, false, false, false, false, false, false, false, false, false] rfl rfl (by kernel_rfl) ?_
    refine tk (i := 19) (N := some 98) #[true, true, true, true, true, true, true, true, true, true, true, true, true, true, true, true, true, true, true, true, false, false, false, false, false, false, false, false, false, false, false, false, false, false, false, false, false, false, false, false, false, false] rfl rfl (by kernel_rfl) hHeld ?_
    refine pu (i := 20) (N := some 99) #[true, true, true, true, true, true, true, true, true, true, true, true, true, true, true, true, true, true, true, true, true, false, false, false, false, false, false, false, false, false, false, false, false, false, false, false, false, false, false, false, false, false] rfl rfl (by kernel_rfl) ?_
    refine pu (i := 21) (N := some 100) #[true, true, true, true, true, true, true, true, true, true, true, true, true, true, true, true, true, true, true, true, true, true, false, false, false, false, false, false, false, false, false, false, false, false, false, false, false, false, false, false, false, false] rfl rfl (by kernel_rfl) ?_
    refine pu (i := 22) (N := some 101) #[true, true, true, true, true, true, true, true, true, true, true, true, true, true, true, true, true, true, true, true, true, true, true, false, false, false, false, false, false, false, false, false, false, false, false, false, false, false, false, false, false, false] rfl rfl (by kernel_rfl) ?_
    refine tk (i := 23) (N := some 102) #[true, true, true, true, true, true, true, true, true, true, true, true, true, true, true, true, true, true, true, true, true, true, true, true, false, false, false, false, false, false, false, false, false, false, false, false, false, false, false, false, false, false] rfl rfl (by kernel_rfl) hHeld ?_
    refine one_ (i := 24) (N := (some 103)) #[true, true, true, true, true, true, true, true, true, true, true, true, true, true, true, true, true, true, true, true, true, true, true, true, true, false, false, false, false, false, false, false, false, false, false, false, false, false, false, false, false, false] rfl rfl (by kernel_rfl) (by decide) (fun K hK => ?_)
    refine goes_ Try.func41 (by kernel_rfl) rfl #[.int .i64 0, .int .i64 0] (by rfl) rfl rfl (by (try simp only [List.map_toArray, List.map_cons, List.map_nil]); rfl) ?_
    refine (r2_Read.calls 0 0 1 0 0 [] U0 (aw_read 0 0)).mono ?_
    rintro e X1 ⟨v, rfl, o_, hb_⟩
    obtain ⟨Ea, fa, e_⟩ := Kd.R_slice o_
    subst e_
    clear o_
    have c1 := b0.trans (hb_.mono b0.size)
    refine ⟨_, rfl, ?_⟩
    refine hK.out _ _ (sS _ c1) (fun hHeld => ?_)
    clear hK K
    refine nm 103 ?_
    refine one_ (i := 25) (N := (some 104)) #[true, true, true, true, true, true, true, true, true, true, true, true, true, true, true, true, true, true, true, true, true, true, true, true, true, true, false, false, false, false, false, false, false, false, false, false, false, false, false, false, false, false] rfl rfl (by kernel_rfl) (by decide) (fun K hK => ?_)
    refine goes_ Try.func41 (by kernel_rfl) rfl #[.int .i64 3, .int .i64 0] (by rfl) rfl rfl (by (try simp only [List.map_toArray, List.map_cons, List.map_nil]); rfl) ?_
    refine (r2_Read.calls 3 0 1 3 0 [] X1 (aw_read 3 0)).mono ?_
    rintro e X2 ⟨v, rfl, o_, hb_⟩
    obtain ⟨Eb, fb, e_⟩ := Kd.R_slice o_
    subst e_
    clear o_
    have c2 := c1.trans (hb_.mono c1.size)
    refine ⟨_, rfl, ?_⟩
    refine hK.out _ _ (sS _ c2) (fun hHeld => ?_)
    clear hK K
    refine nm 104 ?_
    refine one_ (i := 26) (N := (some 105)) #[true, true, true, true, true, true, true, true, true, true, true, true, true, true, true, true, true, true, true, true, true, true, true, true, true, true, true, false, false, false, false, false, false, false, false, false, false, false, false, false, false, false] rfl rfl (by kernel_rfl) (by decide) (fun K hK => ?_)
    refine value_ (w1 := ?_) (v := ?_) (by rfl) rfl ?_ ?_
    rotate_left 2
    · go_simp
      constructor
      · rfl
      · rfl
    have vf := aw_row2 X2 0 0 3 0 Ea fa Eb fb
    have hb_ := bal (Below.refl X2.heap.size X2) (.cells #[.int .i64 1, .int .i64 0, .int .i64 0, .slice Ea 0 fa, .int .i64 1, .int .i64 3, .int .i64 0, .slice Eb 0 fb] 28)
    (try simp only [List.length_nil])
    generalize X2.alloc (.cells #[.int .i64 1, .int .i64 0, .int .i64 0, .slice Ea 0 fa, .int .i64 1, .int .i64 3, .int .i64 0, .slice Eb 0 fb] 28) = X3 at vf hb_ ⊢
    have c3 := c2.trans (hb_.mono c2.size)
    refine hK.out _ _ (sS _ c3) (fun hHeld => ?_)
    clear hK K
    refine nm 105 ?_
    refine one_ (i := 27) (N := (some 106)) #[true, true, true, true, true, true, true, true, true, true, true, true, true, true, true, true, true, true, true, true, true, true, true, true, true, true, true, true, false, false, false, false, false, false, false, false, false, false, false, false, false, false] rfl rfl (by kernel_rfl) (by decide) (fun K hK => ?_)
    refine goes_ Try.func42 (by kernel_rfl) rfl #[.int .i64 13, .slice (some ⟨X2.heap.size, 0, none⟩) 2 2] (by rfl) rfl rfl (by (try simp only [List.map_toArray, List.map_cons, List.map_nil]); rfl) ?_
    refine (r2_Of.calls 13 (fun _ => True) (some ⟨X2.heap.size, 0, none⟩) 2 [aw_r 0 0, aw_r 3 0] 13 0 0 [aw_r 0 0, aw_r 3 0] X3 vf aw_of2).mono ?_
    rintro e X4 ⟨v, rfl, vo, hb_⟩
    obtain ⟨Ec, fc, e_⟩ := Kd.V_slice vo
    subst e_
    have c4 := c3.trans (hb_.mono c3.size)
    refine ⟨_, rfl, ?_⟩
    refine hK.out _ _ (sS _ c4) (fun hHeld => ?_)
    clear hK K
    refine nm 106 ?_
    refine one_ (i := 28) (N := (some 107)) #[true, true, true, true, true, true, true, true, true, true, true, true, true, true, true, true, true, true, true, true, true, true, true, true, true, true, true, true, true, false, false, false, false, false, false, false, false, false, false, false, false, false] rfl rfl (by kernel_rfl) (by decide) (fun K hK => ?_)
    refine goes_ Try.func14 (by kernel_rfl) rfl #[.agg #[.int .i64 13, .int .i64 0, .int .i64 0, .slice D 2 d], .agg #[.int .i64 13, .int .i64 0, .int .i64 0, .slice Ec 2 fc]] (by rfl) rfl rfl (by (try simp only [List.map_toArray, List.map_cons, List.map_nil]); rfl) ?_
    refine (r2_Same.calls 60 13 0 0 D d [aw_r 0 0, aw_r 3 0] 13 0 0 Ec fc [aw_r 0 0, aw_r 3 0] true X4 (Kd.C_below XCf.out c4) Xd.out (Kd.V_reads' vo).2.2 (Kd.V_reads' vo).2.1 aw_sameE).mono ?_
    rintro e X5 ⟨rfl, hb_⟩
    have c5 := c4.trans (hb_.mono c4.size)
    refine ⟨_, rfl, ?_⟩
    refine hK.out _ _ (sS _ c5) (fun hHeld => ?_)
    clear hK K
    refine nm 107 ?_
    refine pu (i := 29) (N := some 108) #[true, true, true, true, true, true, true, true, true, true, true, true, true, true, true, true, true, true, true, true, true, true, true, true, true, true, true, true, true, true, false, false, false, false, false, false, false, false, false, false, false, false] rfl rfl (by kernel_rfl) ?_
    refine pu (i := 30) (N := some 109) #[true, true, true, true, true, true, true, true, true, true, true, true, true, true, true, true, true, true, true, true, true, true, true, true, true, true, true, true, true, true, true, false, false, false, false, false, false, false, false, false, false, false] rfl rfl (by kernel_rfl) ?_
    refine pu (i := 31) (N := some 110) #[true, true, true, true, true, true, true, true, true, true, true, true, true, true, true, true, true, true, true, true, true, true, true, true, true, true, true, true, true, true, true, true, false, false, false, false, false, false, false, false, false, false] rfl rfl (by kernel_rfl) ?_
    refine one_ (i := 32) (N := (some 111)) #[true, true, true, true, true, true, true, true, true, true, true, true, true, true, true, true, true, true, true, true, true, true, true, true, true, true, true, true, true, true, true, true, true, false, false, false, false, false, false, false, false, false] rfl rfl (by kernel_rfl) (by decide) (fun K hK => ?_)
    refine value_ (w1 := ?_) (v := ?_) (by rfl) rfl ?_ ?_
    rotate_left 2
    · go_simp
      constructor
      · rfl
      · rfl
    have ci := aw_int4 (blk_new X5 (.cells #[.int .i64 1, .int .i64 2, .int .i64 3, .int .i64 0] 3))
    have hb_ := bal (Below.refl X5.heap.size X5) (.cells #[.int .i64 1, .int .i64 2, .int .i64 3, .int .i64 0] 3)
    generalize X5.alloc (.cells #[.int .i64 1, .int .i64 2, .int .i64 3, .int .i64 0] 3) = X6 at ci hb_ ⊢
    have c6 := c5.trans (hb_.mono c5.size)
    refine hK.out _ _ (sS _ c6) (fun hHeld => ?_)
    clear hK K
    refine nm 111 ?_
    refine one_ (i := 33) (N := (some 112)) #[true, true, true, true, true, true, true, true, true, true, true, true, true, true, true, true, true, true, true, true, true, true, true, true, true, true, true, true, true, true, true, true, true, true, false, false, false, false, false, false, false, false] rfl rfl (by kernel_rfl) (by decide) (fun K hK => ?_)
    refine goes_ Try.func35 (by kernel_rfl) rfl #[.slice As 4 cs_, .slice (some ⟨X5.heap.size, 0, none⟩) 4 4] (by rfl) rfl rfl (by (try simp only [List.map_toArray, List.map_cons, List.map_nil]); rfl) ?_
    refine (r1_Same.calls 60 As cs_ [1, 2, 3, 0] (some ⟨X5.heap.size, 0, none⟩) 4 [1, 2, 3, 0] true X6 (Kd.R_reads' (Kd.R_below OSf.out c6)).2.2 (Kd.R_reads' OSf.out).2.1 ci (by decide) aw_sameI).mono ?_
    rintro e X7 ⟨rfl, hd_⟩
    have hb_ : Below X6.heap.size X6 X7 := by
      obtain ⟨nd, rfl⟩ := hd_
      exact bdN (Below.refl _ _) nd
    clear hd_
    have c7 := c6.trans (hb_.mono c6.size)
    refine ⟨_, rfl, ?_⟩
    refine hK.out _ _ (sS _ c7) (fun hHeld => ?_)
    clear hK K
    refine nm 112 ?_
    refine pu (i := 34) (N := some 113) #[true, true, true, true, true, true, true, true, true, true, true, true, true, true, true, true, true, true, true, true, true, true, true, true, true, true, true, true, true, true, true, true, true, true, true, false, false, false, false, false, false, false] rfl rfl (by kernel_rfl) ?_
    refine pu (i := 35) (N := some 114) #[true, true, true, true, true, true, true, true, true, true, true, true, true, true, true, true, true, true, true, true, true, true, true, true, true, true, true, true, true, true, true, true, true, true, true, true, false, false, false, false, false, false] rfl rfl (by kernel_rfl) ?_
    refine pu (i := 36) (N := some 115) #[true, true, true, true, true, true, true, true, true, true, true, true, true, true, true, true, true, true, true, true, true, true, true, true, true, true, true, true, true, true, true, true, true, true, true, true, true, false, false, false, false, false] rfl rfl (by kernel_rfl) ?_
    refine pu (i := 37) (N := some 116) #[true, true, true, true, true, true, true, true, true, true, true, true, true, true, true, true, true, true, true, true, true, true, true, true, true, true, true, true, true, true, true, true, true, true, true, true, true, true, false, false, false, false] rfl rfl (by kernel_rfl) ?_
    refine one_ (i := 38) (N := (some 117)) #[true, true, true, true, true, true, true, true, true, true, true, true, true, true, true, true, true, true, true, true, true, true, true, true, true, true, true, true, true, true, true, true, true, true, true, true, true, true, true, false, false, false] rfl rfl (by kernel_rfl) (by decide) (fun K hK => ?_)
    refine value_ (w1 := ?_) (v := ?_) (by rfl) rfl ?_ ?_
    rotate_left 2
    · go_simp
      constructor
      · rfl
      · rfl
    have co := aw_out1 (blk_new X7 (.cells #[.int .i64 1, .int .i64 3] 74))
    have hb_ := bal (Below.refl X7.heap.size X7) (.cells #[.int .i64 1, .int .i64 3] 74)
    generalize X7.alloc (.cells #[.int .i64 1, .int .i64 3] 74) = X8 at co hb_ ⊢
    have c8 := c7.trans (hb_.mono c7.size)
    refine hK.out _ _ (sS _ c8) (fun hHeld => ?_)
    clear hK K
    refine nm 117 ?_
    refine one_ (i := 39) (N := (some 118)) #[true, true, true, true, true, true, true, true, true, true, true, true, true, true, true, true, true, true, true, true, true, true, true, true, true, true, true, true, true, true, true, true, true, true, true, true, true, true, true, true, false, false] rfl rfl (by kernel_rfl) (by decide) (fun K hK => ?_)
    refine goes_ Try.func15 (by kernel_rfl) rfl #[.slice At 1 ct, .slice (some ⟨X7.heap.size, 0, none⟩) 1 1] (by rfl) rfl rfl (by (try simp only [List.map_toArray, List.map_cons, List.map_nil]); rfl) ?_
    refine (r5_Outs.calls 60 At ct [⟨1, 3⟩] (some ⟨X7.heap.size, 0, none⟩) 1 [⟨1, 3⟩] true X8 (Kd.R_reads' (Kd.R_below OTf.out c8)).2.2 (Kd.R_reads' OTf.out).2.1 co (by decide) aw_outs).mono ?_
    rintro e X9 ⟨rfl, hd_⟩
    have hb_ : Below X8.heap.size X8 X9 := by
      obtain ⟨nd, rfl⟩ := hd_
      exact bdN (Below.refl _ _) nd
    clear hd_
    have c9_ := c8.trans (hb_.mono c8.size)
    refine ⟨_, rfl, ?_⟩
    refine hK.out _ _ (sS _ c9_) (fun hHeld => ?_)
    clear hK K
    refine nm 118 ?_
    refine pu (i := 40) (N := some 119) #[true, true, true, true, true, true, true, true, true, true, true, true, true, true, true, true, true, true, true, true, true, true, true, true, true, true, true, true, true, true, true, true, true, true, true, true, true, true, true, true, true, false] rfl rfl (by kernel_rfl) ?_
    refine pu (i := 41) (N := some 0) #[true, true, true, true, true, true, true, true, true, true, true, true, true, true, true, true, true, true, true, true, true, true, true, true, true, true, true, true, true, true, true, true, true, true, true, true, true, true, true, true, true, true] rfl rfl (by kernel_rfl) ?_
    refine done_ (by kernel_rfl) ?_
    try simp only [Exit.then]
    go_wp2
    go_ret
    exact ⟨rfl, BWf.out.trans (c9_.mono BWf.out.size)⟩
end Go.Proofs.Ytilebfkehmecaaa.Print
namespace Go.Proofs.Ytilebfkehmecaaa.Print
open Go.RowKit Go.Proofs.YtilebfkehmecaaaW.PrintWords Go.Proofs.YtilebfkehmecaaaW.PrintLast Go.Proofs.YtilebfkehmecaaaW.PrintMore
attribute [local go_sem] max2_int min2_int max_two min_two max_three min_three max_four min_four
set_option linter.unusedVariables false
set_option linter.unusedSimpArgs false
def w12_ProdStores.j0 : Nat → List (List Int) → List Int → Int → Bool → Int → List (S66) → List (S64) → Option (Bool)
 | 0, _, _, _, _, _, _, _ => none
 | k + 1, x2, x9, x10, x68, x740000, x740001, x740002 => if x68 = true then (some false) else (if x10 = 0 then ((prod_Split.f k x740000 x740001 x740002 (x2.length : Int) x9).bind fun bt760 => (if bt760.2 = 0 then ((w12_lists.f k bt760.1 x2).bind fun t764 => (if t764 = true then ((w12_awake.f k).bind fun t765 => (some t765)) else (some false))) else (some false))) else ((w12_awake.f k).bind fun t766 => (some t766)))
def w12_ProdStores.f (k : Nat) (a0_0 : Int) (l0_1 : List (S66)) (l0_2 : List (S64)) (a1 : Int) (l2 : List (List Int)) (l3 : List Int) : Option (Bool) := (r3_Fits.f k l0_2 600).bind fun t740 => (if t740 = true then ((prod_Join.f k a0_0 l0_1 l0_2 l2).bind fun bt742 => ((prod_Split.f k a0_0 l0_1 l0_2 a1 l3).bind fun bt746 => ((r12_Join.f k a0_0 l0_1 l0_2 l2).bind fun bt750 => ((r12_Split.f k a0_0 l0_1 l0_2 a1 l3).bind fun bt754 => (if bt742.2 = bt750.2 then (if bt746.2 = bt754.2 then ((r1_Same.f k bt742.1 bt750.1).bind fun t758 => (if t758 = true then ((w12_lists.f k bt746.1 bt754.1).bind fun t759 => (w12_ProdStores.j0 k l2 bt742.1 bt742.2 (!t759) a0_0 l0_1 l0_2)) else (w12_ProdStores.j0 k l2 bt742.1 bt742.2 true a0_0 l0_1 l0_2))) else (w12_ProdStores.j0 k l2 bt742.1 bt742.2 true a0_0 l0_1 l0_2)) else (w12_ProdStores.j0 k l2 bt742.1 bt742.2 true a0_0 l0_1 l0_2)))))) else ((w12_awake.f k).bind fun t741 => (some t741)))
set_option maxHeartbeats 8000000 in
set_option maxRecDepth 100000 in
theorem w12_ProdStores.calls (k : Nat) (a0_0 : Int) (A0_1 : Option Addr) (c0_1 : Nat) (l0_1 : List (S66)) (A0_2 : Option Addr) (c0_2 : Nat) (l0_2 : List (S64)) (a1 : Int) (A2 : Option Addr) (c2 : Nat) (l2 : List (List Int)) (A3 : Option Addr) (c3 : Nat) (l3 : List Int) (r : Bool) (w : World) (hr0_1 : Kd.C k66 w A0_1 l0_1.length l0_1) (hc0_1 : l0_1.length ≤ c0_1) (hr0_2 : Kd.C k64 w A0_2 l0_2.length l0_2) (hc0_2 : l0_2.length ≤ c0_2) (hr2 : Kd.C (Kd.slice 3 (Kd.int .i64)) w A2 l2.length l2) (hc2 : l2.length ≤ c2) (hr3 : Kd.C (Kd.int .i64) w A3 l3.length l3) (hc3 : l3.length ≤ c3) (hrt : r = true) (h : w12_ProdStores.f k a0_0 l0_1 l0_2 a1 l2 l3 = some r) :
  Calls Try.prog 7 #[.agg #[.int .i64 a0_0, .slice A0_1 l0_1.length c0_1, .slice A0_2 l0_2.length c0_2], .int .i64 a1, .slice A2 l2.length c2, .slice A3 l3.length c3] w fun e w' => e = .returned (.bool r) ∧ Below w.heap.size w w' := by
 have hu25 := Try.underlying25
 have HR0_1 := Aside0.mk hr0_1
 have HC0_1 := Aside0.mk hc0_1
 clear hr0_1 hc0_1
 have HR0_2 := Aside0.mk hr0_2
 have HC0_2 := Aside0.mk hc0_2
 clear hr0_2 hc0_2
 have HR2 := Aside0.mk hr2
 have HC2 := Aside0.mk hc2
 clear hr2 hc2
 have HR3 := Aside0.mk hr3
 have HC3 := Aside0.mk hc3
 clear hr3 hc3
 have HB := Aside0.mk (Below.refl w.heap.size w)
 have H : ((r3_Fits.f k l0_2 600).bind fun t740 => (if t740 = true then ((prod_Join.f k a0_0 l0_1 l0_2 l2).bind fun bt742 => ((prod_Split.f k a0_0 l0_1 l0_2 a1 l3).bind fun bt746 => ((r12_Join.f k a0_0 l0_1 l0_2 l2).bind fun bt750 => ((r12_Split.f k a0_0 l0_1 l0_2 a1 l3).bind fun bt754 => (if bt742.2 = bt750.2 then (if bt746.2 = bt754.2 then ((r1_Same.f k bt742.1 bt750.1).bind fun t758 => (if t758 = true then ((w12_lists.f k bt746.1 bt754.1).bind fun t759 => (w12_ProdStores.j0 k l2 bt742.1 bt742.2 (!t759) a0_0 l0_1 l0_2)) else (w12_ProdStores.j0 k l2 bt742.1 bt742.2 true a0_0 l0_1 l0_2))) else (w12_ProdStores.j0 k l2 bt742.1 bt742.2 true a0_0 l0_1 l0_2)) else (w12_ProdStores.j0 k l2 bt742.1 bt742.2 true a0_0 l0_1 l0_2)))))) else ((w12_awake.f k).bind fun t741 => (some t741)))) = some r := h
 clear h
 obtain ⟨t740, A5, H⟩ := be H
 replace H : (if t740 = true then ((prod_Join.f k a0_0 l0_1 l0_2 l2).bind fun bt742 => ((prod_Split.f k a0_0 l0_1 l0_2 a1 l3).bind fun bt746 => ((r12_Join.f k a0_0 l0_1 l0_2 l2).bind fun bt750 => ((r12_Split.f k a0_0 l0_1 l0_2 a1 l3).bind fun bt754 => (if bt742.2 = bt750.2 then (if bt746.2 = bt754.2 then ((r1_Same.f k bt742.1 bt750.1).bind fun t758 => (if t758 = true then ((w12_lists.f k bt746.1 bt754.1).bind fun t759 => (w12_ProdStores.j0 k l2 bt742.1 bt742.2 (!t759) a0_0 l0_1 l0_2)) else (w12_ProdStores.j0 k l2 bt742.1 bt742.2 true a0_0 l0_1 l0_2))) else (w12_ProdStores.j0 k l2 bt742.1 bt742.2 true a0_0 l0_1 l0_2)) else (w12_ProdStores.j0 k l2 bt742.1 bt742.2 true a0_0 l0_1 l0_2)))))) else ((w12_awake.f k).bind fun t741 => (some t741))) = some r := H
 by_cases c6 : t740 = true
 rotate_left
 ·replace c6 := Bool.eq_false_iff.mpr c6
  subst c6
  have H1 : ((w12_awake.f k).bind fun t741 => (some t741)) = some r := by rw [if_neg (show ¬ (false = true) by decide)] at H; exact H
  clear H
  have H := H1
  clear H1
  obtain ⟨t741, A55, H⟩ := be H
  replace H : (some t741) = some r := H
  obtain rfl := Option.some.inj H
  go_enter Try.func7, Try.ntmps7
  go_wp2_with (first | ((with_reducible refine gate_dst (N := 4) rfl ?_); refine bx 4 rfl rfl #[.int .i64 a0_0, .slice A0_1 l0_1.length c0_1, .slice A0_2 l0_2.length c0_2] 25 ?_; intro gb739 hg w56 hbox hb; have BK739 := Aside0.mk (hbox); have GW739 := ge HB hg; have GE739 := ge HB hg; replace HB := sb HB hb; clear hb hbox hg; obtain ⟨hcz57_0, hcz57_1, hcz57_2, hfz57_0, hfz57_1, hfz57_2⟩ := cf3 BK739.out) | ((with_reducible refine gate_callee (f := 9) rfl ?_); refine gL (some 20) rfl rfl Try.func9 #[.slice A0_2 l0_2.length c0_2, .int .i64 600] rfl ?_; (with_reducible refine (r3_Fits.calls k _ _ l0_2 600 false _ ?side1 ?side2 A5.out).mono ?_); (case side1 => exact cb HR0_2 HB); (case side2 => exact HC0_2.out); rintro e w58 ⟨rfl, hb⟩; refine ⟨_, rfl, ?_⟩; replace BK739 := kb BK739 hb; replace HB := sb HB hb; (try clear hb); (try clear hb2); (try clear hk); (try clear hi)) | ((with_reducible refine gate_callee (f := 11) rfl ?_); refine gL (some 22) rfl rfl Try.func11 #[] rfl ?_; (with_reducible refine (w12_awake.calls k  t741 _ A55.out).mono ?_); rintro e w59 ⟨rfl, hb⟩; refine ⟨_, rfl, ?_⟩; replace BK739 := kb BK739 hb; replace HB := sb HB hb; (try clear hb); (try clear hb2); (try clear hk); (try clear hi)))
  go_ret
  exact ⟨rr, bb HB⟩
 subst c6
 have H1 : ((prod_Join.f k a0_0 l0_1 l0_2 l2).bind fun bt742 => ((prod_Split.f k a0_0 l0_1 l0_2 a1 l3).bind fun bt746 => ((r12_Join.f k a0_0 l0_1 l0_2 l2).bind fun bt750 => ((r12_Split.f k a0_0 l0_1 l0_2 a1 l3).bind fun bt754 => (if bt742.2 = bt750.2 then (if bt746.2 = bt754.2 then ((r1_Same.f k bt742.1 bt750.1).bind fun t758 => (if t758 = true then ((w12_lists.f k bt746.1 bt754.1).bind fun t759 => (w12_ProdStores.j0 k l2 bt742.1 bt742.2 (!t759) a0_0 l0_1 l0_2)) else (w12_ProdStores.j0 k l2 bt742.1 bt742.2 true a0_0 l0_1 l0_2))) else (w12_ProdStores.j0 k l2 bt742.1 bt742.2 true a0_0 l0_1 l0_2)) else (w12_ProdStores.j0 k l2 bt742.1 bt742.2 true a0_0 l0_1 l0_2)))))) = some r := by rw [if_pos rfl] at H; exact H
 clear H
 have H := H1
 clear H1
 replace H := Option.bind_eq_some_iff.mp H
 obtain ⟨⟨t742, t745⟩, A70, H⟩ := H
 replace H : ((prod_Split.f k a0_0 l0_1 l0_2 a1 l3).bind fun bt746 => ((r12_Join.f k a0_0 l0_1 l0_2 l2).bind fun bt750 => ((r12_Split.f k a0_0 l0_1 l0_2 a1 l3).bind fun bt754 => (if t745 = bt750.2 then (if bt746.2 = bt754.2 then ((r1_Same.f k t742 bt750.1).bind fun t758 => (if t758 = true then ((w12_lists.f k bt746.1 bt754.1).bind fun t759 => (w12_ProdStores.j0 k l2 t742 t745 (!t759) a0_0 l0_1 l0_2)) else (w12_ProdStores.j0 k l2 t742 t745 true a0_0 l0_1 l0_2))) else (w12_ProdStores.j0 k l2 t742 t745 true a0_0 l0_1 l0_2)) else (w12_ProdStores.j0 k l2 t742 t745 true a0_0 l0_1 l0_2))))) = some r := H
 have A7 := Aside0.mk A70
 clear A70
 replace H := Option.bind_eq_some_iff.mp H
 obtain ⟨⟨t746, t749⟩, A80, H⟩ := H
 replace H : ((r12_Join.f k a0_0 l0_1 l0_2 l2).bind fun bt750 => ((r12_Split.f k a0_0 l0_1 l0_2 a1 l3).bind fun bt754 => (if t745 = bt750.2 then (if t749 = bt754.2 then ((r1_Same.f k t742 bt750.1).bind fun t758 => (if t758 = true then ((w12_lists.f k t746 bt754.1).bind fun t759 => (w12_ProdStores.j0 k l2 t742 t745 (!t759) a0_0 l0_1 l0_2)) else (w12_ProdStores.j0 k l2 t742 t745 true a0_0 l0_1 l0_2))) else (w12_ProdStores.j0 k l2 t742 t745 true a0_0 l0_1 l0_2)) else (w12_ProdStores.j0 k l2 t742 t745 true a0_0 l0_1 l0_2)))) = some r := H
 have A8 := Aside0.mk A80
 clear A80
 replace H := Option.bind_eq_some_iff.mp H
 obtain ⟨⟨t750, t753⟩, A90, H⟩ := H
 replace H : ((r12_Split.f k a0_0 l0_1 l0_2 a1 l3).bind fun bt754 => (if t745 = t753 then (if t749 = bt754.2 then ((r1_Same.f k t742 t750).bind fun t758 => (if t758 = true then ((w12_lists.f k t746 bt754.1).bind fun t759 => (w12_ProdStores.j0 k l2 t742 t745 (!t759) a0_0 l0_1 l0_2)) else (w12_ProdStores.j0 k l2 t742 t745 true a0_0 l0_1 l0_2))) else (w12_ProdStores.j0 k l2 t742 t745 true a0_0 l0_1 l0_2)) else (w12_ProdStores.j0 k l2 t742 t745 true a0_0 l0_1 l0_2))) = some r := H
 have A9 := Aside0.mk A90
 clear A90
 replace H := Option.bind_eq_some_iff.mp H
 obtain ⟨⟨t754, t757⟩, A100, H⟩ := H
 replace H : (if t745 = t753 then (if t749 = t757 then ((r1_Same.f k t742 t750).bind fun t758 => (if t758 = true then ((w12_lists.f k t746 t754).bind fun t759 => (w12_ProdStores.j0 k l2 t742 t745 (!t759) a0_0 l0_1 l0_2)) else (w12_ProdStores.j0 k l2 t742 t745 true a0_0 l0_1 l0_2))) else (w12_ProdStores.j0 k l2 t742 t745 true a0_0 l0_1 l0_2)) else (w12_ProdStores.j0 k l2 t742 t745 true a0_0 l0_1 l0_2)) = some r := H
 have A10 := Aside0.mk A100
 clear A100
 have HC11 := Aside0.mk H
 clear H
 go_enter Try.func7, Try.ntmps7
 go_upto_region 7 with (first | ((with_reducible refine gate_dst (N := 4) rfl ?_); refine bx 4 rfl rfl #[.int .i64 a0_0, .slice A0_1 l0_1.length c0_1, .slice A0_2 l0_2.length c0_2] 25 ?_; intro gb739 hg w12 hbox hb; have BK739 := Aside0.mk (hbox); have GW739 := ge HB hg; have GE739 := ge HB hg; replace HB := sb HB hb; clear hb hbox hg; obtain ⟨hcz13_0, hcz13_1, hcz13_2, hfz13_0, hfz13_1, hfz13_2⟩ := cf3 BK739.out) | ((with_reducible refine gate_callee (f := 9) rfl ?_); refine gL (some 20) rfl rfl Try.func9 #[.slice A0_2 l0_2.length c0_2, .int .i64 600] rfl ?_; (with_reducible refine (r3_Fits.calls k _ _ l0_2 600 true _ ?side1 ?side2 A5.out).mono ?_); (case side1 => exact cb HR0_2 HB); (case side2 => exact HC0_2.out); rintro e w14 ⟨rfl, hb⟩; refine ⟨_, rfl, ?_⟩; replace BK739 := kb BK739 hb; replace HB := sb HB hb; (try clear hb); (try clear hb2); (try clear hk); (try clear hi); obtain ⟨hcz15_0, hcz15_1, hcz15_2, hfz15_0, hfz15_1, hfz15_2⟩ := cf3 BK739.out) | ((with_reducible refine gate_callee (f := 21) rfl ?_); refine gL (some 26) rfl rfl Try.func21 #[.agg #[.int .i64 a0_0, .slice A0_1 l0_1.length c0_1, .slice A0_2 l0_2.length c0_2], .slice A2 l2.length c2] rfl ?_; (with_reducible refine (prod_Join.calls k a0_0 _ _ l0_1 _ _ l0_2 _ _ l2 t742 t745 _ ?side1 ?side2 ?side3 ?side4 ?side5 ?side6 A7.out).mono ?_); (case side1 => exact cb HR0_1 HB); (case side2 => exact HC0_1.out); (case side3 => exact cb HR0_2 HB); (case side4 => exact HC0_2.out); (case side5 => exact cb HR2 HB); (case side6 => exact HC2.out); rintro e w16 ⟨v743, rfl, ho0, hb⟩; refine ⟨_, rfl, ?_⟩; have HO744 := Aside0.mk (Kd.R_lower ho0 (bsz (bb HB))); replace BK739 := kb BK739 hb; replace HB := sb HB hb; (try clear hb); (try clear hb2); (try clear hk); (try clear hi); (try clear ho0); obtain ⟨hcz17_0, hcz17_1, hcz17_2, hfz17_0, hfz17_1, hfz17_2⟩ := cf3 BK739.out) | ((with_reducible refine gate_callee (f := 32) rfl ?_); refine gL (some 33) rfl rfl Try.func32 #[.agg #[.int .i64 a0_0, .slice A0_1 l0_1.length c0_1, .slice A0_2 l0_2.length c0_2], .int .i64 a1, .slice A3 l3.length c3] rfl ?_; (with_reducible refine (prod_Split.calls k a0_0 _ _ l0_1 _ _ l0_2 a1 _ _ l3 t746 t749 _ ?side1 ?side2 ?side3 ?side4 ?side5 ?side6 A8.out).mono ?_); (case side1 => exact cb HR0_1 HB); (case side2 => exact HC0_1.out); (case side3 => exact cb HR0_2 HB); (case side4 => exact HC0_2.out); (case side5 => exact cb HR3 HB); (case side6 => exact HC3.out); rintro e w18 ⟨v747, rfl, ho0, hb⟩; refine ⟨_, rfl, ?_⟩; have HO748 := Aside0.mk (Kd.S_lower (Kd.S_new' ho0 (Kd.R_lt (by (with_reducible repeat (first | apply Kd.R_alloc | apply Kd.R_drewN | apply Kd.R_drew)); exact HO744.out))) (bsz (bb HB))); replace HO744 := Aside0.mk (Kd.R_below (by (with_reducible repeat (first | apply Kd.R_alloc | apply Kd.R_drewN | apply Kd.R_drew)); exact HO744.out) hb); replace BK739 := kb BK739 hb; replace HB := sb HB hb; (try clear hb); (try clear hb2); (try clear hk); (try clear hi); (try clear ho0); obtain ⟨hcz19_0, hcz19_1, hcz19_2, hfz19_0, hfz19_1, hfz19_2⟩ := cf3 BK739.out) | ((with_reducible refine gate_callee (f := 33) rfl ?_); refine gL (some 39) rfl rfl Try.func33 #[.agg #[.int .i64 a0_0, .slice A0_1 l0_1.length c0_1, .slice A0_2 l0_2.length c0_2], .slice A2 l2.length c2] rfl ?_; (with_reducible refine (r12_Join.calls k a0_0 _ _ l0_1 _ _ l0_2 _ _ l2 t750 t753 _ ?side1 ?side2 ?side3 ?side4 ?side5 ?side6 A9.out).mono ?_); (case side1 => exact cb HR0_1 HB); (case side2 => exact HC0_1.out); (case side3 => exact cb HR0_2 HB); (case side4 => exact HC0_2.out); (case side5 => exact cb HR2 HB); (case side6 => exact HC2.out); rintro e w20 ⟨v751, rfl, ho0, hb⟩; refine ⟨_, rfl, ?_⟩; have HO752 := Aside0.mk (Kd.R_lower (Kd.R_new' ho0 (Kd.R_lt (by (with_reducible repeat (first | apply Kd.R_alloc | apply Kd.R_drewN | apply Kd.R_drew)); exact HO744.out))) (bsz (bb HB))); replace HO744 := Aside0.mk (Kd.R_elder' (by (with_reducible repeat (first | apply Kd.R_alloc | apply Kd.R_drewN | apply Kd.R_drew)); exact HO744.out) (Kd.R_base ho0) hb); replace HO748 := Aside0.mk (Kd.S_elder' (by (with_reducible repeat (first | apply Kd.S_alloc | apply Kd.S_drewN | apply Kd.S_drew)); exact HO748.out) (Kd.R_base ho0) hb); replace BK739 := kb BK739 hb; replace HB := sb HB hb; (try clear hb); (try clear hb2); (try clear hk); (try clear hi); (try clear ho0); obtain ⟨hcz21_0, hcz21_1, hcz21_2, hfz21_0, hfz21_1, hfz21_2⟩ := cf3 BK739.out) | ((with_reducible refine gate_callee (f := 34) rfl ?_); refine gL (some 46) rfl rfl Try.func34 #[.agg #[.int .i64 a0_0, .slice A0_1 l0_1.length c0_1, .slice A0_2 l0_2.length c0_2], .int .i64 a1, .slice A3 l3.length c3] rfl ?_; (with_reducible refine (r12_Split.calls k a0_0 _ _ l0_1 _ _ l0_2 a1 _ _ l3 t754 t757 _ ?side1 ?side2 ?side3 ?side4 ?side5 ?side6 A10.out).mono ?_); (case side1 => exact cb HR0_1 HB); (case side2 => exact HC0_1.out); (case side3 => exact cb HR0_2 HB); (case side4 => exact HC0_2.out); (case side5 => exact cb HR3 HB); (case side6 => exact HC3.out); rintro e w22 ⟨v755, rfl, ho0, hb⟩; refine ⟨_, rfl, ?_⟩; have HO756 := Aside0.mk (Kd.S_lower (Kd.S_new' (Kd.S_new' (Kd.S_new' ho0 (Kd.R_lt (by (with_reducible repeat (first | apply Kd.R_alloc | apply Kd.R_drewN | apply Kd.R_drew)); exact HO744.out))) (Kd.S_lt (by (with_reducible repeat (first | apply Kd.S_alloc | apply Kd.S_drewN | apply Kd.S_drew)); exact HO748.out))) (Kd.R_lt (by (with_reducible repeat (first | apply Kd.R_alloc | apply Kd.R_drewN | apply Kd.R_drew)); exact HO752.out))) (bsz (bb HB))); replace HO744 := Aside0.mk (Kd.R_below (by (with_reducible repeat (first | apply Kd.R_alloc | apply Kd.R_drewN | apply Kd.R_drew)); exact HO744.out) hb); replace HO748 := Aside0.mk (Kd.S_elder' (by (with_reducible repeat (first | apply Kd.S_alloc | apply Kd.S_drewN | apply Kd.S_drew)); exact HO748.out) (Kd.S_base ho0) hb); replace HO752 := Aside0.mk (Kd.R_below (by (with_reducible repeat (first | apply Kd.R_alloc | apply Kd.R_drewN | apply Kd.R_drew)); exact HO752.out) hb); replace BK739 := kb BK739 hb; replace HB := sb HB hb; (try clear hb); (try clear hb2); (try clear hk); (try clear hi); (try clear ho0)))
 (try simp only [Act.put, List.setIfInBounds_toArray, List.set_cons_zero, List.set_cons_succ])
 go_cut [68] (fun v68 wc => ∃ (kq : Nat) (x68_10 : Bool), v68 = .bool x68_10 ∧ Aside0 (w12_ProdStores.j0 kq l2 t742 t745 x68_10 a0_0 l0_1 l0_2 = some r) ∧ Aside0 (kq ≤ k) ∧ Aside0 (Kd.R (Kd.int .i64) 3 wc w.heap.size (fun _ => True) v743 t742) ∧ Aside0 (wc.heap[gb739]? = some (.cells #[.int .i64 a0_0, (.slice A0_1 l0_1.length c0_1), (.slice A0_2 l0_2.length c0_2)] 25 (0, 0))) ∧ Aside0 (Below w.heap.size w wc))
 case first =>
  have H := HC11.out
  clear HC11
  by_cases c23 : t745 = t753
  rotate_left
  ·rw [if_neg c23] at H
   have c23b0 : (t745 == t753) = false := beq_eq_false_iff_ne.mpr c23
   have c23b1 : (t745 != t753) = true := bne_iff_ne.mpr c23
   (first | rw [c23b0] | (simp only [i64_w, i32_w]; rw [c23b0]) | skip)
   have H' := Aside0.mk H
   clear H
   go_wp2
   go_meet
   case rel => exact ⟨_, (true), rs, H', ⟨by first | omega | exact Nat.le_refl _⟩, ⟨by (with_reducible repeat (first | apply Kd.R_alloc | apply Kd.R_drewN | apply Kd.R_drew)); exact Kd.R_mono HO744.out (fun _ hk => trivial)⟩, ⟨by (with_reducible repeat (first | refine kdN ?_ _ | refine kdr ?_ | refine kal ?_ _)); exact BK739.out⟩, ⟨bb HB⟩⟩
  rw [if_pos c23] at H
  have c23b0 : (t745 == t753) = true := beq_iff_eq.mpr c23
  have c23b1 : (t745 != t753) = false := bne_eq_false_iff_eq.mpr c23
  clear c23
  (first | rw [c23b0] | (simp only [i64_w, i32_w]; rw [c23b0]) | skip)
  by_cases c24 : t749 = t757
  rotate_left
  ·rw [if_neg c24] at H
   have c24b0 : (t749 == t757) = false := beq_eq_false_iff_ne.mpr c24
   have c24b1 : (t749 != t757) = true := bne_iff_ne.mpr c24
   have H' := Aside0.mk H
   clear H
   go_wp2
   go_meet
   case rel => exact ⟨_, (true), rs, H', ⟨by first | omega | exact Nat.le_refl _⟩, ⟨by (with_reducible repeat (first | apply Kd.R_alloc | apply Kd.R_drewN | apply Kd.R_drew)); exact Kd.R_mono HO744.out (fun _ hk => trivial)⟩, ⟨by (with_reducible repeat (first | refine kdN ?_ _ | refine kdr ?_ | refine kal ?_ _)); exact BK739.out⟩, ⟨bb HB⟩⟩
  rw [if_pos c24] at H
  have c24b0 : (t749 == t757) = true := beq_iff_eq.mpr c24
  have c24b1 : (t749 != t757) = false := bne_eq_false_iff_eq.mpr c24
  clear c24
  obtain ⟨t758, A25, H⟩ := be H
  replace H : (if t758 = true then ((w12_lists.f k t746 t754).bind fun t759 => (w12_ProdStores.j0 k l2 t742 t745 (!t759) a0_0 l0_1 l0_2)) else (w12_ProdStores.j0 k l2 t742 t745 true a0_0 l0_1 l0_2)) = some r := H
  by_cases c26 : t758 = true
  rotate_left
  ·replace c26 := Bool.eq_false_iff.mpr c26
   subst c26
   have H1 : (w12_ProdStores.j0 k l2 t742 t745 true a0_0 l0_1 l0_2) = some r := by rw [if_neg (show ¬ (false = true) by decide)] at H; exact H
   clear H
   have H := H1
   clear H1
   have H' := Aside0.mk H
   clear H
   obtain ⟨Ao32, co32, eo32⟩ := Kd.R_slice HO744.out
   subst eo32
   obtain ⟨Ao33, co33, eo33⟩ := Kd.R_slice HO752.out
   subst eo33
   go_wp2_with (first | (go_at_call 35; (with_reducible refine (r1_Same.calls k _ _ t742 _ _ t750 false _ ?side1 ?side2 ?side3 ?side4 A25.out).mono ?_); (case side1 => repeat (first | exact (Kd.R_reads' HO744.out).2.2 | with_reducible first | apply Kd.C_alloc | apply Kd.C_drewN | apply Kd.C_drew)); (case side2 => exact (Kd.R_reads' HO744.out).2.1); (case side3 => repeat (first | exact (Kd.R_reads' HO752.out).2.2 | with_reducible first | apply Kd.C_alloc | apply Kd.C_drewN | apply Kd.C_drew)); (case side4 => exact (Kd.R_reads' HO752.out).2.1); rintro e w' ⟨rfl, ⟨nd, rfl⟩⟩))
   go_meet
   case rel => exact ⟨_, (true), rs, H', ⟨by first | omega | exact Nat.le_refl _⟩, ⟨by (with_reducible repeat (first | apply Kd.R_alloc | apply Kd.R_drewN | apply Kd.R_drew)); exact Kd.R_mono HO744.out (fun _ hk => trivial)⟩, ⟨by (with_reducible repeat (first | refine kdN ?_ _ | refine kdr ?_ | refine kal ?_ _)); exact BK739.out⟩, ⟨bb HB⟩⟩
  subst c26
  have H1 : ((w12_lists.f k t746 t754).bind fun t759 => (w12_ProdStores.j0 k l2 t742 t745 (!t759) a0_0 l0_1 l0_2)) = some r := by rw [if_pos rfl] at H; exact H
  clear H
  have H := H1
  clear H1
  obtain ⟨t759, A27, H⟩ := be H
  replace H : (w12_ProdStores.j0 k l2 t742 t745 (!t759) a0_0 l0_1 l0_2) = some r := H
  have H' := Aside0.mk H
  clear H
  obtain ⟨Ao28, co28, eo28⟩ := Kd.R_slice HO744.out
  subst eo28
  obtain ⟨Ao29, co29, eo29⟩ := Kd.R_slice HO752.out
  subst eo29
  go_wp2_with (first | (go_at_call 35; (with_reducible refine (r1_Same.calls k _ _ t742 _ _ t750 true _ ?side1 ?side2 ?side3 ?side4 A25.out).mono ?_); (case side1 => repeat (first | exact (Kd.R_reads' HO744.out).2.2 | with_reducible first | apply Kd.C_alloc | apply Kd.C_drewN | apply Kd.C_drew)); (case side2 => exact (Kd.R_reads' HO744.out).2.1); (case side3 => repeat (first | exact (Kd.R_reads' HO752.out).2.2 | with_reducible first | apply Kd.C_alloc | apply Kd.C_drewN | apply Kd.C_drew)); (case side4 => exact (Kd.R_reads' HO752.out).2.1); rintro e w' ⟨rfl, ⟨nd, rfl⟩⟩; obtain ⟨Ao30, co30, eo30⟩ := Kd.S_slice HO748.out; subst eo30; obtain ⟨Ao31, co31, eo31⟩ := Kd.S_slice HO756.out; subst eo31) | (go_at_call 36; (with_reducible refine (w12_lists.calls k _ _ t746 _ _ t754 t759 _ ?side1 ?side2 ?side3 ?side4 A27.out).mono ?_); (case side1 => repeat (first | exact (Kd.S_reads' HO748.out).2.2 | with_reducible first | apply Kd.C_alloc | apply Kd.C_drewN | apply Kd.C_drew)); (case side2 => exact (Kd.S_reads' HO748.out).2.1); (case side3 => repeat (first | exact (Kd.S_reads' HO756.out).2.2 | with_reducible first | apply Kd.C_alloc | apply Kd.C_drewN | apply Kd.C_drew)); (case side4 => exact (Kd.S_reads' HO756.out).2.1); rintro e w' ⟨rfl, ⟨nd, rfl⟩⟩))
  go_meet
  case rel => exact ⟨_, (!t759), rs, H', ⟨by first | omega | exact Nat.le_refl _⟩, ⟨by (with_reducible repeat (first | apply Kd.R_alloc | apply Kd.R_drewN | apply Kd.R_drew)); exact Kd.R_mono HO744.out (fun _ hk => trivial)⟩, ⟨by (with_reducible repeat (first | refine kdN ?_ _ | refine kdr ?_ | refine kal ?_ _)); exact BK739.out⟩, ⟨bb HB⟩⟩
 case rest =>
  clear HC11
  try clear c2
  try clear p2
  try clear c3
  try clear c6
  try clear c7
  try clear c9
  try clear c21
  try clear c23
  try clear c23b0
  try clear c23b1
  try clear c24
  try clear c24b0
  try clear c24b1
  try clear c26
  try clear c32
  try clear c33
  try clear hcz13_0 hcz13_1 hcz13_2
  try clear hcz15_0 hcz15_1 hcz15_2
  try clear hcz17_0 hcz17_1 hcz17_2
  try clear hcz19_0 hcz19_1 hcz19_2
  try clear hcz21_0 hcz21_1 hcz21_2
  try clear hfz13_0 hfz13_1 hfz13_2
  try clear hfz15_0 hfz15_1 hfz15_2
  try clear hfz17_0 hfz17_1 hfz17_2
  try clear hfz19_0 hfz19_1 hfz19_2
  try clear hfz21_0 hfz21_1 hfz21_2
  obtain ⟨kq, x68_10, rfl, HA, HJ10, HO_9, BK739, HB⟩ := hcut
  cases kq with
  | zero => exact absurd HA.out (by simp [w12_ProdStores.j0])
  | succ kj10 =>
   have H := HA.out
   clear HA
   simp only [w12_ProdStores.j0] at H
   by_cases c34 : x68_10 = true
   ·subst c34
    have H1 : (some false) = some r := by rw [if_pos rfl] at H; exact H
    clear H
    have H := H1
    clear H1
    exact absurd ((Option.some.inj H).trans hrt) (by decide)
   replace c34 := Bool.eq_false_iff.mpr c34
   subst c34
   have H1 : (if t745 = 0 then ((prod_Split.f kj10 a0_0 l0_1 l0_2 (l2.length : Int) t742).bind fun bt760 => (if bt760.2 = 0 then ((w12_lists.f kj10 bt760.1 l2).bind fun t764 => (if t764 = true then ((w12_awake.f kj10).bind fun t765 => (some t765)) else (some false))) else (some false))) else ((w12_awake.f kj10).bind fun t766 => (some t766))) = some r := by rw [if_neg (show ¬ (false = true) by decide)] at H; exact H
   clear H
   have H := H1
   clear H1
   by_cases c35 : t745 = 0
   rotate_left
   ·rw [if_neg c35] at H
    have c35b0 : (t745 == 0) = false := beq_eq_false_iff_ne.mpr c35
    have c35b1 : (t745 != 0) = true := bne_iff_ne.mpr c35
    obtain ⟨t766, A53, H⟩ := be H
    replace H : (some t766) = some r := H
    obtain rfl := Option.some.inj H
    go_wp2_with (first | ((with_reducible refine gate_callee (f := 11) rfl ?_); refine gL (some 71) rfl rfl Try.func11 #[] rfl ?_; (with_reducible refine (w12_awake.calls kj10  t766 _ A53.out).mono ?_); rintro e w54 ⟨rfl, hb⟩; refine ⟨_, rfl, ?_⟩; replace HO_9 := Aside0.mk (Kd.R_below (by (with_reducible repeat (first | apply Kd.R_alloc | apply Kd.R_drewN | apply Kd.R_drew)); exact HO_9.out) hb); replace BK739 := kb BK739 hb; replace HB := sb HB hb; (try clear hb); (try clear hb2); (try clear hk); (try clear hi)))
    go_ret
    exact ⟨rr, bb HB⟩
   rw [if_pos c35] at H
   have c35b0 : (t745 == 0) = true := beq_iff_eq.mpr c35
   have c35b1 : (t745 != 0) = false := bne_eq_false_iff_eq.mpr c35
   clear c35
   replace H := Option.bind_eq_some_iff.mp H
   obtain ⟨⟨t760, t763⟩, A360, H⟩ := H
   replace H : (if t763 = 0 then ((w12_lists.f kj10 t760 l2).bind fun t764 => (if t764 = true then ((w12_awake.f kj10).bind fun t765 => (some t765)) else (some false))) else (some false)) = some r := H
   have A36 := Aside0.mk A360
   clear A360
   by_cases c37 : t763 = 0
   rotate_left
   ·rw [if_neg c37] at H
    have c37b0 : (t763 == 0) = false := beq_eq_false_iff_ne.mpr c37
    have c37b1 : (t763 != 0) = true := bne_iff_ne.mpr c37
    exact absurd ((Option.some.inj H).trans hrt) (by decide)
   rw [if_pos c37] at H
   have c37b0 : (t763 == 0) = true := beq_iff_eq.mpr c37
   have c37b1 : (t763 != 0) = false := bne_eq_false_iff_eq.mpr c37
   clear c37
   obtain ⟨t764, A38, H⟩ := be H
   replace H : (if t764 = true then ((w12_awake.f kj10).bind fun t765 => (some t765)) else (some false)) = some r := H
   by_cases c39 : t764 = true
   rotate_left
   ·replace c39 := Bool.eq_false_iff.mpr c39
    subst c39
    have H1 : (some false) = some r := by rw [if_neg (show ¬ (false = true) by decide)] at H; exact H
    clear H
    have H := H1
    clear H1
    exact absurd ((Option.some.inj H).trans hrt) (by decide)
   subst c39
   have H1 : ((w12_awake.f kj10).bind fun t765 => (some t765)) = some r := by rw [if_pos rfl] at H; exact H
   clear H
   have H := H1
   clear H1
   obtain ⟨t765, A40, H⟩ := be H
   replace H : (some t765) = some r := H
   obtain rfl := Option.some.inj H
   obtain ⟨hcz41_0, hcz41_1, hcz41_2, hfz41_0, hfz41_1, hfz41_2⟩ := cf3 BK739.out
   obtain ⟨Ao42, co42, eo42⟩ := Kd.R_slice HO_9.out
   subst eo42
   go_wp2_with (first | ((with_reducible refine gate_callee (f := 32) rfl ?_); refine gL (some 77) rfl rfl Try.func32 #[.agg #[.int .i64 a0_0, .slice A0_1 l0_1.length c0_1, .slice A0_2 l0_2.length c0_2], .int .i64 (l2.length : Int), .slice Ao42 t742.length co42] rfl ?_; (with_reducible refine (prod_Split.calls kj10 a0_0 _ _ l0_1 _ _ l0_2 (l2.length : Int) _ _ t742 t760 t763 _ ?side1 ?side2 ?side3 ?side4 ?side5 ?side6 A36.out).mono ?_); (case side1 => exact cb HR0_1 HB); (case side2 => exact HC0_1.out); (case side3 => exact cb HR0_2 HB); (case side4 => exact HC0_2.out); (case side5 => repeat (first | exact (Kd.R_reads' HO_9.out).2.2 | with_reducible first | apply Kd.C_alloc | apply Kd.C_drewN | apply Kd.C_drew)); (case side6 => exact (Kd.R_reads' HO_9.out).2.1); rintro e w43 ⟨v761, rfl, ho0, hb⟩; refine ⟨_, rfl, ?_⟩; have HO762 := Aside0.mk (Kd.S_lower (Kd.S_new' ho0 (Kd.R_lt (by (with_reducible repeat (first | apply Kd.R_alloc | apply Kd.R_drewN | apply Kd.R_drew)); exact HO_9.out))) (bsz (bb HB))); replace HO_9 := Aside0.mk (Kd.R_below (by (with_reducible repeat (first | apply Kd.R_alloc | apply Kd.R_drewN | apply Kd.R_drew)); exact HO_9.out) hb); replace BK739 := kb BK739 hb; replace HB := sb HB hb; (try clear hb); (try clear hb2); (try clear hk); (try clear hi); (try clear ho0); obtain ⟨Ao44, co44, eo44⟩ := Kd.S_slice HO762.out; subst eo44) | (go_at_call 36; (with_reducible refine (w12_lists.calls kj10 _ _ t760 _ _ l2 true _ ?side1 ?side2 ?side3 ?side4 A38.out).mono ?_); (case side1 => repeat (first | exact (Kd.S_reads' HO762.out).2.2 | with_reducible first | apply Kd.C_alloc | apply Kd.C_drewN | apply Kd.C_drew)); (case side2 => exact (Kd.S_reads' HO762.out).2.1); (case side3 => exact cb HR2 HB); (case side4 => exact HC2.out); rintro e w' ⟨rfl, ⟨nd, rfl⟩⟩) | (go_at_call 11; (with_reducible refine (w12_awake.calls kj10  t765 _ A40.out).mono ?_); rintro e w45 ⟨rfl, hb⟩; replace HO_9 := Aside0.mk (Kd.R_below (by (with_reducible repeat (first | apply Kd.R_alloc | apply Kd.R_drewN | apply Kd.R_drew)); exact HO_9.out) hb); replace HO762 := Aside0.mk (Kd.S_below (by (with_reducible repeat (first | apply Kd.S_alloc | apply Kd.S_drewN | apply Kd.S_drew)); exact HO762.out) hb); replace BK739 := kb BK739 hb; replace HB := sb HB hb; (try clear hb); (try clear hb2); (try clear hk); (try clear hi)))
   go_ret
   exact ⟨rr, bb HB⟩
theorem jnR_ok {w : Int} {vars : List S66} {body : List S64} {l : List (List Int)} (h : (jnR w vars body l).2 = 0) :
    cpE w vars body (l.length : Int) = 0 ∧ l.all (isSto w vars) = true ∧ jnR w vars body l = (l.flatten, 0) := by
  unfold jnR at h ⊢
  by_cases hc : cpE w vars body (l.length : Int) = 0
  · rw [if_pos hc] at h ⊢
    unfold jnV at h ⊢
    by_cases ha : l.all (isSto w vars) = true
    · rw [if_pos ha] at h ⊢
      exact ⟨hc, ha, rfl⟩
    · rw [if_neg ha] at h; cases h
  · rw [if_neg hc] at h
    exact absurd h hc
theorem valid_flatten {p : Int} : ∀ {l : List (List Int)}, (∀ s ∈ l, valid p s = true) → valid p l.flatten = true := by
  intro l h
  rw [valid_iff]
  intro x hx
  rw [List.mem_flatten] at hx
  obtain ⟨s, hs, hx⟩ := hx
  exact valid_iff.1 (h s hs) x hx
theorem split_join {w : Int} {vars : List S66} {body : List S64} {l : List (List Int)} (h : (jnR w vars body l).2 = 0) : spR w vars body (l.length : Int) (jnR w vars body l).1 = (l, 0) := by
  obtain ⟨hc, ha, e⟩ := jnR_ok h
  rw [e]
  obtain ⟨hp, _, _, _⟩ := cpE_ok hc
  obtain ⟨_, _, _, _, k0, _⟩ := pIs_cells hp
  have hall := List.all_eq_true.1 ha
  have hf := flatten_len k0 (l := l) (fun s hs => (isSto_len (hall s hs)).1)
  unfold spR isWide
  rw [if_pos hc, decide_eq_true hf, valid_flatten (fun s hs => (isSto_len (hall s hs)).2), Bool.true_and, if_pos rfl, Int.toNat_natCast]
  have := chunks_flat (n := (cs vars).toNat) l (fun s hs => by have := (isSto_len (hall s hs)).1; omega) [] (by simp) l.length rfl
  rw [List.flatten_nil, List.append_nil] at this
  rw [this]
theorem stores_law (w : Int) (vars : List S66) (body : List S64) (k : Int) (l2 : List (List Int)) (l3 : List Int) (hl : body.length ≤ 9223372036854775807) (hg : goodSs body) (h2 : l2.length ≤ 9223372036854775807) (g2 : ∀ s ∈ l2, s.length ≤ 9223372036854775807) (h3 : l3.length ≤ 9223372036854775807) :
    ∃ k0, ∀ k', k0 ≤ k' → w12_ProdStores.f k' w vars body k l2 l3 = some true := by
  show Tells (fun j => w12_ProdStores.f j w vars body k l2 l3) true
  unfold w12_ProdStores.f
  refine Tells.bind (fitsS body 600 hl hg (by decide) (by decide)) ?_
  by_cases h1 : decide ((sNs body : Int) ≤ 600) = true
  · refine Tells.ifT h1 (Tells.bind (join_tells w vars body hl hg l2 g2) (Tells.bind (split_tells w vars body hl hg k l3 h3) (Tells.bind (rjoin_tells w vars body hl hg l2 g2) (Tells.bind (rsplit_tells w vars body hl hg k l3 h3) (Tells.ifT rfl (Tells.ifT rfl ?_))))))
    have b1 : (jnR w vars body l2).1.length ≤ 9223372036854775807 := by
      by_cases h : (jnR w vars body l2).2 = 0
      · obtain ⟨hc, ha, e⟩ := jnR_ok h
        rw [e]
        obtain ⟨hp, _, k1, k3⟩ := cpE_ok hc
        obtain ⟨_, _, _, _, c0, c1⟩ := pIs_cells hp
        have hf := flatten_len c0 (l := l2) (fun s hs => (isSto_len (List.all_eq_true.1 ha s hs)).1)
        have hb : (l2.length : Int) * cs vars ≤ 3 * 144 := Int.mul_le_mul k3 c1 c0 (by decide)
        show l2.flatten.length ≤ _
        omega
      · unfold jnR at h ⊢
        by_cases hc : cpE w vars body (l2.length : Int) = 0
        · rw [if_pos hc] at h ⊢
          unfold jnV at h ⊢
          by_cases ha : l2.all (isSto w vars) = true
          · rw [if_pos ha] at h; exact absurd rfl h
          · rw [if_neg ha]; exact Nat.zero_le _
        · rw [if_neg hc]; exact Nat.zero_le _
    have b2 : (spR w vars body k l3).1.length ≤ 9223372036854775807 ∧ ∀ s ∈ (spR w vars body k l3).1, s.length ≤ 9223372036854775807 := by
      unfold spR
      by_cases hc : cpE w vars body k = 0
      · rw [if_pos hc]
        obtain ⟨hp, _, k1, k3⟩ := cpE_ok hc
        obtain ⟨_, _, _, _, c0, c1⟩ := pIs_cells hp
        by_cases hi : isWide w vars k l3 = true
        · rw [if_pos hi]
          refine ⟨?_, fun s hs => ?_⟩
          · show (chunks _ _ _).length ≤ _
            rw [chunks_length]; omega
          · have := chunks_good _ _ _ s hs
            omega
        · rw [if_neg hi]; exact ⟨Nat.zero_le _, fun s hs => by cases hs⟩
      · rw [if_neg hc]; exact ⟨Nat.zero_le _, fun s hs => by cases hs⟩
    refine Tells.bind (same_tells _ b1) (Tells.ifT rfl (Tells.bind (lists_tells _ b2.1 b2.2) ?_))
    refine Tells.succ ?_
    simp only [w12_ProdStores.j0, Bool.not_true, Bool.false_eq_true, if_false]
    by_cases h0 : (jnR w vars body l2).2 = 0
    · refine Tells.ifT h0 (Tells.bind (split_tells w vars body hl hg (l2.length : Int) _ b1) ?_)
      rw [split_join h0]
      exact Tells.ifT rfl (Tells.bind (lists_tells l2 h2 g2) (Tells.ifT rfl (Tells.pure _)))
    · exact Tells.ifF h0 (Tells.pure _)
  · exact Tells.ifF h1 (Tells.pure _)
end Go.Proofs.Ytilebfkehmecaaa.Print
