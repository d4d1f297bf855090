/- For every program the law ProgForms returns true, and what came in reads as before. No condition. -/
import Derived.Test.YtffcpbgbhkbplaaB6
namespace Go.Proofs.Ytffcpbgbhkbplaa.Print
open Go.RowKit Go.Proofs.YtffcpbgbhkbplaaW.PrintWords Go.Proofs.YtffcpbgbhkbplaaW.PrintLast Go.Proofs.YtffcpbgbhkbplaaW.PrintMore
attribute [local go_sem] max2_int min2_int max_two min_two max_three min_three max_four min_four
set_option linter.unusedVariables false
set_option linter.unusedSimpArgs false
open Go.Shelf Go.RowKit
attribute [local go_sem] Oper.semAt_some
def prog_Single.f (k : Nat) (a0_0 : Int) (l0_1 : List S82) (l0_2 : List S47) : Option (Bool × Int) :=
  (prog_Check.f k a0_0 l0_1 l0_2).bind fun t => if t = 0 then (if l0_1.any (fun v => decide (v.f1 > 15)) = true then some (false, 0) else (prog_walk.f k l0_2 0).bind fun its => some (!(its.1.any (fun x => decide (x.2.f0 = 3) && decide (x.2.f1 > 15))), 0)) else some (false, 30)
theorem three_boxes (w : World) (a b c : Obj) : Below w.heap.size w (((w.alloc a).alloc b).alloc c) ∧ (((w.alloc a).alloc b).alloc c).heap[w.heap.size]? = some a ∧ (((w.alloc a).alloc b).alloc c).heap[w.heap.size + 1]? = some b ∧ (((w.alloc a).alloc b).alloc c).heap[w.heap.size + 1 + 1]? = some c := by
  refine ⟨bal (bal (bal (Below.refl _ _) _) _) _, kal (kal (blk_new _ _) _) _, ?_, ?_⟩
  · have := blk_new (w.alloc a) b
    exact kal (by simpa using this) _
  · have := blk_new ((w.alloc a).alloc b) c
    simpa using this
theorem store_pair {W : World} {B C : Nat} {t s : TypeId} {x y : Value} (hne : B ≠ C) (hs : W.heap[B]? = some (.cells #[x] t (0, 0))) (he : W.heap[C]? = some (.cells #[y] s (0, 0))) (u v : Value) {W' : World} (hW : (W.setCell ⟨B, 0, none⟩ u).setCell ⟨C, 0, none⟩ v = W') :
    W'.heap[B]? = some (.cells #[u] t (0, 0)) ∧ W'.heap[C]? = some (.cells #[v] s (0, 0)) ∧ W'.heap.size = W.heap.size ∧ (∀ k, k ≠ B → k ≠ C → W'.heap[k]? = W.heap[k]?) ∧ (∀ n, n ≤ B → n ≤ C → Below n W W') := by
  subst hW
  have h0 := blk_put hs 0 u (cs' := #[u]) rfl
  have k0 := blk_far he (p := ⟨B, 0, none⟩) (Ne.symm hne) u
  exact ⟨blk_far h0 hne v, blk_put k0 0 v rfl, by simp only [size_cell], fun k h1 h2 => by rw [Below.heap_setCell _ _ _ _ h2, Below.heap_setCell _ _ _ _ h1], fun n h1 h2 => (below_cell W u h1).trans (below_cell _ v h2)⟩
theorem results_be {P : Program} {fn : Func} {p q : Tmp} {tB tE : TypeId} (h : fn.results = #[.cell p tB, .cell q tE]) (tmps : Array Value) (w : World) (g g2 : Nat) (b : Bool) (v : Int) (hp : tmps.getD p undef = .pointer (some ⟨g, 0, none⟩)) (hq : tmps.getD q undef = .pointer (some ⟨g2, 0, none⟩))
    (hg : w.heap[g]? = some (.cells #[.bool b] tB (0, 0))) (hg2 : w.heap[g2]? = some (.cells #[.int .i64 v] tE (0, 0))) (hu1 : P.underlying tB = some .bool) (hu2 : P.underlying tE = some (.int .i64)) :
    (results fn tmps).run P w = .ok (.tuple #[.bool b, .int .i64 v]) w := by
  have hp' : tmps[p]?.getD undef = .pointer (some ⟨g, 0, none⟩) := by simpa using hp
  have hq' : tmps[q]?.getD undef = .pointer (some ⟨g2, 0, none⟩) := by simpa using hq
  have hc : w.cell? ⟨g2, 0, none⟩ = some (.int .i64 v) := (blk_cell hg2 0).trans rfl
  have hd : w.cell? ⟨g, 0, none⟩ = some (.bool b) := (blk_cell hg 0).trans rfl
  have hagg : (isAgg tE).run P w = .ok false w := by
    unfold isAgg
    rw [Sem.run_bind, run_underlying hu2 w]
    simp
  have hagg1 : (isAgg tB).run P w = .ok false w := by
    unfold isAgg
    rw [Sem.run_bind, run_underlying hu1 w]
    simp
  have h2 : (loadVar tE ⟨g2, 0, none⟩).run P w = .ok (.int .i64 v) w := by simp [loadVar, Sem.run_bind, hagg, go_sem, hc, Result.andThen]
  have h1 : (loadVar tB ⟨g, 0, none⟩).run P w = .ok (.bool b) w := by simp [loadVar, Sem.run_bind, hagg1, go_sem, hd, Result.andThen]
  generalize hL1 : loadVar tB ⟨g, 0, none⟩ = L1 at h1
  generalize hL2 : loadVar tE ⟨g2, 0, none⟩ = L2 at h2
  simp [results, h, Sem.run_bind, hp', hq', asAddr, Result.andThen, hL1, hL2, h1, h2]
theorem stop_some {α : Type} {p : α → Bool} : ∀ (its pre q : List α), stopAt (fun _ x => !p x) pre its = some q → its.any p = true
  | [], _, _, h => by cases h
  | x :: r, pre, q, h => by
    rw [stopAt] at h
    cases hp : p x with
    | true => simp [hp]
    | false =>
      simp [hp] at h
      obtain ⟨q', hq, _⟩ := h
      simp only [List.any_cons, hp, Bool.false_or]
      exact stop_some r _ q' hq
theorem none_any {α : Type} {p : α → Bool} {its : List α} (h : its.find? p = none) : its.any p = false := by
  rw [List.find?_eq_none] at h
  rw [List.any_eq_false]
  exact h
def narrow (l : List S82) (i : Int) : Prop := ∀ j : Nat, (j : Int) < i → ∀ v, l[j]? = some v → ¬ v.f1 > 15
theorem narrow_all {l : List S82} {i : Int} (h : narrow l i) (hi : ¬ i < (l.length : Int)) : l.any (fun v => decide (v.f1 > 15)) = false := by
  rw [List.any_eq_false]
  intro v hv
  obtain ⟨j, hj, e⟩ := List.mem_iff_getElem.1 hv
  have := h j (by omega) v (by rw [List.getElem?_eq_getElem hj, e])
  simpa using this
theorem wide_any {l : List S82} {i : Int} (h0 : 0 ≤ i) (h1 : i < (l.length : Int)) (h : (rd_T82 l i).f1 > 15) : l.any (fun v => decide (v.f1 > 15)) = true := by
  rw [List.any_eq_true]
  have hj : i.toNat < l.length := by omega
  refine ⟨l[i.toNat], List.getElem_mem hj, ?_⟩
  have e : rd_T82 l i = l[i.toNat] := by simp [rd_T82, List.getD_eq_getElem?_getD, List.getElem?_eq_getElem hj]
  rw [e] at h
  simpa using h
theorem narrow_step {l : List S82} {i : Int} (hn : narrow l i) (h0 : 0 ≤ i) (h : ¬ (rd_T82 l i).f1 > 15) : narrow l (i + 1) := by
  intro j hj v hv
  by_cases he : (j : Int) = i
  · have e : rd_T82 l i = v := by
      have : i.toNat = j := by omega
      simp [rd_T82, List.getD_eq_getElem?_getD, this, hv]
    rw [e] at h
    exact h
  · exact hn j (by omega) v hv
set_option maxHeartbeats 8000000 in
set_option maxRecDepth 100000 in
theorem prog_Single.calls (k : Nat) (a0_0 : Int) (A0_1 : Option Addr) (c0_1 : Nat) (l0_1 : List S82) (A0_2 : Option Addr) (c0_2 : Nat) (l0_2 : List S47) (r1 : Bool) (r2 : Int) (w : World)
    (hr0_1 : Kd.C k82 w A0_1 l0_1.length l0_1) (hc0_1 : l0_1.length ≤ c0_1) (hr0_2 : Kd.C k47 w A0_2 l0_2.length l0_2) (hc0_2 : l0_2.length ≤ c0_2) (h : prog_Single.f k a0_0 l0_1 l0_2 = some (r1, r2)) :
    Calls Try.prog 40 #[.agg #[.int .i64 a0_0, .slice A0_1 l0_1.length c0_1, .slice A0_2 l0_2.length c0_2]] w fun e w' => e = .returned (.tuple #[.bool r1, .int .i64 r2]) ∧ Below w.heap.size w w' := by
  refine callsIn_wide.1 (?_ : CallsIn Fence.wide 9 _ _ _ _ _)
  have huP := Try.underlying25
  have huS := Try.underlying47
  have huV := Try.underlying82
  have huE := Try.underlying29
  have huB := Try.underlying4
  refine callsIn_of_wp_marks Try.func40 rfl trivial ?_ rfl
  simp only [Try.ntmps40, List.size_toArray, List.length_cons, List.length_nil, Nat.reduceAdd, Nat.reduceSub, Array.replicate_succ, Array.replicate_zero, List.push_toArray, List.append_toArray, List.nil_append, List.cons_append]
  unfold prog_Single.f at h
  obtain ⟨tc, AC0, H0⟩ := Option.bind_eq_some_iff.mp h
  clear h
  have HR1 := Aside0.mk hr0_1
  have HC1 := Aside0.mk hc0_1
  have HR2 := Aside0.mk hr0_2
  have HC2 := Aside0.mk hc0_2
  have AC := Aside0.mk AC0
  have H := Aside0.mk H0
  clear hr0_1 hc0_1 hr0_2 hc0_2 AC0 H0
  have FB := three_boxes w (.cells #[.int .i64 a0_0, .slice A0_1 l0_1.length c0_1, .slice A0_2 l0_2.length c0_2] 25) (.cells #[.bool false] 4) (.cells #[.int .i64 0] 29)
  gi_wp2
  generalize (((w.alloc (.cells #[.int .i64 a0_0, .slice A0_1 l0_1.length c0_1, .slice A0_2 l0_2.length c0_2] 25)).alloc (.cells #[.bool false] 4)).alloc (.cells #[.int .i64 0] 29)) = W1 at FB ⊢
  obtain ⟨b1, p1, s1, e1⟩ := FB
  refine ⟨trivial, ?_⟩
  refine (callsIn_wide.2 (prog_Check.calls k a0_0 _ _ l0_1 _ _ l0_2 tc W1 (Kd.C_below HR1.out b1) HC1.out (Kd.C_below HR2.out b1) HC2.out AC.out)).mono ?_
  rintro e W2 ⟨rfl, hb2⟩
  have b2 := b1.trans (hb2.mono b1.size)
  have p2 := (hb2.block _ (blk_lt p1)).trans p1
  have s2 := (hb2.block _ (blk_lt s1)).trans s1
  have e2 := (hb2.block _ (blk_lt e1)).trans e1
  clear p1 s1 e1 hb2 AC b1
  by_cases htc : tc = 0
  case neg =>
    have h := H.out
    rw [if_neg htc] at h
    obtain ⟨rfl, rfl⟩ : r1 = false ∧ r2 = 30 := by
      injection (Option.some.inj h) with e1 e2
      exact ⟨e1.symm, e2.symm⟩
    clear h H
    have g1 : (tc == 0) = false := beq_eq_false_iff_ne.mpr htc
    have g2 : (tc != 0) = true := bne_iff_ne.mpr htc
    have c0 : W2.cell? ⟨w.heap.size + 1, 0, none⟩ = some (.bool false) := (blk_cell s2 0).trans rfl
    have d0 : W2.cell? ⟨w.heap.size + 1 + 1, 0, none⟩ = some (.int .i64 0) := (blk_cell e2 0).trans rfl
    have f0 := blk_frozen s2 0
    have f5 := blk_frozen e2 0
    gi_wp2
    generalize hW : (W2.setCell ⟨w.heap.size + 1, 0, none⟩ (.bool false)).setCell ⟨w.heap.size + 1 + 1, 0, none⟩ (.int .i64 30) = W3
    obtain ⟨t1, t2, _, _, t5⟩ := store_pair (by omega) s2 e2 _ _ hW
    exact ⟨_, results_be rfl _ _ (w.heap.size + 1) (w.heap.size + 1 + 1) false 30 rfl rfl t1 t2 huB huE, rfl, b2.trans (t5 _ (by omega) (by omega))⟩
  case pos =>
    subst htc
    have h := H.out
    rw [if_pos rfl] at h
    have H1 := Aside0.mk h
    clear H h
    obtain ⟨c0, c1, c2⟩ := cells3 p2
    have S2 := Aside0.mk s2
    have E2 := Aside0.mk e2
    have P2 := Aside0.mk p2
    have B2 := Aside0.mk b2
    clear s2 e2 p2 b2
    gi_wp2
    gi_loopw [14] (fun v14 wr => ∃ i : Int, v14 = .int .i64 i ∧ Aside0 (0 ≤ i) ∧ Aside0 (narrow l0_1 i) ∧ Aside0 (Below W2.heap.size W2 wr)) (fun v14 _ => l0_1.length - (intOf v14).toNat)
    case atStart => exact ⟨0, rfl, ⟨Int.le_refl _⟩, ⟨fun j hj => by omega⟩, ⟨Below.refl _ _⟩⟩
    case round =>
      obtain ⟨i, rfl, HI0, HN, HW⟩ := hrel
      clear c0 c1 c2
      have hi0 := HI0.out
      have hl : l0_1.length ≤ 9223372036854775807 := HR1.out.2.1
      have b4 := B2.out.trans (HW.out.mono B2.out.size)
      have s4 := (HW.out.block _ (blk_lt S2.out)).trans S2.out
      have e4 := (HW.out.block _ (blk_lt E2.out)).trans E2.out
      have p4 := (HW.out.block _ (blk_lt P2.out)).trans P2.out
      by_cases hlt : i < (l0_1.length : Int)
      case pos =>
        have hld : decide (i < (l0_1.length : Int)) = true := decide_eq_true hlt
        have hz : decide (0 ≤ i) = true := decide_eq_true hi0
        obtain ⟨ad, eA, q0, q1, q2⟩ := at_T82 HR1.out i hi0 hlt
        cases eA
        replace q0 := (b4.cell (World.block_lt_of_cell? w _ q0)).trans q0
        replace q1 := (b4.cell (World.block_lt_of_cell? w _ q1)).trans q1
        replace q2 := (b4.cell (World.block_lt_of_cell? w _ q2)).trans q2
        by_cases hwd : (rd_T82 l0_1 i).f1 > 15
        case pos =>
          have hwt : decide ((rd_T82 l0_1 i).f1 > 15) = true := decide_eq_true hwd
          have hany := wide_any hi0 hlt hwd
          have h := H1.out
          rw [if_pos hany] at h
          obtain ⟨rfl, rfl⟩ : r1 = false ∧ r2 = 0 := by
            injection (Option.some.inj h) with e1 e2
            exact ⟨e1.symm, e2.symm⟩
          have l1 := blk_lt s4
          have l2 := blk_lt e4
          have c0 : wr.cell? ⟨w.heap.size + 1, 0, none⟩ = some (.bool false) := (blk_cell s4 0).trans rfl
          have d0 : wr.cell? ⟨w.heap.size + 1 + 1, 0, none⟩ = some (.int .i64 0) := (blk_cell e4 0).trans rfl
          have f0 := blk_frozen s4 0
          have f5 := blk_frozen e4 0
          gi_wp2
          generalize hW : (wr.setCell ⟨w.heap.size + 1, 0, none⟩ (.bool false)).setCell ⟨w.heap.size + 1 + 1, 0, none⟩ (.int .i64 0) = W4
          obtain ⟨t1, t2, _, _, t5⟩ := store_pair (by omega) s4 e4 _ _ hW
          exact ⟨_, results_be rfl _ _ (w.heap.size + 1) (w.heap.size + 1 + 1) false 0 rfl rfl (kal t1 _) (kal t2 _) huB huE, rfl, bal (b4.trans (t5 _ (by omega) (by omega))) _⟩
        case neg =>
          have hwt : decide ((rd_T82 l0_1 i).f1 > 15) = false := decide_eq_false hwd
          gi_wp2
          have e1 : intOf (Value.int IntKind.i64 (i + 1)) = i + 1 := rfl
          have e2 : intOf (Value.int IntKind.i64 i) = i := rfl
          refine ⟨⟨i + 1, rfl, ⟨by omega⟩, ⟨narrow_step HN.out hi0 hwd⟩, ⟨bal HW.out _⟩⟩, ?_⟩
          rw [e1, e2]
          omega
      case neg =>
        have hld : decide (i < (l0_1.length : Int)) = false := decide_eq_false hlt
        have hany := narrow_all HN.out hlt
        have h := H1.out
        rw [if_neg (by rw [hany]; simp)] at h
        obtain ⟨⟨its, n'⟩, WK0, h⟩ := Option.bind_eq_some_iff.mp h
        have WK := Aside0.mk WK0
        have PK := Aside0.mk (Option.some.inj h)
        clear h H1 WK0
        obtain ⟨c0, c1, c2⟩ := cells3 p4
        gi_wp2_with (first | (refine ⟨trivial, ?_⟩; refine (callsIn_wide.2 (prog_each.fn _ _ _ wr)).mono ?_; rintro e W3 ⟨rfl, hb3, q3⟩))
        have b3 := b4.trans (hb3.mono b4.size)
        have s3 := (hb3.block _ (blk_lt s4)).trans s4
        have e3 := (hb3.block _ (blk_lt e4)).trans e4
        clear c0 c1 c2 p4 s4 e4
        have hcell : W3.cell? ⟨wr.heap.size, 2, none⟩ = some (.slice A0_2 l0_2.length c0_2) := (blk_cell q3 2).trans rfl
        refine wpIn_rangeBy (gf := 76) (lb := #[.pointer (some ⟨wr.heap.size, 0, none⟩)]) rfl (enters_of Try.func76 (by kernel_rfl) rfl)
          (prog_each.seq W3 wr.heap.size A0_2 c0_2 l0_2 its n' k hcell (Kd.C_below HR2.out b3) HC2.out WK.out) (Below.refl _ _) (by rintro x av ⟨v, rfl, _⟩; rfl)
          (fun _ x => !(decide (x.2.f0 = 3) && decide (x.2.f1 > 15)))
          (fun _ W => Below W3.heap.size W3 W)
          (fun c _ W => c = .ret ∧ W.heap[w.heap.size + 1]? = some (.cells #[.bool false] 4 (0, 0)) ∧ W.heap[w.heap.size + 1 + 1]? = some (.cells #[.int .i64 0] 29 (0, 0)) ∧ Below w.heap.size w W)
          (fun pre A B h hb => h.trans hb) ?hIx (Below.refl _ _) ?round ?done ?stop
        case hIx =>
          rintro c pre A j o o' hj ⟨hc, h1, h2, hb⟩ hA ho
          have ne : ∀ {k : Nat} {cs : Array Value} {t : TypeId}, A.heap[k]? = some (.cells cs t (0, 0)) → k ≠ j := by
            intro k cs t hk e
            subst e
            rw [hA] at hk
            cases hk
            cases ho
          have hS3 := b3.size
          exact ⟨hc, (World.putObj_heap_other (ne h1)).trans h1, (World.putObj_heap_other (ne h2)).trans h2, hb.trans (below_put _ _ _ (by omega))⟩
        case stop =>
          rintro c q W hst ⟨rfl, t1, t2, hb⟩ hD
          have hB3 := blk_lt e3
          have hS3 := b3.size
          have ha := stop_some (p := fun x : Int × S47 => decide (x.2.f0 = 3) && decide (x.2.f1 > 15)) _ _ _ hst
          obtain ⟨rfl, rfl⟩ : r1 = false ∧ r2 = 0 := by
            injection PK.out with e1 e2
            exact ⟨by rw [← e1]; simp [ha], e2.symm⟩
          gi_wp2
          refine ⟨by simp, .inl ⟨_, _, rfl, run_takeDeferred hD, ?_⟩⟩
          exact ⟨_, results_be rfl _ _ (w.heap.size + 1) (w.heap.size + 1 + 1) false 0 rfl rfl ((World.putObj_heap_other (by omega)).trans t1) ((World.putObj_heap_other (by omega)).trans t2) huB huE, rfl, hb.trans (below_put _ _ _ hS3)⟩
        case done =>
          rintro W hst hbW _ hD
          have ha := none_any (stop_none (p := fun x : Int × S47 => decide (x.2.f0 = 3) && decide (x.2.f1 > 15)) _ _ hst)
          obtain ⟨rfl, rfl⟩ : r1 = true ∧ r2 = 0 := by
            injection PK.out with e1 e2
            exact ⟨by rw [← e1]; simp [ha], e2.symm⟩
          have hB3 := blk_lt e3
          have hS3 := b3.size
          have s4 := (hbW.block _ (blk_lt s3)).trans s3
          have e4 := (hbW.block _ (blk_lt e3)).trans e3
          have c0 : W.cell? ⟨w.heap.size + 1, 0, none⟩ = some (.bool false) := (blk_cell s4 0).trans rfl
          have d0 : W.cell? ⟨w.heap.size + 1 + 1, 0, none⟩ = some (.int .i64 0) := (blk_cell e4 0).trans rfl
          have f0 := blk_frozen s4 0
          have f5 := blk_frozen e4 0
          gi_wp2
          generalize hW : (W.setCell ⟨w.heap.size + 1, 0, none⟩ (.bool true)).setCell ⟨w.heap.size + 1 + 1, 0, none⟩ (.int .i64 0) = W6
          obtain ⟨t1, t2, _, t4, t5⟩ := store_pair (by omega) s4 e4 _ _ hW
          refine ⟨by simp, .inl ⟨_, _, rfl, run_takeDeferred ((t4 _ (by omega) (by omega)).trans hD), ?_⟩⟩
          exact ⟨_, results_be rfl _ _ (w.heap.size + 1) (w.heap.size + 1 + 1) true 0 rfl rfl ((World.putObj_heap_other (by omega)).trans t1) ((World.putObj_heap_other (by omega)).trans t2) huB huE, rfl, b3.trans ((hbW.mono hS3).trans ((t5 _ (by omega) (by omega)).trans (below_put _ _ _ hS3)))⟩
        case round =>
          rintro l pre x av W hbW ⟨v, rfl, hv⟩ hpre _ hsz
          obtain ⟨A2, z2, A3, z3, A4, z4, rfl, ql2, qr2, ql3, qr3, ql4, qr4⟩ := hv
          gi_wp2
          refine ⟨World.grownBy_alloc _ _ _, ?_⟩
          intro W4 hg4 hs4 hi4 hb4
          have x4 : W4.heap[W.heap.size]? = some (.cells #[.int .i64 x.2.f0, .int .i64 x.2.f1, .slice A2 x.2.f2.length z2, .slice A3 x.2.f3.length z3, .slice A4 x.2.f4.length z4] 47 (0, 0)) :=
            (hg4.block W.heap.size (by simp) (by intro e; injection e with e; omega)).trans (heap_alloc_new _ _)
          have hB3 := blk_lt e3
          have hS3 := b3.size
          have s4 := (hi4.block _ (blk_lt s3)).trans s3
          have e4 := (hi4.block _ (blk_lt e3)).trans e3
          obtain ⟨m0, m1, m2, m3, m4⟩ := cells5 x4
          have hsW : W4.heap.size = W.heap.size + 1 := by rw [hs4]; simp
          have c0 : W4.cell? ⟨w.heap.size + 1, 0, none⟩ = some (.bool false) := (blk_cell s4 0).trans rfl
          have d0 : W4.cell? ⟨w.heap.size + 1 + 1, 0, none⟩ = some (.int .i64 0) := (blk_cell e4 0).trans rfl
          have f0 := blk_frozen s4 0
          have f5 := blk_frozen e4 0
          by_cases h3 : x.2.f0 = 3
          case neg =>
            have h3d : decide (x.2.f0 = 3) = false := decide_eq_false h3
            have h3b : (x.2.f0 == 3) = false := beq_eq_false_iff_ne.mpr h3
            gi_wp2
            exact ⟨by simp [h3d], Nat.le_refl _, fun k _ _ => rfl, hb4, hi4⟩
          case pos =>
            have h3d : decide (x.2.f0 = 3) = true := decide_eq_true h3
            have h3b : (x.2.f0 == 3) = true := beq_iff_eq.mpr h3
            by_cases h5 : x.2.f1 > 15
            case neg =>
              have h5d : decide (x.2.f1 > 15) = false := decide_eq_false h5
              gi_wp2
              exact ⟨by simp [h3d, h5d], Nat.le_refl _, fun k _ _ => rfl, hb4, hi4⟩
            case pos =>
              have h5d : decide (x.2.f1 > 15) = true := decide_eq_true h5
              gi_wp2
              generalize hW : (W4.setCell ⟨w.heap.size + 1, 0, none⟩ (.bool false)).setCell ⟨w.heap.size + 1 + 1, 0, none⟩ (.int .i64 0) = W6
              obtain ⟨t1, t2, _, t4, t5⟩ := store_pair (by omega) s4 e4 _ _ hW
              exact ⟨by simp [h3d, h5d], fun k h1 h2 => t4 k (by omega) (by omega), rfl, t1, t2, b3.trans ((hi4.mono hS3).trans (t5 _ (by omega) (by omega)))⟩
end Go.Proofs.Ytffcpbgbhkbplaa.Print
namespace Go.Proofs.Ytffcpbgbhkbplaa.Print
open Go.RowKit Go.Proofs.YtffcpbgbhkbplaaW.PrintWords Go.Proofs.YtffcpbgbhkbplaaW.PrintLast Go.Proofs.YtffcpbgbhkbplaaW.PrintMore
attribute [local go_sem] max2_int min2_int max_two min_two max_three min_three max_four min_four
set_option linter.unusedVariables false
set_option linter.unusedSimpArgs false
mutual
def r3_Count.l0 : Nat → List (S47) → Int → Int → Option (Int)
 | 0, _, _, _ => none
 | k + 1, x0, x3, x4 => if x4 < (x0.length : Int) then (if 0 ≤ x4 then ((r3_Count.f k ((rd_T47 x0 x4).f3)).bind fun t403 => ((r3_Count.f k ((rd_T47 x0 x4).f4)).bind fun t405 => (r3_Count.l0 k x0 (wrap64 ((wrap64 ((wrap64 (x3 + 1)) + t403)) + t405)) (wrap64 (x4 + 1))))) else (none)) else (some x3)
def r3_Count.f : Nat → List (S47) → Option (Int)
 | 0, _ => none
 | k + 1, l0 => r3_Count.l0 k l0 0 0
end
def r3_Count.T5 : Bool × List (List Nat × List Nat) := (true, [([], []), ([0], [0]), ([], []), ([], []), ([2, 3], [2, 3]), ([4], [4]), ([5], [5]), ([6], [6]), ([1, 7], [1, 7]), ([], []), ([], []), ([9, 10], [9, 10]), ([11], [11]), ([12], [12]), ([13, 7], [13]), ([8, 14], [8, 14]), ([15, 14, 0, 1, 2, 3, 4, 5, 6, 7, 8, 9, 10, 11, 12, 13, 14, 15], [0, 15])])
def r3_Count.B5 : List Nat := [0, 1, 0, 0, 12, 28, 60, 124, 255, 0, 0, 1536, 3584, 7680, 16124, 32767, 65535]
theorem r3_Count.tab5 : rtab .any (opsOf Try.f35 5) = r3_Count.T5 := by kernel_rfl
theorem r3_Count.bits5 : waitsOk r3_Count.T5.2 r3_Count.B5 = true := by kernel_rfl
set_option maxHeartbeats 8000000 in
set_option maxRecDepth 100000 in
theorem r3_Count.calls (k : Nat) : ∀ (A0 : Option Addr) (c0 : Nat) (l0 : List (S47)) (r : Int) (w : World) (hr0 : Kd.C k47 w A0 l0.length l0) (hc0 : l0.length ≤ c0) (h : r3_Count.f k l0 = some r),
  Calls Try.prog 35 #[.slice A0 l0.length c0] w fun e w' => e = .returned (.int .i64 r) ∧ Below w.heap.size w w' := by
 induction k using Nat.strongRecOn with
 | _ k ih =>
 intro A0 c0 l0 r w hr0 hc0 h
 cases k with
 | zero => exact absurd h (by simp [r3_Count.f])
 | succ k =>
 simp only [r3_Count.f] at h
 have HR0 := Aside0.mk hr0
 have HC0 := Aside0.mk hc0
 clear hr0 hc0
 have HB := Aside0.mk (Below.refl w.heap.size w)
 have H : (r3_Count.l0 k l0 0 0) = some r := h
 clear h
 have H' := Aside0.mk H
 clear H
 go_enter Try.func35, Try.ntmps35
 go_wp2
 go_loopg [3, 4] k (fun kq v3 v4 w' => ∃ (x3_1 : Int) (x4_1 : Int), v3 = .int .i64 x3_1 ∧ v4 = .int .i64 x4_1 ∧ Aside0 (r3_Count.l0 kq l0 x3_1 x4_1 = some r) ∧ Aside0 (kq ≤ k) ∧ Aside0 (Below w.heap.size w w'))
 case atStart => exact ⟨(0), (0), (by first | rfl | (simp; done) | (simp [*]; done)), (by first | rfl | (simp; done) | (simp [*]; done)), H', ⟨Nat.le_refl _⟩, ⟨by repeat (first | (with_reducible first | exact HB.out | apply bal | apply bdN | apply bd1) | exact HB.out)⟩⟩
 case round =>
  clear H'
  obtain ⟨x3_1, x4_1, rfl, rfl, HA, HK1, HB⟩ := hrel
  cases gk with
  | zero => exact absurd HA.out (by simp [r3_Count.l0])
  | succ k1 =>
   have H := HA.out
   clear HA
   simp only [r3_Count.l0] at H
   by_cases c2 : x4_1 < (l0.length : Int)
   ·rw [if_pos c2] at H
    have c2b0 : decide (x4_1 < (l0.length : Int)) = true := decide_eq_true c2
    clear c2
    by_cases c3 : 0 ≤ x4_1
    ·rw [if_pos c3] at H
     have c3b0 : decide (0 ≤ x4_1) = true := decide_eq_true c3
     clear c3
     replace H := Option.bind_eq_some_iff.mp H
     obtain ⟨t403, A40, H⟩ := H
     replace H : ((r3_Count.f k1 ((rd_T47 l0 x4_1).f4)).bind fun t405 => (r3_Count.l0 k1 l0 (wrap64 ((wrap64 ((wrap64 (x3_1 + 1)) + t403)) + t405)) (wrap64 (x4_1 + 1)))) = some r := H
     have A4 := Aside0.mk A40
     clear A40
     replace H := Option.bind_eq_some_iff.mp H
     obtain ⟨t405, A50, H⟩ := H
     replace H : (r3_Count.l0 k1 l0 (wrap64 ((wrap64 ((wrap64 (x3_1 + 1)) + t403)) + t405)) (wrap64 (x4_1 + 1))) = some r := H
     have A5 := Aside0.mk A50
     clear A50
     have H' := Aside0.mk H
     clear H
     try go_wp2
     have n0_ := Aside0.mk (bd1 HB.out)
     clear HB
     have HB := n0_
     clear n0_
     have p402 : 0 ≤ (x4_1 : Int) := of_decide_eq_true (by first | (with_reducible assumption) | assumption)
     have q402 : x4_1 < (l0.length : Int) := of_decide_eq_true (by first | (with_reducible assumption) | assumption)
     obtain ⟨ad402, A402_2, c402_2, A402_3, c402_3, A402_4, c402_4, e402, hx402_0, hx402_1, hx402_2, hx402_3, hx402_4, hl402_2, hi402_2, hl402_3, hi402_3, hl402_4, hi402_4⟩ := at_T47 HR0.out x4_1 p402 q402
     have hw402_4 := hx402_4
     have hw402_3 := hx402_3
     have hw402_2 := hx402_2
     have hw402_1 := hx402_1
     have hw402_0 := hx402_0
     cases e402
     replace hx402_0 := bcell HB.out hx402_0
     replace hx402_1 := bcell HB.out hx402_1
     replace hx402_2 := bcell HB.out hx402_2
     replace hx402_3 := bcell HB.out hx402_3
     replace hx402_4 := bcell HB.out hx402_4
     have HR402_2 := Aside0.mk hi402_2
     have HC402_2 := Aside0.mk hl402_2
     clear hi402_2 hl402_2
     have HR402_3 := Aside0.mk hi402_3
     have HC402_3 := Aside0.mk hl402_3
     clear hi402_3 hl402_3
     have HR402_4 := Aside0.mk hi402_4
     have HC402_4 := Aside0.mk hl402_4
     clear hi402_4 hl402_4
     replace p402 := eq_true p402
     replace q402 := eq_true q402
     have p404 : 0 ≤ (x4_1 : Int) := of_decide_eq_true (by first | (with_reducible assumption) | assumption)
     have q404 : x4_1 < (l0.length : Int) := of_decide_eq_true (by first | (with_reducible assumption) | assumption)
     obtain ⟨ad404, A404_2, c404_2, A404_3, c404_3, A404_4, c404_4, e404, hx404_0, hx404_1, hx404_2, hx404_3, hx404_4, hl404_2, hi404_2, hl404_3, hi404_3, hl404_4, hi404_4⟩ := at_T47 HR0.out x4_1 p404 q404
     have hw404_4 := hx404_4
     have hw404_3 := hx404_3
     have hw404_2 := hx404_2
     have hw404_1 := hx404_1
     have hw404_0 := hx404_0
     obtain rfl : ad402 = ad404 := (by injection e404)
     replace hx404_0 := bcell HB.out hx404_0
     replace hx404_1 := bcell HB.out hx404_1
     replace hx404_2 := bcell HB.out hx404_2
     replace hx404_3 := bcell HB.out hx404_3
     replace hx404_4 := bcell HB.out hx404_4
     have HR404_2 := Aside0.mk hi404_2
     have HC404_2 := Aside0.mk hl404_2
     clear hi404_2 hl404_2
     have HR404_3 := Aside0.mk hi404_3
     have HC404_3 := Aside0.mk hl404_3
     clear hi404_3 hl404_3
     have HR404_4 := Aside0.mk hi404_4
     have HC404_4 := Aside0.mk hl404_4
     clear hi404_4 hl404_4
     replace p404 := eq_true p404
     replace q404 := eq_true q404
     have ea_ := Option.some.inj (hx402_2.symm.trans hx404_2)
     injection ea_ with ea_ en_ ec_
     subst ea_
     subst ec_
     clear en_
     have ea_ := Option.some.inj (hx402_3.symm.trans hx404_3)
     injection ea_ with ea_ en_ ec_
     subst ea_
     subst ec_
     clear en_
     have ea_ := Option.some.inj (hx402_4.symm.trans hx404_4)
     injection ea_ with ea_ en_ ec_
     subst ea_
     subst ec_
     clear en_
     refine start_ (n := 17) (S := fun w' => w'.cell? (ad402.add ((x4_1).toNat * 5)) = some (.int .i64 ((rd_T47 l0 x4_1).f0)) ∧ w'.cell? ⟨(ad402.add ((x4_1).toNat * 5)).block, (ad402.add ((x4_1).toNat * 5)).off + 1, none⟩ = some (.int .i64 ((rd_T47 l0 x4_1).f1)) ∧ w'.cell? ⟨(ad402.add ((x4_1).toNat * 5)).block, (ad402.add ((x4_1).toNat * 5)).off + 2, none⟩ = some (.slice A402_2 ((rd_T47 l0 x4_1).f2).length c402_2) ∧ w'.cell? ⟨(ad402.add ((x4_1).toNat * 5)).block, (ad402.add ((x4_1).toNat * 5)).off + 3, none⟩ = some (.slice A402_3 ((rd_T47 l0 x4_1).f3).length c402_3) ∧ w'.cell? ⟨(ad402.add ((x4_1).toNat * 5)).block, (ad402.add ((x4_1).toNat * 5)).off + 4, none⟩ = some (.slice A402_4 ((rd_T47 l0 x4_1).f4).length c402_4) ∧ w'.cell? (ad402.add ((x4_1).toNat * 5)) = some (.int .i64 ((rd_T47 l0 x4_1).f0)) ∧ w'.cell? ⟨(ad402.add ((x4_1).toNat * 5)).block, (ad402.add ((x4_1).toNat * 5)).off + 1, none⟩ = some (.int .i64 ((rd_T47 l0 x4_1).f1)) ∧ w'.cell? ⟨(ad402.add ((x4_1).toNat * 5)).block, (ad402.add ((x4_1).toNat * 5)).off + 2, none⟩ = some (.slice A402_2 ((rd_T47 l0 x4_1).f2).length c402_2) ∧ w'.cell? ⟨(ad402.add ((x4_1).toNat * 5)).block, (ad402.add ((x4_1).toNat * 5)).off + 3, none⟩ = some (.slice A402_3 ((rd_T47 l0 x4_1).f3).length c402_3) ∧ w'.cell? ⟨(ad402.add ((x4_1).toNat * 5)).block, (ad402.add ((x4_1).toNat * 5)).off + 4, none⟩ = some (.slice A402_4 ((rd_T47 l0 x4_1).f4).length c402_4)) (ds := []) #[false, false, false, false, false, false, false, false, false, false, false, false, false, false, false, false, false] (by kernel_rfl) rfl rfl ⟨(bcell HB.out hw402_0), (bcell HB.out hw402_1), (bcell HB.out hw402_2), (bcell HB.out hw402_3), (bcell HB.out hw402_4), (bcell HB.out hw404_0), (bcell HB.out hw404_1), (bcell HB.out hw404_2), (bcell HB.out hw404_3), (bcell HB.out hw404_4)⟩ (fun hHeld => ?_); refine with_tabW r3_Count.tab5 r3_Count.bits5 (fun HT_ HW_ => ?_)
     generalize wr.drew = w6 at HB HR402_2 HR402_3 HR402_4 HR404_2 HR404_3 HR404_4 hx402_0 hx402_1 hx402_2 hx402_3 hx402_4 hx404_0 hx404_1 hx404_2 hx404_3 hx404_4 hHeld ⊢
     refine pure_ (i := 0) (N := some 11) (v := ?_) (a' := ?_) #[true, false, false, false, false, false, false, false, false, false, false, false, false, false, false, false, false] rfl rfl (any_of HT_.out (by kernel_rfl)) (fun _ _ _ h => h) (Or.inl ⟨by rfl, ?_⟩) ?_ ?_
     rotate_left
     ·intro w'
      go_simp
      with_reducible rfl
     rotate_left
     ·simp only [Act.put, List.setIfInBounds_toArray, List.set_cons_zero, List.set_cons_succ, i64_w, i32_w]
      rfl
     refine pure_ (i := 1) (N := some 12) (v := ?_) (a' := ?_) #[true, true, false, false, false, false, false, false, false, false, false, false, false, false, false, false, false] rfl rfl (any_of HT_.out (by kernel_rfl)) (fun _ _ _ h => h) (Or.inl ⟨by rfl, ?_⟩) ?_ ?_
     rotate_left
     ·intro w'
      go_simp
      with_reducible rfl
     rotate_left
     ·simp only [Act.put, List.setIfInBounds_toArray, List.set_cons_zero, List.set_cons_succ, i64_w, i32_w]
      rfl
     refine pure_ (i := 2) (N := some 13) (v := ?_) (a' := ?_) #[true, true, true, false, false, false, false, false, false, false, false, false, false, false, false, false, false] rfl rfl (any_of HT_.out (by kernel_rfl)) (fun _ _ _ h => h) (Or.inl ⟨by rfl, ?_⟩) ?_ ?_
     rotate_left
     ·intro w'
      go_simp
      with_reducible rfl
     rotate_left
     ·simp only [Act.put, List.setIfInBounds_toArray, List.set_cons_zero, List.set_cons_succ, i64_w, i32_w]
      rfl
     refine pure_ (i := 3) (N := some 14) (v := ?_) (a' := ?_) #[true, true, true, true, false, false, false, false, false, false, false, false, false, false, false, false, false] rfl rfl (any_of HT_.out (by kernel_rfl)) (fun _ _ _ h => h) (Or.inl ⟨by rfl, ?_⟩) ?_ ?_
     rotate_left
     ·intro w'
      go_simp
      with_reducible rfl
     rotate_left
     ·simp only [Act.put, List.setIfInBounds_toArray, List.set_cons_zero, List.set_cons_succ, i64_w, i32_w]
      rfl
     refine pure_ (i := 4) (N := some 15) (v := ?_) (a' := ?_) #[true, true, true, true, true, false, false, false, false, false, false, false, false, false, false, false, false] rfl rfl (any_of HT_.out (by kernel_rfl)) (fun _ _ _ h => h) (Or.inl ⟨by rfl, ?_⟩) ?_ ?_
     rotate_left
     ·intro w'
      go_simp
      with_reducible rfl
     rotate_left
     ·simp only [Act.put, List.setIfInBounds_toArray, List.set_cons_zero, List.set_cons_succ, i64_w, i32_w]
      rfl
     refine pure_ (i := 5) (N := some 16) (v := ?_) (a' := ?_) #[true, true, true, true, true, true, false, false, false, false, false, false, false, false, false, false, false] rfl rfl (any_of HT_.out (by kernel_rfl)) (fun _ _ _ h => h) (Or.inl ⟨by rfl, ?_⟩) ?_ ?_
     rotate_left
     ·intro w'
      go_simp
      with_reducible rfl
     rotate_left
     ·simp only [Act.put, List.setIfInBounds_toArray, List.set_cons_zero, List.set_cons_succ, i64_w, i32_w]
      rfl
     refine pure_ (i := 9) (N := some 20) (v := ?_) (a' := ?_) #[true, true, true, true, true, true, false, false, false, true, false, false, false, false, false, false, false] rfl rfl (any_of HT_.out (by kernel_rfl)) (fun _ _ _ h => h) (Or.inl ⟨by rfl, ?_⟩) ?_ ?_
     rotate_left
     ·intro w'
      go_simp
      with_reducible rfl
     rotate_left
     ·simp only [Act.put, List.setIfInBounds_toArray, List.set_cons_zero, List.set_cons_succ, i64_w, i32_w]
      rfl
     refine pure_ (i := 10) (N := some 21) (v := ?_) (a' := ?_) #[true, true, true, true, true, true, false, false, false, true, true, false, false, false, false, false, false] rfl rfl (any_of HT_.out (by kernel_rfl)) (fun _ _ _ h => h) (Or.inl ⟨by rfl, ?_⟩) ?_ ?_
     rotate_left
     ·intro w'
      go_simp
      with_reducible rfl
     rotate_left
     ·simp only [Act.put, List.setIfInBounds_toArray, List.set_cons_zero, List.set_cons_succ, i64_w, i32_w]
      rfl
     refine pure_ (i := 11) (N := some 22) (v := ?_) (a' := ?_) #[true, true, true, true, true, true, false, false, false, true, true, true, false, false, false, false, false] rfl rfl (any_of HT_.out (by kernel_rfl)) (fun _ _ _ h => h) (Or.inl ⟨by rfl, ?_⟩) ?_ ?_
     rotate_left
     ·intro w'
      go_simp
      with_reducible rfl
     rotate_left
     ·simp only [Act.put, List.setIfInBounds_toArray, List.set_cons_zero, List.set_cons_succ, i64_w, i32_w]
      rfl
     refine pure_ (i := 12) (N := some 23) (v := ?_) (a' := ?_) #[true, true, true, true, true, true, false, false, false, true, true, true, true, false, false, false, false] rfl rfl (any_of HT_.out (by kernel_rfl)) (fun _ _ _ h => h) (Or.inl ⟨by rfl, ?_⟩) ?_ ?_
     rotate_left
     ·intro w'
      go_simp
      with_reducible rfl
     rotate_left
     ·simp only [Act.put, List.setIfInBounds_toArray, List.set_cons_zero, List.set_cons_succ, i64_w, i32_w]
      rfl
     refine take_ (i := 6) (N := some 17) (v := ?_) (a' := ?_) #[true, true, true, true, true, true, true, false, false, true, true, true, true, false, false, false, false] rfl rfl (take_ofW HT_.out HW_.out (by kernel_rfl)) (fun _ _ _ h => h) (Or.inl ⟨by rfl, ?_⟩) hHeld ?_ ?_
     rotate_left
     ·rintro w' ⟨s0, s1, s2, s3, s4, s5, s6, s7, s8, s9⟩
      go_simp
      with_reducible rfl
     rotate_left
     ·simp only [Act.put, List.setIfInBounds_toArray, List.set_cons_zero, List.set_cons_succ, i64_w, i32_w]
      rfl
     refine take_ (i := 13) (N := some 24) (v := ?_) (a' := ?_) #[true, true, true, true, true, true, true, false, false, true, true, true, true, true, false, false, false] rfl rfl (take_ofW HT_.out HW_.out (by kernel_rfl)) (fun _ _ _ h => h) (Or.inl ⟨by rfl, ?_⟩) hHeld ?_ ?_
     rotate_left
     ·rintro w' ⟨s0, s1, s2, s3, s4, s5, s6, s7, s8, s9⟩
      go_simp
      with_reducible rfl
     rotate_left
     ·simp only [Act.put, List.setIfInBounds_toArray, List.set_cons_zero, List.set_cons_succ, i64_w, i32_w]
      rfl
     refine one_ (i := 7) (N := some 18) #[true, true, true, true, true, true, true, true, false, true, true, true, true, true, false, false, false] rfl rfl (one_of HT_.out (by kernel_rfl)) (by decide) (fun K hK => ?_)
     refine goes_ Try.func35 (by kernel_rfl) rfl #[.slice A402_3 ((rd_T47 l0 x4_1).f3).length c402_3] (by rfl) rfl rfl (by (try simp only [List.map_toArray, List.map_cons, List.map_nil]); first | done | rfl | (simp only [List.length_drop, List.length_take]; rfl)) ?_
     with_reducible refine (ih k1 (by have := HK1.out; omega) _ _ ((rd_T47 l0 x4_1).f3) t403 _ ?side1 ?side2 A4.out).mono ?_
     (case side1 => repeat (first | exact (Kd.C_below HR402_3.out HB.out) | with_reducible first | apply Kd.C_alloc | apply Kd.C_drewN | apply Kd.C_drew))
     (case side2 => exact HC402_3.out)
     rintro e w7 ⟨rfl, hb⟩
     refine ⟨_, rfl, ?_⟩
     have n0_ := Aside0.mk (bsp (by repeat (first | (with_reducible first | exact HB.out | apply bal | apply bdN | apply bd1) | exact HB.out)) hb)
     clear HB
     have HB := n0_
     clear n0_
     (try clear hb)
     (try clear hb2)
     (try clear hk)
     (try clear hi)
     refine hK.out _ _ ⟨(bcell HB.out hw402_0), (bcell HB.out hw402_1), (bcell HB.out hw402_2), (bcell HB.out hw402_3), (bcell HB.out hw402_4), (bcell HB.out hw404_0), (bcell HB.out hw404_1), (bcell HB.out hw404_2), (bcell HB.out hw404_3), (bcell HB.out hw404_4)⟩ (fun hHeld => ?_)
     clear hK K
     refine norm_ (a' := ?_) ?_ ?_
     rotate_left
     ·show Act.put _ (some 18) _ = _
      simp only [Act.put, List.setIfInBounds_toArray, List.set_cons_zero, List.set_cons_succ, i64_w, i32_w]
      rfl
     refine pure_ (i := 8) (N := some 19) (v := ?_) (a' := ?_) #[true, true, true, true, true, true, true, true, true, true, true, true, true, true, false, false, false] rfl rfl (any_of HT_.out (by kernel_rfl)) (fun _ _ _ h => h) (Or.inl ⟨by rfl, ?_⟩) ?_ ?_
     rotate_left
     ·intro w'
      go_simp
      with_reducible rfl
     rotate_left
     ·simp only [Act.put, List.setIfInBounds_toArray, List.set_cons_zero, List.set_cons_succ, i64_w, i32_w]
      rfl
     refine one_ (i := 14) (N := some 25) #[true, true, true, true, true, true, true, true, true, true, true, true, true, true, true, false, false] rfl rfl (one_of HT_.out (by kernel_rfl)) (by decide) (fun K hK => ?_)
     refine goes_ Try.func35 (by kernel_rfl) rfl #[.slice A402_4 ((rd_T47 l0 x4_1).f4).length c402_4] (by rfl) rfl rfl (by (try simp only [List.map_toArray, List.map_cons, List.map_nil]); first | done | rfl | (simp only [List.length_drop, List.length_take]; rfl)) ?_
     with_reducible refine (ih k1 (by have := HK1.out; omega) _ _ ((rd_T47 l0 x4_1).f4) t405 _ ?side1 ?side2 A5.out).mono ?_
     (case side1 => repeat (first | exact (Kd.C_below HR404_4.out HB.out) | with_reducible first | apply Kd.C_alloc | apply Kd.C_drewN | apply Kd.C_drew))
     (case side2 => exact HC404_4.out)
     rintro e w8 ⟨rfl, hb⟩
     refine ⟨_, rfl, ?_⟩
     have n0_ := Aside0.mk (bsp (by repeat (first | (with_reducible first | exact HB.out | apply bal | apply bdN | apply bd1) | exact HB.out)) hb)
     clear HB
     have HB := n0_
     clear n0_
     (try clear hb)
     (try clear hb2)
     (try clear hk)
     (try clear hi)
     refine hK.out _ _ ⟨(bcell HB.out hw402_0), (bcell HB.out hw402_1), (bcell HB.out hw402_2), (bcell HB.out hw402_3), (bcell HB.out hw402_4), (bcell HB.out hw404_0), (bcell HB.out hw404_1), (bcell HB.out hw404_2), (bcell HB.out hw404_3), (bcell HB.out hw404_4)⟩ (fun hHeld => ?_)
     clear hK K
     refine norm_ (a' := ?_) ?_ ?_
     rotate_left
     ·show Act.put _ (some 25) _ = _
      simp only [Act.put, List.setIfInBounds_toArray, List.set_cons_zero, List.set_cons_succ, i64_w, i32_w]
      rfl
     refine pure_ (i := 15) (N := some 26) (v := ?_) (a' := ?_) #[true, true, true, true, true, true, true, true, true, true, true, true, true, true, true, true, false] rfl rfl (any_of HT_.out (by kernel_rfl)) (fun _ _ _ h => h) (Or.inl ⟨by rfl, ?_⟩) ?_ ?_
     rotate_left
     ·intro w'
      go_simp
      with_reducible rfl
     rotate_left
     ·simp only [Act.put, List.setIfInBounds_toArray, List.set_cons_zero, List.set_cons_succ, i64_w, i32_w]
      rfl
     refine pure_ (i := 16) (N := some 3) (v := ?_) (a' := ?_) #[true, true, true, true, true, true, true, true, true, true, true, true, true, true, true, true, true] rfl rfl (any_of HT_.out (by kernel_rfl)) (fun _ _ _ h => h) (Or.inl ⟨by rfl, ?_⟩) ?_ ?_
     rotate_left
     ·intro w'
      go_simp
      with_reducible rfl
     rotate_left
     ·simp only [Act.put, List.setIfInBounds_toArray, List.set_cons_zero, List.set_cons_succ, i64_w, i32_w]
      rfl
     refine done_ (done_of HT_.out (by kernel_rfl)) ?_
     try go_wp2
     go_roundg k1
     case measure => have := HK1.out; omega
     case rel => exact ⟨(wrap64 ((wrap64 ((wrap64 (x3_1 + 1)) + t403)) + t405)), (wrap64 (x4_1 + 1)), (by first | rfl | (simp; done) | (simp [*]; done)), (by first | rfl | (simp; done) | (simp [*]; done)), H', ⟨by have := HK1.out; omega⟩, ⟨by repeat (first | (with_reducible first | exact HB.out | apply bal | apply bdN | apply bd1) | exact HB.out)⟩⟩
    ·rw [if_neg c3] at H
     exact absurd H (by simp)
   ·rw [if_neg c2] at H
    have c2b0 : decide (x4_1 < (l0.length : Int)) = false := decide_eq_false c2
    clear c2
    obtain rfl := Option.some.inj H
    go_wp2
    go_ret
    exact ⟨by first | rfl | (simp [*] <;> rfl), by repeat (first | (with_reducible first | exact HB.out | apply bal | apply bdN | apply bd1) | exact HB.out)⟩
mutual
def r3_Nodes.l0 : Nat → List (S47) → Int → Int → Option (Int)
 | 0, _, _, _ => none
 | k + 1, x0, x3, x4 => if x4 < (x0.length : Int) then (if 0 ≤ x4 then ((r3_Nodes.f k ((rd_T47 x0 x4).f3)).bind fun t590 => ((r3_Nodes.f k ((rd_T47 x0 x4).f4)).bind fun t592 => (r3_Nodes.l1 k x0 (wrap64 ((wrap64 ((wrap64 (x3 + 1)) + t590)) + t592)) x4 0))) else (none)) else (some x3)
def r3_Nodes.l1 : Nat → List (S47) → Int → Int → Int → Option (Int)
 | 0, _, _, _, _ => none
 | k + 1, x0, x3, x4, x5 => if 0 ≤ x4 then (if x4 < (x0.length : Int) then (if x5 < (((rd_T47 x0 x4).f2).length : Int) then (if 0 ≤ x5 then ((r2_Nodes.f k ((rd_T96 ((rd_T47 x0 x4).f2) x5).f0) ((rd_T96 ((rd_T47 x0 x4).f2) x5).f1) ((rd_T96 ((rd_T47 x0 x4).f2) x5).f2) ((rd_T96 ((rd_T47 x0 x4).f2) x5).f3)).bind fun t596 => (r3_Nodes.l1 k x0 (wrap64 (x3 + t596)) x4 (wrap64 (x5 + 1)))) else (none)) else (r3_Nodes.l0 k x0 x3 (wrap64 (x4 + 1)))) else (none)) else (none)
def r3_Nodes.f : Nat → List (S47) → Option (Int)
 | 0, _ => none
 | k + 1, l0 => r3_Nodes.l0 k l0 0 0
end
def r3_Nodes.T5 : Bool × List (List Nat × List Nat) := (true, [([], []), ([0], [0]), ([], []), ([], []), ([2, 3], [2, 3]), ([4], [4]), ([5], [5]), ([6], [6]), ([1, 7], [1, 7]), ([], []), ([], []), ([9, 10], [9, 10]), ([11], [11]), ([12], [12]), ([13, 7], [13]), ([8, 14], [8, 14]), ([15, 14, 0, 1, 2, 3, 4, 5, 6, 7, 8, 9, 10, 11, 12, 13, 14, 15], [0, 15])])
def r3_Nodes.B5 : List Nat := [0, 1, 0, 0, 12, 28, 60, 124, 255, 0, 0, 1536, 3584, 7680, 16124, 32767, 65535]
theorem r3_Nodes.tab5 : rtab .any (opsOf Try.f42 5) = r3_Nodes.T5 := by kernel_rfl
theorem r3_Nodes.bits5 : waitsOk r3_Nodes.T5.2 r3_Nodes.B5 = true := by kernel_rfl
set_option maxHeartbeats 8000000 in
set_option maxRecDepth 100000 in
theorem r3_Nodes.calls (k : Nat) : ∀ (A0 : Option Addr) (c0 : Nat) (l0 : List (S47)) (r : Int) (w : World) (hr0 : Kd.C k47 w A0 l0.length l0) (hc0 : l0.length ≤ c0) (h : r3_Nodes.f k l0 = some r),
  Calls Try.prog 42 #[.slice A0 l0.length c0] w fun e w' => e = .returned (.int .i64 r) ∧ Below w.heap.size w w' := by
 induction k using Nat.strongRecOn with
 | _ k ih =>
 intro A0 c0 l0 r w hr0 hc0 h
 cases k with
 | zero => exact absurd h (by simp [r3_Nodes.f])
 | succ k =>
 simp only [r3_Nodes.f] at h
 have hu96 := Try.underlying96
 have HR0 := Aside0.mk hr0
 have HC0 := Aside0.mk hc0
 clear hr0 hc0
 have HB := Aside0.mk (Below.refl w.heap.size w)
 have H : (r3_Nodes.l0 k l0 0 0) = some r := h
 clear h
 have H' := Aside0.mk H
 clear H
 go_enter Try.func42, Try.ntmps42
 go_wp2
 go_loopg [3, 4] k (fun kq v3 v4 w' => ∃ (x3_1 : Int) (x4_1 : Int), v3 = .int .i64 x3_1 ∧ v4 = .int .i64 x4_1 ∧ Aside0 (r3_Nodes.l0 kq l0 x3_1 x4_1 = some r) ∧ Aside0 (kq ≤ k) ∧ Aside0 (Below w.heap.size w w'))
 case atStart => exact ⟨(0), (0), (by first | rfl | (simp; done) | (simp [*]; done)), (by first | rfl | (simp; done) | (simp [*]; done)), H', ⟨Nat.le_refl _⟩, ⟨by repeat (first | (with_reducible first | exact HB.out | apply bal | apply bdN | apply bd1) | exact HB.out)⟩⟩
 case round =>
  clear H'
  obtain ⟨x3_1, x4_1, rfl, rfl, HA, HK1, HB⟩ := hrel
  cases gk with
  | zero => exact absurd HA.out (by simp [r3_Nodes.l0])
  | succ k1 =>
   have H := HA.out
   clear HA
   simp only [r3_Nodes.l0] at H
   by_cases c2 : x4_1 < (l0.length : Int)
   ·rw [if_pos c2] at H
    have c2b0 : decide (x4_1 < (l0.length : Int)) = true := decide_eq_true c2
    clear c2
    by_cases c3 : 0 ≤ x4_1
    ·rw [if_pos c3] at H
     have c3b0 : decide (0 ≤ x4_1) = true := decide_eq_true c3
     clear c3
     replace H := Option.bind_eq_some_iff.mp H
     obtain ⟨t590, A40, H⟩ := H
     replace H : ((r3_Nodes.f k1 ((rd_T47 l0 x4_1).f4)).bind fun t592 => (r3_Nodes.l1 k1 l0 (wrap64 ((wrap64 ((wrap64 (x3_1 + 1)) + t590)) + t592)) x4_1 0)) = some r := H
     have A4 := Aside0.mk A40
     clear A40
     replace H := Option.bind_eq_some_iff.mp H
     obtain ⟨t592, A50, H⟩ := H
     replace H : (r3_Nodes.l1 k1 l0 (wrap64 ((wrap64 ((wrap64 (x3_1 + 1)) + t590)) + t592)) x4_1 0) = some r := H
     have A5 := Aside0.mk A50
     clear A50
     have H' := Aside0.mk H
     clear H
     try go_wp2
     have n0_ := Aside0.mk (bd1 HB.out)
     clear HB
     have HB := n0_
     clear n0_
     have p589 : 0 ≤ (x4_1 : Int) := of_decide_eq_true (by first | (with_reducible assumption) | assumption)
     have q589 : x4_1 < (l0.length : Int) := of_decide_eq_true (by first | (with_reducible assumption) | assumption)
     obtain ⟨ad589, A589_2, c589_2, A589_3, c589_3, A589_4, c589_4, e589, hx589_0, hx589_1, hx589_2, hx589_3, hx589_4, hl589_2, hi589_2, hl589_3, hi589_3, hl589_4, hi589_4⟩ := at_T47 HR0.out x4_1 p589 q589
     have hw589_4 := hx589_4
     have hw589_3 := hx589_3
     have hw589_2 := hx589_2
     have hw589_1 := hx589_1
     have hw589_0 := hx589_0
     cases e589
     replace hx589_0 := bcell HB.out hx589_0
     replace hx589_1 := bcell HB.out hx589_1
     replace hx589_2 := bcell HB.out hx589_2
     replace hx589_3 := bcell HB.out hx589_3
     replace hx589_4 := bcell HB.out hx589_4
     have HR589_2 := Aside0.mk hi589_2
     have HC589_2 := Aside0.mk hl589_2
     clear hi589_2 hl589_2
     have HR589_3 := Aside0.mk hi589_3
     have HC589_3 := Aside0.mk hl589_3
     clear hi589_3 hl589_3
     have HR589_4 := Aside0.mk hi589_4
     have HC589_4 := Aside0.mk hl589_4
     clear hi589_4 hl589_4
     replace p589 := eq_true p589
     replace q589 := eq_true q589
     have p591 : 0 ≤ (x4_1 : Int) := of_decide_eq_true (by first | (with_reducible assumption) | assumption)
     have q591 : x4_1 < (l0.length : Int) := of_decide_eq_true (by first | (with_reducible assumption) | assumption)
     obtain ⟨ad591, A591_2, c591_2, A591_3, c591_3, A591_4, c591_4, e591, hx591_0, hx591_1, hx591_2, hx591_3, hx591_4, hl591_2, hi591_2, hl591_3, hi591_3, hl591_4, hi591_4⟩ := at_T47 HR0.out x4_1 p591 q591
     have hw591_4 := hx591_4
     have hw591_3 := hx591_3
     have hw591_2 := hx591_2
     have hw591_1 := hx591_1
     have hw591_0 := hx591_0
     obtain rfl : ad589 = ad591 := (by injection e591)
     replace hx591_0 := bcell HB.out hx591_0
     replace hx591_1 := bcell HB.out hx591_1
     replace hx591_2 := bcell HB.out hx591_2
     replace hx591_3 := bcell HB.out hx591_3
     replace hx591_4 := bcell HB.out hx591_4
     have HR591_2 := Aside0.mk hi591_2
     have HC591_2 := Aside0.mk hl591_2
     clear hi591_2 hl591_2
     have HR591_3 := Aside0.mk hi591_3
     have HC591_3 := Aside0.mk hl591_3
     clear hi591_3 hl591_3
     have HR591_4 := Aside0.mk hi591_4
     have HC591_4 := Aside0.mk hl591_4
     clear hi591_4 hl591_4
     replace p591 := eq_true p591
     replace q591 := eq_true q591
     have ea_ := Option.some.inj (hx589_2.symm.trans hx591_2)
     injection ea_ with ea_ en_ ec_
     subst ea_
     subst ec_
     clear en_
     have ea_ := Option.some.inj (hx589_3.symm.trans hx591_3)
     injection ea_ with ea_ en_ ec_
     subst ea_
     subst ec_
     clear en_
     have ea_ := Option.some.inj (hx589_4.symm.trans hx591_4)
     injection ea_ with ea_ en_ ec_
     subst ea_
     subst ec_
     clear en_
     refine start_ (n := 17) (S := fun w' => w'.cell? (ad589.add ((x4_1).toNat * 5)) = some (.int .i64 ((rd_T47 l0 x4_1).f0)) ∧ w'.cell? ⟨(ad589.add ((x4_1).toNat * 5)).block, (ad589.add ((x4_1).toNat * 5)).off + 1, none⟩ = some (.int .i64 ((rd_T47 l0 x4_1).f1)) ∧ w'.cell? ⟨(ad589.add ((x4_1).toNat * 5)).block, (ad589.add ((x4_1).toNat * 5)).off + 2, none⟩ = some (.slice A589_2 ((rd_T47 l0 x4_1).f2).length c589_2) ∧ w'.cell? ⟨(ad589.add ((x4_1).toNat * 5)).block, (ad589.add ((x4_1).toNat * 5)).off + 3, none⟩ = some (.slice A589_3 ((rd_T47 l0 x4_1).f3).length c589_3) ∧ w'.cell? ⟨(ad589.add ((x4_1).toNat * 5)).block, (ad589.add ((x4_1).toNat * 5)).off + 4, none⟩ = some (.slice A589_4 ((rd_T47 l0 x4_1).f4).length c589_4) ∧ w'.cell? (ad589.add ((x4_1).toNat * 5)) = some (.int .i64 ((rd_T47 l0 x4_1).f0)) ∧ w'.cell? ⟨(ad589.add ((x4_1).toNat * 5)).block, (ad589.add ((x4_1).toNat * 5)).off + 1, none⟩ = some (.int .i64 ((rd_T47 l0 x4_1).f1)) ∧ w'.cell? ⟨(ad589.add ((x4_1).toNat * 5)).block, (ad589.add ((x4_1).toNat * 5)).off + 2, none⟩ = some (.slice A589_2 ((rd_T47 l0 x4_1).f2).length c589_2) ∧ w'.cell? ⟨(ad589.add ((x4_1).toNat * 5)).block, (ad589.add ((x4_1).toNat * 5)).off + 3, none⟩ = some (.slice A589_3 ((rd_T47 l0 x4_1).f3).length c589_3) ∧ w'.cell? ⟨(ad589.add ((x4_1).toNat * 5)).block, (ad589.add ((x4_1).toNat * 5)).off + 4, none⟩ = some (.slice A589_4 ((rd_T47 l0 x4_1).f4).length c589_4)) (ds := []) #[false, false, false, false, false, false, false, false, false, false, false, false, false, false, false, false, false] (by kernel_rfl) rfl rfl ⟨(bcell HB.out hw589_0), (bcell HB.out hw589_1), (bcell HB.out hw589_2), (bcell HB.out hw589_3), (bcell HB.out hw589_4), (bcell HB.out hw591_0), (bcell HB.out hw591_1), (bcell HB.out hw591_2), (bcell HB.out hw591_3), (bcell HB.out hw591_4)⟩ (fun hHeld => ?_); refine with_tabW r3_Nodes.tab5 r3_Nodes.bits5 (fun HT_ HW_ => ?_)
     generalize wr.drew = w6 at HB HR589_2 HR589_3 HR589_4 HR591_2 HR591_3 HR591_4 hx589_0 hx589_1 hx589_2 hx589_3 hx589_4 hx591_0 hx591_1 hx591_2 hx591_3 hx591_4 hHeld ⊢
     refine pure_ (i := 0) (N := some 12) (v := ?_) (a' := ?_) #[true, false, false, false, false, false, false, false, false, false, false, false, false, false, false, false, false] rfl rfl (any_of HT_.out (by kernel_rfl)) (fun _ _ _ h => h) (Or.inl ⟨by rfl, ?_⟩) ?_ ?_
     rotate_left
     ·intro w'
      go_simp
      with_reducible rfl
     rotate_left
     ·simp only [Act.put, List.setIfInBounds_toArray, List.set_cons_zero, List.set_cons_succ, i64_w, i32_w]
      rfl
     refine pure_ (i := 1) (N := some 13) (v := ?_) (a' := ?_) #[true, true, false, false, false, false, false, false, false, false, false, false, false, false, false, false, false] rfl rfl (any_of HT_.out (by kernel_rfl)) (fun _ _ _ h => h) (Or.inl ⟨by rfl, ?_⟩) ?_ ?_
     rotate_left
     ·intro w'
      go_simp
      with_reducible rfl
     rotate_left
     ·simp only [Act.put, List.setIfInBounds_toArray, List.set_cons_zero, List.set_cons_succ, i64_w, i32_w]
      rfl
     refine pure_ (i := 2) (N := some 14) (v := ?_) (a' := ?_) #[true, true, true, false, false, false, false, false, false, false, false, false, false, false, false, false, false] rfl rfl (any_of HT_.out (by kernel_rfl)) (fun _ _ _ h => h) (Or.inl ⟨by rfl, ?_⟩) ?_ ?_
     rotate_left
     ·intro w'
      go_simp
      with_reducible rfl
     rotate_left
     ·simp only [Act.put, List.setIfInBounds_toArray, List.set_cons_zero, List.set_cons_succ, i64_w, i32_w]
      rfl
     refine pure_ (i := 3) (N := some 15) (v := ?_) (a' := ?_) #[true, true, true, true, false, false, false, false, false, false, false, false, false, false, false, false, false] rfl rfl (any_of HT_.out (by kernel_rfl)) (fun _ _ _ h => h) (Or.inl ⟨by rfl, ?_⟩) ?_ ?_
     rotate_left
     ·intro w'
      go_simp
      with_reducible rfl
     rotate_left
     ·simp only [Act.put, List.setIfInBounds_toArray, List.set_cons_zero, List.set_cons_succ, i64_w, i32_w]
      rfl
     refine pure_ (i := 4) (N := some 16) (v := ?_) (a' := ?_) #[true, true, true, true, true, false, false, false, false, false, false, false, false, false, false, false, false] rfl rfl (any_of HT_.out (by kernel_rfl)) (fun _ _ _ h => h) (Or.inl ⟨by rfl, ?_⟩) ?_ ?_
     rotate_left
     ·intro w'
      go_simp
      with_reducible rfl
     rotate_left
     ·simp only [Act.put, List.setIfInBounds_toArray, List.set_cons_zero, List.set_cons_succ, i64_w, i32_w]
      rfl
     refine pure_ (i := 5) (N := some 17) (v := ?_) (a' := ?_) #[true, true, true, true, true, true, false, false, false, false, false, false, false, false, false, false, false] rfl rfl (any_of HT_.out (by kernel_rfl)) (fun _ _ _ h => h) (Or.inl ⟨by rfl, ?_⟩) ?_ ?_
     rotate_left
     ·intro w'
      go_simp
      with_reducible rfl
     rotate_left
     ·simp only [Act.put, List.setIfInBounds_toArray, List.set_cons_zero, List.set_cons_succ, i64_w, i32_w]
      rfl
     refine pure_ (i := 9) (N := some 21) (v := ?_) (a' := ?_) #[true, true, true, true, true, true, false, false, false, true, false, false, false, false, false, false, false] rfl rfl (any_of HT_.out (by kernel_rfl)) (fun _ _ _ h => h) (Or.inl ⟨by rfl, ?_⟩) ?_ ?_
     rotate_left
     ·intro w'
      go_simp
      with_reducible rfl
     rotate_left
     ·simp only [Act.put, List.setIfInBounds_toArray, List.set_cons_zero, List.set_cons_succ, i64_w, i32_w]
      rfl
     refine pure_ (i := 10) (N := some 22) (v := ?_) (a' := ?_) #[true, true, true, true, true, true, false, false, false, true, true, false, false, false, false, false, false] rfl rfl (any_of HT_.out (by kernel_rfl)) (fun _ _ _ h => h) (Or.inl ⟨by rfl, ?_⟩) ?_ ?_
     rotate_left
     ·intro w'
      go_simp
      with_reducible rfl
     rotate_left
     ·simp only [Act.put, List.setIfInBounds_toArray, List.set_cons_zero, List.set_cons_succ, i64_w, i32_w]
      rfl
     refine pure_ (i := 11) (N := some 23) (v := ?_) (a' := ?_) #[true, true, true, true, true, true, false, false, false, true, true, true, false, false, false, false, false] rfl rfl (any_of HT_.out (by kernel_rfl)) (fun _ _ _ h => h) (Or.inl ⟨by rfl, ?_⟩) ?_ ?_
     rotate_left
     ·intro w'
      go_simp
      with_reducible rfl
     rotate_left
     ·simp only [Act.put, List.setIfInBounds_toArray, List.set_cons_zero, List.set_cons_succ, i64_w, i32_w]
      rfl
     refine pure_ (i := 12) (N := some 24) (v := ?_) (a' := ?_) #[true, true, true, true, true, true, false, false, false, true, true, true, true, false, false, false, false] rfl rfl (any_of HT_.out (by kernel_rfl)) (fun _ _ _ h => h) (Or.inl ⟨by rfl, ?_⟩) ?_ ?_
     rotate_left
     ·intro w'
      go_simp
      with_reducible rfl
     rotate_left
     ·simp only [Act.put, List.setIfInBounds_toArray, List.set_cons_zero, List.set_cons_succ, i64_w, i32_w]
      rfl
     refine take_ (i := 6) (N := some 18) (v := ?_) (a' := ?_) #[true, true, true, true, true, true, true, false, false, true, true, true, true, false, false, false, false] rfl rfl (take_ofW HT_.out HW_.out (by kernel_rfl)) (fun _ _ _ h => h) (Or.inl ⟨by rfl, ?_⟩) hHeld ?_ ?_
     rotate_left
     ·rintro w' ⟨s0, s1, s2, s3, s4, s5, s6, s7, s8, s9⟩
      go_simp
      with_reducible rfl
     rotate_left
     ·simp only [Act.put, List.setIfInBounds_toArray, List.set_cons_zero, List.set_cons_succ, i64_w, i32_w]
      rfl
     refine take_ (i := 13) (N := some 25) (v := ?_) (a' := ?_) #[true, true, true, true, true, true, true, false, false, true, true, true, true, true, false, false, false] rfl rfl (take_ofW HT_.out HW_.out (by kernel_rfl)) (fun _ _ _ h => h) (Or.inl ⟨by rfl, ?_⟩) hHeld ?_ ?_
     rotate_left
     ·rintro w' ⟨s0, s1, s2, s3, s4, s5, s6, s7, s8, s9⟩
      go_simp
      with_reducible rfl
     rotate_left
     ·simp only [Act.put, List.setIfInBounds_toArray, List.set_cons_zero, List.set_cons_succ, i64_w, i32_w]
      rfl
     refine one_ (i := 7) (N := some 19) #[true, true, true, true, true, true, true, true, false, true, true, true, true, true, false, false, false] rfl rfl (one_of HT_.out (by kernel_rfl)) (by decide) (fun K hK => ?_)
     refine goes_ Try.func42 (by kernel_rfl) rfl #[.slice A589_3 ((rd_T47 l0 x4_1).f3).length c589_3] (by rfl) rfl rfl (by (try simp only [List.map_toArray, List.map_cons, List.map_nil]); first | done | rfl | (simp only [List.length_drop, List.length_take]; rfl)) ?_
     with_reducible refine (ih k1 (by have := HK1.out; omega) _ _ ((rd_T47 l0 x4_1).f3) t590 _ ?side1 ?side2 A4.out).mono ?_
     (case side1 => repeat (first | exact (Kd.C_below HR589_3.out HB.out) | with_reducible first | apply Kd.C_alloc | apply Kd.C_drewN | apply Kd.C_drew))
     (case side2 => exact HC589_3.out)
     rintro e w7 ⟨rfl, hb⟩
     refine ⟨_, rfl, ?_⟩
     have n0_ := Aside0.mk (bsp (by repeat (first | (with_reducible first | exact HB.out | apply bal | apply bdN | apply bd1) | exact HB.out)) hb)
     clear HB
     have HB := n0_
     clear n0_
     (try clear hb)
     (try clear hb2)
     (try clear hk)
     (try clear hi)
     refine hK.out _ _ ⟨(bcell HB.out hw589_0), (bcell HB.out hw589_1), (bcell HB.out hw589_2), (bcell HB.out hw589_3), (bcell HB.out hw589_4), (bcell HB.out hw591_0), (bcell HB.out hw591_1), (bcell HB.out hw591_2), (bcell HB.out hw591_3), (bcell HB.out hw591_4)⟩ (fun hHeld => ?_)
     clear hK K
     refine norm_ (a' := ?_) ?_ ?_
     rotate_left
     ·show Act.put _ (some 19) _ = _
      simp only [Act.put, List.setIfInBounds_toArray, List.set_cons_zero, List.set_cons_succ, i64_w, i32_w]
      rfl
     refine pure_ (i := 8) (N := some 20) (v := ?_) (a' := ?_) #[true, true, true, true, true, true, true, true, true, true, true, true, true, true, false, false, false] rfl rfl (any_of HT_.out (by kernel_rfl)) (fun _ _ _ h => h) (Or.inl ⟨by rfl, ?_⟩) ?_ ?_
     rotate_left
     ·intro w'
      go_simp
      with_reducible rfl
     rotate_left
     ·simp only [Act.put, List.setIfInBounds_toArray, List.set_cons_zero, List.set_cons_succ, i64_w, i32_w]
      rfl
     refine one_ (i := 14) (N := some 26) #[true, true, true, true, true, true, true, true, true, true, true, true, true, true, true, false, false] rfl rfl (one_of HT_.out (by kernel_rfl)) (by decide) (fun K hK => ?_)
     refine goes_ Try.func42 (by kernel_rfl) rfl #[.slice A589_4 ((rd_T47 l0 x4_1).f4).length c589_4] (by rfl) rfl rfl (by (try simp only [List.map_toArray, List.map_cons, List.map_nil]); first | done | rfl | (simp only [List.length_drop, List.length_take]; rfl)) ?_
     with_reducible refine (ih k1 (by have := HK1.out; omega) _ _ ((rd_T47 l0 x4_1).f4) t592 _ ?side1 ?side2 A5.out).mono ?_
     (case side1 => repeat (first | exact (Kd.C_below HR591_4.out HB.out) | with_reducible first | apply Kd.C_alloc | apply Kd.C_drewN | apply Kd.C_drew))
     (case side2 => exact HC591_4.out)
     rintro e w8 ⟨rfl, hb⟩
     refine ⟨_, rfl, ?_⟩
     have n0_ := Aside0.mk (bsp (by repeat (first | (with_reducible first | exact HB.out | apply bal | apply bdN | apply bd1) | exact HB.out)) hb)
     clear HB
     have HB := n0_
     clear n0_
     (try clear hb)
     (try clear hb2)
     (try clear hk)
     (try clear hi)
     refine hK.out _ _ ⟨(bcell HB.out hw589_0), (bcell HB.out hw589_1), (bcell HB.out hw589_2), (bcell HB.out hw589_3), (bcell HB.out hw589_4), (bcell HB.out hw591_0), (bcell HB.out hw591_1), (bcell HB.out hw591_2), (bcell HB.out hw591_3), (bcell HB.out hw591_4)⟩ (fun hHeld => ?_)
     clear hK K
     refine norm_ (a' := ?_) ?_ ?_
     rotate_left
     ·show Act.put _ (some 26) _ = _
      simp only [Act.put, List.setIfInBounds_toArray, List.set_cons_zero, List.set_cons_succ, i64_w, i32_w]
      rfl
     refine pure_ (i := 15) (N := some 27) (v := ?_) (a' := ?_) #[true, true, true, true, true, true, true, true, true, true, true, true, true, true, true, true, false] rfl rfl (any_of HT_.out (by kernel_rfl)) (fun _ _ _ h => h) (Or.inl ⟨by rfl, ?_⟩) ?_ ?_
     rotate_left
     ·intro w'
      go_simp
      with_reducible rfl
     rotate_left
     ·simp only [Act.put, List.setIfInBounds_toArray, List.set_cons_zero, List.set_cons_succ, i64_w, i32_w]
      rfl
     refine pure_ (i := 16) (N := some 3) (v := ?_) (a' := ?_) #[true, true, true, true, true, true, true, true, true, true, true, true, true, true, true, true, true] rfl rfl (any_of HT_.out (by kernel_rfl)) (fun _ _ _ h => h) (Or.inl ⟨by rfl, ?_⟩) ?_ ?_
     rotate_left
     ·intro w'
      go_simp
      with_reducible rfl
     rotate_left
     ·simp only [Act.put, List.setIfInBounds_toArray, List.set_cons_zero, List.set_cons_succ, i64_w, i32_w]
      rfl
     refine done_ (done_of HT_.out (by kernel_rfl)) ?_
     try go_wp2
     go_loopg [3, 5] k1 (fun kq v3 v5 w' => ∃ (x3_2 : Int) (x5_2 : Int), v3 = .int .i64 x3_2 ∧ v5 = .int .i64 x5_2 ∧ Aside0 (r3_Nodes.l1 kq l0 x3_2 x4_1 x5_2 = some r) ∧ Aside0 (kq ≤ k1) ∧ Aside0 (Below w.heap.size w w'))
     case atStart => exact ⟨(wrap64 ((wrap64 ((wrap64 (x3_1 + 1)) + t590)) + t592)), (0), (by first | rfl | (simp; done) | (simp [*]; done)), (by first | rfl | (simp; done) | (simp [*]; done)), H', ⟨Nat.le_refl _⟩, ⟨by repeat (first | (with_reducible first | exact HB.out | apply bal | apply bdN | apply bd1) | exact HB.out)⟩⟩
     case round =>
      clear H'
      try clear c2
      try clear c2b0
      try clear p2
      try clear c3
      try clear c3b0
      try clear c4
      try clear c5
      try clear p5
      try clear q5
      try clear hx5
      try clear p6
      try clear hx589_0
      try clear hx589_1
      try clear hx589_2
      try clear hx589_3
      try clear hx589_4
      try clear hx591_0
      try clear hx591_1
      try clear hx591_2
      try clear hx591_3
      try clear hx591_4
      try clear p589
      try clear p591
      try clear q589
      try clear q591
      obtain ⟨x3_2, x5_2, rfl, rfl, HA, HK2, HB⟩ := hrel
      cases gk with
      | zero => exact absurd HA.out (by simp [r3_Nodes.l1])
      | succ k2 =>
       have H := HA.out
       clear HA
       simp only [r3_Nodes.l1] at H
       by_cases c9 : 0 ≤ x4_1
       ·rw [if_pos c9] at H
        have c9b0 : decide (0 ≤ x4_1) = true := decide_eq_true c9
        clear c9
        by_cases c10 : x4_1 < (l0.length : Int)
        ·rw [if_pos c10] at H
         have c10b0 : decide (x4_1 < (l0.length : Int)) = true := decide_eq_true c10
         clear c10
         by_cases c11 : x5_2 < (((rd_T47 l0 x4_1).f2).length : Int)
         ·rw [if_pos c11] at H
          have c11b0 : decide (x5_2 < (((rd_T47 l0 x4_1).f2).length : Int)) = true := decide_eq_true c11
          clear c11
          by_cases c12 : 0 ≤ x5_2
          ·rw [if_pos c12] at H
           have c12b0 : decide (0 ≤ x5_2) = true := decide_eq_true c12
           clear c12
           replace H := Option.bind_eq_some_iff.mp H
           obtain ⟨t596, A130, H⟩ := H
           replace H : (r3_Nodes.l1 k2 l0 (wrap64 (x3_2 + t596)) x4_1 (wrap64 (x5_2 + 1))) = some r := H
           have A13 := Aside0.mk A130
           clear A130
           have H' := Aside0.mk H
           clear H
           have p593 : 0 ≤ (x4_1 : Int) := of_decide_eq_true (by first | (with_reducible assumption) | assumption)
           have q593 : x4_1 < (l0.length : Int) := of_decide_eq_true (by first | (with_reducible assumption) | assumption)
           obtain ⟨ad593, A593_2, c593_2, A593_3, c593_3, A593_4, c593_4, e593, hx593_0, hx593_1, hx593_2, hx593_3, hx593_4, hl593_2, hi593_2, hl593_3, hi593_3, hl593_4, hi593_4⟩ := at_T47 HR0.out x4_1 p593 q593
           obtain rfl : ad589 = ad593 := (by injection e593)
           replace hx593_0 := bcell HB.out hx593_0
           replace hx593_1 := bcell HB.out hx593_1
           replace hx593_2 := bcell HB.out hx593_2
           replace hx593_3 := bcell HB.out hx593_3
           replace hx593_4 := bcell HB.out hx593_4
           have HR593_2 := Aside0.mk hi593_2
           have HC593_2 := Aside0.mk hl593_2
           clear hi593_2 hl593_2
           have HR593_3 := Aside0.mk hi593_3
           have HC593_3 := Aside0.mk hl593_3
           clear hi593_3 hl593_3
           have HR593_4 := Aside0.mk hi593_4
           have HC593_4 := Aside0.mk hl593_4
           clear hi593_4 hl593_4
           replace p593 := eq_true p593
           replace q593 := eq_true q593
           have p594 : 0 ≤ (x4_1 : Int) := of_decide_eq_true (by first | (with_reducible assumption) | assumption)
           have q594 : x4_1 < (l0.length : Int) := of_decide_eq_true (by first | (with_reducible assumption) | assumption)
           obtain ⟨ad594, A594_2, c594_2, A594_3, c594_3, A594_4, c594_4, e594, hx594_0, hx594_1, hx594_2, hx594_3, hx594_4, hl594_2, hi594_2, hl594_3, hi594_3, hl594_4, hi594_4⟩ := at_T47 HR0.out x4_1 p594 q594
           obtain rfl : ad589 = ad594 := (by injection e594)
           replace hx594_0 := bcell HB.out hx594_0
           replace hx594_1 := bcell HB.out hx594_1
           replace hx594_2 := bcell HB.out hx594_2
           replace hx594_3 := bcell HB.out hx594_3
           replace hx594_4 := bcell HB.out hx594_4
           have HR594_2 := Aside0.mk hi594_2
           have HC594_2 := Aside0.mk hl594_2
           clear hi594_2 hl594_2
           have HR594_3 := Aside0.mk hi594_3
           have HC594_3 := Aside0.mk hl594_3
           clear hi594_3 hl594_3
           have HR594_4 := Aside0.mk hi594_4
           have HC594_4 := Aside0.mk hl594_4
           clear hi594_4 hl594_4
           replace p594 := eq_true p594
           replace q594 := eq_true q594
           have ea_ := Option.some.inj (hx593_2.symm.trans hx594_2)
           injection ea_ with ea_ en_ ec_
           subst ea_
           subst ec_
           clear en_
           have ea_ := Option.some.inj (hx593_3.symm.trans hx594_3)
           injection ea_ with ea_ en_ ec_
           subst ea_
           subst ec_
           clear en_
           have ea_ := Option.some.inj (hx593_4.symm.trans hx594_4)
           injection ea_ with ea_ en_ ec_
           subst ea_
           subst ec_
           clear en_
           have p595 : 0 ≤ (x5_2 : Int) := of_decide_eq_true (by first | (with_reducible assumption) | assumption)
           have q595 : x5_2 < (((rd_T47 l0 x4_1).f2).length : Int) := of_decide_eq_true (by first | (with_reducible assumption) | assumption)
           obtain ⟨ad595, A595_3, c595_3, e595, hx595_0, hx595_1, hx595_2, hx595_3, hl595_3, hi595_3⟩ := at_T96 HR594_2.out x5_2 p595 q595
           cases e595
           replace hx595_0 := bcell HB.out hx595_0
           replace hx595_1 := bcell HB.out hx595_1
           replace hx595_2 := bcell HB.out hx595_2
           replace hx595_3 := bcell HB.out hx595_3
           have HR595_3 := Aside0.mk hi595_3
           have HC595_3 := Aside0.mk hl595_3
           clear hi595_3 hl595_3
           replace p595 := eq_true p595
           replace q595 := eq_true q595
           go_wp2_with (first | ((with_reducible refine gate_callee (f := 66) rfl ?_); refine goesL_ (some 47) rfl rfl Try.func66 (by kernel_rfl) rfl #[.agg #[.int .i64 ((rd_T96 ((rd_T47 l0 x4_1).f2) x5_2).f0), .int .i64 ((rd_T96 ((rd_T47 l0 x4_1).f2) x5_2).f1), .int .i64 ((rd_T96 ((rd_T47 l0 x4_1).f2) x5_2).f2), .slice A595_3 ((rd_T96 ((rd_T47 l0 x4_1).f2) x5_2).f3).length c595_3]] rfl (by (try simp only [List.map_toArray, List.map_cons, List.map_nil]); first | done | rfl | (simp only [List.length_drop, List.length_take]; rfl)) ?_; (with_reducible refine (r2_Nodes.calls k2 ((rd_T96 ((rd_T47 l0 x4_1).f2) x5_2).f0) ((rd_T96 ((rd_T47 l0 x4_1).f2) x5_2).f1) ((rd_T96 ((rd_T47 l0 x4_1).f2) x5_2).f2) _ _ ((rd_T96 ((rd_T47 l0 x4_1).f2) x5_2).f3) t596 _ ?side1 ?side2 A13.out).mono ?_); (case side1 => repeat (first | exact (Kd.C_below HR595_3.out HB.out) | with_reducible first | apply Kd.C_alloc | apply Kd.C_drewN | apply Kd.C_drew)); (case side2 => exact HC595_3.out); rintro e w14 ⟨rfl, hb⟩; refine ⟨_, rfl, ?_⟩; have n0_ := Aside0.mk (bsp (by repeat (first | (with_reducible first | exact HB.out | apply bal | apply bdN | apply bd1) | exact HB.out)) hb); clear HB; have HB := n0_; clear n0_; (try clear hb); (try clear hb2); (try clear hk); (try clear hi)))
           go_roundg k2
           case measure => have := HK1.out; have := HK2.out; omega
           case rel => exact ⟨(wrap64 (x3_2 + t596)), (wrap64 (x5_2 + 1)), (by first | rfl | (simp; done) | (simp [*]; done)), (by first | rfl | (simp; done) | (simp [*]; done)), H', ⟨by have := HK1.out; have := HK2.out; omega⟩, ⟨by repeat (first | (with_reducible first | exact HB.out | apply bal | apply bdN | apply bd1) | exact HB.out)⟩⟩
          ·rw [if_neg c12] at H
           exact absurd H (by simp)
         ·rw [if_neg c11] at H
          have c11b0 : decide (x5_2 < (((rd_T47 l0 x4_1).f2).length : Int)) = false := decide_eq_false c11
          clear c11
          have H' := Aside0.mk H
          clear H
          have p593 : 0 ≤ (x4_1 : Int) := of_decide_eq_true (by first | (with_reducible assumption) | assumption)
          have q593 : x4_1 < (l0.length : Int) := of_decide_eq_true (by first | (with_reducible assumption) | assumption)
          obtain ⟨ad593, A593_2, c593_2, A593_3, c593_3, A593_4, c593_4, e593, hx593_0, hx593_1, hx593_2, hx593_3, hx593_4, hl593_2, hi593_2, hl593_3, hi593_3, hl593_4, hi593_4⟩ := at_T47 HR0.out x4_1 p593 q593
          obtain rfl : ad589 = ad593 := (by injection e593)
          replace hx593_0 := bcell HB.out hx593_0
          replace hx593_1 := bcell HB.out hx593_1
          replace hx593_2 := bcell HB.out hx593_2
          replace hx593_3 := bcell HB.out hx593_3
          replace hx593_4 := bcell HB.out hx593_4
          have HR593_2 := Aside0.mk hi593_2
          have HC593_2 := Aside0.mk hl593_2
          clear hi593_2 hl593_2
          have HR593_3 := Aside0.mk hi593_3
          have HC593_3 := Aside0.mk hl593_3
          clear hi593_3 hl593_3
          have HR593_4 := Aside0.mk hi593_4
          have HC593_4 := Aside0.mk hl593_4
          clear hi593_4 hl593_4
          replace p593 := eq_true p593
          replace q593 := eq_true q593
          go_wp2
          go_roundg k2
          case measure => have := HK1.out; have := HK2.out; omega
          case rel => exact ⟨(x3_2), (wrap64 (x4_1 + 1)), (by first | rfl | (simp; done) | (simp [*]; done)), (by first | rfl | (simp; done) | (simp [*]; done)), H', ⟨by have := HK1.out; have := HK2.out; omega⟩, ⟨by repeat (first | (with_reducible first | exact HB.out | apply bal | apply bdN | apply bd1) | exact HB.out)⟩⟩
        ·rw [if_neg c10] at H
         exact absurd H (by simp)
       ·rw [if_neg c9] at H
        exact absurd H (by simp)
    ·rw [if_neg c3] at H
     exact absurd H (by simp)
   ·rw [if_neg c2] at H
    have c2b0 : decide (x4_1 < (l0.length : Int)) = false := decide_eq_false c2
    clear c2
    obtain rfl := Option.some.inj H
    go_wp2
    go_ret
    exact ⟨by first | rfl | (simp [*] <;> rfl), by repeat (first | (with_reducible first | exact HB.out | apply bal | apply bdN | apply bd1) | exact HB.out)⟩
mutual
def r3_low.l0 : Nat → List (S47) → Int → Option (Bool)
 | 0, _, _ => none
 | k + 1, x0, x3 => if x3 < (x0.length : Int) then (if 0 ≤ x3 then (if ((rd_T47 x0 x3).f0) = 3 then (if ((rd_T47 x0 x3).f1) > 15 then (some false) else ((r3_low.f k ((rd_T47 x0 x3).f3)).bind fun t576 => (if t576 = true then ((r3_low.f k ((rd_T47 x0 x3).f4)).bind fun t578 => (if t578 = true then (r3_low.l0 k x0 (wrap64 (x3 + 1))) else (some false))) else (some false)))) else ((r3_low.f k ((rd_T47 x0 x3).f3)).bind fun t580 => (if t580 = true then ((r3_low.f k ((rd_T47 x0 x3).f4)).bind fun t582 => (if t582 = true then (r3_low.l0 k x0 (wrap64 (x3 + 1))) else (some false))) else (some false)))) else (none)) else (some true)
def r3_low.f : Nat → List (S47) → Option (Bool)
 | 0, _ => none
 | k + 1, l0 => r3_low.l0 k l0 0
end
set_option maxHeartbeats 8000000 in
set_option maxRecDepth 100000 in
theorem r3_low.calls (k : Nat) : ∀ (A0 : Option Addr) (c0 : Nat) (l0 : List (S47)) (r : Bool) (w : World) (hr0 : Kd.C k47 w A0 l0.length l0) (hc0 : l0.length ≤ c0) (h : r3_low.f k l0 = some r),
  Calls Try.prog 65 #[.slice A0 l0.length c0] w fun e w' => e = .returned (.bool r) ∧ Drawn0 w w' := by
 induction k using Nat.strongRecOn with
 | _ k ih =>
 intro A0 c0 l0 r w hr0 hc0 h
 cases k with
 | zero => exact absurd h (by simp [r3_low.f])
 | succ k =>
 simp only [r3_low.f] at h
 have HR0 := Aside0.mk hr0
 have HC0 := Aside0.mk hc0
 clear hr0 hc0
 have H : (r3_low.l0 k l0 0) = some r := h
 clear h
 have H' := Aside0.mk H
 clear H
 go_enter Try.func65, Try.ntmps65
 go_wp2
 go_loopg [3] k (fun kq v3 w' => ∃ (x3_1 : Int), v3 = .int .i64 x3_1 ∧ Aside0 (r3_low.l0 kq l0 x3_1 = some r) ∧ Aside0 (kq ≤ k) ∧ Drawn0 w w')
 case atStart => exact ⟨(0), (by first | rfl | (simp; done) | (simp [*]; done)), H', ⟨Nat.le_refl _⟩, by repeat (first | exact Drawn0.refl _ | apply Drawn0.step)⟩
 case round =>
  clear H'
  obtain ⟨x3_1, rfl, HA, HK1, ⟨m1, rfl⟩⟩ := hrel
  cases gk with
  | zero => exact absurd HA.out (by simp [r3_low.l0])
  | succ k1 =>
   have H := HA.out
   clear HA
   simp only [r3_low.l0] at H
   by_cases c2 : x3_1 < (l0.length : Int)
   ·rw [if_pos c2] at H
    have c2b0 : decide (x3_1 < (l0.length : Int)) = true := decide_eq_true c2
    clear c2
    by_cases c3 : 0 ≤ x3_1
    ·rw [if_pos c3] at H
     have c3b0 : decide (0 ≤ x3_1) = true := decide_eq_true c3
     clear c3
     by_cases c4 : ((rd_T47 l0 x3_1).f0) = 3
     ·rw [if_pos c4] at H
      have c4b0 : (((rd_T47 l0 x3_1).f0) == 3) = true := beq_iff_eq.mpr c4
      have c4b1 : (((rd_T47 l0 x3_1).f0) != 3) = false := bne_eq_false_iff_eq.mpr c4
      clear c4
      by_cases c5 : ((rd_T47 l0 x3_1).f1) > 15
      ·rw [if_pos c5] at H
       have c5b0 : decide (15 < ((rd_T47 l0 x3_1).f1)) = true := decide_eq_true c5
       clear c5
       obtain rfl := Option.some.inj H
       have p573 : 0 ≤ (x3_1 : Int) := of_decide_eq_true (by first | (with_reducible assumption) | assumption)
       have q573 : x3_1 < (l0.length : Int) := of_decide_eq_true (by first | (with_reducible assumption) | assumption)
       obtain ⟨ad573, A573_2, c573_2, A573_3, c573_3, A573_4, c573_4, e573, hx573_0, hx573_1, hx573_2, hx573_3, hx573_4, hl573_2, hi573_2, hl573_3, hi573_3, hl573_4, hi573_4⟩ := at_T47 HR0.out x3_1 p573 q573
       cases e573
       have HR573_2 := Aside0.mk hi573_2
       have HC573_2 := Aside0.mk hl573_2
       clear hi573_2 hl573_2
       have HR573_3 := Aside0.mk hi573_3
       have HC573_3 := Aside0.mk hl573_3
       clear hi573_3 hl573_3
       have HR573_4 := Aside0.mk hi573_4
       have HC573_4 := Aside0.mk hl573_4
       clear hi573_4 hl573_4
       replace p573 := eq_true p573
       replace q573 := eq_true q573
       have p574 : 0 ≤ (x3_1 : Int) := of_decide_eq_true (by first | (with_reducible assumption) | assumption)
       have q574 : x3_1 < (l0.length : Int) := of_decide_eq_true (by first | (with_reducible assumption) | assumption)
       obtain ⟨ad574, A574_2, c574_2, A574_3, c574_3, A574_4, c574_4, e574, hx574_0, hx574_1, hx574_2, hx574_3, hx574_4, hl574_2, hi574_2, hl574_3, hi574_3, hl574_4, hi574_4⟩ := at_T47 HR0.out x3_1 p574 q574
       obtain rfl : ad573 = ad574 := (by injection e574)
       have HR574_2 := Aside0.mk hi574_2
       have HC574_2 := Aside0.mk hl574_2
       clear hi574_2 hl574_2
       have HR574_3 := Aside0.mk hi574_3
       have HC574_3 := Aside0.mk hl574_3
       clear hi574_3 hl574_3
       have HR574_4 := Aside0.mk hi574_4
       have HC574_4 := Aside0.mk hl574_4
       clear hi574_4 hl574_4
       replace p574 := eq_true p574
       replace q574 := eq_true q574
       have ea_ := Option.some.inj (hx573_2.symm.trans hx574_2)
       injection ea_ with ea_ en_ ec_
       subst ea_
       subst ec_
       clear en_
       have ea_ := Option.some.inj (hx573_3.symm.trans hx574_3)
       injection ea_ with ea_ en_ ec_
       subst ea_
       subst ec_
       clear en_
       have ea_ := Option.some.inj (hx573_4.symm.trans hx574_4)
       injection ea_ with ea_ en_ ec_
       subst ea_
       subst ec_
       clear en_
       go_wp2
       go_ret
       exact ⟨by first | rfl | (simp; done) | (simp [*]; done), by repeat (first | exact Drawn0.refl _ | apply Drawn0.step)⟩
      ·rw [if_neg c5] at H
       have c5b0 : decide (15 < ((rd_T47 l0 x3_1).f1)) = false := decide_eq_false c5
       clear c5
       replace H := Option.bind_eq_some_iff.mp H
       obtain ⟨t576, A60, H⟩ := H
       replace H : (if t576 = true then ((r3_low.f k1 ((rd_T47 l0 x3_1).f4)).bind fun t578 => (if t578 = true then (r3_low.l0 k1 l0 (wrap64 (x3_1 + 1))) else (some false))) else (some false)) = some r := H
       have A6 := Aside0.mk A60
       clear A60
       by_cases c7 : t576 = true
       ·subst c7
        have H1 : ((r3_low.f k1 ((rd_T47 l0 x3_1).f4)).bind fun t578 => (if t578 = true then (r3_low.l0 k1 l0 (wrap64 (x3_1 + 1))) else (some false))) = some r := by rw [if_pos rfl] at H; exact H
        clear H
        have H := H1
        clear H1
        replace H := Option.bind_eq_some_iff.mp H
        obtain ⟨t578, A80, H⟩ := H
        replace H : (if t578 = true then (r3_low.l0 k1 l0 (wrap64 (x3_1 + 1))) else (some false)) = some r := H
        have A8 := Aside0.mk A80
        clear A80
        by_cases c9 : t578 = true
        ·subst c9
         have H1 : (r3_low.l0 k1 l0 (wrap64 (x3_1 + 1))) = some r := by rw [if_pos rfl] at H; exact H
         clear H
         have H := H1
         clear H1
         have H' := Aside0.mk H
         clear H
         have p573 : 0 ≤ (x3_1 : Int) := of_decide_eq_true (by first | (with_reducible assumption) | assumption)
         have q573 : x3_1 < (l0.length : Int) := of_decide_eq_true (by first | (with_reducible assumption) | assumption)
         obtain ⟨ad573, A573_2, c573_2, A573_3, c573_3, A573_4, c573_4, e573, hx573_0, hx573_1, hx573_2, hx573_3, hx573_4, hl573_2, hi573_2, hl573_3, hi573_3, hl573_4, hi573_4⟩ := at_T47 HR0.out x3_1 p573 q573
         cases e573
         have HR573_2 := Aside0.mk hi573_2
         have HC573_2 := Aside0.mk hl573_2
         clear hi573_2 hl573_2
         have HR573_3 := Aside0.mk hi573_3
         have HC573_3 := Aside0.mk hl573_3
         clear hi573_3 hl573_3
         have HR573_4 := Aside0.mk hi573_4
         have HC573_4 := Aside0.mk hl573_4
         clear hi573_4 hl573_4
         replace p573 := eq_true p573
         replace q573 := eq_true q573
         have p574 : 0 ≤ (x3_1 : Int) := of_decide_eq_true (by first | (with_reducible assumption) | assumption)
         have q574 : x3_1 < (l0.length : Int) := of_decide_eq_true (by first | (with_reducible assumption) | assumption)
         obtain ⟨ad574, A574_2, c574_2, A574_3, c574_3, A574_4, c574_4, e574, hx574_0, hx574_1, hx574_2, hx574_3, hx574_4, hl574_2, hi574_2, hl574_3, hi574_3, hl574_4, hi574_4⟩ := at_T47 HR0.out x3_1 p574 q574
         obtain rfl : ad573 = ad574 := (by injection e574)
         have HR574_2 := Aside0.mk hi574_2
         have HC574_2 := Aside0.mk hl574_2
         clear hi574_2 hl574_2
         have HR574_3 := Aside0.mk hi574_3
         have HC574_3 := Aside0.mk hl574_3
         clear hi574_3 hl574_3
         have HR574_4 := Aside0.mk hi574_4
         have HC574_4 := Aside0.mk hl574_4
         clear hi574_4 hl574_4
         replace p574 := eq_true p574
         replace q574 := eq_true q574
         have ea_ := Option.some.inj (hx573_2.symm.trans hx574_2)
         injection ea_ with ea_ en_ ec_
         subst ea_
         subst ec_
         clear en_
         have ea_ := Option.some.inj (hx573_3.symm.trans hx574_3)
         injection ea_ with ea_ en_ ec_
         subst ea_
         subst ec_
         clear en_
         have ea_ := Option.some.inj (hx573_4.symm.trans hx574_4)
         injection ea_ with ea_ en_ ec_
         subst ea_
         subst ec_
         clear en_
         have p575 : 0 ≤ (x3_1 : Int) := of_decide_eq_true (by first | (with_reducible assumption) | assumption)
         have q575 : x3_1 < (l0.length : Int) := of_decide_eq_true (by first | (with_reducible assumption) | assumption)
         obtain ⟨ad575, A575_2, c575_2, A575_3, c575_3, A575_4, c575_4, e575, hx575_0, hx575_1, hx575_2, hx575_3, hx575_4, hl575_2, hi575_2, hl575_3, hi575_3, hl575_4, hi575_4⟩ := at_T47 HR0.out x3_1 p575 q575
         obtain rfl : ad573 = ad575 := (by injection e575)
         have HR575_2 := Aside0.mk hi575_2
         have HC575_2 := Aside0.mk hl575_2
         clear hi575_2 hl575_2
         have HR575_3 := Aside0.mk hi575_3
         have HC575_3 := Aside0.mk hl575_3
         clear hi575_3 hl575_3
         have HR575_4 := Aside0.mk hi575_4
         have HC575_4 := Aside0.mk hl575_4
         clear hi575_4 hl575_4
         replace p575 := eq_true p575
         replace q575 := eq_true q575
         have ea_ := Option.some.inj (hx573_2.symm.trans hx575_2)
         injection ea_ with ea_ en_ ec_
         subst ea_
         subst ec_
         clear en_
         have ea_ := Option.some.inj (hx573_3.symm.trans hx575_3)
         injection ea_ with ea_ en_ ec_
         subst ea_
         subst ec_
         clear en_
         have ea_ := Option.some.inj (hx573_4.symm.trans hx575_4)
         injection ea_ with ea_ en_ ec_
         subst ea_
         subst ec_
         clear en_
         go_wp2_with (first | (go_at_call 65; (with_reducible refine (ih k1 (by have := HK1.out; omega) _ _ ((rd_T47 l0 x3_1).f3) true _ ?side1 ?side2 A6.out).mono ?_); (case side1 => repeat (first | exact HR575_3.out | with_reducible first | apply Kd.C_alloc | apply Kd.C_drewN | apply Kd.C_drew)); (case side2 => exact HC575_3.out); rintro e w' ⟨rfl, ⟨nd, rfl⟩⟩; have p577 : 0 ≤ (x3_1 : Int) := of_decide_eq_true (by first | (with_reducible assumption) | assumption); have q577 : x3_1 < (l0.length : Int) := of_decide_eq_true (by first | (with_reducible assumption) | assumption); obtain ⟨ad577, A577_2, c577_2, A577_3, c577_3, A577_4, c577_4, e577, hx577_0, hx577_1, hx577_2, hx577_3, hx577_4, hl577_2, hi577_2, hl577_3, hi577_3, hl577_4, hi577_4⟩ := at_T47 HR0.out x3_1 p577 q577; obtain rfl : ad573 = ad577 := (by injection e577); have HR577_2 := Aside0.mk hi577_2; have HC577_2 := Aside0.mk hl577_2; clear hi577_2 hl577_2; have HR577_3 := Aside0.mk hi577_3; have HC577_3 := Aside0.mk hl577_3; clear hi577_3 hl577_3; have HR577_4 := Aside0.mk hi577_4; have HC577_4 := Aside0.mk hl577_4; clear hi577_4 hl577_4; replace p577 := eq_true p577; replace q577 := eq_true q577; have ea_ := Option.some.inj (hx573_2.symm.trans hx577_2); injection ea_ with ea_ en_ ec_; subst ea_; subst ec_; clear en_; have ea_ := Option.some.inj (hx573_3.symm.trans hx577_3); injection ea_ with ea_ en_ ec_; subst ea_; subst ec_; clear en_; have ea_ := Option.some.inj (hx573_4.symm.trans hx577_4); injection ea_ with ea_ en_ ec_; subst ea_; subst ec_; clear en_) | (go_at_call 65; (with_reducible refine (ih k1 (by have := HK1.out; omega) _ _ ((rd_T47 l0 x3_1).f4) true _ ?side1 ?side2 A8.out).mono ?_); (case side1 => repeat (first | exact HR577_4.out | with_reducible first | apply Kd.C_alloc | apply Kd.C_drewN | apply Kd.C_drew)); (case side2 => exact HC577_4.out); rintro e w' ⟨rfl, ⟨nd, rfl⟩⟩))
         go_roundg k1
         case measure => have := HK1.out; omega
         case rel => exact ⟨(wrap64 (x3_1 + 1)), (by first | rfl | (simp; done) | (simp [*]; done)), H', ⟨by have := HK1.out; omega⟩, by repeat (first | exact Drawn0.refl _ | apply Drawn0.step)⟩
        ·replace c9 := Bool.eq_false_iff.mpr c9
         subst c9
         have H1 : (some false) = some r := by rw [if_neg (show ¬ (false = true) by decide)] at H; exact H
         clear H
         have H := H1
         clear H1
         obtain rfl := Option.some.inj H
         have p573 : 0 ≤ (x3_1 : Int) := of_decide_eq_true (by first | (with_reducible assumption) | assumption)
         have q573 : x3_1 < (l0.length : Int) := of_decide_eq_true (by first | (with_reducible assumption) | assumption)
         obtain ⟨ad573, A573_2, c573_2, A573_3, c573_3, A573_4, c573_4, e573, hx573_0, hx573_1, hx573_2, hx573_3, hx573_4, hl573_2, hi573_2, hl573_3, hi573_3, hl573_4, hi573_4⟩ := at_T47 HR0.out x3_1 p573 q573
         cases e573
         have HR573_2 := Aside0.mk hi573_2
         have HC573_2 := Aside0.mk hl573_2
         clear hi573_2 hl573_2
         have HR573_3 := Aside0.mk hi573_3
         have HC573_3 := Aside0.mk hl573_3
         clear hi573_3 hl573_3
         have HR573_4 := Aside0.mk hi573_4
         have HC573_4 := Aside0.mk hl573_4
         clear hi573_4 hl573_4
         replace p573 := eq_true p573
         replace q573 := eq_true q573
         have p574 : 0 ≤ (x3_1 : Int) := of_decide_eq_true (by first | (with_reducible assumption) | assumption)
         have q574 : x3_1 < (l0.length : Int) := of_decide_eq_true (by first | (with_reducible assumption) | assumption)
         obtain ⟨ad574, A574_2, c574_2, A574_3, c574_3, A574_4, c574_4, e574, hx574_0, hx574_1, hx574_2, hx574_3, hx574_4, hl574_2, hi574_2, hl574_3, hi574_3, hl574_4, hi574_4⟩ := at_T47 HR0.out x3_1 p574 q574
         obtain rfl : ad573 = ad574 := (by injection e574)
         have HR574_2 := Aside0.mk hi574_2
         have HC574_2 := Aside0.mk hl574_2
         clear hi574_2 hl574_2
         have HR574_3 := Aside0.mk hi574_3
         have HC574_3 := Aside0.mk hl574_3
         clear hi574_3 hl574_3
         have HR574_4 := Aside0.mk hi574_4
         have HC574_4 := Aside0.mk hl574_4
         clear hi574_4 hl574_4
         replace p574 := eq_true p574
         replace q574 := eq_true q574
         have ea_ := Option.some.inj (hx573_2.symm.trans hx574_2)
         injection ea_ with ea_ en_ ec_
         subst ea_
         subst ec_
         clear en_
         have ea_ := Option.some.inj (hx573_3.symm.trans hx574_3)
         injection ea_ with ea_ en_ ec_
         subst ea_
         subst ec_
         clear en_
         have ea_ := Option.some.inj (hx573_4.symm.trans hx574_4)
         injection ea_ with ea_ en_ ec_
         subst ea_
         subst ec_
         clear en_
         have p575 : 0 ≤ (x3_1 : Int) := of_decide_eq_true (by first | (with_reducible assumption) | assumption)
         have q575 : x3_1 < (l0.length : Int) := of_decide_eq_true (by first | (with_reducible assumption) | assumption)
         obtain ⟨ad575, A575_2, c575_2, A575_3, c575_3, A575_4, c575_4, e575, hx575_0, hx575_1, hx575_2, hx575_3, hx575_4, hl575_2, hi575_2, hl575_3, hi575_3, hl575_4, hi575_4⟩ := at_T47 HR0.out x3_1 p575 q575
         obtain rfl : ad573 = ad575 := (by injection e575)
         have HR575_2 := Aside0.mk hi575_2
         have HC575_2 := Aside0.mk hl575_2
         clear hi575_2 hl575_2
         have HR575_3 := Aside0.mk hi575_3
         have HC575_3 := Aside0.mk hl575_3
         clear hi575_3 hl575_3
         have HR575_4 := Aside0.mk hi575_4
         have HC575_4 := Aside0.mk hl575_4
         clear hi575_4 hl575_4
         replace p575 := eq_true p575
         replace q575 := eq_true q575
         have ea_ := Option.some.inj (hx573_2.symm.trans hx575_2)
         injection ea_ with ea_ en_ ec_
         subst ea_
         subst ec_
         clear en_
         have ea_ := Option.some.inj (hx573_3.symm.trans hx575_3)
         injection ea_ with ea_ en_ ec_
         subst ea_
         subst ec_
         clear en_
         have ea_ := Option.some.inj (hx573_4.symm.trans hx575_4)
         injection ea_ with ea_ en_ ec_
         subst ea_
         subst ec_
         clear en_
         go_wp2_with (first | (go_at_call 65; (with_reducible refine (ih k1 (by have := HK1.out; omega) _ _ ((rd_T47 l0 x3_1).f3) true _ ?side1 ?side2 A6.out).mono ?_); (case side1 => repeat (first | exact HR575_3.out | with_reducible first | apply Kd.C_alloc | apply Kd.C_drewN | apply Kd.C_drew)); (case side2 => exact HC575_3.out); rintro e w' ⟨rfl, ⟨nd, rfl⟩⟩; have p577 : 0 ≤ (x3_1 : Int) := of_decide_eq_true (by first | (with_reducible assumption) | assumption); have q577 : x3_1 < (l0.length : Int) := of_decide_eq_true (by first | (with_reducible assumption) | assumption); obtain ⟨ad577, A577_2, c577_2, A577_3, c577_3, A577_4, c577_4, e577, hx577_0, hx577_1, hx577_2, hx577_3, hx577_4, hl577_2, hi577_2, hl577_3, hi577_3, hl577_4, hi577_4⟩ := at_T47 HR0.out x3_1 p577 q577; obtain rfl : ad573 = ad577 := (by injection e577); have HR577_2 := Aside0.mk hi577_2; have HC577_2 := Aside0.mk hl577_2; clear hi577_2 hl577_2; have HR577_3 := Aside0.mk hi577_3; have HC577_3 := Aside0.mk hl577_3; clear hi577_3 hl577_3; have HR577_4 := Aside0.mk hi577_4; have HC577_4 := Aside0.mk hl577_4; clear hi577_4 hl577_4; replace p577 := eq_true p577; replace q577 := eq_true q577; have ea_ := Option.some.inj (hx573_2.symm.trans hx577_2); injection ea_ with ea_ en_ ec_; subst ea_; subst ec_; clear en_; have ea_ := Option.some.inj (hx573_3.symm.trans hx577_3); injection ea_ with ea_ en_ ec_; subst ea_; subst ec_; clear en_; have ea_ := Option.some.inj (hx573_4.symm.trans hx577_4); injection ea_ with ea_ en_ ec_; subst ea_; subst ec_; clear en_) | (go_at_call 65; (with_reducible refine (ih k1 (by have := HK1.out; omega) _ _ ((rd_T47 l0 x3_1).f4) false _ ?side1 ?side2 A8.out).mono ?_); (case side1 => repeat (first | exact HR577_4.out | with_reducible first | apply Kd.C_alloc | apply Kd.C_drewN | apply Kd.C_drew)); (case side2 => exact HC577_4.out); rintro e w' ⟨rfl, ⟨nd, rfl⟩⟩))
         go_ret
         exact ⟨by first | rfl | (simp; done) | (simp [*]; done), by repeat (first | exact Drawn0.refl _ | apply Drawn0.step)⟩
       ·replace c7 := Bool.eq_false_iff.mpr c7
        subst c7
        have H1 : (some false) = some r := by rw [if_neg (show ¬ (false = true) by decide)] at H; exact H
        clear H
        have H := H1
        clear H1
        obtain rfl := Option.some.inj H
        have p573 : 0 ≤ (x3_1 : Int) := of_decide_eq_true (by first | (with_reducible assumption) | assumption)
        have q573 : x3_1 < (l0.length : Int) := of_decide_eq_true (by first | (with_reducible assumption) | assumption)
        obtain ⟨ad573, A573_2, c573_2, A573_3, c573_3, A573_4, c573_4, e573, hx573_0, hx573_1, hx573_2, hx573_3, hx573_4, hl573_2, hi573_2, hl573_3, hi573_3, hl573_4, hi573_4⟩ := at_T47 HR0.out x3_1 p573 q573
        cases e573
        have HR573_2 := Aside0.mk hi573_2
        have HC573_2 := Aside0.mk hl573_2
        clear hi573_2 hl573_2
        have HR573_3 := Aside0.mk hi573_3
        have HC573_3 := Aside0.mk hl573_3
        clear hi573_3 hl573_3
        have HR573_4 := Aside0.mk hi573_4
        have HC573_4 := Aside0.mk hl573_4
        clear hi573_4 hl573_4
        replace p573 := eq_true p573
        replace q573 := eq_true q573
        have p574 : 0 ≤ (x3_1 : Int) := of_decide_eq_true (by first | (with_reducible assumption) | assumption)
        have q574 : x3_1 < (l0.length : Int) := of_decide_eq_true (by first | (with_reducible assumption) | assumption)
        obtain ⟨ad574, A574_2, c574_2, A574_3, c574_3, A574_4, c574_4, e574, hx574_0, hx574_1, hx574_2, hx574_3, hx574_4, hl574_2, hi574_2, hl574_3, hi574_3, hl574_4, hi574_4⟩ := at_T47 HR0.out x3_1 p574 q574
        obtain rfl : ad573 = ad574 := (by injection e574)
        have HR574_2 := Aside0.mk hi574_2
        have HC574_2 := Aside0.mk hl574_2
        clear hi574_2 hl574_2
        have HR574_3 := Aside0.mk hi574_3
        have HC574_3 := Aside0.mk hl574_3
        clear hi574_3 hl574_3
        have HR574_4 := Aside0.mk hi574_4
        have HC574_4 := Aside0.mk hl574_4
        clear hi574_4 hl574_4
        replace p574 := eq_true p574
        replace q574 := eq_true q574
        have ea_ := Option.some.inj (hx573_2.symm.trans hx574_2)
        injection ea_ with ea_ en_ ec_
        subst ea_
        subst ec_
        clear en_
        have ea_ := Option.some.inj (hx573_3.symm.trans hx574_3)
        injection ea_ with ea_ en_ ec_
        subst ea_
        subst ec_
        clear en_
        have ea_ := Option.some.inj (hx573_4.symm.trans hx574_4)
        injection ea_ with ea_ en_ ec_
        subst ea_
        subst ec_
        clear en_
        have p575 : 0 ≤ (x3_1 : Int) := of_decide_eq_true (by first | (with_reducible assumption) | assumption)
        have q575 : x3_1 < (l0.length : Int) := of_decide_eq_true (by first | (with_reducible assumption) | assumption)
        obtain ⟨ad575, A575_2, c575_2, A575_3, c575_3, A575_4, c575_4, e575, hx575_0, hx575_1, hx575_2, hx575_3, hx575_4, hl575_2, hi575_2, hl575_3, hi575_3, hl575_4, hi575_4⟩ := at_T47 HR0.out x3_1 p575 q575
        obtain rfl : ad573 = ad575 := (by injection e575)
        have HR575_2 := Aside0.mk hi575_2
        have HC575_2 := Aside0.mk hl575_2
        clear hi575_2 hl575_2
        have HR575_3 := Aside0.mk hi575_3
        have HC575_3 := Aside0.mk hl575_3
        clear hi575_3 hl575_3
        have HR575_4 := Aside0.mk hi575_4
        have HC575_4 := Aside0.mk hl575_4
        clear hi575_4 hl575_4
        replace p575 := eq_true p575
        replace q575 := eq_true q575
        have ea_ := Option.some.inj (hx573_2.symm.trans hx575_2)
        injection ea_ with ea_ en_ ec_
        subst ea_
        subst ec_
        clear en_
        have ea_ := Option.some.inj (hx573_3.symm.trans hx575_3)
        injection ea_ with ea_ en_ ec_
        subst ea_
        subst ec_
        clear en_
        have ea_ := Option.some.inj (hx573_4.symm.trans hx575_4)
        injection ea_ with ea_ en_ ec_
        subst ea_
        subst ec_
        clear en_
        go_wp2_with (first | (go_at_call 65; (with_reducible refine (ih k1 (by have := HK1.out; omega) _ _ ((rd_T47 l0 x3_1).f3) false _ ?side1 ?side2 A6.out).mono ?_); (case side1 => repeat (first | exact HR575_3.out | with_reducible first | apply Kd.C_alloc | apply Kd.C_drewN | apply Kd.C_drew)); (case side2 => exact HC575_3.out); rintro e w' ⟨rfl, ⟨nd, rfl⟩⟩))
        go_ret
        exact ⟨by first | rfl | (simp; done) | (simp [*]; done), by repeat (first | exact Drawn0.refl _ | apply Drawn0.step)⟩
     ·rw [if_neg c4] at H
      have c4b0 : (((rd_T47 l0 x3_1).f0) == 3) = false := beq_eq_false_iff_ne.mpr c4
      have c4b1 : (((rd_T47 l0 x3_1).f0) != 3) = true := bne_iff_ne.mpr c4
      replace H := Option.bind_eq_some_iff.mp H
      obtain ⟨t580, A100, H⟩ := H
      replace H : (if t580 = true then ((r3_low.f k1 ((rd_T47 l0 x3_1).f4)).bind fun t582 => (if t582 = true then (r3_low.l0 k1 l0 (wrap64 (x3_1 + 1))) else (some false))) else (some false)) = some r := H
      have A10 := Aside0.mk A100
      clear A100
      by_cases c11 : t580 = true
      ·subst c11
       have H1 : ((r3_low.f k1 ((rd_T47 l0 x3_1).f4)).bind fun t582 => (if t582 = true then (r3_low.l0 k1 l0 (wrap64 (x3_1 + 1))) else (some false))) = some r := by rw [if_pos rfl] at H; exact H
       clear H
       have H := H1
       clear H1
       replace H := Option.bind_eq_some_iff.mp H
       obtain ⟨t582, A120, H⟩ := H
       replace H : (if t582 = true then (r3_low.l0 k1 l0 (wrap64 (x3_1 + 1))) else (some false)) = some r := H
       have A12 := Aside0.mk A120
       clear A120
       by_cases c13 : t582 = true
       ·subst c13
        have H1 : (r3_low.l0 k1 l0 (wrap64 (x3_1 + 1))) = some r := by rw [if_pos rfl] at H; exact H
        clear H
        have H := H1
        clear H1
        have H' := Aside0.mk H
        clear H
        have p573 : 0 ≤ (x3_1 : Int) := of_decide_eq_true (by first | (with_reducible assumption) | assumption)
        have q573 : x3_1 < (l0.length : Int) := of_decide_eq_true (by first | (with_reducible assumption) | assumption)
        obtain ⟨ad573, A573_2, c573_2, A573_3, c573_3, A573_4, c573_4, e573, hx573_0, hx573_1, hx573_2, hx573_3, hx573_4, hl573_2, hi573_2, hl573_3, hi573_3, hl573_4, hi573_4⟩ := at_T47 HR0.out x3_1 p573 q573
        cases e573
        have HR573_2 := Aside0.mk hi573_2
        have HC573_2 := Aside0.mk hl573_2
        clear hi573_2 hl573_2
        have HR573_3 := Aside0.mk hi573_3
        have HC573_3 := Aside0.mk hl573_3
        clear hi573_3 hl573_3
        have HR573_4 := Aside0.mk hi573_4
        have HC573_4 := Aside0.mk hl573_4
        clear hi573_4 hl573_4
        replace p573 := eq_true p573
        replace q573 := eq_true q573
        have p579 : 0 ≤ (x3_1 : Int) := of_decide_eq_true (by first | (with_reducible assumption) | assumption)
        have q579 : x3_1 < (l0.length : Int) := of_decide_eq_true (by first | (with_reducible assumption) | assumption)
        obtain ⟨ad579, A579_2, c579_2, A579_3, c579_3, A579_4, c579_4, e579, hx579_0, hx579_1, hx579_2, hx579_3, hx579_4, hl579_2, hi579_2, hl579_3, hi579_3, hl579_4, hi579_4⟩ := at_T47 HR0.out x3_1 p579 q579
        obtain rfl : ad573 = ad579 := (by injection e579)
        have HR579_2 := Aside0.mk hi579_2
        have HC579_2 := Aside0.mk hl579_2
        clear hi579_2 hl579_2
        have HR579_3 := Aside0.mk hi579_3
        have HC579_3 := Aside0.mk hl579_3
        clear hi579_3 hl579_3
        have HR579_4 := Aside0.mk hi579_4
        have HC579_4 := Aside0.mk hl579_4
        clear hi579_4 hl579_4
        replace p579 := eq_true p579
        replace q579 := eq_true q579
        have ea_ := Option.some.inj (hx573_2.symm.trans hx579_2)
        injection ea_ with ea_ en_ ec_
        subst ea_
        subst ec_
        clear en_
        have ea_ := Option.some.inj (hx573_3.symm.trans hx579_3)
        injection ea_ with ea_ en_ ec_
        subst ea_
        subst ec_
        clear en_
        have ea_ := Option.some.inj (hx573_4.symm.trans hx579_4)
        injection ea_ with ea_ en_ ec_
        subst ea_
        subst ec_
        clear en_
        go_wp2_with (first | (go_at_call 65; (with_reducible refine (ih k1 (by have := HK1.out; omega) _ _ ((rd_T47 l0 x3_1).f3) true _ ?side1 ?side2 A10.out).mono ?_); (case side1 => repeat (first | exact HR579_3.out | with_reducible first | apply Kd.C_alloc | apply Kd.C_drewN | apply Kd.C_drew)); (case side2 => exact HC579_3.out); rintro e w' ⟨rfl, ⟨nd, rfl⟩⟩; have p581 : 0 ≤ (x3_1 : Int) := of_decide_eq_true (by first | (with_reducible assumption) | assumption); have q581 : x3_1 < (l0.length : Int) := of_decide_eq_true (by first | (with_reducible assumption) | assumption); obtain ⟨ad581, A581_2, c581_2, A581_3, c581_3, A581_4, c581_4, e581, hx581_0, hx581_1, hx581_2, hx581_3, hx581_4, hl581_2, hi581_2, hl581_3, hi581_3, hl581_4, hi581_4⟩ := at_T47 HR0.out x3_1 p581 q581; obtain rfl : ad573 = ad581 := (by injection e581); have HR581_2 := Aside0.mk hi581_2; have HC581_2 := Aside0.mk hl581_2; clear hi581_2 hl581_2; have HR581_3 := Aside0.mk hi581_3; have HC581_3 := Aside0.mk hl581_3; clear hi581_3 hl581_3; have HR581_4 := Aside0.mk hi581_4; have HC581_4 := Aside0.mk hl581_4; clear hi581_4 hl581_4; replace p581 := eq_true p581; replace q581 := eq_true q581; have ea_ := Option.some.inj (hx573_2.symm.trans hx581_2); injection ea_ with ea_ en_ ec_; subst ea_; subst ec_; clear en_; have ea_ := Option.some.inj (hx573_3.symm.trans hx581_3); injection ea_ with ea_ en_ ec_; subst ea_; subst ec_; clear en_; have ea_ := Option.some.inj (hx573_4.symm.trans hx581_4); injection ea_ with ea_ en_ ec_; subst ea_; subst ec_; clear en_) | (go_at_call 65; (with_reducible refine (ih k1 (by have := HK1.out; omega) _ _ ((rd_T47 l0 x3_1).f4) true _ ?side1 ?side2 A12.out).mono ?_); (case side1 => repeat (first | exact HR581_4.out | with_reducible first | apply Kd.C_alloc | apply Kd.C_drewN | apply Kd.C_drew)); (case side2 => exact HC581_4.out); rintro e w' ⟨rfl, ⟨nd, rfl⟩⟩))
        go_roundg k1
        case measure => have := HK1.out; omega
        case rel => exact ⟨(wrap64 (x3_1 + 1)), (by first | rfl | (simp; done) | (simp [*]; done)), H', ⟨by have := HK1.out; omega⟩, by repeat (first | exact Drawn0.refl _ | apply Drawn0.step)⟩
       ·replace c13 := Bool.eq_false_iff.mpr c13
        subst c13
        have H1 : (some false) = some r := by rw [if_neg (show ¬ (false = true) by decide)] at H; exact H
        clear H
        have H := H1
        clear H1
        obtain rfl := Option.some.inj H
        have p573 : 0 ≤ (x3_1 : Int) := of_decide_eq_true (by first | (with_reducible assumption) | assumption)
        have q573 : x3_1 < (l0.length : Int) := of_decide_eq_true (by first | (with_reducible assumption) | assumption)
        obtain ⟨ad573, A573_2, c573_2, A573_3, c573_3, A573_4, c573_4, e573, hx573_0, hx573_1, hx573_2, hx573_3, hx573_4, hl573_2, hi573_2, hl573_3, hi573_3, hl573_4, hi573_4⟩ := at_T47 HR0.out x3_1 p573 q573
        cases e573
        have HR573_2 := Aside0.mk hi573_2
        have HC573_2 := Aside0.mk hl573_2
        clear hi573_2 hl573_2
        have HR573_3 := Aside0.mk hi573_3
        have HC573_3 := Aside0.mk hl573_3
        clear hi573_3 hl573_3
        have HR573_4 := Aside0.mk hi573_4
        have HC573_4 := Aside0.mk hl573_4
        clear hi573_4 hl573_4
        replace p573 := eq_true p573
        replace q573 := eq_true q573
        have p579 : 0 ≤ (x3_1 : Int) := of_decide_eq_true (by first | (with_reducible assumption) | assumption)
        have q579 : x3_1 < (l0.length : Int) := of_decide_eq_true (by first | (with_reducible assumption) | assumption)
        obtain ⟨ad579, A579_2, c579_2, A579_3, c579_3, A579_4, c579_4, e579, hx579_0, hx579_1, hx579_2, hx579_3, hx579_4, hl579_2, hi579_2, hl579_3, hi579_3, hl579_4, hi579_4⟩ := at_T47 HR0.out x3_1 p579 q579
        obtain rfl : ad573 = ad579 := (by injection e579)
        have HR579_2 := Aside0.mk hi579_2
        have HC579_2 := Aside0.mk hl579_2
        clear hi579_2 hl579_2
        have HR579_3 := Aside0.mk hi579_3
        have HC579_3 := Aside0.mk hl579_3
        clear hi579_3 hl579_3
        have HR579_4 := Aside0.mk hi579_4
        have HC579_4 := Aside0.mk hl579_4
        clear hi579_4 hl579_4
        replace p579 := eq_true p579
        replace q579 := eq_true q579
        have ea_ := Option.some.inj (hx573_2.symm.trans hx579_2)
        injection ea_ with ea_ en_ ec_
        subst ea_
        subst ec_
        clear en_
        have ea_ := Option.some.inj (hx573_3.symm.trans hx579_3)
        injection ea_ with ea_ en_ ec_
        subst ea_
        subst ec_
        clear en_
        have ea_ := Option.some.inj (hx573_4.symm.trans hx579_4)
        injection ea_ with ea_ en_ ec_
        subst ea_
        subst ec_
        clear en_
        go_wp2_with (first | (go_at_call 65; (with_reducible refine (ih k1 (by have := HK1.out; omega) _ _ ((rd_T47 l0 x3_1).f3) true _ ?side1 ?side2 A10.out).mono ?_); (case side1 => repeat (first | exact HR579_3.out | with_reducible first | apply Kd.C_alloc | apply Kd.C_drewN | apply Kd.C_drew)); (case side2 => exact HC579_3.out); rintro e w' ⟨rfl, ⟨nd, rfl⟩⟩; have p581 : 0 ≤ (x3_1 : Int) := of_decide_eq_true (by first | (with_reducible assumption) | assumption); have q581 : x3_1 < (l0.length : Int) := of_decide_eq_true (by first | (with_reducible assumption) | assumption); obtain ⟨ad581, A581_2, c581_2, A581_3, c581_3, A581_4, c581_4, e581, hx581_0, hx581_1, hx581_2, hx581_3, hx581_4, hl581_2, hi581_2, hl581_3, hi581_3, hl581_4, hi581_4⟩ := at_T47 HR0.out x3_1 p581 q581; obtain rfl : ad573 = ad581 := (by injection e581); have HR581_2 := Aside0.mk hi581_2; have HC581_2 := Aside0.mk hl581_2; clear hi581_2 hl581_2; have HR581_3 := Aside0.mk hi581_3; have HC581_3 := Aside0.mk hl581_3; clear hi581_3 hl581_3; have HR581_4 := Aside0.mk hi581_4; have HC581_4 := Aside0.mk hl581_4; clear hi581_4 hl581_4; replace p581 := eq_true p581; replace q581 := eq_true q581; have ea_ := Option.some.inj (hx573_2.symm.trans hx581_2); injection ea_ with ea_ en_ ec_; subst ea_; subst ec_; clear en_; have ea_ := Option.some.inj (hx573_3.symm.trans hx581_3); injection ea_ with ea_ en_ ec_; subst ea_; subst ec_; clear en_; have ea_ := Option.some.inj (hx573_4.symm.trans hx581_4); injection ea_ with ea_ en_ ec_; subst ea_; subst ec_; clear en_) | (go_at_call 65; (with_reducible refine (ih k1 (by have := HK1.out; omega) _ _ ((rd_T47 l0 x3_1).f4) false _ ?side1 ?side2 A12.out).mono ?_); (case side1 => repeat (first | exact HR581_4.out | with_reducible first | apply Kd.C_alloc | apply Kd.C_drewN | apply Kd.C_drew)); (case side2 => exact HC581_4.out); rintro e w' ⟨rfl, ⟨nd, rfl⟩⟩))
        go_ret
        exact ⟨by first | rfl | (simp; done) | (simp [*]; done), by repeat (first | exact Drawn0.refl _ | apply Drawn0.step)⟩
      ·replace c11 := Bool.eq_false_iff.mpr c11
       subst c11
       have H1 : (some false) = some r := by rw [if_neg (show ¬ (false = true) by decide)] at H; exact H
       clear H
       have H := H1
       clear H1
       obtain rfl := Option.some.inj H
       have p573 : 0 ≤ (x3_1 : Int) := of_decide_eq_true (by first | (with_reducible assumption) | assumption)
       have q573 : x3_1 < (l0.length : Int) := of_decide_eq_true (by first | (with_reducible assumption) | assumption)
       obtain ⟨ad573, A573_2, c573_2, A573_3, c573_3, A573_4, c573_4, e573, hx573_0, hx573_1, hx573_2, hx573_3, hx573_4, hl573_2, hi573_2, hl573_3, hi573_3, hl573_4, hi573_4⟩ := at_T47 HR0.out x3_1 p573 q573
       cases e573
       have HR573_2 := Aside0.mk hi573_2
       have HC573_2 := Aside0.mk hl573_2
       clear hi573_2 hl573_2
       have HR573_3 := Aside0.mk hi573_3
       have HC573_3 := Aside0.mk hl573_3
       clear hi573_3 hl573_3
       have HR573_4 := Aside0.mk hi573_4
       have HC573_4 := Aside0.mk hl573_4
       clear hi573_4 hl573_4
       replace p573 := eq_true p573
       replace q573 := eq_true q573
       have p579 : 0 ≤ (x3_1 : Int) := of_decide_eq_true (by first | (with_reducible assumption) | assumption)
       have q579 : x3_1 < (l0.length : Int) := of_decide_eq_true (by first | (with_reducible assumption) | assumption)
       obtain ⟨ad579, A579_2, c579_2, A579_3, c579_3, A579_4, c579_4, e579, hx579_0, hx579_1, hx579_2, hx579_3, hx579_4, hl579_2, hi579_2, hl579_3, hi579_3, hl579_4, hi579_4⟩ := at_T47 HR0.out x3_1 p579 q579
       obtain rfl : ad573 = ad579 := (by injection e579)
       have HR579_2 := Aside0.mk hi579_2
       have HC579_2 := Aside0.mk hl579_2
       clear hi579_2 hl579_2
       have HR579_3 := Aside0.mk hi579_3
       have HC579_3 := Aside0.mk hl579_3
       clear hi579_3 hl579_3
       have HR579_4 := Aside0.mk hi579_4
       have HC579_4 := Aside0.mk hl579_4
       clear hi579_4 hl579_4
       replace p579 := eq_true p579
       replace q579 := eq_true q579
       have ea_ := Option.some.inj (hx573_2.symm.trans hx579_2)
       injection ea_ with ea_ en_ ec_
       subst ea_
       subst ec_
       clear en_
       have ea_ := Option.some.inj (hx573_3.symm.trans hx579_3)
       injection ea_ with ea_ en_ ec_
       subst ea_
       subst ec_
       clear en_
       have ea_ := Option.some.inj (hx573_4.symm.trans hx579_4)
       injection ea_ with ea_ en_ ec_
       subst ea_
       subst ec_
       clear en_
       go_wp2_with (first | (go_at_call 65; (with_reducible refine (ih k1 (by have := HK1.out; omega) _ _ ((rd_T47 l0 x3_1).f3) false _ ?side1 ?side2 A10.out).mono ?_); (case side1 => repeat (first | exact HR579_3.out | with_reducible first | apply Kd.C_alloc | apply Kd.C_drewN | apply Kd.C_drew)); (case side2 => exact HC579_3.out); rintro e w' ⟨rfl, ⟨nd, rfl⟩⟩))
       go_ret
       exact ⟨by first | rfl | (simp; done) | (simp [*]; done), by repeat (first | exact Drawn0.refl _ | apply Drawn0.step)⟩
    ·rw [if_neg c3] at H
     exact absurd H (by simp)
   ·rw [if_neg c2] at H
    have c2b0 : decide (x3_1 < (l0.length : Int)) = false := decide_eq_false c2
    clear c2
    obtain rfl := Option.some.inj H
    go_wp2
    go_ret
    exact ⟨by first | rfl | (simp; done) | (simp [*]; done), by repeat (first | exact Drawn0.refl _ | apply Drawn0.step)⟩
def r3_Single.l0 : Nat → Int → Int → List (S82) → List (S47) → Option (Bool)
 | 0, _, _, _, _ => none
 | k + 1, x3, x584000, x584001, x584002 => if x3 < (x584001.length : Int) then (if 0 ≤ x3 then (if ((rd_T82 x584001 x3).f1) > 15 then (some false) else (r3_Single.l0 k (wrap64 (x3 + 1)) x584000 x584001 x584002)) else (none)) else ((r3_low.f k x584002).bind fun t585 => (some t585))
def r3_Single.f (k : Nat) (a0_0 : Int) (l0_1 : List (S82)) (l0_2 : List (S47)) : Option (Bool) := r3_Single.l0 k 0 a0_0 l0_1 l0_2
set_option maxHeartbeats 8000000 in
set_option maxRecDepth 100000 in
theorem r3_Single.calls (k : Nat) (a0_0 : Int) (A0_1 : Option Addr) (c0_1 : Nat) (l0_1 : List (S82)) (A0_2 : Option Addr) (c0_2 : Nat) (l0_2 : List (S47)) (r : Bool) (w : World) (hr0_1 : Kd.C k82 w A0_1 l0_1.length l0_1) (hc0_1 : l0_1.length ≤ c0_1) (hr0_2 : Kd.C k47 w A0_2 l0_2.length l0_2) (hc0_2 : l0_2.length ≤ c0_2) (h : r3_Single.f k a0_0 l0_1 l0_2 = some r) :
  Calls Try.prog 41 #[.agg #[.int .i64 a0_0, .slice A0_1 l0_1.length c0_1, .slice A0_2 l0_2.length c0_2]] w fun e w' => e = .returned (.bool r) ∧ Below w.heap.size w w' := by
 have hu25 := Try.underlying25
 have HR0_1 := Aside0.mk hr0_1
 have HC0_1 := Aside0.mk hc0_1
 clear hr0_1 hc0_1
 have HR0_2 := Aside0.mk hr0_2
 have HC0_2 := Aside0.mk hc0_2
 clear hr0_2 hc0_2
 have HB := Aside0.mk (Below.refl w.heap.size w)
 have H : (r3_Single.l0 k 0 a0_0 l0_1 l0_2) = some r := h
 clear h
 have H' := Aside0.mk H
 clear H
 go_enter Try.func41, Try.ntmps41
 go_wp2_with (first | ((with_reducible refine gate_dst (N := 1) rfl ?_); refine box_event ?hg (N := 1) ?hd (cs := #[.int .i64 a0_0, .slice A0_1 l0_1.length c0_1, .slice A0_2 l0_2.length c0_2]) (t := 25) ?hr ?_; (case hd => rfl); (case hg => rfl); (case hr => first | (go_simp; done) | (go_simp; rfl)); intro gb583 hg w2 hbox hb; have n0_ := Aside0.mk (bsp (by repeat (first | (with_reducible first | exact HB.out | apply bal | apply bdN | apply bd1) | exact HB.out)) hb); have n1_ := Aside0.mk (hbox); have n2_ := Aside0.mk ((by rw [hg]; exact (bsz (by repeat (first | (with_reducible first | exact HB.out | apply bal | apply bdN | apply bd1) | exact HB.out))) : w.heap.size ≤ gb583)); have n3_ := Aside0.mk ((by rw [hg]; exact (bsz (by repeat (first | (with_reducible first | exact HB.out | apply bal | apply bdN | apply bd1) | exact HB.out))) : w.heap.size ≤ gb583)); clear HB; have HB := n0_; have BK583 := n1_; have GW583 := n2_; have GE583 := n3_; clear n0_ n1_ n2_ n3_; clear hb hbox hg))
 go_loopg [3] k (fun kq v3 w' => ∃ (x3_1 : Int), v3 = .int .i64 x3_1 ∧ Aside0 (r3_Single.l0 kq x3_1 a0_0 l0_1 l0_2 = some r) ∧ Aside0 (kq ≤ k) ∧ Aside0 (w'.heap[gb583]? = some (.cells #[.int .i64 a0_0, (.slice A0_1 l0_1.length c0_1), (.slice A0_2 l0_2.length c0_2)] 25 (0, 0))) ∧ Aside0 (Below w.heap.size w w'))
 case atStart => exact ⟨(0), (by first | rfl | (simp; done) | (simp [*]; done)), H', ⟨Nat.le_refl _⟩, ⟨by (with_reducible repeat (first | refine kdN ?_ _ | refine kdr ?_ | refine kal ?_ _)); exact BK583.out⟩, ⟨by repeat (first | (with_reducible first | exact HB.out | apply bal | apply bdN | apply bd1 | refine bst ?_ GE583.out) | exact HB.out)⟩⟩
 case round =>
  clear H'
  try clear p2
  obtain ⟨x3_1, rfl, HA, HK1, BK583, HB⟩ := hrel
  cases gk with
  | zero => exact absurd HA.out (by simp [r3_Single.l0])
  | succ k1 =>
   have H := HA.out
   clear HA
   simp only [r3_Single.l0] at H
   by_cases c3 : x3_1 < (l0_1.length : Int)
   ·rw [if_pos c3] at H
    have c3b0 : decide (x3_1 < (l0_1.length : Int)) = true := decide_eq_true c3
    clear c3
    by_cases c4 : 0 ≤ x3_1
    ·rw [if_pos c4] at H
     have c4b0 : decide (0 ≤ x3_1) = true := decide_eq_true c4
     clear c4
     by_cases c5 : ((rd_T82 l0_1 x3_1).f1) > 15
     ·rw [if_pos c5] at H
      have c5b0 : decide (15 < ((rd_T82 l0_1 x3_1).f1)) = true := decide_eq_true c5
      clear c5
      obtain rfl := Option.some.inj H
      obtain ⟨hcz6_0, hcz6_1, hcz6_2, hfz6_0, hfz6_1, hfz6_2⟩ := cf3 BK583.out
      have p584 : 0 ≤ (x3_1 : Int) := of_decide_eq_true (by first | (with_reducible assumption) | assumption)
      have q584 : x3_1 < (l0_1.length : Int) := of_decide_eq_true (by first | (with_reducible assumption) | assumption)
      obtain ⟨ad584, e584, hx584_0, hx584_1, hx584_2⟩ := at_T82 HR0_1.out x3_1 p584 q584
      cases e584
      replace hx584_0 := bcell HB.out hx584_0
      replace hx584_1 := bcell HB.out hx584_1
      replace hx584_2 := bcell HB.out hx584_2
      replace p584 := eq_true p584
      replace q584 := eq_true q584
      go_wp2
      go_ret
      exact ⟨by first | rfl | (simp [*] <;> rfl), by repeat (first | (with_reducible first | exact HB.out | apply bal | apply bdN | apply bd1 | refine bst ?_ GE583.out) | exact HB.out)⟩
     ·rw [if_neg c5] at H
      have c5b0 : decide (15 < ((rd_T82 l0_1 x3_1).f1)) = false := decide_eq_false c5
      clear c5
      have H' := Aside0.mk H
      clear H
      obtain ⟨hcz7_0, hcz7_1, hcz7_2, hfz7_0, hfz7_1, hfz7_2⟩ := cf3 BK583.out
      have p584 : 0 ≤ (x3_1 : Int) := of_decide_eq_true (by first | (with_reducible assumption) | assumption)
      have q584 : x3_1 < (l0_1.length : Int) := of_decide_eq_true (by first | (with_reducible assumption) | assumption)
      obtain ⟨ad584, e584, hx584_0, hx584_1, hx584_2⟩ := at_T82 HR0_1.out x3_1 p584 q584
      cases e584
      replace hx584_0 := bcell HB.out hx584_0
      replace hx584_1 := bcell HB.out hx584_1
      replace hx584_2 := bcell HB.out hx584_2
      replace p584 := eq_true p584
      replace q584 := eq_true q584
      go_wp2
      go_roundg k1
      case measure => have := HK1.out; omega
      case rel => exact ⟨(wrap64 (x3_1 + 1)), (by first | rfl | (simp; done) | (simp [*]; done)), H', ⟨by have := HK1.out; omega⟩, ⟨by (with_reducible repeat (first | refine kdN ?_ _ | refine kdr ?_ | refine kal ?_ _)); exact BK583.out⟩, ⟨by repeat (first | (with_reducible first | exact HB.out | apply bal | apply bdN | apply bd1 | refine bst ?_ GE583.out) | exact HB.out)⟩⟩
    ·rw [if_neg c4] at H
     exact absurd H (by simp)
   ·rw [if_neg c3] at H
    have c3b0 : decide (x3_1 < (l0_1.length : Int)) = false := decide_eq_false c3
    clear c3
    replace H := Option.bind_eq_some_iff.mp H
    obtain ⟨t585, A80, H⟩ := H
    replace H : (some t585) = some r := H
    have A8 := Aside0.mk A80
    clear A80
    obtain rfl := Option.some.inj H
    obtain ⟨hcz9_0, hcz9_1, hcz9_2, hfz9_0, hfz9_1, hfz9_2⟩ := cf3 BK583.out
    go_wp2_with (first | ((with_reducible refine gate_callee (f := 65) rfl ?_); refine goesL_ (some 20) rfl rfl Try.func65 (by kernel_rfl) rfl #[.slice A0_2 l0_2.length c0_2] rfl (by (try simp only [List.map_toArray, List.map_cons, List.map_nil]); first | done | rfl | (simp only [List.length_drop, List.length_take]; rfl)) ?_; (with_reducible refine (r3_low.calls k1 _ _ l0_2 t585 _ ?side1 ?side2 A8.out).mono ?_); (case side1 => repeat (first | exact (Kd.C_below HR0_2.out HB.out) | with_reducible first | apply Kd.C_alloc | apply Kd.C_drewN | apply Kd.C_drew)); (case side2 => exact HC0_2.out); rintro e w' ⟨rfl, ⟨nd, rfl⟩⟩; refine ⟨_, rfl, ?_⟩))
    go_ret
    exact ⟨by first | rfl | (simp [*] <;> rfl), by repeat (first | (with_reducible first | exact HB.out | apply bal | apply bdN | apply bd1 | refine bst ?_ GE583.out) | exact HB.out)⟩
def w3_ProgForms.f (k : Nat) (a0_0 : Int) (l0_1 : List (S82)) (l0_2 : List (S47)) : Option (Bool) := (r3_Fits.f k l0_2 600).bind fun t598 => (if t598 = true then ((prog_Check.f k a0_0 l0_1 l0_2).bind fun t600 => ((prog_Single.f k a0_0 l0_1 l0_2).bind fun bt601 => ((prog_Count.f k a0_0 l0_1 l0_2).bind fun bt603 => ((r3_Is.f k a0_0 l0_1 l0_2).bind fun t606 => (if t606 = true then (if t600 = 0 then (if bt601.2 = 0 then (if bt603.2.2 = 0 then ((r3_Single.f k a0_0 l0_1 l0_2).bind fun t608 => (if (bt601.1 == t608) = true then ((r3_Count.f k l0_2).bind fun t609 => (if bt603.1 = t609 then ((r3_Nodes.f k l0_2).bind fun t610 => (if bt603.2.1 = t610 then ((w3_awake.f k).bind fun t611 => (some t611)) else (some false))) else (some false))) else (some false))) else (some false)) else (some false)) else (some false)) else (if t600 = 30 then (if bt601.2 = 30 then (if bt603.2.2 = 30 then (if bt601.1 = true then (some false) else (if bt603.1 = 0 then (if bt603.2.1 = 0 then ((w3_awake.f k).bind fun t607 => (some t607)) else (some false)) else (some false))) else (some false)) else (some false)) else (some false))))))) else ((w3_awake.f k).bind fun t599 => (some t599)))
set_option maxHeartbeats 8000000 in
set_option maxRecDepth 100000 in
theorem w3_ProgForms.calls (k : Nat) (a0_0 : Int) (A0_1 : Option Addr) (c0_1 : Nat) (l0_1 : List (S82)) (A0_2 : Option Addr) (c0_2 : Nat) (l0_2 : List (S47)) (r : Bool) (w : World) (hr0_1 : Kd.C k82 w A0_1 l0_1.length l0_1) (hc0_1 : l0_1.length ≤ c0_1) (hr0_2 : Kd.C k47 w A0_2 l0_2.length l0_2) (hc0_2 : l0_2.length ≤ c0_2) (hrt : r = true) (h : w3_ProgForms.f k a0_0 l0_1 l0_2 = some r) :
  Calls Try.prog 10 #[.agg #[.int .i64 a0_0, .slice A0_1 l0_1.length c0_1, .slice A0_2 l0_2.length c0_2]] w fun e w' => e = .returned (.bool r) ∧ Below w.heap.size w w' := by
 have hu25 := Try.underlying25
 have HR0_1 := Aside0.mk hr0_1
 have HC0_1 := Aside0.mk hc0_1
 clear hr0_1 hc0_1
 have HR0_2 := Aside0.mk hr0_2
 have HC0_2 := Aside0.mk hc0_2
 clear hr0_2 hc0_2
 have HB := Aside0.mk (Below.refl w.heap.size w)
 have H : ((r3_Fits.f k l0_2 600).bind fun t598 => (if t598 = true then ((prog_Check.f k a0_0 l0_1 l0_2).bind fun t600 => ((prog_Single.f k a0_0 l0_1 l0_2).bind fun bt601 => ((prog_Count.f k a0_0 l0_1 l0_2).bind fun bt603 => ((r3_Is.f k a0_0 l0_1 l0_2).bind fun t606 => (if t606 = true then (if t600 = 0 then (if bt601.2 = 0 then (if bt603.2.2 = 0 then ((r3_Single.f k a0_0 l0_1 l0_2).bind fun t608 => (if (bt601.1 == t608) = true then ((r3_Count.f k l0_2).bind fun t609 => (if bt603.1 = t609 then ((r3_Nodes.f k l0_2).bind fun t610 => (if bt603.2.1 = t610 then ((w3_awake.f k).bind fun t611 => (some t611)) else (some false))) else (some false))) else (some false))) else (some false)) else (some false)) else (some false)) else (if t600 = 30 then (if bt601.2 = 30 then (if bt603.2.2 = 30 then (if bt601.1 = true then (some false) else (if bt603.1 = 0 then (if bt603.2.1 = 0 then ((w3_awake.f k).bind fun t607 => (some t607)) else (some false)) else (some false))) else (some false)) else (some false)) else (some false))))))) else ((w3_awake.f k).bind fun t599 => (some t599)))) = some r := h
 clear h
 replace H := Option.bind_eq_some_iff.mp H
 obtain ⟨t598, A20, H⟩ := H
 replace H : (if t598 = true then ((prog_Check.f k a0_0 l0_1 l0_2).bind fun t600 => ((prog_Single.f k a0_0 l0_1 l0_2).bind fun bt601 => ((prog_Count.f k a0_0 l0_1 l0_2).bind fun bt603 => ((r3_Is.f k a0_0 l0_1 l0_2).bind fun t606 => (if t606 = true then (if t600 = 0 then (if bt601.2 = 0 then (if bt603.2.2 = 0 then ((r3_Single.f k a0_0 l0_1 l0_2).bind fun t608 => (if (bt601.1 == t608) = true then ((r3_Count.f k l0_2).bind fun t609 => (if bt603.1 = t609 then ((r3_Nodes.f k l0_2).bind fun t610 => (if bt603.2.1 = t610 then ((w3_awake.f k).bind fun t611 => (some t611)) else (some false))) else (some false))) else (some false))) else (some false)) else (some false)) else (some false)) else (if t600 = 30 then (if bt601.2 = 30 then (if bt603.2.2 = 30 then (if bt601.1 = true then (some false) else (if bt603.1 = 0 then (if bt603.2.1 = 0 then ((w3_awake.f k).bind fun t607 => (some t607)) else (some false)) else (some false))) else (some false)) else (some false)) else (some false))))))) else ((w3_awake.f k).bind fun t599 => (some t599))) = some r := H
 have A2 := Aside0.mk A20
 clear A20
 by_cases c3 : t598 = true
 ·subst c3
  have H1 : ((prog_Check.f k a0_0 l0_1 l0_2).bind fun t600 => ((prog_Single.f k a0_0 l0_1 l0_2).bind fun bt601 => ((prog_Count.f k a0_0 l0_1 l0_2).bind fun bt603 => ((r3_Is.f k a0_0 l0_1 l0_2).bind fun t606 => (if t606 = true then (if t600 = 0 then (if bt601.2 = 0 then (if bt603.2.2 = 0 then ((r3_Single.f k a0_0 l0_1 l0_2).bind fun t608 => (if (bt601.1 == t608) = true then ((r3_Count.f k l0_2).bind fun t609 => (if bt603.1 = t609 then ((r3_Nodes.f k l0_2).bind fun t610 => (if bt603.2.1 = t610 then ((w3_awake.f k).bind fun t611 => (some t611)) else (some false))) else (some false))) else (some false))) else (some false)) else (some false)) else (some false)) else (if t600 = 30 then (if bt601.2 = 30 then (if bt603.2.2 = 30 then (if bt601.1 = true then (some false) else (if bt603.1 = 0 then (if bt603.2.1 = 0 then ((w3_awake.f k).bind fun t607 => (some t607)) else (some false)) else (some false))) else (some false)) else (some false)) else (some false))))))) = some r := by rw [if_pos rfl] at H; exact H
  clear H
  have H := H1
  clear H1
  replace H := Option.bind_eq_some_iff.mp H
  obtain ⟨t600, A40, H⟩ := H
  replace H : ((prog_Single.f k a0_0 l0_1 l0_2).bind fun bt601 => ((prog_Count.f k a0_0 l0_1 l0_2).bind fun bt603 => ((r3_Is.f k a0_0 l0_1 l0_2).bind fun t606 => (if t606 = true then (if t600 = 0 then (if bt601.2 = 0 then (if bt603.2.2 = 0 then ((r3_Single.f k a0_0 l0_1 l0_2).bind fun t608 => (if (bt601.1 == t608) = true then ((r3_Count.f k l0_2).bind fun t609 => (if bt603.1 = t609 then ((r3_Nodes.f k l0_2).bind fun t610 => (if bt603.2.1 = t610 then ((w3_awake.f k).bind fun t611 => (some t611)) else (some false))) else (some false))) else (some false))) else (some false)) else (some false)) else (some false)) else (if t600 = 30 then (if bt601.2 = 30 then (if bt603.2.2 = 30 then (if bt601.1 = true then (some false) else (if bt603.1 = 0 then (if bt603.2.1 = 0 then ((w3_awake.f k).bind fun t607 => (some t607)) else (some false)) else (some false))) else (some false)) else (some false)) else (some false)))))) = some r := H
  have A4 := Aside0.mk A40
  clear A40
  replace H := Option.bind_eq_some_iff.mp H
  obtain ⟨⟨t601, t602⟩, A50, H⟩ := H
  replace H : ((prog_Count.f k a0_0 l0_1 l0_2).bind fun bt603 => ((r3_Is.f k a0_0 l0_1 l0_2).bind fun t606 => (if t606 = true then (if t600 = 0 then (if t602 = 0 then (if bt603.2.2 = 0 then ((r3_Single.f k a0_0 l0_1 l0_2).bind fun t608 => (if (t601 == t608) = true then ((r3_Count.f k l0_2).bind fun t609 => (if bt603.1 = t609 then ((r3_Nodes.f k l0_2).bind fun t610 => (if bt603.2.1 = t610 then ((w3_awake.f k).bind fun t611 => (some t611)) else (some false))) else (some false))) else (some false))) else (some false)) else (some false)) else (some false)) else (if t600 = 30 then (if t602 = 30 then (if bt603.2.2 = 30 then (if t601 = true then (some false) else (if bt603.1 = 0 then (if bt603.2.1 = 0 then ((w3_awake.f k).bind fun t607 => (some t607)) else (some false)) else (some false))) else (some false)) else (some false)) else (some false))))) = some r := H
  have A5 := Aside0.mk A50
  clear A50
  replace H := Option.bind_eq_some_iff.mp H
  obtain ⟨⟨t603, t604, t605⟩, A60, H⟩ := H
  replace H : ((r3_Is.f k a0_0 l0_1 l0_2).bind fun t606 => (if t606 = true then (if t600 = 0 then (if t602 = 0 then (if t605 = 0 then ((r3_Single.f k a0_0 l0_1 l0_2).bind fun t608 => (if (t601 == t608) = true then ((r3_Count.f k l0_2).bind fun t609 => (if t603 = t609 then ((r3_Nodes.f k l0_2).bind fun t610 => (if t604 = t610 then ((w3_awake.f k).bind fun t611 => (some t611)) else (some false))) else (some false))) else (some false))) else (some false)) else (some false)) else (some false)) else (if t600 = 30 then (if t602 = 30 then (if t605 = 30 then (if t601 = true then (some false) else (if t603 = 0 then (if t604 = 0 then ((w3_awake.f k).bind fun t607 => (some t607)) else (some false)) else (some false))) else (some false)) else (some false)) else (some false)))) = some r := H
  have A6 := Aside0.mk A60
  clear A60
  replace H := Option.bind_eq_some_iff.mp H
  obtain ⟨t606, A70, H⟩ := H
  replace H : (if t606 = true then (if t600 = 0 then (if t602 = 0 then (if t605 = 0 then ((r3_Single.f k a0_0 l0_1 l0_2).bind fun t608 => (if (t601 == t608) = true then ((r3_Count.f k l0_2).bind fun t609 => (if t603 = t609 then ((r3_Nodes.f k l0_2).bind fun t610 => (if t604 = t610 then ((w3_awake.f k).bind fun t611 => (some t611)) else (some false))) else (some false))) else (some false))) else (some false)) else (some false)) else (some false)) else (if t600 = 30 then (if t602 = 30 then (if t605 = 30 then (if t601 = true then (some false) else (if t603 = 0 then (if t604 = 0 then ((w3_awake.f k).bind fun t607 => (some t607)) else (some false)) else (some false))) else (some false)) else (some false)) else (some false))) = some r := H
  have A7 := Aside0.mk A70
  clear A70
  by_cases c8 : t606 = true
  ·subst c8
   have H1 : (if t600 = 0 then (if t602 = 0 then (if t605 = 0 then ((r3_Single.f k a0_0 l0_1 l0_2).bind fun t608 => (if (t601 == t608) = true then ((r3_Count.f k l0_2).bind fun t609 => (if t603 = t609 then ((r3_Nodes.f k l0_2).bind fun t610 => (if t604 = t610 then ((w3_awake.f k).bind fun t611 => (some t611)) else (some false))) else (some false))) else (some false))) else (some false)) else (some false)) else (some false)) = some r := by rw [if_pos rfl] at H; exact H
   clear H
   have H := H1
   clear H1
   by_cases c9 : t600 = 0
   ·rw [if_pos c9] at H
    have c9b0 : (t600 == 0) = true := beq_iff_eq.mpr c9
    have c9b1 : (t600 != 0) = false := bne_eq_false_iff_eq.mpr c9
    clear c9
    by_cases c10 : t602 = 0
    ·rw [if_pos c10] at H
     have c10b0 : (t602 == 0) = true := beq_iff_eq.mpr c10
     have c10b1 : (t602 != 0) = false := bne_eq_false_iff_eq.mpr c10
     clear c10
     by_cases c11 : t605 = 0
     ·rw [if_pos c11] at H
      have c11b0 : (t605 == 0) = true := beq_iff_eq.mpr c11
      have c11b1 : (t605 != 0) = false := bne_eq_false_iff_eq.mpr c11
      clear c11
      replace H := Option.bind_eq_some_iff.mp H
      obtain ⟨t608, A120, H⟩ := H
      replace H : (if (t601 == t608) = true then ((r3_Count.f k l0_2).bind fun t609 => (if t603 = t609 then ((r3_Nodes.f k l0_2).bind fun t610 => (if t604 = t610 then ((w3_awake.f k).bind fun t611 => (some t611)) else (some false))) else (some false))) else (some false)) = some r := H
      have A12 := Aside0.mk A120
      clear A120
      by_cases c13 : (t601 == t608) = true
      ·rw [if_pos c13] at H
       have c13b0 : (t601 == t608) = true := c13
       (try (have c13b1 : decide (t601 = t608) = true := by simpa using c13))
       (try (have c13b2 : (t601 == t608) = true := by simpa using c13))
       clear c13
       replace H := Option.bind_eq_some_iff.mp H
       obtain ⟨t609, A140, H⟩ := H
       replace H : (if t603 = t609 then ((r3_Nodes.f k l0_2).bind fun t610 => (if t604 = t610 then ((w3_awake.f k).bind fun t611 => (some t611)) else (some false))) else (some false)) = some r := H
       have A14 := Aside0.mk A140
       clear A140
       by_cases c15 : t603 = t609
       ·rw [if_pos c15] at H
        have c15b0 : (t603 == t609) = true := beq_iff_eq.mpr c15
        have c15b1 : (t603 != t609) = false := bne_eq_false_iff_eq.mpr c15
        clear c15
        replace H := Option.bind_eq_some_iff.mp H
        obtain ⟨t610, A160, H⟩ := H
        replace H : (if t604 = t610 then ((w3_awake.f k).bind fun t611 => (some t611)) else (some false)) = some r := H
        have A16 := Aside0.mk A160
        clear A160
        by_cases c17 : t604 = t610
        ·rw [if_pos c17] at H
         have c17b0 : (t604 == t610) = true := beq_iff_eq.mpr c17
         have c17b1 : (t604 != t610) = false := bne_eq_false_iff_eq.mpr c17
         clear c17
         replace H := Option.bind_eq_some_iff.mp H
         obtain ⟨t611, A180, H⟩ := H
         replace H : (some t611) = some r := H
         have A18 := Aside0.mk A180
         clear A180
         obtain rfl := Option.some.inj H
         go_enter Try.func10, Try.ntmps10
         go_wp2_with (first | ((with_reducible refine gate_dst (N := 1) rfl ?_); refine box_event ?hg (N := 1) ?hd (cs := #[.int .i64 a0_0, .slice A0_1 l0_1.length c0_1, .slice A0_2 l0_2.length c0_2]) (t := 25) ?hr ?_; (case hd => rfl); (case hg => rfl); (case hr => first | (go_simp; done) | (go_simp; rfl)); intro gb597 hg w19 hbox hb; have n0_ := Aside0.mk (bsp (by repeat (first | (with_reducible first | exact HB.out | apply bal | apply bdN | apply bd1) | exact HB.out)) hb); have n1_ := Aside0.mk (hbox); have n2_ := Aside0.mk ((by rw [hg]; exact (bsz (by repeat (first | (with_reducible first | exact HB.out | apply bal | apply bdN | apply bd1) | exact HB.out))) : w.heap.size ≤ gb597)); have n3_ := Aside0.mk ((by rw [hg]; exact (bsz (by repeat (first | (with_reducible first | exact HB.out | apply bal | apply bdN | apply bd1) | exact HB.out))) : w.heap.size ≤ gb597)); clear HB; have HB := n0_; have BK597 := n1_; have GW597 := n2_; have GE597 := n3_; clear n0_ n1_ n2_ n3_; clear hb hbox hg; obtain ⟨hcz20_0, hcz20_1, hcz20_2, hfz20_0, hfz20_1, hfz20_2⟩ := cf3 BK597.out) | ((with_reducible refine gate_callee (f := 11) rfl ?_); refine goesL_ (some 11) rfl rfl Try.func11 (by kernel_rfl) rfl #[.slice A0_2 l0_2.length c0_2, .int .i64 600] rfl (by (try simp only [List.map_toArray, List.map_cons, List.map_nil]); first | done | rfl | (simp only [List.length_drop, List.length_take]; rfl)) ?_; (with_reducible refine (r3_Fits.calls k _ _ l0_2 600 true _ ?side1 ?side2 A2.out).mono ?_); (case side1 => repeat (first | exact (Kd.C_below HR0_2.out HB.out) | with_reducible first | apply Kd.C_alloc | apply Kd.C_drewN | apply Kd.C_drew)); (case side2 => exact HC0_2.out); rintro e w21 ⟨rfl, hb⟩; refine ⟨_, rfl, ?_⟩; have n0_ := Aside0.mk (blk_below (g := gb597) (o := .cells #[.int .i64 a0_0, .slice A0_1 l0_1.length c0_1, .slice A0_2 l0_2.length c0_2] 25 (0, 0)) (by (with_reducible repeat (first | refine kdN ?_ _ | refine kdr ?_ | refine kal ?_ _)); exact BK597.out) hb); have n1_ := Aside0.mk (bsp (by repeat (first | (with_reducible first | exact HB.out | apply bal | apply bdN | apply bd1 | refine bst ?_ GE597.out) | exact HB.out)) hb); clear BK597; clear HB; have BK597 := n0_; have HB := n1_; clear n0_ n1_; (try clear hb); (try clear hb2); (try clear hk); (try clear hi); obtain ⟨hcz22_0, hcz22_1, hcz22_2, hfz22_0, hfz22_1, hfz22_2⟩ := cf3 BK597.out) | ((with_reducible refine gate_callee (f := 39) rfl ?_); refine goesL_ (some 15) rfl rfl Try.func39 (by kernel_rfl) rfl #[.agg #[.int .i64 a0_0, .slice A0_1 l0_1.length c0_1, .slice A0_2 l0_2.length c0_2]] rfl (by (try simp only [List.map_toArray, List.map_cons, List.map_nil]); first | done | rfl | (simp only [List.length_drop, List.length_take]; rfl)) ?_; (with_reducible refine (prog_Check.calls k a0_0 _ _ l0_1 _ _ l0_2 t600 _ ?side1 ?side2 ?side3 ?side4 A4.out).mono ?_); (case side1 => repeat (first | exact (Kd.C_below HR0_1.out HB.out) | with_reducible first | apply Kd.C_alloc | apply Kd.C_drewN | apply Kd.C_drew)); (case side2 => exact HC0_1.out); (case side3 => repeat (first | exact (Kd.C_below HR0_2.out HB.out) | with_reducible first | apply Kd.C_alloc | apply Kd.C_drewN | apply Kd.C_drew)); (case side4 => exact HC0_2.out); rintro e w23 ⟨rfl, hb⟩; refine ⟨_, rfl, ?_⟩; have n0_ := Aside0.mk (blk_below (g := gb597) (o := .cells #[.int .i64 a0_0, .slice A0_1 l0_1.length c0_1, .slice A0_2 l0_2.length c0_2] 25 (0, 0)) (by (with_reducible repeat (first | refine kdN ?_ _ | refine kdr ?_ | refine kal ?_ _)); exact BK597.out) hb); have n1_ := Aside0.mk (bsp (by repeat (first | (with_reducible first | exact HB.out | apply bal | apply bdN | apply bd1 | refine bst ?_ GE597.out) | exact HB.out)) hb); clear BK597; clear HB; have BK597 := n0_; have HB := n1_; clear n0_ n1_; (try clear hb); (try clear hb2); (try clear hk); (try clear hi); obtain ⟨hcz24_0, hcz24_1, hcz24_2, hfz24_0, hfz24_1, hfz24_2⟩ := cf3 BK597.out) | ((with_reducible refine gate_callee (f := 40) rfl ?_); refine goesL_ (some 18) rfl rfl Try.func40 (by kernel_rfl) rfl #[.agg #[.int .i64 a0_0, .slice A0_1 l0_1.length c0_1, .slice A0_2 l0_2.length c0_2]] rfl (by (try simp only [List.map_toArray, List.map_cons, List.map_nil]); first | done | rfl | (simp only [List.length_drop, List.length_take]; rfl)) ?_; (with_reducible refine (prog_Single.calls k a0_0 _ _ l0_1 _ _ l0_2 t601 t602 _ ?side1 ?side2 ?side3 ?side4 A5.out).mono ?_); (case side1 => repeat (first | exact (Kd.C_below HR0_1.out HB.out) | with_reducible first | apply Kd.C_alloc | apply Kd.C_drewN | apply Kd.C_drew)); (case side2 => exact HC0_1.out); (case side3 => repeat (first | exact (Kd.C_below HR0_2.out HB.out) | with_reducible first | apply Kd.C_alloc | apply Kd.C_drewN | apply Kd.C_drew)); (case side4 => exact HC0_2.out); rintro e w25 ⟨rfl, hb⟩; refine ⟨_, rfl, ?_⟩; have n0_ := Aside0.mk (blk_below (g := gb597) (o := .cells #[.int .i64 a0_0, .slice A0_1 l0_1.length c0_1, .slice A0_2 l0_2.length c0_2] 25 (0, 0)) (by (with_reducible repeat (first | refine kdN ?_ _ | refine kdr ?_ | refine kal ?_ _)); exact BK597.out) hb); have n1_ := Aside0.mk (bsp (by repeat (first | (with_reducible first | exact HB.out | apply bal | apply bdN | apply bd1 | refine bst ?_ GE597.out) | exact HB.out)) hb); clear BK597; clear HB; have BK597 := n0_; have HB := n1_; clear n0_ n1_; (try clear hb); (try clear hb2); (try clear hk); (try clear hi); obtain ⟨hcz26_0, hcz26_1, hcz26_2, hfz26_0, hfz26_1, hfz26_2⟩ := cf3 BK597.out) | ((with_reducible refine gate_callee (f := 33) rfl ?_); refine goesL_ (some 23) rfl rfl Try.func33 (by kernel_rfl) rfl #[.agg #[.int .i64 a0_0, .slice A0_1 l0_1.length c0_1, .slice A0_2 l0_2.length c0_2]] rfl (by (try simp only [List.map_toArray, List.map_cons, List.map_nil]); first | done | rfl | (simp only [List.length_drop, List.length_take]; rfl)) ?_; (with_reducible refine (prog_Count.calls k a0_0 _ _ l0_1 _ _ l0_2 t603 t604 t605 _ ?side1 ?side2 ?side3 ?side4 A6.out).mono ?_); (case side1 => repeat (first | exact (Kd.C_below HR0_1.out HB.out) | with_reducible first | apply Kd.C_alloc | apply Kd.C_drewN | apply Kd.C_drew)); (case side2 => exact HC0_1.out); (case side3 => repeat (first | exact (Kd.C_below HR0_2.out HB.out) | with_reducible first | apply Kd.C_alloc | apply Kd.C_drewN | apply Kd.C_drew)); (case side4 => exact HC0_2.out); rintro e w27 ⟨rfl, hb⟩; refine ⟨_, rfl, ?_⟩; have n0_ := Aside0.mk (blk_below (g := gb597) (o := .cells #[.int .i64 a0_0, .slice A0_1 l0_1.length c0_1, .slice A0_2 l0_2.length c0_2] 25 (0, 0)) (by (with_reducible repeat (first | refine kdN ?_ _ | refine kdr ?_ | refine kal ?_ _)); exact BK597.out) hb); have n1_ := Aside0.mk (bsp (by repeat (first | (with_reducible first | exact HB.out | apply bal | apply bdN | apply bd1 | refine bst ?_ GE597.out) | exact HB.out)) hb); clear BK597; clear HB; have BK597 := n0_; have HB := n1_; clear n0_ n1_; (try clear hb); (try clear hb2); (try clear hk); (try clear hi); obtain ⟨hcz28_0, hcz28_1, hcz28_2, hfz28_0, hfz28_1, hfz28_2⟩ := cf3 BK597.out) | ((with_reducible refine gate_callee (f := 16) rfl ?_); refine goesL_ (some 28) rfl rfl Try.func16 (by kernel_rfl) rfl #[.agg #[.int .i64 a0_0, .slice A0_1 l0_1.length c0_1, .slice A0_2 l0_2.length c0_2]] rfl (by (try simp only [List.map_toArray, List.map_cons, List.map_nil]); first | done | rfl | (simp only [List.length_drop, List.length_take]; rfl)) ?_; (with_reducible refine (r3_Is.calls k a0_0 _ _ l0_1 _ _ l0_2 true _ ?side1 ?side2 ?side3 ?side4 A7.out).mono ?_); (case side1 => repeat (first | exact (Kd.C_below HR0_1.out HB.out) | with_reducible first | apply Kd.C_alloc | apply Kd.C_drewN | apply Kd.C_drew)); (case side2 => exact HC0_1.out); (case side3 => repeat (first | exact (Kd.C_below HR0_2.out HB.out) | with_reducible first | apply Kd.C_alloc | apply Kd.C_drewN | apply Kd.C_drew)); (case side4 => exact HC0_2.out); rintro e w29 ⟨rfl, hb⟩; refine ⟨_, rfl, ?_⟩; have n0_ := Aside0.mk (blk_below (g := gb597) (o := .cells #[.int .i64 a0_0, .slice A0_1 l0_1.length c0_1, .slice A0_2 l0_2.length c0_2] 25 (0, 0)) (by (with_reducible repeat (first | refine kdN ?_ _ | refine kdr ?_ | refine kal ?_ _)); exact BK597.out) hb); have n1_ := Aside0.mk (bsp (by repeat (first | (with_reducible first | exact HB.out | apply bal | apply bdN | apply bd1 | refine bst ?_ GE597.out) | exact HB.out)) hb); clear BK597; clear HB; have BK597 := n0_; have HB := n1_; clear n0_ n1_; (try clear hb); (try clear hb2); (try clear hk); (try clear hi); obtain ⟨hcz30_0, hcz30_1, hcz30_2, hfz30_0, hfz30_1, hfz30_2⟩ := cf3 BK597.out) | (go_at_call 41; (with_reducible refine (r3_Single.calls k a0_0 _ _ l0_1 _ _ l0_2 t608 _ ?side1 ?side2 ?side3 ?side4 A12.out).mono ?_); (case side1 => repeat (first | exact (Kd.C_below HR0_1.out HB.out) | with_reducible first | apply Kd.C_alloc | apply Kd.C_drewN | apply Kd.C_drew)); (case side2 => exact HC0_1.out); (case side3 => repeat (first | exact (Kd.C_below HR0_2.out HB.out) | with_reducible first | apply Kd.C_alloc | apply Kd.C_drewN | apply Kd.C_drew)); (case side4 => exact HC0_2.out); rintro e w31 ⟨rfl, hb⟩; have n0_ := Aside0.mk (blk_below (g := gb597) (o := .cells #[.int .i64 a0_0, .slice A0_1 l0_1.length c0_1, .slice A0_2 l0_2.length c0_2] 25 (0, 0)) (by (with_reducible repeat (first | refine kdN ?_ _ | refine kdr ?_ | refine kal ?_ _)); exact BK597.out) hb); have n1_ := Aside0.mk (bsp (by repeat (first | (with_reducible first | exact HB.out | apply bal | apply bdN | apply bd1 | refine bst ?_ GE597.out) | exact HB.out)) hb); clear BK597; clear HB; have BK597 := n0_; have HB := n1_; clear n0_ n1_; (try clear hb); (try clear hb2); (try clear hk); (try clear hi); obtain ⟨hcz32_0, hcz32_1, hcz32_2, hfz32_0, hfz32_1, hfz32_2⟩ := cf3 BK597.out) | (go_at_call 35; (with_reducible refine (r3_Count.calls k _ _ l0_2 t609 _ ?side1 ?side2 A14.out).mono ?_); (case side1 => repeat (first | exact (Kd.C_below HR0_2.out HB.out) | with_reducible first | apply Kd.C_alloc | apply Kd.C_drewN | apply Kd.C_drew)); (case side2 => exact HC0_2.out); rintro e w33 ⟨rfl, hb⟩; have n0_ := Aside0.mk (blk_below (g := gb597) (o := .cells #[.int .i64 a0_0, .slice A0_1 l0_1.length c0_1, .slice A0_2 l0_2.length c0_2] 25 (0, 0)) (by (with_reducible repeat (first | refine kdN ?_ _ | refine kdr ?_ | refine kal ?_ _)); exact BK597.out) hb); have n1_ := Aside0.mk (bsp (by repeat (first | (with_reducible first | exact HB.out | apply bal | apply bdN | apply bd1 | refine bst ?_ GE597.out) | exact HB.out)) hb); clear BK597; clear HB; have BK597 := n0_; have HB := n1_; clear n0_ n1_; (try clear hb); (try clear hb2); (try clear hk); (try clear hi); obtain ⟨hcz34_0, hcz34_1, hcz34_2, hfz34_0, hfz34_1, hfz34_2⟩ := cf3 BK597.out) | (go_at_call 42; (with_reducible refine (r3_Nodes.calls k _ _ l0_2 t610 _ ?side1 ?side2 A16.out).mono ?_); (case side1 => repeat (first | exact (Kd.C_below HR0_2.out HB.out) | with_reducible first | apply Kd.C_alloc | apply Kd.C_drewN | apply Kd.C_drew)); (case side2 => exact HC0_2.out); rintro e w35 ⟨rfl, hb⟩; have n0_ := Aside0.mk (blk_below (g := gb597) (o := .cells #[.int .i64 a0_0, .slice A0_1 l0_1.length c0_1, .slice A0_2 l0_2.length c0_2] 25 (0, 0)) (by (with_reducible repeat (first | refine kdN ?_ _ | refine kdr ?_ | refine kal ?_ _)); exact BK597.out) hb); have n1_ := Aside0.mk (bsp (by repeat (first | (with_reducible first | exact HB.out | apply bal | apply bdN | apply bd1 | refine bst ?_ GE597.out) | exact HB.out)) hb); clear BK597; clear HB; have BK597 := n0_; have HB := n1_; clear n0_ n1_; (try clear hb); (try clear hb2); (try clear hk); (try clear hi)) | (go_at_call 12; (with_reducible refine (w3_awake.calls k  t611 _ A18.out).mono ?_); rintro e w36 ⟨rfl, hb⟩; have n0_ := Aside0.mk (blk_below (g := gb597) (o := .cells #[.int .i64 a0_0, .slice A0_1 l0_1.length c0_1, .slice A0_2 l0_2.length c0_2] 25 (0, 0)) (by (with_reducible repeat (first | refine kdN ?_ _ | refine kdr ?_ | refine kal ?_ _)); exact BK597.out) hb); have n1_ := Aside0.mk (bsp (by repeat (first | (with_reducible first | exact HB.out | apply bal | apply bdN | apply bd1 | refine bst ?_ GE597.out) | exact HB.out)) hb); clear BK597; clear HB; have BK597 := n0_; have HB := n1_; clear n0_ n1_; (try clear hb); (try clear hb2); (try clear hk); (try clear hi)))
         go_ret
         exact ⟨by first | rfl | (simp [*] <;> rfl), by repeat (first | (with_reducible first | exact HB.out | apply bal | apply bdN | apply bd1 | refine bst ?_ GE597.out) | exact HB.out)⟩
        ·rw [if_neg c17] at H
         have c17b0 : (t604 == t610) = false := beq_eq_false_iff_ne.mpr c17
         have c17b1 : (t604 != t610) = true := bne_iff_ne.mpr c17
         exact absurd ((Option.some.inj H).trans hrt) (by decide)
       ·rw [if_neg c15] at H
        have c15b0 : (t603 == t609) = false := beq_eq_false_iff_ne.mpr c15
        have c15b1 : (t603 != t609) = true := bne_iff_ne.mpr c15
        exact absurd ((Option.some.inj H).trans hrt) (by decide)
      ·rw [if_neg c13] at H
       have c13b0 : (t601 == t608) = false := by simpa using c13
       (try (have c13b1 : decide (t601 = t608) = false := by simpa using c13))
       (try (have c13b2 : (t601 == t608) = false := by simpa using c13))
       (try (have c13b3 : ¬ (t601 = t608) := by simpa using c13))
       clear c13
       exact absurd ((Option.some.inj H).trans hrt) (by decide)
     ·rw [if_neg c11] at H
      have c11b0 : (t605 == 0) = false := beq_eq_false_iff_ne.mpr c11
      have c11b1 : (t605 != 0) = true := bne_iff_ne.mpr c11
      exact absurd ((Option.some.inj H).trans hrt) (by decide)
    ·rw [if_neg c10] at H
     have c10b0 : (t602 == 0) = false := beq_eq_false_iff_ne.mpr c10
     have c10b1 : (t602 != 0) = true := bne_iff_ne.mpr c10
     exact absurd ((Option.some.inj H).trans hrt) (by decide)
   ·rw [if_neg c9] at H
    have c9b0 : (t600 == 0) = false := beq_eq_false_iff_ne.mpr c9
    have c9b1 : (t600 != 0) = true := bne_iff_ne.mpr c9
    exact absurd ((Option.some.inj H).trans hrt) (by decide)
  ·replace c8 := Bool.eq_false_iff.mpr c8
   subst c8
   have H1 : (if t600 = 30 then (if t602 = 30 then (if t605 = 30 then (if t601 = true then (some false) else (if t603 = 0 then (if t604 = 0 then ((w3_awake.f k).bind fun t607 => (some t607)) else (some false)) else (some false))) else (some false)) else (some false)) else (some false)) = some r := by rw [if_neg (show ¬ (false = true) by decide)] at H; exact H
   clear H
   have H := H1
   clear H1
   by_cases c115 : t600 = 30
   ·rw [if_pos c115] at H
    have c115b0 : (t600 == 30) = true := beq_iff_eq.mpr c115
    have c115b1 : (t600 != 30) = false := bne_eq_false_iff_eq.mpr c115
    clear c115
    by_cases c116 : t602 = 30
    ·rw [if_pos c116] at H
     have c116b0 : (t602 == 30) = true := beq_iff_eq.mpr c116
     have c116b1 : (t602 != 30) = false := bne_eq_false_iff_eq.mpr c116
     clear c116
     by_cases c117 : t605 = 30
     ·rw [if_pos c117] at H
      have c117b0 : (t605 == 30) = true := beq_iff_eq.mpr c117
      have c117b1 : (t605 != 30) = false := bne_eq_false_iff_eq.mpr c117
      clear c117
      by_cases c118 : t601 = true
      ·subst c118
       have H1 : (some false) = some r := by rw [if_pos rfl] at H; exact H
       clear H
       have H := H1
       clear H1
       exact absurd ((Option.some.inj H).trans hrt) (by decide)
      ·replace c118 := Bool.eq_false_iff.mpr c118
       subst c118
       have H1 : (if t603 = 0 then (if t604 = 0 then ((w3_awake.f k).bind fun t607 => (some t607)) else (some false)) else (some false)) = some r := by rw [if_neg (show ¬ (false = true) by decide)] at H; exact H
       clear H
       have H := H1
       clear H1
       by_cases c130 : t603 = 0
       ·rw [if_pos c130] at H
        have c130b0 : (t603 == 0) = true := beq_iff_eq.mpr c130
        have c130b1 : (t603 != 0) = false := bne_eq_false_iff_eq.mpr c130
        clear c130
        by_cases c131 : t604 = 0
        ·rw [if_pos c131] at H
         have c131b0 : (t604 == 0) = true := beq_iff_eq.mpr c131
         have c131b1 : (t604 != 0) = false := bne_eq_false_iff_eq.mpr c131
         clear c131
         replace H := Option.bind_eq_some_iff.mp H
         obtain ⟨t607, A1320, H⟩ := H
         replace H : (some t607) = some r := H
         have A132 := Aside0.mk A1320
         clear A1320
         obtain rfl := Option.some.inj H
         go_enter Try.func10, Try.ntmps10
         go_wp2_with (first | ((with_reducible refine gate_dst (N := 1) rfl ?_); refine box_event ?hg (N := 1) ?hd (cs := #[.int .i64 a0_0, .slice A0_1 l0_1.length c0_1, .slice A0_2 l0_2.length c0_2]) (t := 25) ?hr ?_; (case hd => rfl); (case hg => rfl); (case hr => first | (go_simp; done) | (go_simp; rfl)); intro gb597 hg w133 hbox hb; have n0_ := Aside0.mk (bsp (by repeat (first | (with_reducible first | exact HB.out | apply bal | apply bdN | apply bd1) | exact HB.out)) hb); have n1_ := Aside0.mk (hbox); have n2_ := Aside0.mk ((by rw [hg]; exact (bsz (by repeat (first | (with_reducible first | exact HB.out | apply bal | apply bdN | apply bd1) | exact HB.out))) : w.heap.size ≤ gb597)); have n3_ := Aside0.mk ((by rw [hg]; exact (bsz (by repeat (first | (with_reducible first | exact HB.out | apply bal | apply bdN | apply bd1) | exact HB.out))) : w.heap.size ≤ gb597)); clear HB; have HB := n0_; have BK597 := n1_; have GW597 := n2_; have GE597 := n3_; clear n0_ n1_ n2_ n3_; clear hb hbox hg; obtain ⟨hcz134_0, hcz134_1, hcz134_2, hfz134_0, hfz134_1, hfz134_2⟩ := cf3 BK597.out) | ((with_reducible refine gate_callee (f := 11) rfl ?_); refine goesL_ (some 11) rfl rfl Try.func11 (by kernel_rfl) rfl #[.slice A0_2 l0_2.length c0_2, .int .i64 600] rfl (by (try simp only [List.map_toArray, List.map_cons, List.map_nil]); first | done | rfl | (simp only [List.length_drop, List.length_take]; rfl)) ?_; (with_reducible refine (r3_Fits.calls k _ _ l0_2 600 true _ ?side1 ?side2 A2.out).mono ?_); (case side1 => repeat (first | exact (Kd.C_below HR0_2.out HB.out) | with_reducible first | apply Kd.C_alloc | apply Kd.C_drewN | apply Kd.C_drew)); (case side2 => exact HC0_2.out); rintro e w135 ⟨rfl, hb⟩; refine ⟨_, rfl, ?_⟩; have n0_ := Aside0.mk (blk_below (g := gb597) (o := .cells #[.int .i64 a0_0, .slice A0_1 l0_1.length c0_1, .slice A0_2 l0_2.length c0_2] 25 (0, 0)) (by (with_reducible repeat (first | refine kdN ?_ _ | refine kdr ?_ | refine kal ?_ _)); exact BK597.out) hb); have n1_ := Aside0.mk (bsp (by repeat (first | (with_reducible first | exact HB.out | apply bal | apply bdN | apply bd1 | refine bst ?_ GE597.out) | exact HB.out)) hb); clear BK597; clear HB; have BK597 := n0_; have HB := n1_; clear n0_ n1_; (try clear hb); (try clear hb2); (try clear hk); (try clear hi); obtain ⟨hcz136_0, hcz136_1, hcz136_2, hfz136_0, hfz136_1, hfz136_2⟩ := cf3 BK597.out) | ((with_reducible refine gate_callee (f := 39) rfl ?_); refine goesL_ (some 15) rfl rfl Try.func39 (by kernel_rfl) rfl #[.agg #[.int .i64 a0_0, .slice A0_1 l0_1.length c0_1, .slice A0_2 l0_2.length c0_2]] rfl (by (try simp only [List.map_toArray, List.map_cons, List.map_nil]); first | done | rfl | (simp only [List.length_drop, List.length_take]; rfl)) ?_; (with_reducible refine (prog_Check.calls k a0_0 _ _ l0_1 _ _ l0_2 t600 _ ?side1 ?side2 ?side3 ?side4 A4.out).mono ?_); (case side1 => repeat (first | exact (Kd.C_below HR0_1.out HB.out) | with_reducible first | apply Kd.C_alloc | apply Kd.C_drewN | apply Kd.C_drew)); (case side2 => exact HC0_1.out); (case side3 => repeat (first | exact (Kd.C_below HR0_2.out HB.out) | with_reducible first | apply Kd.C_alloc | apply Kd.C_drewN | apply Kd.C_drew)); (case side4 => exact HC0_2.out); rintro e w137 ⟨rfl, hb⟩; refine ⟨_, rfl, ?_⟩; have n0_ := Aside0.mk (blk_below (g := gb597) (o := .cells #[.int .i64 a0_0, .slice A0_1 l0_1.length c0_1, .slice A0_2 l0_2.length c0_2] 25 (0, 0)) (by (with_reducible repeat (first | refine kdN ?_ _ | refine kdr ?_ | refine kal ?_ _)); exact BK597.out) hb); have n1_ := Aside0.mk (bsp (by repeat (first | (with_reducible first | exact HB.out | apply bal | apply bdN | apply bd1 | refine bst ?_ GE597.out) | exact HB.out)) hb); clear BK597; clear HB; have BK597 := n0_; have HB := n1_; clear n0_ n1_; (try clear hb); (try clear hb2); (try clear hk); (try clear hi); obtain ⟨hcz138_0, hcz138_1, hcz138_2, hfz138_0, hfz138_1, hfz138_2⟩ := cf3 BK597.out) | ((with_reducible refine gate_callee (f := 40) rfl ?_); refine goesL_ (some 18) rfl rfl Try.func40 (by kernel_rfl) rfl #[.agg #[.int .i64 a0_0, .slice A0_1 l0_1.length c0_1, .slice A0_2 l0_2.length c0_2]] rfl (by (try simp only [List.map_toArray, List.map_cons, List.map_nil]); first | done | rfl | (simp only [List.length_drop, List.length_take]; rfl)) ?_; (with_reducible refine (prog_Single.calls k a0_0 _ _ l0_1 _ _ l0_2 false t602 _ ?side1 ?side2 ?side3 ?side4 A5.out).mono ?_); (case side1 => repeat (first | exact (Kd.C_below HR0_1.out HB.out) | with_reducible first | apply Kd.C_alloc | apply Kd.C_drewN | apply Kd.C_drew)); (case side2 => exact HC0_1.out); (case side3 => repeat (first | exact (Kd.C_below HR0_2.out HB.out) | with_reducible first | apply Kd.C_alloc | apply Kd.C_drewN | apply Kd.C_drew)); (case side4 => exact HC0_2.out); rintro e w139 ⟨rfl, hb⟩; refine ⟨_, rfl, ?_⟩; have n0_ := Aside0.mk (blk_below (g := gb597) (o := .cells #[.int .i64 a0_0, .slice A0_1 l0_1.length c0_1, .slice A0_2 l0_2.length c0_2] 25 (0, 0)) (by (with_reducible repeat (first | refine kdN ?_ _ | refine kdr ?_ | refine kal ?_ _)); exact BK597.out) hb); have n1_ := Aside0.mk (bsp (by repeat (first | (with_reducible first | exact HB.out | apply bal | apply bdN | apply bd1 | refine bst ?_ GE597.out) | exact HB.out)) hb); clear BK597; clear HB; have BK597 := n0_; have HB := n1_; clear n0_ n1_; (try clear hb); (try clear hb2); (try clear hk); (try clear hi); obtain ⟨hcz140_0, hcz140_1, hcz140_2, hfz140_0, hfz140_1, hfz140_2⟩ := cf3 BK597.out) | ((with_reducible refine gate_callee (f := 33) rfl ?_); refine goesL_ (some 23) rfl rfl Try.func33 (by kernel_rfl) rfl #[.agg #[.int .i64 a0_0, .slice A0_1 l0_1.length c0_1, .slice A0_2 l0_2.length c0_2]] rfl (by (try simp only [List.map_toArray, List.map_cons, List.map_nil]); first | done | rfl | (simp only [List.length_drop, List.length_take]; rfl)) ?_; (with_reducible refine (prog_Count.calls k a0_0 _ _ l0_1 _ _ l0_2 t603 t604 t605 _ ?side1 ?side2 ?side3 ?side4 A6.out).mono ?_); (case side1 => repeat (first | exact (Kd.C_below HR0_1.out HB.out) | with_reducible first | apply Kd.C_alloc | apply Kd.C_drewN | apply Kd.C_drew)); (case side2 => exact HC0_1.out); (case side3 => repeat (first | exact (Kd.C_below HR0_2.out HB.out) | with_reducible first | apply Kd.C_alloc | apply Kd.C_drewN | apply Kd.C_drew)); (case side4 => exact HC0_2.out); rintro e w141 ⟨rfl, hb⟩; refine ⟨_, rfl, ?_⟩; have n0_ := Aside0.mk (blk_below (g := gb597) (o := .cells #[.int .i64 a0_0, .slice A0_1 l0_1.length c0_1, .slice A0_2 l0_2.length c0_2] 25 (0, 0)) (by (with_reducible repeat (first | refine kdN ?_ _ | refine kdr ?_ | refine kal ?_ _)); exact BK597.out) hb); have n1_ := Aside0.mk (bsp (by repeat (first | (with_reducible first | exact HB.out | apply bal | apply bdN | apply bd1 | refine bst ?_ GE597.out) | exact HB.out)) hb); clear BK597; clear HB; have BK597 := n0_; have HB := n1_; clear n0_ n1_; (try clear hb); (try clear hb2); (try clear hk); (try clear hi); obtain ⟨hcz142_0, hcz142_1, hcz142_2, hfz142_0, hfz142_1, hfz142_2⟩ := cf3 BK597.out) | ((with_reducible refine gate_callee (f := 16) rfl ?_); refine goesL_ (some 28) rfl rfl Try.func16 (by kernel_rfl) rfl #[.agg #[.int .i64 a0_0, .slice A0_1 l0_1.length c0_1, .slice A0_2 l0_2.length c0_2]] rfl (by (try simp only [List.map_toArray, List.map_cons, List.map_nil]); first | done | rfl | (simp only [List.length_drop, List.length_take]; rfl)) ?_; (with_reducible refine (r3_Is.calls k a0_0 _ _ l0_1 _ _ l0_2 false _ ?side1 ?side2 ?side3 ?side4 A7.out).mono ?_); (case side1 => repeat (first | exact (Kd.C_below HR0_1.out HB.out) | with_reducible first | apply Kd.C_alloc | apply Kd.C_drewN | apply Kd.C_drew)); (case side2 => exact HC0_1.out); (case side3 => repeat (first | exact (Kd.C_below HR0_2.out HB.out) | with_reducible first | apply Kd.C_alloc | apply Kd.C_drewN | apply Kd.C_drew)); (case side4 => exact HC0_2.out); rintro e w143 ⟨rfl, hb⟩; refine ⟨_, rfl, ?_⟩; have n0_ := Aside0.mk (blk_below (g := gb597) (o := .cells #[.int .i64 a0_0, .slice A0_1 l0_1.length c0_1, .slice A0_2 l0_2.length c0_2] 25 (0, 0)) (by (with_reducible repeat (first | refine kdN ?_ _ | refine kdr ?_ | refine kal ?_ _)); exact BK597.out) hb); have n1_ := Aside0.mk (bsp (by repeat (first | (with_reducible first | exact HB.out | apply bal | apply bdN | apply bd1 | refine bst ?_ GE597.out) | exact HB.out)) hb); clear BK597; clear HB; have BK597 := n0_; have HB := n1_; clear n0_ n1_; (try clear hb); (try clear hb2); (try clear hk); (try clear hi)) | (go_at_call 12; (with_reducible refine (w3_awake.calls k  t607 _ A132.out).mono ?_); rintro e w144 ⟨rfl, hb⟩; have n0_ := Aside0.mk (blk_below (g := gb597) (o := .cells #[.int .i64 a0_0, .slice A0_1 l0_1.length c0_1, .slice A0_2 l0_2.length c0_2] 25 (0, 0)) (by (with_reducible repeat (first | refine kdN ?_ _ | refine kdr ?_ | refine kal ?_ _)); exact BK597.out) hb); have n1_ := Aside0.mk (bsp (by repeat (first | (with_reducible first | exact HB.out | apply bal | apply bdN | apply bd1 | refine bst ?_ GE597.out) | exact HB.out)) hb); clear BK597; clear HB; have BK597 := n0_; have HB := n1_; clear n0_ n1_; (try clear hb); (try clear hb2); (try clear hk); (try clear hi)))
         go_ret
         exact ⟨by first | rfl | (simp [*] <;> rfl), by repeat (first | (with_reducible first | exact HB.out | apply bal | apply bdN | apply bd1 | refine bst ?_ GE597.out) | exact HB.out)⟩
        ·rw [if_neg c131] at H
         have c131b0 : (t604 == 0) = false := beq_eq_false_iff_ne.mpr c131
         have c131b1 : (t604 != 0) = true := bne_iff_ne.mpr c131
         exact absurd ((Option.some.inj H).trans hrt) (by decide)
       ·rw [if_neg c130] at H
        have c130b0 : (t603 == 0) = false := beq_eq_false_iff_ne.mpr c130
        have c130b1 : (t603 != 0) = true := bne_iff_ne.mpr c130
        exact absurd ((Option.some.inj H).trans hrt) (by decide)
     ·rw [if_neg c117] at H
      have c117b0 : (t605 == 30) = false := beq_eq_false_iff_ne.mpr c117
      have c117b1 : (t605 != 30) = true := bne_iff_ne.mpr c117
      exact absurd ((Option.some.inj H).trans hrt) (by decide)
    ·rw [if_neg c116] at H
     have c116b0 : (t602 == 30) = false := beq_eq_false_iff_ne.mpr c116
     have c116b1 : (t602 != 30) = true := bne_iff_ne.mpr c116
     exact absurd ((Option.some.inj H).trans hrt) (by decide)
   ·rw [if_neg c115] at H
    have c115b0 : (t600 == 30) = false := beq_eq_false_iff_ne.mpr c115
    have c115b1 : (t600 != 30) = true := bne_iff_ne.mpr c115
    exact absurd ((Option.some.inj H).trans hrt) (by decide)
 ·replace c3 := Bool.eq_false_iff.mpr c3
  subst c3
  have H1 : ((w3_awake.f k).bind fun t599 => (some t599)) = some r := by rw [if_neg (show ¬ (false = true) by decide)] at H; exact H
  clear H
  have H := H1
  clear H1
  replace H := Option.bind_eq_some_iff.mp H
  obtain ⟨t599, A2000, H⟩ := H
  replace H : (some t599) = some r := H
  have A200 := Aside0.mk A2000
  clear A2000
  obtain rfl := Option.some.inj H
  go_enter Try.func10, Try.ntmps10
  go_wp2_with (first | ((with_reducible refine gate_dst (N := 1) rfl ?_); refine box_event ?hg (N := 1) ?hd (cs := #[.int .i64 a0_0, .slice A0_1 l0_1.length c0_1, .slice A0_2 l0_2.length c0_2]) (t := 25) ?hr ?_; (case hd => rfl); (case hg => rfl); (case hr => first | (go_simp; done) | (go_simp; rfl)); intro gb597 hg w201 hbox hb; have n0_ := Aside0.mk (bsp (by repeat (first | (with_reducible first | exact HB.out | apply bal | apply bdN | apply bd1) | exact HB.out)) hb); have n1_ := Aside0.mk (hbox); have n2_ := Aside0.mk ((by rw [hg]; exact (bsz (by repeat (first | (with_reducible first | exact HB.out | apply bal | apply bdN | apply bd1) | exact HB.out))) : w.heap.size ≤ gb597)); have n3_ := Aside0.mk ((by rw [hg]; exact (bsz (by repeat (first | (with_reducible first | exact HB.out | apply bal | apply bdN | apply bd1) | exact HB.out))) : w.heap.size ≤ gb597)); clear HB; have HB := n0_; have BK597 := n1_; have GW597 := n2_; have GE597 := n3_; clear n0_ n1_ n2_ n3_; clear hb hbox hg; obtain ⟨hcz202_0, hcz202_1, hcz202_2, hfz202_0, hfz202_1, hfz202_2⟩ := cf3 BK597.out) | ((with_reducible refine gate_callee (f := 11) rfl ?_); refine goesL_ (some 11) rfl rfl Try.func11 (by kernel_rfl) rfl #[.slice A0_2 l0_2.length c0_2, .int .i64 600] rfl (by (try simp only [List.map_toArray, List.map_cons, List.map_nil]); first | done | rfl | (simp only [List.length_drop, List.length_take]; rfl)) ?_; (with_reducible refine (r3_Fits.calls k _ _ l0_2 600 false _ ?side1 ?side2 A2.out).mono ?_); (case side1 => repeat (first | exact (Kd.C_below HR0_2.out HB.out) | with_reducible first | apply Kd.C_alloc | apply Kd.C_drewN | apply Kd.C_drew)); (case side2 => exact HC0_2.out); rintro e w203 ⟨rfl, hb⟩; refine ⟨_, rfl, ?_⟩; have n0_ := Aside0.mk (blk_below (g := gb597) (o := .cells #[.int .i64 a0_0, .slice A0_1 l0_1.length c0_1, .slice A0_2 l0_2.length c0_2] 25 (0, 0)) (by (with_reducible repeat (first | refine kdN ?_ _ | refine kdr ?_ | refine kal ?_ _)); exact BK597.out) hb); have n1_ := Aside0.mk (bsp (by repeat (first | (with_reducible first | exact HB.out | apply bal | apply bdN | apply bd1 | refine bst ?_ GE597.out) | exact HB.out)) hb); clear BK597; clear HB; have BK597 := n0_; have HB := n1_; clear n0_ n1_; (try clear hb); (try clear hb2); (try clear hk); (try clear hi)) | ((with_reducible refine gate_callee (f := 12) rfl ?_); refine goesL_ (some 13) rfl rfl Try.func12 (by kernel_rfl) rfl #[] rfl (by (try simp only [List.map_toArray, List.map_cons, List.map_nil]); first | done | rfl | (simp only [List.length_drop, List.length_take]; rfl)) ?_; (with_reducible refine (w3_awake.calls k  t599 _ A200.out).mono ?_); rintro e w204 ⟨rfl, hb⟩; refine ⟨_, rfl, ?_⟩; have n0_ := Aside0.mk (blk_below (g := gb597) (o := .cells #[.int .i64 a0_0, .slice A0_1 l0_1.length c0_1, .slice A0_2 l0_2.length c0_2] 25 (0, 0)) (by (with_reducible repeat (first | refine kdN ?_ _ | refine kdr ?_ | refine kal ?_ _)); exact BK597.out) hb); have n1_ := Aside0.mk (bsp (by repeat (first | (with_reducible first | exact HB.out | apply bal | apply bdN | apply bd1 | refine bst ?_ GE597.out) | exact HB.out)) hb); clear BK597; clear HB; have BK597 := n0_; have HB := n1_; clear n0_ n1_; (try clear hb); (try clear hb2); (try clear hk); (try clear hi)))
  go_ret
  exact ⟨by first | rfl | (simp [*] <;> rfl), by repeat (first | (with_reducible first | exact HB.out | apply bal | apply bdN | apply bd1 | refine bst ?_ GE597.out) | exact HB.out)⟩
theorem rcount_tells : (∀ x, goodS x → sN x ≤ 1000000 → Tells (fun k => r3_Count.f k x.f3) (sCs x.f3 : Int) ∧ Tells (fun k => r3_Count.f k x.f4) (sCs x.f4 : Int)) ∧
    (∀ suf, ∀ (pre : List S47) (n : Nat), goodSs suf → (pre ++ suf).length ≤ 9223372036854775807 → n + sNs suf ≤ 1000000 → Tells (fun k => r3_Count.l0 k (pre ++ suf) (n : Int) (pre.length : Int)) ((n + sCs suf : Nat) : Int)) := by
  refine S_ind (fun a b l t e h1 h2 => ?_) ?_ (fun x r ih1 ih2 => ?_)
  · intro hg hn
    rw [goodS_mk] at hg
    rw [sN_eq] at hn
    simp only at hn
    constructor
    · refine Tells.succ ?_
      simp only [r3_Count.f]
      have := h1 [] 0 hg.2.1.2 hg.2.1.1 (by omega)
      rw [Nat.zero_add] at this
      exact this
    · refine Tells.succ ?_
      simp only [r3_Count.f]
      have := h2 [] 0 hg.2.2.2 hg.2.2.1 (by omega)
      rw [Nat.zero_add] at this
      exact this
  · intro pre n _ _ _
    refine Tells.succ ?_
    simp only [r3_Count.l0, pre_nlt, if_false]
    rw [sCs_nil, Nat.add_zero]
    exact Tells.pure _
  · intro pre n hg hl hn
    rw [goodSs_cons] at hg
    rw [sNs_cons] at hn
    have hle := (s_le.1 x).1
    rw [sC_eq] at hle
    refine Tells.succ ?_
    simp only [r3_Count.l0, pre_lt, pre_pos, if_true, rdS_mid]
    obtain ⟨t1, t2⟩ := ih1 hg.1 (by omega)
    refine Tells.bind t1 (Tells.bind t2 ?_)
    have t3 := ih2 (pre ++ [x]) (n + (1 + sCs x.f3 + sCs x.f4)) hg.2 (by rw [← pre_app]; exact hl) (by omega)
    rw [← pre_app] at t3
    rw [pre_next pre x r hl, w64 (n := (n : Int) + 1) (by omega) (by omega), w64 (n := (n : Int) + 1 + (sCs x.f3 : Int)) (by omega) (by omega), w64 (n := (n : Int) + 1 + (sCs x.f3 : Int) + (sCs x.f4 : Int)) (by omega) (by omega),
      show (n : Int) + 1 + (sCs x.f3 : Int) + (sCs x.f4 : Int) = ((n + (1 + sCs x.f3 + sCs x.f4) : Nat) : Int) by omega]
    rw [sCs_cons, sC_eq, show n + (1 + sCs x.f3 + sCs x.f4 + sCs r) = n + (1 + sCs x.f3 + sCs x.f4) + sCs r by omega]
    exact t3
theorem Count_tells (l : List S47) (hl : l.length ≤ 9223372036854775807) (hg : goodSs l) (hn : sNs l ≤ 1000000) : Tells (fun k => r3_Count.f k l) (sCs l : Int) := by
  refine Tells.succ ?_
  simp only [r3_Count.f]
  have := rcount_tells.2 l [] 0 hg hl (by omega)
  rw [Nat.zero_add] at this
  exact this
theorem rnodes_tells : (∀ x, goodS x → sN x ≤ 1000000 → Tells (fun k => r3_Nodes.f k x.f3) (sNs x.f3 : Int) ∧ Tells (fun k => r3_Nodes.f k x.f4) (sNs x.f4 : Int)) ∧
    (∀ suf, ∀ (pre : List S47) (n : Nat), goodSs suf → (pre ++ suf).length ≤ 9223372036854775807 → n + sNs suf ≤ 1000000 → Tells (fun k => r3_Nodes.l0 k (pre ++ suf) (n : Int) (pre.length : Int)) ((n + sNs suf : Nat) : Int)) := by
  refine S_ind (fun a b l t e h1 h2 => ?_) ?_ (fun x r ih1 ih2 => ?_)
  · intro hg hn
    rw [goodS_mk] at hg
    rw [sN_eq] at hn
    simp only at hn
    constructor
    · refine Tells.succ ?_
      simp only [r3_Nodes.f]
      have := h1 [] 0 hg.2.1.2 hg.2.1.1 (by omega)
      rw [Nat.zero_add] at this
      exact this
    · refine Tells.succ ?_
      simp only [r3_Nodes.f]
      have := h2 [] 0 hg.2.2.2 hg.2.2.1 (by omega)
      rw [Nat.zero_add] at this
      exact this
  · intro pre n _ _ _
    refine Tells.succ ?_
    simp only [r3_Nodes.l0, pre_nlt, if_false]
    rw [sNs_nil, Nat.add_zero]
    exact Tells.pure _
  · intro pre n hg hl hn
    rw [goodSs_cons] at hg
    rw [sNs_cons, sN_eq] at hn
    obtain ⟨hg1, hg2⟩ := hg
    have hx := hg1
    rw [goodS_eq] at hx
    have args : ∀ (asuf apre : List S96) (m : Nat), x.f2 = apre ++ asuf → goodEs asuf → m + eNs asuf + sNs r ≤ 1000000 → Tells (fun k => r3_Nodes.l1 k (pre ++ x :: r) (m : Int) (pre.length : Int) (apre.length : Int)) ((m + eNs asuf + sNs r : Nat) : Int) := by
      intro asuf
      induction asuf with
      | nil =>
        intro apre m hx2 _ hm
        refine Tells.succ ?_
        have hn : ¬ ((apre.length : Int) < (x.f2.length : Int)) := by rw [hx2, List.append_nil]; omega
        simp only [r3_Nodes.l1, pre_pos, pre_lt, if_true, rdS_mid, hn, if_false]
        rw [eNs_nil, Nat.add_zero] at hm ⊢
        have t3 := ih2 (pre ++ [x]) m hg2 (by rw [← pre_app]; exact hl) hm
        rw [← pre_app] at t3
        rw [pre_next pre x r hl]
        exact t3
      | cons a az iha =>
        intro apre m hx2 hga hm
        refine Tells.succ ?_
        have hn : ((apre.length : Int) < (x.f2.length : Int)) := by rw [hx2]; exact pre_lt _ _ _
        have ha : rd_T96 x.f2 (apre.length : Int) = a := by rw [hx2]; exact rdE_mid _ _ _
        rw [eNs_cons] at hm ⊢
        simp only [r3_Nodes.l1, pre_pos, pre_lt, if_true, rdS_mid, hn, ha]
        have t := iha (apre ++ [a]) (m + eN a) (by rw [hx2, pre_app]) hga.2 (by omega)
        rw [pre_next apre a az (by rw [← hx2]; exact hx.1.1), show m + (eN a + eNs az) + sNs r = m + eN a + eNs az + sNs r by omega]
        refine Tells.bind (nodesE.1 a hga.1 (by omega)) ?_
        rw [w64 (n := (m : Int) + (eN a : Int)) (by omega) (by omega)]
        exact t
    refine Tells.succ ?_
    simp only [r3_Nodes.l0, pre_lt, pre_pos, if_true, rdS_mid]
    obtain ⟨t1, t2⟩ := ih1 hg1 (by rw [sN_eq]; omega)
    refine Tells.bind t1 (Tells.bind t2 ?_)
    have t3 := args x.f2 [] (n + 1 + sNs x.f3 + sNs x.f4) rfl hx.1.2 (by omega)
    rw [w64 (n := (n : Int) + 1) (by omega) (by omega), w64 (n := (n : Int) + 1 + (sNs x.f3 : Int)) (by omega) (by omega), w64 (n := (n : Int) + 1 + (sNs x.f3 : Int) + (sNs x.f4 : Int)) (by omega) (by omega),
      show (n : Int) + 1 + (sNs x.f3 : Int) + (sNs x.f4 : Int) = ((n + 1 + sNs x.f3 + sNs x.f4 : Nat) : Int) by omega]
    rw [sNs_cons, sN_eq, show n + (1 + eNs x.f2 + sNs x.f3 + sNs x.f4 + sNs r) = n + 1 + sNs x.f3 + sNs x.f4 + eNs x.f2 + sNs r by omega]
    exact t3
theorem Nodes_tells (l : List S47) (hl : l.length ≤ 9223372036854775807) (hg : goodSs l) (hn : sNs l ≤ 1000000) : Tells (fun k => r3_Nodes.f k l) (sNs l : Int) := by
  refine Tells.succ ?_
  simp only [r3_Nodes.f]
  have := rnodes_tells.2 l [] 0 hg hl (by omega)
  rw [Nat.zero_add] at this
  exact this
mutual
def wkS (n : Int) : S47 → List (Int × S47)
  | ⟨op, m, a, t, e⟩ => (n, ⟨op, m, a, t, e⟩) :: (wks (n + 1) t ++ wks (n + 1 + sCs t) e)
def wks (n : Int) : List S47 → List (Int × S47)
  | [] => []
  | x :: r => wkS n x ++ wks (n + sC x) r
end
theorem wkS_eq (n : Int) (x : S47) : wkS n x = (n, x) :: (wks (n + 1) x.f3 ++ wks (n + 1 + sCs x.f3) x.f4) := by cases x; simp only [wkS]
theorem wks_nil (n : Int) : wks n [] = [] := by simp only [wks]
theorem wks_cons (n : Int) (x : S47) (r : List S47) : wks n (x :: r) = wkS n x ++ wks (n + sC x) r := by simp only [wks]
theorem walk_tells : (∀ x, goodS x → ∀ n : Int, 0 ≤ n → n + sC x ≤ 1000000 → Tells (fun k => prog_walk.f k x.f3 (n + 1)) (wks (n + 1) x.f3, n + 1 + sCs x.f3) ∧ Tells (fun k => prog_walk.f k x.f4 (n + 1 + sCs x.f3)) (wks (n + 1 + sCs x.f3) x.f4, n + 1 + sCs x.f3 + sCs x.f4)) ∧
    (∀ suf, ∀ (pre : List S47), goodSs suf → (pre ++ suf).length ≤ 9223372036854775807 → ∀ n : Int, 0 ≤ n → n + sCs suf ≤ 1000000 → Tells (fun k => prog_walk.l0 k (pre ++ suf) (pre.length : Int) n) (wks n suf, n + sCs suf)) := by
  refine S_ind (fun a b l t e h1 h2 => ?_) ?_ (fun x r ih1 ih2 => ?_)
  · intro hg n h0 hn
    rw [goodS_mk] at hg
    rw [sC_eq] at hn
    simp only at hn ⊢
    constructor
    · refine Tells.succ ?_
      simp only [prog_walk.f]
      exact h1 [] hg.2.1.2 hg.2.1.1 (n + 1) (by omega) (by omega)
    · refine Tells.succ ?_
      simp only [prog_walk.f]
      exact h2 [] hg.2.2.2 hg.2.2.1 (n + 1 + sCs t) (by omega) (by omega)
  · intro pre _ _ n _ _
    refine Tells.succ ?_
    simp only [prog_walk.l0, pre_nlt, if_false]
    rw [sCs_nil, wks_nil, show n + ((0 : Nat) : Int) = n by omega]
    exact Tells.pure _
  · intro pre hg hl n h0 hn
    rw [goodSs_cons] at hg
    rw [sCs_cons] at hn
    obtain ⟨t1, t2⟩ := ih1 hg.1 n h0 (by omega)
    have t3 := ih2 (pre ++ [x]) hg.2 (by rw [← pre_app]; exact hl) (n + sC x) (by omega) (by omega)
    rw [← pre_app] at t3
    have e : (sC x : Int) = 1 + sCs x.f3 + sCs x.f4 := by rw [sC_eq]; omega
    have hb := sC_eq x
    refine Tells.succ ?_
    simp only [prog_walk.l0, pre_lt, pre_pos, if_true, rdS_mid]
    rw [pre_next pre x r hl, w64 (n := n + 1) (by omega) (by omega), show n + 1 - 1 = n by omega, w64 (n := n) (by omega) (by omega)]
    rw [show n + ((sCs (x :: r) : Nat) : Int) = n + sC x + sCs r by rw [sCs_cons]; omega, wks_cons, wkS_eq, List.cons_append, List.append_assoc]
    refine Tells.bind t1 (Tells.bind t2 ?_)
    rw [show n + 1 + (sCs x.f3 : Int) + (sCs x.f4 : Int) = n + sC x by omega]
    exact Tells.bind t3 (Tells.pure _)
mutual
def lowS : S47 → Bool
  | ⟨op, m, _, t, e⟩ => !(decide (op = 3) && decide (m > 15)) && (lowB t && lowB e)
def lowB : List S47 → Bool
  | [] => true
  | x :: r => lowS x && lowB r
end
theorem lowS_eq (x : S47) : lowS x = (!(decide (x.f0 = 3) && decide (x.f1 > 15)) && (lowB x.f3 && lowB x.f4)) := by cases x; simp only [lowS]
theorem lowB_nil : lowB [] = true := by simp only [lowB]
theorem lowB_cons (x : S47) (r : List S47) : lowB (x :: r) = (lowS x && lowB r) := by simp only [lowB]
theorem wks_low : (∀ x : S47, (∀ n, (wks n x.f3).any (fun x => decide (x.2.f0 = 3) && decide (x.2.f1 > 15)) = !lowB x.f3) ∧ (∀ n, (wks n x.f4).any (fun x => decide (x.2.f0 = 3) && decide (x.2.f1 > 15)) = !lowB x.f4)) ∧
    (∀ l, ∀ n, (wks n l).any (fun x => decide (x.2.f0 = 3) && decide (x.2.f1 > 15)) = !lowB l) := by
  refine S_ind (fun a b l t e h1 h2 => ⟨h1, h2⟩) ?_ (fun x r ih1 ih2 => ?_)
  · intro n
    rw [wks_nil, lowB_nil]
    rfl
  · intro n
    rw [wks_cons, wkS_eq, lowB_cons, lowS_eq, List.any_append, List.any_cons, List.any_append, ih1.1, ih1.2, ih2]
    cases decide (x.f0 = 3) && decide (x.f1 > 15) <;> cases lowB x.f3 <;> cases lowB x.f4 <;> cases lowB r <;> rfl
theorem low_tells : (∀ x, goodS x → Tells (fun k => r3_low.f k x.f3) (lowB x.f3) ∧ Tells (fun k => r3_low.f k x.f4) (lowB x.f4)) ∧
    (∀ suf, ∀ (pre : List S47), goodSs suf → (pre ++ suf).length ≤ 9223372036854775807 → Tells (fun k => r3_low.l0 k (pre ++ suf) (pre.length : Int)) (lowB suf)) := by
  refine S_ind (fun a b l t e h1 h2 => ?_) ?_ (fun x r ih1 ih2 => ?_)
  · intro hg
    rw [goodS_mk] at hg
    constructor
    · refine Tells.succ ?_
      simp only [r3_low.f]
      exact h1 [] hg.2.1.2 hg.2.1.1
    · refine Tells.succ ?_
      simp only [r3_low.f]
      exact h2 [] hg.2.2.2 hg.2.2.1
  · intro pre _ _
    refine Tells.succ ?_
    simp only [r3_low.l0, pre_nlt, if_false]
    rw [lowB_nil]
    exact Tells.pure _
  · intro pre hg hl
    rw [goodSs_cons] at hg
    obtain ⟨t1, t2⟩ := ih1 hg.1
    have t3 := ih2 (pre ++ [x]) hg.2 (by rw [← pre_app]; exact hl)
    rw [← pre_app] at t3
    refine Tells.succ ?_
    simp only [r3_low.l0, pre_lt, pre_pos, if_true, rdS_mid]
    rw [pre_next pre x r hl, lowB_cons, lowS_eq, Bool.and_assoc, Bool.and_assoc]
    by_cases h3 : x.f0 = 3
    · refine Tells.ifT h3 ?_
      rw [decide_eq_true h3, Bool.true_and]
      by_cases h15 : x.f1 > 15
      · rw [decide_eq_true h15, Bool.not_true, Bool.false_and]
        exact Tells.ifT h15 (Tells.pure _)
      · rw [decide_eq_false h15, Bool.not_false, Bool.true_and]
        exact Tells.ifF h15 (Tells.bind t1 (Tells.ifB (Tells.bind t2 (Tells.ifB t3))))
    · refine Tells.ifF h3 ?_
      rw [decide_eq_false h3, Bool.false_and, Bool.not_false, Bool.true_and]
      exact Tells.bind t1 (Tells.ifB (Tells.bind t2 (Tells.ifB t3)))
theorem single_loop (w : Int) (body : List S47) (hl : body.length ≤ 9223372036854775807) (hg : goodSs body) : ∀ (suf pre : List S82), (pre ++ suf).length ≤ 18 →
    Tells (fun k => r3_Single.l0 k (pre.length : Int) w (pre ++ suf) body) (!(suf.any (fun v => decide (v.f1 > 15))) && lowB body)
  | [], pre, _ => by
    refine Tells.succ ?_
    simp only [r3_Single.l0, pre_nlt, if_false, List.any_nil, Bool.not_false, Bool.true_and]
    refine Tells.id' (Tells.succ ?_)
    simp only [r3_low.f]
    exact low_tells.2 body [] hg hl
  | v :: r, pre, h => by
    refine Tells.succ ?_
    simp only [r3_Single.l0, pre_lt, pre_pos, if_true, rdV_mid, List.any_cons]
    by_cases h15 : v.f1 > 15
    · rw [decide_eq_true h15, Bool.true_or, Bool.not_true, Bool.false_and]
      exact Tells.ifT h15 (Tells.pure _)
    · rw [decide_eq_false h15, Bool.false_or]
      refine Tells.ifF h15 ?_
      rw [pre_next pre v r (by omega)]
      have := single_loop w body hl hg r (pre ++ [v]) (by rw [← pre_app]; exact h)
      rw [← pre_app] at this
      exact this
theorem awake_tells' : Tells (fun k => (w3_awake.f k).bind fun t => some t) true := ⟨0, fun _ _ => rfl⟩
theorem forms_law (w : Int) (vars : List S82) (body : List S47) (hl : body.length ≤ 9223372036854775807) (hg : goodSs body) : Tells (fun k => w3_ProgForms.f k w vars body) true := by
  unfold w3_ProgForms.f
  refine Tells.bind (fitsS body 600 hl hg (by decide) (by decide)) ?_
  by_cases hf : (sNs body : Int) ≤ 600
  case neg => exact Tells.ifF (by rw [decide_eq_true_eq]; exact hf) awake_tells'
  refine Tells.ifT (decide_eq_true hf) ?_
  have tc := pCheck_tells w vars body hl hg
  have ti := pIs_tells w vars body hl hg
  have tn := pCount_tells w vars body hl hg
  refine Tells.bind tc ?_
  cases hp : pIs w vars body
  · rw [hp] at tc ti tn
    have t : Tells (fun k => prog_Single.f k w vars body) (false, 30) := by
      unfold prog_Single.f
      exact Tells.bind tc (Tells.ifF (by decide) (Tells.pure _))
    exact Tells.bind t (Tells.bind tn (Tells.bind ti (Tells.ifF (by decide) (Tells.ifT rfl (Tells.ifT rfl (Tells.ifT rfl (Tells.ifF (by decide) (Tells.ifT rfl (Tells.ifT rfl awake_tells')))))))))
  · rw [hp] at tc ti tn
    obtain ⟨hh, hn4⟩ := pIs_all hp
    obtain ⟨h1, h8, _, h18, hv0, _⟩ := hIs_all hh
    have hle := (s_le.2 body).1
    have ts := single_loop w body hl hg vars [] h18
    have t : Tells (fun k => prog_Single.f k w vars body) (!(vars.any (fun v => decide (v.f1 > 15))) && lowB body, 0) := by
      unfold prog_Single.f
      refine Tells.bind tc (Tells.ifT rfl ?_)
      cases vars.any (fun v => decide (v.f1 > 15))
      · refine Tells.ifF (by decide) ?_
        have tw : Tells (fun k => prog_walk.f k body 0) (wks 0 body, 0 + sCs body) := by
          refine Tells.succ ?_
          simp only [prog_walk.f]
          exact walk_tells.2 body [] hg hl 0 (by decide) (by omega)
        refine Tells.bind tw ?_
        have e := wks_low.2 body 0
        simp only [e, Bool.not_not, Bool.not_false, Bool.true_and]
        exact Tells.pure _
      · exact Tells.ifT rfl (Tells.pure _)
    have tS : Tells (fun k => r3_Single.f k w vars body) (!(vars.any (fun v => decide (v.f1 > 15))) && lowB body) := by
      unfold r3_Single.f
      exact ts
    refine Tells.bind t (Tells.bind tn (Tells.bind ti (Tells.ifT rfl (Tells.ifT rfl (Tells.ifT rfl (Tells.ifT rfl (Tells.bind tS (Tells.ifT (by simp) ?_))))))))
    exact Tells.bind (Count_tells body hl hg (by omega)) (Tells.ifT rfl (Tells.bind (Nodes_tells body hl hg (by omega)) (Tells.ifT rfl awake_tells')))
end Go.Proofs.Ytffcpbgbhkbplaa.Print
