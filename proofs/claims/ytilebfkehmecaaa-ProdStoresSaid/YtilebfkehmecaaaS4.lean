/- For every program, number, list of stores and store the law ProdStores returns true, and what came in reads as before. No condition. -/
import Derived.Test.YtilebfkehmecaaaS3
import Derived.Deep.DeepCutAuto
import Derived.Laws.BitsLemmas
import Derived.Laws.EntriesVeiled
import Derived.LoopIn
import Derived.LoopNIn
import Derived.OwnWalkIn
import Derived.RangeFuncBound
import Derived.RangeFuncCalls
import Derived.RangeFuncIn
import Derived.RangeFuncLeaves
import Derived.RangeFuncNested
import Derived.RangeFuncOwn
import Derived.Shelf.Abstract
import Derived.Shelf.RegionOpen
import Derived.TacticsInMore
import Derived.WalkKit
import Derived.WalkSpells
namespace Go.Proofs.Ytilebfkehmecaaa.Print
open Go.RowKit Go.Proofs.YtilebfkehmecaaaW.PrintWords Go.Proofs.YtilebfkehmecaaaW.PrintLast Go.Proofs.YtilebfkehmecaaaW.PrintMore
attribute [local go_sem] max2_int min2_int max_two min_two max_three min_three max_four min_four
set_option linter.unusedVariables false
set_option linter.unusedSimpArgs false
open Go.Shelf
attribute [local go_sem] Oper.semAt_some
mutual
def prog_walk.l0 : Nat → List S64 → Int → Int → Option (List (Int × S64) × Int)
  | 0, _, _, _ => none
  | k + 1, l, i, n => if i < (l.length : Int) then (if 0 ≤ i then (prog_walk.f k (rd_T64 l i).f3 (wrap64 (n + 1))).bind fun t => (prog_walk.f k (rd_T64 l i).f4 t.2).bind fun e => (prog_walk.l0 k l (wrap64 (i + 1)) e.2).bind fun r => some ((wrap64 (wrap64 (n + 1) - 1), rd_T64 l i) :: (t.1 ++ (e.1 ++ r.1)), r.2) else none) else some ([], n)
def prog_walk.f : Nat → List S64 → Int → Option (List (Int × S64) × Int)
  | 0, _, _ => none
  | k + 1, l, n => prog_walk.l0 k l 0 n
end
def stopAt {α : Type} (go : List α → α → Bool) : List α → List α → Option (List α)
  | _, [] => none
  | pre, x :: r => if go pre x = true then (stopAt go (pre ++ [x]) r).map (x :: ·) else some [x]
theorem stopAt_append {α : Type} (go : List α → α → Bool) : ∀ (a b pre : List α), stopAt go pre (a ++ b) = match stopAt go pre a with | some q => some q | none => (stopAt go (pre ++ a) b).map (a ++ ·)
  | [], b, pre => by simp [stopAt]
  | x :: a, b, pre => by
    rw [List.cons_append, stopAt, stopAt]
    by_cases h : go pre x = true
    · rw [if_pos h, if_pos h, stopAt_append go a b (pre ++ [x])]
      cases h1 : stopAt go (pre ++ [x]) a with
      | some q => rfl
      | none => cases h2 : stopAt go (pre ++ [x] ++ a) b <;> simp [h2] <;> simp at h2 <;> simp [h2]
    · rw [if_neg h, if_neg h]
theorem stopAt_over {α : Type} {go : List α → α → Bool} {pre a b : List α} (h : stopAt go pre a = none) : stopAt go pre (a ++ b) = (stopAt go (pre ++ a) b).map (a ++ ·) := by rw [stopAt_append, h]
theorem stopAt_in {α : Type} {go : List α → α → Bool} {pre a b q : List α} (h : stopAt go pre a = some q) : stopAt go pre (a ++ b) = some q := by rw [stopAt_append, h]
theorem stopAt_one {α : Type} {go : List α → α → Bool} {pre r : List α} {x : α} (h : go pre x = true) : stopAt go pre (x :: r) = (stopAt go (pre ++ [x]) r).map (x :: ·) := by rw [stopAt, if_pos h]
def StmtAt (w0 : World) (s : S64) (v : Value) : Prop := ∃ (A2 : Option Addr) (c2 : Nat) (A3 : Option Addr) (c3 : Nat) (A4 : Option Addr) (c4 : Nat), v = .agg #[.int .i64 s.f0, .int .i64 s.f1, .slice A2 s.f2.length c2, .slice A3 s.f3.length c3, .slice A4 s.f4.length c4] ∧
  s.f2.length ≤ c2 ∧ Kd.C k28 w0 A2 s.f2.length s.f2 ∧ s.f3.length ≤ c3 ∧ Kd.C k64 w0 A3 s.f3.length s.f3 ∧ s.f4.length ≤ c4 ∧ Kd.C k64 w0 A4 s.f4.length s.f4
structure Keeps (B : Nat) (g : Option Nat) (W W' : World) : Prop where
  size : W.heap.size ≤ W'.heap.size
  block : ∀ k, B ≤ k → k < W.heap.size → some k ≠ g → W'.heap[k]? = W.heap[k]?
theorem Keeps.trans {B : Nat} {g : Option Nat} {a b c : World} (h : Keeps B g a b) (k : Keeps B g b c) : Keeps B g a c :=
  ⟨Nat.le_trans h.size k.size, fun i h1 h2 h3 => (k.block i h1 (Nat.lt_of_lt_of_le h2 h.size) h3).trans (h.block i h1 h2 h3)⟩
theorem Keeps.some {B : Nat} {g : Option Nat} {a b : World} (h : Keeps B none a b) : Keeps B g a b := ⟨h.size, fun i h1 h2 _ => h.block i h1 h2 (by simp)⟩
theorem Keeps.refl (B : Nat) (g : Option Nat) (a : World) : Keeps B g a a := ⟨Nat.le_refl _, fun _ _ _ _ => rfl⟩
def walkPost (w0 : World) (Bj G : Nat) (J Jx : List (Int × S64) → World → Prop) (go : List (Int × S64) → (Int × S64) → Bool) (pre its : List (Int × S64)) (n' : Int) (W : World) (e : Ending) (W' : World) : Prop :=
  (stopAt go pre its = none ∧ e = .returned (.bool true) ∧ J (pre ++ its) W' ∧ W'.heap[G]? = some (.cells #[.int .i64 n'] 3 (0, 0)) ∧ Keeps Bj (some G) W W' ∧ Below w0.heap.size w0 W') ∨
  (∃ q, stopAt go pre its = some q ∧ e = .returned (.bool false) ∧ Jx (pre ++ q) W')
theorem walk_world {wr : World} {G : Nat} {a u : Value} {t : TypeId} (hG : wr.heap[G]? = some (.cells #[a] t (0, 0))) (o : Obj) :
    ((wr.setCell ⟨G, 0, none⟩ u).alloc o).heap[G]? = some (.cells #[u] t (0, 0)) ∧ ((wr.setCell ⟨G, 0, none⟩ u).alloc o).heap[wr.heap.size]? = some o ∧ wr.grownBy ((wr.setCell ⟨G, 0, none⟩ u).alloc o) (some G) := by
  have h1 : (wr.setCell ⟨G, 0, none⟩ u).heap[G]? = some (.cells #[u] t (0, 0)) := by simpa using blk_set hG 0 u
  refine ⟨kal h1 _, ?_, ?_⟩
  · have := heap_alloc_new (wr.setCell ⟨G, 0, none⟩ u) o
    simpa using this
  · refine ⟨rfl, rfl, rfl, by simp, fun i hi hne2 => ?_⟩
    have hne' : i ≠ G := fun e => hne2 (by rw [e])
    rw [Below.heap_alloc _ _ _ (by simpa using hi), Below.heap_setCell _ _ _ _ hne']
theorem round_any {m m' : Nat} {P : Program} {l : Nat} {f : FuncId} {tmps : Array Value} {assign body : Code} {w : World} {R : Ending → World → Prop} (h : RoundIn Fence.wide m P l f tmps assign body w R) : RoundIn Fence.wide m' P l f tmps assign body w R := ⟨h.1, fun c cs _ => h.2 c cs (room_wide _)⟩
theorem calls_any {m m' : Nat} {P : Program} {f : FuncId} {args : Array Value} {w : World} {R : Ending → World → Prop} (h : CallsIn Fence.wide m P f args w R) : CallsIn Fence.wide m' P f args w R := callsIn_wide.2 (callsIn_wide.1 h)
theorem wide_depth {m : Nat} : Fence.wide.depth.isSome = true → 1 ≤ m := fun h => by simp [Fence.wide] at h
set_option maxHeartbeats 8000000 in
set_option maxRecDepth 100000 in
theorem prog_walk.walkIn (w0 : World) (rl Bj m : Nat) (J Jx : List (Int × S64) → World → Prop) (go : List (Int × S64) → (Int × S64) → Bool) (all : List (Int × S64))
    (hw0 : w0.heap.size ≤ Bj)
    (hJ : ∀ pre W W', J pre W → Below Bj W W' → J pre W')
    (hY : ∀ pre x v W, J pre W → StmtAt w0 x.2 v → Below w0.heap.size w0 W → Bj ≤ W.heap.size → (pre ++ [x]) <+: all → YieldAt Fence.wide m Try.prog rl #[.int .i64 x.1, v] W fun e W' =>
      e = .returned (.bool (go pre x)) ∧ (go pre x = true → J (pre ++ [x]) W' ∧ Keeps Bj none W W' ∧ Below w0.heap.size w0 W') ∧ (go pre x = false → Jx (pre ++ [x]) W'))
    (k : Nat) : ∀ (l : List S64) (n : Int) (its : List (Int × S64)) (n' : Int) (pre : List (Int × S64)) (W : World) (G : Nat) (A : Option Addr) (c : Nat),
    prog_walk.f k l n = some (its, n') → Kd.C k64 w0 A l.length l → l.length ≤ c → Below w0.heap.size w0 W → W.heap[G]? = some (.cells #[.int .i64 n] 3 (0, 0)) → Bj ≤ G → J pre W → (pre ++ its) <+: all →
    CallsIn Fence.wide m Try.prog 121 #[.slice A l.length c, .pointer (some ⟨G, 0, none⟩), .func (.yield rl) #[] #[]] W (walkPost w0 Bj G J Jx go pre its n' W) := by
  induction k using Nat.strongRecOn with
  | _ k ih =>
  intro l n its n' pre W G A c h hr hc hB hG hGB hJ0 hall
  cases k with
  | zero => exact absurd h (by simp [prog_walk.f])
  | succ k =>
  simp only [prog_walk.f] at h
  have huS := Try.underlying64
  have hl0 := hr.1
  refine callsIn_of_wp Try.func121 rfl trivial ?_ rfl
  simp only [Try.ntmps121, List.size_toArray, List.length_cons, List.length_nil, Nat.reduceAdd, Nat.reduceSub, Array.replicate_succ, Array.replicate_zero, List.push_toArray, List.append_toArray, List.nil_append, List.cons_append]
  have HR := Aside0.mk hr
  have HC := Aside0.mk hc
  have HB := Aside0.mk hB
  have BG := Aside0.mk hG
  have hGlt := blk_lt hG
  have HGB := Aside0.mk hGB
  have HJ0 := Aside0.mk hJ0
  have HALL := Aside0.mk hall
  have H' := Aside0.mk h
  have ih' := Aside0.mk ih
  have hJ' := Aside0.mk hJ
  have hY' := Aside0.mk hY
  clear hr hc hB hG hGB hJ0 hall h ih hJ hY hl0
  gi_wp2
  gi_loopw [11] (fun v11 wr => ∃ (kq : Nat) (i cnt : Int) (done rest : List (Int × S64)), v11 = .int .i64 i ∧ Aside0 (0 ≤ i) ∧ Aside0 (prog_walk.l0 kq l i cnt = some (rest, n')) ∧ Aside0 (kq ≤ k) ∧ Aside0 (its = done ++ rest) ∧ Aside0 (stopAt go pre done = none) ∧
      Aside0 (J (pre ++ done) wr) ∧ Aside0 (wr.heap[G]? = some (.cells #[.int .i64 cnt] 3 (0, 0))) ∧ Aside0 (Keeps Bj (some G) W wr) ∧ Aside0 (Below w0.heap.size w0 wr)) (fun v11 _ => l.length - (intOf v11).toNat)
  case atStart => exact ⟨k, 0, n, [], its, rfl, ⟨Int.le_refl _⟩, H', ⟨Nat.le_refl _⟩, ⟨rfl⟩, ⟨rfl⟩, ⟨by simpa using HJ0.out⟩, BG, ⟨Keeps.refl _ _ _⟩, HB⟩
  case round =>
    clear H' HJ0 BG HB
    obtain ⟨kq, i, cnt, done, rest, rfl, HI0, HA, HK, HE, HS, HJ1, BG, KP, HB⟩ := hrel
    cases kq with
    | zero => exact absurd HA.out (by simp [prog_walk.l0])
    | succ k1 =>
      have H := HA.out
      clear HA
      simp only [prog_walk.l0] at H
      have H2 := ite_b H
      clear H
      have hGl := blk_lt BG.out
      have hg0 : wr.cell? ⟨G, 0, none⟩ = some (.int .i64 cnt) := (blk_cell BG.out 0).trans rfl
      have hf0 := blk_frozen BG.out 0
      have hi0 := HI0.out
      have hl : l.length ≤ 9223372036854775807 := HR.out.2.1
      rcases H2 with ⟨t1, H⟩ | ⟨t1, H⟩
      case inr =>
        injection (Option.some.inj H) with e1 e2
        subst e1 e2
        clear H
        gi_wp2
        go_ret
        have e : its = done := by simpa using HE.out
        exact .inl ⟨by rw [e]; exact HS.out, rfl, by rw [e]; exact HJ1.out, BG.out, KP.out, HB.out⟩
      have H2 := ite_b H
      clear H
      rcases H2 with ⟨t2, H⟩ | ⟨t2, H⟩
      case inr => exact absurd H (by simp)
      have p1 : i < (l.length : Int) := of_decide_eq_true t1
      obtain ⟨ad, B2, b2, B3, b3, B4, b4, e1, q0, q1, q2, q3, q4, ql2, qr2, ql3, qr3, ql4, qr4⟩ := at_T64 HR.out i hi0 p1
      cases e1
      replace q0 := (HB.out.cell (World.block_lt_of_cell? w0 _ q0)).trans q0
      replace q1 := (HB.out.cell (World.block_lt_of_cell? w0 _ q1)).trans q1
      replace q2 := (HB.out.cell (World.block_lt_of_cell? w0 _ q2)).trans q2
      replace q3 := (HB.out.cell (World.block_lt_of_cell? w0 _ q3)).trans q3
      replace q4 := (HB.out.cell (World.block_lt_of_cell? w0 _ q4)).trans q4
      have QV := Aside0.mk (show StmtAt w0 (rd_T64 l i) _ from ⟨B2, b2, B3, b3, B4, b4, rfl, ql2, qr2, ql3, qr3, ql4, qr4⟩)
      have QL3 := Aside0.mk ql3
      have QR3 := Aside0.mk qr3
      have QL4 := Aside0.mk ql4
      have QR4 := Aside0.mk qr4
      clear ql2 qr2 ql3 qr3 ql4 qr4
      replace H := Option.bind_eq_some_iff.mp H
      obtain ⟨⟨ti, tn⟩, T0, H⟩ := H
      replace H := Option.bind_eq_some_iff.mp H
      obtain ⟨⟨ei, en⟩, E0, H⟩ := H
      replace H := Option.bind_eq_some_iff.mp H
      obtain ⟨⟨ri, rn⟩, R0, H⟩ := H
      injection (Option.some.inj H) with e1 e2
      clear H
      dsimp only at T0 E0 R0 e1 e2
      subst e2
      have TT := Aside0.mk T0
      have EE := Aside0.mk E0
      have RR := Aside0.mk R0
      have RE := Aside0.mk e1
      clear T0 E0 R0 e1
      have cw := Aside0.mk (walk_world BG.out (.cells #[.int .i64 (rd_T64 l i).f0, .int .i64 (rd_T64 l i).f1, .slice B2 (rd_T64 l i).f2.length b2, .slice B3 (rd_T64 l i).f3.length b3, .slice B4 (rd_T64 l i).f4.length b4] 64) (u := .int .i64 (wrap64 (cnt + 1))))
      gi_wp2
      obtain ⟨bG, bS, gW1⟩ := cw.out
      clear cw
      generalize ((wr.setCell ⟨G, 0, none⟩ (.int .i64 (wrap64 (cnt + 1)))).alloc (.cells #[.int .i64 (rd_T64 l i).f0, .int .i64 (rd_T64 l i).f1, .slice B2 (rd_T64 l i).f2.length b2, .slice B3 (rd_T64 l i).f3.length b3, .slice B4 (rd_T64 l i).f4.length b4] 64)) = W1 at bG bS gW1 ⊢
      generalize wrap64 (cnt + 1) = c1 at TT RE bG ⊢
      have hxw : IntKind.i64.wrap (c1 - 1) = wrap64 (c1 - 1) := i64_w _
      have hd0 : W1.cell? ⟨G, 0, none⟩ = some (.int .i64 c1) := (blk_cell bG 0).trans rfl
      obtain ⟨s0, s1, s2, s3, s4⟩ := cells5 bS
      have hWB : Bj ≤ wr.heap.size := by have := HGB.out; omega
      have KW : Aside0 (Keeps Bj (some G) W W1) := ⟨KP.out.trans ⟨gW1.size, fun j _ h2 h3 => gW1.block j h2 h3⟩⟩
      have BW : Aside0 (Below w0.heap.size w0 W1) := ⟨below_gr HB.out gW1 (by have := HGB.out; omega)⟩
      have JW : Aside0 (J (pre ++ done) W1) := ⟨hJ'.out _ _ _ HJ1.out ⟨gW1.os, gW1.tape, gW1.output, gW1.size, fun j hj => gW1.block j (by omega) (by intro e; injection e with e; have := HGB.out; omega)⟩⟩
      have hszW : wr.heap.size < W1.heap.size := blk_lt bS
      have hpre : Aside0 ((pre ++ done ++ [(wrap64 (c1 - 1), rd_T64 l i)]) <+: all) := ⟨by
        refine List.IsPrefix.trans ?_ HALL.out
        rw [HE.out, ← RE.out]
        exact ⟨ti ++ (ei ++ ri), by simp⟩⟩
      have BGW := Aside0.mk bG
      have BSW := Aside0.mk bS
      have hyl := hY'.out (pre ++ done) (wrap64 (c1 - 1), rd_T64 l i) _ W1.drew (hJ'.out _ _ _ JW.out (bd1 (Below.refl _ _))) QV.out (bd1 BW.out) (by show Bj ≤ W1.heap.size; omega) hpre.out
      obtain ⟨fn, tmps, assign, body, hy, hR0⟩ := hyl
      clear bG bS gW1 q0 q1 q2 q3 q4 hg0 hf0 BG HB HJ1
      dsimp only at hy hR0
      refine wpIn_region_any (by kernel_rfl) ?_
      change wpAnyIn _ _ _ _ _ _ _ _ _ (World.drew _)
      refine wpAnyIn_take (i := 0) (v := .func (.yield rl) #[] #[]) rfl rfl (by kernel_rfl) (by kernel_rfl) (by kernel_rfl) (fun _ _ _ h => h) ⟨Or.inl ⟨by rfl, fun _ => by go_simp⟩, fun _ => rfl⟩ ?_
      go_simp
      refine wpAnyIn_take (i := 1) (v := .pointer (some ⟨G, 0, none⟩)) rfl rfl (by kernel_rfl) (by kernel_rfl) (by kernel_rfl) (fun _ _ _ h => h) ⟨Or.inl ⟨by rfl, fun _ => by go_simp⟩, fun _ => rfl⟩ ?_
      go_simp
      refine (fun (key : ?KeyT) => ?main) ?key
      case main =>
        skip
        refine wpAnyIn_ready (rs := [2, 5]) (by kernel_rfl) (by simp) ?_
        refine AllReadyIn.cons rfl (fun K hK => ?_) (AllReadyIn.cons rfl (fun K hK => ?_) AllReadyIn.nil)
        · go_simp
          refine hK _ _ ?_
          clear hK K
          refine wpAnyIn_ready (rs := [3, 5]) (by kernel_rfl) (by simp) ?_
          refine AllReadyIn.cons rfl (fun K hK => ?_) (AllReadyIn.cons rfl (fun K hK => ?_) AllReadyIn.nil)
          · go_simp
            refine hK _ _ ?_
            clear hK K
            refine wpAnyIn_take (i := 4) (v := .int .i64 (wrap64 (c1 - 1))) rfl rfl (by kernel_rfl) (by kernel_rfl) (by kernel_rfl) (fun _ _ _ h => h) ⟨Or.inl ⟨by rfl, fun _ => by go_simp⟩, fun _ => rfl⟩ ?_
            go_simp
            refine wpAnyIn_ready (rs := [5]) (by kernel_rfl) (by simp) (AllReadyIn.cons rfl (fun K hK => ?_) AllReadyIn.nil)
            go_simp
            refine hK _ _ ?_
            clear hK K
            exact key
          · go_simp
            refine hK _ _ ?_
            clear hK K
            refine wpAnyIn_ready (rs := [3]) (by kernel_rfl) (by simp) (AllReadyIn.cons rfl (fun K hK => ?_) AllReadyIn.nil)
            go_simp
            refine hK _ _ ?_
            clear hK K
            refine wpAnyIn_take (i := 4) (v := .int .i64 (wrap64 (c1 - 1))) rfl rfl (by kernel_rfl) (by kernel_rfl) (by kernel_rfl) (fun _ _ _ h => h) ⟨Or.inl ⟨by rfl, fun _ => by go_simp⟩, fun _ => rfl⟩ ?_
            go_simp
            exact key
        · go_simp
          refine hK _ _ ?_
          clear hK K
          refine wpAnyIn_ready (rs := [2]) (by kernel_rfl) (by simp) (AllReadyIn.cons rfl (fun K hK => ?_) AllReadyIn.nil)
          go_simp
          refine hK _ _ ?_
          clear hK K
          refine wpAnyIn_ready (rs := [3]) (by kernel_rfl) (by simp) (AllReadyIn.cons rfl (fun K hK => ?_) AllReadyIn.nil)
          go_simp
          refine hK _ _ ?_
          clear hK K
          refine wpAnyIn_take (i := 4) (v := .int .i64 (wrap64 (c1 - 1))) rfl rfl (by kernel_rfl) (by kernel_rfl) (by kernel_rfl) (fun _ _ _ h => h) ⟨Or.inl ⟨by rfl, fun _ => by go_simp⟩, fun _ => rfl⟩ ?_
          go_simp
          exact key
      refine wpAnyIn_ready (rs := [6]) (by kernel_rfl) (by simp) (AllReadyIn.cons rfl (fun K hK => ?_) AllReadyIn.nil)
      go_simp
      gi_wp2_with (first | (refine ⟨wide_depth, ?_⟩; refine (round_any hR0).mono ?_; rintro e W2 ⟨rfl, hx, hx2⟩))
      clear hR0 hy
      cases hgo : go (pre ++ done) (wrap64 (c1 - 1), rd_T64 l i) with
      | false =>
        clear hx
        replace hx2 := hx2 hgo
        refine wpAnyIn_take (i := 7) (v := .bool true) rfl rfl (by kernel_rfl) (by kernel_rfl) (by kernel_rfl) (fun _ _ _ h => h) ⟨Or.inl ⟨by rfl, fun _ => by go_simp⟩, fun _ => rfl⟩ ?_
        go_simp
        refine wpAnyIn_take (i := 8) (v := .bool true) rfl rfl (by kernel_rfl) (by kernel_rfl) (by kernel_rfl) (fun _ _ _ h => h) ⟨Or.inl ⟨by rfl, fun _ => by go_simp⟩, fun _ => rfl⟩ ?_
        go_simp
        refine wpAnyIn_take (i := 9) (v := undef) rfl rfl (by kernel_rfl) (by kernel_rfl) (by kernel_rfl) (fun _ _ _ h => h) ⟨Or.inr ⟨by rfl, rfl⟩, fun _ => rfl⟩ ?_
        go_simp
        refine wpAnyIn_take (i := 10) (v := undef) rfl rfl (by kernel_rfl) (by kernel_rfl) (by kernel_rfl) (fun _ _ _ h => h) ⟨Or.inr ⟨by rfl, rfl⟩, fun _ => rfl⟩ ?_
        go_simp
        refine wpAnyIn_take (i := 11) (v := undef) rfl rfl (by kernel_rfl) (by kernel_rfl) (by kernel_rfl) (fun _ _ _ h => h) ⟨Or.inr ⟨by rfl, rfl⟩, fun _ => rfl⟩ ?_
        go_simp
        refine wpAnyIn_take (i := 12) (v := undef) rfl rfl (by kernel_rfl) (by kernel_rfl) (by kernel_rfl) (fun _ _ _ h => h) ⟨Or.inr ⟨by rfl, rfl⟩, fun _ => rfl⟩ ?_
        go_simp
        refine wpAnyIn_ready (rs := [13]) (by kernel_rfl) (by simp) (AllReadyIn.cons rfl (fun K hK => ?_) AllReadyIn.nil)
        go_simp
        refine ⟨trivial, ?_⟩
        refine hK _ _ ?_
        clear hK K
        refine wpAnyIn_take (i := 14) (v := undef) rfl rfl (by kernel_rfl) (by kernel_rfl) (by kernel_rfl) (fun _ _ _ h => h) ⟨Or.inr ⟨by rfl, rfl⟩, fun _ => rfl⟩ ?_
        go_simp
        refine wpAnyIn_take (i := 15) (v := .bool true) rfl rfl (by kernel_rfl) (by kernel_rfl) (by kernel_rfl) (fun _ _ _ h => h) ⟨Or.inl ⟨by rfl, fun _ => by go_simp⟩, fun _ => rfl⟩ ?_
        go_simp
        refine wpAnyIn_take (i := 16) (v := .bool true) rfl rfl (by kernel_rfl) (by kernel_rfl) (by kernel_rfl) (fun _ _ _ h => h) ⟨Or.inl ⟨by rfl, fun _ => by go_simp⟩, fun _ => rfl⟩ ?_
        go_simp
        refine wpAnyIn_take (i := 17) (v := undef) rfl rfl (by kernel_rfl) (by kernel_rfl) (by kernel_rfl) (fun _ _ _ h => h) ⟨Or.inr ⟨by rfl, rfl⟩, fun _ => rfl⟩ ?_
        go_simp
        refine wpAnyIn_take (i := 18) (v := undef) rfl rfl (by kernel_rfl) (by kernel_rfl) (by kernel_rfl) (fun _ _ _ h => h) ⟨Or.inr ⟨by rfl, rfl⟩, fun _ => rfl⟩ ?_
        go_simp
        refine wpAnyIn_take (i := 19) (v := undef) rfl rfl (by kernel_rfl) (by kernel_rfl) (by kernel_rfl) (fun _ _ _ h => h) ⟨Or.inr ⟨by rfl, rfl⟩, fun _ => rfl⟩ ?_
        go_simp
        refine wpAnyIn_take (i := 20) (v := undef) rfl rfl (by kernel_rfl) (by kernel_rfl) (by kernel_rfl) (fun _ _ _ h => h) ⟨Or.inr ⟨by rfl, rfl⟩, fun _ => rfl⟩ ?_
        go_simp
        refine wpAnyIn_ready (rs := [21]) (by kernel_rfl) (by simp) (AllReadyIn.cons rfl (fun K hK => ?_) AllReadyIn.nil)
        go_simp
        refine ⟨trivial, ?_⟩
        refine hK _ _ ?_
        clear hK K
        refine wpAnyIn_take (i := 22) (v := undef) rfl rfl (by kernel_rfl) (by kernel_rfl) (by kernel_rfl) (fun _ _ _ h => h) ⟨Or.inr ⟨by rfl, rfl⟩, fun _ => rfl⟩ ?_
        go_simp
        refine wpAnyIn_take (i := 23) (v := .bool true) rfl rfl (by kernel_rfl) (by kernel_rfl) (by kernel_rfl) (fun _ _ _ h => h) ⟨Or.inl ⟨by rfl, fun _ => by go_simp⟩, fun _ => rfl⟩ ?_
        go_simp
        refine wpAnyIn_done (by kernel_rfl) ?_ _
        gi_wp2
        go_ret
        refine .inr ⟨done ++ [(wrap64 (c1 - 1), rd_T64 l i)], ?_, rfl, by simpa using hx2⟩
        rw [HE.out, ← RE.out, stopAt_over HS.out, stopAt, if_neg (by simp [hgo])]
        rfl
      | true =>
        clear hx2
        obtain ⟨j2, k2, b2'⟩ := hx hgo
        clear hx
        have BG2 : W2.heap[G]? = some (.cells #[.int .i64 c1] 3 (0, 0)) := (k2.block G HGB.out (blk_lt BGW.out) (by simp)).trans BGW.out
        have BS2 := (k2.block wr.heap.size hWB hszW (by simp)).trans BSW.out
        have K2 := Aside0.mk k2
        have J2 := Aside0.mk j2
        have B2' := Aside0.mk b2'
        have G2 := Aside0.mk BG2
        have S2 := Aside0.mk BS2
        obtain ⟨s0, s1, s2, s3, s4⟩ := cells5 BS2
        clear j2 k2 b2' BG2 BS2
        refine wpAnyIn_take (i := 7) (v := .bool false) rfl rfl (by kernel_rfl) (by kernel_rfl) (by kernel_rfl) (fun _ _ _ h => h) ⟨Or.inl ⟨by rfl, fun _ => by go_simp⟩, fun _ => rfl⟩ ?_
        go_simp
        refine wpAnyIn_take (i := 8) (v := .bool false) rfl rfl (by kernel_rfl) (by kernel_rfl) (by kernel_rfl) (fun _ _ _ h => h) ⟨Or.inl ⟨by rfl, fun _ => by go_simp⟩, fun _ => rfl⟩ ?_
        go_simp
        refine wpAnyIn_take (i := 9) (v := .pointer (some ⟨wr.heap.size, 3, none⟩)) rfl rfl (by kernel_rfl) (by kernel_rfl) (by kernel_rfl) (fun _ _ _ h => h) ⟨Or.inl ⟨by rfl, fun _ => by go_simp⟩, fun _ => rfl⟩ ?_
        go_simp
        refine wpAnyIn_take (i := 11) (v := .pointer (some ⟨G, 0, none⟩)) rfl rfl (by kernel_rfl) (by kernel_rfl) (by kernel_rfl) (fun _ _ _ h => h) ⟨Or.inl ⟨by rfl, fun _ => by go_simp⟩, fun _ => rfl⟩ ?_
        go_simp
        refine wpAnyIn_take (i := 12) (v := .func (.yield rl) #[] #[]) rfl rfl (by kernel_rfl) (by kernel_rfl) (by kernel_rfl) (fun _ _ _ h => h) ⟨Or.inl ⟨by rfl, fun _ => by go_simp⟩, fun _ => rfl⟩ ?_
        go_simp
        refine wpAnyIn_ready (rs := [10]) (by kernel_rfl) (by simp) (AllReadyIn.cons rfl (fun K hK => ?_) AllReadyIn.nil)
        go_simp
        refine hK _ _ ?_
        clear hK K
        refine wpAnyIn_ready (rs := [13]) (by kernel_rfl) (by simp) (AllReadyIn.cons rfl (fun K hK => ?_) AllReadyIn.nil)
        go_simp
        refine ⟨trivial, wide_depth, ?_⟩
        refine (calls_any (m' := m - 1) (ih'.out k1 (by have := HK.out; omega) (rd_T64 l i).f3 c1 ti tn (pre ++ done ++ [(wrap64 (c1 - 1), rd_T64 l i)]) W2 G _ _ TT.out QR3.out QL3.out B2'.out G2.out HGB.out J2.out ?pf)).mono ?_
        case pf =>
          refine List.IsPrefix.trans ?_ HALL.out
          rw [HE.out, ← RE.out]
          exact ⟨ei ++ ri, by simp⟩
        rintro e W3 hw3
        cases hst : stopAt go (pre ++ done ++ [(wrap64 (c1 - 1), rd_T64 l i)]) ti with
        | some q =>
          obtain ⟨h0, _⟩ | ⟨q', h0, rfl, hx2⟩ := hw3
          · exact absurd (h0.symm.trans hst) (by simp)
          cases (h0.symm.trans hst)
          refine hK _ _ ?_
          clear hK K
          refine wpAnyIn_take (i := 14) (v := .bool true) rfl rfl (by kernel_rfl) (by kernel_rfl) (by kernel_rfl) (fun _ _ _ h => h) ⟨Or.inl ⟨by rfl, fun _ => by go_simp⟩, fun _ => rfl⟩ ?_
          go_simp
          refine wpAnyIn_take (i := 15) (v := .bool true) rfl rfl (by kernel_rfl) (by kernel_rfl) (by kernel_rfl) (fun _ _ _ h => h) ⟨Or.inl ⟨by rfl, fun _ => by go_simp⟩, fun _ => rfl⟩ ?_
          go_simp
          refine wpAnyIn_take (i := 16) (v := .bool true) rfl rfl (by kernel_rfl) (by kernel_rfl) (by kernel_rfl) (fun _ _ _ h => h) ⟨Or.inl ⟨by rfl, fun _ => by go_simp⟩, fun _ => rfl⟩ ?_
          go_simp
          refine wpAnyIn_take (i := 17) (v := undef) rfl rfl (by kernel_rfl) (by kernel_rfl) (by kernel_rfl) (fun _ _ _ h => h) ⟨Or.inr ⟨by rfl, rfl⟩, fun _ => rfl⟩ ?_
          go_simp
          refine wpAnyIn_take (i := 18) (v := undef) rfl rfl (by kernel_rfl) (by kernel_rfl) (by kernel_rfl) (fun _ _ _ h => h) ⟨Or.inr ⟨by rfl, rfl⟩, fun _ => rfl⟩ ?_
          go_simp
          refine wpAnyIn_take (i := 19) (v := undef) rfl rfl (by kernel_rfl) (by kernel_rfl) (by kernel_rfl) (fun _ _ _ h => h) ⟨Or.inr ⟨by rfl, rfl⟩, fun _ => rfl⟩ ?_
          go_simp
          refine wpAnyIn_take (i := 20) (v := undef) rfl rfl (by kernel_rfl) (by kernel_rfl) (by kernel_rfl) (fun _ _ _ h => h) ⟨Or.inr ⟨by rfl, rfl⟩, fun _ => rfl⟩ ?_
          go_simp
          refine wpAnyIn_ready (rs := [21]) (by kernel_rfl) (by simp) (AllReadyIn.cons rfl (fun K hK => ?_) AllReadyIn.nil)
          go_simp
          refine ⟨trivial, ?_⟩
          refine hK _ _ ?_
          clear hK K
          refine wpAnyIn_take (i := 22) (v := undef) rfl rfl (by kernel_rfl) (by kernel_rfl) (by kernel_rfl) (fun _ _ _ h => h) ⟨Or.inr ⟨by rfl, rfl⟩, fun _ => rfl⟩ ?_
          go_simp
          refine wpAnyIn_take (i := 23) (v := .bool true) rfl rfl (by kernel_rfl) (by kernel_rfl) (by kernel_rfl) (fun _ _ _ h => h) ⟨Or.inl ⟨by rfl, fun _ => by go_simp⟩, fun _ => rfl⟩ ?_
          go_simp
          refine wpAnyIn_done (by kernel_rfl) ?_ _
          gi_wp2
          go_ret
          refine .inr ⟨done ++ [(wrap64 (c1 - 1), rd_T64 l i)] ++ q, ?_, rfl, by simpa using hx2⟩
          rw [HE.out, ← RE.out, stopAt_over HS.out, stopAt_one hgo, stopAt_in hst]
          simp
        | none =>
          obtain ⟨_, rfl, j3, g3, k3, b3'⟩ | ⟨q', h0, _, _⟩ := hw3
          rotate_left
          · exact absurd (h0.symm.trans hst) (by simp)
          have BS3 := (k3.block wr.heap.size hWB (blk_lt S2.out) (by intro e; injection e with e; omega)).trans S2.out
          have K3 := Aside0.mk k3
          have J3 := Aside0.mk j3
          have B3' := Aside0.mk b3'
          have G3 := Aside0.mk g3
          have S3 := Aside0.mk BS3
          clear s0 s1 s2 s3 s4
          obtain ⟨s0, s1, s2, s3, s4⟩ := cells5 BS3
          clear j3 k3 b3' g3 BS3
          refine hK _ _ ?_
          clear hK K
          refine wpAnyIn_take (i := 14) (v := .bool false) rfl rfl (by kernel_rfl) (by kernel_rfl) (by kernel_rfl) (fun _ _ _ h => h) ⟨Or.inl ⟨by rfl, fun _ => by go_simp⟩, fun _ => rfl⟩ ?_
          go_simp
          refine wpAnyIn_take (i := 15) (v := .bool false) rfl rfl (by kernel_rfl) (by kernel_rfl) (by kernel_rfl) (fun _ _ _ h => h) ⟨Or.inl ⟨by rfl, fun _ => by go_simp⟩, fun _ => rfl⟩ ?_
          go_simp
          refine wpAnyIn_take (i := 16) (v := .bool false) rfl rfl (by kernel_rfl) (by kernel_rfl) (by kernel_rfl) (fun _ _ _ h => h) ⟨Or.inl ⟨by rfl, fun _ => by go_simp⟩, fun _ => rfl⟩ ?_
          go_simp
          refine wpAnyIn_take (i := 17) (v := .pointer (some ⟨wr.heap.size, 4, none⟩)) rfl rfl (by kernel_rfl) (by kernel_rfl) (by kernel_rfl) (fun _ _ _ h => h) ⟨Or.inl ⟨by rfl, fun _ => by go_simp⟩, fun _ => rfl⟩ ?_
          go_simp
          refine wpAnyIn_take (i := 19) (v := .pointer (some ⟨G, 0, none⟩)) rfl rfl (by kernel_rfl) (by kernel_rfl) (by kernel_rfl) (fun _ _ _ h => h) ⟨Or.inl ⟨by rfl, fun _ => by go_simp⟩, fun _ => rfl⟩ ?_
          go_simp
          refine wpAnyIn_take (i := 20) (v := .func (.yield rl) #[] #[]) rfl rfl (by kernel_rfl) (by kernel_rfl) (by kernel_rfl) (fun _ _ _ h => h) ⟨Or.inl ⟨by rfl, fun _ => by go_simp⟩, fun _ => rfl⟩ ?_
          go_simp
          refine wpAnyIn_ready (rs := [18]) (by kernel_rfl) (by simp) (AllReadyIn.cons rfl (fun K hK => ?_) AllReadyIn.nil)
          go_simp
          refine hK _ _ ?_
          clear hK K
          refine wpAnyIn_ready (rs := [21]) (by kernel_rfl) (by simp) (AllReadyIn.cons rfl (fun K hK => ?_) AllReadyIn.nil)
          go_simp
          refine ⟨trivial, wide_depth, ?_⟩
          refine (calls_any (m' := m - 1) (ih'.out k1 (by have := HK.out; omega) (rd_T64 l i).f4 tn ei en ((pre ++ done ++ [(wrap64 (c1 - 1), rd_T64 l i)]) ++ ti) W3 G _ _ EE.out QR4.out QL4.out B3'.out G3.out HGB.out J3.out ?pf)).mono ?_
          case pf =>
            refine List.IsPrefix.trans ?_ HALL.out
            rw [HE.out, ← RE.out]
            exact ⟨ri, by simp⟩
          rintro e W4 hw4
          cases hst2 : stopAt go ((pre ++ done ++ [(wrap64 (c1 - 1), rd_T64 l i)]) ++ ti) ei with
          | some q =>
            obtain ⟨h0, _⟩ | ⟨q', h0, rfl, hx2⟩ := hw4
            · exact absurd (h0.symm.trans hst2) (by simp)
            cases (h0.symm.trans hst2)
            refine hK _ _ ?_
            clear hK K
            refine wpAnyIn_take (i := 22) (v := .bool true) rfl rfl (by kernel_rfl) (by kernel_rfl) (by kernel_rfl) (fun _ _ _ h => h) ⟨Or.inl ⟨by rfl, fun _ => by go_simp⟩, fun _ => rfl⟩ ?_
            go_simp
            refine wpAnyIn_take (i := 23) (v := .bool true) rfl rfl (by kernel_rfl) (by kernel_rfl) (by kernel_rfl) (fun _ _ _ h => h) ⟨Or.inl ⟨by rfl, fun _ => by go_simp⟩, fun _ => rfl⟩ ?_
            go_simp
            refine wpAnyIn_done (by kernel_rfl) ?_ _
            gi_wp2
            go_ret
            refine .inr ⟨done ++ [(wrap64 (c1 - 1), rd_T64 l i)] ++ ti ++ q, ?_, rfl, by simpa using hx2⟩
            rw [HE.out, ← RE.out, stopAt_over HS.out, stopAt_one hgo, stopAt_over hst, stopAt_in hst2]
            simp
          | none =>
            obtain ⟨_, rfl, j4, g4, k4, b4'⟩ | ⟨q', h0, _, _⟩ := hw4
            rotate_left
            · exact absurd (h0.symm.trans hst2) (by simp)
            clear s0 s1 s2 s3 s4
            refine hK _ _ ?_
            clear hK K
            refine wpAnyIn_take (i := 22) (v := .bool false) rfl rfl (by kernel_rfl) (by kernel_rfl) (by kernel_rfl) (fun _ _ _ h => h) ⟨Or.inl ⟨by rfl, fun _ => by go_simp⟩, fun _ => rfl⟩ ?_
            go_simp
            refine wpAnyIn_take (i := 23) (v := .bool false) rfl rfl (by kernel_rfl) (by kernel_rfl) (by kernel_rfl) (fun _ _ _ h => h) ⟨Or.inl ⟨by rfl, fun _ => by go_simp⟩, fun _ => rfl⟩ ?_
            go_simp
            refine wpAnyIn_done (by kernel_rfl) ?_ _
            gi_wp2
            have hw : wrap64 (i + 1) = i + 1 := IntWalk.wrap64_in _ ⟨by omega, by omega⟩
            have hrr := RR.out
            rw [hw] at hrr
            refine ⟨⟨k1, i + 1, en, done ++ ((wrap64 (c1 - 1), rd_T64 l i) :: (ti ++ ei)), ri, rfl, ⟨by omega⟩, ⟨hrr⟩, ⟨by have := HK.out; omega⟩, ⟨by rw [HE.out, ← RE.out]; simp⟩, ⟨?_⟩, ⟨by simpa using j4⟩, ⟨g4⟩, ⟨?_⟩, ⟨b4'⟩⟩, ?_⟩
            · rw [stopAt_over HS.out, stopAt_one hgo, stopAt_over hst, hst2]
              rfl
            · exact KW.out.trans ((Keeps.some (g := some G) (show Keeps Bj none W1 W2 from ⟨K2.out.size, K2.out.block⟩)).trans (K3.out.trans k4))
            · have e1 : intOf (Value.int IntKind.i64 (i + 1)) = i + 1 := rfl
              have e2 : intOf (Value.int IntKind.i64 i) = i := rfl
              rw [e1, e2]
              omega
end Go.Proofs.Ytilebfkehmecaaa.Print
namespace Go.Proofs.Ytilebfkehmecaaa.Print
open Go.RowKit Go.Proofs.YtilebfkehmecaaaW.PrintWords Go.Proofs.YtilebfkehmecaaaW.PrintLast Go.Proofs.YtilebfkehmecaaaW.PrintMore
attribute [local go_sem] max2_int min2_int max_two min_two max_three min_three max_four min_four
set_option linter.unusedVariables false
set_option linter.unusedSimpArgs false
mutual
def wkS (n : Int) : S64 → List (Int × S64)
  | ⟨op, m, a, t, e⟩ => (n, ⟨op, m, a, t, e⟩) :: (wks (n + 1) t ++ wks (n + 1 + sCs t) e)
def wks (n : Int) : List S64 → List (Int × S64)
  | [] => []
  | x :: r => wkS n x ++ wks (n + sC x) r
end
theorem wkS_eq (n : Int) (x : S64) : wkS n x = (n, x) :: (wks (n + 1) x.f3 ++ wks (n + 1 + sCs x.f3) x.f4) := by cases x; simp only [wkS]
theorem wks_nil (n : Int) : wks n [] = [] := by simp only [wks]
theorem wks_cons (n : Int) (x : S64) (r : List S64) : wks n (x :: r) = wkS n x ++ wks (n + sC x) r := by simp only [wks]
theorem walk_tells : (∀ x, goodS x → ∀ n : Int, 0 ≤ n → n + sC x ≤ 1000000 → Tells (fun k => prog_walk.f k x.f3 (n + 1)) (wks (n + 1) x.f3, n + 1 + sCs x.f3) ∧ Tells (fun k => prog_walk.f k x.f4 (n + 1 + sCs x.f3)) (wks (n + 1 + sCs x.f3) x.f4, n + 1 + sCs x.f3 + sCs x.f4)) ∧
    (∀ suf, ∀ (pre : List S64), goodSs suf → (pre ++ suf).length ≤ 9223372036854775807 → ∀ n : Int, 0 ≤ n → n + sCs suf ≤ 1000000 → Tells (fun k => prog_walk.l0 k (pre ++ suf) (pre.length : Int) n) (wks n suf, n + sCs suf)) := by
  refine S_ind (fun a b l t e h1 h2 => ?_) ?_ (fun x r ih1 ih2 => ?_)
  · intro hg n h0 hn
    rw [goodS_mk] at hg
    rw [sC_eq] at hn
    simp only at hn ⊢
    constructor
    · refine Tells.succ ?_
      simp only [prog_walk.f]
      exact h1 [] hg.2.1.2 hg.2.1.1 (n + 1) (by omega) (by omega)
    · refine Tells.succ ?_
      simp only [prog_walk.f]
      exact h2 [] hg.2.2.2 hg.2.2.1 (n + 1 + sCs t) (by omega) (by omega)
  · intro pre _ _ n _ _
    refine Tells.succ ?_
    simp only [prog_walk.l0, pre_nlt, if_false]
    rw [sCs_nil, wks_nil, show n + ((0 : Nat) : Int) = n by omega]
    exact Tells.pure _
  · intro pre hg hl n h0 hn
    rw [goodSs_cons] at hg
    rw [sCs_cons] at hn
    obtain ⟨t1, t2⟩ := ih1 hg.1 n h0 (by omega)
    have t3 := ih2 (pre ++ [x]) hg.2 (by rw [← pre_app]; exact hl) (n + sC x) (by omega) (by omega)
    rw [← pre_app] at t3
    have e : (sC x : Int) = 1 + sCs x.f3 + sCs x.f4 := by rw [sC_eq]; omega
    have hb := sC_eq x
    refine Tells.succ ?_
    simp only [prog_walk.l0, pre_lt, pre_pos, if_true, rdS_mid]
    rw [pre_next pre x r hl, w64 (n := n + 1) (by omega) (by omega), show n + 1 - 1 = n by omega, w64 (n := n) (by omega) (by omega)]
    rw [show n + ((sCs (x :: r) : Nat) : Int) = n + sC x + sCs r by rw [sCs_cons]; omega, wks_cons, wkS_eq, List.cons_append, List.append_assoc]
    refine Tells.bind t1 (Tells.bind t2 ?_)
    rw [show n + 1 + (sCs x.f3 : Int) + (sCs x.f4 : Int) = n + sC x by omega]
    exact Tells.bind t3 (Tells.pure _)
end Go.Proofs.Ytilebfkehmecaaa.Print
namespace Go.Proofs.Ytilebfkehmecaaa.Print
open Go.RowKit Go.Proofs.YtilebfkehmecaaaW.PrintWords Go.Proofs.YtilebfkehmecaaaW.PrintLast Go.Proofs.YtilebfkehmecaaaW.PrintMore
attribute [local go_sem] max2_int min2_int max_two min_two max_three min_three max_four min_four
set_option linter.unusedVariables false
set_option linter.unusedSimpArgs false
open Go.Shelf Go.RowKit
def SeqBy {α : Type} (P : Program) (gf : Nat) (lb : Array Value) (E : α → Array Value → Prop) (its : List α) (w0 : World) : Prop :=
  ∀ (m l : Nat) (J Jx : List α → World → Prop) (go : List α → α → Bool) (W : World), Below w0.heap.size w0 W →
    (∀ pre A B, J pre A → Below W.heap.size A B → J pre B) →
    (∀ pre x av A, J pre A → E x av → Below w0.heap.size w0 A → W.heap.size ≤ A.heap.size → (pre ++ [x]) <+: its → YieldAt Fence.wide m P l av A fun e B =>
      e = .returned (.bool (go pre x)) ∧ (go pre x = true → J (pre ++ [x]) B ∧ Keeps W.heap.size none A B ∧ Below w0.heap.size w0 B) ∧ (go pre x = false → Jx (pre ++ [x]) B)) →
    J [] W →
    CallsIn Fence.wide m P gf (#[.func (.yield l) #[] #[]] ++ lb) W fun e W' => (∃ v, e = .returned v) ∧
      ((stopAt go [] its = none ∧ J its W' ∧ Below w0.heap.size w0 W') ∨ (∃ q, stopAt go [] its = some q ∧ Jx q W'))
def roundBy {α : Type} (S0 : Nat) (w0 : World) (I : List α → World → Prop) (Ix : Code → List α → World → Prop) (go : List α → α → Bool) (pre : List α) (x : α) (W W2 : World) : Exit → Act → World → Prop
  | .normal, _, W3 => go pre x = true ∧ W2.heap.size ≤ W3.heap.size ∧ (∀ k, S0 ≤ k → k < W.heap.size → W3.heap[k]? = W2.heap[k]?) ∧ Below w0.heap.size w0 W3 ∧ I (pre ++ [x]) W3
  | .ret, _, W3 => go pre x = false ∧ (∀ k, S0 ≤ k → k < W.heap.size → W3.heap[k]? = W2.heap[k]?) ∧ Ix .ret (pre ++ [x]) W3
  | .exit id, _, W3 => go pre x = false ∧ (∀ k, S0 ≤ k → k < W.heap.size → W3.heap[k]? = W2.heap[k]?) ∧ Ix (.exit id) (pre ++ [x]) W3
  | _, _, _ => False
theorem below_put (B : Nat) (W : World) {l : Nat} (o : Obj) (h : B ≤ l) : Below B W (W.putObj l o) := by
  have g := grownBy_putObj' W l o
  refine ⟨g.os, g.tape, g.output, g.size, fun k hk => ?_⟩
  exact World.putObj_heap_other (by omega)
set_option maxHeartbeats 2000000 in
theorem wpIn_rangeBy {α : Type} {n : Nat} {P : Program} {g : Operand} {ps : Array Tmp} {assign body : Code} {Q : Exit → Act → World → Prop} {a : Act} {w : World} {gf : Nat} {lb : Array Value}
    (hg : a.eval g = .func (.func gf) #[] lb) (eg : ∀ args w, (callFunc gf args).run P w = .ok (.enter gf args) w)
    {E : α → Array Value → Prop} {its : List α} {w0 : World} (hseq : SeqBy P gf lb E its w0) (hb0 : Below w0.heap.size w0 w) (hps : ∀ x av, E x av → av.size = ps.size)
    (go : List α → α → Bool) (I : List α → World → Prop) (Ix : Code → List α → World → Prop)
    (hI : ∀ pre A B, I pre A → Below w.heap.size A B → I pre B) (hIx : ∀ c pre A (j : Nat) (o o' : Obj), w.heap.size ≤ j → Ix c pre A → A.heap[j]? = some o → o.isCells = false → Ix c pre (A.putObj j o')) (h0 : I [] w)
    (hround : ∀ l pre x av W, I pre W → E x av → (pre ++ [x]) <+: its → Below w0.heap.size w0 W → w.heap.size + 2 ≤ W.heap.size →
      assign.wpIn (Fence.wide.inRound l) n P (Exit.then (fun a1 W1 => W.grownBy W1 none ∧ ∀ W2, W1.grownBy W2 (some (w.heap.size + 1)) → W2.heap.size = W1.heap.size → I pre W2 → Below w0.heap.size w0 W2 →
        body.wpIn (Fence.wide.inRound l) n P (roundBy w.heap.size w0 I Ix go pre x W W2) a1 W2) (fun _ _ _ => False)) { tmps := (ps.zip av).foldl (fun t (p, v) => t.setIfInBounds p v) a.tmps, defers := [] } W)
    (hdone : ∀ W, stopAt go [] its = none → I its W → Below w0.heap.size w0 W → W.heap[w.heap.size]? = some (.deferred (some [])) → Q .normal { a with defers := { target := .collected w.heap.size, args := #[] } :: a.defers } W)
    (hstop : ∀ c q W, stopAt go [] its = some q → Ix c q W → W.heap[w.heap.size]? = some (.deferred (some [])) → c.wpIn Fence.wide n P Q { a with defers := { target := .collected w.heap.size, args := #[] } :: a.defers } W) :
    (Code.rangeFunc g ps assign body).wpIn Fence.wide n P Q a w := by
  refine wpIn_rangeFunc ?_
  intro fn hfn
  obtain ⟨rec, hrec⟩ : ∃ rec : LoopState → Option Code → Loop, rec = fun st pe => { state := st, pending := pe, fn, tmps := a.tmps, params := ps, assign, body, defers := w.heap.size } := ⟨_, rfl⟩
  obtain ⟨W1, hW1⟩ : ∃ W1, (w.alloc (.deferred (some []))).alloc (.loop (rec .ready none)) = W1 := ⟨_, rfl⟩
  have hL1 : W1.heap[w.heap.size + 1]? = some (.loop (rec .ready none)) := by
    rw [← hW1]; have := World.alloc_heap_new (w.alloc (.deferred (some []))) (.loop (rec .ready none)); rwa [World.size_alloc] at this
  have hK1 : W1.heap[w.heap.size]? = some (.deferred (some [])) := by
    rw [← hW1]; exact (Below.heap_alloc _ _ _ (by simp)).trans (World.alloc_heap_new w _)
  have hS1 : W1.heap.size = w.heap.size + 2 := by rw [← hW1]; simp
  have hw1 : Below w.heap.size w W1 := by
    rw [← hW1]; exact ((Below.refl _ w).alloc (Nat.le_refl _) _).alloc (by simp) _
  have hI1 : I [] W1 := hI _ _ _ h0 hw1
  have hb1 : Below w0.heap.size w0 W1 := hb0.trans (hw1.mono hb0.size)
  have hB0 : w0.heap.size ≤ w.heap.size := hb0.size
  refine ⟨w.heap.size + 1, [{ target := .collected w.heap.size, args := #[] }], W1, { target := .fn (.func gf) lb, args := #[.func (.yield (w.heap.size + 1)) #[] #[]] }, W1, gf,
    #[.func (.yield (w.heap.size + 1)) #[] #[]] ++ lb, W1, ?_, ?_, ?_, ?_, wide_depth, ?_⟩
  · rw [← hW1, hrec]; exact run_enterLoop_outer _ _ _ _ _
  · simp only [resolve, hg]
    simp [go_sem]
  · intro f' hf'; trivial
  · simp [invoke, go_sem, eg]
  refine (hseq (n - 1) (w.heap.size + 1)
    (fun pre W => I pre W ∧ W.heap[w.heap.size + 1]? = some (.loop (rec .ready none)) ∧ W.heap[w.heap.size]? = some (.deferred (some [])))
    (fun pre W => ∃ c, Ix c pre W ∧ W.heap[w.heap.size + 1]? = some (.loop (rec .done (some c))) ∧ W.heap[w.heap.size]? = some (.deferred (some [])))
    go W1 hb1
    (fun pre A B hs hb => ⟨hI _ _ _ hs.1 (hb.mono (by omega)), (hb.block _ (by omega)).trans hs.2.1, (hb.block _ (by omega)).trans hs.2.2⟩)
    ?_ ⟨hI1, hL1, hK1⟩).mono ?_
  · rintro pre x av W ⟨hi, hl, hk⟩ hE hbW hsz hpre
    have hlt : w.heap.size + 1 < W.heap.size := (Array.getElem?_eq_some_iff.1 hl).1
    have hy := run_yield (P := P) (args := av) hl (by rw [hrec]; exact hps x av hE)
    rw [hrec] at hy
    refine ⟨fn, _, assign, body, hy, round_any (roundIn_of_wpIn (n := n) trivial ?_)⟩
    refine wpIn_mono (hround (w.heap.size + 1) pre x av W hi hE hpre hbW (by omega)) ?_
    rintro e a1 Wa hp
    cases e with
    | normal =>
      obtain ⟨hga, hbd⟩ := hp
      have hla := (hga.block _ hlt (by simp)).trans hl
      have hka := (hga.block _ (by omega : w.heap.size < W.heap.size) (by simp)).trans hk
      have hgs := hga.size
      have hlta : w.heap.size + 1 < Wa.heap.size := by omega
      refine ⟨_, run_beginRound hla (by rw [hrec]), ?_⟩
      have hg2 := grownBy_putObj' Wa (w.heap.size + 1) (.loop { rec .ready none with state := .busy })
      have hl2 : (Wa.putObj (w.heap.size + 1) (.loop { rec .ready none with state := .busy })).heap[w.heap.size + 1]? = some (.loop { rec .ready none with state := .busy }) := World.putObj_heap_same hlta
      have hk2 : (Wa.putObj (w.heap.size + 1) (.loop { rec .ready none with state := .busy })).heap[w.heap.size]? = some (.deferred (some [])) := (World.putObj_heap_other (by omega)).trans hka
      have hs2 : (Wa.putObj (w.heap.size + 1) (.loop { rec .ready none with state := .busy })).heap.size = Wa.heap.size := by simp
      have hba : Below w.heap.size W Wa := ⟨hga.os, hga.tape, hga.output, hga.size, fun k hk => hga.block k (by omega) (by simp)⟩
      have hb2 : Below w.heap.size W (Wa.putObj (w.heap.size + 1) (.loop { rec .ready none with state := .busy })) := hba.trans (below_put _ _ _ (by omega))
      generalize Wa.putObj (w.heap.size + 1) (.loop { rec .ready none with state := .busy }) = W2 at hg2 hl2 hk2 hs2 hb2 ⊢
      refine wpIn_mono (hbd W2 hg2 hs2 (hI _ _ _ hi hb2) (hbW.trans (hb2.mono hB0))) ?_
      have fin : ∀ (jump : Option Code) (W3 : World), (∀ k, w.heap.size ≤ k → k < W.heap.size → W3.heap[k]? = W2.heap[k]?) →
          (Instr.endRound (w.heap.size + 1) jump).run P W3 = .ok (.bool jump.isNone) (W3.putObj (w.heap.size + 1) (.loop (rec (if jump.isNone then .ready else .done) jump))) ∧
          (W3.putObj (w.heap.size + 1) (.loop (rec (if jump.isNone then .ready else .done) jump))).heap[w.heap.size + 1]? = some (.loop (rec (if jump.isNone then .ready else .done) jump)) ∧
          (W3.putObj (w.heap.size + 1) (.loop (rec (if jump.isNone then .ready else .done) jump))).heap[w.heap.size]? = some (.deferred (some [])) ∧ W3.heap[w.heap.size + 1]? = some (.loop { rec .ready none with state := .busy }) := fun jump W3 hk3 => by
        have hl3 := (hk3 _ (by omega) hlt).trans hl2
        have := run_endRound (P := P) jump hl3
        rw [hrec] at this ⊢
        exact ⟨this, World.putObj_heap_same (Array.getElem?_eq_some_iff.1 hl3).1, (World.putObj_heap_other (by omega)).trans ((hk3 _ (Nat.le_refl _) (by omega)).trans hk2), by rw [hrec] at hl3; exact hl3⟩
      rintro e3 a3 W3 hq
      cases e3 with
      | normal =>
        obtain ⟨hgo, hsz3, hk3, hb3, hi3⟩ := hq
        obtain ⟨hr, hl4, hk4, hl3⟩ := fin none W3 hk3
        have hp3 := below_put w.heap.size W3 (.loop (rec .ready none)) (by omega : w.heap.size ≤ w.heap.size + 1)
        have hg3 := grownBy_putObj' W3 (w.heap.size + 1) (.loop (rec .ready none))
        refine ⟨_, _, hr, by rw [hgo]; rfl, fun _ => ⟨⟨hI _ _ _ hi3 hp3, hl4, hk4⟩, ⟨?_, ?_⟩, hb3.trans (hp3.mono hB0)⟩, fun h => by rw [hgo] at h; cases h⟩
        · have := hg3.size; simp only [Option.isNone_none, if_true]; omega
        · intro k h1 h2 _
          simp only [Option.isNone_none, if_true]
          rw [World.putObj_heap_other (by omega), hk3 k (by omega) h2, hg2.block k (by omega) (by intro e; injection e with e; omega)]
          exact hga.block k h2 (by simp)
      | ret =>
        obtain ⟨hgo, hk3, hi3⟩ := hq
        obtain ⟨hr, hl4, hk4, hl3⟩ := fin (some .ret) W3 hk3
        exact ⟨_, _, hr, by rw [hgo]; rfl, fun h => (by rw [hgo] at h; cases h), fun _ => ⟨.ret, hIx _ _ _ _ _ _ (by omega) hi3 hl3 rfl, hl4, hk4⟩⟩
      | exit id =>
        obtain ⟨hgo, hk3, hi3⟩ := hq
        obtain ⟨hr, hl4, hk4, hl3⟩ := fin (some (.exit id)) W3 hk3
        exact ⟨_, _, hr, by rw [hgo]; rfl, fun h => (by rw [hgo] at h; cases h), fun _ => ⟨.exit id, hIx _ _ _ _ _ _ (by omega) hi3 hl3 rfl, hl4, hk4⟩⟩
      | goto t => exact hq.elim
      | panic ch => exact hq.elim
      | outgrown => exact hq.elim
    | ret => exact hp.elim
    | exit id => exact hp.elim
    | goto t => exact hp.elim
    | panic ch => exact hp.elim
    | outgrown => exact hp.elim
  · rintro e W2 ⟨⟨v, rfl⟩, (⟨hS, ⟨hi, hl, hk⟩, hb2⟩ | ⟨q, hS, c, hi, hl, hk⟩)⟩
    · have hp3 := below_put w.heap.size W2 (.loop (rec .exhausted none)) (by omega : w.heap.size ≤ w.heap.size + 1)
      exact ⟨none, _, by have := run_endLoop (P := P) hl (by rw [hrec]; simp); rw [hrec] at this; exact this, hdone _ hS (hI _ _ _ hi (below_put _ _ _ (by omega))) (hb2.trans ((below_put _ _ _ (by omega)).mono hB0)) ((World.putObj_heap_other (by omega)).trans hk)⟩
    · exact ⟨some c, _, by have := run_endLoop (P := P) hl (by rw [hrec]; simp); rw [hrec] at this; exact this, hstop c q _ hS (hIx _ _ _ _ _ _ (by omega) hi hl rfl) ((World.putObj_heap_other (by omega)).trans hk)⟩
end Go.Proofs.Ytilebfkehmecaaa.Print
namespace Go.Proofs.Ytilebfkehmecaaa.Print
open Go.RowKit Go.Proofs.YtilebfkehmecaaaW.PrintWords Go.Proofs.YtilebfkehmecaaaW.PrintLast Go.Proofs.YtilebfkehmecaaaW.PrintMore
attribute [local go_sem] max2_int min2_int max_two min_two max_three min_three max_four min_four
set_option linter.unusedVariables false
set_option linter.unusedSimpArgs false
open Go.Shelf Go.RowKit
attribute [local go_sem] Oper.semAt_some
def itemAt (w0 : World) (x : Int × S64) (av : Array Value) : Prop := ∃ v, av = #[.int .i64 x.1, v] ∧ StmtAt w0 x.2 v
set_option maxHeartbeats 2000000 in
set_option maxRecDepth 100000 in
theorem prog_each.seq (w0 : World) (bp : Nat) (A : Option Addr) (c : Nat) (l : List S64) (its : List (Int × S64)) (n' : Int) (k : Nat)
    (hcell : w0.cell? ⟨bp, 2, none⟩ = some (.slice A l.length c)) (hr : Kd.C k64 w0 A l.length l) (hc : l.length ≤ c) (h : prog_walk.f k l 0 = some (its, n')) :
    SeqBy Try.prog 120 #[.pointer (some ⟨bp, 0, none⟩)] (itemAt w0) its w0 := by
  intro m rl J Jx go W hb hJ hY hJ0
  refine callsIn_of_wp Try.func120 rfl trivial ?_ rfl
  simp only [Try.ntmps120, List.size_toArray, List.length_cons, List.length_nil, Nat.reduceAdd, Nat.reduceSub, Array.replicate_succ, Array.replicate_zero, List.push_toArray, List.append_toArray, List.nil_append, List.cons_append]
  have hcw : W.cell? ⟨bp, 2, none⟩ = some (.slice A l.length c) := (hb.cell (World.block_lt_of_cell? w0 _ hcell)).trans hcell
  have hlt := World.block_lt_of_cell? W _ hcw
  have hS := hb.size
  have key : ∀ W2 : World, Below W.heap.size W W2 → W2.heap[W.heap.size]? = some (.cells #[.int .i64 0] 3 (0, 0)) →
      CallsIn Fence.wide m Try.prog 121 #[.slice A l.length c, .pointer (some ⟨W.heap.size, 0, none⟩), .func (.yield rl) #[] #[]] W2 (fun e W' => ∃ b, e = .returned (.bool b) ∧ ((stopAt go [] its = none ∧ J its W' ∧ Below w0.heap.size w0 W') ∨ (∃ q, stopAt go [] its = some q ∧ Jx q W'))) := by
    intro W2 h1 h2
    refine (prog_walk.walkIn w0 rl W.heap.size m J Jx go its hS hJ ?_ k l 0 its n' [] W2 W.heap.size A c h hr hc (hb.trans (h1.mono hS)) h2 (Nat.le_refl _) (hJ _ _ _ hJ0 h1) (by simp)).mono ?post
    case post =>
      rintro e W3 (⟨h0, rfl, hj, _, _, hb3⟩ | ⟨q, h0, rfl, hx⟩)
      · exact ⟨_, rfl, .inl ⟨h0, by simpa using hj, hb3⟩⟩
      · exact ⟨_, rfl, .inr ⟨q, h0, by simpa using hx⟩⟩
    intro pre x v A1 hj hv hb1 hsz hp
    exact hY pre x _ A1 hj ⟨v, rfl, hv⟩ hb1 hsz hp
  gi_wp2_with (first | (refine ⟨trivial, wide_depth, ?_⟩; refine (calls_any (m' := m - 1) (key _ ?k1 ?k2)).mono ?_; (case k1 => exact (Below.refl _ _).alloc (Nat.le_refl _) _); (case k2 => exact heap_alloc_new _ _); rintro e W3 ⟨b, rfl, hw⟩))
  go_end0
  exact ⟨⟨_, rfl⟩, hw⟩
end Go.Proofs.Ytilebfkehmecaaa.Print
namespace Go.Proofs.Ytilebfkehmecaaa.Print
open Go.RowKit Go.Proofs.YtilebfkehmecaaaW.PrintWords Go.Proofs.YtilebfkehmecaaaW.PrintLast Go.Proofs.YtilebfkehmecaaaW.PrintMore
attribute [local go_sem] max2_int min2_int max_two min_two max_three min_three max_four min_four
set_option linter.unusedVariables false
set_option linter.unusedSimpArgs false
open Go.Shelf Go.RowKit
set_option maxHeartbeats 2000000 in
set_option maxRecDepth 100000 in
theorem prog_each.fn (a b c : Value) (w : World) :
    Calls Try.prog 102 #[.agg #[a, b, c]] w fun e w' => e = .returned (.func (.func 120) #[] #[.pointer (some ⟨w.heap.size, 0, none⟩)]) ∧ Below w.heap.size w w' ∧ w'.heap[w.heap.size]? = some (.cells #[a, b, c] 25 (0, 0)) := by
  have huP := Try.underlying25
  refine calls_of_wp Try.func102 rfl ?_
  simp only [Try.ntmps102, List.size_toArray, List.length_cons, List.length_nil, Nat.reduceAdd, Nat.reduceSub, Array.replicate_succ, Array.replicate_zero, List.push_toArray, List.append_toArray, List.nil_append, List.cons_append]
  go_wp2
  go_ret
  exact ⟨rfl, (Below.refl _ _).alloc (Nat.le_refl _) _, heap_alloc_new _ _⟩
end Go.Proofs.Ytilebfkehmecaaa.Print
namespace Go.Proofs.Ytilebfkehmecaaa.Print
open Go.RowKit Go.Proofs.YtilebfkehmecaaaW.PrintWords Go.Proofs.YtilebfkehmecaaaW.PrintLast Go.Proofs.YtilebfkehmecaaaW.PrintMore
attribute [local go_sem] max2_int min2_int max_two min_two max_three min_three max_four min_four
set_option linter.unusedVariables false
set_option linter.unusedSimpArgs false
open Go.Shelf Go.RowKit
attribute [local go_sem] Oper.semAt_some
theorem size_cell (W : World) (p : Addr) (u : Value) : (W.setCell p u).heap.size = W.heap.size := by simp [World.setCell]
theorem below_cell {n B i : Nat} (W : World) (u : Value) (h : n ≤ B) : Below n W (W.setCell ⟨B, i, none⟩ u) := ⟨rfl, rfl, rfl, by rw [size_cell]; exact Nat.le_refl _, fun k hk => Below.heap_setCell _ _ _ _ (by intro e; simp at e; omega)⟩
theorem stop_none {α : Type} {p : α → Bool} : ∀ (its pre : List α), stopAt (fun _ x => !p x) pre its = none → its.find? p = none
  | [], _, _ => rfl
  | x :: r, pre, h => by
    rw [stopAt] at h
    cases hp : p x with
    | true => simp [hp] at h
    | false =>
      simp [hp] at h
      rw [List.find?_cons, hp]
      exact stop_none r _ h
def prog_Single.f (k : Nat) (a0_0 : Int) (l0_1 : List S66) (l0_2 : List S64) : Option (Bool × Int) :=
  (prog_Check.f k a0_0 l0_1 l0_2).bind fun t => if t = 0 then (if l0_1.any (fun v => decide (v.f1 > 15)) = true then some (false, 0) else (prog_walk.f k l0_2 0).bind fun its => some (!(its.1.any (fun x => decide (x.2.f0 = 3) && decide (x.2.f1 > 15))), 0)) else some (false, 30)
theorem three_boxes (w : World) (a b c : Obj) : Below w.heap.size w (((w.alloc a).alloc b).alloc c) ∧ (((w.alloc a).alloc b).alloc c).heap[w.heap.size]? = some a ∧ (((w.alloc a).alloc b).alloc c).heap[w.heap.size + 1]? = some b ∧ (((w.alloc a).alloc b).alloc c).heap[w.heap.size + 1 + 1]? = some c := by
  refine ⟨bal (bal (bal (Below.refl _ _) _) _) _, kal (kal (blk_new _ _) _) _, ?_, ?_⟩
  · have := blk_new (w.alloc a) b
    exact kal (by simpa using this) _
  · have := blk_new ((w.alloc a).alloc b) c
    simpa using this
theorem store_pair {W : World} {B C : Nat} {t s : TypeId} {x y : Value} (hne : B ≠ C) (hs : W.heap[B]? = some (.cells #[x] t (0, 0))) (he : W.heap[C]? = some (.cells #[y] s (0, 0))) (u v : Value) {W' : World} (hW : (W.setCell ⟨B, 0, none⟩ u).setCell ⟨C, 0, none⟩ v = W') :
    W'.heap[B]? = some (.cells #[u] t (0, 0)) ∧ W'.heap[C]? = some (.cells #[v] s (0, 0)) ∧ W'.heap.size = W.heap.size ∧ (∀ k, k ≠ B → k ≠ C → W'.heap[k]? = W.heap[k]?) ∧ (∀ n, n ≤ B → n ≤ C → Below n W W') := by
  subst hW
  have h0 := blk_put hs 0 u (cs' := #[u]) rfl
  have k0 := blk_far he (p := ⟨B, 0, none⟩) (Ne.symm hne) u
  exact ⟨blk_far h0 hne v, blk_put k0 0 v rfl, by simp only [size_cell], fun k h1 h2 => by rw [Below.heap_setCell _ _ _ _ h2, Below.heap_setCell _ _ _ _ h1], fun n h1 h2 => (below_cell W u h1).trans (below_cell _ v h2)⟩
theorem results_be {P : Program} {fn : Func} {p q : Tmp} {tB tE : TypeId} (h : fn.results = #[.cell p tB, .cell q tE]) (tmps : Array Value) (w : World) (g g2 : Nat) (b : Bool) (v : Int) (hp : tmps.getD p undef = .pointer (some ⟨g, 0, none⟩)) (hq : tmps.getD q undef = .pointer (some ⟨g2, 0, none⟩))
    (hg : w.heap[g]? = some (.cells #[.bool b] tB (0, 0))) (hg2 : w.heap[g2]? = some (.cells #[.int .i64 v] tE (0, 0))) (hu1 : P.underlying tB = some .bool) (hu2 : P.underlying tE = some (.int .i64)) :
    (results fn tmps).run P w = .ok (.tuple #[.bool b, .int .i64 v]) w := by
  have hp' : tmps[p]?.getD undef = .pointer (some ⟨g, 0, none⟩) := by simpa using hp
  have hq' : tmps[q]?.getD undef = .pointer (some ⟨g2, 0, none⟩) := by simpa using hq
  have hc : w.cell? ⟨g2, 0, none⟩ = some (.int .i64 v) := (blk_cell hg2 0).trans rfl
  have hd : w.cell? ⟨g, 0, none⟩ = some (.bool b) := (blk_cell hg 0).trans rfl
  have hagg : (isAgg tE).run P w = .ok false w := by
    unfold isAgg
    rw [Sem.run_bind, run_underlying hu2 w]
    simp
  have hagg1 : (isAgg tB).run P w = .ok false w := by
    unfold isAgg
    rw [Sem.run_bind, run_underlying hu1 w]
    simp
  have h2 : (loadVar tE ⟨g2, 0, none⟩).run P w = .ok (.int .i64 v) w := by simp [loadVar, Sem.run_bind, hagg, go_sem, hc, Result.andThen]
  have h1 : (loadVar tB ⟨g, 0, none⟩).run P w = .ok (.bool b) w := by simp [loadVar, Sem.run_bind, hagg1, go_sem, hd, Result.andThen]
  generalize hL1 : loadVar tB ⟨g, 0, none⟩ = L1 at h1
  generalize hL2 : loadVar tE ⟨g2, 0, none⟩ = L2 at h2
  simp [results, h, Sem.run_bind, hp', hq', asAddr, Result.andThen, hL1, hL2, h1, h2]
theorem stop_some {α : Type} {p : α → Bool} : ∀ (its pre q : List α), stopAt (fun _ x => !p x) pre its = some q → its.any p = true
  | [], _, _, h => by cases h
  | x :: r, pre, q, h => by
    rw [stopAt] at h
    cases hp : p x with
    | true => simp [hp]
    | false =>
      simp [hp] at h
      obtain ⟨q', hq, _⟩ := h
      simp only [List.any_cons, hp, Bool.false_or]
      exact stop_some r _ q' hq
theorem none_any {α : Type} {p : α → Bool} {its : List α} (h : its.find? p = none) : its.any p = false := by
  rw [List.find?_eq_none] at h
  rw [List.any_eq_false]
  exact h
def narrow (l : List S66) (i : Int) : Prop := ∀ j : Nat, (j : Int) < i → ∀ v, l[j]? = some v → ¬ v.f1 > 15
theorem narrow_all {l : List S66} {i : Int} (h : narrow l i) (hi : ¬ i < (l.length : Int)) : l.any (fun v => decide (v.f1 > 15)) = false := by
  rw [List.any_eq_false]
  intro v hv
  obtain ⟨j, hj, e⟩ := List.mem_iff_getElem.1 hv
  have := h j (by omega) v (by rw [List.getElem?_eq_getElem hj, e])
  simpa using this
theorem wide_any {l : List S66} {i : Int} (h0 : 0 ≤ i) (h1 : i < (l.length : Int)) (h : (rd_T66 l i).f1 > 15) : l.any (fun v => decide (v.f1 > 15)) = true := by
  rw [List.any_eq_true]
  have hj : i.toNat < l.length := by omega
  refine ⟨l[i.toNat], List.getElem_mem hj, ?_⟩
  have e : rd_T66 l i = l[i.toNat] := by simp [rd_T66, List.getD_eq_getElem?_getD, List.getElem?_eq_getElem hj]
  rw [e] at h
  simpa using h
theorem narrow_step {l : List S66} {i : Int} (hn : narrow l i) (h0 : 0 ≤ i) (h : ¬ (rd_T66 l i).f1 > 15) : narrow l (i + 1) := by
  intro j hj v hv
  by_cases he : (j : Int) = i
  · have e : rd_T66 l i = v := by
      have : i.toNat = j := by omega
      simp [rd_T66, List.getD_eq_getElem?_getD, this, hv]
    rw [e] at h
    exact h
  · exact hn j (by omega) v hv
set_option maxHeartbeats 8000000 in
set_option maxRecDepth 100000 in
theorem prog_Single.calls (k : Nat) (a0_0 : Int) (A0_1 : Option Addr) (c0_1 : Nat) (l0_1 : List S66) (A0_2 : Option Addr) (c0_2 : Nat) (l0_2 : List S64) (r1 : Bool) (r2 : Int) (w : World)
    (hr0_1 : Kd.C k66 w A0_1 l0_1.length l0_1) (hc0_1 : l0_1.length ≤ c0_1) (hr0_2 : Kd.C k64 w A0_2 l0_2.length l0_2) (hc0_2 : l0_2.length ≤ c0_2) (h : prog_Single.f k a0_0 l0_1 l0_2 = some (r1, r2)) :
    Calls Try.prog 79 #[.agg #[.int .i64 a0_0, .slice A0_1 l0_1.length c0_1, .slice A0_2 l0_2.length c0_2]] w fun e w' => e = .returned (.tuple #[.bool r1, .int .i64 r2]) ∧ Below w.heap.size w w' := by
  refine callsIn_wide.1 (?_ : CallsIn Fence.wide 9 _ _ _ _ _)
  have huP := Try.underlying25
  have huS := Try.underlying64
  have huV := Try.underlying66
  have huE := Try.underlying32
  have huB := Try.underlying4
  refine callsIn_of_wp_marks Try.func79 rfl trivial ?_ rfl
  simp only [Try.ntmps79, List.size_toArray, List.length_cons, List.length_nil, Nat.reduceAdd, Nat.reduceSub, Array.replicate_succ, Array.replicate_zero, List.push_toArray, List.append_toArray, List.nil_append, List.cons_append]
  unfold prog_Single.f at h
  obtain ⟨tc, AC0, H0⟩ := Option.bind_eq_some_iff.mp h
  clear h
  have HR1 := Aside0.mk hr0_1
  have HC1 := Aside0.mk hc0_1
  have HR2 := Aside0.mk hr0_2
  have HC2 := Aside0.mk hc0_2
  have AC := Aside0.mk AC0
  have H := Aside0.mk H0
  clear hr0_1 hc0_1 hr0_2 hc0_2 AC0 H0
  have FB := three_boxes w (.cells #[.int .i64 a0_0, .slice A0_1 l0_1.length c0_1, .slice A0_2 l0_2.length c0_2] 25) (.cells #[.bool false] 4) (.cells #[.int .i64 0] 32)
  gi_wp2
  generalize (((w.alloc (.cells #[.int .i64 a0_0, .slice A0_1 l0_1.length c0_1, .slice A0_2 l0_2.length c0_2] 25)).alloc (.cells #[.bool false] 4)).alloc (.cells #[.int .i64 0] 32)) = W1 at FB ⊢
  obtain ⟨b1, p1, s1, e1⟩ := FB
  refine ⟨trivial, ?_⟩
  refine (callsIn_wide.2 (prog_Check.calls k a0_0 _ _ l0_1 _ _ l0_2 tc W1 (Kd.C_below HR1.out b1) HC1.out (Kd.C_below HR2.out b1) HC2.out AC.out)).mono ?_
  rintro e W2 ⟨rfl, hb2⟩
  have b2 := b1.trans (hb2.mono b1.size)
  have p2 := (hb2.block _ (blk_lt p1)).trans p1
  have s2 := (hb2.block _ (blk_lt s1)).trans s1
  have e2 := (hb2.block _ (blk_lt e1)).trans e1
  clear p1 s1 e1 hb2 AC b1
  by_cases htc : tc = 0
  case neg =>
    have h := H.out
    rw [if_neg htc] at h
    obtain ⟨rfl, rfl⟩ : r1 = false ∧ r2 = 30 := by
      injection (Option.some.inj h) with e1 e2
      exact ⟨e1.symm, e2.symm⟩
    clear h H
    have g1 : (tc == 0) = false := beq_eq_false_iff_ne.mpr htc
    have g2 : (tc != 0) = true := bne_iff_ne.mpr htc
    have c0 : W2.cell? ⟨w.heap.size + 1, 0, none⟩ = some (.bool false) := (blk_cell s2 0).trans rfl
    have d0 : W2.cell? ⟨w.heap.size + 1 + 1, 0, none⟩ = some (.int .i64 0) := (blk_cell e2 0).trans rfl
    have f0 := blk_frozen s2 0
    have f5 := blk_frozen e2 0
    gi_wp2
    generalize hW : (W2.setCell ⟨w.heap.size + 1, 0, none⟩ (.bool false)).setCell ⟨w.heap.size + 1 + 1, 0, none⟩ (.int .i64 30) = W3
    obtain ⟨t1, t2, _, _, t5⟩ := store_pair (by omega) s2 e2 _ _ hW
    exact ⟨_, results_be rfl _ _ (w.heap.size + 1) (w.heap.size + 1 + 1) false 30 rfl rfl t1 t2 huB huE, rfl, b2.trans (t5 _ (by omega) (by omega))⟩
  case pos =>
    subst htc
    have h := H.out
    rw [if_pos rfl] at h
    have H1 := Aside0.mk h
    clear H h
    obtain ⟨c0, c1, c2⟩ := cells3 p2
    have S2 := Aside0.mk s2
    have E2 := Aside0.mk e2
    have P2 := Aside0.mk p2
    have B2 := Aside0.mk b2
    clear s2 e2 p2 b2
    gi_wp2
    gi_loopw [14] (fun v14 wr => ∃ i : Int, v14 = .int .i64 i ∧ Aside0 (0 ≤ i) ∧ Aside0 (narrow l0_1 i) ∧ Aside0 (Below W2.heap.size W2 wr)) (fun v14 _ => l0_1.length - (intOf v14).toNat)
    case atStart => exact ⟨0, rfl, ⟨Int.le_refl _⟩, ⟨fun j hj => by omega⟩, ⟨Below.refl _ _⟩⟩
    case round =>
      obtain ⟨i, rfl, HI0, HN, HW⟩ := hrel
      clear c0 c1 c2
      have hi0 := HI0.out
      have hl : l0_1.length ≤ 9223372036854775807 := HR1.out.2.1
      have b4 := B2.out.trans (HW.out.mono B2.out.size)
      have s4 := (HW.out.block _ (blk_lt S2.out)).trans S2.out
      have e4 := (HW.out.block _ (blk_lt E2.out)).trans E2.out
      have p4 := (HW.out.block _ (blk_lt P2.out)).trans P2.out
      by_cases hlt : i < (l0_1.length : Int)
      case pos =>
        have hld : decide (i < (l0_1.length : Int)) = true := decide_eq_true hlt
        have hz : decide (0 ≤ i) = true := decide_eq_true hi0
        obtain ⟨ad, eA, q0, q1, q2⟩ := at_T66 HR1.out i hi0 hlt
        cases eA
        replace q0 := (b4.cell (World.block_lt_of_cell? w _ q0)).trans q0
        replace q1 := (b4.cell (World.block_lt_of_cell? w _ q1)).trans q1
        replace q2 := (b4.cell (World.block_lt_of_cell? w _ q2)).trans q2
        by_cases hwd : (rd_T66 l0_1 i).f1 > 15
        case pos =>
          have hwt : decide ((rd_T66 l0_1 i).f1 > 15) = true := decide_eq_true hwd
          have hany := wide_any hi0 hlt hwd
          have h := H1.out
          rw [if_pos hany] at h
          obtain ⟨rfl, rfl⟩ : r1 = false ∧ r2 = 0 := by
            injection (Option.some.inj h) with e1 e2
            exact ⟨e1.symm, e2.symm⟩
          have l1 := blk_lt s4
          have l2 := blk_lt e4
          have c0 : wr.cell? ⟨w.heap.size + 1, 0, none⟩ = some (.bool false) := (blk_cell s4 0).trans rfl
          have d0 : wr.cell? ⟨w.heap.size + 1 + 1, 0, none⟩ = some (.int .i64 0) := (blk_cell e4 0).trans rfl
          have f0 := blk_frozen s4 0
          have f5 := blk_frozen e4 0
          gi_wp2
          generalize hW : (wr.setCell ⟨w.heap.size + 1, 0, none⟩ (.bool false)).setCell ⟨w.heap.size + 1 + 1, 0, none⟩ (.int .i64 0) = W4
          obtain ⟨t1, t2, _, _, t5⟩ := store_pair (by omega) s4 e4 _ _ hW
          exact ⟨_, results_be rfl _ _ (w.heap.size + 1) (w.heap.size + 1 + 1) false 0 rfl rfl (kal t1 _) (kal t2 _) huB huE, rfl, bal (b4.trans (t5 _ (by omega) (by omega))) _⟩
        case neg =>
          have hwt : decide ((rd_T66 l0_1 i).f1 > 15) = false := decide_eq_false hwd
          gi_wp2
          have e1 : intOf (Value.int IntKind.i64 (i + 1)) = i + 1 := rfl
          have e2 : intOf (Value.int IntKind.i64 i) = i := rfl
          refine ⟨⟨i + 1, rfl, ⟨by omega⟩, ⟨narrow_step HN.out hi0 hwd⟩, ⟨bal HW.out _⟩⟩, ?_⟩
          rw [e1, e2]
          omega
      case neg =>
        have hld : decide (i < (l0_1.length : Int)) = false := decide_eq_false hlt
        have hany := narrow_all HN.out hlt
        have h := H1.out
        rw [if_neg (by rw [hany]; simp)] at h
        obtain ⟨⟨its, n'⟩, WK0, h⟩ := Option.bind_eq_some_iff.mp h
        have WK := Aside0.mk WK0
        have PK := Aside0.mk (Option.some.inj h)
        clear h H1 WK0
        obtain ⟨c0, c1, c2⟩ := cells3 p4
        gi_wp2_with (first | (refine ⟨trivial, ?_⟩; refine (callsIn_wide.2 (prog_each.fn _ _ _ wr)).mono ?_; rintro e W3 ⟨rfl, hb3, q3⟩))
        have b3 := b4.trans (hb3.mono b4.size)
        have s3 := (hb3.block _ (blk_lt s4)).trans s4
        have e3 := (hb3.block _ (blk_lt e4)).trans e4
        clear c0 c1 c2 p4 s4 e4
        have hcell : W3.cell? ⟨wr.heap.size, 2, none⟩ = some (.slice A0_2 l0_2.length c0_2) := (blk_cell q3 2).trans rfl
        refine wpIn_rangeBy (gf := 120) (lb := #[.pointer (some ⟨wr.heap.size, 0, none⟩)]) rfl (enters_of Try.func120 (by kernel_rfl) rfl)
          (prog_each.seq W3 wr.heap.size A0_2 c0_2 l0_2 its n' k hcell (Kd.C_below HR2.out b3) HC2.out WK.out) (Below.refl _ _) (by rintro x av ⟨v, rfl, _⟩; rfl)
          (fun _ x => !(decide (x.2.f0 = 3) && decide (x.2.f1 > 15)))
          (fun _ W => Below W3.heap.size W3 W)
          (fun c _ W => c = .ret ∧ W.heap[w.heap.size + 1]? = some (.cells #[.bool false] 4 (0, 0)) ∧ W.heap[w.heap.size + 1 + 1]? = some (.cells #[.int .i64 0] 32 (0, 0)) ∧ Below w.heap.size w W)
          (fun pre A B h hb => h.trans hb) ?hIx (Below.refl _ _) ?round ?done ?stop
        case hIx =>
          rintro c pre A j o o' hj ⟨hc, h1, h2, hb⟩ hA ho
          have ne : ∀ {k : Nat} {cs : Array Value} {t : TypeId}, A.heap[k]? = some (.cells cs t (0, 0)) → k ≠ j := by
            intro k cs t hk e
            subst e
            rw [hA] at hk
            cases hk
            cases ho
          have hS3 := b3.size
          exact ⟨hc, (World.putObj_heap_other (ne h1)).trans h1, (World.putObj_heap_other (ne h2)).trans h2, hb.trans (below_put _ _ _ (by omega))⟩
        case stop =>
          rintro c q W hst ⟨rfl, t1, t2, hb⟩ hD
          have hB3 := blk_lt e3
          have hS3 := b3.size
          have ha := stop_some (p := fun x : Int × S64 => decide (x.2.f0 = 3) && decide (x.2.f1 > 15)) _ _ _ hst
          obtain ⟨rfl, rfl⟩ : r1 = false ∧ r2 = 0 := by
            injection PK.out with e1 e2
            exact ⟨by rw [← e1]; simp [ha], e2.symm⟩
          gi_wp2
          refine ⟨by simp, .inl ⟨_, _, rfl, run_takeDeferred hD, ?_⟩⟩
          exact ⟨_, results_be rfl _ _ (w.heap.size + 1) (w.heap.size + 1 + 1) false 0 rfl rfl ((World.putObj_heap_other (by omega)).trans t1) ((World.putObj_heap_other (by omega)).trans t2) huB huE, rfl, hb.trans (below_put _ _ _ hS3)⟩
        case done =>
          rintro W hst hbW _ hD
          have ha := none_any (stop_none (p := fun x : Int × S64 => decide (x.2.f0 = 3) && decide (x.2.f1 > 15)) _ _ hst)
          obtain ⟨rfl, rfl⟩ : r1 = true ∧ r2 = 0 := by
            injection PK.out with e1 e2
            exact ⟨by rw [← e1]; simp [ha], e2.symm⟩
          have hB3 := blk_lt e3
          have hS3 := b3.size
          have s4 := (hbW.block _ (blk_lt s3)).trans s3
          have e4 := (hbW.block _ (blk_lt e3)).trans e3
          have c0 : W.cell? ⟨w.heap.size + 1, 0, none⟩ = some (.bool false) := (blk_cell s4 0).trans rfl
          have d0 : W.cell? ⟨w.heap.size + 1 + 1, 0, none⟩ = some (.int .i64 0) := (blk_cell e4 0).trans rfl
          have f0 := blk_frozen s4 0
          have f5 := blk_frozen e4 0
          gi_wp2
          generalize hW : (W.setCell ⟨w.heap.size + 1, 0, none⟩ (.bool true)).setCell ⟨w.heap.size + 1 + 1, 0, none⟩ (.int .i64 0) = W6
          obtain ⟨t1, t2, _, t4, t5⟩ := store_pair (by omega) s4 e4 _ _ hW
          refine ⟨by simp, .inl ⟨_, _, rfl, run_takeDeferred ((t4 _ (by omega) (by omega)).trans hD), ?_⟩⟩
          exact ⟨_, results_be rfl _ _ (w.heap.size + 1) (w.heap.size + 1 + 1) true 0 rfl rfl ((World.putObj_heap_other (by omega)).trans t1) ((World.putObj_heap_other (by omega)).trans t2) huB huE, rfl, b3.trans ((hbW.mono hS3).trans ((t5 _ (by omega) (by omega)).trans (below_put _ _ _ hS3)))⟩
        case round =>
          rintro l pre x av W hbW ⟨v, rfl, hv⟩ hpre _ hsz
          obtain ⟨A2, z2, A3, z3, A4, z4, rfl, ql2, qr2, ql3, qr3, ql4, qr4⟩ := hv
          gi_wp2
          refine ⟨World.grownBy_alloc _ _ _, ?_⟩
          intro W4 hg4 hs4 hi4 hb4
          have x4 : W4.heap[W.heap.size]? = some (.cells #[.int .i64 x.2.f0, .int .i64 x.2.f1, .slice A2 x.2.f2.length z2, .slice A3 x.2.f3.length z3, .slice A4 x.2.f4.length z4] 64 (0, 0)) :=
            (hg4.block W.heap.size (by simp) (by intro e; injection e with e; omega)).trans (heap_alloc_new _ _)
          have hB3 := blk_lt e3
          have hS3 := b3.size
          have s4 := (hi4.block _ (blk_lt s3)).trans s3
          have e4 := (hi4.block _ (blk_lt e3)).trans e3
          obtain ⟨m0, m1, m2, m3, m4⟩ := cells5 x4
          have hsW : W4.heap.size = W.heap.size + 1 := by rw [hs4]; simp
          have c0 : W4.cell? ⟨w.heap.size + 1, 0, none⟩ = some (.bool false) := (blk_cell s4 0).trans rfl
          have d0 : W4.cell? ⟨w.heap.size + 1 + 1, 0, none⟩ = some (.int .i64 0) := (blk_cell e4 0).trans rfl
          have f0 := blk_frozen s4 0
          have f5 := blk_frozen e4 0
          by_cases h3 : x.2.f0 = 3
          case neg =>
            have h3d : decide (x.2.f0 = 3) = false := decide_eq_false h3
            have h3b : (x.2.f0 == 3) = false := beq_eq_false_iff_ne.mpr h3
            gi_wp2
            exact ⟨by simp [h3d], Nat.le_refl _, fun k _ _ => rfl, hb4, hi4⟩
          case pos =>
            have h3d : decide (x.2.f0 = 3) = true := decide_eq_true h3
            have h3b : (x.2.f0 == 3) = true := beq_iff_eq.mpr h3
            by_cases h5 : x.2.f1 > 15
            case neg =>
              have h5d : decide (x.2.f1 > 15) = false := decide_eq_false h5
              gi_wp2
              exact ⟨by simp [h3d, h5d], Nat.le_refl _, fun k _ _ => rfl, hb4, hi4⟩
            case pos =>
              have h5d : decide (x.2.f1 > 15) = true := decide_eq_true h5
              gi_wp2
              generalize hW : (W4.setCell ⟨w.heap.size + 1, 0, none⟩ (.bool false)).setCell ⟨w.heap.size + 1 + 1, 0, none⟩ (.int .i64 0) = W6
              obtain ⟨t1, t2, _, t4, t5⟩ := store_pair (by omega) s4 e4 _ _ hW
              exact ⟨by simp [h3d, h5d], fun k h1 h2 => t4 k (by omega) (by omega), rfl, t1, t2, b3.trans ((hi4.mono hS3).trans (t5 _ (by omega) (by omega)))⟩
end Go.Proofs.Ytilebfkehmecaaa.Print
namespace Go.Proofs.Ytilebfkehmecaaa.Print
open Go.RowKit Go.Proofs.YtilebfkehmecaaaW.PrintWords Go.Proofs.YtilebfkehmecaaaW.PrintLast Go.Proofs.YtilebfkehmecaaaW.PrintMore
attribute [local go_sem] max2_int min2_int max_two min_two max_three min_three max_four min_four
set_option linter.unusedVariables false
set_option linter.unusedSimpArgs false
def prod_single.f (k : Nat) (a0_0 : Int) (l0_1 : List (S66)) (l0_2 : List (S64)) : Option (Int) := (prog_Single.f k a0_0 l0_1 l0_2).bind fun bt145 => (if bt145.2 = 0 then (if bt145.1 = true then (some bt145.2) else (some 1)) else (some bt145.2))
set_option maxHeartbeats 8000000 in
set_option maxRecDepth 100000 in
theorem prod_single.calls (k : Nat) (a0_0 : Int) (A0_1 : Option Addr) (c0_1 : Nat) (l0_1 : List (S66)) (A0_2 : Option Addr) (c0_2 : Nat) (l0_2 : List (S64)) (r : Int) (w : World) (hr0_1 : Kd.C k66 w A0_1 l0_1.length l0_1) (hc0_1 : l0_1.length ≤ c0_1) (hr0_2 : Kd.C k64 w A0_2 l0_2.length l0_2) (hc0_2 : l0_2.length ≤ c0_2) (h : prod_single.f k a0_0 l0_1 l0_2 = some r) :
  Calls Try.prog 44 #[.agg #[.int .i64 a0_0, .slice A0_1 l0_1.length c0_1, .slice A0_2 l0_2.length c0_2]] w fun e w' => e = .returned (.int .i64 r) ∧ Below w.heap.size w w' := by
 have hu25 := Try.underlying25
 have HR0_1 := Aside0.mk hr0_1
 have HC0_1 := Aside0.mk hc0_1
 clear hr0_1 hc0_1
 have HR0_2 := Aside0.mk hr0_2
 have HC0_2 := Aside0.mk hc0_2
 clear hr0_2 hc0_2
 have HB := Aside0.mk (Below.refl w.heap.size w)
 have H : ((prog_Single.f k a0_0 l0_1 l0_2).bind fun bt145 => (if bt145.2 = 0 then (if bt145.1 = true then (some bt145.2) else (some 1)) else (some bt145.2))) = some r := h
 clear h
 replace H := Option.bind_eq_some_iff.mp H
 obtain ⟨⟨t145, t146⟩, A20, H⟩ := H
 replace H : (if t146 = 0 then (if t145 = true then (some t146) else (some 1)) else (some t146)) = some r := H
 have A2 := Aside0.mk A20
 clear A20
 by_cases c3 : t146 = 0
 rotate_left
 ·rw [if_neg c3] at H
  have c3b0 : (t146 == 0) = false := beq_eq_false_iff_ne.mpr c3
  have c3b1 : (t146 != 0) = true := bne_iff_ne.mpr c3
  obtain rfl := Option.some.inj H
  go_enter Try.func44, Try.ntmps44
  go_wp2_with (first | ((with_reducible refine gate_dst (N := 1) rfl ?_); refine bx 1 rfl rfl #[.int .i64 a0_0, .slice A0_1 l0_1.length c0_1, .slice A0_2 l0_2.length c0_2] 25 ?_; intro gb144 hg w11 hbox hb; have BK144 := Aside0.mk (hbox); have GW144 := ge HB hg; have GE144 := ge HB hg; replace HB := sb HB hb; clear hb hbox hg; obtain ⟨hcz12_0, hcz12_1, hcz12_2, hfz12_0, hfz12_1, hfz12_2⟩ := cf3 BK144.out) | ((with_reducible refine gate_callee (f := 79) rfl ?_); refine gL (some 7) rfl rfl Try.func79 #[.agg #[.int .i64 a0_0, .slice A0_1 l0_1.length c0_1, .slice A0_2 l0_2.length c0_2]] rfl ?_; (with_reducible refine (prog_Single.calls k a0_0 _ _ l0_1 _ _ l0_2 t145 t146 _ ?side1 ?side2 ?side3 ?side4 A2.out).mono ?_); (case side1 => exact cb HR0_1 HB); (case side2 => exact HC0_1.out); (case side3 => exact cb HR0_2 HB); (case side4 => exact HC0_2.out); rintro e w13 ⟨rfl, hb⟩; refine ⟨_, rfl, ?_⟩; replace BK144 := kb BK144 hb; replace HB := sb HB hb; (try clear hb); (try clear hb2); (try clear hk); (try clear hi)))
  go_ret
  exact ⟨rr, bb HB⟩
 rw [if_pos c3] at H
 have c3b0 : (t146 == 0) = true := beq_iff_eq.mpr c3
 have c3b1 : (t146 != 0) = false := bne_eq_false_iff_eq.mpr c3
 clear c3
 by_cases c4 : t145 = true
 ·subst c4
  have H1 : (some t146) = some r := by rw [if_pos rfl] at H; exact H
  clear H
  have H := H1
  clear H1
  obtain rfl := Option.some.inj H
  go_enter Try.func44, Try.ntmps44
  go_wp2_with (first | ((with_reducible refine gate_dst (N := 1) rfl ?_); refine bx 1 rfl rfl #[.int .i64 a0_0, .slice A0_1 l0_1.length c0_1, .slice A0_2 l0_2.length c0_2] 25 ?_; intro gb144 hg w5 hbox hb; have BK144 := Aside0.mk (hbox); have GW144 := ge HB hg; have GE144 := ge HB hg; replace HB := sb HB hb; clear hb hbox hg; obtain ⟨hcz6_0, hcz6_1, hcz6_2, hfz6_0, hfz6_1, hfz6_2⟩ := cf3 BK144.out) | ((with_reducible refine gate_callee (f := 79) rfl ?_); refine gL (some 7) rfl rfl Try.func79 #[.agg #[.int .i64 a0_0, .slice A0_1 l0_1.length c0_1, .slice A0_2 l0_2.length c0_2]] rfl ?_; (with_reducible refine (prog_Single.calls k a0_0 _ _ l0_1 _ _ l0_2 true t146 _ ?side1 ?side2 ?side3 ?side4 A2.out).mono ?_); (case side1 => exact cb HR0_1 HB); (case side2 => exact HC0_1.out); (case side3 => exact cb HR0_2 HB); (case side4 => exact HC0_2.out); rintro e w7 ⟨rfl, hb⟩; refine ⟨_, rfl, ?_⟩; replace BK144 := kb BK144 hb; replace HB := sb HB hb; (try clear hb); (try clear hb2); (try clear hk); (try clear hi)))
  go_ret
  exact ⟨rr, bb HB⟩
 replace c4 := Bool.eq_false_iff.mpr c4
 subst c4
 have H1 : (some 1) = some r := by rw [if_neg (show ¬ (false = true) by decide)] at H; exact H
 clear H
 have H := H1
 clear H1
 obtain rfl := Option.some.inj H
 go_enter Try.func44, Try.ntmps44
 go_wp2_with (first | ((with_reducible refine gate_dst (N := 1) rfl ?_); refine bx 1 rfl rfl #[.int .i64 a0_0, .slice A0_1 l0_1.length c0_1, .slice A0_2 l0_2.length c0_2] 25 ?_; intro gb144 hg w8 hbox hb; have BK144 := Aside0.mk (hbox); have GW144 := ge HB hg; have GE144 := ge HB hg; replace HB := sb HB hb; clear hb hbox hg; obtain ⟨hcz9_0, hcz9_1, hcz9_2, hfz9_0, hfz9_1, hfz9_2⟩ := cf3 BK144.out) | ((with_reducible refine gate_callee (f := 79) rfl ?_); refine gL (some 7) rfl rfl Try.func79 #[.agg #[.int .i64 a0_0, .slice A0_1 l0_1.length c0_1, .slice A0_2 l0_2.length c0_2]] rfl ?_; (with_reducible refine (prog_Single.calls k a0_0 _ _ l0_1 _ _ l0_2 false t146 _ ?side1 ?side2 ?side3 ?side4 A2.out).mono ?_); (case side1 => exact cb HR0_1 HB); (case side2 => exact HC0_1.out); (case side3 => exact cb HR0_2 HB); (case side4 => exact HC0_2.out); rintro e w10 ⟨rfl, hb⟩; refine ⟨_, rfl, ?_⟩; replace BK144 := kb BK144 hb; replace HB := sb HB hb; (try clear hb); (try clear hb2); (try clear hk); (try clear hi)))
 go_ret
 exact ⟨rr, bb HB⟩
mutual
def r3_low.l0 : Nat → List (S64) → Int → Option (Bool)
 | 0, _, _ => none
 | k + 1, x0, x3 => if x3 < (x0.length : Int) then (if 0 ≤ x3 then (if ((rd_T64 x0 x3).f0) = 3 then (if ((rd_T64 x0 x3).f1) > 15 then (some false) else ((r3_low.f k ((rd_T64 x0 x3).f3)).bind fun t306 => (if t306 = true then ((r3_low.f k ((rd_T64 x0 x3).f4)).bind fun t308 => (if t308 = true then (r3_low.l0 k x0 (wrap64 (x3 + 1))) else (some false))) else (some false)))) else ((r3_low.f k ((rd_T64 x0 x3).f3)).bind fun t310 => (if t310 = true then ((r3_low.f k ((rd_T64 x0 x3).f4)).bind fun t312 => (if t312 = true then (r3_low.l0 k x0 (wrap64 (x3 + 1))) else (some false))) else (some false)))) else (none)) else (some true)
def r3_low.f : Nat → List (S64) → Option (Bool)
 | 0, _ => none
 | k + 1, l0 => r3_low.l0 k l0 0
end
set_option maxHeartbeats 8000000 in
set_option maxRecDepth 100000 in
theorem r3_low.calls (k : Nat) : ∀ (A0 : Option Addr) (c0 : Nat) (l0 : List (S64)) (r : Bool) (w : World) (hr0 : Kd.C k64 w A0 l0.length l0) (hc0 : l0.length ≤ c0) (h : r3_low.f k l0 = some r),
  Calls Try.prog 110 #[.slice A0 l0.length c0] w fun e w' => e = .returned (.bool r) ∧ Drawn0 w w' := by
 induction k using Nat.strongRecOn with
 | _ k ih =>
 intro A0 c0 l0 r w hr0 hc0 h
 cases k with
 | zero => exact absurd h (by simp [r3_low.f])
 | succ k =>
 simp only [r3_low.f] at h
 have HR0 := Aside0.mk hr0
 have HC0 := Aside0.mk hc0
 clear hr0 hc0
 have H : (r3_low.l0 k l0 0) = some r := h
 clear h
 have H' := Aside0.mk H
 clear H
 go_enter Try.func110, Try.ntmps110
 go_wp2
 go_loopg [3] k (fun kq v3 w' => ∃ (x3_1 : Int), v3 = .int .i64 x3_1 ∧ Aside0 (r3_low.l0 kq l0 x3_1 = some r) ∧ Aside0 (kq ≤ k) ∧ Drawn0 w w')
 case atStart => exact ⟨(0), rs, H', ⟨Nat.le_refl _⟩, dr⟩
 case round =>
  clear H'
  try clear c1
  obtain ⟨x3_1, rfl, HA, HK1, ⟨m1, rfl⟩⟩ := hrel
  cases gk with
  | zero => exact absurd HA.out (by simp [r3_low.l0])
  | succ k1 =>
   have H := HA.out
   clear HA
   simp only [r3_low.l0] at H
   by_cases c2 : x3_1 < (l0.length : Int)
   rotate_left
   ·rw [if_neg c2] at H
    have c2b0 : decide (x3_1 < (l0.length : Int)) = false := decide_eq_false c2
    clear c2
    obtain rfl := Option.some.inj H
    go_wp2
    go_ret
    exact ⟨rs, dr⟩
   rw [if_pos c2] at H
   have c2b0 : decide (x3_1 < (l0.length : Int)) = true := decide_eq_true c2
   clear c2
   by_cases c3 : 0 ≤ x3_1
   rotate_left
   ·rw [if_neg c3] at H
    exact absurd H (by simp)
   rw [if_pos c3] at H
   have c3b0 : decide (0 ≤ x3_1) = true := decide_eq_true c3
   clear c3
   by_cases c4 : ((rd_T64 l0 x3_1).f0) = 3
   rotate_left
   ·rw [if_neg c4] at H
    have c4b0 : (((rd_T64 l0 x3_1).f0) == 3) = false := beq_eq_false_iff_ne.mpr c4
    have c4b1 : (((rd_T64 l0 x3_1).f0) != 3) = true := bne_iff_ne.mpr c4
    obtain ⟨t310, A10, H⟩ := be H
    replace H : (if t310 = true then ((r3_low.f k1 ((rd_T64 l0 x3_1).f4)).bind fun t312 => (if t312 = true then (r3_low.l0 k1 l0 (wrap64 (x3_1 + 1))) else (some false))) else (some false)) = some r := H
    by_cases c11 : t310 = true
    rotate_left
    ·replace c11 := Bool.eq_false_iff.mpr c11
     subst c11
     have H1 : (some false) = some r := by rw [if_neg (show ¬ (false = true) by decide)] at H; exact H
     clear H
     have H := H1
     clear H1
     obtain rfl := Option.some.inj H
     have p303 : 0 ≤ (x3_1 : Int) := od
     have q303 : x3_1 < (l0.length : Int) := od
     obtain ⟨ad303, A303_2, c303_2, A303_3, c303_3, A303_4, c303_4, e303, hx303_0, hx303_1, hx303_2, hx303_3, hx303_4, hl303_2, hi303_2, hl303_3, hi303_3, hl303_4, hi303_4⟩ := at_T64 HR0.out x3_1 p303 q303
     cases e303
     have HR303_2 := Aside0.mk hi303_2
     have HC303_2 := Aside0.mk hl303_2
     clear hi303_2 hl303_2
     have HR303_3 := Aside0.mk hi303_3
     have HC303_3 := Aside0.mk hl303_3
     clear hi303_3 hl303_3
     have HR303_4 := Aside0.mk hi303_4
     have HC303_4 := Aside0.mk hl303_4
     clear hi303_4 hl303_4
     replace p303 := eq_true p303
     replace q303 := eq_true q303
     have p309 : 0 ≤ (x3_1 : Int) := od
     have q309 : x3_1 < (l0.length : Int) := od
     obtain ⟨ad309, A309_2, c309_2, A309_3, c309_3, A309_4, c309_4, e309, hx309_0, hx309_1, hx309_2, hx309_3, hx309_4, hl309_2, hi309_2, hl309_3, hi309_3, hl309_4, hi309_4⟩ := at_T64 HR0.out x3_1 p309 q309
     obtain rfl : ad303 = ad309 := (by injection e309)
     have HR309_2 := Aside0.mk hi309_2
     have HC309_2 := Aside0.mk hl309_2
     clear hi309_2 hl309_2
     have HR309_3 := Aside0.mk hi309_3
     have HC309_3 := Aside0.mk hl309_3
     clear hi309_3 hl309_3
     have HR309_4 := Aside0.mk hi309_4
     have HC309_4 := Aside0.mk hl309_4
     clear hi309_4 hl309_4
     replace p309 := eq_true p309
     replace q309 := eq_true q309
     have ea_ := Option.some.inj (hx303_2.symm.trans hx309_2)
     injection ea_ with ea_ en_ ec_
     subst ea_
     subst ec_
     clear en_
     have ea_ := Option.some.inj (hx303_3.symm.trans hx309_3)
     injection ea_ with ea_ en_ ec_
     subst ea_
     subst ec_
     clear en_
     have ea_ := Option.some.inj (hx303_4.symm.trans hx309_4)
     injection ea_ with ea_ en_ ec_
     subst ea_
     subst ec_
     clear en_
     go_wp2_with (first | (go_at_call 110; (with_reducible refine (ih k1 (by have := HK1.out; omega) _ _ ((rd_T64 l0 x3_1).f3) false _ ?side1 ?side2 A10.out).mono ?_); (case side1 => exact ca HR309_3); (case side2 => exact HC309_3.out); rintro e w' ⟨rfl, ⟨nd, rfl⟩⟩))
     go_ret
     exact ⟨rs, dr⟩
    subst c11
    have H1 : ((r3_low.f k1 ((rd_T64 l0 x3_1).f4)).bind fun t312 => (if t312 = true then (r3_low.l0 k1 l0 (wrap64 (x3_1 + 1))) else (some false))) = some r := by rw [if_pos rfl] at H; exact H
    clear H
    have H := H1
    clear H1
    obtain ⟨t312, A12, H⟩ := be H
    replace H : (if t312 = true then (r3_low.l0 k1 l0 (wrap64 (x3_1 + 1))) else (some false)) = some r := H
    by_cases c13 : t312 = true
    rotate_left
    ·replace c13 := Bool.eq_false_iff.mpr c13
     subst c13
     have H1 : (some false) = some r := by rw [if_neg (show ¬ (false = true) by decide)] at H; exact H
     clear H
     have H := H1
     clear H1
     obtain rfl := Option.some.inj H
     have p303 : 0 ≤ (x3_1 : Int) := od
     have q303 : x3_1 < (l0.length : Int) := od
     obtain ⟨ad303, A303_2, c303_2, A303_3, c303_3, A303_4, c303_4, e303, hx303_0, hx303_1, hx303_2, hx303_3, hx303_4, hl303_2, hi303_2, hl303_3, hi303_3, hl303_4, hi303_4⟩ := at_T64 HR0.out x3_1 p303 q303
     cases e303
     have HR303_2 := Aside0.mk hi303_2
     have HC303_2 := Aside0.mk hl303_2
     clear hi303_2 hl303_2
     have HR303_3 := Aside0.mk hi303_3
     have HC303_3 := Aside0.mk hl303_3
     clear hi303_3 hl303_3
     have HR303_4 := Aside0.mk hi303_4
     have HC303_4 := Aside0.mk hl303_4
     clear hi303_4 hl303_4
     replace p303 := eq_true p303
     replace q303 := eq_true q303
     have p309 : 0 ≤ (x3_1 : Int) := od
     have q309 : x3_1 < (l0.length : Int) := od
     obtain ⟨ad309, A309_2, c309_2, A309_3, c309_3, A309_4, c309_4, e309, hx309_0, hx309_1, hx309_2, hx309_3, hx309_4, hl309_2, hi309_2, hl309_3, hi309_3, hl309_4, hi309_4⟩ := at_T64 HR0.out x3_1 p309 q309
     obtain rfl : ad303 = ad309 := (by injection e309)
     have HR309_2 := Aside0.mk hi309_2
     have HC309_2 := Aside0.mk hl309_2
     clear hi309_2 hl309_2
     have HR309_3 := Aside0.mk hi309_3
     have HC309_3 := Aside0.mk hl309_3
     clear hi309_3 hl309_3
     have HR309_4 := Aside0.mk hi309_4
     have HC309_4 := Aside0.mk hl309_4
     clear hi309_4 hl309_4
     replace p309 := eq_true p309
     replace q309 := eq_true q309
     have ea_ := Option.some.inj (hx303_2.symm.trans hx309_2)
     injection ea_ with ea_ en_ ec_
     subst ea_
     subst ec_
     clear en_
     have ea_ := Option.some.inj (hx303_3.symm.trans hx309_3)
     injection ea_ with ea_ en_ ec_
     subst ea_
     subst ec_
     clear en_
     have ea_ := Option.some.inj (hx303_4.symm.trans hx309_4)
     injection ea_ with ea_ en_ ec_
     subst ea_
     subst ec_
     clear en_
     go_wp2_with (first | (go_at_call 110; (with_reducible refine (ih k1 (by have := HK1.out; omega) _ _ ((rd_T64 l0 x3_1).f3) true _ ?side1 ?side2 A10.out).mono ?_); (case side1 => exact ca HR309_3); (case side2 => exact HC309_3.out); rintro e w' ⟨rfl, ⟨nd, rfl⟩⟩; have p311 : 0 ≤ (x3_1 : Int) := od; have q311 : x3_1 < (l0.length : Int) := od; obtain ⟨ad311, A311_2, c311_2, A311_3, c311_3, A311_4, c311_4, e311, hx311_0, hx311_1, hx311_2, hx311_3, hx311_4, hl311_2, hi311_2, hl311_3, hi311_3, hl311_4, hi311_4⟩ := at_T64 HR0.out x3_1 p311 q311; obtain rfl : ad303 = ad311 := (by injection e311); have HR311_2 := Aside0.mk hi311_2; have HC311_2 := Aside0.mk hl311_2; clear hi311_2 hl311_2; have HR311_3 := Aside0.mk hi311_3; have HC311_3 := Aside0.mk hl311_3; clear hi311_3 hl311_3; have HR311_4 := Aside0.mk hi311_4; have HC311_4 := Aside0.mk hl311_4; clear hi311_4 hl311_4; replace p311 := eq_true p311; replace q311 := eq_true q311; have ea_ := Option.some.inj (hx303_2.symm.trans hx311_2); injection ea_ with ea_ en_ ec_; subst ea_; subst ec_; clear en_; have ea_ := Option.some.inj (hx303_3.symm.trans hx311_3); injection ea_ with ea_ en_ ec_; subst ea_; subst ec_; clear en_; have ea_ := Option.some.inj (hx303_4.symm.trans hx311_4); injection ea_ with ea_ en_ ec_; subst ea_; subst ec_; clear en_) | (go_at_call 110; (with_reducible refine (ih k1 (by have := HK1.out; omega) _ _ ((rd_T64 l0 x3_1).f4) false _ ?side1 ?side2 A12.out).mono ?_); (case side1 => exact ca HR311_4); (case side2 => exact HC311_4.out); rintro e w' ⟨rfl, ⟨nd, rfl⟩⟩))
     go_ret
     exact ⟨rs, dr⟩
    subst c13
    have H1 : (r3_low.l0 k1 l0 (wrap64 (x3_1 + 1))) = some r := by rw [if_pos rfl] at H; exact H
    clear H
    have H := H1
    clear H1
    have H' := Aside0.mk H
    clear H
    have p303 : 0 ≤ (x3_1 : Int) := od
    have q303 : x3_1 < (l0.length : Int) := od
    obtain ⟨ad303, A303_2, c303_2, A303_3, c303_3, A303_4, c303_4, e303, hx303_0, hx303_1, hx303_2, hx303_3, hx303_4, hl303_2, hi303_2, hl303_3, hi303_3, hl303_4, hi303_4⟩ := at_T64 HR0.out x3_1 p303 q303
    cases e303
    have HR303_2 := Aside0.mk hi303_2
    have HC303_2 := Aside0.mk hl303_2
    clear hi303_2 hl303_2
    have HR303_3 := Aside0.mk hi303_3
    have HC303_3 := Aside0.mk hl303_3
    clear hi303_3 hl303_3
    have HR303_4 := Aside0.mk hi303_4
    have HC303_4 := Aside0.mk hl303_4
    clear hi303_4 hl303_4
    replace p303 := eq_true p303
    replace q303 := eq_true q303
    have p309 : 0 ≤ (x3_1 : Int) := od
    have q309 : x3_1 < (l0.length : Int) := od
    obtain ⟨ad309, A309_2, c309_2, A309_3, c309_3, A309_4, c309_4, e309, hx309_0, hx309_1, hx309_2, hx309_3, hx309_4, hl309_2, hi309_2, hl309_3, hi309_3, hl309_4, hi309_4⟩ := at_T64 HR0.out x3_1 p309 q309
    obtain rfl : ad303 = ad309 := (by injection e309)
    have HR309_2 := Aside0.mk hi309_2
    have HC309_2 := Aside0.mk hl309_2
    clear hi309_2 hl309_2
    have HR309_3 := Aside0.mk hi309_3
    have HC309_3 := Aside0.mk hl309_3
    clear hi309_3 hl309_3
    have HR309_4 := Aside0.mk hi309_4
    have HC309_4 := Aside0.mk hl309_4
    clear hi309_4 hl309_4
    replace p309 := eq_true p309
    replace q309 := eq_true q309
    have ea_ := Option.some.inj (hx303_2.symm.trans hx309_2)
    injection ea_ with ea_ en_ ec_
    subst ea_
    subst ec_
    clear en_
    have ea_ := Option.some.inj (hx303_3.symm.trans hx309_3)
    injection ea_ with ea_ en_ ec_
    subst ea_
    subst ec_
    clear en_
    have ea_ := Option.some.inj (hx303_4.symm.trans hx309_4)
    injection ea_ with ea_ en_ ec_
    subst ea_
    subst ec_
    clear en_
    go_wp2_with (first | (go_at_call 110; (with_reducible refine (ih k1 (by have := HK1.out; omega) _ _ ((rd_T64 l0 x3_1).f3) true _ ?side1 ?side2 A10.out).mono ?_); (case side1 => exact ca HR309_3); (case side2 => exact HC309_3.out); rintro e w' ⟨rfl, ⟨nd, rfl⟩⟩; have p311 : 0 ≤ (x3_1 : Int) := od; have q311 : x3_1 < (l0.length : Int) := od; obtain ⟨ad311, A311_2, c311_2, A311_3, c311_3, A311_4, c311_4, e311, hx311_0, hx311_1, hx311_2, hx311_3, hx311_4, hl311_2, hi311_2, hl311_3, hi311_3, hl311_4, hi311_4⟩ := at_T64 HR0.out x3_1 p311 q311; obtain rfl : ad303 = ad311 := (by injection e311); have HR311_2 := Aside0.mk hi311_2; have HC311_2 := Aside0.mk hl311_2; clear hi311_2 hl311_2; have HR311_3 := Aside0.mk hi311_3; have HC311_3 := Aside0.mk hl311_3; clear hi311_3 hl311_3; have HR311_4 := Aside0.mk hi311_4; have HC311_4 := Aside0.mk hl311_4; clear hi311_4 hl311_4; replace p311 := eq_true p311; replace q311 := eq_true q311; have ea_ := Option.some.inj (hx303_2.symm.trans hx311_2); injection ea_ with ea_ en_ ec_; subst ea_; subst ec_; clear en_; have ea_ := Option.some.inj (hx303_3.symm.trans hx311_3); injection ea_ with ea_ en_ ec_; subst ea_; subst ec_; clear en_; have ea_ := Option.some.inj (hx303_4.symm.trans hx311_4); injection ea_ with ea_ en_ ec_; subst ea_; subst ec_; clear en_) | (go_at_call 110; (with_reducible refine (ih k1 (by have := HK1.out; omega) _ _ ((rd_T64 l0 x3_1).f4) true _ ?side1 ?side2 A12.out).mono ?_); (case side1 => exact ca HR311_4); (case side2 => exact HC311_4.out); rintro e w' ⟨rfl, ⟨nd, rfl⟩⟩))
    go_roundg k1
    case measure => have := HK1.out; omega
    case rel => exact ⟨(wrap64 (x3_1 + 1)), rs, H', ⟨by have := HK1.out; omega⟩, dr⟩
   rw [if_pos c4] at H
   have c4b0 : (((rd_T64 l0 x3_1).f0) == 3) = true := beq_iff_eq.mpr c4
   have c4b1 : (((rd_T64 l0 x3_1).f0) != 3) = false := bne_eq_false_iff_eq.mpr c4
   clear c4
   by_cases c5 : ((rd_T64 l0 x3_1).f1) > 15
   ·rw [if_pos c5] at H
    have c5b0 : decide (15 < ((rd_T64 l0 x3_1).f1)) = true := decide_eq_true c5
    clear c5
    obtain rfl := Option.some.inj H
    have p303 : 0 ≤ (x3_1 : Int) := od
    have q303 : x3_1 < (l0.length : Int) := od
    obtain ⟨ad303, A303_2, c303_2, A303_3, c303_3, A303_4, c303_4, e303, hx303_0, hx303_1, hx303_2, hx303_3, hx303_4, hl303_2, hi303_2, hl303_3, hi303_3, hl303_4, hi303_4⟩ := at_T64 HR0.out x3_1 p303 q303
    cases e303
    have HR303_2 := Aside0.mk hi303_2
    have HC303_2 := Aside0.mk hl303_2
    clear hi303_2 hl303_2
    have HR303_3 := Aside0.mk hi303_3
    have HC303_3 := Aside0.mk hl303_3
    clear hi303_3 hl303_3
    have HR303_4 := Aside0.mk hi303_4
    have HC303_4 := Aside0.mk hl303_4
    clear hi303_4 hl303_4
    replace p303 := eq_true p303
    replace q303 := eq_true q303
    have p304 : 0 ≤ (x3_1 : Int) := od
    have q304 : x3_1 < (l0.length : Int) := od
    obtain ⟨ad304, A304_2, c304_2, A304_3, c304_3, A304_4, c304_4, e304, hx304_0, hx304_1, hx304_2, hx304_3, hx304_4, hl304_2, hi304_2, hl304_3, hi304_3, hl304_4, hi304_4⟩ := at_T64 HR0.out x3_1 p304 q304
    obtain rfl : ad303 = ad304 := (by injection e304)
    have HR304_2 := Aside0.mk hi304_2
    have HC304_2 := Aside0.mk hl304_2
    clear hi304_2 hl304_2
    have HR304_3 := Aside0.mk hi304_3
    have HC304_3 := Aside0.mk hl304_3
    clear hi304_3 hl304_3
    have HR304_4 := Aside0.mk hi304_4
    have HC304_4 := Aside0.mk hl304_4
    clear hi304_4 hl304_4
    replace p304 := eq_true p304
    replace q304 := eq_true q304
    have ea_ := Option.some.inj (hx303_2.symm.trans hx304_2)
    injection ea_ with ea_ en_ ec_
    subst ea_
    subst ec_
    clear en_
    have ea_ := Option.some.inj (hx303_3.symm.trans hx304_3)
    injection ea_ with ea_ en_ ec_
    subst ea_
    subst ec_
    clear en_
    have ea_ := Option.some.inj (hx303_4.symm.trans hx304_4)
    injection ea_ with ea_ en_ ec_
    subst ea_
    subst ec_
    clear en_
    go_wp2
    go_ret
    exact ⟨rs, dr⟩
   rw [if_neg c5] at H
   have c5b0 : decide (15 < ((rd_T64 l0 x3_1).f1)) = false := decide_eq_false c5
   clear c5
   obtain ⟨t306, A6, H⟩ := be H
   replace H : (if t306 = true then ((r3_low.f k1 ((rd_T64 l0 x3_1).f4)).bind fun t308 => (if t308 = true then (r3_low.l0 k1 l0 (wrap64 (x3_1 + 1))) else (some false))) else (some false)) = some r := H
   by_cases c7 : t306 = true
   rotate_left
   ·replace c7 := Bool.eq_false_iff.mpr c7
    subst c7
    have H1 : (some false) = some r := by rw [if_neg (show ¬ (false = true) by decide)] at H; exact H
    clear H
    have H := H1
    clear H1
    obtain rfl := Option.some.inj H
    have p303 : 0 ≤ (x3_1 : Int) := od
    have q303 : x3_1 < (l0.length : Int) := od
    obtain ⟨ad303, A303_2, c303_2, A303_3, c303_3, A303_4, c303_4, e303, hx303_0, hx303_1, hx303_2, hx303_3, hx303_4, hl303_2, hi303_2, hl303_3, hi303_3, hl303_4, hi303_4⟩ := at_T64 HR0.out x3_1 p303 q303
    cases e303
    have HR303_2 := Aside0.mk hi303_2
    have HC303_2 := Aside0.mk hl303_2
    clear hi303_2 hl303_2
    have HR303_3 := Aside0.mk hi303_3
    have HC303_3 := Aside0.mk hl303_3
    clear hi303_3 hl303_3
    have HR303_4 := Aside0.mk hi303_4
    have HC303_4 := Aside0.mk hl303_4
    clear hi303_4 hl303_4
    replace p303 := eq_true p303
    replace q303 := eq_true q303
    have p304 : 0 ≤ (x3_1 : Int) := od
    have q304 : x3_1 < (l0.length : Int) := od
    obtain ⟨ad304, A304_2, c304_2, A304_3, c304_3, A304_4, c304_4, e304, hx304_0, hx304_1, hx304_2, hx304_3, hx304_4, hl304_2, hi304_2, hl304_3, hi304_3, hl304_4, hi304_4⟩ := at_T64 HR0.out x3_1 p304 q304
    obtain rfl : ad303 = ad304 := (by injection e304)
    have HR304_2 := Aside0.mk hi304_2
    have HC304_2 := Aside0.mk hl304_2
    clear hi304_2 hl304_2
    have HR304_3 := Aside0.mk hi304_3
    have HC304_3 := Aside0.mk hl304_3
    clear hi304_3 hl304_3
    have HR304_4 := Aside0.mk hi304_4
    have HC304_4 := Aside0.mk hl304_4
    clear hi304_4 hl304_4
    replace p304 := eq_true p304
    replace q304 := eq_true q304
    have ea_ := Option.some.inj (hx303_2.symm.trans hx304_2)
    injection ea_ with ea_ en_ ec_
    subst ea_
    subst ec_
    clear en_
    have ea_ := Option.some.inj (hx303_3.symm.trans hx304_3)
    injection ea_ with ea_ en_ ec_
    subst ea_
    subst ec_
    clear en_
    have ea_ := Option.some.inj (hx303_4.symm.trans hx304_4)
    injection ea_ with ea_ en_ ec_
    subst ea_
    subst ec_
    clear en_
    have p305 : 0 ≤ (x3_1 : Int) := od
    have q305 : x3_1 < (l0.length : Int) := od
    obtain ⟨ad305, A305_2, c305_2, A305_3, c305_3, A305_4, c305_4, e305, hx305_0, hx305_1, hx305_2, hx305_3, hx305_4, hl305_2, hi305_2, hl305_3, hi305_3, hl305_4, hi305_4⟩ := at_T64 HR0.out x3_1 p305 q305
    obtain rfl : ad303 = ad305 := (by injection e305)
    have HR305_2 := Aside0.mk hi305_2
    have HC305_2 := Aside0.mk hl305_2
    clear hi305_2 hl305_2
    have HR305_3 := Aside0.mk hi305_3
    have HC305_3 := Aside0.mk hl305_3
    clear hi305_3 hl305_3
    have HR305_4 := Aside0.mk hi305_4
    have HC305_4 := Aside0.mk hl305_4
    clear hi305_4 hl305_4
    replace p305 := eq_true p305
    replace q305 := eq_true q305
    have ea_ := Option.some.inj (hx303_2.symm.trans hx305_2)
    injection ea_ with ea_ en_ ec_
    subst ea_
    subst ec_
    clear en_
    have ea_ := Option.some.inj (hx303_3.symm.trans hx305_3)
    injection ea_ with ea_ en_ ec_
    subst ea_
    subst ec_
    clear en_
    have ea_ := Option.some.inj (hx303_4.symm.trans hx305_4)
    injection ea_ with ea_ en_ ec_
    subst ea_
    subst ec_
    clear en_
    go_wp2_with (first | (go_at_call 110; (with_reducible refine (ih k1 (by have := HK1.out; omega) _ _ ((rd_T64 l0 x3_1).f3) false _ ?side1 ?side2 A6.out).mono ?_); (case side1 => exact ca HR305_3); (case side2 => exact HC305_3.out); rintro e w' ⟨rfl, ⟨nd, rfl⟩⟩))
    go_ret
    exact ⟨rs, dr⟩
   subst c7
   have H1 : ((r3_low.f k1 ((rd_T64 l0 x3_1).f4)).bind fun t308 => (if t308 = true then (r3_low.l0 k1 l0 (wrap64 (x3_1 + 1))) else (some false))) = some r := by rw [if_pos rfl] at H; exact H
   clear H
   have H := H1
   clear H1
   obtain ⟨t308, A8, H⟩ := be H
   replace H : (if t308 = true then (r3_low.l0 k1 l0 (wrap64 (x3_1 + 1))) else (some false)) = some r := H
   by_cases c9 : t308 = true
   rotate_left
   ·replace c9 := Bool.eq_false_iff.mpr c9
    subst c9
    have H1 : (some false) = some r := by rw [if_neg (show ¬ (false = true) by decide)] at H; exact H
    clear H
    have H := H1
    clear H1
    obtain rfl := Option.some.inj H
    have p303 : 0 ≤ (x3_1 : Int) := od
    have q303 : x3_1 < (l0.length : Int) := od
    obtain ⟨ad303, A303_2, c303_2, A303_3, c303_3, A303_4, c303_4, e303, hx303_0, hx303_1, hx303_2, hx303_3, hx303_4, hl303_2, hi303_2, hl303_3, hi303_3, hl303_4, hi303_4⟩ := at_T64 HR0.out x3_1 p303 q303
    cases e303
    have HR303_2 := Aside0.mk hi303_2
    have HC303_2 := Aside0.mk hl303_2
    clear hi303_2 hl303_2
    have HR303_3 := Aside0.mk hi303_3
    have HC303_3 := Aside0.mk hl303_3
    clear hi303_3 hl303_3
    have HR303_4 := Aside0.mk hi303_4
    have HC303_4 := Aside0.mk hl303_4
    clear hi303_4 hl303_4
    replace p303 := eq_true p303
    replace q303 := eq_true q303
    have p304 : 0 ≤ (x3_1 : Int) := od
    have q304 : x3_1 < (l0.length : Int) := od
    obtain ⟨ad304, A304_2, c304_2, A304_3, c304_3, A304_4, c304_4, e304, hx304_0, hx304_1, hx304_2, hx304_3, hx304_4, hl304_2, hi304_2, hl304_3, hi304_3, hl304_4, hi304_4⟩ := at_T64 HR0.out x3_1 p304 q304
    obtain rfl : ad303 = ad304 := (by injection e304)
    have HR304_2 := Aside0.mk hi304_2
    have HC304_2 := Aside0.mk hl304_2
    clear hi304_2 hl304_2
    have HR304_3 := Aside0.mk hi304_3
    have HC304_3 := Aside0.mk hl304_3
    clear hi304_3 hl304_3
    have HR304_4 := Aside0.mk hi304_4
    have HC304_4 := Aside0.mk hl304_4
    clear hi304_4 hl304_4
    replace p304 := eq_true p304
    replace q304 := eq_true q304
    have ea_ := Option.some.inj (hx303_2.symm.trans hx304_2)
    injection ea_ with ea_ en_ ec_
    subst ea_
    subst ec_
    clear en_
    have ea_ := Option.some.inj (hx303_3.symm.trans hx304_3)
    injection ea_ with ea_ en_ ec_
    subst ea_
    subst ec_
    clear en_
    have ea_ := Option.some.inj (hx303_4.symm.trans hx304_4)
    injection ea_ with ea_ en_ ec_
    subst ea_
    subst ec_
    clear en_
    have p305 : 0 ≤ (x3_1 : Int) := od
    have q305 : x3_1 < (l0.length : Int) := od
    obtain ⟨ad305, A305_2, c305_2, A305_3, c305_3, A305_4, c305_4, e305, hx305_0, hx305_1, hx305_2, hx305_3, hx305_4, hl305_2, hi305_2, hl305_3, hi305_3, hl305_4, hi305_4⟩ := at_T64 HR0.out x3_1 p305 q305
    obtain rfl : ad303 = ad305 := (by injection e305)
    have HR305_2 := Aside0.mk hi305_2
    have HC305_2 := Aside0.mk hl305_2
    clear hi305_2 hl305_2
    have HR305_3 := Aside0.mk hi305_3
    have HC305_3 := Aside0.mk hl305_3
    clear hi305_3 hl305_3
    have HR305_4 := Aside0.mk hi305_4
    have HC305_4 := Aside0.mk hl305_4
    clear hi305_4 hl305_4
    replace p305 := eq_true p305
    replace q305 := eq_true q305
    have ea_ := Option.some.inj (hx303_2.symm.trans hx305_2)
    injection ea_ with ea_ en_ ec_
    subst ea_
    subst ec_
    clear en_
    have ea_ := Option.some.inj (hx303_3.symm.trans hx305_3)
    injection ea_ with ea_ en_ ec_
    subst ea_
    subst ec_
    clear en_
    have ea_ := Option.some.inj (hx303_4.symm.trans hx305_4)
    injection ea_ with ea_ en_ ec_
    subst ea_
    subst ec_
    clear en_
    go_wp2_with (first | (go_at_call 110; (with_reducible refine (ih k1 (by have := HK1.out; omega) _ _ ((rd_T64 l0 x3_1).f3) true _ ?side1 ?side2 A6.out).mono ?_); (case side1 => exact ca HR305_3); (case side2 => exact HC305_3.out); rintro e w' ⟨rfl, ⟨nd, rfl⟩⟩; have p307 : 0 ≤ (x3_1 : Int) := od; have q307 : x3_1 < (l0.length : Int) := od; obtain ⟨ad307, A307_2, c307_2, A307_3, c307_3, A307_4, c307_4, e307, hx307_0, hx307_1, hx307_2, hx307_3, hx307_4, hl307_2, hi307_2, hl307_3, hi307_3, hl307_4, hi307_4⟩ := at_T64 HR0.out x3_1 p307 q307; obtain rfl : ad303 = ad307 := (by injection e307); have HR307_2 := Aside0.mk hi307_2; have HC307_2 := Aside0.mk hl307_2; clear hi307_2 hl307_2; have HR307_3 := Aside0.mk hi307_3; have HC307_3 := Aside0.mk hl307_3; clear hi307_3 hl307_3; have HR307_4 := Aside0.mk hi307_4; have HC307_4 := Aside0.mk hl307_4; clear hi307_4 hl307_4; replace p307 := eq_true p307; replace q307 := eq_true q307; have ea_ := Option.some.inj (hx303_2.symm.trans hx307_2); injection ea_ with ea_ en_ ec_; subst ea_; subst ec_; clear en_; have ea_ := Option.some.inj (hx303_3.symm.trans hx307_3); injection ea_ with ea_ en_ ec_; subst ea_; subst ec_; clear en_; have ea_ := Option.some.inj (hx303_4.symm.trans hx307_4); injection ea_ with ea_ en_ ec_; subst ea_; subst ec_; clear en_) | (go_at_call 110; (with_reducible refine (ih k1 (by have := HK1.out; omega) _ _ ((rd_T64 l0 x3_1).f4) false _ ?side1 ?side2 A8.out).mono ?_); (case side1 => exact ca HR307_4); (case side2 => exact HC307_4.out); rintro e w' ⟨rfl, ⟨nd, rfl⟩⟩))
    go_ret
    exact ⟨rs, dr⟩
   subst c9
   have H1 : (r3_low.l0 k1 l0 (wrap64 (x3_1 + 1))) = some r := by rw [if_pos rfl] at H; exact H
   clear H
   have H := H1
   clear H1
   have H' := Aside0.mk H
   clear H
   have p303 : 0 ≤ (x3_1 : Int) := od
   have q303 : x3_1 < (l0.length : Int) := od
   obtain ⟨ad303, A303_2, c303_2, A303_3, c303_3, A303_4, c303_4, e303, hx303_0, hx303_1, hx303_2, hx303_3, hx303_4, hl303_2, hi303_2, hl303_3, hi303_3, hl303_4, hi303_4⟩ := at_T64 HR0.out x3_1 p303 q303
   cases e303
   have HR303_2 := Aside0.mk hi303_2
   have HC303_2 := Aside0.mk hl303_2
   clear hi303_2 hl303_2
   have HR303_3 := Aside0.mk hi303_3
   have HC303_3 := Aside0.mk hl303_3
   clear hi303_3 hl303_3
   have HR303_4 := Aside0.mk hi303_4
   have HC303_4 := Aside0.mk hl303_4
   clear hi303_4 hl303_4
   replace p303 := eq_true p303
   replace q303 := eq_true q303
   have p304 : 0 ≤ (x3_1 : Int) := od
   have q304 : x3_1 < (l0.length : Int) := od
   obtain ⟨ad304, A304_2, c304_2, A304_3, c304_3, A304_4, c304_4, e304, hx304_0, hx304_1, hx304_2, hx304_3, hx304_4, hl304_2, hi304_2, hl304_3, hi304_3, hl304_4, hi304_4⟩ := at_T64 HR0.out x3_1 p304 q304
   obtain rfl : ad303 = ad304 := (by injection e304)
   have HR304_2 := Aside0.mk hi304_2
   have HC304_2 := Aside0.mk hl304_2
   clear hi304_2 hl304_2
   have HR304_3 := Aside0.mk hi304_3
   have HC304_3 := Aside0.mk hl304_3
   clear hi304_3 hl304_3
   have HR304_4 := Aside0.mk hi304_4
   have HC304_4 := Aside0.mk hl304_4
   clear hi304_4 hl304_4
   replace p304 := eq_true p304
   replace q304 := eq_true q304
   have ea_ := Option.some.inj (hx303_2.symm.trans hx304_2)
   injection ea_ with ea_ en_ ec_
   subst ea_
   subst ec_
   clear en_
   have ea_ := Option.some.inj (hx303_3.symm.trans hx304_3)
   injection ea_ with ea_ en_ ec_
   subst ea_
   subst ec_
   clear en_
   have ea_ := Option.some.inj (hx303_4.symm.trans hx304_4)
   injection ea_ with ea_ en_ ec_
   subst ea_
   subst ec_
   clear en_
   have p305 : 0 ≤ (x3_1 : Int) := od
   have q305 : x3_1 < (l0.length : Int) := od
   obtain ⟨ad305, A305_2, c305_2, A305_3, c305_3, A305_4, c305_4, e305, hx305_0, hx305_1, hx305_2, hx305_3, hx305_4, hl305_2, hi305_2, hl305_3, hi305_3, hl305_4, hi305_4⟩ := at_T64 HR0.out x3_1 p305 q305
   obtain rfl : ad303 = ad305 := (by injection e305)
   have HR305_2 := Aside0.mk hi305_2
   have HC305_2 := Aside0.mk hl305_2
   clear hi305_2 hl305_2
   have HR305_3 := Aside0.mk hi305_3
   have HC305_3 := Aside0.mk hl305_3
   clear hi305_3 hl305_3
   have HR305_4 := Aside0.mk hi305_4
   have HC305_4 := Aside0.mk hl305_4
   clear hi305_4 hl305_4
   replace p305 := eq_true p305
   replace q305 := eq_true q305
   have ea_ := Option.some.inj (hx303_2.symm.trans hx305_2)
   injection ea_ with ea_ en_ ec_
   subst ea_
   subst ec_
   clear en_
   have ea_ := Option.some.inj (hx303_3.symm.trans hx305_3)
   injection ea_ with ea_ en_ ec_
   subst ea_
   subst ec_
   clear en_
   have ea_ := Option.some.inj (hx303_4.symm.trans hx305_4)
   injection ea_ with ea_ en_ ec_
   subst ea_
   subst ec_
   clear en_
   go_wp2_with (first | (go_at_call 110; (with_reducible refine (ih k1 (by have := HK1.out; omega) _ _ ((rd_T64 l0 x3_1).f3) true _ ?side1 ?side2 A6.out).mono ?_); (case side1 => exact ca HR305_3); (case side2 => exact HC305_3.out); rintro e w' ⟨rfl, ⟨nd, rfl⟩⟩; have p307 : 0 ≤ (x3_1 : Int) := od; have q307 : x3_1 < (l0.length : Int) := od; obtain ⟨ad307, A307_2, c307_2, A307_3, c307_3, A307_4, c307_4, e307, hx307_0, hx307_1, hx307_2, hx307_3, hx307_4, hl307_2, hi307_2, hl307_3, hi307_3, hl307_4, hi307_4⟩ := at_T64 HR0.out x3_1 p307 q307; obtain rfl : ad303 = ad307 := (by injection e307); have HR307_2 := Aside0.mk hi307_2; have HC307_2 := Aside0.mk hl307_2; clear hi307_2 hl307_2; have HR307_3 := Aside0.mk hi307_3; have HC307_3 := Aside0.mk hl307_3; clear hi307_3 hl307_3; have HR307_4 := Aside0.mk hi307_4; have HC307_4 := Aside0.mk hl307_4; clear hi307_4 hl307_4; replace p307 := eq_true p307; replace q307 := eq_true q307; have ea_ := Option.some.inj (hx303_2.symm.trans hx307_2); injection ea_ with ea_ en_ ec_; subst ea_; subst ec_; clear en_; have ea_ := Option.some.inj (hx303_3.symm.trans hx307_3); injection ea_ with ea_ en_ ec_; subst ea_; subst ec_; clear en_; have ea_ := Option.some.inj (hx303_4.symm.trans hx307_4); injection ea_ with ea_ en_ ec_; subst ea_; subst ec_; clear en_) | (go_at_call 110; (with_reducible refine (ih k1 (by have := HK1.out; omega) _ _ ((rd_T64 l0 x3_1).f4) true _ ?side1 ?side2 A8.out).mono ?_); (case side1 => exact ca HR307_4); (case side2 => exact HC307_4.out); rintro e w' ⟨rfl, ⟨nd, rfl⟩⟩))
   go_roundg k1
   case measure => have := HK1.out; omega
   case rel => exact ⟨(wrap64 (x3_1 + 1)), rs, H', ⟨by have := HK1.out; omega⟩, dr⟩
def r3_Single.l0 : Nat → Int → Int → List (S66) → List (S64) → Option (Bool)
 | 0, _, _, _, _ => none
 | k + 1, x3, x314000, x314001, x314002 => if x3 < (x314001.length : Int) then (if 0 ≤ x3 then (if ((rd_T66 x314001 x3).f1) > 15 then (some false) else (r3_Single.l0 k (wrap64 (x3 + 1)) x314000 x314001 x314002)) else (none)) else ((r3_low.f k x314002).bind fun t315 => (some t315))
def r3_Single.f (k : Nat) (a0_0 : Int) (l0_1 : List (S66)) (l0_2 : List (S64)) : Option (Bool) := r3_Single.l0 k 0 a0_0 l0_1 l0_2
set_option maxHeartbeats 8000000 in
set_option maxRecDepth 100000 in
theorem r3_Single.calls (k : Nat) (a0_0 : Int) (A0_1 : Option Addr) (c0_1 : Nat) (l0_1 : List (S66)) (A0_2 : Option Addr) (c0_2 : Nat) (l0_2 : List (S64)) (r : Bool) (w : World) (hr0_1 : Kd.C k66 w A0_1 l0_1.length l0_1) (hc0_1 : l0_1.length ≤ c0_1) (hr0_2 : Kd.C k64 w A0_2 l0_2.length l0_2) (hc0_2 : l0_2.length ≤ c0_2) (h : r3_Single.f k a0_0 l0_1 l0_2 = some r) :
  Calls Try.prog 88 #[.agg #[.int .i64 a0_0, .slice A0_1 l0_1.length c0_1, .slice A0_2 l0_2.length c0_2]] w fun e w' => e = .returned (.bool r) ∧ Below w.heap.size w w' := by
 have hu25 := Try.underlying25
 have HR0_1 := Aside0.mk hr0_1
 have HC0_1 := Aside0.mk hc0_1
 clear hr0_1 hc0_1
 have HR0_2 := Aside0.mk hr0_2
 have HC0_2 := Aside0.mk hc0_2
 clear hr0_2 hc0_2
 have HB := Aside0.mk (Below.refl w.heap.size w)
 have H : (r3_Single.l0 k 0 a0_0 l0_1 l0_2) = some r := h
 clear h
 have H' := Aside0.mk H
 clear H
 go_enter Try.func88, Try.ntmps88
 go_wp2_with (first | ((with_reducible refine gate_dst (N := 1) rfl ?_); refine bx 1 rfl rfl #[.int .i64 a0_0, .slice A0_1 l0_1.length c0_1, .slice A0_2 l0_2.length c0_2] 25 ?_; intro gb313 hg w2 hbox hb; have BK313 := Aside0.mk (hbox); have GW313 := ge HB hg; have GE313 := ge HB hg; replace HB := sb HB hb; clear hb hbox hg))
 go_loopg [3] k (fun kq v3 w' => ∃ (x3_1 : Int), v3 = .int .i64 x3_1 ∧ Aside0 (r3_Single.l0 kq x3_1 a0_0 l0_1 l0_2 = some r) ∧ Aside0 (kq ≤ k) ∧ Aside0 (w'.heap[gb313]? = some (.cells #[.int .i64 a0_0, (.slice A0_1 l0_1.length c0_1), (.slice A0_2 l0_2.length c0_2)] 25 (0, 0))) ∧ Aside0 (Below w.heap.size w w'))
 case atStart => exact ⟨(0), rs, H', ⟨Nat.le_refl _⟩, ⟨by (with_reducible repeat (first | refine kdN ?_ _ | refine kdr ?_ | refine kal ?_ _)); exact BK313.out⟩, ⟨bb HB⟩⟩
 case round =>
  clear H'
  try clear p2
  obtain ⟨x3_1, rfl, HA, HK1, BK313, HB⟩ := hrel
  cases gk with
  | zero => exact absurd HA.out (by simp [r3_Single.l0])
  | succ k1 =>
   have H := HA.out
   clear HA
   simp only [r3_Single.l0] at H
   by_cases c3 : x3_1 < (l0_1.length : Int)
   rotate_left
   ·rw [if_neg c3] at H
    have c3b0 : decide (x3_1 < (l0_1.length : Int)) = false := decide_eq_false c3
    clear c3
    obtain ⟨t315, A8, H⟩ := be H
    replace H : (some t315) = some r := H
    obtain rfl := Option.some.inj H
    obtain ⟨hcz9_0, hcz9_1, hcz9_2, hfz9_0, hfz9_1, hfz9_2⟩ := cf3 BK313.out
    go_wp2_with (first | ((with_reducible refine gate_callee (f := 110) rfl ?_); refine gL (some 20) rfl rfl Try.func110 #[.slice A0_2 l0_2.length c0_2] rfl ?_; (with_reducible refine (r3_low.calls k1 _ _ l0_2 t315 _ ?side1 ?side2 A8.out).mono ?_); (case side1 => exact cb HR0_2 HB); (case side2 => exact HC0_2.out); rintro e w' ⟨rfl, ⟨nd, rfl⟩⟩; refine ⟨_, rfl, ?_⟩))
    go_ret
    exact ⟨rr, bb HB⟩
   rw [if_pos c3] at H
   have c3b0 : decide (x3_1 < (l0_1.length : Int)) = true := decide_eq_true c3
   clear c3
   by_cases c4 : 0 ≤ x3_1
   rotate_left
   ·rw [if_neg c4] at H
    exact absurd H (by simp)
   rw [if_pos c4] at H
   have c4b0 : decide (0 ≤ x3_1) = true := decide_eq_true c4
   clear c4
   by_cases c5 : ((rd_T66 l0_1 x3_1).f1) > 15
   ·rw [if_pos c5] at H
    have c5b0 : decide (15 < ((rd_T66 l0_1 x3_1).f1)) = true := decide_eq_true c5
    clear c5
    obtain rfl := Option.some.inj H
    obtain ⟨hcz6_0, hcz6_1, hcz6_2, hfz6_0, hfz6_1, hfz6_2⟩ := cf3 BK313.out
    have p314 : 0 ≤ (x3_1 : Int) := od
    have q314 : x3_1 < (l0_1.length : Int) := od
    obtain ⟨ad314, e314, hx314_0, hx314_1, hx314_2⟩ := at_T66 HR0_1.out x3_1 p314 q314
    cases e314
    replace hx314_0 := bcell HB.out hx314_0
    replace hx314_1 := bcell HB.out hx314_1
    replace hx314_2 := bcell HB.out hx314_2
    replace p314 := eq_true p314
    replace q314 := eq_true q314
    go_wp2
    go_ret
    exact ⟨rr, bb HB⟩
   rw [if_neg c5] at H
   have c5b0 : decide (15 < ((rd_T66 l0_1 x3_1).f1)) = false := decide_eq_false c5
   clear c5
   have H' := Aside0.mk H
   clear H
   obtain ⟨hcz7_0, hcz7_1, hcz7_2, hfz7_0, hfz7_1, hfz7_2⟩ := cf3 BK313.out
   have p314 : 0 ≤ (x3_1 : Int) := od
   have q314 : x3_1 < (l0_1.length : Int) := od
   obtain ⟨ad314, e314, hx314_0, hx314_1, hx314_2⟩ := at_T66 HR0_1.out x3_1 p314 q314
   cases e314
   replace hx314_0 := bcell HB.out hx314_0
   replace hx314_1 := bcell HB.out hx314_1
   replace hx314_2 := bcell HB.out hx314_2
   replace p314 := eq_true p314
   replace q314 := eq_true q314
   go_wp2
   go_roundg k1
   case measure => have := HK1.out; omega
   case rel => exact ⟨(wrap64 (x3_1 + 1)), rs, H', ⟨by have := HK1.out; omega⟩, ⟨by (with_reducible repeat (first | refine kdN ?_ _ | refine kdr ?_ | refine kal ?_ _)); exact BK313.out⟩, ⟨bb HB⟩⟩
def r12_Single.f (k : Nat) (a0_0 : Int) (l0_1 : List (S66)) (l0_2 : List (S64)) : Option (Int) := (r3_Is.f k a0_0 l0_1 l0_2).bind fun t317 => (if t317 = true then ((r3_Single.f k a0_0 l0_1 l0_2).bind fun t318 => (if t318 = true then (some 0) else (some 1))) else (some 30))
set_option maxHeartbeats 8000000 in
set_option maxRecDepth 100000 in
theorem r12_Single.calls (k : Nat) (a0_0 : Int) (A0_1 : Option Addr) (c0_1 : Nat) (l0_1 : List (S66)) (A0_2 : Option Addr) (c0_2 : Nat) (l0_2 : List (S64)) (r : Int) (w : World) (hr0_1 : Kd.C k66 w A0_1 l0_1.length l0_1) (hc0_1 : l0_1.length ≤ c0_1) (hr0_2 : Kd.C k64 w A0_2 l0_2.length l0_2) (hc0_2 : l0_2.length ≤ c0_2) (h : r12_Single.f k a0_0 l0_1 l0_2 = some r) :
  Calls Try.prog 52 #[.agg #[.int .i64 a0_0, .slice A0_1 l0_1.length c0_1, .slice A0_2 l0_2.length c0_2]] w fun e w' => e = .returned (.int .i64 r) ∧ Below w.heap.size w w' := by
 have hu25 := Try.underlying25
 have HR0_1 := Aside0.mk hr0_1
 have HC0_1 := Aside0.mk hc0_1
 clear hr0_1 hc0_1
 have HR0_2 := Aside0.mk hr0_2
 have HC0_2 := Aside0.mk hc0_2
 clear hr0_2 hc0_2
 have HB := Aside0.mk (Below.refl w.heap.size w)
 have H : ((r3_Is.f k a0_0 l0_1 l0_2).bind fun t317 => (if t317 = true then ((r3_Single.f k a0_0 l0_1 l0_2).bind fun t318 => (if t318 = true then (some 0) else (some 1))) else (some 30))) = some r := h
 clear h
 obtain ⟨t317, A2, H⟩ := be H
 replace H : (if t317 = true then ((r3_Single.f k a0_0 l0_1 l0_2).bind fun t318 => (if t318 = true then (some 0) else (some 1))) else (some 30)) = some r := H
 by_cases c3 : t317 = true
 rotate_left
 ·replace c3 := Bool.eq_false_iff.mpr c3
  subst c3
  have H1 : (some 30) = some r := by rw [if_neg (show ¬ (false = true) by decide)] at H; exact H
  clear H
  have H := H1
  clear H1
  obtain rfl := Option.some.inj H
  go_enter Try.func52, Try.ntmps52
  go_wp2_with (first | ((with_reducible refine gate_dst (N := 1) rfl ?_); refine bx 1 rfl rfl #[.int .i64 a0_0, .slice A0_1 l0_1.length c0_1, .slice A0_2 l0_2.length c0_2] 25 ?_; intro gb316 hg w16 hbox hb; have BK316 := Aside0.mk (hbox); have GW316 := ge HB hg; have GE316 := ge HB hg; replace HB := sb HB hb; clear hb hbox hg; obtain ⟨hcz17_0, hcz17_1, hcz17_2, hfz17_0, hfz17_1, hfz17_2⟩ := cf3 BK316.out) | ((with_reducible refine gate_callee (f := 87) rfl ?_); refine gL (some 4) rfl rfl Try.func87 #[.agg #[.int .i64 a0_0, .slice A0_1 l0_1.length c0_1, .slice A0_2 l0_2.length c0_2]] rfl ?_; (with_reducible refine (r3_Is.calls k a0_0 _ _ l0_1 _ _ l0_2 false _ ?side1 ?side2 ?side3 ?side4 A2.out).mono ?_); (case side1 => exact cb HR0_1 HB); (case side2 => exact HC0_1.out); (case side3 => exact cb HR0_2 HB); (case side4 => exact HC0_2.out); rintro e w18 ⟨rfl, hb⟩; refine ⟨_, rfl, ?_⟩; replace BK316 := kb BK316 hb; replace HB := sb HB hb; (try clear hb); (try clear hb2); (try clear hk); (try clear hi)))
  go_ret
  exact ⟨rr, bb HB⟩
 subst c3
 have H1 : ((r3_Single.f k a0_0 l0_1 l0_2).bind fun t318 => (if t318 = true then (some 0) else (some 1))) = some r := by rw [if_pos rfl] at H; exact H
 clear H
 have H := H1
 clear H1
 obtain ⟨t318, A4, H⟩ := be H
 replace H : (if t318 = true then (some 0) else (some 1)) = some r := H
 by_cases c5 : t318 = true
 ·subst c5
  have H1 : (some 0) = some r := by rw [if_pos rfl] at H; exact H
  clear H
  have H := H1
  clear H1
  obtain rfl := Option.some.inj H
  go_enter Try.func52, Try.ntmps52
  go_wp2_with (first | ((with_reducible refine gate_dst (N := 1) rfl ?_); refine bx 1 rfl rfl #[.int .i64 a0_0, .slice A0_1 l0_1.length c0_1, .slice A0_2 l0_2.length c0_2] 25 ?_; intro gb316 hg w6 hbox hb; have BK316 := Aside0.mk (hbox); have GW316 := ge HB hg; have GE316 := ge HB hg; replace HB := sb HB hb; clear hb hbox hg; obtain ⟨hcz7_0, hcz7_1, hcz7_2, hfz7_0, hfz7_1, hfz7_2⟩ := cf3 BK316.out) | ((with_reducible refine gate_callee (f := 87) rfl ?_); refine gL (some 4) rfl rfl Try.func87 #[.agg #[.int .i64 a0_0, .slice A0_1 l0_1.length c0_1, .slice A0_2 l0_2.length c0_2]] rfl ?_; (with_reducible refine (r3_Is.calls k a0_0 _ _ l0_1 _ _ l0_2 true _ ?side1 ?side2 ?side3 ?side4 A2.out).mono ?_); (case side1 => exact cb HR0_1 HB); (case side2 => exact HC0_1.out); (case side3 => exact cb HR0_2 HB); (case side4 => exact HC0_2.out); rintro e w8 ⟨rfl, hb⟩; refine ⟨_, rfl, ?_⟩; replace BK316 := kb BK316 hb; replace HB := sb HB hb; (try clear hb); (try clear hb2); (try clear hk); (try clear hi); obtain ⟨hcz9_0, hcz9_1, hcz9_2, hfz9_0, hfz9_1, hfz9_2⟩ := cf3 BK316.out) | ((with_reducible refine gate_callee (f := 88) rfl ?_); refine gL (some 7) rfl rfl Try.func88 #[.agg #[.int .i64 a0_0, .slice A0_1 l0_1.length c0_1, .slice A0_2 l0_2.length c0_2]] rfl ?_; (with_reducible refine (r3_Single.calls k a0_0 _ _ l0_1 _ _ l0_2 true _ ?side1 ?side2 ?side3 ?side4 A4.out).mono ?_); (case side1 => exact cb HR0_1 HB); (case side2 => exact HC0_1.out); (case side3 => exact cb HR0_2 HB); (case side4 => exact HC0_2.out); rintro e w10 ⟨rfl, hb⟩; refine ⟨_, rfl, ?_⟩; replace BK316 := kb BK316 hb; replace HB := sb HB hb; (try clear hb); (try clear hb2); (try clear hk); (try clear hi)))
  go_ret
  exact ⟨rr, bb HB⟩
 replace c5 := Bool.eq_false_iff.mpr c5
 subst c5
 have H1 : (some 1) = some r := by rw [if_neg (show ¬ (false = true) by decide)] at H; exact H
 clear H
 have H := H1
 clear H1
 obtain rfl := Option.some.inj H
 go_enter Try.func52, Try.ntmps52
 go_wp2_with (first | ((with_reducible refine gate_dst (N := 1) rfl ?_); refine bx 1 rfl rfl #[.int .i64 a0_0, .slice A0_1 l0_1.length c0_1, .slice A0_2 l0_2.length c0_2] 25 ?_; intro gb316 hg w11 hbox hb; have BK316 := Aside0.mk (hbox); have GW316 := ge HB hg; have GE316 := ge HB hg; replace HB := sb HB hb; clear hb hbox hg; obtain ⟨hcz12_0, hcz12_1, hcz12_2, hfz12_0, hfz12_1, hfz12_2⟩ := cf3 BK316.out) | ((with_reducible refine gate_callee (f := 87) rfl ?_); refine gL (some 4) rfl rfl Try.func87 #[.agg #[.int .i64 a0_0, .slice A0_1 l0_1.length c0_1, .slice A0_2 l0_2.length c0_2]] rfl ?_; (with_reducible refine (r3_Is.calls k a0_0 _ _ l0_1 _ _ l0_2 true _ ?side1 ?side2 ?side3 ?side4 A2.out).mono ?_); (case side1 => exact cb HR0_1 HB); (case side2 => exact HC0_1.out); (case side3 => exact cb HR0_2 HB); (case side4 => exact HC0_2.out); rintro e w13 ⟨rfl, hb⟩; refine ⟨_, rfl, ?_⟩; replace BK316 := kb BK316 hb; replace HB := sb HB hb; (try clear hb); (try clear hb2); (try clear hk); (try clear hi); obtain ⟨hcz14_0, hcz14_1, hcz14_2, hfz14_0, hfz14_1, hfz14_2⟩ := cf3 BK316.out) | ((with_reducible refine gate_callee (f := 88) rfl ?_); refine gL (some 7) rfl rfl Try.func88 #[.agg #[.int .i64 a0_0, .slice A0_1 l0_1.length c0_1, .slice A0_2 l0_2.length c0_2]] rfl ?_; (with_reducible refine (r3_Single.calls k a0_0 _ _ l0_1 _ _ l0_2 false _ ?side1 ?side2 ?side3 ?side4 A4.out).mono ?_); (case side1 => exact cb HR0_1 HB); (case side2 => exact HC0_1.out); (case side3 => exact cb HR0_2 HB); (case side4 => exact HC0_2.out); rintro e w15 ⟨rfl, hb⟩; refine ⟨_, rfl, ?_⟩; replace BK316 := kb BK316 hb; replace HB := sb HB hb; (try clear hb); (try clear hb2); (try clear hk); (try clear hi)))
 go_ret
 exact ⟨rr, bb HB⟩
def r12_Copies.f (k : Nat) (a0_0 : Int) (l0_1 : List (S66)) (l0_2 : List (S64)) (a1 : Int) : Option (Int) := (r12_Single.f k a0_0 l0_1 l0_2).bind fun t320 => (if t320 = 0 then (if a1 < 1 then (some 1) else (if a1 > 3 then (some 1) else (some 0))) else (some t320))
set_option maxHeartbeats 8000000 in
set_option maxRecDepth 100000 in
theorem r12_Copies.calls (k : Nat) (a0_0 : Int) (A0_1 : Option Addr) (c0_1 : Nat) (l0_1 : List (S66)) (A0_2 : Option Addr) (c0_2 : Nat) (l0_2 : List (S64)) (a1 : Int) (r : Int) (w : World) (hr0_1 : Kd.C k66 w A0_1 l0_1.length l0_1) (hc0_1 : l0_1.length ≤ c0_1) (hr0_2 : Kd.C k64 w A0_2 l0_2.length l0_2) (hc0_2 : l0_2.length ≤ c0_2) (h : r12_Copies.f k a0_0 l0_1 l0_2 a1 = some r) :
  Calls Try.prog 18 #[.agg #[.int .i64 a0_0, .slice A0_1 l0_1.length c0_1, .slice A0_2 l0_2.length c0_2], .int .i64 a1] w fun e w' => e = .returned (.int .i64 r) ∧ Below w.heap.size w w' := by
 have hu25 := Try.underlying25
 have HR0_1 := Aside0.mk hr0_1
 have HC0_1 := Aside0.mk hc0_1
 clear hr0_1 hc0_1
 have HR0_2 := Aside0.mk hr0_2
 have HC0_2 := Aside0.mk hc0_2
 clear hr0_2 hc0_2
 have HB := Aside0.mk (Below.refl w.heap.size w)
 have H : ((r12_Single.f k a0_0 l0_1 l0_2).bind fun t320 => (if t320 = 0 then (if a1 < 1 then (some 1) else (if a1 > 3 then (some 1) else (some 0))) else (some t320))) = some r := h
 clear h
 obtain ⟨t320, A3, H⟩ := be H
 replace H : (if t320 = 0 then (if a1 < 1 then (some 1) else (if a1 > 3 then (some 1) else (some 0))) else (some t320)) = some r := H
 by_cases c4 : t320 = 0
 rotate_left
 ·rw [if_neg c4] at H
  have c4b0 : (t320 == 0) = false := beq_eq_false_iff_ne.mpr c4
  have c4b1 : (t320 != 0) = true := bne_iff_ne.mpr c4
  obtain rfl := Option.some.inj H
  go_enter Try.func18, Try.ntmps18
  go_wp2_with (first | ((with_reducible refine gate_dst (N := 2) rfl ?_); refine bx 2 rfl rfl #[.int .i64 a0_0, .slice A0_1 l0_1.length c0_1, .slice A0_2 l0_2.length c0_2] 25 ?_; intro gb319 hg w16 hbox hb; have BK319 := Aside0.mk (hbox); have GW319 := ge HB hg; have GE319 := ge HB hg; replace HB := sb HB hb; clear hb hbox hg; obtain ⟨hcz17_0, hcz17_1, hcz17_2, hfz17_0, hfz17_1, hfz17_2⟩ := cf3 BK319.out) | ((with_reducible refine gate_callee (f := 52) rfl ?_); refine gL (some 7) rfl rfl Try.func52 #[.agg #[.int .i64 a0_0, .slice A0_1 l0_1.length c0_1, .slice A0_2 l0_2.length c0_2]] rfl ?_; (with_reducible refine (r12_Single.calls k a0_0 _ _ l0_1 _ _ l0_2 t320 _ ?side1 ?side2 ?side3 ?side4 A3.out).mono ?_); (case side1 => exact cb HR0_1 HB); (case side2 => exact HC0_1.out); (case side3 => exact cb HR0_2 HB); (case side4 => exact HC0_2.out); rintro e w18 ⟨rfl, hb⟩; refine ⟨_, rfl, ?_⟩; replace BK319 := kb BK319 hb; replace HB := sb HB hb; (try clear hb); (try clear hb2); (try clear hk); (try clear hi)))
  go_ret
  exact ⟨rr, bb HB⟩
 rw [if_pos c4] at H
 have c4b0 : (t320 == 0) = true := beq_iff_eq.mpr c4
 have c4b1 : (t320 != 0) = false := bne_eq_false_iff_eq.mpr c4
 clear c4
 by_cases c5 : a1 < 1
 ·rw [if_pos c5] at H
  have c5b0 : decide (a1 < 1) = true := decide_eq_true c5
  clear c5
  obtain rfl := Option.some.inj H
  go_enter Try.func18, Try.ntmps18
  go_wp2_with (first | ((with_reducible refine gate_dst (N := 2) rfl ?_); refine bx 2 rfl rfl #[.int .i64 a0_0, .slice A0_1 l0_1.length c0_1, .slice A0_2 l0_2.length c0_2] 25 ?_; intro gb319 hg w6 hbox hb; have BK319 := Aside0.mk (hbox); have GW319 := ge HB hg; have GE319 := ge HB hg; replace HB := sb HB hb; clear hb hbox hg; obtain ⟨hcz7_0, hcz7_1, hcz7_2, hfz7_0, hfz7_1, hfz7_2⟩ := cf3 BK319.out) | ((with_reducible refine gate_callee (f := 52) rfl ?_); refine gL (some 7) rfl rfl Try.func52 #[.agg #[.int .i64 a0_0, .slice A0_1 l0_1.length c0_1, .slice A0_2 l0_2.length c0_2]] rfl ?_; (with_reducible refine (r12_Single.calls k a0_0 _ _ l0_1 _ _ l0_2 t320 _ ?side1 ?side2 ?side3 ?side4 A3.out).mono ?_); (case side1 => exact cb HR0_1 HB); (case side2 => exact HC0_1.out); (case side3 => exact cb HR0_2 HB); (case side4 => exact HC0_2.out); rintro e w8 ⟨rfl, hb⟩; refine ⟨_, rfl, ?_⟩; replace BK319 := kb BK319 hb; replace HB := sb HB hb; (try clear hb); (try clear hb2); (try clear hk); (try clear hi)))
  go_ret
  exact ⟨rr, bb HB⟩
 rw [if_neg c5] at H
 have c5b0 : decide (a1 < 1) = false := decide_eq_false c5
 clear c5
 by_cases c9 : a1 > 3
 ·rw [if_pos c9] at H
  have c9b0 : decide (3 < a1) = true := decide_eq_true c9
  clear c9
  obtain rfl := Option.some.inj H
  go_enter Try.func18, Try.ntmps18
  go_wp2_with (first | ((with_reducible refine gate_dst (N := 2) rfl ?_); refine bx 2 rfl rfl #[.int .i64 a0_0, .slice A0_1 l0_1.length c0_1, .slice A0_2 l0_2.length c0_2] 25 ?_; intro gb319 hg w10 hbox hb; have BK319 := Aside0.mk (hbox); have GW319 := ge HB hg; have GE319 := ge HB hg; replace HB := sb HB hb; clear hb hbox hg; obtain ⟨hcz11_0, hcz11_1, hcz11_2, hfz11_0, hfz11_1, hfz11_2⟩ := cf3 BK319.out) | ((with_reducible refine gate_callee (f := 52) rfl ?_); refine gL (some 7) rfl rfl Try.func52 #[.agg #[.int .i64 a0_0, .slice A0_1 l0_1.length c0_1, .slice A0_2 l0_2.length c0_2]] rfl ?_; (with_reducible refine (r12_Single.calls k a0_0 _ _ l0_1 _ _ l0_2 t320 _ ?side1 ?side2 ?side3 ?side4 A3.out).mono ?_); (case side1 => exact cb HR0_1 HB); (case side2 => exact HC0_1.out); (case side3 => exact cb HR0_2 HB); (case side4 => exact HC0_2.out); rintro e w12 ⟨rfl, hb⟩; refine ⟨_, rfl, ?_⟩; replace BK319 := kb BK319 hb; replace HB := sb HB hb; (try clear hb); (try clear hb2); (try clear hk); (try clear hi)))
  go_ret
  exact ⟨rr, bb HB⟩
 rw [if_neg c9] at H
 have c9b0 : decide (3 < a1) = false := decide_eq_false c9
 clear c9
 obtain rfl := Option.some.inj H
 go_enter Try.func18, Try.ntmps18
 go_wp2_with (first | ((with_reducible refine gate_dst (N := 2) rfl ?_); refine bx 2 rfl rfl #[.int .i64 a0_0, .slice A0_1 l0_1.length c0_1, .slice A0_2 l0_2.length c0_2] 25 ?_; intro gb319 hg w13 hbox hb; have BK319 := Aside0.mk (hbox); have GW319 := ge HB hg; have GE319 := ge HB hg; replace HB := sb HB hb; clear hb hbox hg; obtain ⟨hcz14_0, hcz14_1, hcz14_2, hfz14_0, hfz14_1, hfz14_2⟩ := cf3 BK319.out) | ((with_reducible refine gate_callee (f := 52) rfl ?_); refine gL (some 7) rfl rfl Try.func52 #[.agg #[.int .i64 a0_0, .slice A0_1 l0_1.length c0_1, .slice A0_2 l0_2.length c0_2]] rfl ?_; (with_reducible refine (r12_Single.calls k a0_0 _ _ l0_1 _ _ l0_2 t320 _ ?side1 ?side2 ?side3 ?side4 A3.out).mono ?_); (case side1 => exact cb HR0_1 HB); (case side2 => exact HC0_1.out); (case side3 => exact cb HR0_2 HB); (case side4 => exact HC0_2.out); rintro e w15 ⟨rfl, hb⟩; refine ⟨_, rfl, ?_⟩; replace BK319 := kb BK319 hb; replace HB := sb HB hb; (try clear hb); (try clear hb2); (try clear hk); (try clear hi)))
 go_ret
 exact ⟨rr, bb HB⟩
mutual
def lowS : S64 → Bool
  | ⟨op, m, _, t, e⟩ => !(decide (op = 3) && decide (m > 15)) && (lowB t && lowB e)
def lowB : List S64 → Bool
  | [] => true
  | x :: r => lowS x && lowB r
end
theorem lowS_eq (x : S64) : lowS x = (!(decide (x.f0 = 3) && decide (x.f1 > 15)) && (lowB x.f3 && lowB x.f4)) := by cases x; simp only [lowS]
theorem lowB_nil : lowB [] = true := by simp only [lowB]
theorem lowB_cons (x : S64) (r : List S64) : lowB (x :: r) = (lowS x && lowB r) := by simp only [lowB]
theorem wks_low : (∀ x : S64, (∀ n, (wks n x.f3).any (fun x => decide (x.2.f0 = 3) && decide (x.2.f1 > 15)) = !lowB x.f3) ∧ (∀ n, (wks n x.f4).any (fun x => decide (x.2.f0 = 3) && decide (x.2.f1 > 15)) = !lowB x.f4)) ∧
    (∀ l, ∀ n, (wks n l).any (fun x => decide (x.2.f0 = 3) && decide (x.2.f1 > 15)) = !lowB l) := by
  refine S_ind (fun a b l t e h1 h2 => ⟨h1, h2⟩) ?_ (fun x r ih1 ih2 => ?_)
  · intro n
    rw [wks_nil, lowB_nil]
    rfl
  · intro n
    rw [wks_cons, wkS_eq, lowB_cons, lowS_eq, List.any_append, List.any_cons, List.any_append, ih1.1, ih1.2, ih2]
    cases decide (x.f0 = 3) && decide (x.f1 > 15) <;> cases lowB x.f3 <;> cases lowB x.f4 <;> cases lowB r <;> rfl
theorem low_tells : (∀ x, goodS x → Tells (fun k => r3_low.f k x.f3) (lowB x.f3) ∧ Tells (fun k => r3_low.f k x.f4) (lowB x.f4)) ∧
    (∀ suf, ∀ (pre : List S64), goodSs suf → (pre ++ suf).length ≤ 9223372036854775807 → Tells (fun k => r3_low.l0 k (pre ++ suf) (pre.length : Int)) (lowB suf)) := by
  refine S_ind (fun a b l t e h1 h2 => ?_) ?_ (fun x r ih1 ih2 => ?_)
  · intro hg
    rw [goodS_mk] at hg
    constructor
    · refine Tells.succ ?_
      simp only [r3_low.f]
      exact h1 [] hg.2.1.2 hg.2.1.1
    · refine Tells.succ ?_
      simp only [r3_low.f]
      exact h2 [] hg.2.2.2 hg.2.2.1
  · intro pre _ _
    refine Tells.succ ?_
    simp only [r3_low.l0, pre_nlt, if_false]
    rw [lowB_nil]
    exact Tells.pure _
  · intro pre hg hl
    rw [goodSs_cons] at hg
    obtain ⟨t1, t2⟩ := ih1 hg.1
    have t3 := ih2 (pre ++ [x]) hg.2 (by rw [← pre_app]; exact hl)
    rw [← pre_app] at t3
    refine Tells.succ ?_
    simp only [r3_low.l0, pre_lt, pre_pos, if_true, rdS_mid]
    rw [pre_next pre x r hl, lowB_cons, lowS_eq, Bool.and_assoc, Bool.and_assoc]
    by_cases h3 : x.f0 = 3
    · refine Tells.ifT h3 ?_
      rw [decide_eq_true h3, Bool.true_and]
      by_cases h15 : x.f1 > 15
      · rw [decide_eq_true h15, Bool.not_true, Bool.false_and]
        exact Tells.ifT h15 (Tells.pure _)
      · rw [decide_eq_false h15, Bool.not_false, Bool.true_and]
        exact Tells.ifF h15 (Tells.bind t1 (Tells.ifB (Tells.bind t2 (Tells.ifB t3))))
    · refine Tells.ifF h3 ?_
      rw [decide_eq_false h3, Bool.false_and, Bool.not_false, Bool.true_and]
      exact Tells.bind t1 (Tells.ifB (Tells.bind t2 (Tells.ifB t3)))
theorem single_loop (w : Int) (body : List S64) (hl : body.length ≤ 9223372036854775807) (hg : goodSs body) : ∀ (suf pre : List S66), (pre ++ suf).length ≤ 18 →
    Tells (fun k => r3_Single.l0 k (pre.length : Int) w (pre ++ suf) body) (!(suf.any (fun v => decide (v.f1 > 15))) && lowB body)
  | [], pre, _ => by
    refine Tells.succ ?_
    simp only [r3_Single.l0, pre_nlt, if_false, List.any_nil, Bool.not_false, Bool.true_and]
    refine Tells.id' (Tells.succ ?_)
    simp only [r3_low.f]
    exact low_tells.2 body [] hg hl
  | v :: r, pre, h => by
    refine Tells.succ ?_
    simp only [r3_Single.l0, pre_lt, pre_pos, if_true, rdV_mid, List.any_cons]
    by_cases h15 : v.f1 > 15
    · rw [decide_eq_true h15, Bool.true_or, Bool.not_true, Bool.false_and]
      exact Tells.ifT h15 (Tells.pure _)
    · rw [decide_eq_false h15, Bool.false_or]
      refine Tells.ifF h15 ?_
      rw [pre_next pre v r (by omega)]
      have := single_loop w body hl hg r (pre ++ [v]) (by rw [← pre_app]; exact h)
      rw [← pre_app] at this
      exact this
def sgB (vars : List S66) (body : List S64) : Bool := !(vars.any (fun v => decide (v.f1 > 15))) && lowB body
theorem single_tells (w : Int) (vars : List S66) (body : List S64) (hl : body.length ≤ 9223372036854775807) (hg : goodSs body) (hp : pIs w vars body = true) :
    Tells (fun k => prog_Single.f k w vars body) (sgB vars body, 0) ∧ Tells (fun k => r3_Single.f k w vars body) (sgB vars body) := by
  have tc := pCheck_tells w vars body hl hg
  rw [hp] at tc
  obtain ⟨hh, hn4⟩ := pIs_all hp
  obtain ⟨h1, h8, _, h18, hv0, _⟩ := hIs_all hh
  have hle := (s_le.2 body).1
  unfold sgB
  constructor
  · unfold prog_Single.f
    refine Tells.bind tc (Tells.ifT rfl ?_)
    cases vars.any (fun v => decide (v.f1 > 15))
    · refine Tells.ifF (by decide) ?_
      have tw : Tells (fun k => prog_walk.f k body 0) (wks 0 body, 0 + sCs body) := by
        refine Tells.succ ?_
        simp only [prog_walk.f]
        exact walk_tells.2 body [] hg hl 0 (by decide) (by omega)
      refine Tells.bind tw ?_
      have e := wks_low.2 body 0
      simp only [e, Bool.not_not, Bool.not_false, Bool.true_and]
      exact Tells.pure _
    · exact Tells.ifT rfl (Tells.pure _)
  · unfold r3_Single.f
    exact single_loop w body hl hg vars [] h18
def sgE (w : Int) (vars : List S66) (body : List S64) : Int := if pIs w vars body = true then (if sgB vars body = true then 0 else 1) else 30
theorem prodSingle_tells (w : Int) (vars : List S66) (body : List S64) (hl : body.length ≤ 9223372036854775807) (hg : goodSs body) : Tells (fun k => prod_single.f k w vars body) (sgE w vars body) := by
  unfold prod_single.f sgE
  cases hp : pIs w vars body
  · have tc := pCheck_tells w vars body hl hg
    rw [hp] at tc
    have t : Tells (fun k => prog_Single.f k w vars body) (false, 30) := by
      unfold prog_Single.f
      exact Tells.bind tc (Tells.ifF (by decide) (Tells.pure _))
    exact Tells.bind t (Tells.ifF (by decide) (Tells.pure _))
  · refine Tells.bind (single_tells w vars body hl hg hp).1 (Tells.ifT rfl ?_)
    cases sgB vars body
    · exact Tells.ifF (by decide) (Tells.pure _)
    · exact Tells.ifT rfl (Tells.pure _)
theorem refSingle_tells (w : Int) (vars : List S66) (body : List S64) (hl : body.length ≤ 9223372036854775807) (hg : goodSs body) : Tells (fun k => r12_Single.f k w vars body) (sgE w vars body) := by
  unfold r12_Single.f sgE
  have ti := pIs_tells w vars body hl hg
  cases hp : pIs w vars body
  · rw [hp] at ti
    exact Tells.bind ti (Tells.ifF (by decide) (Tells.pure _))
  · rw [hp] at ti
    refine Tells.bind ti (Tells.ifT rfl (Tells.bind (single_tells w vars body hl hg hp).2 ?_))
    cases sgB vars body
    · exact Tells.ifF (by decide) (Tells.pure _)
    · exact Tells.ifT rfl (Tells.pure _)
def cpE (w : Int) (vars : List S66) (body : List S64) (n : Int) : Int := if sgE w vars body = 0 then (if n < 1 then 1 else if n > 3 then 1 else 0) else sgE w vars body
theorem Copies_tells (w : Int) (vars : List S66) (body : List S64) (hl : body.length ≤ 9223372036854775807) (hg : goodSs body) (n : Int) : Tells (fun k => r12_Copies.f k w vars body n) (cpE w vars body n) := by
  unfold r12_Copies.f cpE
  refine Tells.bind (refSingle_tells w vars body hl hg) ?_
  by_cases h : sgE w vars body = 0
  · refine Tells.ifT h ?_
    rw [if_pos h]
    by_cases h1 : n < 1
    · refine Tells.ifT h1 ?_
      rw [if_pos h1]
      exact Tells.pure _
    · refine Tells.ifF h1 ?_
      rw [if_neg h1]
      by_cases h3 : n > 3
      · refine Tells.ifT h3 ?_
        rw [if_pos h3]
        exact Tells.pure _
      · refine Tells.ifF h3 ?_
        rw [if_neg h3]
        exact Tells.pure _
  · refine Tells.ifF h ?_
    rw [if_neg h]
    exact Tells.pure _
end Go.Proofs.Ytilebfkehmecaaa.Print
namespace Go.Proofs.Ytilebfkehmecaaa.Print
open Go.RowKit Go.Proofs.YtilebfkehmecaaaW.PrintWords Go.Proofs.YtilebfkehmecaaaW.PrintLast Go.Proofs.YtilebfkehmecaaaW.PrintMore
attribute [local go_sem] max2_int min2_int max_two min_two max_three min_three max_four min_four
set_option linter.unusedVariables false
set_option linter.unusedSimpArgs false
open Go.RowKit
def prod_tag.f (_ : Nat) (a0 : Int) : Option ByteArray := if a0 = 0 then some ⟨#[95, 48]⟩ else if a0 = 1 then some ⟨#[95, 49]⟩ else if a0 = 2 then some ⟨#[95, 50]⟩ else none
set_option maxHeartbeats 8000000 in
set_option maxRecDepth 100000 in
theorem prod_tag.calls (k : Nat) (a0 : Int) (r : ByteArray) (w : World) (h : prod_tag.f k a0 = some r) : Calls Try.prog 80 #[.int .i64 a0] w fun e w' => e = .returned (.string r) ∧ Below w.heap.size w w' := by
  unfold prod_tag.f at h
  have hc : (a0 = 0 ∧ r = ⟨#[95, 48]⟩) ∨ (a0 = 1 ∧ r = ⟨#[95, 49]⟩) ∨ (a0 = 2 ∧ r = ⟨#[95, 50]⟩) := by
    by_cases h0 : a0 = 0
    · rw [if_pos h0] at h; exact .inl ⟨h0, (Option.some.inj h).symm⟩
    · rw [if_neg h0] at h
      by_cases h1 : a0 = 1
      · rw [if_pos h1] at h; exact .inr (.inl ⟨h1, (Option.some.inj h).symm⟩)
      · rw [if_neg h1] at h
        by_cases h2 : a0 = 2
        · rw [if_pos h2] at h; exact .inr (.inr ⟨h2, (Option.some.inj h).symm⟩)
        · rw [if_neg h2] at h; cases h
  clear h
  rcases hc with ⟨rfl, rfl⟩ | ⟨rfl, rfl⟩ | ⟨rfl, rfl⟩
  all_goals
    go_enter Try.func80, Try.ntmps80
    go_wp2
    go_ret
    exact ⟨rfl, Below.refl _ _⟩
end Go.Proofs.Ytilebfkehmecaaa.Print
namespace Go.Proofs.Ytilebfkehmecaaa.Print
open Go.RowKit Go.Proofs.YtilebfkehmecaaaW.PrintWords Go.Proofs.YtilebfkehmecaaaW.PrintLast Go.Proofs.YtilebfkehmecaaaW.PrintMore
attribute [local go_sem] max2_int min2_int max_two min_two max_three min_three max_four min_four
set_option linter.unusedVariables false
set_option linter.unusedSimpArgs false
def prod_variables.l0 : Nat → Int → List (S66) → List (S66) → Int → Int → Option ((List (S66)))
 | 0, _, _, _, _, _ => none
 | k + 1, x1, x5, x8, x9, x10 => if x10 < x9 then (if 0 ≤ x10 then (if x10 < (x8.length : Int) then ((prod_tag.f k x1).bind fun t149 => (if ((rd_T66 x8 x10).f0).size + t149.size ≤ 9223372036854775807 then (if x5.length < 4398046511104 then (prod_variables.l0 k x1 (x5 ++ [(⟨((rd_T66 x8 x10).f0) ++ t149, wrap64 (((rd_T66 x8 x10).f1) + (wrap64 (16 * x1))), (rd_T66 x8 x10).f2⟩ : S66)]) x8 x9 (wrap64 (x10 + 1))) else (none)) else (none))) else (none)) else (none)) else (some x5)
def prod_variables.f (k : Nat) (l0 : List (S66)) (a1 : Int) : Option ((List (S66))) := prod_variables.l0 k a1 ([] : List (S66)) l0 (l0.length : Int) 0
def prod_variables.T5 : Bool × List (List Nat × List Nat) := (true, [([], []), ([], []), ([1], [1]), ([], []), ([3], [3]), ([2, 4], [2, 4]), ([], []), ([6], [6]), ([], []), ([8], [8]), ([7, 9], [7, 9]), ([], []), ([11], [11]), ([5, 10, 12], [5, 10, 12]), ([13], [13]), ([0, 14, 4], [0, 14]), ([15, 15, 0, 1, 2, 3, 4, 5, 6, 7, 8, 9, 10, 11, 12, 13, 14, 15], [0, 15])])
def prod_variables.B5 : List Nat := [0, 0, 2, 0, 8, 30, 0, 64, 0, 256, 960, 0, 2048, 8190, 16382, 32767, 65535]
theorem prod_variables.tab5 : rtab .any (opsOf Try.f45 5) = prod_variables.T5 := by kernel_rfl
theorem prod_variables.bits5 : waitsOk prod_variables.T5.2 prod_variables.B5 = true := by kernel_rfl
set_option maxHeartbeats 8000000 in
set_option maxRecDepth 100000 in
theorem prod_variables.calls (k : Nat) (A0 : Option Addr) (c0 : Nat) (l0 : List (S66)) (a1 : Int) (r : List (S66)) (w : World) (hr0 : Kd.C k66 w A0 l0.length l0) (hc0 : l0.length ≤ c0) (h : prod_variables.f k l0 a1 = some r) :
  Calls Try.prog 45 #[.slice A0 l0.length c0, .int .i64 a1] w fun e w' => ∃ v0_ : Value, e = .returned (v0_) ∧ Kd.R k66 66 w' w.heap.size (fun _ => True) v0_ r ∧ Below w.heap.size w w' := by
 have hu66 := Try.underlying66
 have HR0 := Aside0.mk hr0
 have HC0 := Aside0.mk hc0
 clear hr0 hc0
 have HB := Aside0.mk (Below.refl w.heap.size w)
 have H : (prod_variables.l0 k a1 ([] : List (S66)) l0 (l0.length : Int) 0) = some r := h
 clear h
 have H' := Aside0.mk H
 clear H
 go_enter Try.func45, Try.ntmps45
 go_wp2
 go_loopg [5, 10] k (fun kq v5 v10 w' => ∃ (x5_1 : List (S66)) (x10_1 : Int), v10 = .int .i64 x10_1 ∧ Aside0 (prod_variables.l0 kq a1 x5_1 l0 (l0.length : Int) x10_1 = some r) ∧ Aside0 (kq ≤ k) ∧ Aside0 (Kd.R k66 66 w' w.heap.size (fun _ => True) v5 x5_1) ∧ Aside0 (Below w.heap.size w w'))
 case atStart => exact ⟨(([] : List (S66))), (0), rs, H', ⟨Nat.le_refl _⟩, ⟨by first | exact Kd.R_nil _ _ _ _ _ | exact Kd.N_nil _ _ _ _ _ | exact Kd.V_nil _ _ _ _ _ | exact Kd.Q_nil _ _ _ _ _ | exact Kd.S_nil _ _ _ _ _⟩, ⟨bb HB⟩⟩
 case round =>
  clear H'
  try clear p2
  obtain ⟨x5_1, x10_1, rfl, HA, HK1, HO_5, HB⟩ := hrel
  cases gk with
  | zero => exact absurd HA.out (by simp [prod_variables.l0])
  | succ k1 =>
   have H := HA.out
   clear HA
   simp only [prod_variables.l0] at H
   by_cases c3 : x10_1 < (l0.length : Int)
   rotate_left
   ·rw [if_neg c3] at H
    have c3b0 : decide (x10_1 < (l0.length : Int)) = false := decide_eq_false c3
    clear c3
    obtain rfl := Option.some.inj H
    go_wp2
    go_ret
    exact ⟨_, rr, by (with_reducible repeat (first | apply Kd.R_alloc | apply Kd.R_drewN | apply Kd.R_drew)); exact HO_5.out, bb HB⟩
   rw [if_pos c3] at H
   have c3b0 : decide (x10_1 < (l0.length : Int)) = true := decide_eq_true c3
   clear c3
   by_cases c4 : 0 ≤ x10_1
   rotate_left
   ·rw [if_neg c4] at H
    exact absurd H (by simp)
   rw [if_pos c4] at H
   have c4b0 : decide (0 ≤ x10_1) = true := decide_eq_true c4
   clear c4
   by_cases c5 : x10_1 < (l0.length : Int)
   rotate_left
   ·rw [if_neg c5] at H
    exact absurd H (by simp)
   rw [if_pos c5] at H
   have c5b0 : decide (x10_1 < (l0.length : Int)) = true := decide_eq_true c5
   clear c5
   obtain ⟨t149, A6, H⟩ := be H
   replace H : (if ((rd_T66 l0 x10_1).f0).size + t149.size ≤ 9223372036854775807 then (if x5_1.length < 4398046511104 then (prod_variables.l0 k1 a1 (x5_1 ++ [(⟨((rd_T66 l0 x10_1).f0) ++ t149, wrap64 (((rd_T66 l0 x10_1).f1) + (wrap64 (16 * a1))), (rd_T66 l0 x10_1).f2⟩ : S66)]) l0 (l0.length : Int) (wrap64 (x10_1 + 1))) else (none)) else (none)) = some r := H
   by_cases c7 : ((rd_T66 l0 x10_1).f0).size + t149.size ≤ 9223372036854775807
   rotate_left
   ·rw [if_neg c7] at H
    exact absurd H (by simp)
   rw [if_pos c7] at H
   have c7b0 := eq_true c7
   have c7b1 : decide (((rd_T66 l0 x10_1).f0).size + t149.size ≤ 9223372036854775807) = true := decide_eq_true c7
   try have c7b2 : (9223372036854775807 < ((rd_T66 l0 x10_1).f0).size + t149.size) = False := eq_false (Nat.not_lt.2 c7)
   by_cases c8 : x5_1.length < 4398046511104
   rotate_left
   ·rw [if_neg c8] at H
    exact absurd H (by simp)
   rw [if_pos c8] at H
   have LMc8 := Aside0.mk c8
   clear c8
   obtain ⟨y150, hy150⟩ : ∃ y_ : List (S66), y_ = (x5_1 ++ [(⟨((rd_T66 l0 x10_1).f0) ++ t149, wrap64 (((rd_T66 l0 x10_1).f1) + (wrap64 (16 * a1))), (rd_T66 l0 x10_1).f2⟩ : S66)]) := ⟨_, rfl⟩
   replace H : (prod_variables.l0 k1 a1 y150 l0 (l0.length : Int) (wrap64 (x10_1 + 1))) = some r := by first | (rw [hy150]; with_reducible exact H) | (have H2_ := (Option.bind_some _ _).symm.trans H; rw [hy150]; with_reducible exact H2_) | (have H2_ := (Option.bind_some _ _).symm.trans H; with_reducible exact H2_) | with_reducible exact H | (rw [hy150]; exact H) | exact H
   have Ny150 := Aside0.mk hy150
   clear hy150
   have H' := Aside0.mk H
   clear H
   have p147 : 0 ≤ (x10_1 : Int) := od
   have q147 : x10_1 < (l0.length : Int) := od
   obtain ⟨ad147, e147, hx147_0, hx147_1, hx147_2⟩ := at_T66 HR0.out x10_1 p147 q147
   cases e147
   replace hx147_0 := bcell HB.out hx147_0
   replace hx147_1 := bcell HB.out hx147_1
   replace hx147_2 := bcell HB.out hx147_2
   replace p147 := eq_true p147
   replace q147 := eq_true q147
   try go_wp2_with (first | ((with_reducible refine gate_dst (N := 7) rfl ?_); refine bx 7 rfl rfl #[.string (⟨#[]⟩ : ByteArray), .int .i64 0, .int .i64 0] 66 ?_; intro gb148 hg w9 hbox hb; have BK148 := Aside0.mk (hbox); have GW148 := ge HB hg; have GE148 := ge HB hg; replace HO_5 := Aside0.mk (Kd.R_below (Kd.R_elderB (by (with_reducible repeat (first | apply Kd.R_alloc | apply Kd.R_drewN | apply Kd.R_drew)); exact HO_5.out) gb148 (Nat.le_of_eq hg.symm)) hb); replace HB := sb HB hb; clear hb hbox hg; obtain ⟨hcz10_0, hcz10_1, hcz10_2, hfz10_0, hfz10_1, hfz10_2⟩ := cf3 BK148.out))
   have n0_ : Aside0 (Kd.R k66 66 (((w9.setCell ⟨gb148, 0, none⟩ (.string ((rd_T66 l0 x10_1).f0))).setCell ⟨gb148, 1, none⟩ (.int .i64 ((rd_T66 l0 x10_1).f1))).setCell ⟨gb148, 2, none⟩ (.int .i64 ((rd_T66 l0 x10_1).f2))) w.heap.size (fun k_ => k_ ≠ gb148) u5 x5_1) := ⟨by (with_reducible repeat (first | apply Kd.R_alloc | apply Kd.R_drewN | apply Kd.R_drew)); exact Kd.R_mono (Kd.R_far (p := ⟨gb148, 2, none⟩) (Kd.R_far (p := ⟨gb148, 1, none⟩) (Kd.R_far (p := ⟨gb148, 0, none⟩) (Kd.R_mono HO_5.out (fun k_ hk => (⟨hk, hk.2⟩ : _ ∧ k_ ≠ gb148))) (fun _ hk => hk.2) (.string ((rd_T66 l0 x10_1).f0))) (fun _ hk => hk.2) (.int .i64 ((rd_T66 l0 x10_1).f1))) (fun _ hk => hk.2) (.int .i64 ((rd_T66 l0 x10_1).f2))) (fun _ hk => hk.1.2)⟩
   have n1_ : Aside0 ((((w9.setCell ⟨gb148, 0, none⟩ (.string ((rd_T66 l0 x10_1).f0))).setCell ⟨gb148, 1, none⟩ (.int .i64 ((rd_T66 l0 x10_1).f1))).setCell ⟨gb148, 2, none⟩ (.int .i64 ((rd_T66 l0 x10_1).f2))).heap[gb148]? = some (.cells #[.string ((rd_T66 l0 x10_1).f0), .int .i64 ((rd_T66 l0 x10_1).f1), .int .i64 ((rd_T66 l0 x10_1).f2)] 66 (0, 0))) := ⟨by (with_reducible repeat (first | refine kdN ?_ _ | refine kdr ?_ | refine kal ?_ _)); refine blk_put (cs := #[.string ((rd_T66 l0 x10_1).f0), .int .i64 ((rd_T66 l0 x10_1).f1), .int .i64 0]) ?_ 2 _ rfl; (with_reducible repeat (first | refine kdN ?_ _ | refine kdr ?_ | refine kal ?_ _)); refine blk_put (cs := #[.string ((rd_T66 l0 x10_1).f0), .int .i64 0, .int .i64 0]) ?_ 1 _ rfl; (with_reducible repeat (first | refine kdN ?_ _ | refine kdr ?_ | refine kal ?_ _)); refine blk_put (cs := #[.string (⟨#[]⟩ : ByteArray), .int .i64 0, .int .i64 0]) ?_ 0 _ rfl; (with_reducible repeat (first | refine kdN ?_ _ | refine kdr ?_ | refine kal ?_ _)); exact BK148.out⟩
   have n2_ : Aside0 (Below w.heap.size w (((w9.setCell ⟨gb148, 0, none⟩ (.string ((rd_T66 l0 x10_1).f0))).setCell ⟨gb148, 1, none⟩ (.int .i64 ((rd_T66 l0 x10_1).f1))).setCell ⟨gb148, 2, none⟩ (.int .i64 ((rd_T66 l0 x10_1).f2)))) := ⟨bb HB⟩
   (try clear HO_5)
   (try clear BK148)
   (try clear HB)
   generalize (((w9.setCell ⟨gb148, 0, none⟩ (.string ((rd_T66 l0 x10_1).f0))).setCell ⟨gb148, 1, none⟩ (.int .i64 ((rd_T66 l0 x10_1).f1))).setCell ⟨gb148, 2, none⟩ (.int .i64 ((rd_T66 l0 x10_1).f2))) = w11 at n0_ n1_ n2_ ⊢
   have HO_5 := n0_
   have BK148 := n1_
   have HB := n2_
   clear n0_ n1_ n2_
   replace HO_5 := Aside0.mk (Kd.R_drew HO_5.out)
   replace BK148 := Aside0.mk (kdr BK148.out)
   replace HB := Aside0.mk (bd1 HB.out)
   refine start_ (n := 17) (S := fun w' => w'.cell? ⟨gb148, 0, none⟩ = some (.string ((rd_T66 l0 x10_1).f0)) ∧ w'.cell? ⟨gb148, 1, none⟩ = some (.int .i64 ((rd_T66 l0 x10_1).f1)) ∧ w'.cell? ⟨gb148, 2, none⟩ = some (.int .i64 ((rd_T66 l0 x10_1).f2))) (ds := []) #[false, false, false, false, false, false, false, false, false, false, false, false, false, false, false, false, false] (by kernel_rfl) rfl rfl ⟨(blk_cell BK148.out 0).trans rfl, (blk_cell BK148.out 1).trans rfl, (blk_cell BK148.out 2).trans rfl⟩ (fun hHeld => ?_); refine with_tabW prod_variables.tab5 prod_variables.bits5 (fun HT_ HW_ => ?_)
   generalize w11.drew = w12 at HO_5 BK148 HB hHeld ⊢
   refine pu (i := 0) (N := some 14) #[true, false, false, false, false, false, false, false, false, false, false, false, false, false, false, false, false] rfl rfl (any_of HT_.out (by kernel_rfl)) ?_
   refine pu (i := 1) (N := some 15) #[true, true, false, false, false, false, false, false, false, false, false, false, false, false, false, false, false] rfl rfl (any_of HT_.out (by kernel_rfl)) ?_
   refine pu (i := 3) (N := some 17) #[true, true, false, true, false, false, false, false, false, false, false, false, false, false, false, false, false] rfl rfl (any_of HT_.out (by kernel_rfl)) ?_
   refine pu (i := 6) (N := some 20) #[true, true, false, true, false, false, true, false, false, false, false, false, false, false, false, false, false] rfl rfl (any_of HT_.out (by kernel_rfl)) ?_
   refine pu (i := 8) (N := some 22) #[true, true, false, true, false, false, true, false, true, false, false, false, false, false, false, false, false] rfl rfl (any_of HT_.out (by kernel_rfl)) ?_
   refine pu (i := 9) (N := some 23) #[true, true, false, true, false, false, true, false, true, true, false, false, false, false, false, false, false] rfl rfl (any_of HT_.out (by kernel_rfl)) ?_
   refine pu (i := 11) (N := some 25) #[true, true, false, true, false, false, true, false, true, true, false, true, false, false, false, false, false] rfl rfl (any_of HT_.out (by kernel_rfl)) ?_
   refine tk (i := 2) (N := some 16) #[true, true, true, true, false, false, true, false, true, true, false, true, false, false, false, false, false] rfl rfl (take_ofW HT_.out HW_.out (by kernel_rfl)) hHeld ?_
   refine tk (i := 7) (N := some 21) #[true, true, true, true, false, false, true, true, true, true, false, true, false, false, false, false, false] rfl rfl (take_ofW HT_.out HW_.out (by kernel_rfl)) hHeld ?_
   refine pu (i := 10) (N := some 24) #[true, true, true, true, false, false, true, true, true, true, true, true, false, false, false, false, false] rfl rfl (any_of HT_.out (by kernel_rfl)) ?_
   refine tk (i := 12) (N := some 26) #[true, true, true, true, false, false, true, true, true, true, true, true, true, false, false, false, false] rfl rfl (take_ofW HT_.out HW_.out (by kernel_rfl)) hHeld ?_
   refine one_ (i := 4) (N := some 18) #[true, true, true, true, true, false, true, true, true, true, true, true, true, false, false, false, false] rfl rfl (one_of HT_.out (by kernel_rfl)) (by decide) (fun K hK => ?_)
   refine gO Try.func80 #[.int .i64 a1] (by rfl) rfl rfl ?_
   with_reducible refine (prod_tag.calls k1 a1 t149 _ A6.out).mono ?_
   rintro e w13 ⟨rfl, hb⟩
   refine ⟨_, rfl, ?_⟩
   replace HO_5 := Aside0.mk (Kd.R_below (by (with_reducible repeat (first | apply Kd.R_alloc | apply Kd.R_drewN | apply Kd.R_drew)); exact HO_5.out) hb)
   replace BK148 := kb BK148 hb
   replace HB := sb HB hb
   (try clear hb)
   (try clear hb2)
   (try clear hk)
   (try clear hi)
   refine hK.out _ _ ⟨(blk_cell BK148.out 0).trans rfl, (blk_cell BK148.out 1).trans rfl, (blk_cell BK148.out 2).trans rfl⟩ (fun hHeld => ?_)
   clear hK K
   refine nm 18 ?_
   refine pu (i := 5) (N := some 19) #[true, true, true, true, true, true, true, true, true, true, true, true, true, false, false, false, false] rfl rfl (any_of HT_.out (by kernel_rfl)) ?_
   refine pu (i := 13) (N := some 27) #[true, true, true, true, true, true, true, true, true, true, true, true, true, true, false, false, false] rfl rfl (any_of HT_.out (by kernel_rfl)) ?_
   refine one_ (i := 14) (N := some 28) #[true, true, true, true, true, true, true, true, true, true, true, true, true, true, true, false, false] rfl rfl (one_of HT_.out (by kernel_rfl)) (by decide) (fun K hK => ?_)
   refine value_ (w1 := ?_) (v := ?_) (by rfl) rfl ?_ ?_
   rotate_left 2
   ·go_simp
    constructor
    ·rfl
    ·rfl
   refine hK.out _ _ ⟨(blk_cell (kal BK148.out _) 0).trans rfl, (blk_cell (kal BK148.out _) 1).trans rfl, (blk_cell (kal BK148.out _) 2).trans rfl⟩ (fun hHeld => ?_)
   clear hK K
   refine nm 28 ?_
   refine one_ (i := 15) (N := some 29) #[true, true, true, true, true, true, true, true, true, true, true, true, true, true, true, true, false] rfl rfl (one_of HT_.out (by kernel_rfl)) (by decide) (fun K hK => ?_)
   refine Kd.R_append_step k66 (w0 := w) w.heap.size (by rfl) (.tmp 14) (.tmp 28) 22 66 (.agg #[(.string ⟨#[]⟩), (.int .i64 0), (.int .i64 0)]) 32 rfl Try.underlying22 info66 rfl (by decide) (by omega) u5 x5_1 (⟨((rd_T66 l0 x10_1).f0) ++ t149, wrap64 (((rd_T66 l0 x10_1).f1) + (wrap64 (16 * a1))), (rd_T66 l0 x10_1).f2⟩ : S66) [.string (((rd_T66 l0 x10_1).f0) ++ t149), .int .i64 (wrap64 (((rd_T66 l0 x10_1).f1) + (wrap64 (16 * a1)))), .int .i64 ((rd_T66 l0 x10_1).f2)] (fun k_ => k_ ≠ gb148) (fun _ => False) rfl rfl ?aP (fun _ hk => hk.elim) ?aF ?aO ?aB ?aS ?aL ?_
   (case aP => exact k66_mkM _ _ _ (⟨((rd_T66 l0 x10_1).f0) ++ t149, wrap64 (((rd_T66 l0 x10_1).f1) + (wrap64 (16 * a1))), (rd_T66 l0 x10_1).f2⟩ : S66))
   (case aB => exact (bb HB))
   (case aF => exact (fun k_ hk => Kd.freshB (g := gb148) (o := .cells #[.string ((rd_T66 l0 x10_1).f0), .int .i64 ((rd_T66 l0 x10_1).f1), .int .i64 ((rd_T66 l0 x10_1).f2)] 66 (0, 0)) (by (with_reducible repeat (first | refine kdN ?_ _ | refine kdr ?_ | refine kal ?_ _)); exact BK148.out) k_ hk))
   (case aO => exact (by (with_reducible repeat (first | apply Kd.R_alloc | apply Kd.R_drewN | apply Kd.R_drew)); exact HO_5.out))
   (case aS => exact (bsz (bb HB)))
   (case aL => have := LMc8.out; omega)
   intro v151 w14 ho hb hg hat
   rw [← Ny150.out] at ho
   have HO152 := Aside0.mk (ho)
   replace BK148 := Aside0.mk (blk_grown (g := gb148) (o := .cells #[.string ((rd_T66 l0 x10_1).f0), .int .i64 ((rd_T66 l0 x10_1).f1), .int .i64 ((rd_T66 l0 x10_1).f2)] 66 (0, 0)) (by (with_reducible repeat (first | refine kdN ?_ _ | refine kdr ?_ | refine kal ?_ _)); exact BK148.out) hg (Kd.R_away HO_5.out (fun _ hk => hk)))
   replace HB := Aside0.mk (hb)
   clear HO_5
   clear ho hb hg hat
   refine hK.out _ _ ⟨(blk_cell BK148.out 0).trans rfl, (blk_cell BK148.out 1).trans rfl, (blk_cell BK148.out 2).trans rfl⟩ (fun hHeld => ?_)
   clear hK K
   refine nm 29 ?_
   refine pu (i := 16) (N := some 5) #[true, true, true, true, true, true, true, true, true, true, true, true, true, true, true, true, true] rfl rfl (any_of HT_.out (by kernel_rfl)) ?_
   refine done_ (done_of HT_.out (by kernel_rfl)) ?_
   try go_wp2
   go_roundg k1
   case measure => have := HK1.out; omega
   case rel => exact ⟨(y150), (wrap64 (x10_1 + 1)), rs, H', ⟨by have := HK1.out; omega⟩, ⟨by (with_reducible repeat (first | apply Kd.R_alloc | apply Kd.R_drewN | apply Kd.R_drew)); exact Kd.R_mono HO152.out (fun _ hk => trivial)⟩, ⟨bb HB⟩⟩
def r12_Named.T5 : Bool × List (List Nat × List Nat) := (true, [([], []), ([], []), ([], []), ([1, 2], [1, 2]), ([3], [3]), ([4], [4]), ([5], [5]), ([], []), ([7], [7]), ([6, 8], [6, 8]), ([], []), ([], []), ([10, 11], [10, 11]), ([12], [12]), ([13], [13]), ([], []), ([15], [15]), ([14, 16], [14, 16]), ([], []), ([], []), ([18, 19], [18, 19]), ([20], [20]), ([21], [21]), ([9, 17, 22], [9, 17, 22]), ([23], [23]), ([0, 24, 8], [0, 24]), ([25, 25, 0, 1, 2, 3, 4, 5, 6, 7, 8, 9, 10, 11, 12, 13, 14, 15, 16, 17, 18, 19, 20, 21, 22, 23, 24, 25], [0, 25])])
def r12_Named.B5 : List Nat := [0, 0, 0, 6, 14, 30, 62, 0, 128, 510, 0, 0, 3072, 7168, 15360, 0, 32768, 130048, 0, 0, 786432, 1835008, 3932160, 8388606, 16777214, 33554431, 67108863]
theorem r12_Named.tab5 : rtab .any (opsOf Try.f57 5) = r12_Named.T5 := by kernel_rfl
theorem r12_Named.bits5 : waitsOk r12_Named.T5.2 r12_Named.B5 = true := by kernel_rfl
end Go.Proofs.Ytilebfkehmecaaa.Print
namespace Go.Proofs.Ytilebfkehmecaaa.Print
open Go.RowKit Go.Proofs.YtilebfkehmecaaaW.PrintWords Go.Proofs.YtilebfkehmecaaaW.PrintLast Go.Proofs.YtilebfkehmecaaaW.PrintMore
attribute [local go_sem] max2_int min2_int max_two min_two max_three min_three max_four min_four
set_option linter.unusedVariables false
set_option linter.unusedSimpArgs false
open Go.Shelf Go.RowKit
attribute [local go_sem] Oper.semAt_some
mutual
def mvE (g : Int → Option Int) : S28 → Option S28
  | ⟨op, n, c, l⟩ => if op = 1 then (g c).bind fun r => (mvEs g l).bind fun l' => some ⟨op, wrap64 (n + r), 0, l'⟩ else (mvEs g l).bind fun l' => some ⟨op, n, c, l'⟩
def mvEs (g : Int → Option Int) : List S28 → Option (List S28)
  | [] => some []
  | x :: r => (mvE g x).bind fun y => (mvEs g r).bind fun s => if r.length < 1000000 then some (y :: s) else none
end
theorem mvEs_get {g : Int → Option Int} : ∀ {l l' : List S28}, mvEs g l = some l' → l'.length = l.length ∧ l.length ≤ 1000000 ∧ ∀ (j : Nat) (x : S28), l[j]? = some x → ∃ y, mvE g x = some y ∧ l'[j]? = some y
  | [], l', h => by
    rw [mvEs] at h
    obtain rfl := Option.some.inj h
    exact ⟨rfl, by simp, fun j x hj => by simp at hj⟩
  | x :: r, l', h => by
    rw [mvEs] at h
    obtain ⟨y, h1, h⟩ := Option.bind_eq_some_iff.mp h
    obtain ⟨s, h2, h⟩ := Option.bind_eq_some_iff.mp h
    obtain ⟨e1, e2, e3⟩ := mvEs_get h2
    by_cases hl : r.length < 1000000
    · rw [if_pos hl] at h
      obtain rfl := Option.some.inj h
      refine ⟨by simp [e1], by simp; omega, fun j z hj => ?_⟩
      cases j with
      | zero => obtain rfl : x = z := by simpa using hj
                exact ⟨y, h1, rfl⟩
      | succ j => exact e3 j z (by simpa using hj)
    · rw [if_neg hl] at h; cases h
theorem tree_ind {P : S28 → Prop} (node : ∀ a b c l, (∀ x ∈ l, P x) → P ⟨a, b, c, l⟩) : ∀ x, P x :=
  fun x => S28.rec (motive_1 := P) (motive_2 := fun l => ∀ x ∈ l, P x) node (fun _ h => by simp at h) (fun x r h1 h2 y hy => by rcases List.mem_cons.1 hy with rfl | h; exact h1; exact h2 y h) x
def FnAt (w : World) (v : Value) (g : Int → Option Int) : Prop := ∃ gf lb, v = .func (.func gf) #[] lb ∧ (∀ args w, (callFunc gf args).run Try.prog w = .ok (.enter gf args) w) ∧
  ∀ W n r, Below w.heap.size w W → g n = some r → Calls Try.prog gf (#[.int .i64 n] ++ lb) W fun e W' => e = .returned (.int .i64 r) ∧ Below W.heap.size W W'
theorem FnAt.below {w w1 : World} {v : Value} {g : Int → Option Int} (h : FnAt w v g) (hb : Below w.heap.size w w1) : FnAt w1 v g := by
  obtain ⟨gf, lb, e1, e2, h⟩ := h
  exact ⟨gf, lb, e1, e2, fun W n r hW hg => h W n r (hb.trans (hW.mono hb.size)) hg⟩
def MvAt (w : World) (b : Nat) (g : Int → Option Int) : Prop := ∃ v, FnAt w v g ∧ w.heap[b]? = some (.cells #[v] 80 (0, 0)) ∧ w.heap[b + 1]? = some (.cells #[.func (.func 83) #[] #[.pointer (some ⟨b, 0, none⟩), .pointer (some ⟨b + 1, 0, none⟩)]] 78 (0, 0))
theorem MvAt.below {w w1 : World} {b : Nat} {g : Int → Option Int} (h : MvAt w b g) (hb : Below w.heap.size w w1) : MvAt w1 b g := by
  obtain ⟨v, h1, h2, h3⟩ := h
  exact ⟨v, h1.below hb, (hb.block _ (blk_lt h2)).trans h2, (hb.block _ (blk_lt h3)).trans h3⟩
set_option maxHeartbeats 8000000 in
set_option maxRecDepth 100000 in
theorem prod_moving.fn (v : Value) (g : Int → Option Int) (w : World) (h : FnAt w v g) :
    Calls Try.prog 48 #[v] w fun e w' => e = .returned (.func (.func 83) #[] #[.pointer (some ⟨w.heap.size, 0, none⟩), .pointer (some ⟨w.heap.size + 1, 0, none⟩)]) ∧ MvAt w' w.heap.size g ∧ Below w.heap.size w w' := by
  obtain ⟨gf, lb, rfl, e2, h⟩ := h
  have q0 : ((w.alloc (.cells #[.func (.func gf) #[] lb] 80)).alloc (.cells #[.func (.func 83) #[] #[.pointer (some ⟨w.heap.size, 0, none⟩), .pointer (some ⟨w.heap.size + 1, 0, none⟩)]] 78)).heap[w.heap.size]? = some (.cells #[.func (.func gf) #[] lb] 80 (0, 0)) := kal (blk_new _ _) _
  have q1 : ((w.alloc (.cells #[.func (.func gf) #[] lb] 80)).alloc (.cells #[.func (.func 83) #[] #[.pointer (some ⟨w.heap.size, 0, none⟩), .pointer (some ⟨w.heap.size + 1, 0, none⟩)]] 78)).heap[w.heap.size + 1]? = some (.cells #[.func (.func 83) #[] #[.pointer (some ⟨w.heap.size, 0, none⟩), .pointer (some ⟨w.heap.size + 1, 0, none⟩)]] 78 (0, 0)) := by
    have := blk_new (w.alloc (.cells #[.func (.func gf) #[] lb] 80)) (.cells #[.func (.func 83) #[] #[.pointer (some ⟨w.heap.size, 0, none⟩), .pointer (some ⟨w.heap.size + 1, 0, none⟩)]] 78)
    simpa using this
  have hb : Below w.heap.size w ((w.alloc (.cells #[.func (.func gf) #[] lb] 80)).alloc (.cells #[.func (.func 83) #[] #[.pointer (some ⟨w.heap.size, 0, none⟩), .pointer (some ⟨w.heap.size + 1, 0, none⟩)]] 78)) := bal (bal (Below.refl _ _) _) _
  go_enter Try.func48, Try.ntmps48
  go_wp2
  go_ret
  exact ⟨rfl, ⟨_, FnAt.below ⟨gf, lb, rfl, e2, h⟩ hb, q0, q1⟩, hb⟩
theorem mv_take {l' : List S28} {i : Nat} {y : S28} (h : l'[i]? = some y) : l'.take (i + 1) = l'.take i ++ [y] := by
  rw [List.take_add_one, h]; rfl
theorem mv_stores {W : World} {B : Nat} (hz : W.heap[B + 1]? = some (.cells #[.int .i64 0, .int .i64 0, .int .i64 0, .slice none 0 0] 28 (0, 0))) (u a b c : Value) :
    (((((W.setCell ⟨B, 3, none⟩ u).setCell ⟨B + 1, 0, none⟩ a).setCell ⟨B + 1, 1, none⟩ b).setCell ⟨B + 1, 2, none⟩ c).setCell ⟨B + 1, 3, none⟩ u).heap[B + 1]? = some (.cells #[a, b, c, u] 28 (0, 0)) ∧
    (∀ k, B + 2 ≤ k → (((((W.setCell ⟨B, 3, none⟩ u).setCell ⟨B + 1, 0, none⟩ a).setCell ⟨B + 1, 1, none⟩ b).setCell ⟨B + 1, 2, none⟩ c).setCell ⟨B + 1, 3, none⟩ u).heap[k]? = W.heap[k]?) ∧
    Below B W (((((W.setCell ⟨B, 3, none⟩ u).setCell ⟨B + 1, 0, none⟩ a).setCell ⟨B + 1, 1, none⟩ b).setCell ⟨B + 1, 2, none⟩ c).setCell ⟨B + 1, 3, none⟩ u) := by
  have h0 := blk_far hz (p := ⟨B, 3, none⟩) (by simp) u
  have h1 := blk_put h0 0 a (cs' := #[a, .int .i64 0, .int .i64 0, .slice none 0 0]) rfl
  have h2 := blk_put h1 1 b (cs' := #[a, b, .int .i64 0, .slice none 0 0]) rfl
  have h3 := blk_put h2 2 c (cs' := #[a, b, c, .slice none 0 0]) rfl
  refine ⟨blk_put h3 3 u (cs' := #[a, b, c, u]) rfl, fun k hk => ?_, ?_⟩
  · rw [Below.heap_setCell _ _ _ _ (by simp; omega), Below.heap_setCell _ _ _ _ (by simp; omega), Below.heap_setCell _ _ _ _ (by simp; omega), Below.heap_setCell _ _ _ _ (by simp; omega), Below.heap_setCell _ _ _ _ (by simp; omega)]
  · exact ((((below_cell _ _ (Nat.le_refl _)).trans (below_cell _ _ (by omega))).trans (below_cell _ _ (by omega))).trans (below_cell _ _ (by omega))).trans (below_cell _ _ (by omega))
set_option maxHeartbeats 8000000 in
set_option maxRecDepth 100000 in
theorem prod_moving1.calls (g : Int → Option Int) : ∀ (e e1 : S28) (A : Option Addr) (c b : Nat) (w : World), mvE g e = some e1 → MvAt w b g → Kd.C k28 w A e.f3.length e.f3 → e.f3.length ≤ c →
    Calls Try.prog 83 #[.agg #[.int .i64 e.f0, .int .i64 e.f1, .int .i64 e.f2, .slice A e.f3.length c], .pointer (some ⟨b, 0, none⟩), .pointer (some ⟨b + 1, 0, none⟩)] w fun en w' =>
      ∃ v : Value, en = .returned (.agg #[.int .i64 e1.f0, .int .i64 e1.f1, .int .i64 e1.f2, v]) ∧ Kd.R k28 28 w' w.heap.size (fun _ => True) v e1.f3 ∧ Below w.heap.size w w' := by
  refine tree_ind fun op n cp l ih => ?_
  intro e1 A c b w h hm hr hc
  have huE := Try.underlying28
  rw [mvE] at h
  have HR := Aside0.mk hr
  have HC := Aside0.mk hc
  have HM := Aside0.mk hm
  have IH := Aside0.mk ih
  have H := Aside0.mk h
  clear hr hc hm ih h
  obtain ⟨fv, hf, hm1, hm2⟩ := HM.out
  obtain ⟨gf, lb, rfl, en, hg⟩ := hf
  have l1 := blk_lt hm1
  have l2 := blk_lt hm2
  obtain ⟨W0, hW0⟩ : ∃ W0, ((w.alloc (.cells #[.int .i64 op, .int .i64 n, .int .i64 cp, .slice A l.length c] 28)).alloc (.cells #[.int .i64 0, .int .i64 0, .int .i64 0, .slice none 0 0] 28)) = W0 := ⟨_, rfl⟩
  have b0 : Below w.heap.size w W0 := by rw [← hW0]; exact bal (bal (Below.refl _ _) _) _
  have s0 : W0.heap.size = w.heap.size + 1 + 1 := by rw [← hW0]; simp
  have p0 : W0.heap[w.heap.size]? = some (.cells #[.int .i64 op, .int .i64 n, .int .i64 cp, .slice A l.length c] 28 (0, 0)) := by rw [← hW0]; exact kal (blk_new _ _) _
  have z0 : W0.heap[w.heap.size + 1]? = some (.cells #[.int .i64 0, .int .i64 0, .int .i64 0, .slice none 0 0] 28 (0, 0)) := by
    rw [← hW0]
    have := blk_new (w.alloc (.cells #[.int .i64 op, .int .i64 n, .int .i64 cp, .slice A l.length c] 28)) (.cells #[.int .i64 0, .int .i64 0, .int .i64 0, .slice none 0 0] 28)
    simpa using this
  have c0 : W0.cell? ⟨w.heap.size, 0, none⟩ = some (.int .i64 op) := (blk_cell p0 0).trans rfl
  have c1 : W0.cell? ⟨w.heap.size, 1, none⟩ = some (.int .i64 n) := (blk_cell p0 1).trans rfl
  have c2 : W0.cell? ⟨w.heap.size, 2, none⟩ = some (.int .i64 cp) := (blk_cell p0 2).trans rfl
  have c3 : W0.cell? ⟨w.heap.size, 3, none⟩ = some (.slice A l.length c) := (blk_cell p0 3).trans rfl
  have m0 : W0.cell? ⟨b, 0, none⟩ = some (.func (.func gf) #[] lb) := (blk_cell ((b0.block _ l1).trans hm1) 0).trans rfl
  go_enter Try.func83, Try.ntmps83
  go_upto_if 10 with (fail)
  (try simp only [Act.put, List.setIfInBounds_toArray, List.set_cons_zero, List.set_cons_succ])
  go_cut [] (fun wc => ∃ (n2 c2 : Int) (l' : List S28), Aside0 (e1 = ⟨op, n2, c2, l'⟩) ∧ Aside0 (mvEs g l = some l') ∧ Aside0 (wc.heap[w.heap.size]? = some (.cells #[.int .i64 op, .int .i64 n2, .int .i64 c2, .slice A l.length c] 28 (0, 0))) ∧ Aside0 (wc.heap[w.heap.size + 1]? = some (.cells #[.int .i64 0, .int .i64 0, .int .i64 0, .slice none 0 0] 28 (0, 0))) ∧ Aside0 (Below w.heap.size w wc) ∧ Aside0 (w.heap.size + 2 ≤ wc.heap.size))
  case first =>
    by_cases hop : op = 1
    · have hq : (op == 1) = true := beq_iff_eq.mpr hop
      have h := H.out
      rw [if_pos hop] at h
      obtain ⟨r, hgr, h⟩ := Option.bind_eq_some_iff.mp h
      obtain ⟨l', hl', h⟩ := Option.bind_eq_some_iff.mp h
      have he := Aside0.mk (Option.some.inj h).symm
      have HL := Aside0.mk hl'
      clear h H hl' hop
      have p1 : W0.drew.heap[w.heap.size]? = some (.cells #[.int .i64 op, .int .i64 n, .int .i64 cp, .slice A l.length c] 28 (0, 0)) := kdr p0
      have z1 : W0.drew.heap[w.heap.size + 1]? = some (.cells #[.int .i64 0, .int .i64 0, .int .i64 0, .slice none 0 0] 28 (0, 0)) := kdr z0
      have b1 : Below w.heap.size w W0.drew := below_drew b0
      go_wp2
      refine start_ (n := 9) (S := fun w' => w'.cell? ⟨w.heap.size, 1, none⟩ = some (.int .i64 n) ∧ w'.cell? ⟨w.heap.size, 2, none⟩ = some (.int .i64 cp) ∧ w'.cell? ⟨b, 0, none⟩ = some (.func (.func gf) #[] lb)) (ds := [8]) #[false, false, false, false, false, false, false, false, false] (by kernel_rfl) rfl rfl ⟨c1, c2, m0⟩ (fun hHeld => ?_)
      generalize W0.drew = W1 at p1 z1 b1 hHeld ⊢
      refine pu (i := 0) (N := some 11) #[true, false, false, false, false, false, false, false, false] rfl rfl (by kernel_rfl) ?_
      refine tk (i := 1) (N := some 12) #[true, true, false, false, false, false, false, false, false] rfl rfl (by kernel_rfl) hHeld ?_
      refine tk (i := 2) (N := some 13) #[true, true, true, false, false, false, false, false, false] rfl rfl (by kernel_rfl) hHeld ?_
      refine pu (i := 3) (N := some 14) #[true, true, true, true, false, false, false, false, false] rfl rfl (by kernel_rfl) ?_
      refine tk (i := 4) (N := some 15) #[true, true, true, true, true, false, false, false, false] rfl rfl (by kernel_rfl) hHeld ?_
      refine one_ (i := 5) (N := (some 16)) #[true, true, true, true, true, true, false, false, false] rfl rfl (by kernel_rfl) (by decide) (fun K hK => ?_)
      refine call_ gf (#[.int .i64 cp] ++ lb) (by rfl) rfl ?run ?_
      case run =>
        unfold execOp
        simp [resolve, Deferred.ofValue, invoke, Act.eval, en]
      refine (hg W1 cp r b1 hgr).mono ?_
      rintro e W2 ⟨rfl, b2⟩
      have p2 := blk_below p1 b2
      have z2 := blk_below z1 b2
      have bb := b1.trans (b2.mono b1.size)
      refine ⟨_, rfl, ?_⟩
      refine hK.out _ _ ⟨(blk_cell p2 1).trans rfl, (blk_cell p2 2).trans rfl, (blk_cell ((bb.block _ l1).trans hm1) 0).trans rfl⟩ (fun hHeld => ?_)
      clear hK K
      refine nm 16 ?_
      refine pu (i := 6) (N := some 17) #[true, true, true, true, true, true, true, false, false] rfl rfl (by kernel_rfl) ?_
      refine pu (i := 7) (N := some 18) #[true, true, true, true, true, true, true, true, false] rfl rfl (by kernel_rfl) ?_
      refine last_ (i := 8) (N := none) #[true, true, true, true, true, true, true, true, true] rfl rfl (by kernel_rfl) (by decide) (fun K hK => ?_)
      have q1 : W2.cell? ⟨w.heap.size, 1, none⟩ = some (.int .i64 n) := (blk_cell p2 1).trans rfl
      have q2 : W2.frozen? ⟨w.heap.size, 1, none⟩ = false := blk_frozen p2 1
      refine skip_ (w1 := W2.setCell ⟨w.heap.size, 1, none⟩ (.int .i64 (wrap64 (n + r)))) (by rfl) rfl ?st ?_
      case st =>
        go_simp
      refine hK.out _ _ ?_
      clear hK K
      refine done_ (by kernel_rfl) ?_
      have p3 := blk_put p2 1 (.int .i64 (wrap64 (n + r))) (cs' := #[.int .i64 op, .int .i64 (wrap64 (n + r)), .int .i64 cp, .slice A l.length c]) rfl
      have z3 := blk_far z2 (p := ⟨w.heap.size, 1, none⟩) (by simp) (.int .i64 (wrap64 (n + r)))
      have b3 := bb.trans (below_cell W2 (B := w.heap.size) (i := 1) (.int .i64 (wrap64 (n + r))) (Nat.le_refl _))
      generalize W2.setCell ⟨w.heap.size, 1, none⟩ (.int .i64 (wrap64 (n + r))) = W3 at p3 z3 b3 ⊢
      have x0 : W3.cell? ⟨w.heap.size, 2, none⟩ = some (.int .i64 cp) := (blk_cell p3 2).trans rfl
      have x1 : W3.frozen? ⟨w.heap.size, 2, none⟩ = false := blk_frozen p3 2
      go_wp2
      go_meet
      case rel =>
        refine ⟨_, _, l', he, HL, ⟨blk_put p3 2 (.int .i64 0) (cs' := #[.int .i64 op, .int .i64 (wrap64 (n + r)), .int .i64 0, .slice A l.length c]) rfl⟩, ⟨blk_far z3 (p := ⟨w.heap.size, 2, none⟩) (by simp) _⟩, ⟨b3.trans (below_cell _ _ (Nat.le_refl _))⟩, ⟨?_⟩⟩
        rw [size_cell]
        have := blk_lt z3
        omega
    · have hq : (op == 1) = false := beq_eq_false_iff_ne.mpr hop
      have h := H.out
      rw [if_neg hop] at h
      obtain ⟨l', hl', h⟩ := Option.bind_eq_some_iff.mp h
      have he := Aside0.mk (Option.some.inj h).symm
      go_wp2
      go_meet
      case rel => exact ⟨_, _, l', he, ⟨hl'⟩, ⟨p0⟩, ⟨z0⟩, ⟨b0⟩, ⟨by omega⟩⟩
  case rest =>
    clear c0 c1 c2 c3 m0 p0 z0 s0 b0 hW0 H
    obtain ⟨n2, c2, l', he, HL, PB, ZB, BB, SB⟩ := hcut
    have HR := Aside0.mk (show Kd.C k28 w A l.length l from HR.out)
    have HC := Aside0.mk (show l.length ≤ c from HC.out)
    obtain ⟨hll, hl6, hget⟩ := mvEs_get HL.out
    have GET := Aside0.mk hget
    clear hget HL
    have x3 : wc.cell? ⟨w.heap.size, 3, none⟩ = some (.slice A l.length c) := (blk_cell PB.out 3).trans rfl
    go_wp2
    clear x3
    go_loopg [5, 23] l.length (fun kq v5 v23 X => ∃ (i : Nat) (A5 : Option Addr) (c5 : Nat), v23 = .int .i64 (i : Int) ∧ v5 = .slice A5 i c5 ∧ Aside0 (i + kq = l.length) ∧ Aside0 (Kd.R k28 28 X (w.heap.size + 2) (fun _ => True) (.slice A5 i c5) (l'.take i)) ∧ Aside0 (X.heap[w.heap.size]? = some (.cells #[.int .i64 op, .int .i64 n2, .int .i64 c2, .slice A l.length c] 28 (0, 0))) ∧ Aside0 (X.heap[w.heap.size + 1]? = some (.cells #[.int .i64 0, .int .i64 0, .int .i64 0, .slice none 0 0] 28 (0, 0))) ∧ Aside0 (Below w.heap.size w X) ∧ Aside0 (w.heap.size + 2 ≤ X.heap.size))
    case atStart => exact ⟨0, none, 0, rfl, rfl, ⟨by omega⟩, ⟨Kd.R_nil _ _ _ _ _⟩, PB, ZB, BB, SB⟩
    case round =>
      clear PB ZB BB SB
      obtain ⟨i, A5, c5, rfl, rfl, HI, HO, PB, ZB, BB, SB⟩ := hrel
      cases gk with
      | zero =>
        have hi : i = l.length := by have := HI.out; omega
        subst hi
        have hd : decide ((l.length : Int) < (l.length : Int)) = false := decide_eq_false (by omega)
        have o1 : Kd.R k28 28 wr (w.heap.size + 2) (fun _ => True) (.slice A5 l.length c5) l' := by
          have := HO.out
          rwa [List.take_of_length_le (by omega)] at this
        have x0 : wr.cell? ⟨w.heap.size, 0, none⟩ = some (.int .i64 op) := (blk_cell PB.out 0).trans rfl
        have x1 : wr.cell? ⟨w.heap.size, 1, none⟩ = some (.int .i64 n2) := (blk_cell PB.out 1).trans rfl
        have x2 : wr.cell? ⟨w.heap.size, 2, none⟩ = some (.int .i64 c2) := (blk_cell PB.out 2).trans rfl
        have x3 : wr.cell? ⟨w.heap.size, 3, none⟩ = some (.slice A l.length c) := (blk_cell PB.out 3).trans rfl
        have x4 := blk_frozen PB.out 3
        have y0 : wr.cell? ⟨w.heap.size + 1, 0, none⟩ = some (.int .i64 0) := (blk_cell ZB.out 0).trans rfl
        have y1 : wr.cell? ⟨w.heap.size + 1, 1, none⟩ = some (.int .i64 0) := (blk_cell ZB.out 1).trans rfl
        have y2 : wr.cell? ⟨w.heap.size + 1, 2, none⟩ = some (.int .i64 0) := (blk_cell ZB.out 2).trans rfl
        have y3 : wr.cell? ⟨w.heap.size + 1, 3, none⟩ = some (.slice none 0 0) := (blk_cell ZB.out 3).trans rfl
        have y4 := blk_frozen ZB.out 0
        have y5 := blk_frozen ZB.out 1
        have y6 := blk_frozen ZB.out 2
        have y7 := blk_frozen ZB.out 3
        go_wp2
        obtain ⟨zc, zk, zb⟩ := mv_stores (W := wr) (B := w.heap.size) ZB.out (.slice A5 l.length c5) (.int .i64 op) (.int .i64 n2) (.int .i64 c2)
        refine bodyPost_ret (results_cell_row rfl _ _ (w.heap.size + 1) 28 #[.int .i64 op, .int .i64 n2, .int .i64 c2, .slice A5 l.length c5] (0, 0) _ rfl zc huE rfl (by kernel_rfl)) rfl ?_
        rw [he.out]
        exact ⟨_, rfl, Kd.R_lower (Kd.R_mono (Kd.R_step (Kd.R_bound o1) (fun k hk _ => zk k hk.2.1)) (fun _ hk => trivial)) (by omega), BB.out.trans zb⟩
      | succ k1 =>
        have hi : i < l.length := by have := HI.out; omega
        have hd : decide ((i : Int) < (l.length : Int)) = true := decide_eq_true (by omega)
        obtain ⟨ad, A3, c3, e3, q0, q1, q2, q3, ql3, qr3⟩ := at_T28 HR.out (i : Int) (by omega) (by omega)
        subst e3
        have hxi : l[i]? = some (rd_T28 l (i : Int)) := by unfold rd_T28; rw [Int.toNat_natCast, List.getD_eq_getElem?_getD, List.getElem?_eq_getElem hi]; rfl
        generalize rd_T28 l (i : Int) = x at q0 q1 q2 q3 ql3 qr3 hxi
        obtain ⟨y, hy, hyi⟩ := GET.out i x hxi
        have hxm : x ∈ l := List.mem_of_getElem? hxi
        replace q0 := (BB.out.cell (World.block_lt_of_cell? w _ q0)).trans q0
        replace q1 := (BB.out.cell (World.block_lt_of_cell? w _ q1)).trans q1
        replace q2 := (BB.out.cell (World.block_lt_of_cell? w _ q2)).trans q2
        replace q3 := (BB.out.cell (World.block_lt_of_cell? w _ q3)).trans q3
        simp only [Int.toNat_natCast] at q0 q1 q2 q3
        have m1 : wr.cell? ⟨b + 1, 0, none⟩ = some (.func (.func 83) #[] #[.pointer (some ⟨b, 0, none⟩), .pointer (some ⟨b + 1, 0, none⟩)]) := (blk_cell ((BB.out.block _ l2).trans hm2) 0).trans rfl
        have l3 : b + 1 < wr.heap.size := Nat.lt_of_lt_of_le l2 BB.out.size
        have hw1 : IntKind.i64.wrap ((i : Int) + 1) = (i : Int) + 1 := by rw [i64_w]; unfold wrap64; omega
        have W1B := bal (Below.refl wr.heap.size wr) (.cells #[.int .i64 x.f0, .int .i64 x.f1, .int .i64 x.f2, .slice A3 x.f3.length c3] 28)
        have hSB := SB.out
        have hob := Kd.R_base HO.out
        have hol := Kd.R_lt HO.out
        have htk : (l'.take i).length = i := by rw [List.length_take]; omega
        go_wp2_with (first | (go_at_call 83; refine (IH.out x hxm y A3 c3 b _ hy ((HM.out.below BB.out).below W1B) (Kd.C_below (Kd.C_below qr3 BB.out) W1B) ql3).mono ?_; rintro e W2 ⟨v, rfl, o2, hb2⟩) | ((with_reducible refine gate_builtin (b := .append) (xs := #[.tmp 27, .tmp 31]) rfl ?_); at_builtin; refine Kd.R_append k28 (w0 := wr) (W := W2) (w.heap.size + 2) rfl (.tmp 27) (.tmp 31) 26 28 (.agg #[(.int .i64 0), (.int .i64 0), (.int .i64 0), (.slice none 0 0)]) 48 rfl Try.underlying26 info28 rfl (by decide) (by omega) (.slice A5 i c5) (l'.take i) y [.int .i64 y.f0, .int .i64 y.f1, .int .i64 y.f2, v] (fun _ => True) (fun k => wr.heap.size ≤ k) rfl rfl ?aP ?aK (fun _ _ => trivial) ?aO ?aB ?aS ?aL ?_; (case aP => exact k28_mkM _ _ _ y (Kd.R_lower (Kd.R_mono (Kd.R_bound o2) (fun k hk => Nat.le_trans W1B.size hk.2.1)) (Nat.le_trans hSB W1B.size))); (case aK => exact fun k hk => ⟨trivial, fun e => by have h9 := hol _ e.symm; omega⟩); (case aO => exact Kd.R_below (Kd.R_below HO.out W1B) hb2); (case aB => exact (W1B.trans (hb2.mono W1B.size)).mono hSB); (case aS => exact Nat.le_trans hSB (Nat.le_trans W1B.size hb2.size)); (case aL => rw [htk]; omega); intro v1 W3 o3 b3 g3 t3))
        obtain ⟨A6, c6, e6⟩ := Kd.R_slice o3
        subst e6
        have hWW := W1B.trans (hb2.mono W1B.size)
        have hne : ∀ k, k < w.heap.size + 2 → some k ≠ (Value.slice A5 i c5).ownBlock := fun k hk e => by have h9 := hob _ e.symm; omega
        have pf := Aside0.mk (blk_grown (blk_below PB.out hWW) g3 (hne _ (by omega)))
        have zf := Aside0.mk (blk_grown (blk_below ZB.out hWW) g3 (hne _ (by omega)))
        have bf := Aside0.mk (BB.out.trans (b3.mono (show w.heap.size ≤ w.heap.size + 2 by omega)))
        have sf := Aside0.mk (Nat.le_trans (Nat.le_trans hSB hWW.size) g3.size)
        have of := Aside0.mk o3
        clear o3 b3 g3 t3 hWW PB ZB BB SB HO W1B hb2 o2
        go_roundg k1
        case measure => omega
        case rel =>
          refine ⟨i + 1, A6, c6, by simp, by simp; omega, ⟨by have := HI.out; omega⟩, ⟨?_⟩, pf, zf, bf, sf⟩
          have := of.out
          rw [mv_take hyi]
          have e7 : (List.take i l' ++ [y]).length = i + 1 := by simp; omega
          rw [e7] at this
          exact this
def prod_Plain.vs (k : Nat) (l : List S66) : Nat → Option (List S66)
  | 0 => some []
  | n + 1 => (prod_Plain.vs k l n).bind fun a => (prod_variables.f k l (n : Int)).bind fun b => if a.length + b.length ≤ 1000000 then some (a ++ b) else none
def prod_Plain.f (k : Nat) (a0_0 : Int) (l0_1 : List S66) (l0_2 : List S64) (a1 : Int) (e0 e1 e2 : Int) (l : List S28) : Option (Int × Int × Int × List S28 × Int) :=
  (prog_Check.f k a0_0 l0_1 l0_2).bind fun t => if t = 0 then (if a1 < 1 then some (0, 0, 0, [], 1) else if a1 > 3 then some (0, 0, 0, [], 1) else
    (prod_single.f k a0_0 l0_1 l0_2).bind fun s => if s = 0 then ((prod_Plain.vs k l0_1 a1.toNat).bind fun v => (expr_Heading.f k a0_0 v).bind fun hd => if hd = 0 then
      ((expr_Check.f k a0_0 l0_1 a1 e0 e1 e2 l).bind fun c => if c = 0 then ((mvE (fun c => some (wrap64 (c * (l0_1.length : Int)))) ⟨e0, e1, e2, l⟩).bind fun y => some (y.f0, y.f1, y.f2, y.f3, 0)) else some (0, 0, 0, [], 20)) else some (0, 0, 0, [], 2))
      else some (0, 0, 0, [], 1)) else some (0, 0, 0, [], 30)
theorem prod_Plain.vs_pre {k : Nat} {l : List S66} : ∀ {n : Nat} {v : List S66}, prod_Plain.vs k l n = some v → ∀ j, j ≤ n → ∃ a, prod_Plain.vs k l j = some a
  | 0, v, h, j, hj => by
    obtain rfl : j = 0 := by omega
    exact ⟨v, h⟩
  | n + 1, v, h, j, hj => by
    by_cases e : j = n + 1
    · subst e
      exact ⟨v, h⟩
    · rw [prod_Plain.vs] at h
      obtain ⟨a, ha, _⟩ := Option.bind_eq_some_iff.mp h
      exact prod_Plain.vs_pre ha j (by omega)
theorem row4_put {W : World} {B t : Nat} {x0 x1 x2 x3 : Value} (hz : W.heap[B]? = some (.cells #[x0, x1, x2, x3] t (0, 0))) (a b c u : Value) :
    ((((W.setCell ⟨B, 0, none⟩ a).setCell ⟨B, 1, none⟩ b).setCell ⟨B, 2, none⟩ c).setCell ⟨B, 3, none⟩ u).heap[B]? = some (.cells #[a, b, c, u] t (0, 0)) ∧
    (∀ k, k ≠ B → ((((W.setCell ⟨B, 0, none⟩ a).setCell ⟨B, 1, none⟩ b).setCell ⟨B, 2, none⟩ c).setCell ⟨B, 3, none⟩ u).heap[k]? = W.heap[k]?) ∧
    (∀ n, n ≤ B → Below n W ((((W.setCell ⟨B, 0, none⟩ a).setCell ⟨B, 1, none⟩ b).setCell ⟨B, 2, none⟩ c).setCell ⟨B, 3, none⟩ u)) := by
  have h0 := blk_put hz 0 a (cs' := #[a, x1, x2, x3]) rfl
  have h1 := blk_put h0 1 b (cs' := #[a, b, x2, x3]) rfl
  have h2 := blk_put h1 2 c (cs' := #[a, b, c, x3]) rfl
  refine ⟨blk_put h2 3 u (cs' := #[a, b, c, u]) rfl, fun k hk => ?_, fun n hn => ?_⟩
  · rw [Below.heap_setCell _ _ _ _ hk, Below.heap_setCell _ _ _ _ hk, Below.heap_setCell _ _ _ _ hk, Below.heap_setCell _ _ _ _ hk]
  · exact (((below_cell _ _ hn).trans (below_cell _ _ hn)).trans (below_cell _ _ hn)).trans (below_cell _ _ hn)
set_option maxHeartbeats 2000000 in
theorem prod_Plain1.fn (w : World) (b : Nat) (a v : Value) (A : Option Addr) (n c : Nat) (h : w.heap[b]? = some (.cells #[a, .slice A n c, v] 25 (0, 0))) : FnAt w (.func (.func 49) #[] #[.pointer (some ⟨b, 0, none⟩)]) (fun c => some (wrap64 (c * (n : Int)))) := by
  refine ⟨_, _, rfl, enters_of Try.func49 (by kernel_rfl) rfl, fun W m r hW hr => ?_⟩
  obtain rfl : wrap64 (m * (n : Int)) = r := Option.some.inj hr
  show Calls Try.prog 49 #[.int .i64 m, .pointer (some ⟨b, 0, none⟩)] W _
  have c0 : W.cell? ⟨b, 1, none⟩ = some (.slice A n c) := (blk_cell ((hW.block _ (blk_lt h)).trans h) 1).trans rfl
  go_enter Try.func49, Try.ntmps49
  go_wp2
  go_ret
  exact ⟨rfl, Below.refl _ _⟩
set_option maxHeartbeats 16000000 in
set_option maxRecDepth 100000 in
theorem prod_Plain.calls (k : Nat) (a0_0 : Int) (A0_1 : Option Addr) (c0_1 : Nat) (l0_1 : List S66) (A0_2 : Option Addr) (c0_2 : Nat) (l0_2 : List S64) (a1 : Int) (e0 e1 e2 : Int) (A2 : Option Addr) (c2 : Nat) (l : List S28) (r1 r2 r3 : Int) (r4 : List S28) (r5 : Int) (w : World)
    (hr1 : Kd.C k66 w A0_1 l0_1.length l0_1) (hc1 : l0_1.length ≤ c0_1) (hr2 : Kd.C k64 w A0_2 l0_2.length l0_2) (hc2 : l0_2.length ≤ c0_2) (hr3 : Kd.C k28 w A2 l.length l) (hc3 : l.length ≤ c2) (h : prod_Plain.f k a0_0 l0_1 l0_2 a1 e0 e1 e2 l = some (r1, r2, r3, r4, r5)) :
    Calls Try.prog 12 #[.agg #[.int .i64 a0_0, .slice A0_1 l0_1.length c0_1, .slice A0_2 l0_2.length c0_2], .int .i64 a1, .agg #[.int .i64 e0, .int .i64 e1, .int .i64 e2, .slice A2 l.length c2]] w fun en w' => ∃ v4_ : Value, en = .returned (.tuple #[.agg #[.int .i64 r1, .int .i64 r2, .int .i64 r3, v4_], .int .i64 r5]) ∧ Kd.R k28 28 w' w.heap.size (fun _ => True) v4_ r4 ∧ Below w.heap.size w w' := by
  have huE := Try.underlying28
  have huP := Try.underlying25
  have HR1 := Aside0.mk hr1
  have HC1 := Aside0.mk hc1
  have HR2 := Aside0.mk hr2
  have HC2 := Aside0.mk hc2
  have HR3 := Aside0.mk hr3
  have HC3 := Aside0.mk hc3
  clear hr1 hc1 hr2 hc2 hr3 hc3
  unfold prod_Plain.f at h
  obtain ⟨tc, ac, h⟩ := Option.bind_eq_some_iff.mp h
  have AC := Aside0.mk ac
  clear ac
  obtain ⟨W0, hW0⟩ : ∃ X, (((w.alloc (.cells #[.int .i64 a0_0, .slice A0_1 l0_1.length c0_1, .slice A0_2 l0_2.length c0_2] 25)).alloc (.cells #[.int .i64 e0, .int .i64 e1, .int .i64 e2, .slice A2 l.length c2] 28)).alloc (.cells #[.int .i64 0, .int .i64 0, .int .i64 0, .slice none 0 0] 28)) = X := ⟨_, rfl⟩
  have b0 : Below w.heap.size w W0 := by rw [← hW0]; exact bal (bal (bal (Below.refl _ _) _) _) _
  have p0 : W0.heap[w.heap.size]? = some (.cells #[.int .i64 a0_0, .slice A0_1 l0_1.length c0_1, .slice A0_2 l0_2.length c0_2] 25 (0, 0)) := by rw [← hW0]; exact kal (kal (blk_new _ _) _) _
  have q0 : W0.heap[w.heap.size + 1]? = some (.cells #[.int .i64 e0, .int .i64 e1, .int .i64 e2, .slice A2 l.length c2] 28 (0, 0)) := by
    rw [← hW0]
    have := blk_new (w.alloc (.cells #[.int .i64 a0_0, .slice A0_1 l0_1.length c0_1, .slice A0_2 l0_2.length c0_2] 25)) (.cells #[.int .i64 e0, .int .i64 e1, .int .i64 e2, .slice A2 l.length c2] 28)
    exact kal (by simpa using this) _
  have z0 : W0.heap[w.heap.size + 1 + 1]? = some (.cells #[.int .i64 0, .int .i64 0, .int .i64 0, .slice none 0 0] 28 (0, 0)) := by
    rw [← hW0]
    have := blk_new ((w.alloc (.cells #[.int .i64 a0_0, .slice A0_1 l0_1.length c0_1, .slice A0_2 l0_2.length c0_2] 25)).alloc (.cells #[.int .i64 e0, .int .i64 e1, .int .i64 e2, .slice A2 l.length c2] 28)) (.cells #[.int .i64 0, .int .i64 0, .int .i64 0, .slice none 0 0] 28)
    simpa using this
  have x0 : W0.cell? ⟨w.heap.size, 0, none⟩ = some (.int .i64 a0_0) := (blk_cell p0 0).trans rfl
  have x1 : W0.cell? ⟨w.heap.size, 1, none⟩ = some (.slice A0_1 l0_1.length c0_1) := (blk_cell p0 1).trans rfl
  have x2 : W0.cell? ⟨w.heap.size, 2, none⟩ = some (.slice A0_2 l0_2.length c0_2) := (blk_cell p0 2).trans rfl
  have bad : ∀ (W : World) (ec : Int), Below w.heap.size w W → W.heap[w.heap.size + 1 + 1]? = some (.cells #[.int .i64 0, .int .i64 0, .int .i64 0, .slice none 0 0] 28 (0, 0)) → some (r1, r2, r3, r4, r5) = some (0, 0, 0, [], ec) → True := fun _ _ _ _ _ => trivial
  clear bad
  by_cases htc : tc = 0
  case neg =>
    rw [if_neg htc] at h
    have H := Aside0.mk h
    have g2 : (tc != 0) = true := bne_iff_ne.mpr htc
    clear h
    go_enter Try.func12, Try.ntmps12
    go_wp2_with (first | (go_at_call 43; refine (prog_Check.calls k a0_0 _ _ l0_1 _ _ l0_2 _ W0 (Kd.C_below HR1.out b0) HC1.out (Kd.C_below HR2.out b0) HC2.out AC.out).mono ?_; rintro e W1 ⟨rfl, hb1⟩; have b1 := b0.trans (hb1.mono b0.size); have p1 := blk_below p0 hb1; have q1 := blk_below q0 hb1; have z1 := blk_below z0 hb1; have y0 : W1.cell? ⟨w.heap.size, 0, none⟩ = some (.int .i64 a0_0) := (blk_cell p1 0).trans rfl; have y1 : W1.cell? ⟨w.heap.size, 1, none⟩ = some (.slice A0_1 l0_1.length c0_1) := (blk_cell p1 1).trans rfl; have y2 : W1.cell? ⟨w.heap.size, 2, none⟩ = some (.slice A0_2 l0_2.length c0_2) := (blk_cell p1 2).trans rfl; have z_0 : W1.cell? ⟨w.heap.size + 1 + 1, 0, none⟩ = some (.int .i64 0) := (blk_cell z1 0).trans rfl; have z_1 : W1.cell? ⟨w.heap.size + 1 + 1, 1, none⟩ = some (.int .i64 0) := (blk_cell z1 1).trans rfl; have z_2 : W1.cell? ⟨w.heap.size + 1 + 1, 2, none⟩ = some (.int .i64 0) := (blk_cell z1 2).trans rfl; have z_3 : W1.cell? ⟨w.heap.size + 1 + 1, 3, none⟩ = some (.slice none 0 0) := (blk_cell z1 3).trans rfl; have f_0 := blk_frozen z1 0; have f_1 := blk_frozen z1 1; have f_2 := blk_frozen z1 2; have f_3 := blk_frozen z1 3))
    obtain ⟨zc, zk, zb⟩ := row4_put z1 (.int .i64 0) (.int .i64 0) (.int .i64 0) (.slice none 0 0)
    refine bodyPost_ret (results_ct rfl _ _ (w.heap.size + 1 + 1) 28 #[.int .i64 0, .int .i64 0, .int .i64 0, .slice none 0 0] (0, 0) _ rfl zc huE rfl (by kernel_rfl)) rfl ?_
    obtain ⟨rfl, rfl, rfl, rfl, rfl⟩ : r1 = 0 ∧ r2 = 0 ∧ r3 = 0 ∧ r4 = [] ∧ r5 = 30 := by
      injection (Option.some.inj H.out) with g1 g2; injection g2 with g2 g3; injection g3 with g3 g4; injection g4 with g4 g5
      exact ⟨g1.symm, g2.symm, g3.symm, g4.symm, g5.symm⟩
    exact ⟨_, rfl, Kd.R_nil _ _ _ _ _, b1.trans (zb _ (by omega))⟩
  subst htc
  rw [if_pos rfl] at h
  by_cases h1 : a1 < 1
  case pos =>
    rw [if_pos h1] at h
    have H := Aside0.mk h
    have g2 : decide (a1 < 1) = true := decide_eq_true h1
    clear h h1
    go_enter Try.func12, Try.ntmps12
    go_wp2_with (first | (go_at_call 43; refine (prog_Check.calls k a0_0 _ _ l0_1 _ _ l0_2 _ W0 (Kd.C_below HR1.out b0) HC1.out (Kd.C_below HR2.out b0) HC2.out AC.out).mono ?_; rintro e W1 ⟨rfl, hb1⟩; have b1 := b0.trans (hb1.mono b0.size); have p1 := blk_below p0 hb1; have q1 := blk_below q0 hb1; have z1 := blk_below z0 hb1; have y0 : W1.cell? ⟨w.heap.size, 0, none⟩ = some (.int .i64 a0_0) := (blk_cell p1 0).trans rfl; have y1 : W1.cell? ⟨w.heap.size, 1, none⟩ = some (.slice A0_1 l0_1.length c0_1) := (blk_cell p1 1).trans rfl; have y2 : W1.cell? ⟨w.heap.size, 2, none⟩ = some (.slice A0_2 l0_2.length c0_2) := (blk_cell p1 2).trans rfl; have z_0 : W1.cell? ⟨w.heap.size + 1 + 1, 0, none⟩ = some (.int .i64 0) := (blk_cell z1 0).trans rfl; have z_1 : W1.cell? ⟨w.heap.size + 1 + 1, 1, none⟩ = some (.int .i64 0) := (blk_cell z1 1).trans rfl; have z_2 : W1.cell? ⟨w.heap.size + 1 + 1, 2, none⟩ = some (.int .i64 0) := (blk_cell z1 2).trans rfl; have z_3 : W1.cell? ⟨w.heap.size + 1 + 1, 3, none⟩ = some (.slice none 0 0) := (blk_cell z1 3).trans rfl; have f_0 := blk_frozen z1 0; have f_1 := blk_frozen z1 1; have f_2 := blk_frozen z1 2; have f_3 := blk_frozen z1 3))
    obtain ⟨zc, zk, zb⟩ := row4_put z1 (.int .i64 0) (.int .i64 0) (.int .i64 0) (.slice none 0 0)
    refine bodyPost_ret (results_ct rfl _ _ (w.heap.size + 1 + 1) 28 #[.int .i64 0, .int .i64 0, .int .i64 0, .slice none 0 0] (0, 0) _ rfl zc huE rfl (by kernel_rfl)) rfl ?_
    obtain ⟨rfl, rfl, rfl, rfl, rfl⟩ : r1 = 0 ∧ r2 = 0 ∧ r3 = 0 ∧ r4 = [] ∧ r5 = 1 := by
      injection (Option.some.inj H.out) with g1 g2; injection g2 with g2 g3; injection g3 with g3 g4; injection g4 with g4 g5
      exact ⟨g1.symm, g2.symm, g3.symm, g4.symm, g5.symm⟩
    exact ⟨_, rfl, Kd.R_nil _ _ _ _ _, b1.trans (zb _ (by omega))⟩
  rw [if_neg h1] at h
  have g1 : decide (a1 < 1) = false := decide_eq_false h1
  by_cases h3 : a1 > 3
  case pos =>
    rw [if_pos h3] at h
    have H := Aside0.mk h
    have g2 : decide (3 < a1) = true := decide_eq_true h3
    have g3 : decide (a1 > 3) = true := decide_eq_true h3
    clear h h1 h3
    go_enter Try.func12, Try.ntmps12
    go_wp2_with (first | (go_at_call 43; refine (prog_Check.calls k a0_0 _ _ l0_1 _ _ l0_2 _ W0 (Kd.C_below HR1.out b0) HC1.out (Kd.C_below HR2.out b0) HC2.out AC.out).mono ?_; rintro e W1 ⟨rfl, hb1⟩; have b1 := b0.trans (hb1.mono b0.size); have p1 := blk_below p0 hb1; have q1 := blk_below q0 hb1; have z1 := blk_below z0 hb1; have y0 : W1.cell? ⟨w.heap.size, 0, none⟩ = some (.int .i64 a0_0) := (blk_cell p1 0).trans rfl; have y1 : W1.cell? ⟨w.heap.size, 1, none⟩ = some (.slice A0_1 l0_1.length c0_1) := (blk_cell p1 1).trans rfl; have y2 : W1.cell? ⟨w.heap.size, 2, none⟩ = some (.slice A0_2 l0_2.length c0_2) := (blk_cell p1 2).trans rfl; have z_0 : W1.cell? ⟨w.heap.size + 1 + 1, 0, none⟩ = some (.int .i64 0) := (blk_cell z1 0).trans rfl; have z_1 : W1.cell? ⟨w.heap.size + 1 + 1, 1, none⟩ = some (.int .i64 0) := (blk_cell z1 1).trans rfl; have z_2 : W1.cell? ⟨w.heap.size + 1 + 1, 2, none⟩ = some (.int .i64 0) := (blk_cell z1 2).trans rfl; have z_3 : W1.cell? ⟨w.heap.size + 1 + 1, 3, none⟩ = some (.slice none 0 0) := (blk_cell z1 3).trans rfl; have f_0 := blk_frozen z1 0; have f_1 := blk_frozen z1 1; have f_2 := blk_frozen z1 2; have f_3 := blk_frozen z1 3))
    obtain ⟨zc, zk, zb⟩ := row4_put z1 (.int .i64 0) (.int .i64 0) (.int .i64 0) (.slice none 0 0)
    refine bodyPost_ret (results_ct rfl _ _ (w.heap.size + 1 + 1) 28 #[.int .i64 0, .int .i64 0, .int .i64 0, .slice none 0 0] (0, 0) _ rfl zc huE rfl (by kernel_rfl)) rfl ?_
    obtain ⟨rfl, rfl, rfl, rfl, rfl⟩ : r1 = 0 ∧ r2 = 0 ∧ r3 = 0 ∧ r4 = [] ∧ r5 = 1 := by
      injection (Option.some.inj H.out) with g1 g2; injection g2 with g2 g3; injection g3 with g3 g4; injection g4 with g4 g5
      exact ⟨g1.symm, g2.symm, g3.symm, g4.symm, g5.symm⟩
    exact ⟨_, rfl, Kd.R_nil _ _ _ _ _, b1.trans (zb _ (by omega))⟩
  rw [if_neg h3] at h
  have g3 : decide (3 < a1) = false := decide_eq_false h3
  have g4 : decide (a1 > 3) = false := decide_eq_false h3
  obtain ⟨sc, as_, h⟩ := Option.bind_eq_some_iff.mp h
  have AS := Aside0.mk as_
  have RNG := Aside0.mk (And.intro h1 h3)
  clear as_ h1 h3
  by_cases hsc : sc = 0
  case neg =>
    rw [if_neg hsc] at h
    have H := Aside0.mk h
    have g5 : (sc != 0) = true := bne_iff_ne.mpr hsc
    clear h hsc
    go_enter Try.func12, Try.ntmps12
    go_wp2_with (first | (go_at_call 43; refine (prog_Check.calls k a0_0 _ _ l0_1 _ _ l0_2 _ W0 (Kd.C_below HR1.out b0) HC1.out (Kd.C_below HR2.out b0) HC2.out AC.out).mono ?_; rintro e W1 ⟨rfl, hb1⟩; have b1 := b0.trans (hb1.mono b0.size); have p1 := blk_below p0 hb1; have q1 := blk_below q0 hb1; have z1 := blk_below z0 hb1; have y0 : W1.cell? ⟨w.heap.size, 0, none⟩ = some (.int .i64 a0_0) := (blk_cell p1 0).trans rfl; have y1 : W1.cell? ⟨w.heap.size, 1, none⟩ = some (.slice A0_1 l0_1.length c0_1) := (blk_cell p1 1).trans rfl; have y2 : W1.cell? ⟨w.heap.size, 2, none⟩ = some (.slice A0_2 l0_2.length c0_2) := (blk_cell p1 2).trans rfl; have z_0 : W1.cell? ⟨w.heap.size + 1 + 1, 0, none⟩ = some (.int .i64 0) := (blk_cell z1 0).trans rfl; have z_1 : W1.cell? ⟨w.heap.size + 1 + 1, 1, none⟩ = some (.int .i64 0) := (blk_cell z1 1).trans rfl; have z_2 : W1.cell? ⟨w.heap.size + 1 + 1, 2, none⟩ = some (.int .i64 0) := (blk_cell z1 2).trans rfl; have z_3 : W1.cell? ⟨w.heap.size + 1 + 1, 3, none⟩ = some (.slice none 0 0) := (blk_cell z1 3).trans rfl; have f_0 := blk_frozen z1 0; have f_1 := blk_frozen z1 1; have f_2 := blk_frozen z1 2; have f_3 := blk_frozen z1 3) | (go_at_call 44; refine (prod_single.calls k a0_0 _ _ l0_1 _ _ l0_2 _ W1 (Kd.C_below HR1.out b1) HC1.out (Kd.C_below HR2.out b1) HC2.out AS.out).mono ?_; rintro e W2 ⟨rfl, hb2⟩; have b2 := b1.trans (hb2.mono b1.size); have p2 := blk_below p1 hb2; have q2 := blk_below q1 hb2; have z2 := blk_below z1 hb2; have y0 : W2.cell? ⟨w.heap.size, 0, none⟩ = some (.int .i64 a0_0) := (blk_cell p2 0).trans rfl; have y1 : W2.cell? ⟨w.heap.size, 1, none⟩ = some (.slice A0_1 l0_1.length c0_1) := (blk_cell p2 1).trans rfl; have y2 : W2.cell? ⟨w.heap.size, 2, none⟩ = some (.slice A0_2 l0_2.length c0_2) := (blk_cell p2 2).trans rfl; have z_0 : W2.cell? ⟨w.heap.size + 1 + 1, 0, none⟩ = some (.int .i64 0) := (blk_cell z2 0).trans rfl; have z_1 : W2.cell? ⟨w.heap.size + 1 + 1, 1, none⟩ = some (.int .i64 0) := (blk_cell z2 1).trans rfl; have z_2 : W2.cell? ⟨w.heap.size + 1 + 1, 2, none⟩ = some (.int .i64 0) := (blk_cell z2 2).trans rfl; have z_3 : W2.cell? ⟨w.heap.size + 1 + 1, 3, none⟩ = some (.slice none 0 0) := (blk_cell z2 3).trans rfl; have f_0 := blk_frozen z2 0; have f_1 := blk_frozen z2 1; have f_2 := blk_frozen z2 2; have f_3 := blk_frozen z2 3))
    obtain ⟨zc, zk, zb⟩ := row4_put z2 (.int .i64 0) (.int .i64 0) (.int .i64 0) (.slice none 0 0)
    refine bodyPost_ret (results_ct rfl _ _ (w.heap.size + 1 + 1) 28 #[.int .i64 0, .int .i64 0, .int .i64 0, .slice none 0 0] (0, 0) _ rfl zc huE rfl (by kernel_rfl)) rfl ?_
    obtain ⟨rfl, rfl, rfl, rfl, rfl⟩ : r1 = 0 ∧ r2 = 0 ∧ r3 = 0 ∧ r4 = [] ∧ r5 = 1 := by
      injection (Option.some.inj H.out) with g1 g2; injection g2 with g2 g3; injection g3 with g3 g4; injection g4 with g4 g5
      exact ⟨g1.symm, g2.symm, g3.symm, g4.symm, g5.symm⟩
    exact ⟨_, rfl, Kd.R_nil _ _ _ _ _, b2.trans (zb _ (by omega))⟩
  subst hsc
  rw [if_pos rfl] at h
  obtain ⟨vs, av, h⟩ := Option.bind_eq_some_iff.mp h
  obtain ⟨hc, ah, h⟩ := Option.bind_eq_some_iff.mp h
  have AV := Aside0.mk av
  have AH := Aside0.mk ah
  have H := Aside0.mk h
  clear av ah h
  go_enter Try.func12, Try.ntmps12
  go_wp2_with (first | (go_at_call 43; refine (prog_Check.calls k a0_0 _ _ l0_1 _ _ l0_2 _ W0 (Kd.C_below HR1.out b0) HC1.out (Kd.C_below HR2.out b0) HC2.out AC.out).mono ?_; rintro e W1 ⟨rfl, hb1⟩; have b1 := b0.trans (hb1.mono b0.size); have p1 := blk_below p0 hb1; have q1 := blk_below q0 hb1; have z1 := blk_below z0 hb1; have y0 : W1.cell? ⟨w.heap.size, 0, none⟩ = some (.int .i64 a0_0) := (blk_cell p1 0).trans rfl; have y1 : W1.cell? ⟨w.heap.size, 1, none⟩ = some (.slice A0_1 l0_1.length c0_1) := (blk_cell p1 1).trans rfl; have y2 : W1.cell? ⟨w.heap.size, 2, none⟩ = some (.slice A0_2 l0_2.length c0_2) := (blk_cell p1 2).trans rfl; have z_0 : W1.cell? ⟨w.heap.size + 1 + 1, 0, none⟩ = some (.int .i64 0) := (blk_cell z1 0).trans rfl; have z_1 : W1.cell? ⟨w.heap.size + 1 + 1, 1, none⟩ = some (.int .i64 0) := (blk_cell z1 1).trans rfl; have z_2 : W1.cell? ⟨w.heap.size + 1 + 1, 2, none⟩ = some (.int .i64 0) := (blk_cell z1 2).trans rfl; have z_3 : W1.cell? ⟨w.heap.size + 1 + 1, 3, none⟩ = some (.slice none 0 0) := (blk_cell z1 3).trans rfl; have f_0 := blk_frozen z1 0; have f_1 := blk_frozen z1 1; have f_2 := blk_frozen z1 2; have f_3 := blk_frozen z1 3) | (go_at_call 44; refine (prod_single.calls k a0_0 _ _ l0_1 _ _ l0_2 _ W1 (Kd.C_below HR1.out b1) HC1.out (Kd.C_below HR2.out b1) HC2.out AS.out).mono ?_; rintro e W2 ⟨rfl, hb2⟩; have b2 := b1.trans (hb2.mono b1.size); have p2 := blk_below p1 hb2; have q2 := blk_below q1 hb2; have z2 := blk_below z1 hb2; have y0 : W2.cell? ⟨w.heap.size, 0, none⟩ = some (.int .i64 a0_0) := (blk_cell p2 0).trans rfl; have y1 : W2.cell? ⟨w.heap.size, 1, none⟩ = some (.slice A0_1 l0_1.length c0_1) := (blk_cell p2 1).trans rfl; have y2 : W2.cell? ⟨w.heap.size, 2, none⟩ = some (.slice A0_2 l0_2.length c0_2) := (blk_cell p2 2).trans rfl; have z_0 : W2.cell? ⟨w.heap.size + 1 + 1, 0, none⟩ = some (.int .i64 0) := (blk_cell z2 0).trans rfl; have z_1 : W2.cell? ⟨w.heap.size + 1 + 1, 1, none⟩ = some (.int .i64 0) := (blk_cell z2 1).trans rfl; have z_2 : W2.cell? ⟨w.heap.size + 1 + 1, 2, none⟩ = some (.int .i64 0) := (blk_cell z2 2).trans rfl; have z_3 : W2.cell? ⟨w.heap.size + 1 + 1, 3, none⟩ = some (.slice none 0 0) := (blk_cell z2 3).trans rfl; have f_0 := blk_frozen z2 0; have f_1 := blk_frozen z2 1; have f_2 := blk_frozen z2 2; have f_3 := blk_frozen z2 3))
  have PB := Aside0.mk p2
  have QB := Aside0.mk q2
  have ZZ := Aside0.mk z2
  have BB := Aside0.mk b2
  have SB := Aside0.mk (show w.heap.size + 3 ≤ W2.heap.size from by have := blk_lt z2; omega)
  clear p0 q0 z0 b0 x0 x1 x2 hb1 b1 p1 q1 z1 hb2 b2 p2 q2 z2 y0 y1 y2 z_0 z_1 z_2 z_3 f_0 f_1 f_2 f_3 hW0
  go_loopg [8, 27] a1.toNat (fun kq v8 v27 X => ∃ (j : Nat) (A8 : Option Addr) (c8 : Nat) (acc : List S66), v27 = .int .i64 (j : Int) ∧ v8 = .slice A8 acc.length c8 ∧ Aside0 (j + kq = a1.toNat) ∧ Aside0 (prod_Plain.vs k l0_1 j = some acc) ∧ Aside0 (Kd.R k66 66 X (w.heap.size + 3) (fun _ => True) (.slice A8 acc.length c8) acc) ∧ Aside0 (X.heap[w.heap.size]? = some (.cells #[.int .i64 a0_0, .slice A0_1 l0_1.length c0_1, .slice A0_2 l0_2.length c0_2] 25 (0, 0))) ∧ Aside0 (X.heap[w.heap.size + 1]? = some (.cells #[.int .i64 e0, .int .i64 e1, .int .i64 e2, .slice A2 l.length c2] 28 (0, 0))) ∧ Aside0 (X.heap[w.heap.size + 1 + 1]? = some (.cells #[.int .i64 0, .int .i64 0, .int .i64 0, .slice none 0 0] 28 (0, 0))) ∧ Aside0 (Below w.heap.size w X) ∧ Aside0 (w.heap.size + 3 ≤ X.heap.size))
  case atStart => exact ⟨0, none, 0, [], rfl, rfl, ⟨by omega⟩, ⟨rfl⟩, ⟨Kd.R_nil _ _ _ _ _⟩, PB, QB, ZZ, BB, SB⟩
  case round =>
    clear PB QB ZZ BB SB
    obtain ⟨j, A8, c8, acc, rfl, rfl, HI, HV, HO, PB, QB, ZZ, BB, SB⟩ := hrel
    have hrng := RNG.out
    cases gk with
    | succ k1 =>
      have hj : j < a1.toNat := by have := HI.out; omega
      have hd : decide ((j : Int) < a1) = true := decide_eq_true (by omega)
      obtain ⟨nx, hnx⟩ := prod_Plain.vs_pre AV.out (j + 1) (by omega)
      have hnx2 := hnx
      rw [prod_Plain.vs] at hnx
      obtain ⟨a_, ha_, hnx⟩ := Option.bind_eq_some_iff.mp hnx
      obtain rfl : acc = a_ := Option.some.inj (HV.out.symm.trans ha_)
      obtain ⟨b_, hb_, hnx⟩ := Option.bind_eq_some_iff.mp hnx
      have hlen : acc.length + b_.length ≤ 1000000 := by
        rcases Nat.lt_or_ge 1000000 (acc.length + b_.length) with h1 | h1
        · rw [if_neg (by omega)] at hnx; cases hnx
        · exact h1
      rw [if_pos hlen] at hnx
      obtain rfl := Option.some.inj hnx
      have NX := Aside0.mk hnx2
      have HB_ := Aside0.mk hb_
      clear hnx hnx2 ha_ hb_
      have y1 : wr.cell? ⟨w.heap.size, 1, none⟩ = some (.slice A0_1 l0_1.length c0_1) := (blk_cell PB.out 1).trans rfl
      have hw1 : IntKind.i64.wrap ((j : Int) + 1) = (j : Int) + 1 := by rw [i64_w]; unfold wrap64; omega
      have hob := Kd.R_base HO.out
      have hSB := SB.out
      go_wp2_with (first | (go_at_call 45; refine (prod_variables.calls k _ _ l0_1 (j : Int) _ wr (Kd.C_below HR1.out BB.out) HC1.out HB_.out).mono ?_; rintro e Y ⟨v0, rfl, oY, hbY⟩; obtain ⟨D0, d0, eD0⟩ := Kd.R_slice oY; subst eD0) | ((with_reducible refine gate_builtin (b := .append) (xs := #[.tmp 30, .tmp 34]) rfl ?_); at_builtin; refine Kd.R_append_rows k66 (w0 := wr) (W := Y) (w.heap.size + 3) rfl (.tmp 30) (.tmp 34) 22 66 (.agg #[(.string ⟨#[]⟩), (.int .i64 0), (.int .i64 0)]) 32 rfl Try.underlying22 info66 rfl (by decide) (by omega) (.slice A8 acc.length c8) acc b_ _ _ _ (fun _ => True) (fun _ => False) rfl rfl ?aO ?aR (fun _ _ h => h) (fun _ h => h.elim) (fun _ _ => trivial) ?aB ?aS ?aL ?_; (case aO => exact Kd.R_below HO.out hbY); (case aR => exact (Kd.R_reads' oY).2.2); (case aB => exact hbY.mono hSB); (case aS => exact Nat.le_trans hSB hbY.size); (case aL => omega); intro v1 W3 o3 b3 g3 t3))
      obtain ⟨A6, c6, e6⟩ := Kd.R_slice o3
      subst e6
      have hne : ∀ q, q < w.heap.size + 3 → some q ≠ (Value.slice A8 acc.length c8).ownBlock := fun q hq e => by have h9 := hob _ e.symm; omega
      have pf := Aside0.mk (blk_grown (blk_below PB.out hbY) g3 (hne _ (by omega)))
      have qf := Aside0.mk (blk_grown (blk_below QB.out hbY) g3 (hne _ (by omega)))
      have zf := Aside0.mk (blk_grown (blk_below ZZ.out hbY) g3 (hne _ (by omega)))
      have bf := Aside0.mk (BB.out.trans (b3.mono (show w.heap.size ≤ w.heap.size + 3 by omega)))
      have sf := Aside0.mk (Nat.le_trans (Nat.le_trans hSB hbY.size) g3.size)
      have of := Aside0.mk o3
      clear o3 b3 g3 t3 PB QB ZZ BB SB HO hbY oY y1
      go_roundg k1
      case measure => omega
      case rel => exact ⟨j + 1, A6, c6, acc ++ b_, by simp, rfl, ⟨by have := HI.out; omega⟩, NX, of, pf, qf, zf, bf, sf⟩
    | zero =>
      have hj : j = a1.toNat := by have := HI.out; omega
      have hd : decide ((j : Int) < a1) = false := decide_eq_false (by omega)
      obtain rfl : acc = vs := Option.some.inj (HV.out.symm.trans (hj ▸ AV.out))
      obtain ⟨_, hlv, cv⟩ := Kd.R_reads' HO.out
      have CV := Aside0.mk cv
      clear cv
      have y0 : wr.cell? ⟨w.heap.size, 0, none⟩ = some (.int .i64 a0_0) := (blk_cell PB.out 0).trans rfl
      have y1 : wr.cell? ⟨w.heap.size, 1, none⟩ = some (.slice A0_1 l0_1.length c0_1) := (blk_cell PB.out 1).trans rfl
      have y2 : wr.cell? ⟨w.heap.size, 2, none⟩ = some (.slice A0_2 l0_2.length c0_2) := (blk_cell PB.out 2).trans rfl
      by_cases hhc : hc = 0
      case neg =>
        have h := H.out
        clear H
        rw [if_neg hhc] at h
        have H := Aside0.mk h
        have g6 : (hc != 0) = true := bne_iff_ne.mpr hhc
        clear h hhc
        go_wp2_with (first | (go_at_call 46; refine (expr_Heading.calls k a0_0 _ _ acc _ wr CV.out hlv AH.out).mono ?_; rintro e Y ⟨rfl, hbY⟩; have bY := BB.out.trans (hbY.mono BB.out.size); have pY := blk_below PB.out hbY; have qY := blk_below QB.out hbY; have zY := blk_below ZZ.out hbY; have s0 : Y.cell? ⟨w.heap.size, 0, none⟩ = some (.int .i64 a0_0) := (blk_cell pY 0).trans rfl; have s1 : Y.cell? ⟨w.heap.size, 1, none⟩ = some (.slice A0_1 l0_1.length c0_1) := (blk_cell pY 1).trans rfl; have s2 : Y.cell? ⟨w.heap.size, 2, none⟩ = some (.slice A0_2 l0_2.length c0_2) := (blk_cell pY 2).trans rfl; have t0 : Y.cell? ⟨w.heap.size + 1, 0, none⟩ = some (.int .i64 e0) := (blk_cell qY 0).trans rfl; have t1 : Y.cell? ⟨w.heap.size + 1, 1, none⟩ = some (.int .i64 e1) := (blk_cell qY 1).trans rfl; have t2 : Y.cell? ⟨w.heap.size + 1, 2, none⟩ = some (.int .i64 e2) := (blk_cell qY 2).trans rfl; have t3 : Y.cell? ⟨w.heap.size + 1, 3, none⟩ = some (.slice A2 l.length c2) := (blk_cell qY 3).trans rfl; have z_0 : Y.cell? ⟨w.heap.size + 1 + 1, 0, none⟩ = some (.int .i64 0) := (blk_cell zY 0).trans rfl; have z_1 : Y.cell? ⟨w.heap.size + 1 + 1, 1, none⟩ = some (.int .i64 0) := (blk_cell zY 1).trans rfl; have z_2 : Y.cell? ⟨w.heap.size + 1 + 1, 2, none⟩ = some (.int .i64 0) := (blk_cell zY 2).trans rfl; have z_3 : Y.cell? ⟨w.heap.size + 1 + 1, 3, none⟩ = some (.slice none 0 0) := (blk_cell zY 3).trans rfl; have f_0 := blk_frozen zY 0; have f_1 := blk_frozen zY 1; have f_2 := blk_frozen zY 2; have f_3 := blk_frozen zY 3))
        obtain ⟨zc, zk, zb⟩ := row4_put zY (.int .i64 0) (.int .i64 0) (.int .i64 0) (.slice none 0 0)
        refine bodyPost_ret (results_ct rfl _ _ (w.heap.size + 1 + 1) 28 #[.int .i64 0, .int .i64 0, .int .i64 0, .slice none 0 0] (0, 0) _ rfl zc huE rfl (by kernel_rfl)) rfl ?_
        obtain ⟨rfl, rfl, rfl, rfl, rfl⟩ : r1 = 0 ∧ r2 = 0 ∧ r3 = 0 ∧ r4 = [] ∧ r5 = 2 := by
          injection (Option.some.inj H.out) with g1 g2; injection g2 with g2 g3; injection g3 with g3 g4; injection g4 with g4 g5
          exact ⟨g1.symm, g2.symm, g3.symm, g4.symm, g5.symm⟩
        exact ⟨_, rfl, Kd.R_nil _ _ _ _ _, bY.trans (zb _ (by omega))⟩
      subst hhc
      have h := H.out
      clear H
      rw [if_pos rfl] at h
      obtain ⟨cc, ae, h⟩ := Option.bind_eq_some_iff.mp h
      have AE := Aside0.mk ae
      by_cases hcc : cc = 0
      case neg =>
        rw [if_neg hcc] at h
        have H := Aside0.mk h
        have g6 : (cc != 0) = true := bne_iff_ne.mpr hcc
        clear h hcc ae
        go_wp2_with (first | (go_at_call 46; refine (expr_Heading.calls k a0_0 _ _ acc _ wr CV.out hlv AH.out).mono ?_; rintro e Y ⟨rfl, hbY⟩; have bY := BB.out.trans (hbY.mono BB.out.size); have pY := blk_below PB.out hbY; have qY := blk_below QB.out hbY; have zY := blk_below ZZ.out hbY; have s0 : Y.cell? ⟨w.heap.size, 0, none⟩ = some (.int .i64 a0_0) := (blk_cell pY 0).trans rfl; have s1 : Y.cell? ⟨w.heap.size, 1, none⟩ = some (.slice A0_1 l0_1.length c0_1) := (blk_cell pY 1).trans rfl; have s2 : Y.cell? ⟨w.heap.size, 2, none⟩ = some (.slice A0_2 l0_2.length c0_2) := (blk_cell pY 2).trans rfl; have t0 : Y.cell? ⟨w.heap.size + 1, 0, none⟩ = some (.int .i64 e0) := (blk_cell qY 0).trans rfl; have t1 : Y.cell? ⟨w.heap.size + 1, 1, none⟩ = some (.int .i64 e1) := (blk_cell qY 1).trans rfl; have t2 : Y.cell? ⟨w.heap.size + 1, 2, none⟩ = some (.int .i64 e2) := (blk_cell qY 2).trans rfl; have t3 : Y.cell? ⟨w.heap.size + 1, 3, none⟩ = some (.slice A2 l.length c2) := (blk_cell qY 3).trans rfl; have z_0 : Y.cell? ⟨w.heap.size + 1 + 1, 0, none⟩ = some (.int .i64 0) := (blk_cell zY 0).trans rfl; have z_1 : Y.cell? ⟨w.heap.size + 1 + 1, 1, none⟩ = some (.int .i64 0) := (blk_cell zY 1).trans rfl; have z_2 : Y.cell? ⟨w.heap.size + 1 + 1, 2, none⟩ = some (.int .i64 0) := (blk_cell zY 2).trans rfl; have z_3 : Y.cell? ⟨w.heap.size + 1 + 1, 3, none⟩ = some (.slice none 0 0) := (blk_cell zY 3).trans rfl; have f_0 := blk_frozen zY 0; have f_1 := blk_frozen zY 1; have f_2 := blk_frozen zY 2; have f_3 := blk_frozen zY 3) | (go_at_call 47; refine (expr_Check.calls k a0_0 _ _ l0_1 a1 e0 e1 e2 _ _ l _ Y (Kd.C_below HR1.out bY) HC1.out (Kd.C_below HR3.out bY) HC3.out AE.out).mono ?_; rintro e V ⟨rfl, hbV⟩; have bV := bY.trans (hbV.mono bY.size); have pV := blk_below pY hbV; have qV := blk_below qY hbV; have zV := blk_below zY hbV; have z_0 : V.cell? ⟨w.heap.size + 1 + 1, 0, none⟩ = some (.int .i64 0) := (blk_cell zV 0).trans rfl; have z_1 : V.cell? ⟨w.heap.size + 1 + 1, 1, none⟩ = some (.int .i64 0) := (blk_cell zV 1).trans rfl; have z_2 : V.cell? ⟨w.heap.size + 1 + 1, 2, none⟩ = some (.int .i64 0) := (blk_cell zV 2).trans rfl; have z_3 : V.cell? ⟨w.heap.size + 1 + 1, 3, none⟩ = some (.slice none 0 0) := (blk_cell zV 3).trans rfl; have f_0 := blk_frozen zV 0; have f_1 := blk_frozen zV 1; have f_2 := blk_frozen zV 2; have f_3 := blk_frozen zV 3))
        obtain ⟨zc, zk, zb⟩ := row4_put zV (.int .i64 0) (.int .i64 0) (.int .i64 0) (.slice none 0 0)
        refine bodyPost_ret (results_ct rfl _ _ (w.heap.size + 1 + 1) 28 #[.int .i64 0, .int .i64 0, .int .i64 0, .slice none 0 0] (0, 0) _ rfl zc huE rfl (by kernel_rfl)) rfl ?_
        obtain ⟨rfl, rfl, rfl, rfl, rfl⟩ : r1 = 0 ∧ r2 = 0 ∧ r3 = 0 ∧ r4 = [] ∧ r5 = 20 := by
          injection (Option.some.inj H.out) with g1 g2; injection g2 with g2 g3; injection g3 with g3 g4; injection g4 with g4 g5
          exact ⟨g1.symm, g2.symm, g3.symm, g4.symm, g5.symm⟩
        exact ⟨_, rfl, Kd.R_nil _ _ _ _ _, bV.trans (zb _ (by omega))⟩
      subst hcc
      rw [if_pos rfl] at h
      obtain ⟨y, hy, h⟩ := Option.bind_eq_some_iff.mp h
      have HY := Aside0.mk hy
      have H := Aside0.mk h
      clear h hy ae
      go_wp2_with (first | (go_at_call 46; refine (expr_Heading.calls k a0_0 _ _ acc _ wr CV.out hlv AH.out).mono ?_; rintro e Y ⟨rfl, hbY⟩; have bY := BB.out.trans (hbY.mono BB.out.size); have pY := blk_below PB.out hbY; have qY := blk_below QB.out hbY; have zY := blk_below ZZ.out hbY; have s0 : Y.cell? ⟨w.heap.size, 0, none⟩ = some (.int .i64 a0_0) := (blk_cell pY 0).trans rfl; have s1 : Y.cell? ⟨w.heap.size, 1, none⟩ = some (.slice A0_1 l0_1.length c0_1) := (blk_cell pY 1).trans rfl; have s2 : Y.cell? ⟨w.heap.size, 2, none⟩ = some (.slice A0_2 l0_2.length c0_2) := (blk_cell pY 2).trans rfl; have t0 : Y.cell? ⟨w.heap.size + 1, 0, none⟩ = some (.int .i64 e0) := (blk_cell qY 0).trans rfl; have t1 : Y.cell? ⟨w.heap.size + 1, 1, none⟩ = some (.int .i64 e1) := (blk_cell qY 1).trans rfl; have t2 : Y.cell? ⟨w.heap.size + 1, 2, none⟩ = some (.int .i64 e2) := (blk_cell qY 2).trans rfl; have t3 : Y.cell? ⟨w.heap.size + 1, 3, none⟩ = some (.slice A2 l.length c2) := (blk_cell qY 3).trans rfl; have z_0 : Y.cell? ⟨w.heap.size + 1 + 1, 0, none⟩ = some (.int .i64 0) := (blk_cell zY 0).trans rfl; have z_1 : Y.cell? ⟨w.heap.size + 1 + 1, 1, none⟩ = some (.int .i64 0) := (blk_cell zY 1).trans rfl; have z_2 : Y.cell? ⟨w.heap.size + 1 + 1, 2, none⟩ = some (.int .i64 0) := (blk_cell zY 2).trans rfl; have z_3 : Y.cell? ⟨w.heap.size + 1 + 1, 3, none⟩ = some (.slice none 0 0) := (blk_cell zY 3).trans rfl; have f_0 := blk_frozen zY 0; have f_1 := blk_frozen zY 1; have f_2 := blk_frozen zY 2; have f_3 := blk_frozen zY 3) | (go_at_call 47; refine (expr_Check.calls k a0_0 _ _ l0_1 a1 e0 e1 e2 _ _ l _ Y (Kd.C_below HR1.out bY) HC1.out (Kd.C_below HR3.out bY) HC3.out AE.out).mono ?_; rintro e V ⟨rfl, hbV⟩; have bV := bY.trans (hbV.mono bY.size); have pV := blk_below pY hbV; have qV := blk_below qY hbV; have zV := blk_below zY hbV; have z_0 : V.cell? ⟨w.heap.size + 1 + 1, 0, none⟩ = some (.int .i64 0) := (blk_cell zV 0).trans rfl; have z_1 : V.cell? ⟨w.heap.size + 1 + 1, 1, none⟩ = some (.int .i64 0) := (blk_cell zV 1).trans rfl; have z_2 : V.cell? ⟨w.heap.size + 1 + 1, 2, none⟩ = some (.int .i64 0) := (blk_cell zV 2).trans rfl; have z_3 : V.cell? ⟨w.heap.size + 1 + 1, 3, none⟩ = some (.slice none 0 0) := (blk_cell zV 3).trans rfl; have f_0 := blk_frozen zV 0; have f_1 := blk_frozen zV 1; have f_2 := blk_frozen zV 2; have f_3 := blk_frozen zV 3))
      have hfn := prod_Plain1.fn V.drew w.heap.size _ _ _ _ _ (kdr pV)
      have bD := below_drew bV
      have qD := kdr qV
      have zD := kdr zV
      refine start_ (n := 6) (S := fun w' => w'.cell? ⟨w.heap.size + 1, 0, none⟩ = some (.int .i64 e0) ∧ w'.cell? ⟨w.heap.size + 1, 1, none⟩ = some (.int .i64 e1) ∧ w'.cell? ⟨w.heap.size + 1, 2, none⟩ = some (.int .i64 e2) ∧ w'.cell? ⟨w.heap.size + 1, 3, none⟩ = some (.slice A2 l.length c2)) (ds := [4]) #[false, false, false, false, false, false] (by kernel_rfl) rfl rfl ⟨(blk_cell qD 0).trans rfl, (blk_cell qD 1).trans rfl, (blk_cell qD 2).trans rfl, (blk_cell qD 3).trans rfl⟩ (fun hHeld => ?_)
      generalize V.drew = V1 at hfn bD qD zD hHeld ⊢
      refine pu (i := 0) (N := some 52) #[true, false, false, false, false, false] rfl rfl (by kernel_rfl) ?_
      refine tk (i := 2) (N := some 54) #[true, false, true, false, false, false] rfl rfl (by kernel_rfl) hHeld ?_
      refine one_ (i := 1) (N := (some 53)) #[true, true, true, false, false, false] rfl rfl (by kernel_rfl) (by decide) (fun K hK => ?_)
      refine goes_ Try.func48 (by kernel_rfl) rfl #[.func (.func 49) #[] #[.pointer (some ⟨w.heap.size, 0, none⟩)]] (by rfl) rfl rfl (by (try simp only [List.map_toArray, List.map_cons, List.map_nil]); rfl) ?_
      refine (prod_moving.fn _ _ V1 hfn).mono ?_
      rintro e V2 ⟨rfl, hm2, b2⟩
      have bE := bD.trans (b2.mono bD.size)
      have qE := blk_below qD b2
      have zE := blk_below zD b2
      refine ⟨_, rfl, ?_⟩
      refine hK.out _ _ ⟨(blk_cell qE 0).trans rfl, (blk_cell qE 1).trans rfl, (blk_cell qE 2).trans rfl, (blk_cell qE 3).trans rfl⟩ (fun hHeld => ?_)
      clear hK K
      refine nm 53 ?_
      refine one_ (i := 3) (N := (some 55)) #[true, true, true, true, false, false] rfl rfl (by kernel_rfl) (by decide) (fun K hK => ?_)
      refine call_ 83 #[.agg #[.int .i64 e0, .int .i64 e1, .int .i64 e2, .slice A2 l.length c2], .pointer (some ⟨V1.heap.size, 0, none⟩), .pointer (some ⟨V1.heap.size + 1, 0, none⟩)] (by rfl) rfl ?run ?_
      case run =>
        have en := fun args w => enters_of (P := Try.prog) Try.func83 (by kernel_rfl) rfl args w
        unfold execOp
        simp [resolve, Deferred.ofValue, invoke, Act.eval, en]
      refine (prod_moving1.calls _ (⟨e0, e1, e2, l⟩ : S28) y A2 c2 V1.heap.size V2 HY.out hm2 (Kd.C_below HR3.out bE) HC3.out).mono ?_
      rintro e V3 ⟨v, rfl, o3, b3⟩
      have bF := bE.trans (b3.mono bE.size)
      have qF := blk_below qE b3
      have zF := blk_below zE b3
      refine ⟨_, rfl, ?_⟩
      refine hK.out _ _ ⟨(blk_cell qF 0).trans rfl, (blk_cell qF 1).trans rfl, (blk_cell qF 2).trans rfl, (blk_cell qF 3).trans rfl⟩ (fun hHeld => ?_)
      clear hK K
      refine nm 55 ?_
      obtain ⟨D3, d3, e3⟩ := Kd.R_slice o3
      subst e3
      refine last_ (i := 4) (N := none) #[true, true, true, true, true, false] rfl rfl (by kernel_rfl) (by decide) (fun K hK => ?_)
      have sz := blk_lt zF
      obtain ⟨zc, zk, zb⟩ := row4_put zF (.int .i64 y.f0) (.int .i64 y.f1) (.int .i64 y.f2) (.slice D3 y.f3.length d3)
      refine skip_ (w1 := ((((V3.setCell ⟨w.heap.size + 1 + 1, 0, none⟩ (.int .i64 y.f0)).setCell ⟨w.heap.size + 1 + 1, 1, none⟩ (.int .i64 y.f1)).setCell ⟨w.heap.size + 1 + 1, 2, none⟩ (.int .i64 y.f2)).setCell ⟨w.heap.size + 1 + 1, 3, none⟩ (.slice D3 y.f3.length d3))) (by rfl) rfl ?st ?_
      case st =>
        have z_0 : V3.cell? ⟨w.heap.size + 1 + 1, 0, none⟩ = some (.int .i64 0) := (blk_cell zF 0).trans rfl
        have z_1 : V3.cell? ⟨w.heap.size + 1 + 1, 1, none⟩ = some (.int .i64 0) := (blk_cell zF 1).trans rfl
        have z_2 : V3.cell? ⟨w.heap.size + 1 + 1, 2, none⟩ = some (.int .i64 0) := (blk_cell zF 2).trans rfl
        have z_3 : V3.cell? ⟨w.heap.size + 1 + 1, 3, none⟩ = some (.slice none 0 0) := (blk_cell zF 3).trans rfl
        have f_0 := blk_frozen zF 0
        have f_1 := blk_frozen zF 1
        have f_2 := blk_frozen zF 2
        have f_3 := blk_frozen zF 3
        go_simp
      refine hK.out _ _ ?_
      clear hK K
      refine pu (i := 5) (N := some 7) #[true, true, true, true, true, true] rfl rfl (by kernel_rfl) ?_
      refine done_ (by kernel_rfl) ?_
      try simp only [Exit.then]
      go_wp2
      refine bodyPost_ret (results_ct rfl _ _ (w.heap.size + 1 + 1) 28 #[.int .i64 y.f0, .int .i64 y.f1, .int .i64 y.f2, .slice D3 y.f3.length d3] (0, 0) _ rfl zc huE rfl (by kernel_rfl)) rfl ?_
      obtain ⟨rfl, rfl, rfl, rfl, rfl⟩ : r1 = y.f0 ∧ r2 = y.f1 ∧ r3 = y.f2 ∧ r4 = y.f3 ∧ r5 = 0 := by
        injection (Option.some.inj H.out) with g1 g2; injection g2 with g2 g3; injection g3 with g3 g4; injection g4 with g4 g5
        exact ⟨g1.symm, g2.symm, g3.symm, g4.symm, g5.symm⟩
      have sE := bE.size
      have sV1 := blk_lt zD
      have sV2 := b2.size
      exact ⟨_, rfl, Kd.R_lower (Kd.R_mono (Kd.R_step (Kd.R_bound o3) (fun q hq _ => zk q (by have := hq.2.1; omega))) (fun _ _ => trivial)) sE, bF.trans (zb _ (by omega))⟩
end Go.Proofs.Ytilebfkehmecaaa.Print
namespace Go.Proofs.Ytilebfkehmecaaa.Print
open Go.RowKit Go.Proofs.YtilebfkehmecaaaW.PrintWords Go.Proofs.YtilebfkehmecaaaW.PrintLast Go.Proofs.YtilebfkehmecaaaW.PrintMore
attribute [local go_sem] max2_int min2_int max_two min_two max_three min_three max_four min_four
set_option linter.unusedVariables false
set_option linter.unusedSimpArgs false
mutual
def r2_Same.j0 : Nat → Bool → Int → Int → Int → List (S28) → Int → Int → Int → List (S28) → Option (Bool)
 | 0, _, _, _, _, _, _, _, _, _ => none
 | k + 1, x33, x154000, x154001, x154002, x154003, x155000, x155001, x155002, x155003 => if x33 = true then (some false) else (r2_Same.l0 k 0 x154000 x154001 x154002 x154003 x155000 x155001 x155002 x155003)
def r2_Same.l0 : Nat → Int → Int → Int → Int → List (S28) → Int → Int → Int → List (S28) → Option (Bool)
 | 0, _, _, _, _, _, _, _, _, _ => none
 | k + 1, x5, x154000, x154001, x154002, x154003, x155000, x155001, x155002, x155003 => if x5 < (x154003.length : Int) then (if 0 ≤ x5 then (if x5 < (x155003.length : Int) then ((r2_Same.f k ((rd_T28 x154003 x5).f0) ((rd_T28 x154003 x5).f1) ((rd_T28 x154003 x5).f2) ((rd_T28 x154003 x5).f3) ((rd_T28 x155003 x5).f0) ((rd_T28 x155003 x5).f1) ((rd_T28 x155003 x5).f2) ((rd_T28 x155003 x5).f3)).bind fun t157 => (if t157 = true then (r2_Same.l0 k (wrap64 (x5 + 1)) x154000 x154001 x154002 x154003 x155000 x155001 x155002 x155003) else (some false))) else (none)) else (none)) else (some true)
def r2_Same.f : Nat → Int → Int → Int → List (S28) → Int → Int → Int → List (S28) → Option (Bool)
 | 0, _, _, _, _, _, _, _, _ => none
 | k + 1, a0_0, a0_1, a0_2, l0_3, a1_0, a1_1, a1_2, l1_3 => if a0_0 = a1_0 then (if a0_1 = a1_1 then (if a0_2 = a1_2 then (r2_Same.j0 k ((l0_3.length : Int) != (l1_3.length : Int)) a0_0 a0_1 a0_2 l0_3 a1_0 a1_1 a1_2 l1_3) else (r2_Same.j0 k true a0_0 a0_1 a0_2 l0_3 a1_0 a1_1 a1_2 l1_3)) else (r2_Same.j0 k true a0_0 a0_1 a0_2 l0_3 a1_0 a1_1 a1_2 l1_3)) else (r2_Same.j0 k true a0_0 a0_1 a0_2 l0_3 a1_0 a1_1 a1_2 l1_3)
end
def r2_Same.T6 : Bool × List (List Nat × List Nat) := (true, [([], []), ([0], [0]), ([], []), ([1, 2], [1, 2]), ([3], [3]), ([], []), ([5], [5]), ([], []), ([6, 7], [6, 7]), ([8], [8]), ([4, 9], [4, 9]), ([10], [10])])
def r2_Same.B6 : List Nat := [0, 1, 0, 7, 15, 0, 32, 0, 224, 480, 1023, 2047]
theorem r2_Same.tab6 : rtab .any (opsOf Try.f14 6) = r2_Same.T6 := by kernel_rfl
theorem r2_Same.bits6 : waitsOk r2_Same.T6.2 r2_Same.B6 = true := by kernel_rfl
set_option maxHeartbeats 8000000 in
set_option maxRecDepth 100000 in
theorem r2_Same.calls (k : Nat) : ∀ (a0_0 : Int) (a0_1 : Int) (a0_2 : Int) (A0_3 : Option Addr) (c0_3 : Nat) (l0_3 : List (S28)) (a1_0 : Int) (a1_1 : Int) (a1_2 : Int) (A1_3 : Option Addr) (c1_3 : Nat) (l1_3 : List (S28)) (r : Bool) (w : World) (hr0_3 : Kd.C k28 w A0_3 l0_3.length l0_3) (hc0_3 : l0_3.length ≤ c0_3) (hr1_3 : Kd.C k28 w A1_3 l1_3.length l1_3) (hc1_3 : l1_3.length ≤ c1_3) (h : r2_Same.f k a0_0 a0_1 a0_2 l0_3 a1_0 a1_1 a1_2 l1_3 = some r),
  Calls Try.prog 14 #[.agg #[.int .i64 a0_0, .int .i64 a0_1, .int .i64 a0_2, .slice A0_3 l0_3.length c0_3], .agg #[.int .i64 a1_0, .int .i64 a1_1, .int .i64 a1_2, .slice A1_3 l1_3.length c1_3]] w fun e w' => e = .returned (.bool r) ∧ Below w.heap.size w w' := by
 induction k using Nat.strongRecOn with
 | _ k ih =>
 intro a0_0 a0_1 a0_2 A0_3 c0_3 l0_3 a1_0 a1_1 a1_2 A1_3 c1_3 l1_3 r w hr0_3 hc0_3 hr1_3 hc1_3 h
 cases k with
 | zero => exact absurd h (by simp [r2_Same.f])
 | succ k =>
 simp only [r2_Same.f] at h
 have hu28 := Try.underlying28
 have HR0_3 := Aside0.mk hr0_3
 have HC0_3 := Aside0.mk hc0_3
 clear hr0_3 hc0_3
 have HR1_3 := Aside0.mk hr1_3
 have HC1_3 := Aside0.mk hc1_3
 clear hr1_3 hc1_3
 have HB := Aside0.mk (Below.refl w.heap.size w)
 have H : (if a0_0 = a1_0 then (if a0_1 = a1_1 then (if a0_2 = a1_2 then (r2_Same.j0 k ((l0_3.length : Int) != (l1_3.length : Int)) a0_0 a0_1 a0_2 l0_3 a1_0 a1_1 a1_2 l1_3) else (r2_Same.j0 k true a0_0 a0_1 a0_2 l0_3 a1_0 a1_1 a1_2 l1_3)) else (r2_Same.j0 k true a0_0 a0_1 a0_2 l0_3 a1_0 a1_1 a1_2 l1_3)) else (r2_Same.j0 k true a0_0 a0_1 a0_2 l0_3 a1_0 a1_1 a1_2 l1_3)) = some r := h
 clear h
 have HC3 := Aside0.mk H
 clear H
 go_enter Try.func14, Try.ntmps14
 go_upto_region 1 with (first | ((with_reducible refine gate_dst (N := 2) rfl ?_); (try (refine gate_guard (by rfl) ?_; dsimp only)); refine bx 2 rfl rfl #[.int .i64 a0_0, .int .i64 a0_1, .int .i64 a0_2, .slice A0_3 l0_3.length c0_3] 28 ?_; intro gb153 hg w4 hbox hb; have BK153 := Aside0.mk (hbox); have GW153 := ge HB hg; have GE153 := ge HB hg; replace HB := sb HB hb; clear hb hbox hg) | ((with_reducible refine gate_dst (N := 3) rfl ?_); (try (refine gate_guard (by rfl) ?_; dsimp only)); refine bx 3 rfl rfl #[.int .i64 a1_0, .int .i64 a1_1, .int .i64 a1_2, .slice A1_3 l1_3.length c1_3] 28 ?_; intro gb154 hg w5 hbox hb; have BK154 := Aside0.mk (hbox); have GW154 := ge HB hg; have GE154 := ge HB hg; have NB153_154 := nl BK153 hg; have NB154_153 := ng BK153 hg; replace BK153 := kb BK153 hb; replace HB := sb HB hb; clear hb hbox hg))
 (try simp only [Act.put, List.setIfInBounds_toArray, List.set_cons_zero, List.set_cons_succ])
 go_cut [33] (fun v33 wc => ∃ (kq : Nat) (x33_2 : Bool), v33 = .bool x33_2 ∧ Aside0 (r2_Same.j0 kq x33_2 a0_0 a0_1 a0_2 l0_3 a1_0 a1_1 a1_2 l1_3 = some r) ∧ Aside0 (kq ≤ k) ∧ Aside0 (wc.heap[gb153]? = some (.cells #[.int .i64 a0_0, .int .i64 a0_1, .int .i64 a0_2, (.slice A0_3 l0_3.length c0_3)] 28 (0, 0))) ∧ Aside0 (wc.heap[gb154]? = some (.cells #[.int .i64 a1_0, .int .i64 a1_1, .int .i64 a1_2, (.slice A1_3 l1_3.length c1_3)] 28 (0, 0))) ∧ Aside0 (Below w.heap.size w wc))
 case first =>
  have H := HC3.out
  clear HC3
  by_cases c6 : a0_0 = a1_0
  rotate_left
  ·rw [if_neg c6] at H
   have c6b0 : (a0_0 == a1_0) = false := beq_eq_false_iff_ne.mpr c6
   have c6b1 : (a0_0 != a1_0) = true := bne_iff_ne.mpr c6
   (first | rw [c6b0] | (simp only [i64_w, i32_w]; rw [c6b0]) | skip)
   have H' := Aside0.mk H
   clear H
   have hnb18 := NB153_154.out
   have hnc18 := NB154_153.out
   obtain ⟨hcz19_0, hcz19_1, hcz19_2, hcz19_3, hfz19_0, hfz19_1, hfz19_2, hfz19_3⟩ := cf4 BK153.out
   obtain ⟨hcz20_0, hcz20_1, hcz20_2, hcz20_3, hfz20_0, hfz20_1, hfz20_2, hfz20_3⟩ := cf4 BK154.out
   go_wp2
   go_meet
   case rel => exact ⟨_, (true), rs, H', ⟨by first | omega | exact Nat.le_refl _⟩, ⟨by (with_reducible repeat (first | refine kdN ?_ _ | refine kdr ?_ | refine kal ?_ _)); exact BK153.out⟩, ⟨by (with_reducible repeat (first | refine kdN ?_ _ | refine kdr ?_ | refine kal ?_ _)); exact BK154.out⟩, ⟨bb HB⟩⟩
  rw [if_pos c6] at H
  have c6b0 : (a0_0 == a1_0) = true := beq_iff_eq.mpr c6
  have c6b1 : (a0_0 != a1_0) = false := bne_eq_false_iff_eq.mpr c6
  clear c6
  (first | rw [c6b0] | (simp only [i64_w, i32_w]; rw [c6b0]) | skip)
  by_cases c7 : a0_1 = a1_1
  rotate_left
  ·rw [if_neg c7] at H
   have c7b0 : (a0_1 == a1_1) = false := beq_eq_false_iff_ne.mpr c7
   have c7b1 : (a0_1 != a1_1) = true := bne_iff_ne.mpr c7
   have H' := Aside0.mk H
   clear H
   have hnb15 := NB153_154.out
   have hnc15 := NB154_153.out
   obtain ⟨hcz16_0, hcz16_1, hcz16_2, hcz16_3, hfz16_0, hfz16_1, hfz16_2, hfz16_3⟩ := cf4 BK153.out
   obtain ⟨hcz17_0, hcz17_1, hcz17_2, hcz17_3, hfz17_0, hfz17_1, hfz17_2, hfz17_3⟩ := cf4 BK154.out
   go_wp2
   go_meet
   case rel => exact ⟨_, (true), rs, H', ⟨by first | omega | exact Nat.le_refl _⟩, ⟨by (with_reducible repeat (first | refine kdN ?_ _ | refine kdr ?_ | refine kal ?_ _)); exact BK153.out⟩, ⟨by (with_reducible repeat (first | refine kdN ?_ _ | refine kdr ?_ | refine kal ?_ _)); exact BK154.out⟩, ⟨bb HB⟩⟩
  rw [if_pos c7] at H
  have c7b0 : (a0_1 == a1_1) = true := beq_iff_eq.mpr c7
  have c7b1 : (a0_1 != a1_1) = false := bne_eq_false_iff_eq.mpr c7
  clear c7
  by_cases c8 : a0_2 = a1_2
  rotate_left
  ·rw [if_neg c8] at H
   have c8b0 : (a0_2 == a1_2) = false := beq_eq_false_iff_ne.mpr c8
   have c8b1 : (a0_2 != a1_2) = true := bne_iff_ne.mpr c8
   have H' := Aside0.mk H
   clear H
   have hnb12 := NB153_154.out
   have hnc12 := NB154_153.out
   obtain ⟨hcz13_0, hcz13_1, hcz13_2, hcz13_3, hfz13_0, hfz13_1, hfz13_2, hfz13_3⟩ := cf4 BK153.out
   obtain ⟨hcz14_0, hcz14_1, hcz14_2, hcz14_3, hfz14_0, hfz14_1, hfz14_2, hfz14_3⟩ := cf4 BK154.out
   go_wp2
   go_meet
   case rel => exact ⟨_, (true), rs, H', ⟨by first | omega | exact Nat.le_refl _⟩, ⟨by (with_reducible repeat (first | refine kdN ?_ _ | refine kdr ?_ | refine kal ?_ _)); exact BK153.out⟩, ⟨by (with_reducible repeat (first | refine kdN ?_ _ | refine kdr ?_ | refine kal ?_ _)); exact BK154.out⟩, ⟨bb HB⟩⟩
  rw [if_pos c8] at H
  have c8b0 : (a0_2 == a1_2) = true := beq_iff_eq.mpr c8
  have c8b1 : (a0_2 != a1_2) = false := bne_eq_false_iff_eq.mpr c8
  clear c8
  have H' := Aside0.mk H
  clear H
  have hnb9 := NB153_154.out
  have hnc9 := NB154_153.out
  obtain ⟨hcz10_0, hcz10_1, hcz10_2, hcz10_3, hfz10_0, hfz10_1, hfz10_2, hfz10_3⟩ := cf4 BK153.out
  obtain ⟨hcz11_0, hcz11_1, hcz11_2, hcz11_3, hfz11_0, hfz11_1, hfz11_2, hfz11_3⟩ := cf4 BK154.out
  go_wp2
  go_meet
  case rel => exact ⟨_, (((l0_3.length : Int) != (l1_3.length : Int))), rs, H', ⟨by first | omega | exact Nat.le_refl _⟩, ⟨by (with_reducible repeat (first | refine kdN ?_ _ | refine kdr ?_ | refine kal ?_ _)); exact BK153.out⟩, ⟨by (with_reducible repeat (first | refine kdN ?_ _ | refine kdr ?_ | refine kal ?_ _)); exact BK154.out⟩, ⟨bb HB⟩⟩
 case rest =>
  clear HC3
  try clear c1
  try clear p2
  try clear c6
  try clear c6b0
  try clear c6b1
  try clear c7
  try clear c7b0
  try clear c7b1
  try clear c8
  try clear c8b0
  try clear c8b1
  try clear c9
  try clear c12
  try clear c14
  try clear c15
  try clear c18
  try clear hcz10_0 hcz10_1 hcz10_2 hcz10_3
  try clear hcz11_0 hcz11_1 hcz11_2 hcz11_3
  try clear hcz13_0 hcz13_1 hcz13_2 hcz13_3
  try clear hcz14_0 hcz14_1 hcz14_2 hcz14_3
  try clear hcz16_0 hcz16_1 hcz16_2 hcz16_3
  try clear hcz17_0 hcz17_1 hcz17_2 hcz17_3
  try clear hcz19_0 hcz19_1 hcz19_2 hcz19_3
  try clear hcz20_0 hcz20_1 hcz20_2 hcz20_3
  try clear hfz10_0 hfz10_1 hfz10_2 hfz10_3
  try clear hfz11_0 hfz11_1 hfz11_2 hfz11_3
  try clear hfz13_0 hfz13_1 hfz13_2 hfz13_3
  try clear hfz14_0 hfz14_1 hfz14_2 hfz14_3
  try clear hfz16_0 hfz16_1 hfz16_2 hfz16_3
  try clear hfz17_0 hfz17_1 hfz17_2 hfz17_3
  try clear hfz19_0 hfz19_1 hfz19_2 hfz19_3
  try clear hfz20_0 hfz20_1 hfz20_2 hfz20_3
  obtain ⟨kq, x33_2, rfl, HA, HJ2, BK153, BK154, HB⟩ := hcut
  cases kq with
  | zero => exact absurd HA.out (by simp [r2_Same.j0])
  | succ kj2 =>
   have H := HA.out
   clear HA
   simp only [r2_Same.j0] at H
   by_cases c21 : x33_2 = true
   ·subst c21
    have H1 : (some false) = some r := by rw [if_pos rfl] at H; exact H
    clear H
    have H := H1
    clear H1
    obtain rfl := Option.some.inj H
    go_wp2
    go_ret
    exact ⟨rr, bb HB⟩
   replace c21 := Bool.eq_false_iff.mpr c21
   subst c21
   have H1 : (r2_Same.l0 kj2 0 a0_0 a0_1 a0_2 l0_3 a1_0 a1_1 a1_2 l1_3) = some r := by rw [if_neg (show ¬ (false = true) by decide)] at H; exact H
   clear H
   have H := H1
   clear H1
   have H' := Aside0.mk H
   clear H
   go_wp2
   go_loopg [5] kj2 (fun kq v5 w' => ∃ (x5_2 : Int), v5 = .int .i64 x5_2 ∧ Aside0 (r2_Same.l0 kq x5_2 a0_0 a0_1 a0_2 l0_3 a1_0 a1_1 a1_2 l1_3 = some r) ∧ Aside0 (kq ≤ kj2) ∧ Aside0 (w'.heap[gb153]? = some (.cells #[.int .i64 a0_0, .int .i64 a0_1, .int .i64 a0_2, (.slice A0_3 l0_3.length c0_3)] 28 (0, 0))) ∧ Aside0 (w'.heap[gb154]? = some (.cells #[.int .i64 a1_0, .int .i64 a1_1, .int .i64 a1_2, (.slice A1_3 l1_3.length c1_3)] 28 (0, 0))) ∧ Aside0 (Below w.heap.size w w'))
   case atStart => exact ⟨(0), rs, H', ⟨Nat.le_refl _⟩, ⟨by (with_reducible repeat (first | refine kdN ?_ _ | refine kdr ?_ | refine kal ?_ _)); exact BK153.out⟩, ⟨by (with_reducible repeat (first | refine kdN ?_ _ | refine kdr ?_ | refine kal ?_ _)); exact BK154.out⟩, ⟨bb HB⟩⟩
   case round =>
    clear H'
    try clear c1
    try clear c2
    try clear p2
    try clear c6
    try clear c6b0
    try clear c6b1
    try clear c7
    try clear c7b0
    try clear c7b1
    try clear c8
    try clear c8b0
    try clear c8b1
    try clear c9
    try clear c12
    try clear c14
    try clear c15
    try clear c18
    try clear c21
    try clear hcz10_0 hcz10_1 hcz10_2 hcz10_3
    try clear hcz11_0 hcz11_1 hcz11_2 hcz11_3
    try clear hcz13_0 hcz13_1 hcz13_2 hcz13_3
    try clear hcz14_0 hcz14_1 hcz14_2 hcz14_3
    try clear hcz16_0 hcz16_1 hcz16_2 hcz16_3
    try clear hcz17_0 hcz17_1 hcz17_2 hcz17_3
    try clear hcz19_0 hcz19_1 hcz19_2 hcz19_3
    try clear hcz20_0 hcz20_1 hcz20_2 hcz20_3
    try clear hfz10_0 hfz10_1 hfz10_2 hfz10_3
    try clear hfz11_0 hfz11_1 hfz11_2 hfz11_3
    try clear hfz13_0 hfz13_1 hfz13_2 hfz13_3
    try clear hfz14_0 hfz14_1 hfz14_2 hfz14_3
    try clear hfz16_0 hfz16_1 hfz16_2 hfz16_3
    try clear hfz17_0 hfz17_1 hfz17_2 hfz17_3
    try clear hfz19_0 hfz19_1 hfz19_2 hfz19_3
    try clear hfz20_0 hfz20_1 hfz20_2 hfz20_3
    try clear p2
    obtain ⟨x5_2, rfl, HA, HK2, BK153, BK154, HB⟩ := hrel
    cases gk with
    | zero => exact absurd HA.out (by simp [r2_Same.l0])
    | succ k2 =>
     have H := HA.out
     clear HA
     simp only [r2_Same.l0] at H
     by_cases c22 : x5_2 < (l0_3.length : Int)
     rotate_left
     ·rw [if_neg c22] at H
      have c22b0 : decide (x5_2 < (l0_3.length : Int)) = false := decide_eq_false c22
      clear c22
      obtain rfl := Option.some.inj H
      have hnb35 := NB153_154.out
      have hnc35 := NB154_153.out
      obtain ⟨hcz36_0, hcz36_1, hcz36_2, hcz36_3, hfz36_0, hfz36_1, hfz36_2, hfz36_3⟩ := cf4 BK153.out
      go_wp2
      go_ret
      exact ⟨rr, bb HB⟩
     rw [if_pos c22] at H
     have c22b0 : decide (x5_2 < (l0_3.length : Int)) = true := decide_eq_true c22
     clear c22
     by_cases c23 : 0 ≤ x5_2
     rotate_left
     ·rw [if_neg c23] at H
      exact absurd H (by simp)
     rw [if_pos c23] at H
     have c23b0 : decide (0 ≤ x5_2) = true := decide_eq_true c23
     clear c23
     by_cases c24 : x5_2 < (l1_3.length : Int)
     rotate_left
     ·rw [if_neg c24] at H
      exact absurd H (by simp)
     rw [if_pos c24] at H
     have c24b0 : decide (x5_2 < (l1_3.length : Int)) = true := decide_eq_true c24
     clear c24
     obtain ⟨t157, A25, H⟩ := be H
     replace H : (if t157 = true then (r2_Same.l0 k2 (wrap64 (x5_2 + 1)) a0_0 a0_1 a0_2 l0_3 a1_0 a1_1 a1_2 l1_3) else (some false)) = some r := H
     by_cases c26 : t157 = true
     rotate_left
     ·replace c26 := Bool.eq_false_iff.mpr c26
      subst c26
      have H1 : (some false) = some r := by rw [if_neg (show ¬ (false = true) by decide)] at H; exact H
      clear H
      have H := H1
      clear H1
      obtain rfl := Option.some.inj H
      have hnb31 := NB153_154.out
      have hnc31 := NB154_153.out
      obtain ⟨hcz32_0, hcz32_1, hcz32_2, hcz32_3, hfz32_0, hfz32_1, hfz32_2, hfz32_3⟩ := cf4 BK153.out
      try go_wp2
      replace BK153 := Aside0.mk (kdr BK153.out)
      replace BK154 := Aside0.mk (kdr BK154.out)
      replace HB := Aside0.mk (bd1 HB.out)
      have p155 : 0 ≤ (x5_2 : Int) := od
      have q155 : x5_2 < (l0_3.length : Int) := od
      obtain ⟨ad155, A155_3, c155_3, e155, hx155_0, hx155_1, hx155_2, hx155_3, hl155_3, hi155_3⟩ := at_T28 HR0_3.out x5_2 p155 q155
      have hw155_3 := hx155_3
      have hw155_2 := hx155_2
      have hw155_1 := hx155_1
      have hw155_0 := hx155_0
      cases e155
      replace hx155_0 := bcell HB.out hx155_0
      replace hx155_1 := bcell HB.out hx155_1
      replace hx155_2 := bcell HB.out hx155_2
      replace hx155_3 := bcell HB.out hx155_3
      have HR155_3 := Aside0.mk hi155_3
      have HC155_3 := Aside0.mk hl155_3
      clear hi155_3 hl155_3
      replace p155 := eq_true p155
      replace q155 := eq_true q155
      have p156 : 0 ≤ (x5_2 : Int) := od
      have q156 : x5_2 < (l1_3.length : Int) := od
      obtain ⟨ad156, A156_3, c156_3, e156, hx156_0, hx156_1, hx156_2, hx156_3, hl156_3, hi156_3⟩ := at_T28 HR1_3.out x5_2 p156 q156
      have hw156_3 := hx156_3
      have hw156_2 := hx156_2
      have hw156_1 := hx156_1
      have hw156_0 := hx156_0
      cases e156
      replace hx156_0 := bcell HB.out hx156_0
      replace hx156_1 := bcell HB.out hx156_1
      replace hx156_2 := bcell HB.out hx156_2
      replace hx156_3 := bcell HB.out hx156_3
      have HR156_3 := Aside0.mk hi156_3
      have HC156_3 := Aside0.mk hl156_3
      clear hi156_3 hl156_3
      replace p156 := eq_true p156
      replace q156 := eq_true q156
      refine start_ (n := 12) (S := fun w' => w'.cell? ⟨gb153, 0, none⟩ = some (.int .i64 a0_0) ∧ w'.cell? ⟨gb153, 1, none⟩ = some (.int .i64 a0_1) ∧ w'.cell? ⟨gb153, 2, none⟩ = some (.int .i64 a0_2) ∧ w'.cell? ⟨gb153, 3, none⟩ = some (.slice (some ad155) l0_3.length c0_3) ∧ w'.cell? ⟨gb154, 0, none⟩ = some (.int .i64 a1_0) ∧ w'.cell? ⟨gb154, 1, none⟩ = some (.int .i64 a1_1) ∧ w'.cell? ⟨gb154, 2, none⟩ = some (.int .i64 a1_2) ∧ w'.cell? ⟨gb154, 3, none⟩ = some (.slice (some ad156) l1_3.length c1_3) ∧ w'.cell? (ad155.add ((x5_2).toNat * 4)) = some (.int .i64 ((rd_T28 l0_3 x5_2).f0)) ∧ w'.cell? ⟨(ad155.add ((x5_2).toNat * 4)).block, (ad155.add ((x5_2).toNat * 4)).off + 1, none⟩ = some (.int .i64 ((rd_T28 l0_3 x5_2).f1)) ∧ w'.cell? ⟨(ad155.add ((x5_2).toNat * 4)).block, (ad155.add ((x5_2).toNat * 4)).off + 2, none⟩ = some (.int .i64 ((rd_T28 l0_3 x5_2).f2)) ∧ w'.cell? ⟨(ad155.add ((x5_2).toNat * 4)).block, (ad155.add ((x5_2).toNat * 4)).off + 3, none⟩ = some (.slice A155_3 ((rd_T28 l0_3 x5_2).f3).length c155_3) ∧ w'.cell? (ad156.add ((x5_2).toNat * 4)) = some (.int .i64 ((rd_T28 l1_3 x5_2).f0)) ∧ w'.cell? ⟨(ad156.add ((x5_2).toNat * 4)).block, (ad156.add ((x5_2).toNat * 4)).off + 1, none⟩ = some (.int .i64 ((rd_T28 l1_3 x5_2).f1)) ∧ w'.cell? ⟨(ad156.add ((x5_2).toNat * 4)).block, (ad156.add ((x5_2).toNat * 4)).off + 2, none⟩ = some (.int .i64 ((rd_T28 l1_3 x5_2).f2)) ∧ w'.cell? ⟨(ad156.add ((x5_2).toNat * 4)).block, (ad156.add ((x5_2).toNat * 4)).off + 3, none⟩ = some (.slice A156_3 ((rd_T28 l1_3 x5_2).f3).length c156_3)) (ds := []) #[false, false, false, false, false, false, false, false, false, false, false, false] (by kernel_rfl) rfl rfl ⟨(blk_cell BK153.out 0).trans rfl, (blk_cell BK153.out 1).trans rfl, (blk_cell BK153.out 2).trans rfl, (blk_cell BK153.out 3).trans rfl, (blk_cell BK154.out 0).trans rfl, (blk_cell BK154.out 1).trans rfl, (blk_cell BK154.out 2).trans rfl, (blk_cell BK154.out 3).trans rfl, (bcell HB.out hw155_0), (bcell HB.out hw155_1), (bcell HB.out hw155_2), (bcell HB.out hw155_3), (bcell HB.out hw156_0), (bcell HB.out hw156_1), (bcell HB.out hw156_2), (bcell HB.out hw156_3)⟩ (fun hHeld => ?_); refine with_tabW r2_Same.tab6 r2_Same.bits6 (fun HT_ HW_ => ?_)
      generalize wr.drew = w33 at BK153 BK154 HB HR155_3 HR156_3 hx155_0 hx155_1 hx155_2 hx155_3 hx156_0 hx156_1 hx156_2 hx156_3 hHeld ⊢
      refine pu (i := 0) (N := some 41) #[true, false, false, false, false, false, false, false, false, false, false, false] rfl rfl (any_of HT_.out (by kernel_rfl)) ?_
      refine pu (i := 2) (N := some 43) #[true, false, true, false, false, false, false, false, false, false, false, false] rfl rfl (any_of HT_.out (by kernel_rfl)) ?_
      refine pu (i := 5) (N := some 46) #[true, false, true, false, false, true, false, false, false, false, false, false] rfl rfl (any_of HT_.out (by kernel_rfl)) ?_
      refine pu (i := 7) (N := some 48) #[true, false, true, false, false, true, false, true, false, false, false, false] rfl rfl (any_of HT_.out (by kernel_rfl)) ?_
      refine tk (i := 1) (N := some 42) #[true, true, true, false, false, true, false, true, false, false, false, false] rfl rfl (take_ofW HT_.out HW_.out (by kernel_rfl)) hHeld ?_
      refine pu (i := 3) (N := some 44) #[true, true, true, true, false, true, false, true, false, false, false, false] rfl rfl (any_of HT_.out (by kernel_rfl)) ?_
      refine tk (i := 4) (N := some 45) #[true, true, true, true, true, true, false, true, false, false, false, false] rfl rfl (take_ofW HT_.out HW_.out (by kernel_rfl)) hHeld ?_
      refine tk (i := 6) (N := some 47) #[true, true, true, true, true, true, true, true, false, false, false, false] rfl rfl (take_ofW HT_.out HW_.out (by kernel_rfl)) hHeld ?_
      refine pu (i := 8) (N := some 49) #[true, true, true, true, true, true, true, true, true, false, false, false] rfl rfl (any_of HT_.out (by kernel_rfl)) ?_
      refine tk (i := 9) (N := some 50) #[true, true, true, true, true, true, true, true, true, true, false, false] rfl rfl (take_ofW HT_.out HW_.out (by kernel_rfl)) hHeld ?_
      refine one_ (i := 10) (N := some 51) #[true, true, true, true, true, true, true, true, true, true, true, false] rfl rfl (one_of HT_.out (by kernel_rfl)) (by decide) (fun K hK => ?_)
      refine gO Try.func14 #[.agg #[.int .i64 ((rd_T28 l0_3 x5_2).f0), .int .i64 ((rd_T28 l0_3 x5_2).f1), .int .i64 ((rd_T28 l0_3 x5_2).f2), .slice A155_3 ((rd_T28 l0_3 x5_2).f3).length c155_3], .agg #[.int .i64 ((rd_T28 l1_3 x5_2).f0), .int .i64 ((rd_T28 l1_3 x5_2).f1), .int .i64 ((rd_T28 l1_3 x5_2).f2), .slice A156_3 ((rd_T28 l1_3 x5_2).f3).length c156_3]] (by rfl) rfl rfl ?_
      with_reducible refine (ih k2 (by have := HJ2.out; have := HK2.out; omega) ((rd_T28 l0_3 x5_2).f0) ((rd_T28 l0_3 x5_2).f1) ((rd_T28 l0_3 x5_2).f2) _ _ ((rd_T28 l0_3 x5_2).f3) ((rd_T28 l1_3 x5_2).f0) ((rd_T28 l1_3 x5_2).f1) ((rd_T28 l1_3 x5_2).f2) _ _ ((rd_T28 l1_3 x5_2).f3) false _ ?side1 ?side2 ?side3 ?side4 A25.out).mono ?_
      (case side1 => exact cb HR155_3 HB)
      (case side2 => exact HC155_3.out)
      (case side3 => exact cb HR156_3 HB)
      (case side4 => exact HC156_3.out)
      rintro e w34 ⟨rfl, hb⟩
      refine ⟨_, rfl, ?_⟩
      replace BK153 := kb BK153 hb
      replace BK154 := kb BK154 hb
      replace HB := sb HB hb
      (try clear hb)
      (try clear hb2)
      (try clear hk)
      (try clear hi)
      refine hK.out _ _ ⟨(blk_cell BK153.out 0).trans rfl, (blk_cell BK153.out 1).trans rfl, (blk_cell BK153.out 2).trans rfl, (blk_cell BK153.out 3).trans rfl, (blk_cell BK154.out 0).trans rfl, (blk_cell BK154.out 1).trans rfl, (blk_cell BK154.out 2).trans rfl, (blk_cell BK154.out 3).trans rfl, (bcell HB.out hw155_0), (bcell HB.out hw155_1), (bcell HB.out hw155_2), (bcell HB.out hw155_3), (bcell HB.out hw156_0), (bcell HB.out hw156_1), (bcell HB.out hw156_2), (bcell HB.out hw156_3)⟩ (fun hHeld => ?_)
      clear hK K
      refine nm 51 ?_
      refine pu (i := 11) (N := some 52) #[true, true, true, true, true, true, true, true, true, true, true, true] rfl rfl (any_of HT_.out (by kernel_rfl)) ?_
      refine done_ (done_of HT_.out (by kernel_rfl)) ?_
      try go_wp2
      go_ret
      exact ⟨rr, bb HB⟩
     subst c26
     have H1 : (r2_Same.l0 k2 (wrap64 (x5_2 + 1)) a0_0 a0_1 a0_2 l0_3 a1_0 a1_1 a1_2 l1_3) = some r := by rw [if_pos rfl] at H; exact H
     clear H
     have H := H1
     clear H1
     have H' := Aside0.mk H
     clear H
     have hnb27 := NB153_154.out
     have hnc27 := NB154_153.out
     obtain ⟨hcz28_0, hcz28_1, hcz28_2, hcz28_3, hfz28_0, hfz28_1, hfz28_2, hfz28_3⟩ := cf4 BK153.out
     try go_wp2
     replace BK153 := Aside0.mk (kdr BK153.out)
     replace BK154 := Aside0.mk (kdr BK154.out)
     replace HB := Aside0.mk (bd1 HB.out)
     have p155 : 0 ≤ (x5_2 : Int) := od
     have q155 : x5_2 < (l0_3.length : Int) := od
     obtain ⟨ad155, A155_3, c155_3, e155, hx155_0, hx155_1, hx155_2, hx155_3, hl155_3, hi155_3⟩ := at_T28 HR0_3.out x5_2 p155 q155
     have hw155_3 := hx155_3
     have hw155_2 := hx155_2
     have hw155_1 := hx155_1
     have hw155_0 := hx155_0
     cases e155
     replace hx155_0 := bcell HB.out hx155_0
     replace hx155_1 := bcell HB.out hx155_1
     replace hx155_2 := bcell HB.out hx155_2
     replace hx155_3 := bcell HB.out hx155_3
     have HR155_3 := Aside0.mk hi155_3
     have HC155_3 := Aside0.mk hl155_3
     clear hi155_3 hl155_3
     replace p155 := eq_true p155
     replace q155 := eq_true q155
     have p156 : 0 ≤ (x5_2 : Int) := od
     have q156 : x5_2 < (l1_3.length : Int) := od
     obtain ⟨ad156, A156_3, c156_3, e156, hx156_0, hx156_1, hx156_2, hx156_3, hl156_3, hi156_3⟩ := at_T28 HR1_3.out x5_2 p156 q156
     have hw156_3 := hx156_3
     have hw156_2 := hx156_2
     have hw156_1 := hx156_1
     have hw156_0 := hx156_0
     cases e156
     replace hx156_0 := bcell HB.out hx156_0
     replace hx156_1 := bcell HB.out hx156_1
     replace hx156_2 := bcell HB.out hx156_2
     replace hx156_3 := bcell HB.out hx156_3
     have HR156_3 := Aside0.mk hi156_3
     have HC156_3 := Aside0.mk hl156_3
     clear hi156_3 hl156_3
     replace p156 := eq_true p156
     replace q156 := eq_true q156
     refine start_ (n := 12) (S := fun w' => w'.cell? ⟨gb153, 0, none⟩ = some (.int .i64 a0_0) ∧ w'.cell? ⟨gb153, 1, none⟩ = some (.int .i64 a0_1) ∧ w'.cell? ⟨gb153, 2, none⟩ = some (.int .i64 a0_2) ∧ w'.cell? ⟨gb153, 3, none⟩ = some (.slice (some ad155) l0_3.length c0_3) ∧ w'.cell? ⟨gb154, 0, none⟩ = some (.int .i64 a1_0) ∧ w'.cell? ⟨gb154, 1, none⟩ = some (.int .i64 a1_1) ∧ w'.cell? ⟨gb154, 2, none⟩ = some (.int .i64 a1_2) ∧ w'.cell? ⟨gb154, 3, none⟩ = some (.slice (some ad156) l1_3.length c1_3) ∧ w'.cell? (ad155.add ((x5_2).toNat * 4)) = some (.int .i64 ((rd_T28 l0_3 x5_2).f0)) ∧ w'.cell? ⟨(ad155.add ((x5_2).toNat * 4)).block, (ad155.add ((x5_2).toNat * 4)).off + 1, none⟩ = some (.int .i64 ((rd_T28 l0_3 x5_2).f1)) ∧ w'.cell? ⟨(ad155.add ((x5_2).toNat * 4)).block, (ad155.add ((x5_2).toNat * 4)).off + 2, none⟩ = some (.int .i64 ((rd_T28 l0_3 x5_2).f2)) ∧ w'.cell? ⟨(ad155.add ((x5_2).toNat * 4)).block, (ad155.add ((x5_2).toNat * 4)).off + 3, none⟩ = some (.slice A155_3 ((rd_T28 l0_3 x5_2).f3).length c155_3) ∧ w'.cell? (ad156.add ((x5_2).toNat * 4)) = some (.int .i64 ((rd_T28 l1_3 x5_2).f0)) ∧ w'.cell? ⟨(ad156.add ((x5_2).toNat * 4)).block, (ad156.add ((x5_2).toNat * 4)).off + 1, none⟩ = some (.int .i64 ((rd_T28 l1_3 x5_2).f1)) ∧ w'.cell? ⟨(ad156.add ((x5_2).toNat * 4)).block, (ad156.add ((x5_2).toNat * 4)).off + 2, none⟩ = some (.int .i64 ((rd_T28 l1_3 x5_2).f2)) ∧ w'.cell? ⟨(ad156.add ((x5_2).toNat * 4)).block, (ad156.add ((x5_2).toNat * 4)).off + 3, none⟩ = some (.slice A156_3 ((rd_T28 l1_3 x5_2).f3).length c156_3)) (ds := []) #[false, false, false, false, false, false, false, false, false, false, false, false] (by kernel_rfl) rfl rfl ⟨(blk_cell BK153.out 0).trans rfl, (blk_cell BK153.out 1).trans rfl, (blk_cell BK153.out 2).trans rfl, (blk_cell BK153.out 3).trans rfl, (blk_cell BK154.out 0).trans rfl, (blk_cell BK154.out 1).trans rfl, (blk_cell BK154.out 2).trans rfl, (blk_cell BK154.out 3).trans rfl, (bcell HB.out hw155_0), (bcell HB.out hw155_1), (bcell HB.out hw155_2), (bcell HB.out hw155_3), (bcell HB.out hw156_0), (bcell HB.out hw156_1), (bcell HB.out hw156_2), (bcell HB.out hw156_3)⟩ (fun hHeld => ?_); refine with_tabW r2_Same.tab6 r2_Same.bits6 (fun HT_ HW_ => ?_)
     generalize wr.drew = w29 at BK153 BK154 HB HR155_3 HR156_3 hx155_0 hx155_1 hx155_2 hx155_3 hx156_0 hx156_1 hx156_2 hx156_3 hHeld ⊢
     refine pu (i := 0) (N := some 41) #[true, false, false, false, false, false, false, false, false, false, false, false] rfl rfl (any_of HT_.out (by kernel_rfl)) ?_
     refine pu (i := 2) (N := some 43) #[true, false, true, false, false, false, false, false, false, false, false, false] rfl rfl (any_of HT_.out (by kernel_rfl)) ?_
     refine pu (i := 5) (N := some 46) #[true, false, true, false, false, true, false, false, false, false, false, false] rfl rfl (any_of HT_.out (by kernel_rfl)) ?_
     refine pu (i := 7) (N := some 48) #[true, false, true, false, false, true, false, true, false, false, false, false] rfl rfl (any_of HT_.out (by kernel_rfl)) ?_
     refine tk (i := 1) (N := some 42) #[true, true, true, false, false, true, false, true, false, false, false, false] rfl rfl (take_ofW HT_.out HW_.out (by kernel_rfl)) hHeld ?_
     refine pu (i := 3) (N := some 44) #[true, true, true, true, false, true, false, true, false, false, false, false] rfl rfl (any_of HT_.out (by kernel_rfl)) ?_
     refine tk (i := 4) (N := some 45) #[true, true, true, true, true, true, false, true, false, false, false, false] rfl rfl (take_ofW HT_.out HW_.out (by kernel_rfl)) hHeld ?_
     refine tk (i := 6) (N := some 47) #[true, true, true, true, true, true, true, true, false, false, false, false] rfl rfl (take_ofW HT_.out HW_.out (by kernel_rfl)) hHeld ?_
     refine pu (i := 8) (N := some 49) #[true, true, true, true, true, true, true, true, true, false, false, false] rfl rfl (any_of HT_.out (by kernel_rfl)) ?_
     refine tk (i := 9) (N := some 50) #[true, true, true, true, true, true, true, true, true, true, false, false] rfl rfl (take_ofW HT_.out HW_.out (by kernel_rfl)) hHeld ?_
     refine one_ (i := 10) (N := some 51) #[true, true, true, true, true, true, true, true, true, true, true, false] rfl rfl (one_of HT_.out (by kernel_rfl)) (by decide) (fun K hK => ?_)
     refine gO Try.func14 #[.agg #[.int .i64 ((rd_T28 l0_3 x5_2).f0), .int .i64 ((rd_T28 l0_3 x5_2).f1), .int .i64 ((rd_T28 l0_3 x5_2).f2), .slice A155_3 ((rd_T28 l0_3 x5_2).f3).length c155_3], .agg #[.int .i64 ((rd_T28 l1_3 x5_2).f0), .int .i64 ((rd_T28 l1_3 x5_2).f1), .int .i64 ((rd_T28 l1_3 x5_2).f2), .slice A156_3 ((rd_T28 l1_3 x5_2).f3).length c156_3]] (by rfl) rfl rfl ?_
     with_reducible refine (ih k2 (by have := HJ2.out; have := HK2.out; omega) ((rd_T28 l0_3 x5_2).f0) ((rd_T28 l0_3 x5_2).f1) ((rd_T28 l0_3 x5_2).f2) _ _ ((rd_T28 l0_3 x5_2).f3) ((rd_T28 l1_3 x5_2).f0) ((rd_T28 l1_3 x5_2).f1) ((rd_T28 l1_3 x5_2).f2) _ _ ((rd_T28 l1_3 x5_2).f3) true _ ?side1 ?side2 ?side3 ?side4 A25.out).mono ?_
     (case side1 => exact cb HR155_3 HB)
     (case side2 => exact HC155_3.out)
     (case side3 => exact cb HR156_3 HB)
     (case side4 => exact HC156_3.out)
     rintro e w30 ⟨rfl, hb⟩
     refine ⟨_, rfl, ?_⟩
     replace BK153 := kb BK153 hb
     replace BK154 := kb BK154 hb
     replace HB := sb HB hb
     (try clear hb)
     (try clear hb2)
     (try clear hk)
     (try clear hi)
     refine hK.out _ _ ⟨(blk_cell BK153.out 0).trans rfl, (blk_cell BK153.out 1).trans rfl, (blk_cell BK153.out 2).trans rfl, (blk_cell BK153.out 3).trans rfl, (blk_cell BK154.out 0).trans rfl, (blk_cell BK154.out 1).trans rfl, (blk_cell BK154.out 2).trans rfl, (blk_cell BK154.out 3).trans rfl, (bcell HB.out hw155_0), (bcell HB.out hw155_1), (bcell HB.out hw155_2), (bcell HB.out hw155_3), (bcell HB.out hw156_0), (bcell HB.out hw156_1), (bcell HB.out hw156_2), (bcell HB.out hw156_3)⟩ (fun hHeld => ?_)
     clear hK K
     refine nm 51 ?_
     refine pu (i := 11) (N := some 52) #[true, true, true, true, true, true, true, true, true, true, true, true] rfl rfl (any_of HT_.out (by kernel_rfl)) ?_
     refine done_ (done_of HT_.out (by kernel_rfl)) ?_
     try go_wp2
     go_roundg k2
     case measure => have := HJ2.out; have := HK2.out; omega
     case rel => exact ⟨(wrap64 (x5_2 + 1)), rs, H', ⟨by have := HJ2.out; have := HK2.out; omega⟩, ⟨by (with_reducible repeat (first | refine kdN ?_ _ | refine kdr ?_ | refine kal ?_ _)); exact BK153.out⟩, ⟨by (with_reducible repeat (first | refine kdN ?_ _ | refine kdr ?_ | refine kal ?_ _)); exact BK154.out⟩, ⟨bb HB⟩⟩
theorem sgE_vals (w : Int) (vars : List S66) (body : List S64) : (pIs w vars body = true ∧ sgE w vars body = 0) ∨ (pIs w vars body = true ∧ sgE w vars body = 1) ∨ (pIs w vars body = false ∧ sgE w vars body = 30) := by
  unfold sgE
  cases pIs w vars body
  · exact .inr (.inr ⟨rfl, rfl⟩)
  · cases sgB vars body
    · exact .inr (.inl ⟨rfl, rfl⟩)
    · exact .inl ⟨rfl, rfl⟩
def r2_First.l0 : Nat → List (S66) → Int → Int → Int → Option (Int)
 | 0, _, _, _, _ => none
 | k + 1, x0, x1, x5, x6 => if x6 < x1 then (if 0 ≤ x6 then (if x6 < (x0.length : Int) then (r2_First.l0 k x0 x1 (wrap64 (x5 + ((rd_T66 x0 x6).f2))) (wrap64 (x6 + 1))) else (none)) else (none)) else (some x5)
def r2_First.f (k : Nat) (l0 : List (S66)) (a1 : Int) : Option (Int) := r2_First.l0 k l0 a1 0 0
set_option maxHeartbeats 8000000 in
set_option maxRecDepth 100000 in
theorem r2_First.calls (k : Nat) (A0 : Option Addr) (c0 : Nat) (l0 : List (S66)) (a1 : Int) (r : Int) (w : World) (hr0 : Kd.C k66 w A0 l0.length l0) (hc0 : l0.length ≤ c0) (h : r2_First.f k l0 a1 = some r) :
  Calls Try.prog 58 #[.slice A0 l0.length c0, .int .i64 a1] w fun e w' => e = .returned (.int .i64 r) ∧ Drawn0 w w' := by
 have HR0 := Aside0.mk hr0
 have HC0 := Aside0.mk hc0
 clear hr0 hc0
 have H : (r2_First.l0 k l0 a1 0 0) = some r := h
 clear h
 have H' := Aside0.mk H
 clear H
 go_enter Try.func58, Try.ntmps58
 go_wp2
 go_loopg [5, 6] k (fun kq v5 v6 w' => ∃ (x5_1 : Int) (x6_1 : Int), v5 = .int .i64 x5_1 ∧ v6 = .int .i64 x6_1 ∧ Aside0 (r2_First.l0 kq l0 a1 x5_1 x6_1 = some r) ∧ Aside0 (kq ≤ k) ∧ Drawn0 w w')
 case atStart => exact ⟨(0), (0), rs, rs, H', ⟨Nat.le_refl _⟩, dr⟩
 case round =>
  clear H'
  try clear p2
  obtain ⟨x5_1, x6_1, rfl, rfl, HA, HK1, ⟨m1, rfl⟩⟩ := hrel
  cases gk with
  | zero => exact absurd HA.out (by simp [r2_First.l0])
  | succ k1 =>
   have H := HA.out
   clear HA
   simp only [r2_First.l0] at H
   by_cases c3 : x6_1 < a1
   rotate_left
   ·rw [if_neg c3] at H
    have c3b0 : decide (x6_1 < a1) = false := decide_eq_false c3
    clear c3
    obtain rfl := Option.some.inj H
    go_wp2
    go_ret
    exact ⟨rs, dr⟩
   rw [if_pos c3] at H
   have c3b0 : decide (x6_1 < a1) = true := decide_eq_true c3
   clear c3
   by_cases c4 : 0 ≤ x6_1
   rotate_left
   ·rw [if_neg c4] at H
    exact absurd H (by simp)
   rw [if_pos c4] at H
   have c4b0 : decide (0 ≤ x6_1) = true := decide_eq_true c4
   clear c4
   by_cases c5 : x6_1 < (l0.length : Int)
   rotate_left
   ·rw [if_neg c5] at H
    exact absurd H (by simp)
   rw [if_pos c5] at H
   have c5b0 : decide (x6_1 < (l0.length : Int)) = true := decide_eq_true c5
   clear c5
   have H' := Aside0.mk H
   clear H
   have p400 : 0 ≤ (x6_1 : Int) := od
   have q400 : x6_1 < (l0.length : Int) := od
   obtain ⟨ad400, e400, hx400_0, hx400_1, hx400_2⟩ := at_T66 HR0.out x6_1 p400 q400
   cases e400
   replace p400 := eq_true p400
   replace q400 := eq_true q400
   go_wp2
   go_roundg k1
   case measure => have := HK1.out; omega
   case rel => exact ⟨(wrap64 (x5_1 + ((rd_T66 l0 x6_1).f2))), (wrap64 (x6_1 + 1)), rs, rs, H', ⟨by have := HK1.out; omega⟩, dr⟩
def cs (l : List S66) : Int := (l.map (·.f2)).sum
theorem cs_nil : cs [] = 0 := rfl
theorem cs_cons (v : S66) (r : List S66) : cs (v :: r) = v.f2 + cs r := by unfold cs; rw [List.map_cons, List.sum_cons]
theorem cs_bound : ∀ (l : List S66), (∀ v ∈ l, 1 ≤ v.f2 ∧ v.f2 ≤ 8) → 0 ≤ cs l ∧ cs l ≤ 8 * l.length
  | [], _ => by rw [cs_nil]; simp
  | v :: r, h => by
    have h1 := h v (by simp)
    have h2 := cs_bound r (fun u hu => h u (by simp [hu]))
    rw [cs_cons, List.length_cons]
    omega
theorem first_loop (tail : List S66) : ∀ (mid pre : List S66) (acc : Int), (∀ v ∈ mid, 1 ≤ v.f2 ∧ v.f2 ≤ 8) → (pre ++ (mid ++ tail)).length ≤ 1000 → 0 ≤ acc → acc + 8 * mid.length ≤ 1000000 →
    Tells (fun k => r2_First.l0 k (pre ++ (mid ++ tail)) ((pre.length + mid.length : Nat) : Int) acc (pre.length : Int)) (acc + cs mid)
  | [], pre, acc, _, _, _, _ => by
    refine Tells.succ ?_
    have : ¬ (pre.length : Int) < ((pre.length + ([] : List S66).length : Nat) : Int) := by rw [List.length_nil]; omega
    simp only [r2_First.l0, this, if_false]
    rw [cs_nil, Int.add_zero]
    exact Tells.pure _
  | v :: r, pre, acc, hv, hl, h0, h1 => by
    refine Tells.succ ?_
    have hv1 := hv v (by simp)
    rw [List.length_cons] at h1
    have hlt : (pre.length : Int) < ((pre.length + (v :: r).length : Nat) : Int) := by rw [List.length_cons]; omega
    have hl' : (pre ++ v :: (r ++ tail)).length ≤ 1000 := hl
    simp only [r2_First.l0, hlt, List.cons_append, pre_lt, pre_pos, if_true, rdV_mid]
    have t := first_loop tail r (pre ++ [v]) (acc + v.f2) (fun u hu => hv u (by simp [hu])) (by rw [← pre_app]; exact hl') (by omega) (by omega)
    rw [← pre_app] at t
    have e : (pre ++ [v]).length + r.length = pre.length + (v :: r).length := by rw [List.length_append, List.length_singleton, List.length_cons]; omega
    rw [e] at t
    rw [w64 (n := acc + v.f2) (by omega) (by omega), pre_next pre v (r ++ tail) (by omega), cs_cons, ← Int.add_assoc]
    exact t
theorem first_tells (vars : List S66) (n : Int) (h0 : 0 ≤ n) (hn : n ≤ (vars.length : Int)) (hv : ∀ v ∈ vars, 1 ≤ v.f2 ∧ v.f2 ≤ 8) (hl : vars.length ≤ 18) : Tells (fun k => r2_First.f k vars n) (cs (vars.take n.toNat)) := by
  unfold r2_First.f
  have := first_loop (vars.drop n.toNat) (vars.take n.toNat) [] 0 (fun v h => hv v (List.mem_of_mem_take h)) (by rw [List.nil_append, List.take_append_drop]; omega) (by decide) (by have := List.length_take_le n.toNat vars; omega)
  rw [List.nil_append, List.take_append_drop, Int.zero_add, List.length_take, List.length_nil] at this
  have e : ((0 + min n.toNat vars.length : Nat) : Int) = n := by omega
  rw [e] at this
  exact this
theorem first_all (vars : List S66) (hv : ∀ v ∈ vars, 1 ≤ v.f2 ∧ v.f2 ≤ 8) (hl : vars.length ≤ 18) : Tells (fun k => r2_First.f k vars (vars.length : Int)) (cs vars) := by
  have := first_tells vars (vars.length : Int) (by omega) (by omega) hv hl
  rw [Int.toNat_natCast, List.take_length] at this
  exact this
def r1_Same.l0 : Nat → List Int → List Int → Int → Option (Bool)
 | 0, _, _, _ => none
 | k + 1, x0, x1, x5 => if x5 < (x0.length : Int) then (if 0 ≤ x5 then (if x5 < (x1.length : Int) then (if (rd x0 x5) = (rd x1 x5) then (r1_Same.l0 k x0 x1 (wrap64 (x5 + 1))) else (some false)) else (none)) else (none)) else (some true)
def r1_Same.f (k : Nat) (l0 : List Int) (l1 : List Int) : Option (Bool) := if (l0.length : Int) = (l1.length : Int) then (r1_Same.l0 k l0 l1 0) else (some false)
set_option maxHeartbeats 8000000 in
set_option maxRecDepth 100000 in
theorem r1_Same.calls (k : Nat) (A0 : Option Addr) (c0 : Nat) (l0 : List Int) (A1 : Option Addr) (c1 : Nat) (l1 : List Int) (r : Bool) (w : World) (hr0 : Kd.C (Kd.int .i64) w A0 l0.length l0) (hc0 : l0.length ≤ c0) (hr1 : Kd.C (Kd.int .i64) w A1 l1.length l1) (hc1 : l1.length ≤ c1) (h : r1_Same.f k l0 l1 = some r) :
  Calls Try.prog 35 #[.slice A0 l0.length c0, .slice A1 l1.length c1] w fun e w' => e = .returned (.bool r) ∧ Drawn0 w w' := by
 have HR0 := Aside0.mk hr0
 have HC0 := Aside0.mk hc0
 clear hr0 hc0
 have HR1 := Aside0.mk hr1
 have HC1 := Aside0.mk hc1
 clear hr1 hc1
 have H : (if (l0.length : Int) = (l1.length : Int) then (r1_Same.l0 k l0 l1 0) else (some false)) = some r := h
 clear h
 by_cases c3 : (l0.length : Int) = (l1.length : Int)
 rotate_left
 ·rw [if_neg c3] at H
  have c3b0 : ((l0.length : Int) == (l1.length : Int)) = false := beq_eq_false_iff_ne.mpr c3
  have c3b1 : ((l0.length : Int) != (l1.length : Int)) = true := bne_iff_ne.mpr c3
  have c3b2 : (l0.length == l1.length) = false := by first | simpa using c3 | (simp at c3 ⊢; omega)
  obtain rfl := Option.some.inj H
  go_enter Try.func35, Try.ntmps35
  go_wp2
  repeat (go_quiet (fail); try go_wp2)
  go_ret
  exact ⟨rs, dr⟩
 rw [if_pos c3] at H
 have c3b0 : ((l0.length : Int) == (l1.length : Int)) = true := beq_iff_eq.mpr c3
 have c3b1 : ((l0.length : Int) != (l1.length : Int)) = false := bne_eq_false_iff_eq.mpr c3
 have c3b2 : (l0.length == l1.length) = true := by first | simpa using c3 | (simp at c3 ⊢; omega)
 clear c3
 have H' := Aside0.mk H
 clear H
 go_enter Try.func35, Try.ntmps35
 go_wp2
 repeat (go_quiet (fail); try go_wp2)
 go_loopg [5] k (fun kq v5 w' => ∃ (x5_1 : Int), v5 = .int .i64 x5_1 ∧ Aside0 (r1_Same.l0 kq l0 l1 x5_1 = some r) ∧ Aside0 (kq ≤ k) ∧ Drawn0 w w')
 case atStart => exact ⟨(0), rs, H', ⟨Nat.le_refl _⟩, dr⟩
 case round =>
  clear H'
  try clear c1
  try clear p2
  try clear c3
  try clear c3b0
  try clear c3b1
  try clear c3b2
  obtain ⟨x5_1, rfl, HA, HK1, ⟨m1, rfl⟩⟩ := hrel
  cases gk with
  | zero => exact absurd HA.out (by simp [r1_Same.l0])
  | succ k1 =>
   have H := HA.out
   clear HA
   simp only [r1_Same.l0] at H
   by_cases c4 : x5_1 < (l0.length : Int)
   rotate_left
   ·rw [if_neg c4] at H
    have c4b0 : decide (x5_1 < (l0.length : Int)) = false := decide_eq_false c4
    clear c4
    obtain rfl := Option.some.inj H
    go_wp2
    repeat (go_quiet (fail); try go_wp2)
    go_ret
    exact ⟨rs, dr⟩
   rw [if_pos c4] at H
   have c4b0 : decide (x5_1 < (l0.length : Int)) = true := decide_eq_true c4
   clear c4
   by_cases c5 : 0 ≤ x5_1
   rotate_left
   ·rw [if_neg c5] at H
    exact absurd H (by simp)
   rw [if_pos c5] at H
   have c5b0 : decide (0 ≤ x5_1) = true := decide_eq_true c5
   clear c5
   by_cases c6 : x5_1 < (l1.length : Int)
   rotate_left
   ·rw [if_neg c6] at H
    exact absurd H (by simp)
   rw [if_pos c6] at H
   have c6b0 : decide (x5_1 < (l1.length : Int)) = true := decide_eq_true c6
   clear c6
   by_cases c7 : (rd l0 x5_1) = (rd l1 x5_1)
   rotate_left
   ·rw [if_neg c7] at H
    have c7b0 : ((rd l0 x5_1) == (rd l1 x5_1)) = false := beq_eq_false_iff_ne.mpr c7
    have c7b1 : ((rd l0 x5_1) != (rd l1 x5_1)) = true := bne_iff_ne.mpr c7
    obtain rfl := Option.some.inj H
    have p245 : 0 ≤ (x5_1 : Int) := od
    have q245 : x5_1 < (l0.length : Int) := od
    obtain ⟨ad245, e245, hx245_0⟩ := Kd.at_int HR0.out x5_1 p245 q245
    cases e245
    replace p245 := eq_true p245
    replace q245 := eq_true q245
    have p246 : 0 ≤ (x5_1 : Int) := od
    have q246 : x5_1 < (l1.length : Int) := od
    obtain ⟨ad246, e246, hx246_0⟩ := Kd.at_int HR1.out x5_1 p246 q246
    cases e246
    replace p246 := eq_true p246
    replace q246 := eq_true q246
    go_wp2
    repeat (go_quiet (fail); try go_wp2)
    go_ret
    exact ⟨rs, dr⟩
   rw [if_pos c7] at H
   have c7b0 : ((rd l0 x5_1) == (rd l1 x5_1)) = true := beq_iff_eq.mpr c7
   have c7b1 : ((rd l0 x5_1) != (rd l1 x5_1)) = false := bne_eq_false_iff_eq.mpr c7
   clear c7
   have H' := Aside0.mk H
   clear H
   have p245 : 0 ≤ (x5_1 : Int) := od
   have q245 : x5_1 < (l0.length : Int) := od
   obtain ⟨ad245, e245, hx245_0⟩ := Kd.at_int HR0.out x5_1 p245 q245
   cases e245
   replace p245 := eq_true p245
   replace q245 := eq_true q245
   have p246 : 0 ≤ (x5_1 : Int) := od
   have q246 : x5_1 < (l1.length : Int) := od
   obtain ⟨ad246, e246, hx246_0⟩ := Kd.at_int HR1.out x5_1 p246 q246
   cases e246
   replace p246 := eq_true p246
   replace q246 := eq_true q246
   go_wp2
   repeat (go_quiet (fail); try go_wp2)
   go_roundg k1
   case measure => have := HK1.out; omega
   case rel => exact ⟨(wrap64 (x5_1 + 1)), rs, H', ⟨by have := HK1.out; omega⟩, dr⟩
def r1_Words.l0 : Nat → Int → List Int → Int → Option (Bool)
 | 0, _, _, _ => none
 | k + 1, x0, x1, x5 => if x5 < (x1.length : Int) then (if 0 ≤ x5 then ((r1_Word.f k x0 (rd x1 x5)).bind fun t402 => (if t402 = true then (r1_Words.l0 k x0 x1 (wrap64 (x5 + 1))) else (some false))) else (none)) else (some true)
def r1_Words.f (k : Nat) (a0 : Int) (l1 : List Int) : Option (Bool) := r1_Words.l0 k a0 l1 0
set_option maxHeartbeats 8000000 in
set_option maxRecDepth 100000 in
theorem r1_Words.calls (k : Nat) (a0 : Int) (A1 : Option Addr) (c1 : Nat) (l1 : List Int) (r : Bool) (w : World) (hr1 : Kd.C (Kd.int .i64) w A1 l1.length l1) (hc1 : l1.length ≤ c1) (h : r1_Words.f k a0 l1 = some r) :
  Calls Try.prog 59 #[.int .i64 a0, .slice A1 l1.length c1] w fun e w' => e = .returned (.bool r) ∧ Drawn0 w w' := by
 have HR1 := Aside0.mk hr1
 have HC1 := Aside0.mk hc1
 clear hr1 hc1
 have H : (r1_Words.l0 k a0 l1 0) = some r := h
 clear h
 have H' := Aside0.mk H
 clear H
 go_enter Try.func59, Try.ntmps59
 go_wp2
 go_loopg [5] k (fun kq v5 w' => ∃ (x5_1 : Int), v5 = .int .i64 x5_1 ∧ Aside0 (r1_Words.l0 kq a0 l1 x5_1 = some r) ∧ Aside0 (kq ≤ k) ∧ Drawn0 w w')
 case atStart => exact ⟨(0), rs, H', ⟨Nat.le_refl _⟩, dr⟩
 case round =>
  clear H'
  try clear c1
  try clear p2
  obtain ⟨x5_1, rfl, HA, HK1, ⟨m1, rfl⟩⟩ := hrel
  cases gk with
  | zero => exact absurd HA.out (by simp [r1_Words.l0])
  | succ k1 =>
   have H := HA.out
   clear HA
   simp only [r1_Words.l0] at H
   by_cases c3 : x5_1 < (l1.length : Int)
   rotate_left
   ·rw [if_neg c3] at H
    have c3b0 : decide (x5_1 < (l1.length : Int)) = false := decide_eq_false c3
    clear c3
    obtain rfl := Option.some.inj H
    go_wp2
    go_ret
    exact ⟨rs, dr⟩
   rw [if_pos c3] at H
   have c3b0 : decide (x5_1 < (l1.length : Int)) = true := decide_eq_true c3
   clear c3
   by_cases c4 : 0 ≤ x5_1
   rotate_left
   ·rw [if_neg c4] at H
    exact absurd H (by simp)
   rw [if_pos c4] at H
   have c4b0 : decide (0 ≤ x5_1) = true := decide_eq_true c4
   clear c4
   obtain ⟨t402, A5, H⟩ := be H
   replace H : (if t402 = true then (r1_Words.l0 k1 a0 l1 (wrap64 (x5_1 + 1))) else (some false)) = some r := H
   by_cases c6 : t402 = true
   rotate_left
   ·replace c6 := Bool.eq_false_iff.mpr c6
    subst c6
    have H1 : (some false) = some r := by rw [if_neg (show ¬ (false = true) by decide)] at H; exact H
    clear H
    have H := H1
    clear H1
    obtain rfl := Option.some.inj H
    have p401 : 0 ≤ (x5_1 : Int) := od
    have q401 : x5_1 < (l1.length : Int) := od
    obtain ⟨ad401, e401, hx401_0⟩ := Kd.at_int HR1.out x5_1 p401 q401
    cases e401
    replace p401 := eq_true p401
    replace q401 := eq_true q401
    go_wp2_with (first | ((with_reducible refine gate_callee (f := 91) rfl ?_); refine gL (some 17) rfl rfl Try.func91 #[.int .i64 a0, .int .i64 (rd l1 x5_1)] rfl ?_; (with_reducible refine (r1_Word.calls k1 a0 (rd l1 x5_1) false _ A5.out).mono ?_); rintro e w' ⟨rfl, ⟨nd, rfl⟩⟩; refine ⟨_, rfl, ?_⟩))
    go_ret
    exact ⟨rs, dr⟩
   subst c6
   have H1 : (r1_Words.l0 k1 a0 l1 (wrap64 (x5_1 + 1))) = some r := by rw [if_pos rfl] at H; exact H
   clear H
   have H := H1
   clear H1
   have H' := Aside0.mk H
   clear H
   have p401 : 0 ≤ (x5_1 : Int) := od
   have q401 : x5_1 < (l1.length : Int) := od
   obtain ⟨ad401, e401, hx401_0⟩ := Kd.at_int HR1.out x5_1 p401 q401
   cases e401
   replace p401 := eq_true p401
   replace q401 := eq_true q401
   go_wp2_with (first | ((with_reducible refine gate_callee (f := 91) rfl ?_); refine gL (some 17) rfl rfl Try.func91 #[.int .i64 a0, .int .i64 (rd l1 x5_1)] rfl ?_; (with_reducible refine (r1_Word.calls k1 a0 (rd l1 x5_1) true _ A5.out).mono ?_); rintro e w' ⟨rfl, ⟨nd, rfl⟩⟩; refine ⟨_, rfl, ?_⟩))
   go_roundg k1
   case measure => have := HK1.out; omega
   case rel => exact ⟨(wrap64 (x5_1 + 1)), rs, H', ⟨by have := HK1.out; omega⟩, dr⟩
def r2_Store.f (k : Nat) (a0 : Int) (l1 : List (S66)) (l2 : List Int) : Option (Bool) := (r2_First.f k l1 (l1.length : Int)).bind fun t403 => (if (l2.length : Int) = t403 then ((r1_Words.f k a0 l2).bind fun t404 => (some t404)) else (some false))
set_option maxHeartbeats 8000000 in
set_option maxRecDepth 100000 in
theorem r2_Store.calls (k : Nat) (a0 : Int) (A1 : Option Addr) (c1 : Nat) (l1 : List (S66)) (A2 : Option Addr) (c2 : Nat) (l2 : List Int) (r : Bool) (w : World) (hr1 : Kd.C k66 w A1 l1.length l1) (hc1 : l1.length ≤ c1) (hr2 : Kd.C (Kd.int .i64) w A2 l2.length l2) (hc2 : l2.length ≤ c2) (h : r2_Store.f k a0 l1 l2 = some r) :
  Calls Try.prog 23 #[.int .i64 a0, .slice A1 l1.length c1, .slice A2 l2.length c2] w fun e w' => e = .returned (.bool r) ∧ Drawn0 w w' := by
 have HR1 := Aside0.mk hr1
 have HC1 := Aside0.mk hc1
 clear hr1 hc1
 have HR2 := Aside0.mk hr2
 have HC2 := Aside0.mk hc2
 clear hr2 hc2
 have H : ((r2_First.f k l1 (l1.length : Int)).bind fun t403 => (if (l2.length : Int) = t403 then ((r1_Words.f k a0 l2).bind fun t404 => (some t404)) else (some false))) = some r := h
 clear h
 obtain ⟨t403, A4, H⟩ := be H
 replace H : (if (l2.length : Int) = t403 then ((r1_Words.f k a0 l2).bind fun t404 => (some t404)) else (some false)) = some r := H
 by_cases c5 : (l2.length : Int) = t403
 rotate_left
 ·rw [if_neg c5] at H
  have c5b0 : ((l2.length : Int) == t403) = false := beq_eq_false_iff_ne.mpr c5
  have c5b1 : ((l2.length : Int) != t403) = true := bne_iff_ne.mpr c5
  obtain rfl := Option.some.inj H
  go_enter Try.func23, Try.ntmps23
  go_wp2_with (first | ((with_reducible refine gate_callee (f := 58) rfl ?_); refine gL (some 12) rfl rfl Try.func58 #[.slice A1 l1.length c1, .int .i64 (l1.length : Int)] rfl ?_; (with_reducible refine (r2_First.calls k _ _ l1 (l1.length : Int) t403 _ ?side1 ?side2 A4.out).mono ?_); (case side1 => exact ca HR1); (case side2 => exact HC1.out); rintro e w' ⟨rfl, ⟨nd, rfl⟩⟩; refine ⟨_, rfl, ?_⟩))
  go_ret
  exact ⟨rs, dr⟩
 rw [if_pos c5] at H
 have c5b0 : ((l2.length : Int) == t403) = true := beq_iff_eq.mpr c5
 have c5b1 : ((l2.length : Int) != t403) = false := bne_eq_false_iff_eq.mpr c5
 clear c5
 obtain ⟨t404, A6, H⟩ := be H
 replace H : (some t404) = some r := H
 obtain rfl := Option.some.inj H
 go_enter Try.func23, Try.ntmps23
 go_wp2_with (first | ((with_reducible refine gate_callee (f := 58) rfl ?_); refine gL (some 12) rfl rfl Try.func58 #[.slice A1 l1.length c1, .int .i64 (l1.length : Int)] rfl ?_; (with_reducible refine (r2_First.calls k _ _ l1 (l1.length : Int) t403 _ ?side1 ?side2 A4.out).mono ?_); (case side1 => exact ca HR1); (case side2 => exact HC1.out); rintro e w' ⟨rfl, ⟨nd, rfl⟩⟩; refine ⟨_, rfl, ?_⟩) | (go_at_call 59; (with_reducible refine (r1_Words.calls k a0 _ _ l2 t404 _ ?side1 ?side2 A6.out).mono ?_); (case side1 => exact ca HR2); (case side2 => exact HC2.out); rintro e w' ⟨rfl, ⟨nd, rfl⟩⟩))
 go_ret
 exact ⟨rs, dr⟩
theorem u64_small {n : Int} (h0 : 0 ≤ n) (h1 : n < 1000000) : IntKind.u64.wrap n = n := by
  simp [IntKind.wrap, IntKind.bits, IntKind.signed]
  omega
theorem i64_wrap {n : Int} (h0 : -9223372036854775808 ≤ n) (h1 : n ≤ 9223372036854775807) : IntKind.i64.wrap n = n := by
  rw [Go.IntKind.wrap_i64]
  omega
theorem pow_60 : (2 : Int) ^ 60 = 1152921504606846976 := by decide
theorem pow_le {a b : Nat} (h : a ≤ b) : (2 : Int) ^ a ≤ 2 ^ b := by
  have := Nat.pow_le_pow_right (show 0 < 2 by decide) h
  have e : ∀ n : Nat, ((2 : Int) ^ n) = ((2 ^ n : Nat) : Int) := fun n => by simp
  rw [e, e]
  omega
theorem pow_pos' (a : Nat) : (0 : Int) < 2 ^ a := Int.pow_pos (by decide)
theorem shl_pow {x : Int} {n : Int} (h0 : 0 ≤ n) (h1 : n ≤ 60) (x0 : 0 ≤ x) (hx : x * 2 ^ n.toNat ≤ 9223372036854775807) : shl .i64 x n = x * 2 ^ n.toNat := by
  unfold shl
  rw [Nat.min_eq_left (by show n.toNat ≤ 64; omega)]
  have := Int.mul_nonneg x0 (Int.le_of_lt (pow_pos' n.toNat))
  exact i64_wrap (by omega) hx
theorem shl_one {n : Int} (h0 : 0 ≤ n) (h1 : n ≤ 60) : shl .i64 1 n = 2 ^ n.toNat := by
  have := pow_le (a := n.toNat) (b := 60) (by omega)
  rw [pow_60] at this
  rw [shl_pow h0 h1 (by decide) (by omega), Int.one_mul]
def valid (p : Int) (l : List Int) : Bool := l.all fun s => decide (0 ≤ s ∧ s < p)
theorem valid_iff {p : Int} {l : List Int} : valid p l = true ↔ ∀ s ∈ l, 0 ≤ s ∧ s < p := by
  unfold valid
  rw [List.all_eq_true]
  simp only [decide_eq_true_eq]
theorem rd_mid (pre : List Int) (x : Int) (r : List Int) : rd (pre ++ x :: r) (pre.length : Int) = x := getD_mid pre x _ r
theorem words_loop (w : Int) (h1 : 1 ≤ w) (h8 : w ≤ 8) : ∀ (suf pre : List Int), (pre ++ suf).length ≤ 9223372036854775807 → Tells (fun k => r1_Words.l0 k w (pre ++ suf) (pre.length : Int)) (valid (2 ^ w.toNat) suf)
  | [], pre, _ => by
    refine Tells.succ ?_
    simp only [r1_Words.l0, pre_nlt, if_false]
    exact Tells.pure _
  | s :: r, pre, hl => by
    refine Tells.succ ?_
    simp only [r1_Words.l0, pre_lt, pre_pos, if_true, rd_mid]
    have ih := words_loop w h1 h8 r (pre ++ [s]) (by rw [← pre_app]; exact hl)
    rw [← pre_app] at ih
    rw [pre_next pre s r hl, show valid (2 ^ w.toNat) (s :: r) = (decide (0 ≤ s ∧ s < 2 ^ w.toNat) && valid (2 ^ w.toNat) r) from List.all_cons]
    exact Tells.bind (Word_tells w s h1 h8) (Tells.ifB ih)
theorem Store_is (w : Int) (vars : List S66) (l : List Int) (h1 : 1 ≤ w) (h8 : w ≤ 8) (hv : ∀ v ∈ vars, 1 ≤ v.f2 ∧ v.f2 ≤ 8) (h18 : vars.length ≤ 18) (hl : l.length ≤ 9223372036854775807) :
    Tells (fun k => r2_Store.f k w vars l) (decide ((l.length : Int) = cs vars) && valid (2 ^ w.toNat) l) := by
  unfold r2_Store.f
  refine Tells.bind (first_all vars hv h18) ?_
  by_cases h : (l.length : Int) = cs vars
  · rw [decide_eq_true h, Bool.true_and]
    refine Tells.ifT h (Tells.id' ?_)
    unfold r1_Words.f
    exact words_loop w h1 h8 l [] hl
  · rw [decide_eq_false h, Bool.false_and]
    exact Tells.ifF h (Tells.pure _)
theorem same_loop : ∀ (suf pre : List Int), (pre ++ suf).length ≤ 9223372036854775807 → Tells (fun k => r1_Same.l0 k (pre ++ suf) (pre ++ suf) (pre.length : Int)) true
  | [], pre, _ => by
    refine Tells.succ ?_
    simp only [r1_Same.l0, pre_nlt, if_false]
    exact Tells.pure _
  | s :: r, pre, hl => by
    refine Tells.succ ?_
    simp only [r1_Same.l0, pre_lt, pre_pos, if_true, rd_mid]
    have ih := same_loop r (pre ++ [s]) (by rw [← pre_app]; exact hl)
    rw [← pre_app] at ih
    rw [pre_next pre s r hl]
    exact ih
theorem same_tells (l : List Int) (hl : l.length ≤ 9223372036854775807) : Tells (fun k => r1_Same.f k l l) true := by
  unfold r1_Same.f
  exact Tells.ifT rfl (same_loop l [] hl)
def prod_cells.l0 : Nat → Int → List (S66) → Int → Int → Option (Int)
 | 0, _, _, _, _ => none
 | k + 1, x3, x7, x8, x9 => if x9 < x8 then (if 0 ≤ x9 then (if x9 < (x7.length : Int) then (prod_cells.l0 k (wrap64 (x3 + ((rd_T66 x7 x9).f2))) x7 x8 (wrap64 (x9 + 1))) else (none)) else (none)) else (some x3)
def prod_cells.f (k : Nat) (a0_0 : Int) (l0_1 : List (S66)) (l0_2 : List (S64)) : Option (Int) := prod_cells.l0 k 0 l0_1 (l0_1.length : Int) 0
set_option maxHeartbeats 8000000 in
set_option maxRecDepth 100000 in
theorem prod_cells.calls (k : Nat) (a0_0 : Int) (A0_1 : Option Addr) (c0_1 : Nat) (l0_1 : List (S66)) (A0_2 : Option Addr) (c0_2 : Nat) (l0_2 : List (S64)) (r : Int) (w : World) (hr0_1 : Kd.C k66 w A0_1 l0_1.length l0_1) (hc0_1 : l0_1.length ≤ c0_1) (hr0_2 : Kd.C k64 w A0_2 l0_2.length l0_2) (hc0_2 : l0_2.length ≤ c0_2) (h : prod_cells.f k a0_0 l0_1 l0_2 = some r) :
  Calls Try.prog 55 #[.agg #[.int .i64 a0_0, .slice A0_1 l0_1.length c0_1, .slice A0_2 l0_2.length c0_2]] w fun e w' => e = .returned (.int .i64 r) ∧ Below w.heap.size w w' := by
 have hu25 := Try.underlying25
 have hu66 := Try.underlying66
 have HR0_1 := Aside0.mk hr0_1
 have HC0_1 := Aside0.mk hc0_1
 clear hr0_1 hc0_1
 have HR0_2 := Aside0.mk hr0_2
 have HC0_2 := Aside0.mk hc0_2
 clear hr0_2 hc0_2
 have HB := Aside0.mk (Below.refl w.heap.size w)
 have H : (prod_cells.l0 k 0 l0_1 (l0_1.length : Int) 0) = some r := h
 clear h
 have H' := Aside0.mk H
 clear H
 go_enter Try.func55, Try.ntmps55
 go_wp2_with (first | ((with_reducible refine gate_dst (N := 1) rfl ?_); refine bx 1 rfl rfl #[.int .i64 a0_0, .slice A0_1 l0_1.length c0_1, .slice A0_2 l0_2.length c0_2] 25 ?_; intro gb165 hg w2 hbox hb; have BK165 := Aside0.mk (hbox); have GW165 := ge HB hg; have GE165 := ge HB hg; replace HB := sb HB hb; clear hb hbox hg; obtain ⟨hcz3_0, hcz3_1, hcz3_2, hfz3_0, hfz3_1, hfz3_2⟩ := cf3 BK165.out))
 go_loopg [3, 9] k (fun kq v3 v9 w' => ∃ (x3_1 : Int) (x9_1 : Int), v3 = .int .i64 x3_1 ∧ v9 = .int .i64 x9_1 ∧ Aside0 (prod_cells.l0 kq x3_1 l0_1 (l0_1.length : Int) x9_1 = some r) ∧ Aside0 (kq ≤ k) ∧ Aside0 (w'.heap[gb165]? = some (.cells #[.int .i64 a0_0, (.slice A0_1 l0_1.length c0_1), (.slice A0_2 l0_2.length c0_2)] 25 (0, 0))) ∧ Aside0 (Below w.heap.size w w'))
 case atStart => exact ⟨(0), (0), rs, rs, H', ⟨Nat.le_refl _⟩, ⟨by (with_reducible repeat (first | refine kdN ?_ _ | refine kdr ?_ | refine kal ?_ _)); exact BK165.out⟩, ⟨bb HB⟩⟩
 case round =>
  clear H'
  try clear p2
  try clear hcz3_0 hcz3_1 hcz3_2 hfz3_0 hfz3_1 hfz3_2
  obtain ⟨x3_1, x9_1, rfl, rfl, HA, HK1, BK165, HB⟩ := hrel
  cases gk with
  | zero => exact absurd HA.out (by simp [prod_cells.l0])
  | succ k1 =>
   have H := HA.out
   clear HA
   simp only [prod_cells.l0] at H
   by_cases c4 : x9_1 < (l0_1.length : Int)
   rotate_left
   ·rw [if_neg c4] at H
    have c4b0 : decide (x9_1 < (l0_1.length : Int)) = false := decide_eq_false c4
    clear c4
    obtain rfl := Option.some.inj H
    go_wp2
    go_ret
    exact ⟨rr, bb HB⟩
   rw [if_pos c4] at H
   have c4b0 : decide (x9_1 < (l0_1.length : Int)) = true := decide_eq_true c4
   clear c4
   by_cases c5 : 0 ≤ x9_1
   rotate_left
   ·rw [if_neg c5] at H
    exact absurd H (by simp)
   rw [if_pos c5] at H
   have c5b0 : decide (0 ≤ x9_1) = true := decide_eq_true c5
   clear c5
   by_cases c6 : x9_1 < (l0_1.length : Int)
   rotate_left
   ·rw [if_neg c6] at H
    exact absurd H (by simp)
   rw [if_pos c6] at H
   have c6b0 : decide (x9_1 < (l0_1.length : Int)) = true := decide_eq_true c6
   clear c6
   have H' := Aside0.mk H
   clear H
   have p166 : 0 ≤ (x9_1 : Int) := od
   have q166 : x9_1 < (l0_1.length : Int) := od
   obtain ⟨ad166, e166, hx166_0, hx166_1, hx166_2⟩ := at_T66 HR0_1.out x9_1 p166 q166
   cases e166
   replace hx166_0 := bcell HB.out hx166_0
   replace hx166_1 := bcell HB.out hx166_1
   replace hx166_2 := bcell HB.out hx166_2
   replace p166 := eq_true p166
   replace q166 := eq_true q166
   go_wp2_with (first | ((with_reducible refine gate_dst (N := 5) rfl ?_); refine bx 5 rfl rfl #[.string (⟨#[]⟩ : ByteArray), .int .i64 0, .int .i64 0] 66 ?_; intro gb167 hg w7 hbox hb; have BK167 := Aside0.mk (hbox); have GW167 := ge HB hg; have GE167 := ge HB hg; have NB165_167 := nl BK165 hg; have NB167_165 := ng BK165 hg; replace BK165 := kb BK165 hb; replace HB := sb HB hb; clear hb hbox hg; have hnb8 := NB167_165.out; have hnc8 := NB165_167.out; obtain ⟨hcz9_0, hcz9_1, hcz9_2, hfz9_0, hfz9_1, hfz9_2⟩ := cf3 BK167.out))
   go_roundg k1
   case measure => have := HK1.out; omega
   case rel => exact ⟨(wrap64 (x3_1 + ((rd_T66 l0_1 x9_1).f2))), (wrap64 (x9_1 + 1)), rs, rs, H', ⟨by have := HK1.out; omega⟩, ⟨by (with_reducible repeat (first | refine kdN ?_ _ | refine kdr ?_ | refine kal ?_ _)); refine blk_far ?_ NB165_167.out _; (with_reducible repeat (first | refine kdN ?_ _ | refine kdr ?_ | refine kal ?_ _)); refine blk_far ?_ NB165_167.out _; (with_reducible repeat (first | refine kdN ?_ _ | refine kdr ?_ | refine kal ?_ _)); refine blk_far ?_ NB165_167.out _; (with_reducible repeat (first | refine kdN ?_ _ | refine kdr ?_ | refine kal ?_ _)); exact BK165.out⟩, ⟨bb HB⟩⟩
end Go.Proofs.Ytilebfkehmecaaa.Print
