/- What the laws of products share: contracts of the functions that they call, and what these compute, for every program that comes in. -/
import Derived.Test.YtilebfkehmecaaaB2
import Derived.Deep.DeepCutAuto
import Derived.Deep.DeepMust
import Derived.Laws.CopyOwn
import Derived.Laws.CopyRow
import Derived.Laws.EntriesVeiled
import Derived.Laws.MakeOwn
import Derived.LoopIn
import Derived.LoopNIn
import Derived.OwnWalkIn
import Derived.RangeFuncBound
import Derived.RangeFuncCalls
import Derived.RangeFuncIn
import Derived.RangeFuncLeaves
import Derived.RangeFuncNested
import Derived.RangeFuncOwn
import Derived.Shelf.Abstract
import Derived.Shelf.RegionOpen
import Derived.TacticsInMore
import Derived.WalkKit
import Derived.WalkSpells
namespace Go.Proofs.Ytilebfkehmecaaa.Print
open Go.RowKit Go.Proofs.YtilebfkehmecaaaW.PrintWords Go.Proofs.YtilebfkehmecaaaW.PrintLast Go.Proofs.YtilebfkehmecaaaW.PrintMore
attribute [local go_sem] max2_int min2_int max_two min_two max_three min_three max_four min_four
set_option linter.unusedVariables false
set_option linter.unusedSimpArgs false
open Go.Shelf
attribute [local go_sem] Oper.semAt_some
mutual
def prog_walk.l0 : Nat → List S64 → Int → Int → Option (List (Int × S64) × Int)
  | 0, _, _, _ => none
  | k + 1, l, i, n => if i < (l.length : Int) then (if 0 ≤ i then (prog_walk.f k (rd_T64 l i).f3 (wrap64 (n + 1))).bind fun t => (prog_walk.f k (rd_T64 l i).f4 t.2).bind fun e => (prog_walk.l0 k l (wrap64 (i + 1)) e.2).bind fun r => some ((wrap64 (wrap64 (n + 1) - 1), rd_T64 l i) :: (t.1 ++ (e.1 ++ r.1)), r.2) else none) else some ([], n)
def prog_walk.f : Nat → List S64 → Int → Option (List (Int × S64) × Int)
  | 0, _, _ => none
  | k + 1, l, n => prog_walk.l0 k l 0 n
end
def stopAt {α : Type} (go : List α → α → Bool) : List α → List α → Option (List α)
  | _, [] => none
  | pre, x :: r => if go pre x = true then (stopAt go (pre ++ [x]) r).map (x :: ·) else some [x]
theorem stopAt_append {α : Type} (go : List α → α → Bool) : ∀ (a b pre : List α), stopAt go pre (a ++ b) = match stopAt go pre a with | some q => some q | none => (stopAt go (pre ++ a) b).map (a ++ ·)
  | [], b, pre => by simp [stopAt]
  | x :: a, b, pre => by
    rw [List.cons_append, stopAt, stopAt]
    by_cases h : go pre x = true
    · rw [if_pos h, if_pos h, stopAt_append go a b (pre ++ [x])]
      cases h1 : stopAt go (pre ++ [x]) a with
      | some q => rfl
      | none => cases h2 : stopAt go (pre ++ [x] ++ a) b <;> simp [h2] <;> simp at h2 <;> simp [h2]
    · rw [if_neg h, if_neg h]
theorem stopAt_over {α : Type} {go : List α → α → Bool} {pre a b : List α} (h : stopAt go pre a = none) : stopAt go pre (a ++ b) = (stopAt go (pre ++ a) b).map (a ++ ·) := by rw [stopAt_append, h]
theorem stopAt_in {α : Type} {go : List α → α → Bool} {pre a b q : List α} (h : stopAt go pre a = some q) : stopAt go pre (a ++ b) = some q := by rw [stopAt_append, h]
theorem stopAt_one {α : Type} {go : List α → α → Bool} {pre r : List α} {x : α} (h : go pre x = true) : stopAt go pre (x :: r) = (stopAt go (pre ++ [x]) r).map (x :: ·) := by rw [stopAt, if_pos h]
def StmtAt (w0 : World) (s : S64) (v : Value) : Prop := ∃ (A2 : Option Addr) (c2 : Nat) (A3 : Option Addr) (c3 : Nat) (A4 : Option Addr) (c4 : Nat), v = .agg #[.int .i64 s.f0, .int .i64 s.f1, .slice A2 s.f2.length c2, .slice A3 s.f3.length c3, .slice A4 s.f4.length c4] ∧
  s.f2.length ≤ c2 ∧ Kd.C k28 w0 A2 s.f2.length s.f2 ∧ s.f3.length ≤ c3 ∧ Kd.C k64 w0 A3 s.f3.length s.f3 ∧ s.f4.length ≤ c4 ∧ Kd.C k64 w0 A4 s.f4.length s.f4
structure Keeps (B : Nat) (g : Option Nat) (W W' : World) : Prop where
  size : W.heap.size ≤ W'.heap.size
  block : ∀ k, B ≤ k → k < W.heap.size → some k ≠ g → W'.heap[k]? = W.heap[k]?
theorem Keeps.trans {B : Nat} {g : Option Nat} {a b c : World} (h : Keeps B g a b) (k : Keeps B g b c) : Keeps B g a c :=
  ⟨Nat.le_trans h.size k.size, fun i h1 h2 h3 => (k.block i h1 (Nat.lt_of_lt_of_le h2 h.size) h3).trans (h.block i h1 h2 h3)⟩
theorem Keeps.some {B : Nat} {g : Option Nat} {a b : World} (h : Keeps B none a b) : Keeps B g a b := ⟨h.size, fun i h1 h2 _ => h.block i h1 h2 (by simp)⟩
theorem Keeps.refl (B : Nat) (g : Option Nat) (a : World) : Keeps B g a a := ⟨Nat.le_refl _, fun _ _ _ _ => rfl⟩
def walkPost (w0 : World) (Bj G : Nat) (J Jx : List (Int × S64) → World → Prop) (go : List (Int × S64) → (Int × S64) → Bool) (pre its : List (Int × S64)) (n' : Int) (W : World) (e : Ending) (W' : World) : Prop :=
  (stopAt go pre its = none ∧ e = .returned (.bool true) ∧ J (pre ++ its) W' ∧ W'.heap[G]? = some (.cells #[.int .i64 n'] 3 (0, 0)) ∧ Keeps Bj (some G) W W' ∧ Below w0.heap.size w0 W') ∨
  (∃ q, stopAt go pre its = some q ∧ e = .returned (.bool false) ∧ Jx (pre ++ q) W')
theorem walk_world {wr : World} {G : Nat} {a u : Value} {t : TypeId} (hG : wr.heap[G]? = some (.cells #[a] t (0, 0))) (o : Obj) :
    ((wr.setCell ⟨G, 0, none⟩ u).alloc o).heap[G]? = some (.cells #[u] t (0, 0)) ∧ ((wr.setCell ⟨G, 0, none⟩ u).alloc o).heap[wr.heap.size]? = some o ∧ wr.grownBy ((wr.setCell ⟨G, 0, none⟩ u).alloc o) (some G) := by
  have h1 : (wr.setCell ⟨G, 0, none⟩ u).heap[G]? = some (.cells #[u] t (0, 0)) := by simpa using blk_set hG 0 u
  refine ⟨kal h1 _, ?_, ?_⟩
  · have := heap_alloc_new (wr.setCell ⟨G, 0, none⟩ u) o
    simpa using this
  · refine ⟨rfl, rfl, rfl, by simp, fun i hi hne2 => ?_⟩
    have hne' : i ≠ G := fun e => hne2 (by rw [e])
    rw [Below.heap_alloc _ _ _ (by simpa using hi), Below.heap_setCell _ _ _ _ hne']
theorem round_any {m m' : Nat} {P : Program} {l : Nat} {f : FuncId} {tmps : Array Value} {assign body : Code} {w : World} {R : Ending → World → Prop} (h : RoundIn Fence.wide m P l f tmps assign body w R) : RoundIn Fence.wide m' P l f tmps assign body w R := ⟨h.1, fun c cs _ => h.2 c cs (room_wide _)⟩
theorem calls_any {m m' : Nat} {P : Program} {f : FuncId} {args : Array Value} {w : World} {R : Ending → World → Prop} (h : CallsIn Fence.wide m P f args w R) : CallsIn Fence.wide m' P f args w R := callsIn_wide.2 (callsIn_wide.1 h)
theorem wide_depth {m : Nat} : Fence.wide.depth.isSome = true → 1 ≤ m := fun h => by simp [Fence.wide] at h
set_option maxHeartbeats 8000000 in
set_option maxRecDepth 100000 in
theorem prog_walk.walkIn (w0 : World) (rl Bj m : Nat) (J Jx : List (Int × S64) → World → Prop) (go : List (Int × S64) → (Int × S64) → Bool) (all : List (Int × S64))
    (hw0 : w0.heap.size ≤ Bj)
    (hJ : ∀ pre W W', J pre W → Below Bj W W' → J pre W')
    (hY : ∀ pre x v W, J pre W → StmtAt w0 x.2 v → Below w0.heap.size w0 W → Bj ≤ W.heap.size → (pre ++ [x]) <+: all → YieldAt Fence.wide m Try.prog rl #[.int .i64 x.1, v] W fun e W' =>
      e = .returned (.bool (go pre x)) ∧ (go pre x = true → J (pre ++ [x]) W' ∧ Keeps Bj none W W' ∧ Below w0.heap.size w0 W') ∧ (go pre x = false → Jx (pre ++ [x]) W'))
    (k : Nat) : ∀ (l : List S64) (n : Int) (its : List (Int × S64)) (n' : Int) (pre : List (Int × S64)) (W : World) (G : Nat) (A : Option Addr) (c : Nat),
    prog_walk.f k l n = some (its, n') → Kd.C k64 w0 A l.length l → l.length ≤ c → Below w0.heap.size w0 W → W.heap[G]? = some (.cells #[.int .i64 n] 3 (0, 0)) → Bj ≤ G → J pre W → (pre ++ its) <+: all →
    CallsIn Fence.wide m Try.prog 121 #[.slice A l.length c, .pointer (some ⟨G, 0, none⟩), .func (.yield rl) #[] #[]] W (walkPost w0 Bj G J Jx go pre its n' W) := by
  induction k using Nat.strongRecOn with
  | _ k ih =>
  intro l n its n' pre W G A c h hr hc hB hG hGB hJ0 hall
  cases k with
  | zero => exact absurd h (by simp [prog_walk.f])
  | succ k =>
  simp only [prog_walk.f] at h
  have huS := Try.underlying64
  have hl0 := hr.1
  refine callsIn_of_wp Try.func121 rfl trivial ?_ rfl
  simp only [Try.ntmps121, List.size_toArray, List.length_cons, List.length_nil, Nat.reduceAdd, Nat.reduceSub, Array.replicate_succ, Array.replicate_zero, List.push_toArray, List.append_toArray, List.nil_append, List.cons_append]
  have HR := Aside0.mk hr
  have HC := Aside0.mk hc
  have HB := Aside0.mk hB
  have BG := Aside0.mk hG
  have hGlt := blk_lt hG
  have HGB := Aside0.mk hGB
  have HJ0 := Aside0.mk hJ0
  have HALL := Aside0.mk hall
  have H' := Aside0.mk h
  have ih' := Aside0.mk ih
  have hJ' := Aside0.mk hJ
  have hY' := Aside0.mk hY
  clear hr hc hB hG hGB hJ0 hall h ih hJ hY hl0
  gi_wp2
  gi_loopw [11] (fun v11 wr => ∃ (kq : Nat) (i cnt : Int) (done rest : List (Int × S64)), v11 = .int .i64 i ∧ Aside0 (0 ≤ i) ∧ Aside0 (prog_walk.l0 kq l i cnt = some (rest, n')) ∧ Aside0 (kq ≤ k) ∧ Aside0 (its = done ++ rest) ∧ Aside0 (stopAt go pre done = none) ∧
      Aside0 (J (pre ++ done) wr) ∧ Aside0 (wr.heap[G]? = some (.cells #[.int .i64 cnt] 3 (0, 0))) ∧ Aside0 (Keeps Bj (some G) W wr) ∧ Aside0 (Below w0.heap.size w0 wr)) (fun v11 _ => l.length - (intOf v11).toNat)
  case atStart => exact ⟨k, 0, n, [], its, rfl, ⟨Int.le_refl _⟩, H', ⟨Nat.le_refl _⟩, ⟨rfl⟩, ⟨rfl⟩, ⟨by simpa using HJ0.out⟩, BG, ⟨Keeps.refl _ _ _⟩, HB⟩
  case round =>
    clear H' HJ0 BG HB
    obtain ⟨kq, i, cnt, done, rest, rfl, HI0, HA, HK, HE, HS, HJ1, BG, KP, HB⟩ := hrel
    cases kq with
    | zero => exact absurd HA.out (by simp [prog_walk.l0])
    | succ k1 =>
      have H := HA.out
      clear HA
      simp only [prog_walk.l0] at H
      have H2 := ite_b H
      clear H
      have hGl := blk_lt BG.out
      have hg0 : wr.cell? ⟨G, 0, none⟩ = some (.int .i64 cnt) := (blk_cell BG.out 0).trans rfl
      have hf0 := blk_frozen BG.out 0
      have hi0 := HI0.out
      have hl : l.length ≤ 9223372036854775807 := HR.out.2.1
      rcases H2 with ⟨t1, H⟩ | ⟨t1, H⟩
      case inr =>
        injection (Option.some.inj H) with e1 e2
        subst e1 e2
        clear H
        gi_wp2
        go_ret
        have e : its = done := by simpa using HE.out
        exact .inl ⟨by rw [e]; exact HS.out, rfl, by rw [e]; exact HJ1.out, BG.out, KP.out, HB.out⟩
      have H2 := ite_b H
      clear H
      rcases H2 with ⟨t2, H⟩ | ⟨t2, H⟩
      case inr => exact absurd H (by simp)
      have p1 : i < (l.length : Int) := of_decide_eq_true t1
      obtain ⟨ad, B2, b2, B3, b3, B4, b4, e1, q0, q1, q2, q3, q4, ql2, qr2, ql3, qr3, ql4, qr4⟩ := at_T64 HR.out i hi0 p1
      cases e1
      replace q0 := (HB.out.cell (World.block_lt_of_cell? w0 _ q0)).trans q0
      replace q1 := (HB.out.cell (World.block_lt_of_cell? w0 _ q1)).trans q1
      replace q2 := (HB.out.cell (World.block_lt_of_cell? w0 _ q2)).trans q2
      replace q3 := (HB.out.cell (World.block_lt_of_cell? w0 _ q3)).trans q3
      replace q4 := (HB.out.cell (World.block_lt_of_cell? w0 _ q4)).trans q4
      have QV := Aside0.mk (show StmtAt w0 (rd_T64 l i) _ from ⟨B2, b2, B3, b3, B4, b4, rfl, ql2, qr2, ql3, qr3, ql4, qr4⟩)
      have QL3 := Aside0.mk ql3
      have QR3 := Aside0.mk qr3
      have QL4 := Aside0.mk ql4
      have QR4 := Aside0.mk qr4
      clear ql2 qr2 ql3 qr3 ql4 qr4
      replace H := Option.bind_eq_some_iff.mp H
      obtain ⟨⟨ti, tn⟩, T0, H⟩ := H
      replace H := Option.bind_eq_some_iff.mp H
      obtain ⟨⟨ei, en⟩, E0, H⟩ := H
      replace H := Option.bind_eq_some_iff.mp H
      obtain ⟨⟨ri, rn⟩, R0, H⟩ := H
      injection (Option.some.inj H) with e1 e2
      clear H
      dsimp only at T0 E0 R0 e1 e2
      subst e2
      have TT := Aside0.mk T0
      have EE := Aside0.mk E0
      have RR := Aside0.mk R0
      have RE := Aside0.mk e1
      clear T0 E0 R0 e1
      have cw := Aside0.mk (walk_world BG.out (.cells #[.int .i64 (rd_T64 l i).f0, .int .i64 (rd_T64 l i).f1, .slice B2 (rd_T64 l i).f2.length b2, .slice B3 (rd_T64 l i).f3.length b3, .slice B4 (rd_T64 l i).f4.length b4] 64) (u := .int .i64 (wrap64 (cnt + 1))))
      gi_wp2
      obtain ⟨bG, bS, gW1⟩ := cw.out
      clear cw
      generalize ((wr.setCell ⟨G, 0, none⟩ (.int .i64 (wrap64 (cnt + 1)))).alloc (.cells #[.int .i64 (rd_T64 l i).f0, .int .i64 (rd_T64 l i).f1, .slice B2 (rd_T64 l i).f2.length b2, .slice B3 (rd_T64 l i).f3.length b3, .slice B4 (rd_T64 l i).f4.length b4] 64)) = W1 at bG bS gW1 ⊢
      generalize wrap64 (cnt + 1) = c1 at TT RE bG ⊢
      have hxw : IntKind.i64.wrap (c1 - 1) = wrap64 (c1 - 1) := i64_w _
      have hd0 : W1.cell? ⟨G, 0, none⟩ = some (.int .i64 c1) := (blk_cell bG 0).trans rfl
      obtain ⟨s0, s1, s2, s3, s4⟩ := cells5 bS
      have hWB : Bj ≤ wr.heap.size := by have := HGB.out; omega
      have KW : Aside0 (Keeps Bj (some G) W W1) := ⟨KP.out.trans ⟨gW1.size, fun j _ h2 h3 => gW1.block j h2 h3⟩⟩
      have BW : Aside0 (Below w0.heap.size w0 W1) := ⟨below_gr HB.out gW1 (by have := HGB.out; omega)⟩
      have JW : Aside0 (J (pre ++ done) W1) := ⟨hJ'.out _ _ _ HJ1.out ⟨gW1.os, gW1.tape, gW1.output, gW1.size, fun j hj => gW1.block j (by omega) (by intro e; injection e with e; have := HGB.out; omega)⟩⟩
      have hszW : wr.heap.size < W1.heap.size := blk_lt bS
      have hpre : Aside0 ((pre ++ done ++ [(wrap64 (c1 - 1), rd_T64 l i)]) <+: all) := ⟨by
        refine List.IsPrefix.trans ?_ HALL.out
        rw [HE.out, ← RE.out]
        exact ⟨ti ++ (ei ++ ri), by simp⟩⟩
      have BGW := Aside0.mk bG
      have BSW := Aside0.mk bS
      have hyl := hY'.out (pre ++ done) (wrap64 (c1 - 1), rd_T64 l i) _ W1.drew (hJ'.out _ _ _ JW.out (bd1 (Below.refl _ _))) QV.out (bd1 BW.out) (by show Bj ≤ W1.heap.size; omega) hpre.out
      obtain ⟨fn, tmps, assign, body, hy, hR0⟩ := hyl
      clear bG bS gW1 q0 q1 q2 q3 q4 hg0 hf0 BG HB HJ1
      dsimp only at hy hR0
      refine wpIn_region_any (by kernel_rfl) ?_
      change wpAnyIn _ _ _ _ _ _ _ _ _ (World.drew _)
      refine wpAnyIn_take (i := 0) (v := .func (.yield rl) #[] #[]) rfl rfl (by kernel_rfl) (by kernel_rfl) (by kernel_rfl) (fun _ _ _ h => h) ⟨Or.inl ⟨by rfl, fun _ => by go_simp⟩, fun _ => rfl⟩ ?_
      go_simp
      refine wpAnyIn_take (i := 1) (v := .pointer (some ⟨G, 0, none⟩)) rfl rfl (by kernel_rfl) (by kernel_rfl) (by kernel_rfl) (fun _ _ _ h => h) ⟨Or.inl ⟨by rfl, fun _ => by go_simp⟩, fun _ => rfl⟩ ?_
      go_simp
      refine (fun (key : ?KeyT) => ?main) ?key
      case main =>
        skip
        refine wpAnyIn_ready (rs := [2, 5]) (by kernel_rfl) (by simp) ?_
        refine AllReadyIn.cons rfl (fun K hK => ?_) (AllReadyIn.cons rfl (fun K hK => ?_) AllReadyIn.nil)
        · go_simp
          refine hK _ _ ?_
          clear hK K
          refine wpAnyIn_ready (rs := [3, 5]) (by kernel_rfl) (by simp) ?_
          refine AllReadyIn.cons rfl (fun K hK => ?_) (AllReadyIn.cons rfl (fun K hK => ?_) AllReadyIn.nil)
          · go_simp
            refine hK _ _ ?_
            clear hK K
            refine wpAnyIn_take (i := 4) (v := .int .i64 (wrap64 (c1 - 1))) rfl rfl (by kernel_rfl) (by kernel_rfl) (by kernel_rfl) (fun _ _ _ h => h) ⟨Or.inl ⟨by rfl, fun _ => by go_simp⟩, fun _ => rfl⟩ ?_
            go_simp
            refine wpAnyIn_ready (rs := [5]) (by kernel_rfl) (by simp) (AllReadyIn.cons rfl (fun K hK => ?_) AllReadyIn.nil)
            go_simp
            refine hK _ _ ?_
            clear hK K
            exact key
          · go_simp
            refine hK _ _ ?_
            clear hK K
            refine wpAnyIn_ready (rs := [3]) (by kernel_rfl) (by simp) (AllReadyIn.cons rfl (fun K hK => ?_) AllReadyIn.nil)
            go_simp
            refine hK _ _ ?_
            clear hK K
            refine wpAnyIn_take (i := 4) (v := .int .i64 (wrap64 (c1 - 1))) rfl rfl (by kernel_rfl) (by kernel_rfl) (by kernel_rfl) (fun _ _ _ h => h) ⟨Or.inl ⟨by rfl, fun _ => by go_simp⟩, fun _ => rfl⟩ ?_
            go_simp
            exact key
        · go_simp
          refine hK _ _ ?_
          clear hK K
          refine wpAnyIn_ready (rs := [2]) (by kernel_rfl) (by simp) (AllReadyIn.cons rfl (fun K hK => ?_) AllReadyIn.nil)
          go_simp
          refine hK _ _ ?_
          clear hK K
          refine wpAnyIn_ready (rs := [3]) (by kernel_rfl) (by simp) (AllReadyIn.cons rfl (fun K hK => ?_) AllReadyIn.nil)
          go_simp
          refine hK _ _ ?_
          clear hK K
          refine wpAnyIn_take (i := 4) (v := .int .i64 (wrap64 (c1 - 1))) rfl rfl (by kernel_rfl) (by kernel_rfl) (by kernel_rfl) (fun _ _ _ h => h) ⟨Or.inl ⟨by rfl, fun _ => by go_simp⟩, fun _ => rfl⟩ ?_
          go_simp
          exact key
      refine wpAnyIn_ready (rs := [6]) (by kernel_rfl) (by simp) (AllReadyIn.cons rfl (fun K hK => ?_) AllReadyIn.nil)
      go_simp
      gi_wp2_with (first | (refine ⟨wide_depth, ?_⟩; refine (round_any hR0).mono ?_; rintro e W2 ⟨rfl, hx, hx2⟩))
      clear hR0 hy
      cases hgo : go (pre ++ done) (wrap64 (c1 - 1), rd_T64 l i) with
      | false =>
        clear hx
        replace hx2 := hx2 hgo
        refine wpAnyIn_take (i := 7) (v := .bool true) rfl rfl (by kernel_rfl) (by kernel_rfl) (by kernel_rfl) (fun _ _ _ h => h) ⟨Or.inl ⟨by rfl, fun _ => by go_simp⟩, fun _ => rfl⟩ ?_
        go_simp
        refine wpAnyIn_take (i := 8) (v := .bool true) rfl rfl (by kernel_rfl) (by kernel_rfl) (by kernel_rfl) (fun _ _ _ h => h) ⟨Or.inl ⟨by rfl, fun _ => by go_simp⟩, fun _ => rfl⟩ ?_
        go_simp
        refine wpAnyIn_take (i := 9) (v := undef) rfl rfl (by kernel_rfl) (by kernel_rfl) (by kernel_rfl) (fun _ _ _ h => h) ⟨Or.inr ⟨by rfl, rfl⟩, fun _ => rfl⟩ ?_
        go_simp
        refine wpAnyIn_take (i := 10) (v := undef) rfl rfl (by kernel_rfl) (by kernel_rfl) (by kernel_rfl) (fun _ _ _ h => h) ⟨Or.inr ⟨by rfl, rfl⟩, fun _ => rfl⟩ ?_
        go_simp
        refine wpAnyIn_take (i := 11) (v := undef) rfl rfl (by kernel_rfl) (by kernel_rfl) (by kernel_rfl) (fun _ _ _ h => h) ⟨Or.inr ⟨by rfl, rfl⟩, fun _ => rfl⟩ ?_
        go_simp
        refine wpAnyIn_take (i := 12) (v := undef) rfl rfl (by kernel_rfl) (by kernel_rfl) (by kernel_rfl) (fun _ _ _ h => h) ⟨Or.inr ⟨by rfl, rfl⟩, fun _ => rfl⟩ ?_
        go_simp
        refine wpAnyIn_ready (rs := [13]) (by kernel_rfl) (by simp) (AllReadyIn.cons rfl (fun K hK => ?_) AllReadyIn.nil)
        go_simp
        refine ⟨trivial, ?_⟩
        refine hK _ _ ?_
        clear hK K
        refine wpAnyIn_take (i := 14) (v := undef) rfl rfl (by kernel_rfl) (by kernel_rfl) (by kernel_rfl) (fun _ _ _ h => h) ⟨Or.inr ⟨by rfl, rfl⟩, fun _ => rfl⟩ ?_
        go_simp
        refine wpAnyIn_take (i := 15) (v := .bool true) rfl rfl (by kernel_rfl) (by kernel_rfl) (by kernel_rfl) (fun _ _ _ h => h) ⟨Or.inl ⟨by rfl, fun _ => by go_simp⟩, fun _ => rfl⟩ ?_
        go_simp
        refine wpAnyIn_take (i := 16) (v := .bool true) rfl rfl (by kernel_rfl) (by kernel_rfl) (by kernel_rfl) (fun _ _ _ h => h) ⟨Or.inl ⟨by rfl, fun _ => by go_simp⟩, fun _ => rfl⟩ ?_
        go_simp
        refine wpAnyIn_take (i := 17) (v := undef) rfl rfl (by kernel_rfl) (by kernel_rfl) (by kernel_rfl) (fun _ _ _ h => h) ⟨Or.inr ⟨by rfl, rfl⟩, fun _ => rfl⟩ ?_
        go_simp
        refine wpAnyIn_take (i := 18) (v := undef) rfl rfl (by kernel_rfl) (by kernel_rfl) (by kernel_rfl) (fun _ _ _ h => h) ⟨Or.inr ⟨by rfl, rfl⟩, fun _ => rfl⟩ ?_
        go_simp
        refine wpAnyIn_take (i := 19) (v := undef) rfl rfl (by kernel_rfl) (by kernel_rfl) (by kernel_rfl) (fun _ _ _ h => h) ⟨Or.inr ⟨by rfl, rfl⟩, fun _ => rfl⟩ ?_
        go_simp
        refine wpAnyIn_take (i := 20) (v := undef) rfl rfl (by kernel_rfl) (by kernel_rfl) (by kernel_rfl) (fun _ _ _ h => h) ⟨Or.inr ⟨by rfl, rfl⟩, fun _ => rfl⟩ ?_
        go_simp
        refine wpAnyIn_ready (rs := [21]) (by kernel_rfl) (by simp) (AllReadyIn.cons rfl (fun K hK => ?_) AllReadyIn.nil)
        go_simp
        refine ⟨trivial, ?_⟩
        refine hK _ _ ?_
        clear hK K
        refine wpAnyIn_take (i := 22) (v := undef) rfl rfl (by kernel_rfl) (by kernel_rfl) (by kernel_rfl) (fun _ _ _ h => h) ⟨Or.inr ⟨by rfl, rfl⟩, fun _ => rfl⟩ ?_
        go_simp
        refine wpAnyIn_take (i := 23) (v := .bool true) rfl rfl (by kernel_rfl) (by kernel_rfl) (by kernel_rfl) (fun _ _ _ h => h) ⟨Or.inl ⟨by rfl, fun _ => by go_simp⟩, fun _ => rfl⟩ ?_
        go_simp
        refine wpAnyIn_done (by kernel_rfl) ?_ _
        gi_wp2
        go_ret
        refine .inr ⟨done ++ [(wrap64 (c1 - 1), rd_T64 l i)], ?_, rfl, by simpa using hx2⟩
        rw [HE.out, ← RE.out, stopAt_over HS.out, stopAt, if_neg (by simp [hgo])]
        rfl
      | true =>
        clear hx2
        obtain ⟨j2, k2, b2'⟩ := hx hgo
        clear hx
        have BG2 : W2.heap[G]? = some (.cells #[.int .i64 c1] 3 (0, 0)) := (k2.block G HGB.out (blk_lt BGW.out) (by simp)).trans BGW.out
        have BS2 := (k2.block wr.heap.size hWB hszW (by simp)).trans BSW.out
        have K2 := Aside0.mk k2
        have J2 := Aside0.mk j2
        have B2' := Aside0.mk b2'
        have G2 := Aside0.mk BG2
        have S2 := Aside0.mk BS2
        obtain ⟨s0, s1, s2, s3, s4⟩ := cells5 BS2
        clear j2 k2 b2' BG2 BS2
        refine wpAnyIn_take (i := 7) (v := .bool false) rfl rfl (by kernel_rfl) (by kernel_rfl) (by kernel_rfl) (fun _ _ _ h => h) ⟨Or.inl ⟨by rfl, fun _ => by go_simp⟩, fun _ => rfl⟩ ?_
        go_simp
        refine wpAnyIn_take (i := 8) (v := .bool false) rfl rfl (by kernel_rfl) (by kernel_rfl) (by kernel_rfl) (fun _ _ _ h => h) ⟨Or.inl ⟨by rfl, fun _ => by go_simp⟩, fun _ => rfl⟩ ?_
        go_simp
        refine wpAnyIn_take (i := 9) (v := .pointer (some ⟨wr.heap.size, 3, none⟩)) rfl rfl (by kernel_rfl) (by kernel_rfl) (by kernel_rfl) (fun _ _ _ h => h) ⟨Or.inl ⟨by rfl, fun _ => by go_simp⟩, fun _ => rfl⟩ ?_
        go_simp
        refine wpAnyIn_take (i := 11) (v := .pointer (some ⟨G, 0, none⟩)) rfl rfl (by kernel_rfl) (by kernel_rfl) (by kernel_rfl) (fun _ _ _ h => h) ⟨Or.inl ⟨by rfl, fun _ => by go_simp⟩, fun _ => rfl⟩ ?_
        go_simp
        refine wpAnyIn_take (i := 12) (v := .func (.yield rl) #[] #[]) rfl rfl (by kernel_rfl) (by kernel_rfl) (by kernel_rfl) (fun _ _ _ h => h) ⟨Or.inl ⟨by rfl, fun _ => by go_simp⟩, fun _ => rfl⟩ ?_
        go_simp
        refine wpAnyIn_ready (rs := [10]) (by kernel_rfl) (by simp) (AllReadyIn.cons rfl (fun K hK => ?_) AllReadyIn.nil)
        go_simp
        refine hK _ _ ?_
        clear hK K
        refine wpAnyIn_ready (rs := [13]) (by kernel_rfl) (by simp) (AllReadyIn.cons rfl (fun K hK => ?_) AllReadyIn.nil)
        go_simp
        refine ⟨trivial, wide_depth, ?_⟩
        refine (calls_any (m' := m - 1) (ih'.out k1 (by have := HK.out; omega) (rd_T64 l i).f3 c1 ti tn (pre ++ done ++ [(wrap64 (c1 - 1), rd_T64 l i)]) W2 G _ _ TT.out QR3.out QL3.out B2'.out G2.out HGB.out J2.out ?pf)).mono ?_
        case pf =>
          refine List.IsPrefix.trans ?_ HALL.out
          rw [HE.out, ← RE.out]
          exact ⟨ei ++ ri, by simp⟩
        rintro e W3 hw3
        cases hst : stopAt go (pre ++ done ++ [(wrap64 (c1 - 1), rd_T64 l i)]) ti with
        | some q =>
          obtain ⟨h0, _⟩ | ⟨q', h0, rfl, hx2⟩ := hw3
          · exact absurd (h0.symm.trans hst) (by simp)
          cases (h0.symm.trans hst)
          refine hK _ _ ?_
          clear hK K
          refine wpAnyIn_take (i := 14) (v := .bool true) rfl rfl (by kernel_rfl) (by kernel_rfl) (by kernel_rfl) (fun _ _ _ h => h) ⟨Or.inl ⟨by rfl, fun _ => by go_simp⟩, fun _ => rfl⟩ ?_
          go_simp
          refine wpAnyIn_take (i := 15) (v := .bool true) rfl rfl (by kernel_rfl) (by kernel_rfl) (by kernel_rfl) (fun _ _ _ h => h) ⟨Or.inl ⟨by rfl, fun _ => by go_simp⟩, fun _ => rfl⟩ ?_
          go_simp
          refine wpAnyIn_take (i := 16) (v := .bool true) rfl rfl (by kernel_rfl) (by kernel_rfl) (by kernel_rfl) (fun _ _ _ h => h) ⟨Or.inl ⟨by rfl, fun _ => by go_simp⟩, fun _ => rfl⟩ ?_
          go_simp
          refine wpAnyIn_take (i := 17) (v := undef) rfl rfl (by kernel_rfl) (by kernel_rfl) (by kernel_rfl) (fun _ _ _ h => h) ⟨Or.inr ⟨by rfl, rfl⟩, fun _ => rfl⟩ ?_
          go_simp
          refine wpAnyIn_take (i := 18) (v := undef) rfl rfl (by kernel_rfl) (by kernel_rfl) (by kernel_rfl) (fun _ _ _ h => h) ⟨Or.inr ⟨by rfl, rfl⟩, fun _ => rfl⟩ ?_
          go_simp
          refine wpAnyIn_take (i := 19) (v := undef) rfl rfl (by kernel_rfl) (by kernel_rfl) (by kernel_rfl) (fun _ _ _ h => h) ⟨Or.inr ⟨by rfl, rfl⟩, fun _ => rfl⟩ ?_
          go_simp
          refine wpAnyIn_take (i := 20) (v := undef) rfl rfl (by kernel_rfl) (by kernel_rfl) (by kernel_rfl) (fun _ _ _ h => h) ⟨Or.inr ⟨by rfl, rfl⟩, fun _ => rfl⟩ ?_
          go_simp
          refine wpAnyIn_ready (rs := [21]) (by kernel_rfl) (by simp) (AllReadyIn.cons rfl (fun K hK => ?_) AllReadyIn.nil)
          go_simp
          refine ⟨trivial, ?_⟩
          refine hK _ _ ?_
          clear hK K
          refine wpAnyIn_take (i := 22) (v := undef) rfl rfl (by kernel_rfl) (by kernel_rfl) (by kernel_rfl) (fun _ _ _ h => h) ⟨Or.inr ⟨by rfl, rfl⟩, fun _ => rfl⟩ ?_
          go_simp
          refine wpAnyIn_take (i := 23) (v := .bool true) rfl rfl (by kernel_rfl) (by kernel_rfl) (by kernel_rfl) (fun _ _ _ h => h) ⟨Or.inl ⟨by rfl, fun _ => by go_simp⟩, fun _ => rfl⟩ ?_
          go_simp
          refine wpAnyIn_done (by kernel_rfl) ?_ _
          gi_wp2
          go_ret
          refine .inr ⟨done ++ [(wrap64 (c1 - 1), rd_T64 l i)] ++ q, ?_, rfl, by simpa using hx2⟩
          rw [HE.out, ← RE.out, stopAt_over HS.out, stopAt_one hgo, stopAt_in hst]
          simp
        | none =>
          obtain ⟨_, rfl, j3, g3, k3, b3'⟩ | ⟨q', h0, _, _⟩ := hw3
          rotate_left
          · exact absurd (h0.symm.trans hst) (by simp)
          have BS3 := (k3.block wr.heap.size hWB (blk_lt S2.out) (by intro e; injection e with e; omega)).trans S2.out
          have K3 := Aside0.mk k3
          have J3 := Aside0.mk j3
          have B3' := Aside0.mk b3'
          have G3 := Aside0.mk g3
          have S3 := Aside0.mk BS3
          clear s0 s1 s2 s3 s4
          obtain ⟨s0, s1, s2, s3, s4⟩ := cells5 BS3
          clear j3 k3 b3' g3 BS3
          refine hK _ _ ?_
          clear hK K
          refine wpAnyIn_take (i := 14) (v := .bool false) rfl rfl (by kernel_rfl) (by kernel_rfl) (by kernel_rfl) (fun _ _ _ h => h) ⟨Or.inl ⟨by rfl, fun _ => by go_simp⟩, fun _ => rfl⟩ ?_
          go_simp
          refine wpAnyIn_take (i := 15) (v := .bool false) rfl rfl (by kernel_rfl) (by kernel_rfl) (by kernel_rfl) (fun _ _ _ h => h) ⟨Or.inl ⟨by rfl, fun _ => by go_simp⟩, fun _ => rfl⟩ ?_
          go_simp
          refine wpAnyIn_take (i := 16) (v := .bool false) rfl rfl (by kernel_rfl) (by kernel_rfl) (by kernel_rfl) (fun _ _ _ h => h) ⟨Or.inl ⟨by rfl, fun _ => by go_simp⟩, fun _ => rfl⟩ ?_
          go_simp
          refine wpAnyIn_take (i := 17) (v := .pointer (some ⟨wr.heap.size, 4, none⟩)) rfl rfl (by kernel_rfl) (by kernel_rfl) (by kernel_rfl) (fun _ _ _ h => h) ⟨Or.inl ⟨by rfl, fun _ => by go_simp⟩, fun _ => rfl⟩ ?_
          go_simp
          refine wpAnyIn_take (i := 19) (v := .pointer (some ⟨G, 0, none⟩)) rfl rfl (by kernel_rfl) (by kernel_rfl) (by kernel_rfl) (fun _ _ _ h => h) ⟨Or.inl ⟨by rfl, fun _ => by go_simp⟩, fun _ => rfl⟩ ?_
          go_simp
          refine wpAnyIn_take (i := 20) (v := .func (.yield rl) #[] #[]) rfl rfl (by kernel_rfl) (by kernel_rfl) (by kernel_rfl) (fun _ _ _ h => h) ⟨Or.inl ⟨by rfl, fun _ => by go_simp⟩, fun _ => rfl⟩ ?_
          go_simp
          refine wpAnyIn_ready (rs := [18]) (by kernel_rfl) (by simp) (AllReadyIn.cons rfl (fun K hK => ?_) AllReadyIn.nil)
          go_simp
          refine hK _ _ ?_
          clear hK K
          refine wpAnyIn_ready (rs := [21]) (by kernel_rfl) (by simp) (AllReadyIn.cons rfl (fun K hK => ?_) AllReadyIn.nil)
          go_simp
          refine ⟨trivial, wide_depth, ?_⟩
          refine (calls_any (m' := m - 1) (ih'.out k1 (by have := HK.out; omega) (rd_T64 l i).f4 tn ei en ((pre ++ done ++ [(wrap64 (c1 - 1), rd_T64 l i)]) ++ ti) W3 G _ _ EE.out QR4.out QL4.out B3'.out G3.out HGB.out J3.out ?pf)).mono ?_
          case pf =>
            refine List.IsPrefix.trans ?_ HALL.out
            rw [HE.out, ← RE.out]
            exact ⟨ri, by simp⟩
          rintro e W4 hw4
          cases hst2 : stopAt go ((pre ++ done ++ [(wrap64 (c1 - 1), rd_T64 l i)]) ++ ti) ei with
          | some q =>
            obtain ⟨h0, _⟩ | ⟨q', h0, rfl, hx2⟩ := hw4
            · exact absurd (h0.symm.trans hst2) (by simp)
            cases (h0.symm.trans hst2)
            refine hK _ _ ?_
            clear hK K
            refine wpAnyIn_take (i := 22) (v := .bool true) rfl rfl (by kernel_rfl) (by kernel_rfl) (by kernel_rfl) (fun _ _ _ h => h) ⟨Or.inl ⟨by rfl, fun _ => by go_simp⟩, fun _ => rfl⟩ ?_
            go_simp
            refine wpAnyIn_take (i := 23) (v := .bool true) rfl rfl (by kernel_rfl) (by kernel_rfl) (by kernel_rfl) (fun _ _ _ h => h) ⟨Or.inl ⟨by rfl, fun _ => by go_simp⟩, fun _ => rfl⟩ ?_
            go_simp
            refine wpAnyIn_done (by kernel_rfl) ?_ _
            gi_wp2
            go_ret
            refine .inr ⟨done ++ [(wrap64 (c1 - 1), rd_T64 l i)] ++ ti ++ q, ?_, rfl, by simpa using hx2⟩
            rw [HE.out, ← RE.out, stopAt_over HS.out, stopAt_one hgo, stopAt_over hst, stopAt_in hst2]
            simp
          | none =>
            obtain ⟨_, rfl, j4, g4, k4, b4'⟩ | ⟨q', h0, _, _⟩ := hw4
            rotate_left
            · exact absurd (h0.symm.trans hst2) (by simp)
            clear s0 s1 s2 s3 s4
            refine hK _ _ ?_
            clear hK K
            refine wpAnyIn_take (i := 22) (v := .bool false) rfl rfl (by kernel_rfl) (by kernel_rfl) (by kernel_rfl) (fun _ _ _ h => h) ⟨Or.inl ⟨by rfl, fun _ => by go_simp⟩, fun _ => rfl⟩ ?_
            go_simp
            refine wpAnyIn_take (i := 23) (v := .bool false) rfl rfl (by kernel_rfl) (by kernel_rfl) (by kernel_rfl) (fun _ _ _ h => h) ⟨Or.inl ⟨by rfl, fun _ => by go_simp⟩, fun _ => rfl⟩ ?_
            go_simp
            refine wpAnyIn_done (by kernel_rfl) ?_ _
            gi_wp2
            have hw : wrap64 (i + 1) = i + 1 := IntWalk.wrap64_in _ ⟨by omega, by omega⟩
            have hrr := RR.out
            rw [hw] at hrr
            refine ⟨⟨k1, i + 1, en, done ++ ((wrap64 (c1 - 1), rd_T64 l i) :: (ti ++ ei)), ri, rfl, ⟨by omega⟩, ⟨hrr⟩, ⟨by have := HK.out; omega⟩, ⟨by rw [HE.out, ← RE.out]; simp⟩, ⟨?_⟩, ⟨by simpa using j4⟩, ⟨g4⟩, ⟨?_⟩, ⟨b4'⟩⟩, ?_⟩
            · rw [stopAt_over HS.out, stopAt_one hgo, stopAt_over hst, hst2]
              rfl
            · exact KW.out.trans ((Keeps.some (g := some G) (show Keeps Bj none W1 W2 from ⟨K2.out.size, K2.out.block⟩)).trans (K3.out.trans k4))
            · have e1 : intOf (Value.int IntKind.i64 (i + 1)) = i + 1 := rfl
              have e2 : intOf (Value.int IntKind.i64 i) = i := rfl
              rw [e1, e2]
              omega
end Go.Proofs.Ytilebfkehmecaaa.Print
namespace Go.Proofs.Ytilebfkehmecaaa.Print
open Go.RowKit Go.Proofs.YtilebfkehmecaaaW.PrintWords Go.Proofs.YtilebfkehmecaaaW.PrintLast Go.Proofs.YtilebfkehmecaaaW.PrintMore
attribute [local go_sem] max2_int min2_int max_two min_two max_three min_three max_four min_four
set_option linter.unusedVariables false
set_option linter.unusedSimpArgs false
open Go.Shelf Go.RowKit
def SeqBy {α : Type} (P : Program) (gf : Nat) (lb : Array Value) (E : α → Array Value → Prop) (its : List α) (w0 : World) : Prop :=
  ∀ (m l : Nat) (J Jx : List α → World → Prop) (go : List α → α → Bool) (W : World), Below w0.heap.size w0 W →
    (∀ pre A B, J pre A → Below W.heap.size A B → J pre B) →
    (∀ pre x av A, J pre A → E x av → Below w0.heap.size w0 A → W.heap.size ≤ A.heap.size → (pre ++ [x]) <+: its → YieldAt Fence.wide m P l av A fun e B =>
      e = .returned (.bool (go pre x)) ∧ (go pre x = true → J (pre ++ [x]) B ∧ Keeps W.heap.size none A B ∧ Below w0.heap.size w0 B) ∧ (go pre x = false → Jx (pre ++ [x]) B)) →
    J [] W →
    CallsIn Fence.wide m P gf (#[.func (.yield l) #[] #[]] ++ lb) W fun e W' => (∃ v, e = .returned v) ∧
      ((stopAt go [] its = none ∧ J its W' ∧ Below w0.heap.size w0 W') ∨ (∃ q, stopAt go [] its = some q ∧ Jx q W'))
def roundBy {α : Type} (S0 : Nat) (w0 : World) (I : List α → World → Prop) (Ix : Code → List α → World → Prop) (go : List α → α → Bool) (pre : List α) (x : α) (W W2 : World) : Exit → Act → World → Prop
  | .normal, _, W3 => go pre x = true ∧ W2.heap.size ≤ W3.heap.size ∧ (∀ k, S0 ≤ k → k < W.heap.size → W3.heap[k]? = W2.heap[k]?) ∧ Below w0.heap.size w0 W3 ∧ I (pre ++ [x]) W3
  | .ret, _, W3 => go pre x = false ∧ (∀ k, S0 ≤ k → k < W.heap.size → W3.heap[k]? = W2.heap[k]?) ∧ Ix .ret (pre ++ [x]) W3
  | .exit id, _, W3 => go pre x = false ∧ (∀ k, S0 ≤ k → k < W.heap.size → W3.heap[k]? = W2.heap[k]?) ∧ Ix (.exit id) (pre ++ [x]) W3
  | _, _, _ => False
theorem below_put (B : Nat) (W : World) {l : Nat} (o : Obj) (h : B ≤ l) : Below B W (W.putObj l o) := by
  have g := grownBy_putObj' W l o
  refine ⟨g.os, g.tape, g.output, g.size, fun k hk => ?_⟩
  exact World.putObj_heap_other (by omega)
set_option maxHeartbeats 2000000 in
theorem wpIn_rangeBy {α : Type} {n : Nat} {P : Program} {g : Operand} {ps : Array Tmp} {assign body : Code} {Q : Exit → Act → World → Prop} {a : Act} {w : World} {gf : Nat} {lb : Array Value}
    (hg : a.eval g = .func (.func gf) #[] lb) (eg : ∀ args w, (callFunc gf args).run P w = .ok (.enter gf args) w)
    {E : α → Array Value → Prop} {its : List α} {w0 : World} (hseq : SeqBy P gf lb E its w0) (hb0 : Below w0.heap.size w0 w) (hps : ∀ x av, E x av → av.size = ps.size)
    (go : List α → α → Bool) (I : List α → World → Prop) (Ix : Code → List α → World → Prop)
    (hI : ∀ pre A B, I pre A → Below w.heap.size A B → I pre B) (hIx : ∀ c pre A (j : Nat) (o o' : Obj), w.heap.size ≤ j → Ix c pre A → A.heap[j]? = some o → o.isCells = false → Ix c pre (A.putObj j o')) (h0 : I [] w)
    (hround : ∀ l pre x av W, I pre W → E x av → (pre ++ [x]) <+: its → Below w0.heap.size w0 W → w.heap.size + 2 ≤ W.heap.size →
      assign.wpIn (Fence.wide.inRound l) n P (Exit.then (fun a1 W1 => W.grownBy W1 none ∧ ∀ W2, W1.grownBy W2 (some (w.heap.size + 1)) → W2.heap.size = W1.heap.size → I pre W2 → Below w0.heap.size w0 W2 →
        body.wpIn (Fence.wide.inRound l) n P (roundBy w.heap.size w0 I Ix go pre x W W2) a1 W2) (fun _ _ _ => False)) { tmps := (ps.zip av).foldl (fun t (p, v) => t.setIfInBounds p v) a.tmps, defers := [] } W)
    (hdone : ∀ W, stopAt go [] its = none → I its W → Below w0.heap.size w0 W → W.heap[w.heap.size]? = some (.deferred (some [])) → Q .normal { a with defers := { target := .collected w.heap.size, args := #[] } :: a.defers } W)
    (hstop : ∀ c q W, stopAt go [] its = some q → Ix c q W → W.heap[w.heap.size]? = some (.deferred (some [])) → c.wpIn Fence.wide n P Q { a with defers := { target := .collected w.heap.size, args := #[] } :: a.defers } W) :
    (Code.rangeFunc g ps assign body).wpIn Fence.wide n P Q a w := by
  refine wpIn_rangeFunc ?_
  intro fn hfn
  obtain ⟨rec, hrec⟩ : ∃ rec : LoopState → Option Code → Loop, rec = fun st pe => { state := st, pending := pe, fn, tmps := a.tmps, params := ps, assign, body, defers := w.heap.size } := ⟨_, rfl⟩
  obtain ⟨W1, hW1⟩ : ∃ W1, (w.alloc (.deferred (some []))).alloc (.loop (rec .ready none)) = W1 := ⟨_, rfl⟩
  have hL1 : W1.heap[w.heap.size + 1]? = some (.loop (rec .ready none)) := by
    rw [← hW1]; have := World.alloc_heap_new (w.alloc (.deferred (some []))) (.loop (rec .ready none)); rwa [World.size_alloc] at this
  have hK1 : W1.heap[w.heap.size]? = some (.deferred (some [])) := by
    rw [← hW1]; exact (Below.heap_alloc _ _ _ (by simp)).trans (World.alloc_heap_new w _)
  have hS1 : W1.heap.size = w.heap.size + 2 := by rw [← hW1]; simp
  have hw1 : Below w.heap.size w W1 := by
    rw [← hW1]; exact ((Below.refl _ w).alloc (Nat.le_refl _) _).alloc (by simp) _
  have hI1 : I [] W1 := hI _ _ _ h0 hw1
  have hb1 : Below w0.heap.size w0 W1 := hb0.trans (hw1.mono hb0.size)
  have hB0 : w0.heap.size ≤ w.heap.size := hb0.size
  refine ⟨w.heap.size + 1, [{ target := .collected w.heap.size, args := #[] }], W1, { target := .fn (.func gf) lb, args := #[.func (.yield (w.heap.size + 1)) #[] #[]] }, W1, gf,
    #[.func (.yield (w.heap.size + 1)) #[] #[]] ++ lb, W1, ?_, ?_, ?_, ?_, wide_depth, ?_⟩
  · rw [← hW1, hrec]; exact run_enterLoop_outer _ _ _ _ _
  · simp only [resolve, hg]
    simp [go_sem]
  · intro f' hf'; trivial
  · simp [invoke, go_sem, eg]
  refine (hseq (n - 1) (w.heap.size + 1)
    (fun pre W => I pre W ∧ W.heap[w.heap.size + 1]? = some (.loop (rec .ready none)) ∧ W.heap[w.heap.size]? = some (.deferred (some [])))
    (fun pre W => ∃ c, Ix c pre W ∧ W.heap[w.heap.size + 1]? = some (.loop (rec .done (some c))) ∧ W.heap[w.heap.size]? = some (.deferred (some [])))
    go W1 hb1
    (fun pre A B hs hb => ⟨hI _ _ _ hs.1 (hb.mono (by omega)), (hb.block _ (by omega)).trans hs.2.1, (hb.block _ (by omega)).trans hs.2.2⟩)
    ?_ ⟨hI1, hL1, hK1⟩).mono ?_
  · rintro pre x av W ⟨hi, hl, hk⟩ hE hbW hsz hpre
    have hlt : w.heap.size + 1 < W.heap.size := (Array.getElem?_eq_some_iff.1 hl).1
    have hy := run_yield (P := P) (args := av) hl (by rw [hrec]; exact hps x av hE)
    rw [hrec] at hy
    refine ⟨fn, _, assign, body, hy, round_any (roundIn_of_wpIn (n := n) trivial ?_)⟩
    refine wpIn_mono (hround (w.heap.size + 1) pre x av W hi hE hpre hbW (by omega)) ?_
    rintro e a1 Wa hp
    cases e with
    | normal =>
      obtain ⟨hga, hbd⟩ := hp
      have hla := (hga.block _ hlt (by simp)).trans hl
      have hka := (hga.block _ (by omega : w.heap.size < W.heap.size) (by simp)).trans hk
      have hgs := hga.size
      have hlta : w.heap.size + 1 < Wa.heap.size := by omega
      refine ⟨_, run_beginRound hla (by rw [hrec]), ?_⟩
      have hg2 := grownBy_putObj' Wa (w.heap.size + 1) (.loop { rec .ready none with state := .busy })
      have hl2 : (Wa.putObj (w.heap.size + 1) (.loop { rec .ready none with state := .busy })).heap[w.heap.size + 1]? = some (.loop { rec .ready none with state := .busy }) := World.putObj_heap_same hlta
      have hk2 : (Wa.putObj (w.heap.size + 1) (.loop { rec .ready none with state := .busy })).heap[w.heap.size]? = some (.deferred (some [])) := (World.putObj_heap_other (by omega)).trans hka
      have hs2 : (Wa.putObj (w.heap.size + 1) (.loop { rec .ready none with state := .busy })).heap.size = Wa.heap.size := by simp
      have hba : Below w.heap.size W Wa := ⟨hga.os, hga.tape, hga.output, hga.size, fun k hk => hga.block k (by omega) (by simp)⟩
      have hb2 : Below w.heap.size W (Wa.putObj (w.heap.size + 1) (.loop { rec .ready none with state := .busy })) := hba.trans (below_put _ _ _ (by omega))
      generalize Wa.putObj (w.heap.size + 1) (.loop { rec .ready none with state := .busy }) = W2 at hg2 hl2 hk2 hs2 hb2 ⊢
      refine wpIn_mono (hbd W2 hg2 hs2 (hI _ _ _ hi hb2) (hbW.trans (hb2.mono hB0))) ?_
      have fin : ∀ (jump : Option Code) (W3 : World), (∀ k, w.heap.size ≤ k → k < W.heap.size → W3.heap[k]? = W2.heap[k]?) →
          (Instr.endRound (w.heap.size + 1) jump).run P W3 = .ok (.bool jump.isNone) (W3.putObj (w.heap.size + 1) (.loop (rec (if jump.isNone then .ready else .done) jump))) ∧
          (W3.putObj (w.heap.size + 1) (.loop (rec (if jump.isNone then .ready else .done) jump))).heap[w.heap.size + 1]? = some (.loop (rec (if jump.isNone then .ready else .done) jump)) ∧
          (W3.putObj (w.heap.size + 1) (.loop (rec (if jump.isNone then .ready else .done) jump))).heap[w.heap.size]? = some (.deferred (some [])) ∧ W3.heap[w.heap.size + 1]? = some (.loop { rec .ready none with state := .busy }) := fun jump W3 hk3 => by
        have hl3 := (hk3 _ (by omega) hlt).trans hl2
        have := run_endRound (P := P) jump hl3
        rw [hrec] at this ⊢
        exact ⟨this, World.putObj_heap_same (Array.getElem?_eq_some_iff.1 hl3).1, (World.putObj_heap_other (by omega)).trans ((hk3 _ (Nat.le_refl _) (by omega)).trans hk2), by rw [hrec] at hl3; exact hl3⟩
      rintro e3 a3 W3 hq
      cases e3 with
      | normal =>
        obtain ⟨hgo, hsz3, hk3, hb3, hi3⟩ := hq
        obtain ⟨hr, hl4, hk4, hl3⟩ := fin none W3 hk3
        have hp3 := below_put w.heap.size W3 (.loop (rec .ready none)) (by omega : w.heap.size ≤ w.heap.size + 1)
        have hg3 := grownBy_putObj' W3 (w.heap.size + 1) (.loop (rec .ready none))
        refine ⟨_, _, hr, by rw [hgo]; rfl, fun _ => ⟨⟨hI _ _ _ hi3 hp3, hl4, hk4⟩, ⟨?_, ?_⟩, hb3.trans (hp3.mono hB0)⟩, fun h => by rw [hgo] at h; cases h⟩
        · have := hg3.size; simp only [Option.isNone_none, if_true]; omega
        · intro k h1 h2 _
          simp only [Option.isNone_none, if_true]
          rw [World.putObj_heap_other (by omega), hk3 k (by omega) h2, hg2.block k (by omega) (by intro e; injection e with e; omega)]
          exact hga.block k h2 (by simp)
      | ret =>
        obtain ⟨hgo, hk3, hi3⟩ := hq
        obtain ⟨hr, hl4, hk4, hl3⟩ := fin (some .ret) W3 hk3
        exact ⟨_, _, hr, by rw [hgo]; rfl, fun h => (by rw [hgo] at h; cases h), fun _ => ⟨.ret, hIx _ _ _ _ _ _ (by omega) hi3 hl3 rfl, hl4, hk4⟩⟩
      | exit id =>
        obtain ⟨hgo, hk3, hi3⟩ := hq
        obtain ⟨hr, hl4, hk4, hl3⟩ := fin (some (.exit id)) W3 hk3
        exact ⟨_, _, hr, by rw [hgo]; rfl, fun h => (by rw [hgo] at h; cases h), fun _ => ⟨.exit id, hIx _ _ _ _ _ _ (by omega) hi3 hl3 rfl, hl4, hk4⟩⟩
      | goto t => exact hq.elim
      | panic ch => exact hq.elim
      | outgrown => exact hq.elim
    | ret => exact hp.elim
    | exit id => exact hp.elim
    | goto t => exact hp.elim
    | panic ch => exact hp.elim
    | outgrown => exact hp.elim
  · rintro e W2 ⟨⟨v, rfl⟩, (⟨hS, ⟨hi, hl, hk⟩, hb2⟩ | ⟨q, hS, c, hi, hl, hk⟩)⟩
    · have hp3 := below_put w.heap.size W2 (.loop (rec .exhausted none)) (by omega : w.heap.size ≤ w.heap.size + 1)
      exact ⟨none, _, by have := run_endLoop (P := P) hl (by rw [hrec]; simp); rw [hrec] at this; exact this, hdone _ hS (hI _ _ _ hi (below_put _ _ _ (by omega))) (hb2.trans ((below_put _ _ _ (by omega)).mono hB0)) ((World.putObj_heap_other (by omega)).trans hk)⟩
    · exact ⟨some c, _, by have := run_endLoop (P := P) hl (by rw [hrec]; simp); rw [hrec] at this; exact this, hstop c q _ hS (hIx _ _ _ _ _ _ (by omega) hi hl rfl) ((World.putObj_heap_other (by omega)).trans hk)⟩
end Go.Proofs.Ytilebfkehmecaaa.Print
namespace Go.Proofs.Ytilebfkehmecaaa.Print
open Go.RowKit Go.Proofs.YtilebfkehmecaaaW.PrintWords Go.Proofs.YtilebfkehmecaaaW.PrintLast Go.Proofs.YtilebfkehmecaaaW.PrintMore
attribute [local go_sem] max2_int min2_int max_two min_two max_three min_three max_four min_four
set_option linter.unusedVariables false
set_option linter.unusedSimpArgs false
open Go.Shelf Go.RowKit
attribute [local go_sem] Oper.semAt_some
def itemAt (w0 : World) (x : Int × S64) (av : Array Value) : Prop := ∃ v, av = #[.int .i64 x.1, v] ∧ StmtAt w0 x.2 v
set_option maxHeartbeats 2000000 in
set_option maxRecDepth 100000 in
theorem prog_each.seq (w0 : World) (bp : Nat) (A : Option Addr) (c : Nat) (l : List S64) (its : List (Int × S64)) (n' : Int) (k : Nat)
    (hcell : w0.cell? ⟨bp, 2, none⟩ = some (.slice A l.length c)) (hr : Kd.C k64 w0 A l.length l) (hc : l.length ≤ c) (h : prog_walk.f k l 0 = some (its, n')) :
    SeqBy Try.prog 120 #[.pointer (some ⟨bp, 0, none⟩)] (itemAt w0) its w0 := by
  intro m rl J Jx go W hb hJ hY hJ0
  refine callsIn_of_wp Try.func120 rfl trivial ?_ rfl
  simp only [Try.ntmps120, List.size_toArray, List.length_cons, List.length_nil, Nat.reduceAdd, Nat.reduceSub, Array.replicate_succ, Array.replicate_zero, List.push_toArray, List.append_toArray, List.nil_append, List.cons_append]
  have hcw : W.cell? ⟨bp, 2, none⟩ = some (.slice A l.length c) := (hb.cell (World.block_lt_of_cell? w0 _ hcell)).trans hcell
  have hlt := World.block_lt_of_cell? W _ hcw
  have hS := hb.size
  have key : ∀ W2 : World, Below W.heap.size W W2 → W2.heap[W.heap.size]? = some (.cells #[.int .i64 0] 3 (0, 0)) →
      CallsIn Fence.wide m Try.prog 121 #[.slice A l.length c, .pointer (some ⟨W.heap.size, 0, none⟩), .func (.yield rl) #[] #[]] W2 (fun e W' => ∃ b, e = .returned (.bool b) ∧ ((stopAt go [] its = none ∧ J its W' ∧ Below w0.heap.size w0 W') ∨ (∃ q, stopAt go [] its = some q ∧ Jx q W'))) := by
    intro W2 h1 h2
    refine (prog_walk.walkIn w0 rl W.heap.size m J Jx go its hS hJ ?_ k l 0 its n' [] W2 W.heap.size A c h hr hc (hb.trans (h1.mono hS)) h2 (Nat.le_refl _) (hJ _ _ _ hJ0 h1) (by simp)).mono ?post
    case post =>
      rintro e W3 (⟨h0, rfl, hj, _, _, hb3⟩ | ⟨q, h0, rfl, hx⟩)
      · exact ⟨_, rfl, .inl ⟨h0, by simpa using hj, hb3⟩⟩
      · exact ⟨_, rfl, .inr ⟨q, h0, by simpa using hx⟩⟩
    intro pre x v A1 hj hv hb1 hsz hp
    exact hY pre x _ A1 hj ⟨v, rfl, hv⟩ hb1 hsz hp
  gi_wp2_with (first | (refine ⟨trivial, wide_depth, ?_⟩; refine (calls_any (m' := m - 1) (key _ ?k1 ?k2)).mono ?_; (case k1 => exact (Below.refl _ _).alloc (Nat.le_refl _) _); (case k2 => exact heap_alloc_new _ _); rintro e W3 ⟨b, rfl, hw⟩))
  go_end0
  exact ⟨⟨_, rfl⟩, hw⟩
end Go.Proofs.Ytilebfkehmecaaa.Print
namespace Go.Proofs.Ytilebfkehmecaaa.Print
open Go.RowKit Go.Proofs.YtilebfkehmecaaaW.PrintWords Go.Proofs.YtilebfkehmecaaaW.PrintLast Go.Proofs.YtilebfkehmecaaaW.PrintMore
attribute [local go_sem] max2_int min2_int max_two min_two max_three min_three max_four min_four
set_option linter.unusedVariables false
set_option linter.unusedSimpArgs false
open Go.Shelf Go.RowKit
set_option maxHeartbeats 2000000 in
set_option maxRecDepth 100000 in
theorem prog_each.fn (a b c : Value) (w : World) :
    Calls Try.prog 102 #[.agg #[a, b, c]] w fun e w' => e = .returned (.func (.func 120) #[] #[.pointer (some ⟨w.heap.size, 0, none⟩)]) ∧ Below w.heap.size w w' ∧ w'.heap[w.heap.size]? = some (.cells #[a, b, c] 25 (0, 0)) := by
  have huP := Try.underlying25
  refine calls_of_wp Try.func102 rfl ?_
  simp only [Try.ntmps102, List.size_toArray, List.length_cons, List.length_nil, Nat.reduceAdd, Nat.reduceSub, Array.replicate_succ, Array.replicate_zero, List.push_toArray, List.append_toArray, List.nil_append, List.cons_append]
  go_wp2
  go_ret
  exact ⟨rfl, (Below.refl _ _).alloc (Nat.le_refl _) _, heap_alloc_new _ _⟩
end Go.Proofs.Ytilebfkehmecaaa.Print
namespace Go.Proofs.Ytilebfkehmecaaa.Print
open Go.RowKit Go.Proofs.YtilebfkehmecaaaW.PrintWords Go.Proofs.YtilebfkehmecaaaW.PrintLast Go.Proofs.YtilebfkehmecaaaW.PrintMore
attribute [local go_sem] max2_int min2_int max_two min_two max_three min_three max_four min_four
set_option linter.unusedVariables false
set_option linter.unusedSimpArgs false
open Go.Shelf Go.RowKit
attribute [local go_sem] Oper.semAt_some
theorem size_cell (W : World) (p : Addr) (u : Value) : (W.setCell p u).heap.size = W.heap.size := by simp [World.setCell]
theorem below_cell {n B i : Nat} (W : World) (u : Value) (h : n ≤ B) : Below n W (W.setCell ⟨B, i, none⟩ u) := ⟨rfl, rfl, rfl, by rw [size_cell]; exact Nat.le_refl _, fun k hk => Below.heap_setCell _ _ _ _ (by intro e; simp at e; omega)⟩
theorem stop_none {α : Type} {p : α → Bool} : ∀ (its pre : List α), stopAt (fun _ x => !p x) pre its = none → its.find? p = none
  | [], _, _ => rfl
  | x :: r, pre, h => by
    rw [stopAt] at h
    cases hp : p x with
    | true => simp [hp] at h
    | false =>
      simp [hp] at h
      rw [List.find?_cons, hp]
      exact stop_none r _ h
theorem run_copy_rowk {P : Program} (w : World) (dT sT ty elem : TypeId) (k g o dLen dCap : Nat) (a : Addr) (sLen sCap : Nat) (cur : Array Value) (t : TypeId) (cs : List Value)
    (hu : P.underlying dT = some (.slice elem)) (hs : (P.info? elem).map (·.size) = some k)
    (hg : w.heap[g]? = some (.cells cur t (0, 0))) (hn : cs.length = Nat.min sLen dLen * k)
    (hsrc : ∀ j v, cs[j]? = some v → w.cell? (a.add j) = some v) (hfit : o + cs.length ≤ cur.size) (h1 : ∀ v ∈ cs, v.oneCell' = true) :
    (Builtin.copy_ #[dT, sT] ty #[.slice (some ⟨g, o, none⟩) dLen dCap, .slice (some a) sLen sCap]).run P w =
      .ok (goInt (Nat.min sLen dLen)) (w.setRow g (cur.toList.take o ++ cs ++ cur.toList.drop (o + cs.length)).toArray) := by
  have hl := run_loadCells_list (P := P) w a cs hsrc
  have hst := run_storeCells_at P g o t cs 0 cur w hg (by simpa using hfit) h1
  cases hq : P.info? elem with
  | none => simp [hq] at hs
  | some i =>
    have hi : i.size = k := by simpa [hq] using hs
    simp [Builtin.copy_, run_underlying hu, Builtin.lenOf, Builtin.firstCells, sizeOf, typeInfo, hq, hi, ← hn, hl, hst]
theorem wpList_copy_rowk {P : Program} {w : World} {ops : Array Oper} {rest : List Oper} {o : Oper} {a : Act} {Q : Exit → Act → World → Prop} (hgd : o.guard = none) (d s : Operand) (dT sT : TypeId)
    (ho : o.op = .call { callee := .builtin .copy, args := #[d, s], argTypes := #[dT, sT] }) (elem k : TypeId) (hu : P.underlying dT = some (.slice elem)) (hsz : (P.info? elem).map (·.size) = some k)
    (g off dLen dCap : Nat) (ad : Addr) (sLen sCap : Nat) (hd : a.eval d = .slice (some ⟨g, off, none⟩) dLen dCap) (hs : a.eval s = .slice (some ad) sLen sCap)
    (cur : Array Value) (t : TypeId) (hg : w.heap[g]? = some (.cells cur t (0, 0))) (cs : List Value) (hn : cs.length = Nat.min sLen dLen * k)
    (hsrc : ∀ j v, cs[j]? = some v → w.cell? (ad.add j) = some v) (hfit : off + cs.length ≤ cur.size) (h1 : ∀ v ∈ cs, v.oneCell' = true) (new : Array Value) (hnew : (cur.toList.take off ++ cs ++ cur.toList.drop (off + cs.length)).toArray = new)
    (h : ∀ w', w'.heap[g]? = some (.cells new t (0, 0)) → (∀ B, B ≤ g → Below B w w') → w'.heap.size = w.heap.size → wpList P ops Q rest (a.put o.dst (goInt (Nat.min sLen dLen))) w') : wpList P ops Q (o :: rest) a w := by
  subst hnew
  refine wpList_plain hgd fun K hK => ?_
  have hrun := run_copy_rowk (P := P) w dT sT o.type elem k g off dLen dCap ad sLen sCap cur t cs hu hsz hg hn hsrc hfit h1
  unfold Oper.wp
  simp [execOp, ho, resolve, invoke, builtin, hd, hs, hrun, Result.andThen]
  refine hK _ _ (h _ ?_ (fun B hB => below_setRow (Below.refl _ _) hB _) (by simp [World.setRow]))
  have := setRow_heap w g cur ((cur.toList.take off ++ cs ++ cur.toList.drop (off + cs.length)).toArray) t (0, 0) hg
  simpa using this
theorem step_copy_rowk {P : Program} {w : World} {ops : Array Oper} {o : Oper} {a : Act} {Kc : Act → World → Prop} {Q : Exit → Act → World → Prop} (hw : Region.wanted o (yielded ops a.tmps) = true) (d s : Operand) (dT sT : TypeId)
    (ho : o.op = .call { callee := .builtin .copy, args := #[d, s], argTypes := #[dT, sT] }) (elem k : TypeId) (hu : P.underlying dT = some (.slice elem)) (hsz : (P.info? elem).map (·.size) = some k)
    (g off dLen dCap : Nat) (ad : Addr) (sLen sCap : Nat) (hd : a.eval d = .slice (some ⟨g, off, none⟩) dLen dCap) (hs : a.eval s = .slice (some ad) sLen sCap)
    (cur : Array Value) (t : TypeId) (hg : w.heap[g]? = some (.cells cur t (0, 0))) (cs : List Value) (hn : cs.length = Nat.min sLen dLen * k)
    (hsrc : ∀ j v, cs[j]? = some v → w.cell? (ad.add j) = some v) (hfit : off + cs.length ≤ cur.size) (h1 : ∀ v ∈ cs, v.oneCell' = true) (new : Array Value) (hnew : (cur.toList.take off ++ cs ++ cur.toList.drop (off + cs.length)).toArray = new)
    (h : ∀ w', w'.heap[g]? = some (.cells new t (0, 0)) → (∀ B, B ≤ g → Below B w w') → w'.heap.size = w.heap.size → Kc (a.put o.dst (goInt (Nat.min sLen dLen))) w') :
    if Region.wanted o (yielded ops a.tmps) = true then Oper.wp P o a w Kc Q else Kc (a.put o.dst undef) w := by
  subst hnew
  rw [if_pos hw]
  have hrun := run_copy_rowk (P := P) w dT sT o.type elem k g off dLen dCap ad sLen sCap cur t cs hu hsz hg hn hsrc hfit h1
  unfold Oper.wp
  simp [execOp, ho, resolve, invoke, builtin, hd, hs, hrun, Result.andThen]
  refine h _ ?_ (fun B hB => below_setRow (Below.refl _ _) hB _) (by simp [World.setRow])
  have := setRow_heap w g cur ((cur.toList.take off ++ cs ++ cur.toList.drop (off + cs.length)).toArray) t (0, 0) hg
  simpa using this
theorem srcn {W : World} {b t : Nat} {cur : Array Value} {cs : List Value} (h : W.heap[b]? = some (.cells cur t (0, 0))) (hc : ∀ (j : Nat) (v : Value), cs[j]? = some v → cur[j]? = some v) : ∀ j v, cs[j]? = some v → W.cell? ((⟨b, 0, none⟩ : Addr).add j) = some v := by
  intro j v hj
  have : (⟨b, 0, none⟩ : Addr).add j = ⟨b, j, none⟩ := by unfold Addr.add; split <;> simp_all
  rw [this, blk_cell h j]
  exact hc j v hj
theorem C_of_row {α : Type} {d : Kd α} {W : World} {b e : Nat} {l : List α} {css : List (List Value)} (h1 : W.heap[b]? = some (.cells css.flatten.toArray e (0, 0))) (h2 : css.length = l.length) (h3 : l.length ≤ 9223372036854775807)
    (h4 : ∀ (j : Nat) (x : α) (c : List Value), l[j]? = some x → css[j]? = some c → d.K W x c) : d.C W (some ⟨b, 0, none⟩) l.length l := by
  have hlen : ∀ c ∈ css, c.length = d.sz := by
    intro c hc
    obtain ⟨j, hj, e2⟩ := List.mem_iff_getElem.1 hc
    have hj2 : j < l.length := by omega
    exact d.K_len (h4 j l[j] c (List.getElem?_eq_getElem hj2) (by rw [List.getElem?_eq_getElem hj, e2]))
  have flat : ∀ (css : List (List Value)) (j : Nat) (c : List Value) (i : Nat), (∀ c ∈ css, c.length = d.sz) → css[j]? = some c → i < d.sz → css.flatten[j * d.sz + i]? = c[i]? := by
    intro css
    induction css with
    | nil => intro j c i _ h _; simp at h
    | cons x r ih =>
      intro j c i hl h hi
      have h1 := hl x (by simp)
      cases j with
      | zero =>
        obtain rfl : x = c := by simpa using h
        simp only [List.flatten_cons, Nat.zero_mul, Nat.zero_add]
        rw [List.getElem?_append_left (by omega)]
      | succ j =>
        have e1 : (j + 1) * d.sz + i = x.length + (j * d.sz + i) := by rw [h1, Nat.succ_mul]; omega
        simp only [List.flatten_cons]
        rw [e1, List.getElem?_append_right (by omega), Nat.add_sub_cancel_left]
        exact ih j c i (fun c hc => hl c (by simp [hc])) (by simpa using h) hi
  refine ⟨rfl, h3, fun _ => ⟨_, rfl, fun j x hj => ?_⟩⟩
  have hj2 : j < css.length := by have := (List.getElem?_eq_some_iff.1 hj).1; omega
  have hc := List.getElem?_eq_getElem hj2
  refine ⟨css[j], hlen _ (List.getElem_mem hj2), h4 j x _ hj hc, fun i u hu => ?_⟩
  have hi : i < d.sz := by have := (List.getElem?_eq_some_iff.1 hu).1; rw [hlen _ (List.getElem_mem hj2)] at this; exact this
  have hg := flat css j _ i hlen hc hi
  have : (⟨b, 0, none⟩ : Addr).add (j * d.sz + i) = ⟨b, j * d.sz + i, none⟩ := by unfold Addr.add; split <;> simp_all
  rw [this, blk_cell h1 (j * d.sz + i)]
  simpa [hg] using hu
set_option maxHeartbeats 4000000 in
set_option maxRecDepth 100000 in
theorem bits_Mul.one (n : Int) (w : World) (hn : n = 1 ∨ n = 2 ∨ n = 3) : Calls Try.prog 97 #[.int .u64 1, .int .u64 n] w fun e w' => e = .returned (.tuple #[.int .u64 0, .int .u64 n]) ∧ w = w' := by
  rcases hn with rfl | rfl | rfl
  all_goals
    go_enter Try.func97, Try.ntmps97
    go_wp2
    go_ret2
    exact ⟨rfl, rfl⟩
theorem src3 {W : World} {b t : Nat} {x y z : Value} (h : W.heap[b]? = some (.cells #[x, y, z] t (0, 0))) : ∀ j v, [x, y, z][j]? = some v → W.cell? ((⟨b, 0, none⟩ : Addr).add j) = some v := by
  intro j v hj
  have : (⟨b, 0, none⟩ : Addr).add j = ⟨b, j, none⟩ := by unfold Addr.add; split <;> simp_all
  rw [this, blk_cell h j]
  simpa using hj
set_option maxHeartbeats 8000000 in
set_option maxRecDepth 100000 in
theorem slices_Repeat.calls (n : Nat) (hn : n = 1 ∨ n = 2 ∨ n = 3) (p0 : Int) (A1 : Option Addr) (n1 c1 : Nat) (A2 : Option Addr) (n2 c2 : Nat) (b : Nat) (w : World) (hb : w.heap[b]? = some (.cells #[.int .i64 p0, .slice A1 n1 c1, .slice A2 n2 c2] 25 (0, 0))) :
    Calls Try.prog 66 #[.slice (some ⟨b, 0, none⟩) 1 1, .int .i64 (n : Int)] w fun e w' => ∃ B, e = .returned (.slice (some ⟨B, 0, none⟩) n n) ∧ w'.heap[B]? = some (.cells (List.replicate n [.int .i64 p0, .slice A1 n1 c1, .slice A2 n2 c2]).flatten.toArray 25 (0, 0)) ∧ Below w.heap.size w w' := by
  have huP := Try.underlying93
  have hlt := blk_lt hb
  have hi : ∃ i, Try.prog.info? 25 = some i ∧ i.zero = some (.agg #[.int .i64 0, .slice none 0 0, .slice none 0 0]) ∧ i.size = 3 ∧ i.bytes = 56 := by
    have h := info25
    obtain ⟨i, h1, h2⟩ := Option.map_eq_some_iff.1 h
    simp only [Prod.mk.injEq] at h2
    exact ⟨i, h1, h2.1, h2.2.1, h2.2.2⟩
  have hsz : (Try.prog.info? 25).map (·.size) = some 3 := by
    obtain ⟨i, h1, _, h3, _⟩ := hi
    rw [h1]; simp [h3]
  have hmk : ∀ m : Nat, m ≤ 3 → ∀ W : World, (Instr.makeSlice 93 (.int .i64 (m : Int)) (.int .i64 (m : Int))).run Try.prog W = .ok (.slice (some ⟨W.heap.size, 0, none⟩) m m) (W.alloc (.cells (madeCells #[.int .i64 0, .slice none 0 0, .slice none 0 0] (m * 3)) 25)) := by
    intro m hm W
    obtain ⟨i, h1, h2, h3, h4⟩ := hi
    have := run_make (P := Try.prog) W 93 25 i _ huP h1 h2 .i64 .i64 (m : Int) (m : Int) (by omega) (Int.le_refl _) (by rw [h4]; omega) (by omega)
    rw [h3] at this
    simp only [Int.toNat_natCast] at this
    exact this
  have HB := Aside0.mk hb
  clear hi hb
  rcases hn with rfl | rfl | rfl
  · have hm : ∀ W : World, (Instr.makeSlice 93 (.int .i64 1) (.int .i64 1)).run Try.prog W = .ok (.slice (some ⟨W.heap.size, 0, none⟩) 1 1) (W.alloc (.cells #[.int .i64 0, .slice none 0 0, .slice none 0 0] 25)) := fun W => by have h9 := hmk 1 (by omega) W; rwa [show madeCells #[.int .i64 0, .slice none 0 0, .slice none 0 0] (1 * 3) = #[.int .i64 0, .slice none 0 0, .slice none 0 0] from by first | rfl | kernel_rfl] at h9
    clear hmk
    have b0 := bal (Below.refl w.heap.size w) (.cells #[.int .i64 0, .slice none 0 0, .slice none 0 0] 25)
    have z0 : (w.alloc (.cells #[.int .i64 0, .slice none 0 0, .slice none 0 0] 25)).heap[w.heap.size]? = some (.cells #[.int .i64 0, .slice none 0 0, .slice none 0 0] 25 (0, 0)) := blk_new _ _
    have d0 := blk_below HB.out b0
    obtain ⟨W0, hW0⟩ : ∃ X, w.alloc (.cells #[.int .i64 0, .slice none 0 0, .slice none 0 0] 25) = X := ⟨_, rfl⟩
    rw [hW0] at b0 z0 d0
    go_enter Try.func66, Try.ntmps66
    go_wp2_with (first | (go_at_call 97; refine (bits_Mul.one 1 _ (by decide)).mono ?_; rintro e W ⟨rfl, rfl⟩) | ((with_reducible refine gate_builtin (b := .copy) (xs := #[.tmp 31, .tmp 32]) rfl ?_); go_must (refine wpList_copy_rowk (P := Try.prog) (w := W0) rfl (.tmp 31) (.tmp 32) 93 93 rfl 25 3 huP hsz w.heap.size 0 1 1 ⟨b, 0, none⟩ 1 1 rfl rfl _ 25 z0 [.int .i64 p0, .slice A1 n1 c1, .slice A2 n2 c2] rfl (src3 d0) (by simp) (by simp [Value.oneCell']) #[.int .i64 p0, .slice A1 n1 c1, .slice A2 n2 c2] rfl ?_; intro W1 z1 b1 s1)))
    have s2 : W0.heap.size = w.heap.size + 1 := by rw [← hW0]; simp
    have SS := Aside0.mk (show w.heap.size + 1 ≤ W1.heap.size by omega)
    have BW := Aside0.mk (b0.trans (b1 _ (Nat.le_refl _)))
    have ROW := Aside0.mk z1
    clear z0 b0 d0 hW0 z1 b1 s1 s2 hm HB hlt
    go_loopg [8] 0 (fun kq v8 X => ((v8 = .int .i64 1 ∧ 1 + kq = 1 ∧ Aside0 (X.heap[w.heap.size]? = some (.cells #[.int .i64 p0, .slice A1 n1 c1, .slice A2 n2 c2] 25 (0, 0))))) ∧ Aside0 (Below w.heap.size w X))
    case atStart => exact ⟨⟨rfl, by decide, ROW⟩, BW⟩
    case round =>
      clear ROW BW SS
      obtain ⟨hrel, BW⟩ := hrel
      rcases hrel with ⟨rfl, hk, ROW⟩
      · obtain rfl : gk = 0 := by omega
        go_wp2
        go_ret
        exact ⟨_, rfl, ROW.out, BW.out⟩
  · have hm : ∀ W : World, (Instr.makeSlice 93 (.int .i64 2) (.int .i64 2)).run Try.prog W = .ok (.slice (some ⟨W.heap.size, 0, none⟩) 2 2) (W.alloc (.cells #[.int .i64 0, .slice none 0 0, .slice none 0 0, .int .i64 0, .slice none 0 0, .slice none 0 0] 25)) := fun W => by have h9 := hmk 2 (by omega) W; rwa [show madeCells #[.int .i64 0, .slice none 0 0, .slice none 0 0] (2 * 3) = #[.int .i64 0, .slice none 0 0, .slice none 0 0, .int .i64 0, .slice none 0 0, .slice none 0 0] from by first | rfl | kernel_rfl] at h9
    clear hmk
    have b0 := bal (Below.refl w.heap.size w) (.cells #[.int .i64 0, .slice none 0 0, .slice none 0 0, .int .i64 0, .slice none 0 0, .slice none 0 0] 25)
    have z0 : (w.alloc (.cells #[.int .i64 0, .slice none 0 0, .slice none 0 0, .int .i64 0, .slice none 0 0, .slice none 0 0] 25)).heap[w.heap.size]? = some (.cells #[.int .i64 0, .slice none 0 0, .slice none 0 0, .int .i64 0, .slice none 0 0, .slice none 0 0] 25 (0, 0)) := blk_new _ _
    have d0 := blk_below HB.out b0
    obtain ⟨W0, hW0⟩ : ∃ X, w.alloc (.cells #[.int .i64 0, .slice none 0 0, .slice none 0 0, .int .i64 0, .slice none 0 0, .slice none 0 0] 25) = X := ⟨_, rfl⟩
    rw [hW0] at b0 z0 d0
    go_enter Try.func66, Try.ntmps66
    go_wp2_with (first | (go_at_call 97; refine (bits_Mul.one 2 _ (by decide)).mono ?_; rintro e W ⟨rfl, rfl⟩) | ((with_reducible refine gate_builtin (b := .copy) (xs := #[.tmp 31, .tmp 32]) rfl ?_); go_must (refine wpList_copy_rowk (P := Try.prog) (w := W0) rfl (.tmp 31) (.tmp 32) 93 93 rfl 25 3 huP hsz w.heap.size 0 2 2 ⟨b, 0, none⟩ 1 1 rfl rfl _ 25 z0 [.int .i64 p0, .slice A1 n1 c1, .slice A2 n2 c2] rfl (src3 d0) (by simp) (by simp [Value.oneCell']) #[.int .i64 p0, .slice A1 n1 c1, .slice A2 n2 c2, .int .i64 0, .slice none 0 0, .slice none 0 0] rfl ?_; intro W1 z1 b1 s1)))
    have s2 : W0.heap.size = w.heap.size + 1 := by rw [← hW0]; simp
    have SS := Aside0.mk (show w.heap.size + 1 ≤ W1.heap.size by omega)
    have BW := Aside0.mk (b0.trans (b1 _ (Nat.le_refl _)))
    have ROW := Aside0.mk z1
    clear z0 b0 d0 hW0 z1 b1 s1 s2 hm HB hlt
    go_loopg [8] 1 (fun kq v8 X => ((v8 = .int .i64 1 ∧ 1 + kq = 2 ∧ Aside0 (X.heap[w.heap.size]? = some (.cells #[.int .i64 p0, .slice A1 n1 c1, .slice A2 n2 c2, .int .i64 0, .slice none 0 0, .slice none 0 0] 25 (0, 0)))) ∨ (v8 = .int .i64 2 ∧ 2 + kq = 2 ∧ Aside0 (X.heap[w.heap.size]? = some (.cells #[.int .i64 p0, .slice A1 n1 c1, .slice A2 n2 c2, .int .i64 p0, .slice A1 n1 c1, .slice A2 n2 c2] 25 (0, 0))))) ∧ Aside0 (Below w.heap.size w X))
    case atStart => exact ⟨.inl ⟨rfl, by decide, ROW⟩, BW⟩
    case round =>
      clear ROW BW SS
      obtain ⟨hrel, BW⟩ := hrel
      rcases hrel with ⟨rfl, hk, ROW⟩ | ⟨rfl, hk, ROW⟩
      · obtain rfl : gk = 1 := by omega
        go_wp2
        have RD := Aside0.mk (kdr ROW.out)
        have BD := Aside0.mk (below_drew BW.out)
        refine start_ (n := 10) (S := fun _ => True) (ds := []) #[false, false, false, false, false, false, false, false, false, false] (by kernel_rfl) rfl rfl trivial (fun hHeld => ?_)
        generalize wr.drew = Y at RD BD hHeld ⊢
        refine pure_ (i := 0) (N := (some 38)) (v := ?_) (a' := ?_) #[true, false, false, false, false, false, false, false, false, false] rfl rfl (by kernel_rfl) (fun _ _ _ h => h) (Or.inl ⟨by rfl, ?_⟩) ?_ ?_
        rotate_left
        · intro w'
          go_simp
          with_reducible rfl
        rotate_left
        · simp only [Act.put, List.setIfInBounds_toArray, List.set_cons_zero, List.set_cons_succ, i64_w, i32_w]
          rfl
        refine pure_ (i := 1) (N := (some 39)) (v := ?_) (a' := ?_) #[true, true, false, false, false, false, false, false, false, false] rfl rfl (by kernel_rfl) (fun _ _ _ h => h) (Or.inl ⟨by rfl, ?_⟩) ?_ ?_
        rotate_left
        · intro w'
          go_simp
          with_reducible rfl
        rotate_left
        · simp only [Act.put, List.setIfInBounds_toArray, List.set_cons_zero, List.set_cons_succ, i64_w, i32_w]
          rfl
        refine pure_ (i := 2) (N := (some 40)) (v := ?_) (a' := ?_) #[true, true, true, false, false, false, false, false, false, false] rfl rfl (by kernel_rfl) (fun _ _ _ h => h) (Or.inl ⟨by rfl, ?_⟩) ?_ ?_
        rotate_left
        · intro w'
          go_simp
          with_reducible rfl
        rotate_left
        · simp only [Act.put, List.setIfInBounds_toArray, List.set_cons_zero, List.set_cons_succ, i64_w, i32_w]
          rfl
        refine pure_ (i := 3) (N := (some 41)) (v := ?_) (a' := ?_) #[true, true, true, true, false, false, false, false, false, false] rfl rfl (by kernel_rfl) (fun _ _ _ h => h) (Or.inl ⟨by rfl, ?_⟩) ?_ ?_
        rotate_left
        · intro w'
          go_simp
          with_reducible rfl
        rotate_left
        · simp only [Act.put, List.setIfInBounds_toArray, List.set_cons_zero, List.set_cons_succ, i64_w, i32_w]
          rfl
        refine pure_ (i := 4) (N := (some 42)) (v := ?_) (a' := ?_) #[true, true, true, true, true, false, false, false, false, false] rfl rfl (by kernel_rfl) (fun _ _ _ h => h) (Or.inl ⟨by rfl, ?_⟩) ?_ ?_
        rotate_left
        · intro w'
          go_simp
          with_reducible rfl
        rotate_left
        · simp only [Act.put, List.setIfInBounds_toArray, List.set_cons_zero, List.set_cons_succ, i64_w, i32_w]
          rfl
        refine pure_ (i := 5) (N := (some 43)) (v := ?_) (a' := ?_) #[true, true, true, true, true, true, false, false, false, false] rfl rfl (by kernel_rfl) (fun _ _ _ h => h) (Or.inl ⟨by rfl, ?_⟩) ?_ ?_
        rotate_left
        · intro w'
          go_simp
          with_reducible rfl
        rotate_left
        · simp only [Act.put, List.setIfInBounds_toArray, List.set_cons_zero, List.set_cons_succ, i64_w, i32_w]
          rfl
        refine pure_ (i := 6) (N := (some 44)) (v := ?_) (a' := ?_) #[true, true, true, true, true, true, true, false, false, false] rfl rfl (by kernel_rfl) (fun _ _ _ h => h) (Or.inl ⟨by rfl, ?_⟩) ?_ ?_
        rotate_left
        · intro w'
          go_simp
          with_reducible rfl
        rotate_left
        · simp only [Act.put, List.setIfInBounds_toArray, List.set_cons_zero, List.set_cons_succ, i64_w, i32_w]
          rfl
        refine one_ (i := 7) (N := (some 45)) #[true, true, true, true, true, true, true, true, false, false] rfl rfl (by kernel_rfl) (by decide) (fun K hK => ?_)
        refine step_copy_rowk (P := Try.prog) (w := Y) (by rfl) (.tmp 41) (.tmp 44) 93 93 rfl 25 3 huP hsz w.heap.size 3 1 1 ⟨w.heap.size, 0, none⟩ 1 2 rfl rfl _ 25 RD.out [.int .i64 p0, .slice A1 n1 c1, .slice A2 n2 c2] rfl (srcn RD.out (by intro j v hj; rcases j with _ | _ | _ | j <;> simp_all)) (by simp) (by simp [Value.oneCell']) #[.int .i64 p0, .slice A1 n1 c1, .slice A2 n2 c2, .int .i64 p0, .slice A1 n1 c1, .slice A2 n2 c2] rfl ?_
        intro Y2 z2 b2 s2
        refine hK.out _ _ trivial (fun hHeld => ?_)
        clear hK K
        refine norm_ (a' := ?_) ?_ ?_
        rotate_left
        · show Act.put _ (some 45) _ = _
          simp only [Act.put, List.setIfInBounds_toArray, List.set_cons_zero, List.set_cons_succ, i64_w, i32_w]
          rfl
        refine pure_ (i := 8) (N := (some 46)) (v := ?_) (a' := ?_) #[true, true, true, true, true, true, true, true, true, false] rfl rfl (by kernel_rfl) (fun _ _ _ h => h) (Or.inl ⟨by rfl, ?_⟩) ?_ ?_
        rotate_left
        · intro w'
          go_simp
          with_reducible rfl
        rotate_left
        · simp only [Act.put, List.setIfInBounds_toArray, List.set_cons_zero, List.set_cons_succ, i64_w, i32_w]
          rfl
        refine pure_ (i := 9) (N := (some 8)) (v := ?_) (a' := ?_) #[true, true, true, true, true, true, true, true, true, true] rfl rfl (by kernel_rfl) (fun _ _ _ h => h) (Or.inl ⟨by rfl, ?_⟩) ?_ ?_
        rotate_left
        · intro w'
          go_simp
          with_reducible rfl
        rotate_left
        · simp only [Act.put, List.setIfInBounds_toArray, List.set_cons_zero, List.set_cons_succ, i64_w, i32_w]
          rfl
        refine done_ (by kernel_rfl) ?_
        try simp only [Exit.then, Exit.inBlock]
        have bz := Aside0.mk (BD.out.trans (b2 _ (Nat.le_refl _)))
        have rz := Aside0.mk z2
        try go_wp2
        go_roundg 0
        case measure => omega
        case rel => exact ⟨.inr (⟨by first | rfl | (unfold wrap64; rfl) | (simp [wrap64]; done), by decide, rz⟩), bz⟩
      · obtain rfl : gk = 0 := by omega
        go_wp2
        go_ret
        exact ⟨_, rfl, ROW.out, BW.out⟩
  · have hm : ∀ W : World, (Instr.makeSlice 93 (.int .i64 3) (.int .i64 3)).run Try.prog W = .ok (.slice (some ⟨W.heap.size, 0, none⟩) 3 3) (W.alloc (.cells #[.int .i64 0, .slice none 0 0, .slice none 0 0, .int .i64 0, .slice none 0 0, .slice none 0 0, .int .i64 0, .slice none 0 0, .slice none 0 0] 25)) := fun W => by have h9 := hmk 3 (by omega) W; rwa [show madeCells #[.int .i64 0, .slice none 0 0, .slice none 0 0] (3 * 3) = #[.int .i64 0, .slice none 0 0, .slice none 0 0, .int .i64 0, .slice none 0 0, .slice none 0 0, .int .i64 0, .slice none 0 0, .slice none 0 0] from by first | rfl | kernel_rfl] at h9
    clear hmk
    have b0 := bal (Below.refl w.heap.size w) (.cells #[.int .i64 0, .slice none 0 0, .slice none 0 0, .int .i64 0, .slice none 0 0, .slice none 0 0, .int .i64 0, .slice none 0 0, .slice none 0 0] 25)
    have z0 : (w.alloc (.cells #[.int .i64 0, .slice none 0 0, .slice none 0 0, .int .i64 0, .slice none 0 0, .slice none 0 0, .int .i64 0, .slice none 0 0, .slice none 0 0] 25)).heap[w.heap.size]? = some (.cells #[.int .i64 0, .slice none 0 0, .slice none 0 0, .int .i64 0, .slice none 0 0, .slice none 0 0, .int .i64 0, .slice none 0 0, .slice none 0 0] 25 (0, 0)) := blk_new _ _
    have d0 := blk_below HB.out b0
    obtain ⟨W0, hW0⟩ : ∃ X, w.alloc (.cells #[.int .i64 0, .slice none 0 0, .slice none 0 0, .int .i64 0, .slice none 0 0, .slice none 0 0, .int .i64 0, .slice none 0 0, .slice none 0 0] 25) = X := ⟨_, rfl⟩
    rw [hW0] at b0 z0 d0
    go_enter Try.func66, Try.ntmps66
    go_wp2_with (first | (go_at_call 97; refine (bits_Mul.one 3 _ (by decide)).mono ?_; rintro e W ⟨rfl, rfl⟩) | ((with_reducible refine gate_builtin (b := .copy) (xs := #[.tmp 31, .tmp 32]) rfl ?_); go_must (refine wpList_copy_rowk (P := Try.prog) (w := W0) rfl (.tmp 31) (.tmp 32) 93 93 rfl 25 3 huP hsz w.heap.size 0 3 3 ⟨b, 0, none⟩ 1 1 rfl rfl _ 25 z0 [.int .i64 p0, .slice A1 n1 c1, .slice A2 n2 c2] rfl (src3 d0) (by simp) (by simp [Value.oneCell']) #[.int .i64 p0, .slice A1 n1 c1, .slice A2 n2 c2, .int .i64 0, .slice none 0 0, .slice none 0 0, .int .i64 0, .slice none 0 0, .slice none 0 0] rfl ?_; intro W1 z1 b1 s1)))
    have s2 : W0.heap.size = w.heap.size + 1 := by rw [← hW0]; simp
    have SS := Aside0.mk (show w.heap.size + 1 ≤ W1.heap.size by omega)
    have BW := Aside0.mk (b0.trans (b1 _ (Nat.le_refl _)))
    have ROW := Aside0.mk z1
    clear z0 b0 d0 hW0 z1 b1 s1 s2 hm HB hlt
    go_loopg [8] 2 (fun kq v8 X => ((v8 = .int .i64 1 ∧ 1 + kq = 3 ∧ Aside0 (X.heap[w.heap.size]? = some (.cells #[.int .i64 p0, .slice A1 n1 c1, .slice A2 n2 c2, .int .i64 0, .slice none 0 0, .slice none 0 0, .int .i64 0, .slice none 0 0, .slice none 0 0] 25 (0, 0)))) ∨ (v8 = .int .i64 2 ∧ 2 + kq = 3 ∧ Aside0 (X.heap[w.heap.size]? = some (.cells #[.int .i64 p0, .slice A1 n1 c1, .slice A2 n2 c2, .int .i64 p0, .slice A1 n1 c1, .slice A2 n2 c2, .int .i64 0, .slice none 0 0, .slice none 0 0] 25 (0, 0)))) ∨ (v8 = .int .i64 3 ∧ 3 + kq = 3 ∧ Aside0 (X.heap[w.heap.size]? = some (.cells #[.int .i64 p0, .slice A1 n1 c1, .slice A2 n2 c2, .int .i64 p0, .slice A1 n1 c1, .slice A2 n2 c2, .int .i64 p0, .slice A1 n1 c1, .slice A2 n2 c2] 25 (0, 0))))) ∧ Aside0 (Below w.heap.size w X))
    case atStart => exact ⟨.inl ⟨rfl, by decide, ROW⟩, BW⟩
    case round =>
      clear ROW BW SS
      obtain ⟨hrel, BW⟩ := hrel
      rcases hrel with ⟨rfl, hk, ROW⟩ | ⟨rfl, hk, ROW⟩ | ⟨rfl, hk, ROW⟩
      · obtain rfl : gk = 2 := by omega
        go_wp2
        have RD := Aside0.mk (kdr ROW.out)
        have BD := Aside0.mk (below_drew BW.out)
        refine start_ (n := 10) (S := fun _ => True) (ds := []) #[false, false, false, false, false, false, false, false, false, false] (by kernel_rfl) rfl rfl trivial (fun hHeld => ?_)
        generalize wr.drew = Y at RD BD hHeld ⊢
        refine pure_ (i := 0) (N := (some 38)) (v := ?_) (a' := ?_) #[true, false, false, false, false, false, false, false, false, false] rfl rfl (by kernel_rfl) (fun _ _ _ h => h) (Or.inl ⟨by rfl, ?_⟩) ?_ ?_
        rotate_left
        · intro w'
          go_simp
          with_reducible rfl
        rotate_left
        · simp only [Act.put, List.setIfInBounds_toArray, List.set_cons_zero, List.set_cons_succ, i64_w, i32_w]
          rfl
        refine pure_ (i := 1) (N := (some 39)) (v := ?_) (a' := ?_) #[true, true, false, false, false, false, false, false, false, false] rfl rfl (by kernel_rfl) (fun _ _ _ h => h) (Or.inl ⟨by rfl, ?_⟩) ?_ ?_
        rotate_left
        · intro w'
          go_simp
          with_reducible rfl
        rotate_left
        · simp only [Act.put, List.setIfInBounds_toArray, List.set_cons_zero, List.set_cons_succ, i64_w, i32_w]
          rfl
        refine pure_ (i := 2) (N := (some 40)) (v := ?_) (a' := ?_) #[true, true, true, false, false, false, false, false, false, false] rfl rfl (by kernel_rfl) (fun _ _ _ h => h) (Or.inl ⟨by rfl, ?_⟩) ?_ ?_
        rotate_left
        · intro w'
          go_simp
          with_reducible rfl
        rotate_left
        · simp only [Act.put, List.setIfInBounds_toArray, List.set_cons_zero, List.set_cons_succ, i64_w, i32_w]
          rfl
        refine pure_ (i := 3) (N := (some 41)) (v := ?_) (a' := ?_) #[true, true, true, true, false, false, false, false, false, false] rfl rfl (by kernel_rfl) (fun _ _ _ h => h) (Or.inl ⟨by rfl, ?_⟩) ?_ ?_
        rotate_left
        · intro w'
          go_simp
          with_reducible rfl
        rotate_left
        · simp only [Act.put, List.setIfInBounds_toArray, List.set_cons_zero, List.set_cons_succ, i64_w, i32_w]
          rfl
        refine pure_ (i := 4) (N := (some 42)) (v := ?_) (a' := ?_) #[true, true, true, true, true, false, false, false, false, false] rfl rfl (by kernel_rfl) (fun _ _ _ h => h) (Or.inl ⟨by rfl, ?_⟩) ?_ ?_
        rotate_left
        · intro w'
          go_simp
          with_reducible rfl
        rotate_left
        · simp only [Act.put, List.setIfInBounds_toArray, List.set_cons_zero, List.set_cons_succ, i64_w, i32_w]
          rfl
        refine pure_ (i := 5) (N := (some 43)) (v := ?_) (a' := ?_) #[true, true, true, true, true, true, false, false, false, false] rfl rfl (by kernel_rfl) (fun _ _ _ h => h) (Or.inl ⟨by rfl, ?_⟩) ?_ ?_
        rotate_left
        · intro w'
          go_simp
          with_reducible rfl
        rotate_left
        · simp only [Act.put, List.setIfInBounds_toArray, List.set_cons_zero, List.set_cons_succ, i64_w, i32_w]
          rfl
        refine pure_ (i := 6) (N := (some 44)) (v := ?_) (a' := ?_) #[true, true, true, true, true, true, true, false, false, false] rfl rfl (by kernel_rfl) (fun _ _ _ h => h) (Or.inl ⟨by rfl, ?_⟩) ?_ ?_
        rotate_left
        · intro w'
          go_simp
          with_reducible rfl
        rotate_left
        · simp only [Act.put, List.setIfInBounds_toArray, List.set_cons_zero, List.set_cons_succ, i64_w, i32_w]
          rfl
        refine one_ (i := 7) (N := (some 45)) #[true, true, true, true, true, true, true, true, false, false] rfl rfl (by kernel_rfl) (by decide) (fun K hK => ?_)
        refine step_copy_rowk (P := Try.prog) (w := Y) (by rfl) (.tmp 41) (.tmp 44) 93 93 rfl 25 3 huP hsz w.heap.size 3 2 2 ⟨w.heap.size, 0, none⟩ 1 3 rfl rfl _ 25 RD.out [.int .i64 p0, .slice A1 n1 c1, .slice A2 n2 c2] rfl (srcn RD.out (by intro j v hj; rcases j with _ | _ | _ | j <;> simp_all)) (by simp) (by simp [Value.oneCell']) #[.int .i64 p0, .slice A1 n1 c1, .slice A2 n2 c2, .int .i64 p0, .slice A1 n1 c1, .slice A2 n2 c2, .int .i64 0, .slice none 0 0, .slice none 0 0] rfl ?_
        intro Y2 z2 b2 s2
        refine hK.out _ _ trivial (fun hHeld => ?_)
        clear hK K
        refine norm_ (a' := ?_) ?_ ?_
        rotate_left
        · show Act.put _ (some 45) _ = _
          simp only [Act.put, List.setIfInBounds_toArray, List.set_cons_zero, List.set_cons_succ, i64_w, i32_w]
          rfl
        refine pure_ (i := 8) (N := (some 46)) (v := ?_) (a' := ?_) #[true, true, true, true, true, true, true, true, true, false] rfl rfl (by kernel_rfl) (fun _ _ _ h => h) (Or.inl ⟨by rfl, ?_⟩) ?_ ?_
        rotate_left
        · intro w'
          go_simp
          with_reducible rfl
        rotate_left
        · simp only [Act.put, List.setIfInBounds_toArray, List.set_cons_zero, List.set_cons_succ, i64_w, i32_w]
          rfl
        refine pure_ (i := 9) (N := (some 8)) (v := ?_) (a' := ?_) #[true, true, true, true, true, true, true, true, true, true] rfl rfl (by kernel_rfl) (fun _ _ _ h => h) (Or.inl ⟨by rfl, ?_⟩) ?_ ?_
        rotate_left
        · intro w'
          go_simp
          with_reducible rfl
        rotate_left
        · simp only [Act.put, List.setIfInBounds_toArray, List.set_cons_zero, List.set_cons_succ, i64_w, i32_w]
          rfl
        refine done_ (by kernel_rfl) ?_
        try simp only [Exit.then, Exit.inBlock]
        have bz := Aside0.mk (BD.out.trans (b2 _ (Nat.le_refl _)))
        have rz := Aside0.mk z2
        try go_wp2
        go_roundg 1
        case measure => omega
        case rel => exact ⟨.inr (.inl ⟨by first | rfl | (unfold wrap64; rfl) | (simp [wrap64]; done), by decide, rz⟩), bz⟩
      · obtain rfl : gk = 1 := by omega
        go_wp2
        have RD := Aside0.mk (kdr ROW.out)
        have BD := Aside0.mk (below_drew BW.out)
        refine start_ (n := 10) (S := fun _ => True) (ds := []) #[false, false, false, false, false, false, false, false, false, false] (by kernel_rfl) rfl rfl trivial (fun hHeld => ?_)
        generalize wr.drew = Y at RD BD hHeld ⊢
        refine pure_ (i := 0) (N := (some 38)) (v := ?_) (a' := ?_) #[true, false, false, false, false, false, false, false, false, false] rfl rfl (by kernel_rfl) (fun _ _ _ h => h) (Or.inl ⟨by rfl, ?_⟩) ?_ ?_
        rotate_left
        · intro w'
          go_simp
          with_reducible rfl
        rotate_left
        · simp only [Act.put, List.setIfInBounds_toArray, List.set_cons_zero, List.set_cons_succ, i64_w, i32_w]
          rfl
        refine pure_ (i := 1) (N := (some 39)) (v := ?_) (a' := ?_) #[true, true, false, false, false, false, false, false, false, false] rfl rfl (by kernel_rfl) (fun _ _ _ h => h) (Or.inl ⟨by rfl, ?_⟩) ?_ ?_
        rotate_left
        · intro w'
          go_simp
          with_reducible rfl
        rotate_left
        · simp only [Act.put, List.setIfInBounds_toArray, List.set_cons_zero, List.set_cons_succ, i64_w, i32_w]
          rfl
        refine pure_ (i := 2) (N := (some 40)) (v := ?_) (a' := ?_) #[true, true, true, false, false, false, false, false, false, false] rfl rfl (by kernel_rfl) (fun _ _ _ h => h) (Or.inl ⟨by rfl, ?_⟩) ?_ ?_
        rotate_left
        · intro w'
          go_simp
          with_reducible rfl
        rotate_left
        · simp only [Act.put, List.setIfInBounds_toArray, List.set_cons_zero, List.set_cons_succ, i64_w, i32_w]
          rfl
        refine pure_ (i := 3) (N := (some 41)) (v := ?_) (a' := ?_) #[true, true, true, true, false, false, false, false, false, false] rfl rfl (by kernel_rfl) (fun _ _ _ h => h) (Or.inl ⟨by rfl, ?_⟩) ?_ ?_
        rotate_left
        · intro w'
          go_simp
          with_reducible rfl
        rotate_left
        · simp only [Act.put, List.setIfInBounds_toArray, List.set_cons_zero, List.set_cons_succ, i64_w, i32_w]
          rfl
        refine pure_ (i := 4) (N := (some 42)) (v := ?_) (a' := ?_) #[true, true, true, true, true, false, false, false, false, false] rfl rfl (by kernel_rfl) (fun _ _ _ h => h) (Or.inl ⟨by rfl, ?_⟩) ?_ ?_
        rotate_left
        · intro w'
          go_simp
          with_reducible rfl
        rotate_left
        · simp only [Act.put, List.setIfInBounds_toArray, List.set_cons_zero, List.set_cons_succ, i64_w, i32_w]
          rfl
        refine pure_ (i := 5) (N := (some 43)) (v := ?_) (a' := ?_) #[true, true, true, true, true, true, false, false, false, false] rfl rfl (by kernel_rfl) (fun _ _ _ h => h) (Or.inl ⟨by rfl, ?_⟩) ?_ ?_
        rotate_left
        · intro w'
          go_simp
          with_reducible rfl
        rotate_left
        · simp only [Act.put, List.setIfInBounds_toArray, List.set_cons_zero, List.set_cons_succ, i64_w, i32_w]
          rfl
        refine pure_ (i := 6) (N := (some 44)) (v := ?_) (a' := ?_) #[true, true, true, true, true, true, true, false, false, false] rfl rfl (by kernel_rfl) (fun _ _ _ h => h) (Or.inl ⟨by rfl, ?_⟩) ?_ ?_
        rotate_left
        · intro w'
          go_simp
          with_reducible rfl
        rotate_left
        · simp only [Act.put, List.setIfInBounds_toArray, List.set_cons_zero, List.set_cons_succ, i64_w, i32_w]
          rfl
        refine one_ (i := 7) (N := (some 45)) #[true, true, true, true, true, true, true, true, false, false] rfl rfl (by kernel_rfl) (by decide) (fun K hK => ?_)
        refine step_copy_rowk (P := Try.prog) (w := Y) (by rfl) (.tmp 41) (.tmp 44) 93 93 rfl 25 3 huP hsz w.heap.size 6 1 1 ⟨w.heap.size, 0, none⟩ 2 3 rfl rfl _ 25 RD.out [.int .i64 p0, .slice A1 n1 c1, .slice A2 n2 c2] rfl (srcn RD.out (by intro j v hj; rcases j with _ | _ | _ | j <;> simp_all)) (by simp) (by simp [Value.oneCell']) #[.int .i64 p0, .slice A1 n1 c1, .slice A2 n2 c2, .int .i64 p0, .slice A1 n1 c1, .slice A2 n2 c2, .int .i64 p0, .slice A1 n1 c1, .slice A2 n2 c2] rfl ?_
        intro Y2 z2 b2 s2
        refine hK.out _ _ trivial (fun hHeld => ?_)
        clear hK K
        refine norm_ (a' := ?_) ?_ ?_
        rotate_left
        · show Act.put _ (some 45) _ = _
          simp only [Act.put, List.setIfInBounds_toArray, List.set_cons_zero, List.set_cons_succ, i64_w, i32_w]
          rfl
        refine pure_ (i := 8) (N := (some 46)) (v := ?_) (a' := ?_) #[true, true, true, true, true, true, true, true, true, false] rfl rfl (by kernel_rfl) (fun _ _ _ h => h) (Or.inl ⟨by rfl, ?_⟩) ?_ ?_
        rotate_left
        · intro w'
          go_simp
          with_reducible rfl
        rotate_left
        · simp only [Act.put, List.setIfInBounds_toArray, List.set_cons_zero, List.set_cons_succ, i64_w, i32_w]
          rfl
        refine pure_ (i := 9) (N := (some 8)) (v := ?_) (a' := ?_) #[true, true, true, true, true, true, true, true, true, true] rfl rfl (by kernel_rfl) (fun _ _ _ h => h) (Or.inl ⟨by rfl, ?_⟩) ?_ ?_
        rotate_left
        · intro w'
          go_simp
          with_reducible rfl
        rotate_left
        · simp only [Act.put, List.setIfInBounds_toArray, List.set_cons_zero, List.set_cons_succ, i64_w, i32_w]
          rfl
        refine done_ (by kernel_rfl) ?_
        try simp only [Exit.then, Exit.inBlock]
        have bz := Aside0.mk (BD.out.trans (b2 _ (Nat.le_refl _)))
        have rz := Aside0.mk z2
        try go_wp2
        go_roundg 0
        case measure => omega
        case rel => exact ⟨.inr (.inr (⟨by first | rfl | (unfold wrap64; rfl) | (simp [wrap64]; done), by decide, rz⟩)), bz⟩
      · obtain rfl : gk = 0 := by omega
        go_wp2
        go_ret
        exact ⟨_, rfl, ROW.out, BW.out⟩
mutual
def mvE (g : Int → Option Int) : S28 → Option S28
  | ⟨op, n, c, l⟩ => if op = 1 then (g c).bind fun r => (mvEs g l).bind fun l' => some ⟨op, wrap64 (n + r), 0, l'⟩ else (mvEs g l).bind fun l' => some ⟨op, n, c, l'⟩
def mvEs (g : Int → Option Int) : List S28 → Option (List S28)
  | [] => some []
  | x :: r => (mvE g x).bind fun y => (mvEs g r).bind fun s => if r.length < 1000000 then some (y :: s) else none
end
theorem mvEs_get {g : Int → Option Int} : ∀ {l l' : List S28}, mvEs g l = some l' → l'.length = l.length ∧ l.length ≤ 1000000 ∧ ∀ (j : Nat) (x : S28), l[j]? = some x → ∃ y, mvE g x = some y ∧ l'[j]? = some y
  | [], l', h => by
    rw [mvEs] at h
    obtain rfl := Option.some.inj h
    exact ⟨rfl, by simp, fun j x hj => by simp at hj⟩
  | x :: r, l', h => by
    rw [mvEs] at h
    obtain ⟨y, h1, h⟩ := Option.bind_eq_some_iff.mp h
    obtain ⟨s, h2, h⟩ := Option.bind_eq_some_iff.mp h
    obtain ⟨e1, e2, e3⟩ := mvEs_get h2
    by_cases hl : r.length < 1000000
    · rw [if_pos hl] at h
      obtain rfl := Option.some.inj h
      refine ⟨by simp [e1], by simp; omega, fun j z hj => ?_⟩
      cases j with
      | zero => obtain rfl : x = z := by simpa using hj
                exact ⟨y, h1, rfl⟩
      | succ j => exact e3 j z (by simpa using hj)
    · rw [if_neg hl] at h; cases h
theorem tree_ind {P : S28 → Prop} (node : ∀ a b c l, (∀ x ∈ l, P x) → P ⟨a, b, c, l⟩) : ∀ x, P x :=
  fun x => S28.rec (motive_1 := P) (motive_2 := fun l => ∀ x ∈ l, P x) node (fun _ h => by simp at h) (fun x r h1 h2 y hy => by rcases List.mem_cons.1 hy with rfl | h; exact h1; exact h2 y h) x
def FnAt (w : World) (v : Value) (g : Int → Option Int) : Prop := ∃ gf lb, v = .func (.func gf) #[] lb ∧ (∀ args w, (callFunc gf args).run Try.prog w = .ok (.enter gf args) w) ∧
  ∀ W n r, Below w.heap.size w W → g n = some r → Calls Try.prog gf (#[.int .i64 n] ++ lb) W fun e W' => e = .returned (.int .i64 r) ∧ Below W.heap.size W W'
theorem FnAt.below {w w1 : World} {v : Value} {g : Int → Option Int} (h : FnAt w v g) (hb : Below w.heap.size w w1) : FnAt w1 v g := by
  obtain ⟨gf, lb, e1, e2, h⟩ := h
  exact ⟨gf, lb, e1, e2, fun W n r hW hg => h W n r (hb.trans (hW.mono hb.size)) hg⟩
def MvAt (w : World) (b : Nat) (g : Int → Option Int) : Prop := ∃ v, FnAt w v g ∧ w.heap[b]? = some (.cells #[v] 80 (0, 0)) ∧ w.heap[b + 1]? = some (.cells #[.func (.func 83) #[] #[.pointer (some ⟨b, 0, none⟩), .pointer (some ⟨b + 1, 0, none⟩)]] 78 (0, 0))
theorem MvAt.below {w w1 : World} {b : Nat} {g : Int → Option Int} (h : MvAt w b g) (hb : Below w.heap.size w w1) : MvAt w1 b g := by
  obtain ⟨v, h1, h2, h3⟩ := h
  exact ⟨v, h1.below hb, (hb.block _ (blk_lt h2)).trans h2, (hb.block _ (blk_lt h3)).trans h3⟩
set_option maxHeartbeats 8000000 in
set_option maxRecDepth 100000 in
theorem prod_moving.fn (v : Value) (g : Int → Option Int) (w : World) (h : FnAt w v g) :
    Calls Try.prog 48 #[v] w fun e w' => e = .returned (.func (.func 83) #[] #[.pointer (some ⟨w.heap.size, 0, none⟩), .pointer (some ⟨w.heap.size + 1, 0, none⟩)]) ∧ MvAt w' w.heap.size g ∧ Below w.heap.size w w' := by
  obtain ⟨gf, lb, rfl, e2, h⟩ := h
  have q0 : ((w.alloc (.cells #[.func (.func gf) #[] lb] 80)).alloc (.cells #[.func (.func 83) #[] #[.pointer (some ⟨w.heap.size, 0, none⟩), .pointer (some ⟨w.heap.size + 1, 0, none⟩)]] 78)).heap[w.heap.size]? = some (.cells #[.func (.func gf) #[] lb] 80 (0, 0)) := kal (blk_new _ _) _
  have q1 : ((w.alloc (.cells #[.func (.func gf) #[] lb] 80)).alloc (.cells #[.func (.func 83) #[] #[.pointer (some ⟨w.heap.size, 0, none⟩), .pointer (some ⟨w.heap.size + 1, 0, none⟩)]] 78)).heap[w.heap.size + 1]? = some (.cells #[.func (.func 83) #[] #[.pointer (some ⟨w.heap.size, 0, none⟩), .pointer (some ⟨w.heap.size + 1, 0, none⟩)]] 78 (0, 0)) := by
    have := blk_new (w.alloc (.cells #[.func (.func gf) #[] lb] 80)) (.cells #[.func (.func 83) #[] #[.pointer (some ⟨w.heap.size, 0, none⟩), .pointer (some ⟨w.heap.size + 1, 0, none⟩)]] 78)
    simpa using this
  have hb : Below w.heap.size w ((w.alloc (.cells #[.func (.func gf) #[] lb] 80)).alloc (.cells #[.func (.func 83) #[] #[.pointer (some ⟨w.heap.size, 0, none⟩), .pointer (some ⟨w.heap.size + 1, 0, none⟩)]] 78)) := bal (bal (Below.refl _ _) _) _
  go_enter Try.func48, Try.ntmps48
  go_wp2
  go_ret
  exact ⟨rfl, ⟨_, FnAt.below ⟨gf, lb, rfl, e2, h⟩ hb, q0, q1⟩, hb⟩
theorem mv_take {l' : List S28} {i : Nat} {y : S28} (h : l'[i]? = some y) : l'.take (i + 1) = l'.take i ++ [y] := by
  rw [List.take_add_one, h]; rfl
theorem mv_stores {W : World} {B : Nat} (hz : W.heap[B + 1]? = some (.cells #[.int .i64 0, .int .i64 0, .int .i64 0, .slice none 0 0] 28 (0, 0))) (u a b c : Value) :
    (((((W.setCell ⟨B, 3, none⟩ u).setCell ⟨B + 1, 0, none⟩ a).setCell ⟨B + 1, 1, none⟩ b).setCell ⟨B + 1, 2, none⟩ c).setCell ⟨B + 1, 3, none⟩ u).heap[B + 1]? = some (.cells #[a, b, c, u] 28 (0, 0)) ∧
    (∀ k, B + 2 ≤ k → (((((W.setCell ⟨B, 3, none⟩ u).setCell ⟨B + 1, 0, none⟩ a).setCell ⟨B + 1, 1, none⟩ b).setCell ⟨B + 1, 2, none⟩ c).setCell ⟨B + 1, 3, none⟩ u).heap[k]? = W.heap[k]?) ∧
    Below B W (((((W.setCell ⟨B, 3, none⟩ u).setCell ⟨B + 1, 0, none⟩ a).setCell ⟨B + 1, 1, none⟩ b).setCell ⟨B + 1, 2, none⟩ c).setCell ⟨B + 1, 3, none⟩ u) := by
  have h0 := blk_far hz (p := ⟨B, 3, none⟩) (by simp) u
  have h1 := blk_put h0 0 a (cs' := #[a, .int .i64 0, .int .i64 0, .slice none 0 0]) rfl
  have h2 := blk_put h1 1 b (cs' := #[a, b, .int .i64 0, .slice none 0 0]) rfl
  have h3 := blk_put h2 2 c (cs' := #[a, b, c, .slice none 0 0]) rfl
  refine ⟨blk_put h3 3 u (cs' := #[a, b, c, u]) rfl, fun k hk => ?_, ?_⟩
  · rw [Below.heap_setCell _ _ _ _ (by simp; omega), Below.heap_setCell _ _ _ _ (by simp; omega), Below.heap_setCell _ _ _ _ (by simp; omega), Below.heap_setCell _ _ _ _ (by simp; omega), Below.heap_setCell _ _ _ _ (by simp; omega)]
  · exact ((((below_cell _ _ (Nat.le_refl _)).trans (below_cell _ _ (by omega))).trans (below_cell _ _ (by omega))).trans (below_cell _ _ (by omega))).trans (below_cell _ _ (by omega))
set_option maxHeartbeats 8000000 in
set_option maxRecDepth 100000 in
theorem prod_moving1.calls (g : Int → Option Int) : ∀ (e e1 : S28) (A : Option Addr) (c b : Nat) (w : World), mvE g e = some e1 → MvAt w b g → Kd.C k28 w A e.f3.length e.f3 → e.f3.length ≤ c →
    Calls Try.prog 83 #[.agg #[.int .i64 e.f0, .int .i64 e.f1, .int .i64 e.f2, .slice A e.f3.length c], .pointer (some ⟨b, 0, none⟩), .pointer (some ⟨b + 1, 0, none⟩)] w fun en w' =>
      ∃ v : Value, en = .returned (.agg #[.int .i64 e1.f0, .int .i64 e1.f1, .int .i64 e1.f2, v]) ∧ Kd.R k28 28 w' w.heap.size (fun _ => True) v e1.f3 ∧ Below w.heap.size w w' := by
  refine tree_ind fun op n cp l ih => ?_
  intro e1 A c b w h hm hr hc
  have huE := Try.underlying28
  rw [mvE] at h
  have HR := Aside0.mk hr
  have HC := Aside0.mk hc
  have HM := Aside0.mk hm
  have IH := Aside0.mk ih
  have H := Aside0.mk h
  clear hr hc hm ih h
  obtain ⟨fv, hf, hm1, hm2⟩ := HM.out
  obtain ⟨gf, lb, rfl, en, hg⟩ := hf
  have l1 := blk_lt hm1
  have l2 := blk_lt hm2
  obtain ⟨W0, hW0⟩ : ∃ W0, ((w.alloc (.cells #[.int .i64 op, .int .i64 n, .int .i64 cp, .slice A l.length c] 28)).alloc (.cells #[.int .i64 0, .int .i64 0, .int .i64 0, .slice none 0 0] 28)) = W0 := ⟨_, rfl⟩
  have b0 : Below w.heap.size w W0 := by rw [← hW0]; exact bal (bal (Below.refl _ _) _) _
  have s0 : W0.heap.size = w.heap.size + 1 + 1 := by rw [← hW0]; simp
  have p0 : W0.heap[w.heap.size]? = some (.cells #[.int .i64 op, .int .i64 n, .int .i64 cp, .slice A l.length c] 28 (0, 0)) := by rw [← hW0]; exact kal (blk_new _ _) _
  have z0 : W0.heap[w.heap.size + 1]? = some (.cells #[.int .i64 0, .int .i64 0, .int .i64 0, .slice none 0 0] 28 (0, 0)) := by
    rw [← hW0]
    have := blk_new (w.alloc (.cells #[.int .i64 op, .int .i64 n, .int .i64 cp, .slice A l.length c] 28)) (.cells #[.int .i64 0, .int .i64 0, .int .i64 0, .slice none 0 0] 28)
    simpa using this
  have c0 : W0.cell? ⟨w.heap.size, 0, none⟩ = some (.int .i64 op) := (blk_cell p0 0).trans rfl
  have c1 : W0.cell? ⟨w.heap.size, 1, none⟩ = some (.int .i64 n) := (blk_cell p0 1).trans rfl
  have c2 : W0.cell? ⟨w.heap.size, 2, none⟩ = some (.int .i64 cp) := (blk_cell p0 2).trans rfl
  have c3 : W0.cell? ⟨w.heap.size, 3, none⟩ = some (.slice A l.length c) := (blk_cell p0 3).trans rfl
  have m0 : W0.cell? ⟨b, 0, none⟩ = some (.func (.func gf) #[] lb) := (blk_cell ((b0.block _ l1).trans hm1) 0).trans rfl
  go_enter Try.func83, Try.ntmps83
  go_upto_if 10 with (fail)
  (try simp only [Act.put, List.setIfInBounds_toArray, List.set_cons_zero, List.set_cons_succ])
  go_cut [] (fun wc => ∃ (n2 c2 : Int) (l' : List S28), Aside0 (e1 = ⟨op, n2, c2, l'⟩) ∧ Aside0 (mvEs g l = some l') ∧ Aside0 (wc.heap[w.heap.size]? = some (.cells #[.int .i64 op, .int .i64 n2, .int .i64 c2, .slice A l.length c] 28 (0, 0))) ∧ Aside0 (wc.heap[w.heap.size + 1]? = some (.cells #[.int .i64 0, .int .i64 0, .int .i64 0, .slice none 0 0] 28 (0, 0))) ∧ Aside0 (Below w.heap.size w wc) ∧ Aside0 (w.heap.size + 2 ≤ wc.heap.size))
  case first =>
    by_cases hop : op = 1
    · have hq : (op == 1) = true := beq_iff_eq.mpr hop
      have h := H.out
      rw [if_pos hop] at h
      obtain ⟨r, hgr, h⟩ := Option.bind_eq_some_iff.mp h
      obtain ⟨l', hl', h⟩ := Option.bind_eq_some_iff.mp h
      have he := Aside0.mk (Option.some.inj h).symm
      have HL := Aside0.mk hl'
      clear h H hl' hop
      have p1 : W0.drew.heap[w.heap.size]? = some (.cells #[.int .i64 op, .int .i64 n, .int .i64 cp, .slice A l.length c] 28 (0, 0)) := kdr p0
      have z1 : W0.drew.heap[w.heap.size + 1]? = some (.cells #[.int .i64 0, .int .i64 0, .int .i64 0, .slice none 0 0] 28 (0, 0)) := kdr z0
      have b1 : Below w.heap.size w W0.drew := below_drew b0
      go_wp2
      refine start_ (n := 9) (S := fun w' => w'.cell? ⟨w.heap.size, 1, none⟩ = some (.int .i64 n) ∧ w'.cell? ⟨w.heap.size, 2, none⟩ = some (.int .i64 cp) ∧ w'.cell? ⟨b, 0, none⟩ = some (.func (.func gf) #[] lb)) (ds := [8]) #[false, false, false, false, false, false, false, false, false] (by kernel_rfl) rfl rfl ⟨c1, c2, m0⟩ (fun hHeld => ?_)
      generalize W0.drew = W1 at p1 z1 b1 hHeld ⊢
      refine pure_ (i := 0) (N := (some 11)) (v := ?_) (a' := ?_) #[true, false, false, false, false, false, false, false, false] rfl rfl (by kernel_rfl) (fun _ _ _ h => h) (Or.inl ⟨by rfl, ?_⟩) ?_ ?_
      rotate_left
      · intro w'
        go_simp
        with_reducible rfl
      rotate_left
      · simp only [Act.put, List.setIfInBounds_toArray, List.set_cons_zero, List.set_cons_succ, i64_w, i32_w]
        rfl
      refine take_ (i := 1) (N := (some 12)) (v := ?_) (a' := ?_) #[true, true, false, false, false, false, false, false, false] rfl rfl (by kernel_rfl) (fun _ _ _ h => h) (Or.inl ⟨by rfl, ?_⟩) hHeld ?_ ?_
      rotate_left
      · rintro w' ⟨s0, s1, s2⟩
        go_simp
        with_reducible rfl
      rotate_left
      · simp only [Act.put, List.setIfInBounds_toArray, List.set_cons_zero, List.set_cons_succ, i64_w, i32_w]
        rfl
      refine take_ (i := 2) (N := (some 13)) (v := ?_) (a' := ?_) #[true, true, true, false, false, false, false, false, false] rfl rfl (by kernel_rfl) (fun _ _ _ h => h) (Or.inl ⟨by rfl, ?_⟩) hHeld ?_ ?_
      rotate_left
      · rintro w' ⟨s0, s1, s2⟩
        go_simp
        with_reducible rfl
      rotate_left
      · simp only [Act.put, List.setIfInBounds_toArray, List.set_cons_zero, List.set_cons_succ, i64_w, i32_w]
        rfl
      refine pure_ (i := 3) (N := (some 14)) (v := ?_) (a' := ?_) #[true, true, true, true, false, false, false, false, false] rfl rfl (by kernel_rfl) (fun _ _ _ h => h) (Or.inl ⟨by rfl, ?_⟩) ?_ ?_
      rotate_left
      · intro w'
        go_simp
        with_reducible rfl
      rotate_left
      · simp only [Act.put, List.setIfInBounds_toArray, List.set_cons_zero, List.set_cons_succ, i64_w, i32_w]
        rfl
      refine take_ (i := 4) (N := (some 15)) (v := ?_) (a' := ?_) #[true, true, true, true, true, false, false, false, false] rfl rfl (by kernel_rfl) (fun _ _ _ h => h) (Or.inl ⟨by rfl, ?_⟩) hHeld ?_ ?_
      rotate_left
      · rintro w' ⟨s0, s1, s2⟩
        go_simp
        with_reducible rfl
      rotate_left
      · simp only [Act.put, List.setIfInBounds_toArray, List.set_cons_zero, List.set_cons_succ, i64_w, i32_w]
        rfl
      refine one_ (i := 5) (N := (some 16)) #[true, true, true, true, true, true, false, false, false] rfl rfl (by kernel_rfl) (by decide) (fun K hK => ?_)
      refine call_ gf (#[.int .i64 cp] ++ lb) (by rfl) rfl ?run ?_
      case run =>
        unfold execOp
        simp [resolve, Deferred.ofValue, invoke, Act.eval, en]
      refine (hg W1 cp r b1 hgr).mono ?_
      rintro e W2 ⟨rfl, b2⟩
      have p2 := blk_below p1 b2
      have z2 := blk_below z1 b2
      have bb := b1.trans (b2.mono b1.size)
      refine ⟨_, rfl, ?_⟩
      refine hK.out _ _ ⟨(blk_cell p2 1).trans rfl, (blk_cell p2 2).trans rfl, (blk_cell ((bb.block _ l1).trans hm1) 0).trans rfl⟩ (fun hHeld => ?_)
      clear hK K
      refine norm_ (a' := ?_) ?_ ?_
      rotate_left
      · show Act.put _ (some 16) _ = _
        simp only [Act.put, List.setIfInBounds_toArray, List.set_cons_zero, List.set_cons_succ, i64_w, i32_w]
        rfl
      refine pure_ (i := 6) (N := (some 17)) (v := ?_) (a' := ?_) #[true, true, true, true, true, true, true, false, false] rfl rfl (by kernel_rfl) (fun _ _ _ h => h) (Or.inl ⟨by rfl, ?_⟩) ?_ ?_
      rotate_left
      · intro w'
        go_simp
        with_reducible rfl
      rotate_left
      · simp only [Act.put, List.setIfInBounds_toArray, List.set_cons_zero, List.set_cons_succ, i64_w, i32_w]
        rfl
      refine pure_ (i := 7) (N := (some 18)) (v := ?_) (a' := ?_) #[true, true, true, true, true, true, true, true, false] rfl rfl (by kernel_rfl) (fun _ _ _ h => h) (Or.inl ⟨by rfl, ?_⟩) ?_ ?_
      rotate_left
      · intro w'
        go_simp
        with_reducible rfl
      rotate_left
      · simp only [Act.put, List.setIfInBounds_toArray, List.set_cons_zero, List.set_cons_succ, i64_w, i32_w]
        rfl
      refine last_ (i := 8) (N := none) #[true, true, true, true, true, true, true, true, true] rfl rfl (by kernel_rfl) (by decide) (fun K hK => ?_)
      have q1 : W2.cell? ⟨w.heap.size, 1, none⟩ = some (.int .i64 n) := (blk_cell p2 1).trans rfl
      have q2 : W2.frozen? ⟨w.heap.size, 1, none⟩ = false := blk_frozen p2 1
      refine skip_ (w1 := W2.setCell ⟨w.heap.size, 1, none⟩ (.int .i64 (wrap64 (n + r)))) (by rfl) rfl ?st ?_
      case st =>
        go_simp
      refine hK.out _ _ ?_
      clear hK K
      refine done_ (by kernel_rfl) ?_
      have p3 := blk_put p2 1 (.int .i64 (wrap64 (n + r))) (cs' := #[.int .i64 op, .int .i64 (wrap64 (n + r)), .int .i64 cp, .slice A l.length c]) rfl
      have z3 := blk_far z2 (p := ⟨w.heap.size, 1, none⟩) (by simp) (.int .i64 (wrap64 (n + r)))
      have b3 := bb.trans (below_cell W2 (B := w.heap.size) (i := 1) (.int .i64 (wrap64 (n + r))) (Nat.le_refl _))
      generalize W2.setCell ⟨w.heap.size, 1, none⟩ (.int .i64 (wrap64 (n + r))) = W3 at p3 z3 b3 ⊢
      have x0 : W3.cell? ⟨w.heap.size, 2, none⟩ = some (.int .i64 cp) := (blk_cell p3 2).trans rfl
      have x1 : W3.frozen? ⟨w.heap.size, 2, none⟩ = false := blk_frozen p3 2
      go_wp2
      go_meet
      case rel =>
        refine ⟨_, _, l', he, HL, ⟨blk_put p3 2 (.int .i64 0) (cs' := #[.int .i64 op, .int .i64 (wrap64 (n + r)), .int .i64 0, .slice A l.length c]) rfl⟩, ⟨blk_far z3 (p := ⟨w.heap.size, 2, none⟩) (by simp) _⟩, ⟨b3.trans (below_cell _ _ (Nat.le_refl _))⟩, ⟨?_⟩⟩
        rw [size_cell]
        have := blk_lt z3
        omega
    · have hq : (op == 1) = false := beq_eq_false_iff_ne.mpr hop
      have h := H.out
      rw [if_neg hop] at h
      obtain ⟨l', hl', h⟩ := Option.bind_eq_some_iff.mp h
      have he := Aside0.mk (Option.some.inj h).symm
      go_wp2
      go_meet
      case rel => exact ⟨_, _, l', he, ⟨hl'⟩, ⟨p0⟩, ⟨z0⟩, ⟨b0⟩, ⟨by omega⟩⟩
  case rest =>
    clear c0 c1 c2 c3 m0 p0 z0 s0 b0 hW0 H
    obtain ⟨n2, c2, l', he, HL, PB, ZB, BB, SB⟩ := hcut
    have HR := Aside0.mk (show Kd.C k28 w A l.length l from HR.out)
    have HC := Aside0.mk (show l.length ≤ c from HC.out)
    obtain ⟨hll, hl6, hget⟩ := mvEs_get HL.out
    have GET := Aside0.mk hget
    clear hget HL
    have x3 : wc.cell? ⟨w.heap.size, 3, none⟩ = some (.slice A l.length c) := (blk_cell PB.out 3).trans rfl
    go_wp2
    clear x3
    go_loopg [5, 23] l.length (fun kq v5 v23 X => ∃ (i : Nat) (A5 : Option Addr) (c5 : Nat), v23 = .int .i64 (i : Int) ∧ v5 = .slice A5 i c5 ∧ Aside0 (i + kq = l.length) ∧ Aside0 (Kd.R k28 28 X (w.heap.size + 2) (fun _ => True) (.slice A5 i c5) (l'.take i)) ∧ Aside0 (X.heap[w.heap.size]? = some (.cells #[.int .i64 op, .int .i64 n2, .int .i64 c2, .slice A l.length c] 28 (0, 0))) ∧ Aside0 (X.heap[w.heap.size + 1]? = some (.cells #[.int .i64 0, .int .i64 0, .int .i64 0, .slice none 0 0] 28 (0, 0))) ∧ Aside0 (Below w.heap.size w X) ∧ Aside0 (w.heap.size + 2 ≤ X.heap.size))
    case atStart => exact ⟨0, none, 0, rfl, rfl, ⟨by omega⟩, ⟨Kd.R_nil _ _ _ _ _⟩, PB, ZB, BB, SB⟩
    case round =>
      clear PB ZB BB SB
      obtain ⟨i, A5, c5, rfl, rfl, HI, HO, PB, ZB, BB, SB⟩ := hrel
      cases gk with
      | zero =>
        have hi : i = l.length := by have := HI.out; omega
        subst hi
        have hd : decide ((l.length : Int) < (l.length : Int)) = false := decide_eq_false (by omega)
        have o1 : Kd.R k28 28 wr (w.heap.size + 2) (fun _ => True) (.slice A5 l.length c5) l' := by
          have := HO.out
          rwa [List.take_of_length_le (by omega)] at this
        have x0 : wr.cell? ⟨w.heap.size, 0, none⟩ = some (.int .i64 op) := (blk_cell PB.out 0).trans rfl
        have x1 : wr.cell? ⟨w.heap.size, 1, none⟩ = some (.int .i64 n2) := (blk_cell PB.out 1).trans rfl
        have x2 : wr.cell? ⟨w.heap.size, 2, none⟩ = some (.int .i64 c2) := (blk_cell PB.out 2).trans rfl
        have x3 : wr.cell? ⟨w.heap.size, 3, none⟩ = some (.slice A l.length c) := (blk_cell PB.out 3).trans rfl
        have x4 := blk_frozen PB.out 3
        have y0 : wr.cell? ⟨w.heap.size + 1, 0, none⟩ = some (.int .i64 0) := (blk_cell ZB.out 0).trans rfl
        have y1 : wr.cell? ⟨w.heap.size + 1, 1, none⟩ = some (.int .i64 0) := (blk_cell ZB.out 1).trans rfl
        have y2 : wr.cell? ⟨w.heap.size + 1, 2, none⟩ = some (.int .i64 0) := (blk_cell ZB.out 2).trans rfl
        have y3 : wr.cell? ⟨w.heap.size + 1, 3, none⟩ = some (.slice none 0 0) := (blk_cell ZB.out 3).trans rfl
        have y4 := blk_frozen ZB.out 0
        have y5 := blk_frozen ZB.out 1
        have y6 := blk_frozen ZB.out 2
        have y7 := blk_frozen ZB.out 3
        go_wp2
        obtain ⟨zc, zk, zb⟩ := mv_stores (W := wr) (B := w.heap.size) ZB.out (.slice A5 l.length c5) (.int .i64 op) (.int .i64 n2) (.int .i64 c2)
        refine bodyPost_ret (results_cell_row rfl _ _ (w.heap.size + 1) 28 #[.int .i64 op, .int .i64 n2, .int .i64 c2, .slice A5 l.length c5] (0, 0) _ rfl zc huE rfl (by kernel_rfl)) rfl ?_
        rw [he.out]
        exact ⟨_, rfl, Kd.R_lower (Kd.R_mono (Kd.R_step (Kd.R_bound o1) (fun k hk _ => zk k hk.2.1)) (fun _ hk => trivial)) (by omega), BB.out.trans zb⟩
      | succ k1 =>
        have hi : i < l.length := by have := HI.out; omega
        have hd : decide ((i : Int) < (l.length : Int)) = true := decide_eq_true (by omega)
        obtain ⟨ad, A3, c3, e3, q0, q1, q2, q3, ql3, qr3⟩ := at_T28 HR.out (i : Int) (by omega) (by omega)
        subst e3
        have hxi : l[i]? = some (rd_T28 l (i : Int)) := by unfold rd_T28; rw [Int.toNat_natCast, List.getD_eq_getElem?_getD, List.getElem?_eq_getElem hi]; rfl
        generalize rd_T28 l (i : Int) = x at q0 q1 q2 q3 ql3 qr3 hxi
        obtain ⟨y, hy, hyi⟩ := GET.out i x hxi
        have hxm : x ∈ l := List.mem_of_getElem? hxi
        replace q0 := (BB.out.cell (World.block_lt_of_cell? w _ q0)).trans q0
        replace q1 := (BB.out.cell (World.block_lt_of_cell? w _ q1)).trans q1
        replace q2 := (BB.out.cell (World.block_lt_of_cell? w _ q2)).trans q2
        replace q3 := (BB.out.cell (World.block_lt_of_cell? w _ q3)).trans q3
        simp only [Int.toNat_natCast] at q0 q1 q2 q3
        have m1 : wr.cell? ⟨b + 1, 0, none⟩ = some (.func (.func 83) #[] #[.pointer (some ⟨b, 0, none⟩), .pointer (some ⟨b + 1, 0, none⟩)]) := (blk_cell ((BB.out.block _ l2).trans hm2) 0).trans rfl
        have l3 : b + 1 < wr.heap.size := Nat.lt_of_lt_of_le l2 BB.out.size
        have hw1 : IntKind.i64.wrap ((i : Int) + 1) = (i : Int) + 1 := by rw [i64_w]; unfold wrap64; omega
        have W1B := bal (Below.refl wr.heap.size wr) (.cells #[.int .i64 x.f0, .int .i64 x.f1, .int .i64 x.f2, .slice A3 x.f3.length c3] 28)
        have hSB := SB.out
        have hob := Kd.R_base HO.out
        have hol := Kd.R_lt HO.out
        have htk : (l'.take i).length = i := by rw [List.length_take]; omega
        go_wp2_with (first | (go_at_call 83; refine (IH.out x hxm y A3 c3 b _ hy ((HM.out.below BB.out).below W1B) (Kd.C_below (Kd.C_below qr3 BB.out) W1B) ql3).mono ?_; rintro e W2 ⟨v, rfl, o2, hb2⟩) | ((with_reducible refine gate_builtin (b := .append) (xs := #[.tmp 27, .tmp 31]) rfl ?_); at_builtin; refine Kd.R_append k28 (w0 := wr) (W := W2) (w.heap.size + 2) rfl (.tmp 27) (.tmp 31) 26 28 (.agg #[(.int .i64 0), (.int .i64 0), (.int .i64 0), (.slice none 0 0)]) 48 rfl Try.underlying26 info28 rfl (by decide) (by omega) (.slice A5 i c5) (l'.take i) y [.int .i64 y.f0, .int .i64 y.f1, .int .i64 y.f2, v] (fun _ => True) (fun k => wr.heap.size ≤ k) rfl rfl ?aP ?aK (fun _ _ => trivial) ?aO ?aB ?aS ?aL ?_; (case aP => exact k28_mkM _ _ _ y (Kd.R_lower (Kd.R_mono (Kd.R_bound o2) (fun k hk => Nat.le_trans W1B.size hk.2.1)) (Nat.le_trans hSB W1B.size))); (case aK => exact fun k hk => ⟨trivial, fun e => by have h9 := hol _ e.symm; omega⟩); (case aO => exact Kd.R_below (Kd.R_below HO.out W1B) hb2); (case aB => exact (W1B.trans (hb2.mono W1B.size)).mono hSB); (case aS => exact Nat.le_trans hSB (Nat.le_trans W1B.size hb2.size)); (case aL => rw [htk]; omega); intro v1 W3 o3 b3 g3 t3))
        obtain ⟨A6, c6, e6⟩ := Kd.R_slice o3
        subst e6
        have hWW := W1B.trans (hb2.mono W1B.size)
        have hne : ∀ k, k < w.heap.size + 2 → some k ≠ (Value.slice A5 i c5).ownBlock := fun k hk e => by have h9 := hob _ e.symm; omega
        have pf := Aside0.mk (blk_grown (blk_below PB.out hWW) g3 (hne _ (by omega)))
        have zf := Aside0.mk (blk_grown (blk_below ZB.out hWW) g3 (hne _ (by omega)))
        have bf := Aside0.mk (BB.out.trans (b3.mono (show w.heap.size ≤ w.heap.size + 2 by omega)))
        have sf := Aside0.mk (Nat.le_trans (Nat.le_trans hSB hWW.size) g3.size)
        have of := Aside0.mk o3
        clear o3 b3 g3 t3 hWW PB ZB BB SB HO W1B hb2 o2
        go_roundg k1
        case measure => omega
        case rel =>
          refine ⟨i + 1, A6, c6, by simp, by simp; omega, ⟨by have := HI.out; omega⟩, ⟨?_⟩, pf, zf, bf, sf⟩
          have := of.out
          rw [mv_take hyi]
          have e7 : (List.take i l' ++ [y]).length = i + 1 := by simp; omega
          rw [e7] at this
          exact this
def mvN (i fr op n : Int) : Int := if op = 0 then wrap64 (n + fr) else if op = 4 then wrap64 (n + fr) else if op = 3 then wrap64 (n + wrap64 (16 * i)) else n
mutual
def mvS (i fr : Int) : S64 → Option S64
  | ⟨op, n, a, t, e⟩ => (mvEs (fun _ => some fr) a).bind fun a' => (mvSs i fr t).bind fun t' => (mvSs i fr e).bind fun e' => some ⟨op, mvN i fr op n, a', t', e'⟩
def mvSs (i fr : Int) : List S64 → Option (List S64)
  | [] => some []
  | x :: r => (mvS i fr x).bind fun y => (mvSs i fr r).bind fun s => if r.length < 1000000 then some (y :: s) else none
end
theorem mvSs_get {i fr : Int} : ∀ {l l' : List S64}, mvSs i fr l = some l' → l'.length = l.length ∧ l.length ≤ 1000000 ∧ ∀ (j : Nat) (x : S64), l[j]? = some x → ∃ y, mvS i fr x = some y ∧ l'[j]? = some y
  | [], l', h => by
    rw [mvSs] at h
    obtain rfl := Option.some.inj h
    exact ⟨rfl, by simp, fun j x hj => by simp at hj⟩
  | x :: r, l', h => by
    rw [mvSs] at h
    obtain ⟨y, h1, h⟩ := Option.bind_eq_some_iff.mp h
    obtain ⟨s, h2, h⟩ := Option.bind_eq_some_iff.mp h
    obtain ⟨e1, e2, e3⟩ := mvSs_get h2
    by_cases hl : r.length < 1000000
    · rw [if_pos hl] at h
      obtain rfl := Option.some.inj h
      refine ⟨by simp [e1], by simp; omega, fun j z hj => ?_⟩
      cases j with
      | zero => obtain rfl : x = z := by simpa using hj
                exact ⟨y, h1, rfl⟩
      | succ j => exact e3 j z (by simpa using hj)
    · rw [if_neg hl] at h; cases h
theorem rows_ind {Q : List S64 → Prop} (h : ∀ l, (∀ x ∈ l, Q x.f3 ∧ Q x.f4) → Q l) : ∀ l, Q l :=
  fun l => h l (S64.rec_1 (motive_1 := fun x => Q x.f3 ∧ Q x.f4) (motive_2 := fun l => ∀ x ∈ l, Q x.f3 ∧ Q x.f4) (fun _ _ _ t e h1 h2 => ⟨h t h1, h e h2⟩) (fun _ h => by simp at h) (fun x r h1 h2 y hy => by rcases List.mem_cons.1 hy with rfl | h; exact h1; exact h2 y h) l)
theorem mv_takeS {l' : List S64} {i : Nat} {y : S64} (h : l'[i]? = some y) : l'.take (i + 1) = l'.take i ++ [y] := by
  rw [List.take_add_one, h]; rfl
set_option maxHeartbeats 2000000 in
theorem prod_Moved1.fn (w : World) (b : Nat) (fr : Int) (h : w.heap[b]? = some (.cells #[.int .i64 fr] 3 (0, 0))) : FnAt w (.func (.func 96) #[] #[.pointer (some ⟨b, 0, none⟩)]) (fun _ => some fr) := by
  refine ⟨_, _, rfl, enters_of Try.func96 (by kernel_rfl) rfl, fun W n r hW hr => ?_⟩
  obtain rfl : fr = r := Option.some.inj hr
  show Calls Try.prog 96 #[.int .i64 n, .pointer (some ⟨b, 0, none⟩)] W _
  have c0 : W.cell? ⟨b, 0, none⟩ = some (.int .i64 fr) := (blk_cell ((hW.block _ (blk_lt h)).trans h) 0).trans rfl
  go_enter Try.func96, Try.ntmps96
  go_wp2
  go_ret
  exact ⟨rfl, Below.refl _ _⟩
set_option maxHeartbeats 16000000 in
set_option maxRecDepth 100000 in
theorem prod_Moved.go (i fr : Int) : ∀ (l l' : List S64) (A : Option Addr) (c : Nat) (w : World), mvSs i fr l = some l' → Kd.C k64 w A l.length l → l.length ≤ c →
    Calls Try.prog 64 #[.slice A l.length c, .int .i64 i, .int .i64 fr] w fun en w' => ∃ v : Value, en = .returned v ∧ Kd.R k64 64 w' w.heap.size (fun _ => True) v l' ∧ Below w.heap.size w w' := by
  refine rows_ind fun l ih => ?_
  intro l' A c w h hr hc
  have huE := Try.underlying28
  have huS := Try.underlying64
  have HR := Aside0.mk hr
  have HC := Aside0.mk hc
  have IH := Aside0.mk ih
  obtain ⟨hll, hl6, hget⟩ := mvSs_get h
  have GET := Aside0.mk hget
  clear hr hc ih h hget
  have q0 : (w.alloc (.cells #[.int .i64 fr] 3)).heap[w.heap.size]? = some (.cells #[.int .i64 fr] 3 (0, 0)) := blk_new _ _
  have b0 := bal (Below.refl w.heap.size w) (.cells #[.int .i64 fr] 3)
  have hfn := Aside0.mk (prod_Moved1.fn _ _ _ q0)
  go_enter Try.func64, Try.ntmps64
  go_wp2_with (first | (go_at_call 48; refine (prod_moving.fn _ (fun _ => some fr) _ hfn.out).mono ?_; rintro e W1 ⟨rfl, hmv, hb1⟩))
  have s0 : (w.alloc (.cells #[.int .i64 fr] 3)).heap.size = w.heap.size + 1 := by simp
  rw [s0] at hmv hb1
  have MV := Aside0.mk hmv
  have BX := Aside0.mk ((hb1.block _ (by omega)).trans q0)
  have B1 := Aside0.mk (b0.trans (hb1.mono (by omega)))
  have hlt := blk_lt BX.out
  clear hmv hb1 q0 b0 hfn s0
  go_loopg [8, 18] l.length (fun kq v8 v18 X => ∃ (j : Nat) (A8 : Option Addr) (c8 : Nat), v18 = .int .i64 (j : Int) ∧ v8 = .slice A8 j c8 ∧ Aside0 (j + kq = l.length) ∧ Aside0 (Kd.R k64 64 X W1.heap.size (fun _ => True) (.slice A8 j c8) (l'.take j)) ∧ Aside0 (Below W1.heap.size W1 X))
  case atStart => exact ⟨0, none, 0, rfl, rfl, ⟨by omega⟩, ⟨Kd.R_nil _ _ _ _ _⟩, ⟨Below.refl _ _⟩⟩
  case round =>
    obtain ⟨j, A8, c8, rfl, rfl, HI, HO, BB⟩ := hrel
    cases gk with
    | zero =>
      have hj : j = l.length := by have := HI.out; omega
      subst hj
      have hd : decide ((l.length : Int) < (l.length : Int)) = false := decide_eq_false (by omega)
      have o1 : Kd.R k64 64 wr W1.heap.size (fun _ => True) (.slice A8 l.length c8) l' := by
        have := HO.out
        rwa [List.take_of_length_le (by omega)] at this
      go_wp2
      go_ret
      exact ⟨_, rfl, Kd.R_lower o1 B1.out.size, B1.out.trans (BB.out.mono B1.out.size)⟩
    | succ k1 =>
      obtain ⟨Wr, rfl⟩ : ∃ X, X = wr := ⟨_, rfl⟩
      have hj : j < l.length := by have := HI.out; omega
      have hd : decide ((j : Int) < (l.length : Int)) = true := decide_eq_true (by omega)
      have HBW := Aside0.mk (B1.out.trans (BB.out.mono B1.out.size))
      obtain ⟨ad, B2, b2, B3, b3, B4, b4, e3, q0, q1, q2, q3, q4, ql2, qr2, ql3, qr3, ql4, qr4⟩ := at_T64 HR.out (j : Int) (by omega) (by omega)
      subst e3
      have hxi : l[j]? = some (rd_T64 l (j : Int)) := by unfold rd_T64; rw [Int.toNat_natCast, List.getD_eq_getElem?_getD, List.getElem?_eq_getElem hj]; rfl
      generalize rd_T64 l (j : Int) = x at q0 q1 q2 q3 q4 ql2 qr2 ql3 qr3 ql4 qr4 hxi
      obtain ⟨y, hy, hyi⟩ := GET.out j x hxi
      have hxm : x ∈ l := List.mem_of_getElem? hxi
      obtain ⟨op, n, xa, xt, xe⟩ := x
      obtain ⟨iht, ihe⟩ := IH.out _ hxm
      dsimp only at q0 q1 q2 q3 q4 ql2 qr2 ql3 qr3 ql4 qr4 iht ihe
      rw [mvS] at hy
      obtain ⟨a', ha', hy⟩ := Option.bind_eq_some_iff.mp hy
      obtain ⟨t', ht', hy⟩ := Option.bind_eq_some_iff.mp hy
      obtain ⟨e', he', hy⟩ := Option.bind_eq_some_iff.mp hy
      obtain rfl := Option.some.inj hy
      obtain ⟨hal, ha6, hag⟩ := mvEs_get ha'
      simp only [Int.toNat_natCast] at q0 q1 q2 q3 q4
      replace q0 := (HBW.out.cell (World.block_lt_of_cell? w _ q0)).trans q0
      replace q1 := (HBW.out.cell (World.block_lt_of_cell? w _ q1)).trans q1
      replace q2 := (HBW.out.cell (World.block_lt_of_cell? w _ q2)).trans q2
      replace q3 := (HBW.out.cell (World.block_lt_of_cell? w _ q3)).trans q3
      replace q4 := (HBW.out.cell (World.block_lt_of_cell? w _ q4)).trans q4
      have QL2 := Aside0.mk ql2
      have QR2 := Aside0.mk qr2
      have QL3 := Aside0.mk ql3
      have QR3 := Aside0.mk qr3
      have QL4 := Aside0.mk ql4
      have QR4 := Aside0.mk qr4
      have IT := Aside0.mk iht
      have IE := Aside0.mk ihe
      have HAG := Aside0.mk hag
      have HT := Aside0.mk ht'
      have HE := Aside0.mk he'
      clear ql2 qr2 ql3 qr3 ql4 qr4 iht ihe hag ht' he' hy ha' hxi hxm
      have hBX := Aside0.mk ((BB.out.block _ hlt).trans BX.out)
      have mb : Wr.cell? ⟨w.heap.size, 0, none⟩ = some (.int .i64 fr) := (blk_cell hBX.out 0).trans rfl
      have hltr := blk_lt hBX.out
      have HMV := Aside0.mk (MV.out.below BB.out)
      have hSB := BB.out.size
      have hob := Kd.R_base HO.out
      have hol := Kd.R_lt HO.out
      have hjl : (l'.take j).length = j := by rw [List.length_take]; omega
      obtain ⟨n', hn'⟩ : ∃ n', mvN i fr op n = n' := ⟨_, rfl⟩
      obtain ⟨opn, hopn⟩ : ∃ z : Int, op = z := ⟨_, rfl⟩
      rw [hn', hopn] at hyi
      have HYI := Aside0.mk hyi
      have HOPN := Aside0.mk hopn
      clear hyi
      have hw1 : IntKind.i64.wrap ((j : Int) + 1) = (j : Int) + 1 := by rw [i64_w]; unfold wrap64; omega
      have ways : (op = 0 ∧ wrap64 (n + fr) = n') ∨ (op ≠ 0 ∧ op = 4 ∧ wrap64 (n + fr) = n') ∨ (op ≠ 0 ∧ op ≠ 4 ∧ op = 3 ∧ wrap64 (n + wrap64 (16 * i)) = n') ∨ (op ≠ 0 ∧ op ≠ 4 ∧ op ≠ 3 ∧ n = n') := by
        rw [← hn', mvN]
        by_cases h0 : op = 0
        · exact .inl ⟨h0, by rw [if_pos h0]⟩
        · by_cases h4 : op = 4
          · exact .inr (.inl ⟨h0, h4, by rw [if_neg h0, if_pos h4]⟩)
          · by_cases h3 : op = 3
            · exact .inr (.inr (.inl ⟨h0, h4, h3, by rw [if_neg h0, if_neg h4, if_pos h3]⟩))
            · exact .inr (.inr (.inr ⟨h0, h4, h3, by rw [if_neg h0, if_neg h4, if_neg h3]⟩))
      clear hn' hopn
      go_upto_if 24 with (fail)
      (try simp only [Act.put, List.setIfInBounds_toArray, List.set_cons_zero, List.set_cons_succ])
      rename_i Kr hKr Kb hKb
      refine (fun (key : ∀ (a : Act) (W : World), (∃ u11 u13 u19 u20 u21 u22 u23 u24 u25 u26 u27 u28 u29 u30 u31 u32 u33 u34 u35 u36 u37 u38 u39 u40 u41 u42 u43 u44 u45 u46 u47 u48 u49 u50 u51 u52 u53 u54 u55 u56 u57 u58 u59 u60 u61 u62 u63 u64 u65 u66 u67 u68 u69 u70 u71 u72 : Value, a = { tmps := #[.slice (some ad) l.length c, .int .i64 i, .int .i64 fr, undef, undef, .pointer (some ⟨w.heap.size, 0, none⟩), .slice none 0 0, .func (.func 83) #[] #[.pointer (some ⟨w.heap.size + 1, 0, none⟩), .pointer (some ⟨w.heap.size + 1 + 1, 0, none⟩)], .slice A8 j c8, undef, .pointer (some ⟨Wr.heap.size, 0, none⟩), u11, undef, u13, .func (.func 96) #[] #[.pointer (some ⟨w.heap.size, 0, none⟩)], .func (.func 83) #[] #[.pointer (some ⟨w.heap.size + 1, 0, none⟩), .pointer (some ⟨w.heap.size + 1 + 1, 0, none⟩)], .slice (some ad) l.length c, .int .i64 l.length, .int .i64 j, u19, u20, u21, u22, u23, u24, u25, u26, u27, u28, u29, u30, u31, u32, u33, u34, u35, u36, u37, u38, u39, u40, u41, u42, u43, u44, u45, u46, u47, u48, u49, u50, u51, u52, u53, u54, u55, u56, u57, u58, u59, u60, u61, u62, u63, u64, u65, u66, u67, u68, u69, u70, u71, u72, undef], defers := [] }) → W.heap[Wr.heap.size]? = some (.cells #[.int .i64 opn, .int .i64 n', .slice B2 xa.length b2, .slice B3 xt.length b3, .slice B4 xe.length b4] 64 (0, 0)) → Below Wr.heap.size Wr W → W.heap.size = Wr.heap.size + 1 → Kr a W) => ?main) ?key
      case main =>
        clear hKr
        rcases ways with ⟨h0, en⟩ | ⟨h0, h4, en⟩ | ⟨h0, h4, h3, en⟩ | ⟨h0, h4, h3, en⟩
        · subst h0
          go_wp2
          exact key _ _ ⟨_, _, _, _, _, _, _, _, _, _, _, _, _, _, _, _, _, _, _, _, _, _, _, _, _, _, _, _, _, _, _, _, _, _, _, _, _, _, _, _, _, _, _, _, _, _, _, _, _, _, _, _, _, _, _, _, rfl⟩ (by rw [← HOPN.out]; exact blk_new _ _) (bal (Below.refl _ _) _) (by simp)
        · subst h4
          go_wp2
          exact key _ _ ⟨_, _, _, _, _, _, _, _, _, _, _, _, _, _, _, _, _, _, _, _, _, _, _, _, _, _, _, _, _, _, _, _, _, _, _, _, _, _, _, _, _, _, _, _, _, _, _, _, _, _, _, _, _, _, _, _, rfl⟩ (by rw [← HOPN.out]; exact blk_new _ _) (bal (Below.refl _ _) _) (by simp)
        · subst h3
          go_wp2
          exact key _ _ ⟨_, _, _, _, _, _, _, _, _, _, _, _, _, _, _, _, _, _, _, _, _, _, _, _, _, _, _, _, _, _, _, _, _, _, _, _, _, _, _, _, _, _, _, _, _, _, _, _, _, _, _, _, _, _, _, _, rfl⟩ (by rw [← HOPN.out]; exact blk_new _ _) (bal (Below.refl _ _) _) (by simp)
        · have e0 := (beq_eq_false_iff_ne (a := op)).mpr h0; have e4 := (beq_eq_false_iff_ne (a := op)).mpr h4; have e3 := (beq_eq_false_iff_ne (a := op)).mpr h3; subst en; clear h0 h4 h3
          go_wp2
          exact key _ _ ⟨_, _, _, _, _, _, _, _, _, _, _, _, _, _, _, _, _, _, _, _, _, _, _, _, _, _, _, _, _, _, _, _, _, _, _, _, _, _, _, _, _, _, _, _, _, _, _, _, _, _, _, _, _, _, _, _, rfl⟩ (by rw [← HOPN.out]; exact blk_new _ _) (bal (Below.refl _ _) _) (by simp)
      case key =>
        clear q0 q1 q2 q3 q4 ways HOPN
        rintro a Wg ⟨u11, u13, u19, u20, u21, u22, u23, u24, u25, u26, u27, u28, u29, u30, u31, u32, u33, u34, u35, u36, u37, u38, u39, u40, u41, u42, u43, u44, u45, u46, u47, u48, u49, u50, u51, u52, u53, u54, u55, u56, u57, u58, u59, u60, u61, u62, u63, u64, u65, u66, u67, u68, u69, u70, u71, u72, rfl⟩ pg bg sg
        refine hKr _ _ ?_
        have g2 : Wg.cell? ⟨Wr.heap.size, 2, none⟩ = some (.slice B2 xa.length b2) := (blk_cell pg 2).trans rfl
        have PG := Aside0.mk pg
        have BG := Aside0.mk bg
        have SG := Aside0.mk sg
        clear pg bg sg hKb Kb
        go_wp2
        go_loopg [11, 43] xa.length (fun kq v11 v43 Y => ∃ (m : Nat) (A11 : Option Addr) (c11 : Nat), v43 = .int .i64 (m : Int) ∧ v11 = .slice A11 m c11 ∧ Aside0 (m + kq = xa.length) ∧ Aside0 (Kd.R k28 28 Y (Wr.heap.size + 1) (fun _ => True) (.slice A11 m c11) (a'.take m)) ∧ Aside0 (Y.heap[Wr.heap.size]? = some (.cells #[.int .i64 opn, .int .i64 n', .slice B2 xa.length b2, .slice B3 xt.length b3, .slice B4 xe.length b4] 64 (0, 0))) ∧ Aside0 (Below Wr.heap.size Wr Y) ∧ Aside0 (Wr.heap.size + 1 ≤ Y.heap.size))
        case atStart => exact ⟨0, none, 0, rfl, rfl, ⟨by omega⟩, ⟨Kd.R_nil _ _ _ _ _⟩, PG, BG, ⟨by have := SG.out; omega⟩⟩
        case round =>
          clear PG BG SG
          obtain ⟨m, A11, c11, rfl, rfl, MI, MO, PG, BG, SG⟩ := hrel
          cases gk with
          | zero =>
            have hm : m = xa.length := by have := MI.out; omega
            subst hm
            have hd2 : decide ((xa.length : Int) < (xa.length : Int)) = false := decide_eq_false (by omega)
            have o2 : Kd.R k28 28 wr (Wr.heap.size + 1) (fun _ => True) (.slice A11 xa.length c11) a' := by
              have := MO.out
              rwa [List.take_of_length_le (by omega)] at this
            have O2 := Aside0.mk o2
            clear o2 MO
            go_wp2
            have PD := Aside0.mk (kdr PG.out)
            have BD := Aside0.mk (below_drew BG.out)
            have OD := Aside0.mk (Kd.R_drew O2.out)
            have SD := Aside0.mk (show Wr.heap.size + 1 ≤ wr.drew.heap.size from SG.out)
            have XD := Aside0.mk ((BD.out.block _ hltr).trans hBX.out)
            refine start_ (n := 17) (S := fun w' => w'.cell? ⟨Wr.heap.size, 3, none⟩ = some (.slice B3 xt.length b3) ∧ w'.cell? ⟨Wr.heap.size, 4, none⟩ = some (.slice B4 xe.length b4) ∧ w'.cell? ⟨w.heap.size, 0, none⟩ = some (.int .i64 fr)) (ds := [12, 14, 16]) #[false, false, false, false, false, false, false, false, false, false, false, false, false, false, false, false, false] (by kernel_rfl) rfl rfl ⟨(blk_cell PD.out 3).trans rfl, (blk_cell PD.out 4).trans rfl, (blk_cell XD.out 0).trans rfl⟩ (fun hHeld => ?_)
            generalize wr.drew = Y at PD BD OD SD XD hHeld ⊢
            clear PG BG SG O2
            refine pure_ (i := 0) (N := (some 54)) (v := ?_) (a' := ?_) #[true, false, false, false, false, false, false, false, false, false, false, false, false, false, false, false, false] rfl rfl (by kernel_rfl) (fun _ _ _ h => h) (Or.inl ⟨by rfl, ?_⟩) ?_ ?_
            rotate_left
            · intro w'
              go_simp
              with_reducible rfl
            rotate_left
            · simp only [Act.put, List.setIfInBounds_toArray, List.set_cons_zero, List.set_cons_succ, i64_w, i32_w]
              rfl
            refine pure_ (i := 1) (N := (some 55)) (v := ?_) (a' := ?_) #[true, true, false, false, false, false, false, false, false, false, false, false, false, false, false, false, false] rfl rfl (by kernel_rfl) (fun _ _ _ h => h) (Or.inl ⟨by rfl, ?_⟩) ?_ ?_
            rotate_left
            · intro w'
              go_simp
              with_reducible rfl
            rotate_left
            · simp only [Act.put, List.setIfInBounds_toArray, List.set_cons_zero, List.set_cons_succ, i64_w, i32_w]
              rfl
            refine take_ (i := 2) (N := (some 56)) (v := ?_) (a' := ?_) #[true, true, true, false, false, false, false, false, false, false, false, false, false, false, false, false, false] rfl rfl (by kernel_rfl) (fun _ _ _ h => h) (Or.inl ⟨by rfl, ?_⟩) hHeld ?_ ?_
            rotate_left
            · rintro w' ⟨s0, s1, s2⟩
              go_simp
              with_reducible rfl
            rotate_left
            · simp only [Act.put, List.setIfInBounds_toArray, List.set_cons_zero, List.set_cons_succ, i64_w, i32_w]
              rfl
            refine pure_ (i := 3) (N := (some 57)) (v := ?_) (a' := ?_) #[true, true, true, true, false, false, false, false, false, false, false, false, false, false, false, false, false] rfl rfl (by kernel_rfl) (fun _ _ _ h => h) (Or.inl ⟨by rfl, ?_⟩) ?_ ?_
            rotate_left
            · intro w'
              go_simp
              with_reducible rfl
            rotate_left
            · simp only [Act.put, List.setIfInBounds_toArray, List.set_cons_zero, List.set_cons_succ, i64_w, i32_w]
              rfl
            refine take_ (i := 4) (N := (some 58)) (v := ?_) (a' := ?_) #[true, true, true, true, true, false, false, false, false, false, false, false, false, false, false, false, false] rfl rfl (by kernel_rfl) (fun _ _ _ h => h) (Or.inl ⟨by rfl, ?_⟩) hHeld ?_ ?_
            rotate_left
            · rintro w' ⟨s0, s1, s2⟩
              go_simp
              with_reducible rfl
            rotate_left
            · simp only [Act.put, List.setIfInBounds_toArray, List.set_cons_zero, List.set_cons_succ, i64_w, i32_w]
              rfl
            refine pure_ (i := 6) (N := (some 60)) (v := ?_) (a' := ?_) #[true, true, true, true, true, false, true, false, false, false, false, false, false, false, false, false, false] rfl rfl (by kernel_rfl) (fun _ _ _ h => h) (Or.inl ⟨by rfl, ?_⟩) ?_ ?_
            rotate_left
            · intro w'
              go_simp
              with_reducible rfl
            rotate_left
            · simp only [Act.put, List.setIfInBounds_toArray, List.set_cons_zero, List.set_cons_succ, i64_w, i32_w]
              rfl
            refine take_ (i := 7) (N := (some 61)) (v := ?_) (a' := ?_) #[true, true, true, true, true, false, true, true, false, false, false, false, false, false, false, false, false] rfl rfl (by kernel_rfl) (fun _ _ _ h => h) (Or.inl ⟨by rfl, ?_⟩) hHeld ?_ ?_
            rotate_left
            · rintro w' ⟨s0, s1, s2⟩
              go_simp
              with_reducible rfl
            rotate_left
            · simp only [Act.put, List.setIfInBounds_toArray, List.set_cons_zero, List.set_cons_succ, i64_w, i32_w]
              rfl
            refine pure_ (i := 8) (N := (some 62)) (v := ?_) (a' := ?_) #[true, true, true, true, true, false, true, true, true, false, false, false, false, false, false, false, false] rfl rfl (by kernel_rfl) (fun _ _ _ h => h) (Or.inl ⟨by rfl, ?_⟩) ?_ ?_
            rotate_left
            · intro w'
              go_simp
              with_reducible rfl
            rotate_left
            · simp only [Act.put, List.setIfInBounds_toArray, List.set_cons_zero, List.set_cons_succ, i64_w, i32_w]
              rfl
            refine take_ (i := 9) (N := (some 63)) (v := ?_) (a' := ?_) #[true, true, true, true, true, false, true, true, true, true, false, false, false, false, false, false, false] rfl rfl (by kernel_rfl) (fun _ _ _ h => h) (Or.inl ⟨by rfl, ?_⟩) hHeld ?_ ?_
            rotate_left
            · rintro w' ⟨s0, s1, s2⟩
              go_simp
              with_reducible rfl
            rotate_left
            · simp only [Act.put, List.setIfInBounds_toArray, List.set_cons_zero, List.set_cons_succ, i64_w, i32_w]
              rfl
            refine pure_ (i := 11) (N := (some 65)) (v := ?_) (a' := ?_) #[true, true, true, true, true, false, true, true, true, true, false, true, false, false, false, false, false] rfl rfl (by kernel_rfl) (fun _ _ _ h => h) (Or.inl ⟨by rfl, ?_⟩) ?_ ?_
            rotate_left
            · intro w'
              go_simp
              with_reducible rfl
            rotate_left
            · simp only [Act.put, List.setIfInBounds_toArray, List.set_cons_zero, List.set_cons_succ, i64_w, i32_w]
              rfl
            refine one_ (i := 5) (N := (some 59)) #[true, true, true, true, true, true, true, true, true, true, false, true, false, false, false, false, false] rfl rfl (by kernel_rfl) (by decide) (fun K hK => ?_)
            refine goes_ Try.func64 (by kernel_rfl) rfl #[.slice B3 xt.length b3, .int .i64 i, .int .i64 fr] (by rfl) rfl rfl (by (try simp only [List.map_toArray, List.map_cons, List.map_nil]); rfl) ?_
            refine (IT.out _ _ _ Y HT.out (Kd.C_below QR3.out (HBW.out.trans (BD.out.mono HBW.out.size))) QL3.out).mono ?_
            rintro e Y2 ⟨v3, rfl, o3, hb3⟩
            have PE := Aside0.mk (blk_below PD.out hb3)
            have BE := Aside0.mk (BD.out.trans (hb3.mono BD.out.size))
            have OE := Aside0.mk (Kd.R_below OD.out hb3)
            have XE := Aside0.mk ((BE.out.block _ hltr).trans hBX.out)
            have SE := Aside0.mk (Nat.le_trans SD.out hb3.size)
            have TE := Aside0.mk (Kd.R_lower o3 SD.out)
            clear PD BD OD XD SD o3 hb3
            refine ⟨_, rfl, ?_⟩
            refine hK.out _ _ ⟨(blk_cell PE.out 3).trans rfl, (blk_cell PE.out 4).trans rfl, (blk_cell XE.out 0).trans rfl⟩ (fun hHeld => ?_)
            clear hK K
            refine norm_ (a' := ?_) ?_ ?_
            rotate_left
            · show Act.put _ (some 59) _ = _
              simp only [Act.put, List.setIfInBounds_toArray, List.set_cons_zero, List.set_cons_succ, i64_w, i32_w]
              rfl
            refine one_ (i := 10) (N := (some 64)) #[true, true, true, true, true, true, true, true, true, true, true, true, false, false, false, false, false] rfl rfl (by kernel_rfl) (by decide) (fun K hK => ?_)
            refine goes_ Try.func64 (by kernel_rfl) rfl #[.slice B4 xe.length b4, .int .i64 i, .int .i64 fr] (by rfl) rfl rfl (by (try simp only [List.map_toArray, List.map_cons, List.map_nil]); rfl) ?_
            refine (IE.out _ _ _ Y2 HE.out (Kd.C_below QR4.out (HBW.out.trans (BE.out.mono HBW.out.size))) QL4.out).mono ?_
            rintro e Y3 ⟨v4, rfl, o4, hb4⟩
            have PF := Aside0.mk (blk_below PE.out hb4)
            have BF := Aside0.mk (BE.out.trans (hb4.mono BE.out.size))
            have OF := Aside0.mk (Kd.R_below OE.out hb4)
            have XF := Aside0.mk ((BF.out.block _ hltr).trans hBX.out)
            have SF := Aside0.mk (Nat.le_trans SE.out hb4.size)
            have TF := Aside0.mk (Kd.R_below TE.out hb4)
            have UF := Aside0.mk (Kd.R_lower o4 SE.out)
            clear PE BE OE XE SE TE o4 hb4
            refine ⟨_, rfl, ?_⟩
            refine hK.out _ _ ⟨(blk_cell PF.out 3).trans rfl, (blk_cell PF.out 4).trans rfl, (blk_cell XF.out 0).trans rfl⟩ (fun hHeld => ?_)
            clear hK K
            refine norm_ (a' := ?_) ?_ ?_
            rotate_left
            · show Act.put _ (some 64) _ = _
              simp only [Act.put, List.setIfInBounds_toArray, List.set_cons_zero, List.set_cons_succ, i64_w, i32_w]
              rfl
            obtain ⟨D3, d3, e3⟩ := Kd.R_slice TF.out
            subst e3
            obtain ⟨D4, d4, e4⟩ := Kd.R_slice UF.out
            subst e4
            refine last_ (i := 12) (N := none) #[true, true, true, true, true, true, true, true, true, true, true, true, true, false, false, false, false] rfl rfl (by kernel_rfl) (by decide) (fun K hK => ?_)
            refine skip_ (w1 := (Y3.setCell ⟨Wr.heap.size, 2, none⟩ (.slice A11 xa.length c11))) (by rfl) rfl ?st2 ?_
            case st2 =>
              have x0 : Y3.cell? ⟨Wr.heap.size, 2, none⟩ = some _ := (blk_cell PF.out 2).trans rfl
              have x1 : Y3.cell? ⟨Wr.heap.size, 3, none⟩ = some _ := (blk_cell PF.out 3).trans rfl
              have x2 : Y3.cell? ⟨Wr.heap.size, 4, none⟩ = some _ := (blk_cell PF.out 4).trans rfl
              have x3 := blk_frozen PF.out 2
              have x4 := blk_frozen PF.out 3
              have x5 := blk_frozen PF.out 4
              go_simp
            refine hK.out _ _ ?_
            clear hK K
            refine pure_ (i := 13) (N := (some 66)) (v := ?_) (a' := ?_) #[true, true, true, true, true, true, true, true, true, true, true, true, true, true, false, false, false] rfl rfl (by kernel_rfl) (fun _ _ _ h => h) (Or.inl ⟨by rfl, ?_⟩) ?_ ?_
            rotate_left
            · intro w'
              go_simp
              with_reducible rfl
            rotate_left
            · simp only [Act.put, List.setIfInBounds_toArray, List.set_cons_zero, List.set_cons_succ, i64_w, i32_w]
              rfl
            refine last_ (i := 14) (N := none) #[true, true, true, true, true, true, true, true, true, true, true, true, true, true, true, false, false] rfl rfl (by kernel_rfl) (by decide) (fun K hK => ?_)
            refine skip_ (w1 := ((Y3.setCell ⟨Wr.heap.size, 2, none⟩ (.slice A11 xa.length c11)).setCell ⟨Wr.heap.size, 3, none⟩ (.slice D3 t'.length d3))) (by rfl) rfl ?st3 ?_
            case st3 =>
              have x0 : Y3.cell? ⟨Wr.heap.size, 2, none⟩ = some _ := (blk_cell PF.out 2).trans rfl
              have x1 : Y3.cell? ⟨Wr.heap.size, 3, none⟩ = some _ := (blk_cell PF.out 3).trans rfl
              have x2 : Y3.cell? ⟨Wr.heap.size, 4, none⟩ = some _ := (blk_cell PF.out 4).trans rfl
              have x3 := blk_frozen PF.out 2
              have x4 := blk_frozen PF.out 3
              have x5 := blk_frozen PF.out 4
              go_simp
            refine hK.out _ _ ?_
            clear hK K
            refine pure_ (i := 15) (N := (some 67)) (v := ?_) (a' := ?_) #[true, true, true, true, true, true, true, true, true, true, true, true, true, true, true, true, false] rfl rfl (by kernel_rfl) (fun _ _ _ h => h) (Or.inl ⟨by rfl, ?_⟩) ?_ ?_
            rotate_left
            · intro w'
              go_simp
              with_reducible rfl
            rotate_left
            · simp only [Act.put, List.setIfInBounds_toArray, List.set_cons_zero, List.set_cons_succ, i64_w, i32_w]
              rfl
            refine last_ (i := 16) (N := none) #[true, true, true, true, true, true, true, true, true, true, true, true, true, true, true, true, true] rfl rfl (by kernel_rfl) (by decide) (fun K hK => ?_)
            refine skip_ (w1 := (((Y3.setCell ⟨Wr.heap.size, 2, none⟩ (.slice A11 xa.length c11)).setCell ⟨Wr.heap.size, 3, none⟩ (.slice D3 t'.length d3)).setCell ⟨Wr.heap.size, 4, none⟩ (.slice D4 e'.length d4))) (by rfl) rfl ?st4 ?_
            case st4 =>
              have x0 : Y3.cell? ⟨Wr.heap.size, 2, none⟩ = some _ := (blk_cell PF.out 2).trans rfl
              have x1 : Y3.cell? ⟨Wr.heap.size, 3, none⟩ = some _ := (blk_cell PF.out 3).trans rfl
              have x2 : Y3.cell? ⟨Wr.heap.size, 4, none⟩ = some _ := (blk_cell PF.out 4).trans rfl
              have x3 := blk_frozen PF.out 2
              have x4 := blk_frozen PF.out 3
              have x5 := blk_frozen PF.out 4
              go_simp
            refine hK.out _ _ ?_
            clear hK K
            refine done_ (by kernel_rfl) ?_
            have p7 := blk_put (blk_put (blk_put PF.out 2 (.slice A11 xa.length c11) (cs' := #[.int .i64 opn, .int .i64 n', .slice A11 xa.length c11, .slice B3 xt.length b3, .slice B4 xe.length b4]) rfl) 3 (.slice D3 t'.length d3) (cs' := #[.int .i64 opn, .int .i64 n', .slice A11 xa.length c11, .slice D3 t'.length d3, .slice B4 xe.length b4]) rfl) 4 (.slice D4 e'.length d4) (cs' := #[.int .i64 opn, .int .i64 n', .slice A11 xa.length c11, .slice D3 t'.length d3, .slice D4 e'.length d4]) rfl
            have b7 := ((BF.out.trans (below_cell Y3 (i := 2) (.slice A11 xa.length c11) (Nat.le_refl _))).trans (below_cell _ (i := 3) (.slice D3 t'.length d3) (Nat.le_refl _))).trans (below_cell _ (i := 4) (.slice D4 e'.length d4) (Nat.le_refl _))
            have k7 : ∀ k, Wr.heap.size + 1 ≤ k → (((Y3.setCell ⟨Wr.heap.size, 2, none⟩ (.slice A11 xa.length c11)).setCell ⟨Wr.heap.size, 3, none⟩ (.slice D3 t'.length d3)).setCell ⟨Wr.heap.size, 4, none⟩ (.slice D4 e'.length d4)).heap[k]? = Y3.heap[k]? := fun k hk => by rw [Below.heap_setCell _ _ _ _ (by simp; omega), Below.heap_setCell _ _ _ _ (by simp; omega), Below.heap_setCell _ _ _ _ (by simp; omega)]
            have O7 := Aside0.mk (Kd.R_mono (Kd.R_step (Kd.R_bound OF.out) (fun k hk _ => k7 k hk.2.1)) (fun k hk => (show Wr.heap.size ≤ k from Nat.le_of_succ_le hk.2.1)))
            have T7 := Aside0.mk (Kd.R_mono (Kd.R_step (Kd.R_bound TF.out) (fun k hk _ => k7 k hk.2.1)) (fun k hk => (show Wr.heap.size ≤ k from Nat.le_of_succ_le hk.2.1)))
            have U7 := Aside0.mk (Kd.R_mono (Kd.R_step (Kd.R_bound UF.out) (fun k hk _ => k7 k hk.2.1)) (fun k hk => (show Wr.heap.size ≤ k from Nat.le_of_succ_le hk.2.1)))
            have P7 := Aside0.mk p7
            have B7 := Aside0.mk b7
            clear p7 b7 k7 PF BF OF XF SF TF UF
            generalize (((Y3.setCell ⟨Wr.heap.size, 2, none⟩ (.slice A11 xa.length c11)).setCell ⟨Wr.heap.size, 3, none⟩ (.slice D3 t'.length d3)).setCell ⟨Wr.heap.size, 4, none⟩ (.slice D4 e'.length d4)) = W7 at P7 B7 O7 T7 U7 ⊢
            have x0 : W7.cell? ⟨Wr.heap.size, 0, none⟩ = some _ := (blk_cell P7.out 0).trans rfl
            have x1 : W7.cell? ⟨Wr.heap.size, 1, none⟩ = some _ := (blk_cell P7.out 1).trans rfl
            have x2 : W7.cell? ⟨Wr.heap.size, 2, none⟩ = some _ := (blk_cell P7.out 2).trans rfl
            have x3 : W7.cell? ⟨Wr.heap.size, 3, none⟩ = some _ := (blk_cell P7.out 3).trans rfl
            have x4 : W7.cell? ⟨Wr.heap.size, 4, none⟩ = some _ := (blk_cell P7.out 4).trans rfl
            have hS7 := B7.out.size
            go_wp2_with (first | ((with_reducible refine gate_builtin (b := .append) (xs := #[.tmp 68, .tmp 70]) rfl ?_); at_builtin; refine Kd.R_append k64 (w0 := W1) (W := W7) W1.heap.size rfl (.tmp 68) (.tmp 70) 23 64 (.agg #[(.int .i64 0), (.int .i64 0), (.slice none 0 0), (.slice none 0 0), (.slice none 0 0)]) 88 rfl Try.underlying23 info64 rfl (by decide) (by omega) (.slice A8 j c8) (l'.take j) (⟨opn, n', a', t', e'⟩ : S64) [.int .i64 opn, .int .i64 n', .slice A11 xa.length c11, .slice D3 t'.length d3, .slice D4 e'.length d4] (fun _ => True) (fun k => Wr.heap.size ≤ k) rfl rfl ?aP ?aK (fun _ _ => trivial) ?aO ?aB ?aS ?aL ?_; (case aP => exact k64_mkM _ _ _ (⟨opn, n', a', t', e'⟩ : S64) (Kd.R_lower O7.out (Nat.le_succ_of_le hSB)) (Kd.R_lower T7.out (Nat.le_succ_of_le hSB)) (Kd.R_lower U7.out (Nat.le_succ_of_le hSB))); (case aK => exact fun k hk => ⟨trivial, fun e => by have h9 := hol _ e.symm; omega⟩); (case aO => exact Kd.R_below HO.out B7.out); (case aB => exact BB.out.trans (B7.out.mono hSB)); (case aS => exact Nat.le_trans hSB hS7); (case aL => rw [hjl]; omega); intro v1 W8 o8 b8 g8 t8))
            obtain ⟨A9, c9, e9⟩ := Kd.R_slice o8
            subst e9
            have O8 := Aside0.mk o8
            have B8 := Aside0.mk b8
            clear o8 b8 g8 t8 B7 O7 T7 U7 P7 x0 x1 x2 x3 x4
            go_roundg k1
            case measure => omega
            case rel =>
              refine ⟨j + 1, A9, c9, by simp, by simp; omega, ⟨by have := HI.out; omega⟩, ⟨?_⟩, B8⟩
              have := O8.out
              rw [mv_takeS HYI.out]
              have e7 : (List.take j l' ++ [(⟨opn, n', a', t', e'⟩ : S64)]).length = j + 1 := by simp; omega
              rw [e7] at this
              exact this
          | succ k2 =>
            have hm : m < xa.length := by have := MI.out; omega
            have hd2 : decide ((m : Int) < (xa.length : Int)) = true := decide_eq_true (by omega)
            have HBY := Aside0.mk (HBW.out.trans (BG.out.mono HBW.out.size))
            obtain ⟨ad2, D3, d3, e3, s0, s1, s2, s3, sl3, sr3⟩ := at_T28 QR2.out (m : Int) (by omega) (by omega)
            subst e3
            have hzm : xa[m]? = some (rd_T28 xa (m : Int)) := by unfold rd_T28; rw [Int.toNat_natCast, List.getD_eq_getElem?_getD, List.getElem?_eq_getElem hm]; rfl
            generalize rd_T28 xa (m : Int) = z at s0 s1 s2 s3 sl3 sr3 hzm
            obtain ⟨u, hu, hum⟩ := HAG.out m z hzm
            simp only [Int.toNat_natCast] at s0 s1 s2 s3
            replace s0 := (HBY.out.cell (World.block_lt_of_cell? w _ s0)).trans s0
            replace s1 := (HBY.out.cell (World.block_lt_of_cell? w _ s1)).trans s1
            replace s2 := (HBY.out.cell (World.block_lt_of_cell? w _ s2)).trans s2
            replace s3 := (HBY.out.cell (World.block_lt_of_cell? w _ s3)).trans s3
            have hw2 : IntKind.i64.wrap ((m : Int) + 1) = (m : Int) + 1 := by rw [i64_w]; unfold wrap64; omega
            have W1B := bal (Below.refl wr.heap.size wr) (.cells #[.int .i64 z.f0, .int .i64 z.f1, .int .i64 z.f2, .slice D3 z.f3.length d3] 28)
            have hSY := SG.out
            have hob2 := Kd.R_base MO.out
            have hol2 := Kd.R_lt MO.out
            have htk : (a'.take m).length = m := by rw [List.length_take]; omega
            go_wp2_with (first | (go_at_call 83; refine (prod_moving1.calls _ z u D3 d3 (w.heap.size + 1) _ hu ((HMV.out.below BG.out).below W1B) (Kd.C_below (Kd.C_below sr3 HBY.out) W1B) sl3).mono ?_; rintro e W2 ⟨v, rfl, p2, hb2⟩) | ((with_reducible refine gate_builtin (b := .append) (xs := #[.tmp 47, .tmp 51]) rfl ?_); at_builtin; refine Kd.R_append k28 (w0 := wr) (W := W2) (Wr.heap.size + 1) rfl (.tmp 47) (.tmp 51) 26 28 (.agg #[(.int .i64 0), (.int .i64 0), (.int .i64 0), (.slice none 0 0)]) 48 rfl Try.underlying26 info28 rfl (by decide) (by omega) (.slice A11 m c11) (a'.take m) u [.int .i64 u.f0, .int .i64 u.f1, .int .i64 u.f2, v] (fun _ => True) (fun k => wr.heap.size ≤ k) rfl rfl ?aP ?aK (fun _ _ => trivial) ?aO ?aB ?aS ?aL ?_; (case aP => exact k28_mkM _ _ _ u (Kd.R_lower (Kd.R_mono (Kd.R_bound p2) (fun k hk => Nat.le_trans W1B.size hk.2.1)) (Nat.le_trans hSY W1B.size))); (case aK => exact fun k hk => ⟨trivial, fun e => by have h9 := hol2 _ e.symm; omega⟩); (case aO => exact Kd.R_below (Kd.R_below MO.out W1B) hb2); (case aB => exact (W1B.trans (hb2.mono W1B.size)).mono hSY); (case aS => exact Nat.le_trans hSY (Nat.le_trans W1B.size hb2.size)); (case aL => rw [htk]; omega); intro v1 W3 o3 b3 g3 t3))
            obtain ⟨A6, c6, e6⟩ := Kd.R_slice o3
            subst e6
            have hWW := W1B.trans (hb2.mono W1B.size)
            have pf := Aside0.mk (blk_grown (blk_below PG.out hWW) g3 (fun e => by have h9 := hob2 _ e.symm; omega))
            have bf := Aside0.mk (BG.out.trans (b3.mono (show Wr.heap.size ≤ Wr.heap.size + 1 by omega)))
            have sf := Aside0.mk (Nat.le_trans (Nat.le_trans hSY hWW.size) g3.size)
            have of := Aside0.mk o3
            clear o3 b3 g3 t3 hWW PG BG SG MO W1B hb2 p2
            go_roundg k2
            case measure => omega
            case rel =>
              refine ⟨m + 1, A6, c6, by simp, by simp; omega, ⟨by have := MI.out; omega⟩, ⟨?_⟩, pf, bf, sf⟩
              have := of.out
              rw [mv_take hum]
              have e7 : (List.take m a' ++ [u]).length = m + 1 := by simp; omega
              rw [e7] at this
              exact this
def prod_Moved.f (_ : Nat) (l0 : List S64) (a1 a2 : Int) : Option (List S64) := mvSs a1 a2 l0
theorem prod_Moved.calls (k : Nat) (A0 : Option Addr) (c0 : Nat) (l0 : List S64) (a1 a2 : Int) (r : List S64) (w : World) (hr0 : Kd.C k64 w A0 l0.length l0) (hc0 : l0.length ≤ c0) (h : prod_Moved.f k l0 a1 a2 = some r) :
    Calls Try.prog 64 #[.slice A0 l0.length c0, .int .i64 a1, .int .i64 a2] w fun e w' => ∃ v0_ : Value, e = .returned v0_ ∧ Kd.R k64 64 w' w.heap.size (fun _ => True) v0_ r ∧ Below w.heap.size w w' :=
  prod_Moved.go a1 a2 l0 r A0 c0 w h hr0 hc0
end Go.Proofs.Ytilebfkehmecaaa.Print
namespace Go.Proofs.Ytilebfkehmecaaa.Print
open Go.RowKit Go.Proofs.YtilebfkehmecaaaW.PrintWords Go.Proofs.YtilebfkehmecaaaW.PrintLast Go.Proofs.YtilebfkehmecaaaW.PrintMore
attribute [local go_sem] max2_int min2_int max_two min_two max_three min_three max_four min_four
set_option linter.unusedVariables false
set_option linter.unusedSimpArgs false
open Go.RowKit
def prod_tag.f (_ : Nat) (a0 : Int) : Option ByteArray := if a0 = 0 then some ⟨#[95, 48]⟩ else if a0 = 1 then some ⟨#[95, 49]⟩ else if a0 = 2 then some ⟨#[95, 50]⟩ else none
set_option maxHeartbeats 8000000 in
set_option maxRecDepth 100000 in
theorem prod_tag.calls (k : Nat) (a0 : Int) (r : ByteArray) (w : World) (h : prod_tag.f k a0 = some r) : Calls Try.prog 80 #[.int .i64 a0] w fun e w' => e = .returned (.string r) ∧ Below w.heap.size w w' := by
  unfold prod_tag.f at h
  have hc : (a0 = 0 ∧ r = ⟨#[95, 48]⟩) ∨ (a0 = 1 ∧ r = ⟨#[95, 49]⟩) ∨ (a0 = 2 ∧ r = ⟨#[95, 50]⟩) := by
    by_cases h0 : a0 = 0
    · rw [if_pos h0] at h; exact .inl ⟨h0, (Option.some.inj h).symm⟩
    · rw [if_neg h0] at h
      by_cases h1 : a0 = 1
      · rw [if_pos h1] at h; exact .inr (.inl ⟨h1, (Option.some.inj h).symm⟩)
      · rw [if_neg h1] at h
        by_cases h2 : a0 = 2
        · rw [if_pos h2] at h; exact .inr (.inr ⟨h2, (Option.some.inj h).symm⟩)
        · rw [if_neg h2] at h; cases h
  clear h
  rcases hc with ⟨rfl, rfl⟩ | ⟨rfl, rfl⟩ | ⟨rfl, rfl⟩
  all_goals
    go_enter Try.func80, Try.ntmps80
    go_wp2
    go_ret
    exact ⟨rfl, Below.refl _ _⟩
end Go.Proofs.Ytilebfkehmecaaa.Print
namespace Go.Proofs.Ytilebfkehmecaaa.Print
open Go.RowKit Go.Proofs.YtilebfkehmecaaaW.PrintWords Go.Proofs.YtilebfkehmecaaaW.PrintLast Go.Proofs.YtilebfkehmecaaaW.PrintMore
attribute [local go_sem] max2_int min2_int max_two min_two max_three min_three max_four min_four
set_option linter.unusedVariables false
set_option linter.unusedSimpArgs false
def prod_variables.l0 : Nat → Int → List (S66) → List (S66) → Int → Int → Option ((List (S66)))
 | 0, _, _, _, _, _ => none
 | k + 1, x1, x5, x8, x9, x10 => if x10 < x9 then (if 0 ≤ x10 then (if x10 < (x8.length : Int) then ((prod_tag.f k x1).bind fun t149 => (if ((rd_T66 x8 x10).f0).size + t149.size ≤ 9223372036854775807 then (if x5.length < 4398046511104 then (prod_variables.l0 k x1 (x5 ++ [(⟨((rd_T66 x8 x10).f0) ++ t149, wrap64 (((rd_T66 x8 x10).f1) + (wrap64 (16 * x1))), (rd_T66 x8 x10).f2⟩ : S66)]) x8 x9 (wrap64 (x10 + 1))) else (none)) else (none))) else (none)) else (none)) else (some x5)
def prod_variables.f (k : Nat) (l0 : List (S66)) (a1 : Int) : Option ((List (S66))) := prod_variables.l0 k a1 ([] : List (S66)) l0 (l0.length : Int) 0
def prod_variables.T5 : Bool × List (List Nat × List Nat) := (true, [([], []), ([], []), ([1], [1]), ([], []), ([3], [3]), ([2, 4], [2, 4]), ([], []), ([6], [6]), ([], []), ([8], [8]), ([7, 9], [7, 9]), ([], []), ([11], [11]), ([5, 10, 12], [5, 10, 12]), ([13], [13]), ([0, 14, 4], [0, 14]), ([15, 15, 0, 1, 2, 3, 4, 5, 6, 7, 8, 9, 10, 11, 12, 13, 14, 15], [0, 15])])
def prod_variables.B5 : List Nat := [0, 0, 2, 0, 8, 30, 0, 64, 0, 256, 960, 0, 2048, 8190, 16382, 32767, 65535]
theorem prod_variables.tab5 : rtab .any (opsOf Try.f45 5) = prod_variables.T5 := by kernel_rfl
theorem prod_variables.bits5 : waitsOk prod_variables.T5.2 prod_variables.B5 = true := by kernel_rfl
set_option maxHeartbeats 8000000 in
set_option maxRecDepth 100000 in
theorem prod_variables.calls (k : Nat) (A0 : Option Addr) (c0 : Nat) (l0 : List (S66)) (a1 : Int) (r : List (S66)) (w : World) (hr0 : Kd.C k66 w A0 l0.length l0) (hc0 : l0.length ≤ c0) (h : prod_variables.f k l0 a1 = some r) :
  Calls Try.prog 45 #[.slice A0 l0.length c0, .int .i64 a1] w fun e w' => ∃ v0_ : Value, e = .returned (v0_) ∧ Kd.R k66 66 w' w.heap.size (fun _ => True) v0_ r ∧ Below w.heap.size w w' := by
 have hu66 := Try.underlying66
 have HR0 := Aside0.mk hr0
 have HC0 := Aside0.mk hc0
 clear hr0 hc0
 have HB := Aside0.mk (Below.refl w.heap.size w)
 have H : (prod_variables.l0 k a1 ([] : List (S66)) l0 (l0.length : Int) 0) = some r := h
 clear h
 have H' := Aside0.mk H
 clear H
 go_enter Try.func45, Try.ntmps45
 go_wp2
 go_loopg [5, 10] k (fun kq v5 v10 w' => ∃ (x5_1 : List (S66)) (x10_1 : Int), v10 = .int .i64 x10_1 ∧ Aside0 (prod_variables.l0 kq a1 x5_1 l0 (l0.length : Int) x10_1 = some r) ∧ Aside0 (kq ≤ k) ∧ Aside0 (Kd.R k66 66 w' w.heap.size (fun _ => True) v5 x5_1) ∧ Aside0 (Below w.heap.size w w'))
 case atStart => exact ⟨(([] : List (S66))), (0), (by first | rfl | (simp; done) | (simp [*]; done)), H', ⟨Nat.le_refl _⟩, ⟨by first | exact Kd.R_nil _ _ _ _ _ | exact Kd.N_nil _ _ _ _ _ | exact Kd.V_nil _ _ _ _ _ | exact Kd.Q_nil _ _ _ _ _ | exact Kd.S_nil _ _ _ _ _⟩, ⟨by repeat (first | (with_reducible first | exact HB.out | apply bal | apply bdN | apply bd1) | exact HB.out)⟩⟩
 case round =>
  clear H'
  try clear p2
  obtain ⟨x5_1, x10_1, rfl, HA, HK1, HO_5, HB⟩ := hrel
  cases gk with
  | zero => exact absurd HA.out (by simp [prod_variables.l0])
  | succ k1 =>
   have H := HA.out
   clear HA
   simp only [prod_variables.l0] at H
   by_cases c3 : x10_1 < (l0.length : Int)
   ·rw [if_pos c3] at H
    have c3b0 : decide (x10_1 < (l0.length : Int)) = true := decide_eq_true c3
    clear c3
    by_cases c4 : 0 ≤ x10_1
    ·rw [if_pos c4] at H
     have c4b0 : decide (0 ≤ x10_1) = true := decide_eq_true c4
     clear c4
     by_cases c5 : x10_1 < (l0.length : Int)
     ·rw [if_pos c5] at H
      have c5b0 : decide (x10_1 < (l0.length : Int)) = true := decide_eq_true c5
      clear c5
      replace H := Option.bind_eq_some_iff.mp H
      obtain ⟨t149, A60, H⟩ := H
      replace H : (if ((rd_T66 l0 x10_1).f0).size + t149.size ≤ 9223372036854775807 then (if x5_1.length < 4398046511104 then (prod_variables.l0 k1 a1 (x5_1 ++ [(⟨((rd_T66 l0 x10_1).f0) ++ t149, wrap64 (((rd_T66 l0 x10_1).f1) + (wrap64 (16 * a1))), (rd_T66 l0 x10_1).f2⟩ : S66)]) l0 (l0.length : Int) (wrap64 (x10_1 + 1))) else (none)) else (none)) = some r := H
      have A6 := Aside0.mk A60
      clear A60
      by_cases c7 : ((rd_T66 l0 x10_1).f0).size + t149.size ≤ 9223372036854775807
      ·rw [if_pos c7] at H
       have c7b0 := eq_true c7
       have c7b1 : decide (((rd_T66 l0 x10_1).f0).size + t149.size ≤ 9223372036854775807) = true := decide_eq_true c7
       try have c7b2 : (9223372036854775807 < ((rd_T66 l0 x10_1).f0).size + t149.size) = False := eq_false (Nat.not_lt.2 c7)
       by_cases c8 : x5_1.length < 4398046511104
       ·rw [if_pos c8] at H
        have LMc8 := Aside0.mk c8
        clear c8
        obtain ⟨y150, hy150⟩ : ∃ y_ : List (S66), y_ = (x5_1 ++ [(⟨((rd_T66 l0 x10_1).f0) ++ t149, wrap64 (((rd_T66 l0 x10_1).f1) + (wrap64 (16 * a1))), (rd_T66 l0 x10_1).f2⟩ : S66)]) := ⟨_, rfl⟩
        replace H : (prod_variables.l0 k1 a1 y150 l0 (l0.length : Int) (wrap64 (x10_1 + 1))) = some r := by first | (rw [hy150]; with_reducible exact H) | (have H2_ := (Option.bind_some _ _).symm.trans H; rw [hy150]; with_reducible exact H2_) | (have H2_ := (Option.bind_some _ _).symm.trans H; with_reducible exact H2_) | with_reducible exact H | (rw [hy150]; exact H) | exact H
        have Ny150 := Aside0.mk hy150
        clear hy150
        have H' := Aside0.mk H
        clear H
        have p147 : 0 ≤ (x10_1 : Int) := of_decide_eq_true (by first | (with_reducible assumption) | assumption)
        have q147 : x10_1 < (l0.length : Int) := of_decide_eq_true (by first | (with_reducible assumption) | assumption)
        obtain ⟨ad147, e147, hx147_0, hx147_1, hx147_2⟩ := at_T66 HR0.out x10_1 p147 q147
        cases e147
        replace hx147_0 := bcell HB.out hx147_0
        replace hx147_1 := bcell HB.out hx147_1
        replace hx147_2 := bcell HB.out hx147_2
        replace p147 := eq_true p147
        replace q147 := eq_true q147
        try go_wp2_with (first | ((with_reducible refine gate_dst (N := 7) rfl ?_); refine box_event ?hg (N := 7) ?hd (cs := #[.string (⟨#[]⟩ : ByteArray), .int .i64 0, .int .i64 0]) (t := 66) ?hr ?_; (case hd => rfl); (case hg => rfl); (case hr => first | (go_simp; done) | (go_simp; rfl)); intro gb148 hg w9 hbox hb; have n0_ := Aside0.mk (Kd.R_below (Kd.R_elderB (by (with_reducible repeat (first | apply Kd.R_alloc | apply Kd.R_drewN | apply Kd.R_drew)); exact HO_5.out) gb148 (Nat.le_of_eq hg.symm)) hb); have n1_ := Aside0.mk (bsp (by repeat (first | (with_reducible first | exact HB.out | apply bal | apply bdN | apply bd1) | exact HB.out)) hb); have n2_ := Aside0.mk (hbox); have n3_ := Aside0.mk ((by rw [hg]; exact (bsz (by repeat (first | (with_reducible first | exact HB.out | apply bal | apply bdN | apply bd1) | exact HB.out))) : w.heap.size ≤ gb148)); have n4_ := Aside0.mk ((by rw [hg]; exact (bsz (by repeat (first | (with_reducible first | exact HB.out | apply bal | apply bdN | apply bd1) | exact HB.out))) : w.heap.size ≤ gb148)); clear HO_5; clear HB; have HO_5 := n0_; have HB := n1_; have BK148 := n2_; have GW148 := n3_; have GE148 := n4_; clear n0_ n1_ n2_ n3_ n4_; clear hb hbox hg; obtain ⟨hcz10_0, hcz10_1, hcz10_2, hfz10_0, hfz10_1, hfz10_2⟩ := cf3 BK148.out))
        have n0_ : Aside0 (Kd.R k66 66 (((w9.setCell ⟨gb148, 0, none⟩ (.string ((rd_T66 l0 x10_1).f0))).setCell ⟨gb148, 1, none⟩ (.int .i64 ((rd_T66 l0 x10_1).f1))).setCell ⟨gb148, 2, none⟩ (.int .i64 ((rd_T66 l0 x10_1).f2))) w.heap.size (fun k_ => k_ ≠ gb148) u5 x5_1) := ⟨by (with_reducible repeat (first | apply Kd.R_alloc | apply Kd.R_drewN | apply Kd.R_drew)); exact Kd.R_mono (Kd.R_far (p := ⟨gb148, 2, none⟩) (Kd.R_far (p := ⟨gb148, 1, none⟩) (Kd.R_far (p := ⟨gb148, 0, none⟩) (Kd.R_mono HO_5.out (fun k_ hk => (⟨hk, hk.2⟩ : _ ∧ k_ ≠ gb148))) (fun _ hk => hk.2) (.string ((rd_T66 l0 x10_1).f0))) (fun _ hk => hk.2) (.int .i64 ((rd_T66 l0 x10_1).f1))) (fun _ hk => hk.2) (.int .i64 ((rd_T66 l0 x10_1).f2))) (fun _ hk => hk.1.2)⟩
        have n1_ : Aside0 ((((w9.setCell ⟨gb148, 0, none⟩ (.string ((rd_T66 l0 x10_1).f0))).setCell ⟨gb148, 1, none⟩ (.int .i64 ((rd_T66 l0 x10_1).f1))).setCell ⟨gb148, 2, none⟩ (.int .i64 ((rd_T66 l0 x10_1).f2))).heap[gb148]? = some (.cells #[.string ((rd_T66 l0 x10_1).f0), .int .i64 ((rd_T66 l0 x10_1).f1), .int .i64 ((rd_T66 l0 x10_1).f2)] 66 (0, 0))) := ⟨by (with_reducible repeat (first | refine kdN ?_ _ | refine kdr ?_ | refine kal ?_ _)); refine blk_put (cs := #[.string ((rd_T66 l0 x10_1).f0), .int .i64 ((rd_T66 l0 x10_1).f1), .int .i64 0]) ?_ 2 _ rfl; (with_reducible repeat (first | refine kdN ?_ _ | refine kdr ?_ | refine kal ?_ _)); refine blk_put (cs := #[.string ((rd_T66 l0 x10_1).f0), .int .i64 0, .int .i64 0]) ?_ 1 _ rfl; (with_reducible repeat (first | refine kdN ?_ _ | refine kdr ?_ | refine kal ?_ _)); refine blk_put (cs := #[.string (⟨#[]⟩ : ByteArray), .int .i64 0, .int .i64 0]) ?_ 0 _ rfl; (with_reducible repeat (first | refine kdN ?_ _ | refine kdr ?_ | refine kal ?_ _)); exact BK148.out⟩
        have n2_ : Aside0 (Below w.heap.size w (((w9.setCell ⟨gb148, 0, none⟩ (.string ((rd_T66 l0 x10_1).f0))).setCell ⟨gb148, 1, none⟩ (.int .i64 ((rd_T66 l0 x10_1).f1))).setCell ⟨gb148, 2, none⟩ (.int .i64 ((rd_T66 l0 x10_1).f2)))) := ⟨by repeat (first | (with_reducible first | exact HB.out | apply bal | apply bdN | apply bd1 | refine bst ?_ GE148.out) | exact HB.out)⟩
        (try clear HO_5)
        (try clear BK148)
        (try clear HB)
        generalize (((w9.setCell ⟨gb148, 0, none⟩ (.string ((rd_T66 l0 x10_1).f0))).setCell ⟨gb148, 1, none⟩ (.int .i64 ((rd_T66 l0 x10_1).f1))).setCell ⟨gb148, 2, none⟩ (.int .i64 ((rd_T66 l0 x10_1).f2))) = w11 at n0_ n1_ n2_ ⊢
        have HO_5 := n0_
        have BK148 := n1_
        have HB := n2_
        clear n0_ n1_ n2_
        have n0_ := Aside0.mk (Kd.R_drew HO_5.out)
        have n1_ := Aside0.mk (kdr BK148.out)
        have n2_ := Aside0.mk (bd1 HB.out)
        clear HO_5
        clear BK148
        clear HB
        have HO_5 := n0_
        have BK148 := n1_
        have HB := n2_
        clear n0_ n1_ n2_
        refine start_ (n := 17) (S := fun w' => w'.cell? ⟨gb148, 0, none⟩ = some (.string ((rd_T66 l0 x10_1).f0)) ∧ w'.cell? ⟨gb148, 1, none⟩ = some (.int .i64 ((rd_T66 l0 x10_1).f1)) ∧ w'.cell? ⟨gb148, 2, none⟩ = some (.int .i64 ((rd_T66 l0 x10_1).f2))) (ds := []) #[false, false, false, false, false, false, false, false, false, false, false, false, false, false, false, false, false] (by kernel_rfl) rfl rfl ⟨(blk_cell BK148.out 0).trans rfl, (blk_cell BK148.out 1).trans rfl, (blk_cell BK148.out 2).trans rfl⟩ (fun hHeld => ?_); refine with_tabW prod_variables.tab5 prod_variables.bits5 (fun HT_ HW_ => ?_)
        generalize w11.drew = w12 at HO_5 BK148 HB hHeld ⊢
        refine pure_ (i := 0) (N := some 14) (v := ?_) (a' := ?_) #[true, false, false, false, false, false, false, false, false, false, false, false, false, false, false, false, false] rfl rfl (any_of HT_.out (by kernel_rfl)) (fun _ _ _ h => h) (Or.inl ⟨by rfl, ?_⟩) ?_ ?_
        rotate_left
        ·intro w'
         go_simp
         with_reducible rfl
        rotate_left
        ·simp only [Act.put, List.setIfInBounds_toArray, List.set_cons_zero, List.set_cons_succ, i64_w, i32_w]
         rfl
        refine pure_ (i := 1) (N := some 15) (v := ?_) (a' := ?_) #[true, true, false, false, false, false, false, false, false, false, false, false, false, false, false, false, false] rfl rfl (any_of HT_.out (by kernel_rfl)) (fun _ _ _ h => h) (Or.inl ⟨by rfl, ?_⟩) ?_ ?_
        rotate_left
        ·intro w'
         go_simp
         with_reducible rfl
        rotate_left
        ·simp only [Act.put, List.setIfInBounds_toArray, List.set_cons_zero, List.set_cons_succ, i64_w, i32_w]
         rfl
        refine pure_ (i := 3) (N := some 17) (v := ?_) (a' := ?_) #[true, true, false, true, false, false, false, false, false, false, false, false, false, false, false, false, false] rfl rfl (any_of HT_.out (by kernel_rfl)) (fun _ _ _ h => h) (Or.inl ⟨by rfl, ?_⟩) ?_ ?_
        rotate_left
        ·intro w'
         go_simp
         with_reducible rfl
        rotate_left
        ·simp only [Act.put, List.setIfInBounds_toArray, List.set_cons_zero, List.set_cons_succ, i64_w, i32_w]
         rfl
        refine pure_ (i := 6) (N := some 20) (v := ?_) (a' := ?_) #[true, true, false, true, false, false, true, false, false, false, false, false, false, false, false, false, false] rfl rfl (any_of HT_.out (by kernel_rfl)) (fun _ _ _ h => h) (Or.inl ⟨by rfl, ?_⟩) ?_ ?_
        rotate_left
        ·intro w'
         go_simp
         with_reducible rfl
        rotate_left
        ·simp only [Act.put, List.setIfInBounds_toArray, List.set_cons_zero, List.set_cons_succ, i64_w, i32_w]
         rfl
        refine pure_ (i := 8) (N := some 22) (v := ?_) (a' := ?_) #[true, true, false, true, false, false, true, false, true, false, false, false, false, false, false, false, false] rfl rfl (any_of HT_.out (by kernel_rfl)) (fun _ _ _ h => h) (Or.inl ⟨by rfl, ?_⟩) ?_ ?_
        rotate_left
        ·intro w'
         go_simp
         with_reducible rfl
        rotate_left
        ·simp only [Act.put, List.setIfInBounds_toArray, List.set_cons_zero, List.set_cons_succ, i64_w, i32_w]
         rfl
        refine pure_ (i := 9) (N := some 23) (v := ?_) (a' := ?_) #[true, true, false, true, false, false, true, false, true, true, false, false, false, false, false, false, false] rfl rfl (any_of HT_.out (by kernel_rfl)) (fun _ _ _ h => h) (Or.inl ⟨by rfl, ?_⟩) ?_ ?_
        rotate_left
        ·intro w'
         go_simp
         with_reducible rfl
        rotate_left
        ·simp only [Act.put, List.setIfInBounds_toArray, List.set_cons_zero, List.set_cons_succ, i64_w, i32_w]
         rfl
        refine pure_ (i := 11) (N := some 25) (v := ?_) (a' := ?_) #[true, true, false, true, false, false, true, false, true, true, false, true, false, false, false, false, false] rfl rfl (any_of HT_.out (by kernel_rfl)) (fun _ _ _ h => h) (Or.inl ⟨by rfl, ?_⟩) ?_ ?_
        rotate_left
        ·intro w'
         go_simp
         with_reducible rfl
        rotate_left
        ·simp only [Act.put, List.setIfInBounds_toArray, List.set_cons_zero, List.set_cons_succ, i64_w, i32_w]
         rfl
        refine take_ (i := 2) (N := some 16) (v := ?_) (a' := ?_) #[true, true, true, true, false, false, true, false, true, true, false, true, false, false, false, false, false] rfl rfl (take_ofW HT_.out HW_.out (by kernel_rfl)) (fun _ _ _ h => h) (Or.inl ⟨by rfl, ?_⟩) hHeld ?_ ?_
        rotate_left
        ·rintro w' ⟨s0, s1, s2⟩
         go_simp
         with_reducible rfl
        rotate_left
        ·simp only [Act.put, List.setIfInBounds_toArray, List.set_cons_zero, List.set_cons_succ, i64_w, i32_w]
         rfl
        refine take_ (i := 7) (N := some 21) (v := ?_) (a' := ?_) #[true, true, true, true, false, false, true, true, true, true, false, true, false, false, false, false, false] rfl rfl (take_ofW HT_.out HW_.out (by kernel_rfl)) (fun _ _ _ h => h) (Or.inl ⟨by rfl, ?_⟩) hHeld ?_ ?_
        rotate_left
        ·rintro w' ⟨s0, s1, s2⟩
         go_simp
         with_reducible rfl
        rotate_left
        ·simp only [Act.put, List.setIfInBounds_toArray, List.set_cons_zero, List.set_cons_succ, i64_w, i32_w]
         rfl
        refine pure_ (i := 10) (N := some 24) (v := ?_) (a' := ?_) #[true, true, true, true, false, false, true, true, true, true, true, true, false, false, false, false, false] rfl rfl (any_of HT_.out (by kernel_rfl)) (fun _ _ _ h => h) (Or.inl ⟨by rfl, ?_⟩) ?_ ?_
        rotate_left
        ·intro w'
         go_simp
         with_reducible rfl
        rotate_left
        ·simp only [Act.put, List.setIfInBounds_toArray, List.set_cons_zero, List.set_cons_succ, i64_w, i32_w]
         rfl
        refine take_ (i := 12) (N := some 26) (v := ?_) (a' := ?_) #[true, true, true, true, false, false, true, true, true, true, true, true, true, false, false, false, false] rfl rfl (take_ofW HT_.out HW_.out (by kernel_rfl)) (fun _ _ _ h => h) (Or.inl ⟨by rfl, ?_⟩) hHeld ?_ ?_
        rotate_left
        ·rintro w' ⟨s0, s1, s2⟩
         go_simp
         with_reducible rfl
        rotate_left
        ·simp only [Act.put, List.setIfInBounds_toArray, List.set_cons_zero, List.set_cons_succ, i64_w, i32_w]
         rfl
        refine one_ (i := 4) (N := some 18) #[true, true, true, true, true, false, true, true, true, true, true, true, true, false, false, false, false] rfl rfl (one_of HT_.out (by kernel_rfl)) (by decide) (fun K hK => ?_)
        refine goes_ Try.func80 (by kernel_rfl) rfl #[.int .i64 a1] (by rfl) rfl rfl (by (try simp only [List.map_toArray, List.map_cons, List.map_nil]); first | done | rfl | (simp only [List.length_drop, List.length_take]; rfl)) ?_
        with_reducible refine (prod_tag.calls k1 a1 t149 _ A6.out).mono ?_
        rintro e w13 ⟨rfl, hb⟩
        refine ⟨_, rfl, ?_⟩
        have n0_ := Aside0.mk (Kd.R_below (by (with_reducible repeat (first | apply Kd.R_alloc | apply Kd.R_drewN | apply Kd.R_drew)); exact HO_5.out) hb)
        have n1_ := Aside0.mk (blk_below (g := gb148) (o := .cells #[.string ((rd_T66 l0 x10_1).f0), .int .i64 ((rd_T66 l0 x10_1).f1), .int .i64 ((rd_T66 l0 x10_1).f2)] 66 (0, 0)) (by (with_reducible repeat (first | refine kdN ?_ _ | refine kdr ?_ | refine kal ?_ _)); exact BK148.out) hb)
        have n2_ := Aside0.mk (bsp (by repeat (first | (with_reducible first | exact HB.out | apply bal | apply bdN | apply bd1 | refine bst ?_ GE148.out) | exact HB.out)) hb)
        clear HO_5
        clear BK148
        clear HB
        have HO_5 := n0_
        have BK148 := n1_
        have HB := n2_
        clear n0_ n1_ n2_
        (try clear hb)
        (try clear hb2)
        (try clear hk)
        (try clear hi)
        refine hK.out _ _ ⟨(blk_cell BK148.out 0).trans rfl, (blk_cell BK148.out 1).trans rfl, (blk_cell BK148.out 2).trans rfl⟩ (fun hHeld => ?_)
        clear hK K
        refine norm_ (a' := ?_) ?_ ?_
        rotate_left
        ·show Act.put _ (some 18) _ = _
         simp only [Act.put, List.setIfInBounds_toArray, List.set_cons_zero, List.set_cons_succ, i64_w, i32_w]
         rfl
        refine pure_ (i := 5) (N := some 19) (v := ?_) (a' := ?_) #[true, true, true, true, true, true, true, true, true, true, true, true, true, false, false, false, false] rfl rfl (any_of HT_.out (by kernel_rfl)) (fun _ _ _ h => h) (Or.inl ⟨by rfl, ?_⟩) ?_ ?_
        rotate_left
        ·intro w'
         go_simp
         with_reducible rfl
        rotate_left
        ·simp only [Act.put, List.setIfInBounds_toArray, List.set_cons_zero, List.set_cons_succ, i64_w, i32_w]
         rfl
        refine pure_ (i := 13) (N := some 27) (v := ?_) (a' := ?_) #[true, true, true, true, true, true, true, true, true, true, true, true, true, true, false, false, false] rfl rfl (any_of HT_.out (by kernel_rfl)) (fun _ _ _ h => h) (Or.inl ⟨by rfl, ?_⟩) ?_ ?_
        rotate_left
        ·intro w'
         go_simp
         with_reducible rfl
        rotate_left
        ·simp only [Act.put, List.setIfInBounds_toArray, List.set_cons_zero, List.set_cons_succ, i64_w, i32_w]
         rfl
        refine one_ (i := 14) (N := some 28) #[true, true, true, true, true, true, true, true, true, true, true, true, true, true, true, false, false] rfl rfl (one_of HT_.out (by kernel_rfl)) (by decide) (fun K hK => ?_)
        refine value_ (w1 := ?_) (v := ?_) (by rfl) rfl ?_ ?_
        rotate_left 2
        ·go_simp
         constructor
         ·rfl
         ·rfl
        refine hK.out _ _ ⟨(blk_cell (kal BK148.out _) 0).trans rfl, (blk_cell (kal BK148.out _) 1).trans rfl, (blk_cell (kal BK148.out _) 2).trans rfl⟩ (fun hHeld => ?_)
        clear hK K
        refine norm_ (a' := ?_) ?_ ?_
        rotate_left
        ·show Act.put _ (some 28) _ = _
         simp only [Act.put, List.setIfInBounds_toArray, List.set_cons_zero, List.set_cons_succ, i64_w, i32_w]
         rfl
        refine one_ (i := 15) (N := some 29) #[true, true, true, true, true, true, true, true, true, true, true, true, true, true, true, true, false] rfl rfl (one_of HT_.out (by kernel_rfl)) (by decide) (fun K hK => ?_)
        refine Kd.R_append_step k66 (w0 := w) w.heap.size (by rfl) (.tmp 14) (.tmp 28) 22 66 (.agg #[(.string ⟨#[]⟩), (.int .i64 0), (.int .i64 0)]) 32 rfl Try.underlying22 info66 rfl (by decide) (by omega) u5 x5_1 (⟨((rd_T66 l0 x10_1).f0) ++ t149, wrap64 (((rd_T66 l0 x10_1).f1) + (wrap64 (16 * a1))), (rd_T66 l0 x10_1).f2⟩ : S66) [.string (((rd_T66 l0 x10_1).f0) ++ t149), .int .i64 (wrap64 (((rd_T66 l0 x10_1).f1) + (wrap64 (16 * a1)))), .int .i64 ((rd_T66 l0 x10_1).f2)] (fun k_ => k_ ≠ gb148) (fun _ => False) rfl rfl ?aP (fun _ hk => hk.elim) ?aF ?aO ?aB ?aS ?aL ?_
        (case aP => exact k66_mkM _ _ _ (⟨((rd_T66 l0 x10_1).f0) ++ t149, wrap64 (((rd_T66 l0 x10_1).f1) + (wrap64 (16 * a1))), (rd_T66 l0 x10_1).f2⟩ : S66))
        (case aB => exact (by repeat (first | (with_reducible first | exact HB.out | apply bal | apply bdN | apply bd1 | refine bst ?_ GE148.out) | exact HB.out)))
        (case aF => exact (fun k_ hk => Kd.freshB (g := gb148) (o := .cells #[.string ((rd_T66 l0 x10_1).f0), .int .i64 ((rd_T66 l0 x10_1).f1), .int .i64 ((rd_T66 l0 x10_1).f2)] 66 (0, 0)) (by (with_reducible repeat (first | refine kdN ?_ _ | refine kdr ?_ | refine kal ?_ _)); exact BK148.out) k_ hk))
        (case aO => exact (by (with_reducible repeat (first | apply Kd.R_alloc | apply Kd.R_drewN | apply Kd.R_drew)); exact HO_5.out))
        (case aS => exact (bsz (by repeat (first | (with_reducible first | exact HB.out | apply bal | apply bdN | apply bd1 | refine bst ?_ GE148.out) | exact HB.out))))
        (case aL => have := LMc8.out; omega)
        intro v151 w14 ho hb hg hat
        rw [← Ny150.out] at ho
        have n0_ := Aside0.mk (blk_grown (g := gb148) (o := .cells #[.string ((rd_T66 l0 x10_1).f0), .int .i64 ((rd_T66 l0 x10_1).f1), .int .i64 ((rd_T66 l0 x10_1).f2)] 66 (0, 0)) (by (with_reducible repeat (first | refine kdN ?_ _ | refine kdr ?_ | refine kal ?_ _)); exact BK148.out) hg (Kd.R_away HO_5.out (fun _ hk => hk)))
        have n1_ := Aside0.mk (hb)
        have n2_ := Aside0.mk (ho)
        clear BK148
        clear HB
        clear HO_5
        have BK148 := n0_
        have HB := n1_
        have HO152 := n2_
        clear n0_ n1_ n2_
        clear ho hb hg hat
        refine hK.out _ _ ⟨(blk_cell BK148.out 0).trans rfl, (blk_cell BK148.out 1).trans rfl, (blk_cell BK148.out 2).trans rfl⟩ (fun hHeld => ?_)
        clear hK K
        refine norm_ (a' := ?_) ?_ ?_
        rotate_left
        ·show Act.put _ (some 29) _ = _
         simp only [Act.put, List.setIfInBounds_toArray, List.set_cons_zero, List.set_cons_succ, i64_w, i32_w]
         rfl
        refine pure_ (i := 16) (N := some 5) (v := ?_) (a' := ?_) #[true, true, true, true, true, true, true, true, true, true, true, true, true, true, true, true, true] rfl rfl (any_of HT_.out (by kernel_rfl)) (fun _ _ _ h => h) (Or.inl ⟨by rfl, ?_⟩) ?_ ?_
        rotate_left
        ·intro w'
         go_simp
         with_reducible rfl
        rotate_left
        ·simp only [Act.put, List.setIfInBounds_toArray, List.set_cons_zero, List.set_cons_succ, i64_w, i32_w]
         rfl
        refine done_ (done_of HT_.out (by kernel_rfl)) ?_
        try go_wp2
        go_roundg k1
        case measure => have := HK1.out; omega
        case rel => exact ⟨(y150), (wrap64 (x10_1 + 1)), (by first | rfl | (simp; done) | (simp [*]; done)), H', ⟨by have := HK1.out; omega⟩, ⟨by (with_reducible repeat (first | apply Kd.R_alloc | apply Kd.R_drewN | apply Kd.R_drew)); exact Kd.R_mono HO152.out (fun _ hk => trivial)⟩, ⟨by repeat (first | (with_reducible first | exact HB.out | apply bal | apply bdN | apply bd1 | refine bst ?_ GE148.out) | exact HB.out)⟩⟩
       ·rw [if_neg c8] at H
        exact absurd H (by simp)
      ·rw [if_neg c7] at H
       exact absurd H (by simp)
     ·rw [if_neg c5] at H
      exact absurd H (by simp)
    ·rw [if_neg c4] at H
     exact absurd H (by simp)
   ·rw [if_neg c3] at H
    have c3b0 : decide (x10_1 < (l0.length : Int)) = false := decide_eq_false c3
    clear c3
    obtain rfl := Option.some.inj H
    go_wp2
    go_ret
    exact ⟨_, by first | rfl | (simp [*] <;> rfl), by (with_reducible repeat (first | apply Kd.R_alloc | apply Kd.R_drewN | apply Kd.R_drew)); exact HO_5.out, by repeat (first | (with_reducible first | exact HB.out | apply bal | apply bdN | apply bd1) | exact HB.out)⟩
def prod_Of.l0 : Nat → List (S25) → Int → Int → Int → List (S66) → List (S64) → Option (Int × (List (S66)) × (List (S64)))
 | 0, _, _, _, _, _, _ => none
 | k + 1, x11, x12, x13, x204000, x204001, x204002 => if x13 < x12 then (if 0 ≤ x13 then (if x13 < (x11.length : Int) then ((prod_variables.f k ((rd_T25 x11 x13).f1) x13).bind fun t206 => (if x204001.length + t206.length < 4398046511104 then ((prod_Moved.f k ((rd_T25 x11 x13).f2) x13 (wrap64 (x13 * (((rd_T25 x11 x13).f1).length : Int)))).bind fun t212 => (if x204002.length + t212.length < 1599289640401 then (prod_Of.l0 k x11 x12 (wrap64 (x13 + 1)) x204000 (x204001 ++ t206) (x204002 ++ t212)) else (none))) else (none))) else (none)) else (none)) else (some (x204000, x204001, x204002))
def prod_Of.f (k : Nat) (l0 : List (S25)) : Option (Int × (List (S66)) × (List (S64))) := if 0 < (l0.length : Int) then (prod_Of.l0 k l0 (l0.length : Int) 0 ((rd_T25 l0 0).f0) ([] : List (S66)) ([] : List (S64))) else (none)
def prod_Of.T5 : Bool × List (List Nat × List Nat) := (true, [([], []), ([0], [0]), ([], []), ([2], [2]), ([], []), ([3, 4], [3, 4]), ([1, 5, 5], [1, 5]), ([0, 1, 2, 3, 4, 5, 6], []), ([7, 6, 6, 0, 1, 2, 3, 4, 5, 6], [6, 7])])
def prod_Of.B5 : List Nat := [0, 1, 0, 4, 0, 28, 63, 127, 255]
theorem prod_Of.tab5 : rtab .any (opsOf Try.f65 5) = prod_Of.T5 := by kernel_rfl
theorem prod_Of.bits5 : waitsOk prod_Of.T5.2 prod_Of.B5 = true := by kernel_rfl
def prod_Of.T6 : Bool × List (List Nat × List Nat) := (true, [([], []), ([0], [0]), ([], []), ([2], [2]), ([], []), ([], []), ([], []), ([6], [6]), ([7], [7]), ([5, 8], [5, 8]), ([3, 4, 9], [3, 4, 9]), ([1, 10, 10], [1, 10]), ([0, 1, 2, 3, 4, 5, 6, 7, 8, 9, 10, 11], []), ([12, 11, 11, 0, 1, 2, 3, 4, 5, 6, 7, 8, 9, 10, 11], [11, 12])])
def prod_Of.B6 : List Nat := [0, 1, 0, 4, 0, 0, 0, 64, 192, 480, 1020, 2047, 4095, 8191]
theorem prod_Of.tab6 : rtab .any (opsOf Try.f65 6) = prod_Of.T6 := by kernel_rfl
theorem prod_Of.bits6 : waitsOk prod_Of.T6.2 prod_Of.B6 = true := by kernel_rfl
set_option maxHeartbeats 8000000 in
set_option maxRecDepth 100000 in
theorem prod_Of.calls (k : Nat) (A0 : Option Addr) (c0 : Nat) (l0 : List (S25)) (r1 : Int) (r2 : List (S66)) (r3 : List (S64)) (w : World) (hr0 : Kd.C k25 w A0 l0.length l0) (hc0 : l0.length ≤ c0) (h : prod_Of.f k l0 = some (r1, r2, r3)) :
  Calls Try.prog 65 #[.slice A0 l0.length c0] w fun e w' => ∃ v1_ v2_ : Value, e = .returned (.agg #[.int .i64 r1, v1_, v2_]) ∧ Kd.R k66 66 w' w.heap.size (fun k_ => (w.heap.size ≤ k_)) v1_ r2 ∧ Kd.N k64 64 w' w.heap.size (fun k_ => (w.heap.size ≤ k_) ∧ some k_ ≠ (v1_ : Value).ownBlock) v2_ r3 ∧ Below w.heap.size w w' := by
 have hu25 := Try.underlying25
 have HR0 := Aside0.mk hr0
 have HC0 := Aside0.mk hc0
 clear hr0 hc0
 have HB := Aside0.mk (Below.refl w.heap.size w)
 have H : (if 0 < (l0.length : Int) then (prod_Of.l0 k l0 (l0.length : Int) 0 ((rd_T25 l0 0).f0) ([] : List (S66)) ([] : List (S64))) else (none)) = some (r1, r2, r3) := h
 clear h
 by_cases c2 : 0 < (l0.length : Int)
 ·rw [if_pos c2] at H
  have c2b0 : decide (0 < (l0.length : Int)) = true := decide_eq_true c2
  have c2b1 : decide (0 < l0.length) = true := decide_eq_true (by omega)
  clear c2
  have H' := Aside0.mk H
  clear H
  go_enter Try.func65, Try.ntmps65
  go_wp2_with (first | ((with_reducible refine gate_dst (N := 2) rfl ?_); refine box_event ?hg (N := 2) ?hd (cs := #[.int .i64 0, .slice none 0 0, .slice none 0 0]) (t := 25) ?hr ?_; (case hd => rfl); (case hg => rfl); (case hr => first | (go_simp; done) | (go_simp; rfl)); intro gb201 hg w3 hbox hb; have n0_ := Aside0.mk (bsp (by repeat (first | (with_reducible first | exact HB.out | apply bal | apply bdN | apply bd1) | exact HB.out)) hb); have n1_ := Aside0.mk (hbox); have n2_ := Aside0.mk ((by rw [hg]; exact (bsz (by repeat (first | (with_reducible first | exact HB.out | apply bal | apply bdN | apply bd1) | exact HB.out))) : w.heap.size ≤ gb201)); have n3_ := Aside0.mk ((by rw [hg]; exact (bsz (by repeat (first | (with_reducible first | exact HB.out | apply bal | apply bdN | apply bd1) | exact HB.out))) : w.heap.size ≤ gb201)); clear HB; have HB := n0_; have BK201 := n1_; have GW201 := n2_; have GE201 := n3_; clear n0_ n1_ n2_ n3_; clear hb hbox hg; have p202 : 0 ≤ (0 : Int) := (by omega); have q202 : 0 < (l0.length : Int) := of_decide_eq_true (by first | (with_reducible assumption) | assumption); obtain ⟨ad202, A202_1, c202_1, A202_2, c202_2, e202, hx202_0, hx202_1, hx202_2, hl202_1, hi202_1, hl202_2, hi202_2⟩ := at_T25 HR0.out 0 p202 q202; cases e202; have qi202 : (0 < l0.length) = True := eq_true (by omega); (try rw [show ((0 : Int)).toNat = 0 from rfl] at hx202_0); (try rw [show 0 * 3 = 0 from rfl] at hx202_0); (try rw [Addr.add_zero'] at hx202_0); (try rw [show ((0 : Int)).toNat = 0 from rfl] at hx202_1); (try rw [show 0 * 3 = 0 from rfl] at hx202_1); (try rw [Addr.add_zero'] at hx202_1); (try rw [show ((0 : Int)).toNat = 0 from rfl] at hx202_2); (try rw [show 0 * 3 = 0 from rfl] at hx202_2); (try rw [Addr.add_zero'] at hx202_2); replace hx202_0 := bcell HB.out hx202_0; replace hx202_1 := bcell HB.out hx202_1; replace hx202_2 := bcell HB.out hx202_2; have HR202_1 := Aside0.mk hi202_1; have HC202_1 := Aside0.mk hl202_1; clear hi202_1 hl202_1; have HR202_2 := Aside0.mk hi202_2; have HC202_2 := Aside0.mk hl202_2; clear hi202_2 hl202_2; replace p202 := eq_true p202; replace q202 := eq_true q202) | ((with_reducible refine gate_dst (N := 3) rfl ?_); refine box_event ?hg (N := 3) ?hd (cs := #[.int .i64 0, .slice none 0 0, .slice none 0 0]) (t := 25) ?hr ?_; (case hd => rfl); (case hg => rfl); (case hr => first | (go_simp; done) | (go_simp; rfl)); intro gb203 hg w4 hbox hb; have n0_ := Aside0.mk (blk_below (g := gb201) (o := .cells #[.int .i64 0, .slice none 0 0, .slice none 0 0] 25 (0, 0)) (by (with_reducible repeat (first | refine kdN ?_ _ | refine kdr ?_ | refine kal ?_ _)); exact BK201.out) hb); have n1_ := Aside0.mk (bsp (by repeat (first | (with_reducible first | exact HB.out | apply bal | apply bdN | apply bd1 | refine bst ?_ GE201.out) | exact HB.out)) hb); have n2_ := Aside0.mk (hbox); have n3_ := Aside0.mk ((by rw [hg]; exact (bsz (by repeat (first | (with_reducible first | exact HB.out | apply bal | apply bdN | apply bd1 | refine bst ?_ GE201.out) | exact HB.out))) : w.heap.size ≤ gb203)); have n4_ := Aside0.mk ((by rw [hg]; exact (bsz (by repeat (first | (with_reducible first | exact HB.out | apply bal | apply bdN | apply bd1 | refine bst ?_ GE201.out) | exact HB.out))) : w.heap.size ≤ gb203)); have n5_ := Aside0.mk ((by rw [hg]; exact Nat.ne_of_lt (blk_lt (g := gb201) (o := .cells #[.int .i64 0, .slice none 0 0, .slice none 0 0] 25 (0, 0)) (by (with_reducible repeat (first | refine kdN ?_ _ | refine kdr ?_ | refine kal ?_ _)); exact BK201.out)) : gb201 ≠ gb203)); have n6_ := Aside0.mk ((by rw [hg]; exact Nat.ne_of_gt (blk_lt (g := gb201) (o := .cells #[.int .i64 0, .slice none 0 0, .slice none 0 0] 25 (0, 0)) (by (with_reducible repeat (first | refine kdN ?_ _ | refine kdr ?_ | refine kal ?_ _)); exact BK201.out)) : gb203 ≠ gb201)); clear BK201; clear HB; have BK201 := n0_; have HB := n1_; have BK203 := n2_; have GW203 := n3_; have GE203 := n4_; have NB201_203 := n5_; have NB203_201 := n6_; clear n0_ n1_ n2_ n3_ n4_ n5_ n6_; clear hb hbox hg; have hnb5 := NB203_201.out; have hnc5 := NB201_203.out; obtain ⟨hcz6_0, hcz6_1, hcz6_2, hfz6_0, hfz6_1, hfz6_2⟩ := cf3 BK203.out))
  go_loopg [13] k (fun kq v13 w' => ∃ (x13_1 : Int) (x204001_1 : List (S66)) (x204002_1 : List (S64)) (u204001 : Value) (u204002 : Value), v13 = .int .i64 x13_1 ∧ Aside0 (prod_Of.l0 kq l0 (l0.length : Int) x13_1 ((rd_T25 l0 0).f0) x204001_1 x204002_1 = some (r1, r2, r3)) ∧ Aside0 (kq ≤ k) ∧ Aside0 (Kd.R k66 66 w' w.heap.size (fun k_ => (w.heap.size ≤ k_)) u204001 x204001_1) ∧ Aside0 (Kd.N k64 64 w' w.heap.size (fun k_ => (w.heap.size ≤ k_) ∧ some k_ ≠ (u204001 : Value).ownBlock ∧ k_ ≠ gb201 ∧ k_ ≠ gb203) u204002 x204002_1) ∧ Aside0 (w'.heap[gb201]? = some (.cells #[.int .i64 0, (.slice none 0 0), (.slice none 0 0)] 25 (0, 0))) ∧ Aside0 (w'.heap[gb203]? = some (.cells #[.int .i64 ((rd_T25 l0 0).f0), u204001, u204002] 25 (0, 0))) ∧ Aside0 (Below w.heap.size w w'))
  case atStart => exact ⟨(0), (([] : List (S66))), (([] : List (S64))), (.slice none 0 0), (.slice none 0 0), (by first | rfl | (simp; done) | (simp [*]; done)), H', ⟨Nat.le_refl _⟩, ⟨by first | exact Kd.R_nil _ _ _ _ _ | exact Kd.N_nil _ _ _ _ _ | exact Kd.V_nil _ _ _ _ _ | exact Kd.Q_nil _ _ _ _ _ | exact Kd.S_nil _ _ _ _ _⟩, ⟨by first | exact Kd.R_nil _ _ _ _ _ | exact Kd.N_nil _ _ _ _ _ | exact Kd.V_nil _ _ _ _ _ | exact Kd.Q_nil _ _ _ _ _ | exact Kd.S_nil _ _ _ _ _⟩, ⟨by (with_reducible repeat (first | refine kdN ?_ _ | refine kdr ?_ | refine kal ?_ _)); refine blk_far ?_ NB201_203.out _; (with_reducible repeat (first | refine kdN ?_ _ | refine kdr ?_ | refine kal ?_ _)); refine blk_far ?_ NB201_203.out _; (with_reducible repeat (first | refine kdN ?_ _ | refine kdr ?_ | refine kal ?_ _)); refine blk_far ?_ NB201_203.out _; (with_reducible repeat (first | refine kdN ?_ _ | refine kdr ?_ | refine kal ?_ _)); exact BK201.out⟩, ⟨by (with_reducible repeat (first | refine kdN ?_ _ | refine kdr ?_ | refine kal ?_ _)); refine blk_put (cs := #[.int .i64 ((rd_T25 l0 0).f0), .slice none 0 0, .slice none 0 0]) ?_ 2 _ rfl; (with_reducible repeat (first | refine kdN ?_ _ | refine kdr ?_ | refine kal ?_ _)); refine blk_put (cs := #[.int .i64 ((rd_T25 l0 0).f0), .slice none 0 0, .slice none 0 0]) ?_ 1 _ rfl; (with_reducible repeat (first | refine kdN ?_ _ | refine kdr ?_ | refine kal ?_ _)); refine blk_put (cs := #[.int .i64 0, .slice none 0 0, .slice none 0 0]) ?_ 0 _ rfl; (with_reducible repeat (first | refine kdN ?_ _ | refine kdr ?_ | refine kal ?_ _)); exact BK203.out⟩, ⟨by repeat (first | (with_reducible first | exact HB.out | apply bal | apply bdN | apply bd1 | refine bst ?_ GE201.out | refine bst ?_ GE203.out) | exact HB.out)⟩⟩
  case round =>
   clear H'
   try clear c2
   try clear c2b0
   try clear c2b1
   try clear p2
   try clear q2
   try clear hx2
   try clear qi2
   try clear c5
   try clear c6
   try clear hcz6_0
   try clear hcz6_1
   try clear hcz6_2
   try clear hfz6_0
   try clear hfz6_1
   try clear hfz6_2
   try clear hx202_0
   try clear hx202_1
   try clear hx202_2
   try clear p202
   try clear q202
   obtain ⟨x13_1, x204001_1, x204002_1, u204001, u204002, rfl, HA, HK1, HO_204001, HO_204002, BK201, BK203, HB⟩ := hrel
   cases gk with
   | zero => exact absurd HA.out (by simp [prod_Of.l0])
   | succ k1 =>
    have H := HA.out
    clear HA
    simp only [prod_Of.l0] at H
    by_cases c7 : x13_1 < (l0.length : Int)
    ·rw [if_pos c7] at H
     have c7b0 : decide (x13_1 < (l0.length : Int)) = true := decide_eq_true c7
     clear c7
     by_cases c8 : 0 ≤ x13_1
     ·rw [if_pos c8] at H
      have c8b0 : decide (0 ≤ x13_1) = true := decide_eq_true c8
      clear c8
      by_cases c9 : x13_1 < (l0.length : Int)
      ·rw [if_pos c9] at H
       have c9b0 : decide (x13_1 < (l0.length : Int)) = true := decide_eq_true c9
       clear c9
       replace H := Option.bind_eq_some_iff.mp H
       obtain ⟨t206, A100, H⟩ := H
       replace H : (if x204001_1.length + t206.length < 4398046511104 then ((prod_Moved.f k1 ((rd_T25 l0 x13_1).f2) x13_1 (wrap64 (x13_1 * (((rd_T25 l0 x13_1).f1).length : Int)))).bind fun t212 => (if x204002_1.length + t212.length < 1599289640401 then (prod_Of.l0 k1 l0 (l0.length : Int) (wrap64 (x13_1 + 1)) ((rd_T25 l0 0).f0) (x204001_1 ++ t206) (x204002_1 ++ t212)) else (none))) else (none)) = some (r1, r2, r3) := H
       have A10 := Aside0.mk A100
       clear A100
       by_cases c11 : x204001_1.length + t206.length < 4398046511104
       ·rw [if_pos c11] at H
        have LMc11 := Aside0.mk c11
        clear c11
        obtain ⟨y209, hy209⟩ : ∃ y_ : List (S66), y_ = (x204001_1 ++ t206) := ⟨_, rfl⟩
        replace H : ((prod_Moved.f k1 ((rd_T25 l0 x13_1).f2) x13_1 (wrap64 (x13_1 * (((rd_T25 l0 x13_1).f1).length : Int)))).bind fun t212 => (if x204002_1.length + t212.length < 1599289640401 then (prod_Of.l0 k1 l0 (l0.length : Int) (wrap64 (x13_1 + 1)) ((rd_T25 l0 0).f0) y209 (x204002_1 ++ t212)) else (none))) = some (r1, r2, r3) := by first | (rw [hy209]; with_reducible exact H) | (have H2_ := (Option.bind_some _ _).symm.trans H; rw [hy209]; with_reducible exact H2_) | (have H2_ := (Option.bind_some _ _).symm.trans H; with_reducible exact H2_) | with_reducible exact H | (rw [hy209]; exact H) | exact H
        have Ny209 := Aside0.mk hy209
        clear hy209
        replace H := Option.bind_eq_some_iff.mp H
        obtain ⟨t212, A120, H⟩ := H
        replace H : (if x204002_1.length + t212.length < 1599289640401 then (prod_Of.l0 k1 l0 (l0.length : Int) (wrap64 (x13_1 + 1)) ((rd_T25 l0 0).f0) y209 (x204002_1 ++ t212)) else (none)) = some (r1, r2, r3) := H
        have A12 := Aside0.mk A120
        clear A120
        by_cases c13 : x204002_1.length + t212.length < 1599289640401
        ·rw [if_pos c13] at H
         have LMc13 := Aside0.mk c13
         clear c13
         obtain ⟨y215, hy215⟩ : ∃ y_ : List (S64), y_ = (x204002_1 ++ t212) := ⟨_, rfl⟩
         replace H : (prod_Of.l0 k1 l0 (l0.length : Int) (wrap64 (x13_1 + 1)) ((rd_T25 l0 0).f0) y209 y215) = some (r1, r2, r3) := by first | (rw [hy215]; with_reducible exact H) | (have H2_ := (Option.bind_some _ _).symm.trans H; rw [hy215]; with_reducible exact H2_) | (have H2_ := (Option.bind_some _ _).symm.trans H; with_reducible exact H2_) | with_reducible exact H | (rw [hy215]; exact H) | exact H
         have Ny215 := Aside0.mk hy215
         clear hy215
         have H' := Aside0.mk H
         clear H
         have p204 : 0 ≤ (x13_1 : Int) := of_decide_eq_true (by first | (with_reducible assumption) | assumption)
         have q204 : x13_1 < (l0.length : Int) := of_decide_eq_true (by first | (with_reducible assumption) | assumption)
         obtain ⟨ad204, A204_1, c204_1, A204_2, c204_2, e204, hx204_0, hx204_1, hx204_2, hl204_1, hi204_1, hl204_2, hi204_2⟩ := at_T25 HR0.out x13_1 p204 q204
         obtain rfl : ad202 = ad204 := (by injection e204)
         replace hx204_0 := bcell HB.out hx204_0
         replace hx204_1 := bcell HB.out hx204_1
         replace hx204_2 := bcell HB.out hx204_2
         have HR204_1 := Aside0.mk hi204_1
         have HC204_1 := Aside0.mk hl204_1
         clear hi204_1 hl204_1
         have HR204_2 := Aside0.mk hi204_2
         have HC204_2 := Aside0.mk hl204_2
         clear hi204_2 hl204_2
         replace p204 := eq_true p204
         replace q204 := eq_true q204
         try go_wp2_with (first | ((with_reducible refine gate_dst (N := 5) rfl ?_); refine box_event ?hg (N := 5) ?hd (cs := #[.int .i64 0, .slice none 0 0, .slice none 0 0]) (t := 25) ?hr ?_; (case hd => rfl); (case hg => rfl); (case hr => first | (go_simp; done) | (go_simp; rfl)); intro gb205 hg w14 hbox hb; have n0_ := Aside0.mk (Kd.R_below (by (with_reducible repeat (first | apply Kd.R_alloc | apply Kd.R_drewN | apply Kd.R_drew)); exact HO_204001.out) hb); have n1_ := Aside0.mk (Kd.N_below (Kd.N_elderB (by (with_reducible repeat (first | apply Kd.N_alloc | apply Kd.N_drewN | apply Kd.N_drew)); exact HO_204002.out) gb205 (Nat.le_of_eq hg.symm)) hb); have n2_ := Aside0.mk (blk_below (g := gb201) (o := .cells #[.int .i64 0, .slice none 0 0, .slice none 0 0] 25 (0, 0)) (by (with_reducible repeat (first | refine kdN ?_ _ | refine kdr ?_ | refine kal ?_ _)); exact BK201.out) hb); have n3_ := Aside0.mk (blk_below (g := gb203) (o := .cells #[.int .i64 ((rd_T25 l0 0).f0), u204001, u204002] 25 (0, 0)) (by (with_reducible repeat (first | refine kdN ?_ _ | refine kdr ?_ | refine kal ?_ _)); exact BK203.out) hb); have n4_ := Aside0.mk (bsp (by repeat (first | (with_reducible first | exact HB.out | apply bal | apply bdN | apply bd1 | refine bst ?_ GE201.out | refine bst ?_ GE203.out) | exact HB.out)) hb); have n5_ := Aside0.mk (hbox); have n6_ := Aside0.mk ((by rw [hg]; exact (bsz (by repeat (first | (with_reducible first | exact HB.out | apply bal | apply bdN | apply bd1 | refine bst ?_ GE201.out | refine bst ?_ GE203.out) | exact HB.out))) : w.heap.size ≤ gb205)); have n7_ := Aside0.mk ((by rw [hg]; exact (bsz (by repeat (first | (with_reducible first | exact HB.out | apply bal | apply bdN | apply bd1 | refine bst ?_ GE201.out | refine bst ?_ GE203.out) | exact HB.out))) : w.heap.size ≤ gb205)); have n8_ := Aside0.mk ((by rw [hg]; exact Nat.ne_of_lt (blk_lt (g := gb201) (o := .cells #[.int .i64 0, .slice none 0 0, .slice none 0 0] 25 (0, 0)) (by (with_reducible repeat (first | refine kdN ?_ _ | refine kdr ?_ | refine kal ?_ _)); exact BK201.out)) : gb201 ≠ gb205)); have n9_ := Aside0.mk ((by rw [hg]; exact Nat.ne_of_gt (blk_lt (g := gb201) (o := .cells #[.int .i64 0, .slice none 0 0, .slice none 0 0] 25 (0, 0)) (by (with_reducible repeat (first | refine kdN ?_ _ | refine kdr ?_ | refine kal ?_ _)); exact BK201.out)) : gb205 ≠ gb201)); have n10_ := Aside0.mk ((by rw [hg]; exact Nat.ne_of_lt (blk_lt (g := gb203) (o := .cells #[.int .i64 ((rd_T25 l0 0).f0), u204001, u204002] 25 (0, 0)) (by (with_reducible repeat (first | refine kdN ?_ _ | refine kdr ?_ | refine kal ?_ _)); exact BK203.out)) : gb203 ≠ gb205)); have n11_ := Aside0.mk ((by rw [hg]; exact Nat.ne_of_gt (blk_lt (g := gb203) (o := .cells #[.int .i64 ((rd_T25 l0 0).f0), u204001, u204002] 25 (0, 0)) (by (with_reducible repeat (first | refine kdN ?_ _ | refine kdr ?_ | refine kal ?_ _)); exact BK203.out)) : gb205 ≠ gb203)); clear HO_204001; clear HO_204002; clear BK201; clear BK203; clear HB; have HO_204001 := n0_; have HO_204002 := n1_; have BK201 := n2_; have BK203 := n3_; have HB := n4_; have BK205 := n5_; have GW205 := n6_; have GE205 := n7_; have NB201_205 := n8_; have NB205_201 := n9_; have NB203_205 := n10_; have NB205_203 := n11_; clear n0_ n1_ n2_ n3_ n4_ n5_ n6_ n7_ n8_ n9_ n10_ n11_; clear hb hbox hg; have hnb15 := NB205_201.out; have hnc15 := NB201_205.out; have hnb16 := NB205_203.out; have hnc16 := NB203_205.out; obtain ⟨hcz17_0, hcz17_1, hcz17_2, hfz17_0, hfz17_1, hfz17_2⟩ := cf3 BK205.out))
         have n0_ : Aside0 (Kd.R k66 66 (((w14.setCell ⟨gb205, 0, none⟩ (.int .i64 ((rd_T25 l0 x13_1).f0))).setCell ⟨gb205, 1, none⟩ (.slice A204_1 ((rd_T25 l0 x13_1).f1).length c204_1)).setCell ⟨gb205, 2, none⟩ (.slice A204_2 ((rd_T25 l0 x13_1).f2).length c204_2)) w.heap.size (fun k_ => (w.heap.size ≤ k_)) u204001 x204001_1) := ⟨by (with_reducible repeat (first | apply Kd.R_alloc | apply Kd.R_drewN | apply Kd.R_drew)); exact Kd.R_mono (Kd.R_far (p := ⟨gb205, 2, none⟩) (Kd.R_far (p := ⟨gb205, 1, none⟩) (Kd.R_far (p := ⟨gb205, 0, none⟩) (Kd.R_types HO_204001.out BK205.out (by decide)) (fun _ hk => hk.2) (.int .i64 ((rd_T25 l0 x13_1).f0))) (fun _ hk => hk.2) (.slice A204_1 ((rd_T25 l0 x13_1).f1).length c204_1)) (fun _ hk => hk.2) (.slice A204_2 ((rd_T25 l0 x13_1).f2).length c204_2)) (fun _ hk => hk.1)⟩
         have n1_ : Aside0 (Kd.N k64 64 (((w14.setCell ⟨gb205, 0, none⟩ (.int .i64 ((rd_T25 l0 x13_1).f0))).setCell ⟨gb205, 1, none⟩ (.slice A204_1 ((rd_T25 l0 x13_1).f1).length c204_1)).setCell ⟨gb205, 2, none⟩ (.slice A204_2 ((rd_T25 l0 x13_1).f2).length c204_2)) w.heap.size (fun k_ => (w.heap.size ≤ k_) ∧ some k_ ≠ (u204001 : Value).ownBlock ∧ k_ ≠ gb201 ∧ k_ ≠ gb203 ∧ k_ ≠ gb205) u204002 x204002_1) := ⟨by (with_reducible repeat (first | apply Kd.N_alloc | apply Kd.N_drewN | apply Kd.N_drew)); exact Kd.N_mono (Kd.N_far (p := ⟨gb205, 2, none⟩) (Kd.N_far (p := ⟨gb205, 1, none⟩) (Kd.N_far (p := ⟨gb205, 0, none⟩) (Kd.N_mono HO_204002.out (fun k_ hk => (⟨hk, hk.2⟩ : _ ∧ k_ ≠ gb205))) (fun _ hk => hk.2) (.int .i64 ((rd_T25 l0 x13_1).f0))) (fun _ hk => hk.2) (.slice A204_1 ((rd_T25 l0 x13_1).f1).length c204_1)) (fun _ hk => hk.2) (.slice A204_2 ((rd_T25 l0 x13_1).f2).length c204_2)) (fun _ hk => ⟨hk.1.1.1, ⟨hk.1.1.2.1, ⟨hk.1.1.2.2.1, ⟨hk.1.1.2.2.2, hk.1.2⟩⟩⟩⟩)⟩
         have n2_ : Aside0 ((((w14.setCell ⟨gb205, 0, none⟩ (.int .i64 ((rd_T25 l0 x13_1).f0))).setCell ⟨gb205, 1, none⟩ (.slice A204_1 ((rd_T25 l0 x13_1).f1).length c204_1)).setCell ⟨gb205, 2, none⟩ (.slice A204_2 ((rd_T25 l0 x13_1).f2).length c204_2)).heap[gb201]? = some (.cells #[.int .i64 0, .slice none 0 0, .slice none 0 0] 25 (0, 0))) := ⟨by (with_reducible repeat (first | refine kdN ?_ _ | refine kdr ?_ | refine kal ?_ _)); refine blk_far ?_ NB201_205.out _; (with_reducible repeat (first | refine kdN ?_ _ | refine kdr ?_ | refine kal ?_ _)); refine blk_far ?_ NB201_205.out _; (with_reducible repeat (first | refine kdN ?_ _ | refine kdr ?_ | refine kal ?_ _)); refine blk_far ?_ NB201_205.out _; (with_reducible repeat (first | refine kdN ?_ _ | refine kdr ?_ | refine kal ?_ _)); exact BK201.out⟩
         have n3_ : Aside0 ((((w14.setCell ⟨gb205, 0, none⟩ (.int .i64 ((rd_T25 l0 x13_1).f0))).setCell ⟨gb205, 1, none⟩ (.slice A204_1 ((rd_T25 l0 x13_1).f1).length c204_1)).setCell ⟨gb205, 2, none⟩ (.slice A204_2 ((rd_T25 l0 x13_1).f2).length c204_2)).heap[gb203]? = some (.cells #[.int .i64 ((rd_T25 l0 0).f0), u204001, u204002] 25 (0, 0))) := ⟨by (with_reducible repeat (first | refine kdN ?_ _ | refine kdr ?_ | refine kal ?_ _)); refine blk_far ?_ NB203_205.out _; (with_reducible repeat (first | refine kdN ?_ _ | refine kdr ?_ | refine kal ?_ _)); refine blk_far ?_ NB203_205.out _; (with_reducible repeat (first | refine kdN ?_ _ | refine kdr ?_ | refine kal ?_ _)); refine blk_far ?_ NB203_205.out _; (with_reducible repeat (first | refine kdN ?_ _ | refine kdr ?_ | refine kal ?_ _)); exact BK203.out⟩
         have n4_ : Aside0 ((((w14.setCell ⟨gb205, 0, none⟩ (.int .i64 ((rd_T25 l0 x13_1).f0))).setCell ⟨gb205, 1, none⟩ (.slice A204_1 ((rd_T25 l0 x13_1).f1).length c204_1)).setCell ⟨gb205, 2, none⟩ (.slice A204_2 ((rd_T25 l0 x13_1).f2).length c204_2)).heap[gb205]? = some (.cells #[.int .i64 ((rd_T25 l0 x13_1).f0), .slice A204_1 ((rd_T25 l0 x13_1).f1).length c204_1, .slice A204_2 ((rd_T25 l0 x13_1).f2).length c204_2] 25 (0, 0))) := ⟨by (with_reducible repeat (first | refine kdN ?_ _ | refine kdr ?_ | refine kal ?_ _)); refine blk_put (cs := #[.int .i64 ((rd_T25 l0 x13_1).f0), .slice A204_1 ((rd_T25 l0 x13_1).f1).length c204_1, .slice none 0 0]) ?_ 2 _ rfl; (with_reducible repeat (first | refine kdN ?_ _ | refine kdr ?_ | refine kal ?_ _)); refine blk_put (cs := #[.int .i64 ((rd_T25 l0 x13_1).f0), .slice none 0 0, .slice none 0 0]) ?_ 1 _ rfl; (with_reducible repeat (first | refine kdN ?_ _ | refine kdr ?_ | refine kal ?_ _)); refine blk_put (cs := #[.int .i64 0, .slice none 0 0, .slice none 0 0]) ?_ 0 _ rfl; (with_reducible repeat (first | refine kdN ?_ _ | refine kdr ?_ | refine kal ?_ _)); exact BK205.out⟩
         have n5_ : Aside0 (Below w.heap.size w (((w14.setCell ⟨gb205, 0, none⟩ (.int .i64 ((rd_T25 l0 x13_1).f0))).setCell ⟨gb205, 1, none⟩ (.slice A204_1 ((rd_T25 l0 x13_1).f1).length c204_1)).setCell ⟨gb205, 2, none⟩ (.slice A204_2 ((rd_T25 l0 x13_1).f2).length c204_2))) := ⟨by repeat (first | (with_reducible first | exact HB.out | apply bal | apply bdN | apply bd1 | refine bst ?_ GE201.out | refine bst ?_ GE203.out | refine bst ?_ GE205.out) | exact HB.out)⟩
         (try clear HO_204001)
         (try clear HO_204002)
         (try clear BK201)
         (try clear BK203)
         (try clear BK205)
         (try clear HB)
         generalize (((w14.setCell ⟨gb205, 0, none⟩ (.int .i64 ((rd_T25 l0 x13_1).f0))).setCell ⟨gb205, 1, none⟩ (.slice A204_1 ((rd_T25 l0 x13_1).f1).length c204_1)).setCell ⟨gb205, 2, none⟩ (.slice A204_2 ((rd_T25 l0 x13_1).f2).length c204_2)) = w18 at n0_ n1_ n2_ n3_ n4_ n5_ ⊢
         have HO_204001 := n0_
         have HO_204002 := n1_
         have BK201 := n2_
         have BK203 := n3_
         have BK205 := n4_
         have HB := n5_
         clear n0_ n1_ n2_ n3_ n4_ n5_
         have n0_ := Aside0.mk (Kd.R_drew HO_204001.out)
         have n1_ := Aside0.mk (Kd.N_drew HO_204002.out)
         have n2_ := Aside0.mk (kdr BK201.out)
         have n3_ := Aside0.mk (kdr BK203.out)
         have n4_ := Aside0.mk (kdr BK205.out)
         have n5_ := Aside0.mk (bd1 HB.out)
         clear HO_204001
         clear HO_204002
         clear BK201
         clear BK203
         clear BK205
         clear HB
         have HO_204001 := n0_
         have HO_204002 := n1_
         have BK201 := n2_
         have BK203 := n3_
         have BK205 := n4_
         have HB := n5_
         clear n0_ n1_ n2_ n3_ n4_ n5_
         refine start_ (n := 9) (S := fun w' => w'.cell? ⟨gb203, 0, none⟩ = some (.int .i64 ((rd_T25 l0 0).f0)) ∧ w'.cell? ⟨gb203, 1, none⟩ = some (u204001) ∧ w'.cell? ⟨gb203, 2, none⟩ = some (u204002) ∧ w'.cell? ⟨gb205, 0, none⟩ = some (.int .i64 ((rd_T25 l0 x13_1).f0)) ∧ w'.cell? ⟨gb205, 1, none⟩ = some (.slice A204_1 ((rd_T25 l0 x13_1).f1).length c204_1) ∧ w'.cell? ⟨gb205, 2, none⟩ = some (.slice A204_2 ((rd_T25 l0 x13_1).f2).length c204_2)) (ds := [8]) #[false, false, false, false, false, false, false, false, false] (by kernel_rfl) rfl rfl ⟨(blk_cell BK203.out 0).trans rfl, (blk_cell BK203.out 1).trans rfl, (blk_cell BK203.out 2).trans rfl, (blk_cell BK205.out 0).trans rfl, (blk_cell BK205.out 1).trans rfl, (blk_cell BK205.out 2).trans rfl⟩ (fun hHeld => ?_); refine with_tabW prod_Of.tab5 prod_Of.bits5 (fun HT_ HW_ => ?_)
         generalize w18.drew = w19 at HO_204001 HO_204002 BK201 BK203 BK205 HB hHeld ⊢
         refine pure_ (i := 0) (N := some 18) (v := ?_) (a' := ?_) #[true, false, false, false, false, false, false, false, false] rfl rfl (any_of HT_.out (by kernel_rfl)) (fun _ _ _ h => h) (Or.inl ⟨by rfl, ?_⟩) ?_ ?_
         rotate_left
         ·intro w'
          go_simp
          with_reducible rfl
         rotate_left
         ·simp only [Act.put, List.setIfInBounds_toArray, List.set_cons_zero, List.set_cons_succ, i64_w, i32_w]
          rfl
         refine pure_ (i := 2) (N := some 20) (v := ?_) (a' := ?_) #[true, false, true, false, false, false, false, false, false] rfl rfl (any_of HT_.out (by kernel_rfl)) (fun _ _ _ h => h) (Or.inl ⟨by rfl, ?_⟩) ?_ ?_
         rotate_left
         ·intro w'
          go_simp
          with_reducible rfl
         rotate_left
         ·simp only [Act.put, List.setIfInBounds_toArray, List.set_cons_zero, List.set_cons_succ, i64_w, i32_w]
          rfl
         refine pure_ (i := 4) (N := some 22) (v := ?_) (a' := ?_) #[true, false, true, false, true, false, false, false, false] rfl rfl (any_of HT_.out (by kernel_rfl)) (fun _ _ _ h => h) (Or.inl ⟨by rfl, ?_⟩) ?_ ?_
         rotate_left
         ·intro w'
          go_simp
          with_reducible rfl
         rotate_left
         ·simp only [Act.put, List.setIfInBounds_toArray, List.set_cons_zero, List.set_cons_succ, i64_w, i32_w]
          rfl
         refine take_ (i := 1) (N := some 19) (v := ?_) (a' := ?_) #[true, true, true, false, true, false, false, false, false] rfl rfl (take_ofW HT_.out HW_.out (by kernel_rfl)) (fun _ _ _ h => h) (Or.inl ⟨by rfl, ?_⟩) hHeld ?_ ?_
         rotate_left
         ·rintro w' ⟨s0, s1, s2, s3, s4, s5⟩
          go_simp
          with_reducible rfl
         rotate_left
         ·simp only [Act.put, List.setIfInBounds_toArray, List.set_cons_zero, List.set_cons_succ, i64_w, i32_w]
          rfl
         refine take_ (i := 3) (N := some 21) (v := ?_) (a' := ?_) #[true, true, true, true, true, false, false, false, false] rfl rfl (take_ofW HT_.out HW_.out (by kernel_rfl)) (fun _ _ _ h => h) (Or.inl ⟨by rfl, ?_⟩) hHeld ?_ ?_
         rotate_left
         ·rintro w' ⟨s0, s1, s2, s3, s4, s5⟩
          go_simp
          with_reducible rfl
         rotate_left
         ·simp only [Act.put, List.setIfInBounds_toArray, List.set_cons_zero, List.set_cons_succ, i64_w, i32_w]
          rfl
         refine one_ (i := 5) (N := some 23) #[true, true, true, true, true, true, false, false, false] rfl rfl (one_of HT_.out (by kernel_rfl)) (by decide) (fun K hK => ?_)
         refine goes_ Try.func45 (by kernel_rfl) rfl #[.slice A204_1 ((rd_T25 l0 x13_1).f1).length c204_1, .int .i64 x13_1] (by rfl) rfl rfl (by (try simp only [List.map_toArray, List.map_cons, List.map_nil]); first | done | rfl | (simp only [List.length_drop, List.length_take]; rfl)) ?_
         with_reducible refine (prod_variables.calls k1 _ _ ((rd_T25 l0 x13_1).f1) x13_1 t206 _ ?side1 ?side2 A10.out).mono ?_
         (case side1 => repeat (first | exact (Kd.C_below HR204_1.out HB.out) | with_reducible first | apply Kd.C_alloc | apply Kd.C_drewN | apply Kd.C_drew))
         (case side2 => exact HC204_1.out)
         rintro e w20 ⟨v207, rfl, ho0, hb⟩
         refine ⟨_, rfl, ?_⟩
         have n0_ := Aside0.mk (Kd.R_elder' (by (with_reducible repeat (first | apply Kd.R_alloc | apply Kd.R_drewN | apply Kd.R_drew)); exact HO_204001.out) (Kd.R_base ho0) hb)
         have n1_ := Aside0.mk (Kd.N_elder' (by (with_reducible repeat (first | apply Kd.N_alloc | apply Kd.N_drewN | apply Kd.N_drew)); exact HO_204002.out) (Kd.R_base ho0) hb)
         have n2_ := Aside0.mk (Kd.R_lower (Kd.R_new' (Kd.R_newM (M := fun k_ => (w.heap.size ≤ k_)) ho0 (bsz (by repeat (first | (with_reducible first | exact HB.out | apply bal | apply bdN | apply bd1 | refine bst ?_ GE201.out | refine bst ?_ GE203.out | refine bst ?_ GE205.out) | exact HB.out))) (fun k_ h_ => h_)) (Kd.R_lt (by (with_reducible repeat (first | apply Kd.R_alloc | apply Kd.R_drewN | apply Kd.R_drew)); exact HO_204001.out))) (bsz (by repeat (first | (with_reducible first | exact HB.out | apply bal | apply bdN | apply bd1 | refine bst ?_ GE201.out | refine bst ?_ GE203.out | refine bst ?_ GE205.out) | exact HB.out))))
         have n3_ := Aside0.mk (blk_below (g := gb201) (o := .cells #[.int .i64 0, .slice none 0 0, .slice none 0 0] 25 (0, 0)) (by (with_reducible repeat (first | refine kdN ?_ _ | refine kdr ?_ | refine kal ?_ _)); exact BK201.out) hb)
         have n4_ := Aside0.mk (blk_below (g := gb203) (o := .cells #[.int .i64 ((rd_T25 l0 0).f0), u204001, u204002] 25 (0, 0)) (by (with_reducible repeat (first | refine kdN ?_ _ | refine kdr ?_ | refine kal ?_ _)); exact BK203.out) hb)
         have n5_ := Aside0.mk (blk_below (g := gb205) (o := .cells #[.int .i64 ((rd_T25 l0 x13_1).f0), .slice A204_1 ((rd_T25 l0 x13_1).f1).length c204_1, .slice A204_2 ((rd_T25 l0 x13_1).f2).length c204_2] 25 (0, 0)) (by (with_reducible repeat (first | refine kdN ?_ _ | refine kdr ?_ | refine kal ?_ _)); exact BK205.out) hb)
         have n6_ := Aside0.mk (bsp (by repeat (first | (with_reducible first | exact HB.out | apply bal | apply bdN | apply bd1 | refine bst ?_ GE201.out | refine bst ?_ GE203.out | refine bst ?_ GE205.out) | exact HB.out)) hb)
         clear HO_204001
         clear HO_204002
         clear BK201
         clear BK203
         clear BK205
         clear HB
         have HO_204001 := n0_
         have HO_204002 := n1_
         have HO208 := n2_
         have BK201 := n3_
         have BK203 := n4_
         have BK205 := n5_
         have HB := n6_
         clear n0_ n1_ n2_ n3_ n4_ n5_ n6_
         (try clear hb)
         (try clear hb2)
         (try clear hk)
         (try clear hi)
         (try clear ho0)
         obtain ⟨Ao22, co22, eo22⟩ := Kd.R_slice HO208.out
         (first | subst eo22 | (injection eo22 with f1_ f2_ f3_; have f4_ := f1_.symm; have f5_ := f3_.symm; clear f1_ f2_ f3_; subst f4_; subst f5_))
         refine hK.out _ _ ⟨(blk_cell BK203.out 0).trans rfl, (blk_cell BK203.out 1).trans rfl, (blk_cell BK203.out 2).trans rfl, (blk_cell BK205.out 0).trans rfl, (blk_cell BK205.out 1).trans rfl, (blk_cell BK205.out 2).trans rfl⟩ (fun hHeld => ?_)
         clear hK K
         refine norm_ (a' := ?_) ?_ ?_
         rotate_left
         ·show Act.put _ (some 23) _ = _
          simp only [Act.put, List.setIfInBounds_toArray, List.set_cons_zero, List.set_cons_succ, i64_w, i32_w]
          rfl
         refine one_ (i := 6) (N := some 24) #[true, true, true, true, true, true, true, false, false] rfl rfl (one_of HT_.out (by kernel_rfl)) (by decide) (fun K hK => ?_)
         refine Kd.R_append_rows_step k66 (w0 := w) w.heap.size (by rfl) (.tmp 19) (.tmp 23) 22 66 (.agg #[(.string ⟨#[]⟩), (.int .i64 0), (.int .i64 0)]) 32 rfl Try.underlying22 info66 rfl (by decide) (by omega) u204001 x204001_1 t206 _ _ _ (fun k_ => (w.heap.size ≤ k_) ∧ some k_ ≠ (.slice Ao22 t206.length co22 : Value).ownBlock) (fun _ => False) rfl rfl ?aO ?aR (fun _ _ h => h) (fun _ h => h.elim) ?aF ?aB ?aS ?aL ?_
         (case aR => repeat (first | exact (Kd.R_reads' HO208.out).2.2 | with_reducible first | apply Kd.C_alloc | apply Kd.C_drewN | apply Kd.C_drew))
         (case aB => exact (by repeat (first | (with_reducible first | exact HB.out | apply bal | apply bdN | apply bd1 | refine bst ?_ GE201.out | refine bst ?_ GE203.out | refine bst ?_ GE205.out) | exact HB.out)))
         (case aF => exact (fun k_ hk => ⟨(Nat.le_trans (bsz (by repeat (first | (with_reducible first | exact HB.out | apply bal | apply bdN | apply bd1 | refine bst ?_ GE201.out | refine bst ?_ GE203.out | refine bst ?_ GE205.out) | exact HB.out))) hk), Kd.fresh' (Kd.R_lt (by (with_reducible repeat (first | apply Kd.R_alloc | apply Kd.R_drewN | apply Kd.R_drew)); exact HO208.out)) k_ hk⟩))
         (case aO => exact (by (with_reducible repeat (first | apply Kd.R_alloc | apply Kd.R_drewN | apply Kd.R_drew)); exact HO_204001.out))
         (case aS => exact (bsz (by repeat (first | (with_reducible first | exact HB.out | apply bal | apply bdN | apply bd1 | refine bst ?_ GE201.out | refine bst ?_ GE203.out | refine bst ?_ GE205.out) | exact HB.out))))
         (case aL => have := LMc11.out; omega)
         intro v210 w21 ho hb hg hat
         rw [← Ny209.out] at ho
         have n0_ := Aside0.mk (Kd.N_afterv (ok := (fun k_ => (w.heap.size ≤ k_) ∧ some k_ ≠ (.slice Ao22 t206.length co22 : Value).ownBlock ∧ k_ ≠ gb201 ∧ k_ ≠ gb203 ∧ k_ ≠ gb205)) (by (with_reducible repeat (first | apply Kd.N_alloc | apply Kd.N_drewN | apply Kd.N_drew)); exact Kd.N_mono HO_204002.out (fun _ hk => ⟨⟨hk.1.1, ⟨hk.2, ⟨hk.1.2.2.1, ⟨hk.1.2.2.2.1, hk.1.2.2.2.2⟩⟩⟩⟩, hk.1.2.1⟩)) hg hat)
         have n1_ := Aside0.mk (blk_grown (g := gb201) (o := .cells #[.int .i64 0, .slice none 0 0, .slice none 0 0] 25 (0, 0)) (by (with_reducible repeat (first | refine kdN ?_ _ | refine kdr ?_ | refine kal ?_ _)); exact BK201.out) hg (Kd.R_ne HO_204001.out BK201.out (by decide)))
         have n2_ := Aside0.mk (blk_grown (g := gb203) (o := .cells #[.int .i64 ((rd_T25 l0 0).f0), u204001, u204002] 25 (0, 0)) (by (with_reducible repeat (first | refine kdN ?_ _ | refine kdr ?_ | refine kal ?_ _)); exact BK203.out) hg (Kd.R_ne HO_204001.out BK203.out (by decide)))
         have n3_ := Aside0.mk (blk_grown (g := gb205) (o := .cells #[.int .i64 ((rd_T25 l0 x13_1).f0), .slice A204_1 ((rd_T25 l0 x13_1).f1).length c204_1, .slice A204_2 ((rd_T25 l0 x13_1).f2).length c204_2] 25 (0, 0)) (by (with_reducible repeat (first | refine kdN ?_ _ | refine kdr ?_ | refine kal ?_ _)); exact BK205.out) hg (Kd.R_ne HO_204001.out BK205.out (by decide)))
         have n4_ := Aside0.mk (Kd.R_after (ok := (fun k_ => (w.heap.size ≤ k_))) (by (with_reducible repeat (first | apply Kd.R_alloc | apply Kd.R_drewN | apply Kd.R_drew)); exact Kd.R_mono HO208.out (fun _ hk => ⟨hk.1.1, hk.2⟩)) hg hat)
         have n5_ := Aside0.mk (hb)
         have n6_ := Aside0.mk (ho)
         clear HO_204002
         clear BK201
         clear BK203
         clear BK205
         clear HO208
         clear HB
         clear HO_204001
         have HO_204002 := n0_
         have BK201 := n1_
         have BK203 := n2_
         have BK205 := n3_
         have HO208 := n4_
         have HB := n5_
         have HO211 := n6_
         clear n0_ n1_ n2_ n3_ n4_ n5_ n6_
         clear ho hb hg hat
         obtain ⟨Ao23, co23, eo23⟩ := Kd.R_slice HO211.out
         (first | subst eo23 | (injection eo23 with f1_ f2_ f3_; have f4_ := f1_.symm; have f5_ := f3_.symm; clear f1_ f2_ f3_; subst f4_; subst f5_))
         refine hK.out _ _ ⟨(blk_cell BK203.out 0).trans rfl, (blk_cell BK203.out 1).trans rfl, (blk_cell BK203.out 2).trans rfl, (blk_cell BK205.out 0).trans rfl, (blk_cell BK205.out 1).trans rfl, (blk_cell BK205.out 2).trans rfl⟩ (fun hHeld => ?_)
         clear hK K
         refine norm_ (a' := ?_) ?_ ?_
         rotate_left
         ·show Act.put _ (some 24) _ = _
          simp only [Act.put, List.setIfInBounds_toArray, List.set_cons_zero, List.set_cons_succ, i64_w, i32_w]
          rfl
         refine pure_ (i := 7) (N := some 25) (v := ?_) (a' := ?_) #[true, true, true, true, true, true, true, true, false] rfl rfl (any_of HT_.out (by kernel_rfl)) (fun _ _ _ h => h) (Or.inl ⟨by rfl, ?_⟩) ?_ ?_
         rotate_left
         ·intro w'
          go_simp
          with_reducible rfl
         rotate_left
         ·simp only [Act.put, List.setIfInBounds_toArray, List.set_cons_zero, List.set_cons_succ, i64_w, i32_w]
          rfl
         refine last_ (i := 8) (N := none) #[true, true, true, true, true, true, true, true, true] rfl rfl (one_of HT_.out (by kernel_rfl)) (by decide) (fun K hK => ?_)
         have hs24 : w21.cell? ⟨gb203, 1, none⟩ = some (u204001) := (blk_cell BK203.out 1).trans rfl
         have hfs24 := blk_frozen BK203.out 1
         have hns24_0 := NB201_203.out
         have hns24_2 := NB205_203.out
         have hms24_0 := NB203_201.out
         have hms24_2 := NB203_205.out
         refine skip_ (w1 := ?_) (by rfl) rfl ?_ ?_
         rotate_left
         ·go_simp
          rfl
         refine hK.out _ _ ?_
         clear hK K
         refine done_ (done_of HT_.out (by kernel_rfl)) ?_
         try go_wp2
         have n0_ : Aside0 (Kd.N k64 64 (w21.setCell ⟨gb203, 1, none⟩ (.slice Ao23 y209.length co23)) w.heap.size (fun k_ => (w.heap.size ≤ k_) ∧ some k_ ≠ (.slice Ao22 t206.length co22 : Value).ownBlock ∧ some k_ ≠ (.slice Ao23 y209.length co23 : Value).ownBlock ∧ k_ ≠ gb201 ∧ k_ ≠ gb203 ∧ k_ ≠ gb205) u204002 x204002_1) := ⟨by (with_reducible repeat (first | apply Kd.N_alloc | apply Kd.N_drewN | apply Kd.N_drew)); exact Kd.N_mono (Kd.N_far (p := ⟨gb203, 1, none⟩) (Kd.N_mono HO_204002.out (fun k_ hk => (⟨hk, hk.1.2.2.2.1⟩ : _ ∧ k_ ≠ gb203))) (fun _ hk => hk.2) (.slice Ao23 y209.length co23)) (fun _ hk => ⟨hk.1.1.1, ⟨hk.1.1.2.1, ⟨hk.1.2, ⟨hk.1.1.2.2.1, ⟨hk.1.1.2.2.2.1, hk.1.1.2.2.2.2⟩⟩⟩⟩⟩)⟩
         have n1_ : Aside0 (Kd.R k66 66 (w21.setCell ⟨gb203, 1, none⟩ (.slice Ao23 y209.length co23)) w.heap.size (fun k_ => (w.heap.size ≤ k_) ∧ some k_ ≠ (.slice Ao23 y209.length co23 : Value).ownBlock) (.slice Ao22 t206.length co22) t206) := ⟨by (with_reducible repeat (first | apply Kd.R_alloc | apply Kd.R_drewN | apply Kd.R_drew)); exact Kd.R_mono (Kd.R_far (p := ⟨gb203, 1, none⟩) (Kd.R_types HO208.out BK203.out (by decide)) (fun _ hk => hk.2) (.slice Ao23 y209.length co23)) (fun _ hk => ⟨hk.1.1, hk.1.2⟩)⟩
         have n2_ : Aside0 (Kd.R k66 66 (w21.setCell ⟨gb203, 1, none⟩ (.slice Ao23 y209.length co23)) w.heap.size (fun k_ => (w.heap.size ≤ k_) ∧ some k_ ≠ (.slice Ao22 t206.length co22 : Value).ownBlock) (.slice Ao23 y209.length co23) y209) := ⟨by (with_reducible repeat (first | apply Kd.R_alloc | apply Kd.R_drewN | apply Kd.R_drew)); exact Kd.R_mono (Kd.R_far (p := ⟨gb203, 1, none⟩) (Kd.R_types HO211.out BK203.out (by decide)) (fun _ hk => hk.2) (.slice Ao23 y209.length co23)) (fun _ hk => ⟨hk.1.1, hk.1.2⟩)⟩
         have n3_ : Aside0 ((w21.setCell ⟨gb203, 1, none⟩ (.slice Ao23 y209.length co23)).heap[gb201]? = some (.cells #[.int .i64 0, .slice none 0 0, .slice none 0 0] 25 (0, 0))) := ⟨by (with_reducible repeat (first | refine kdN ?_ _ | refine kdr ?_ | refine kal ?_ _)); refine blk_far ?_ NB201_203.out _; (with_reducible repeat (first | refine kdN ?_ _ | refine kdr ?_ | refine kal ?_ _)); exact BK201.out⟩
         have n4_ : Aside0 ((w21.setCell ⟨gb203, 1, none⟩ (.slice Ao23 y209.length co23)).heap[gb203]? = some (.cells #[.int .i64 ((rd_T25 l0 0).f0), .slice Ao23 y209.length co23, u204002] 25 (0, 0))) := ⟨by (with_reducible repeat (first | refine kdN ?_ _ | refine kdr ?_ | refine kal ?_ _)); refine blk_put (cs := #[.int .i64 ((rd_T25 l0 0).f0), u204001, u204002]) ?_ 1 _ rfl; (with_reducible repeat (first | refine kdN ?_ _ | refine kdr ?_ | refine kal ?_ _)); exact BK203.out⟩
         have n5_ : Aside0 ((w21.setCell ⟨gb203, 1, none⟩ (.slice Ao23 y209.length co23)).heap[gb205]? = some (.cells #[.int .i64 ((rd_T25 l0 x13_1).f0), .slice A204_1 ((rd_T25 l0 x13_1).f1).length c204_1, .slice A204_2 ((rd_T25 l0 x13_1).f2).length c204_2] 25 (0, 0))) := ⟨by (with_reducible repeat (first | refine kdN ?_ _ | refine kdr ?_ | refine kal ?_ _)); refine blk_far ?_ NB205_203.out _; (with_reducible repeat (first | refine kdN ?_ _ | refine kdr ?_ | refine kal ?_ _)); exact BK205.out⟩
         have n6_ : Aside0 (Below w.heap.size w (w21.setCell ⟨gb203, 1, none⟩ (.slice Ao23 y209.length co23))) := ⟨by repeat (first | (with_reducible first | exact HB.out | apply bal | apply bdN | apply bd1 | refine bst ?_ GE201.out | refine bst ?_ GE203.out | refine bst ?_ GE205.out) | exact HB.out)⟩
         (try clear HO_204002)
         (try clear HO208)
         (try clear HO211)
         (try clear BK201)
         (try clear BK203)
         (try clear BK205)
         (try clear HB)
         generalize (w21.setCell ⟨gb203, 1, none⟩ (.slice Ao23 y209.length co23)) = w25 at n0_ n1_ n2_ n3_ n4_ n5_ n6_ ⊢
         have HO_204002 := n0_
         have HO208 := n1_
         have HO211 := n2_
         have BK201 := n3_
         have BK203 := n4_
         have BK205 := n5_
         have HB := n6_
         clear n0_ n1_ n2_ n3_ n4_ n5_ n6_
         have n0_ := Aside0.mk (Kd.N_drew HO_204002.out)
         have n1_ := Aside0.mk (Kd.R_drew HO208.out)
         have n2_ := Aside0.mk (Kd.R_drew HO211.out)
         have n3_ := Aside0.mk (kdr BK201.out)
         have n4_ := Aside0.mk (kdr BK203.out)
         have n5_ := Aside0.mk (kdr BK205.out)
         have n6_ := Aside0.mk (bd1 HB.out)
         clear HO_204002
         clear HO208
         clear HO211
         clear BK201
         clear BK203
         clear BK205
         clear HB
         have HO_204002 := n0_
         have HO208 := n1_
         have HO211 := n2_
         have BK201 := n3_
         have BK203 := n4_
         have BK205 := n5_
         have HB := n6_
         clear n0_ n1_ n2_ n3_ n4_ n5_ n6_
         refine start_ (n := 14) (S := fun w' => w'.cell? ⟨gb203, 0, none⟩ = some (.int .i64 ((rd_T25 l0 0).f0)) ∧ w'.cell? ⟨gb203, 1, none⟩ = some (.slice Ao23 y209.length co23) ∧ w'.cell? ⟨gb203, 2, none⟩ = some (u204002) ∧ w'.cell? ⟨gb205, 0, none⟩ = some (.int .i64 ((rd_T25 l0 x13_1).f0)) ∧ w'.cell? ⟨gb205, 1, none⟩ = some (.slice A204_1 ((rd_T25 l0 x13_1).f1).length c204_1) ∧ w'.cell? ⟨gb205, 2, none⟩ = some (.slice A204_2 ((rd_T25 l0 x13_1).f2).length c204_2)) (ds := [13]) #[false, false, false, false, false, false, false, false, false, false, false, false, false, false] (by kernel_rfl) rfl rfl ⟨(blk_cell BK203.out 0).trans rfl, (blk_cell BK203.out 1).trans rfl, (blk_cell BK203.out 2).trans rfl, (blk_cell BK205.out 0).trans rfl, (blk_cell BK205.out 1).trans rfl, (blk_cell BK205.out 2).trans rfl⟩ (fun hHeld => ?_); refine with_tabW prod_Of.tab6 prod_Of.bits6 (fun HT_ HW_ => ?_)
         generalize w25.drew = w26 at HO_204002 HO208 HO211 BK201 BK203 BK205 HB hHeld ⊢
         refine pure_ (i := 0) (N := some 26) (v := ?_) (a' := ?_) #[true, false, false, false, false, false, false, false, false, false, false, false, false, false] rfl rfl (any_of HT_.out (by kernel_rfl)) (fun _ _ _ h => h) (Or.inl ⟨by rfl, ?_⟩) ?_ ?_
         rotate_left
         ·intro w'
          go_simp
          with_reducible rfl
         rotate_left
         ·simp only [Act.put, List.setIfInBounds_toArray, List.set_cons_zero, List.set_cons_succ, i64_w, i32_w]
          rfl
         refine pure_ (i := 2) (N := some 28) (v := ?_) (a' := ?_) #[true, false, true, false, false, false, false, false, false, false, false, false, false, false] rfl rfl (any_of HT_.out (by kernel_rfl)) (fun _ _ _ h => h) (Or.inl ⟨by rfl, ?_⟩) ?_ ?_
         rotate_left
         ·intro w'
          go_simp
          with_reducible rfl
         rotate_left
         ·simp only [Act.put, List.setIfInBounds_toArray, List.set_cons_zero, List.set_cons_succ, i64_w, i32_w]
          rfl
         refine pure_ (i := 4) (N := some 30) (v := ?_) (a' := ?_) #[true, false, true, false, true, false, false, false, false, false, false, false, false, false] rfl rfl (any_of HT_.out (by kernel_rfl)) (fun _ _ _ h => h) (Or.inl ⟨by rfl, ?_⟩) ?_ ?_
         rotate_left
         ·intro w'
          go_simp
          with_reducible rfl
         rotate_left
         ·simp only [Act.put, List.setIfInBounds_toArray, List.set_cons_zero, List.set_cons_succ, i64_w, i32_w]
          rfl
         refine pure_ (i := 5) (N := some 31) (v := ?_) (a' := ?_) #[true, false, true, false, true, true, false, false, false, false, false, false, false, false] rfl rfl (any_of HT_.out (by kernel_rfl)) (fun _ _ _ h => h) (Or.inl ⟨by rfl, ?_⟩) ?_ ?_
         rotate_left
         ·intro w'
          go_simp
          with_reducible rfl
         rotate_left
         ·simp only [Act.put, List.setIfInBounds_toArray, List.set_cons_zero, List.set_cons_succ, i64_w, i32_w]
          rfl
         refine pure_ (i := 6) (N := some 32) (v := ?_) (a' := ?_) #[true, false, true, false, true, true, true, false, false, false, false, false, false, false] rfl rfl (any_of HT_.out (by kernel_rfl)) (fun _ _ _ h => h) (Or.inl ⟨by rfl, ?_⟩) ?_ ?_
         rotate_left
         ·intro w'
          go_simp
          with_reducible rfl
         rotate_left
         ·simp only [Act.put, List.setIfInBounds_toArray, List.set_cons_zero, List.set_cons_succ, i64_w, i32_w]
          rfl
         refine take_ (i := 1) (N := some 27) (v := ?_) (a' := ?_) #[true, true, true, false, true, true, true, false, false, false, false, false, false, false] rfl rfl (take_ofW HT_.out HW_.out (by kernel_rfl)) (fun _ _ _ h => h) (Or.inl ⟨by rfl, ?_⟩) hHeld ?_ ?_
         rotate_left
         ·rintro w' ⟨s0, s1, s2, s3, s4, s5⟩
          go_simp
          with_reducible rfl
         rotate_left
         ·simp only [Act.put, List.setIfInBounds_toArray, List.set_cons_zero, List.set_cons_succ, i64_w, i32_w]
          rfl
         refine take_ (i := 3) (N := some 29) (v := ?_) (a' := ?_) #[true, true, true, true, true, true, true, false, false, false, false, false, false, false] rfl rfl (take_ofW HT_.out HW_.out (by kernel_rfl)) (fun _ _ _ h => h) (Or.inl ⟨by rfl, ?_⟩) hHeld ?_ ?_
         rotate_left
         ·rintro w' ⟨s0, s1, s2, s3, s4, s5⟩
          go_simp
          with_reducible rfl
         rotate_left
         ·simp only [Act.put, List.setIfInBounds_toArray, List.set_cons_zero, List.set_cons_succ, i64_w, i32_w]
          rfl
         refine take_ (i := 7) (N := some 33) (v := ?_) (a' := ?_) #[true, true, true, true, true, true, true, true, false, false, false, false, false, false] rfl rfl (take_ofW HT_.out HW_.out (by kernel_rfl)) (fun _ _ _ h => h) (Or.inl ⟨by rfl, ?_⟩) hHeld ?_ ?_
         rotate_left
         ·rintro w' ⟨s0, s1, s2, s3, s4, s5⟩
          go_simp
          with_reducible rfl
         rotate_left
         ·simp only [Act.put, List.setIfInBounds_toArray, List.set_cons_zero, List.set_cons_succ, i64_w, i32_w]
          rfl
         refine pure_ (i := 8) (N := some 34) (v := ?_) (a' := ?_) #[true, true, true, true, true, true, true, true, true, false, false, false, false, false] rfl rfl (any_of HT_.out (by kernel_rfl)) (fun _ _ _ h => h) (Or.inl ⟨by rfl, ?_⟩) ?_ ?_
         rotate_left
         ·intro w'
          go_simp
          with_reducible rfl
         rotate_left
         ·simp only [Act.put, List.setIfInBounds_toArray, List.set_cons_zero, List.set_cons_succ, i64_w, i32_w]
          rfl
         refine pure_ (i := 9) (N := some 35) (v := ?_) (a' := ?_) #[true, true, true, true, true, true, true, true, true, true, false, false, false, false] rfl rfl (any_of HT_.out (by kernel_rfl)) (fun _ _ _ h => h) (Or.inl ⟨by rfl, ?_⟩) ?_ ?_
         rotate_left
         ·intro w'
          go_simp
          with_reducible rfl
         rotate_left
         ·simp only [Act.put, List.setIfInBounds_toArray, List.set_cons_zero, List.set_cons_succ, i64_w, i32_w]
          rfl
         refine one_ (i := 10) (N := some 36) #[true, true, true, true, true, true, true, true, true, true, true, false, false, false] rfl rfl (one_of HT_.out (by kernel_rfl)) (by decide) (fun K hK => ?_)
         refine goes_ Try.func64 (by kernel_rfl) rfl #[.slice A204_2 ((rd_T25 l0 x13_1).f2).length c204_2, .int .i64 x13_1, .int .i64 (wrap64 (x13_1 * (((rd_T25 l0 x13_1).f1).length : Int)))] (by rfl) rfl rfl (by (try simp only [List.map_toArray, List.map_cons, List.map_nil]); first | done | rfl | (simp only [List.length_drop, List.length_take]; rfl)) ?_
         with_reducible refine (prod_Moved.calls k1 _ _ ((rd_T25 l0 x13_1).f2) x13_1 (wrap64 (x13_1 * (((rd_T25 l0 x13_1).f1).length : Int))) t212 _ ?side1 ?side2 A12.out).mono ?_
         (case side1 => repeat (first | exact (Kd.C_below HR204_2.out HB.out) | with_reducible first | apply Kd.C_alloc | apply Kd.C_drewN | apply Kd.C_drew))
         (case side2 => exact HC204_2.out)
         rintro e w27 ⟨v213, rfl, ho0, hb⟩
         refine ⟨_, rfl, ?_⟩
         have n0_ := Aside0.mk (Kd.N_elder' (by (with_reducible repeat (first | apply Kd.N_alloc | apply Kd.N_drewN | apply Kd.N_drew)); exact HO_204002.out) (by first | exact Kd.N_base ho0 | exact Kd.R_base ho0) hb)
         have n1_ := Aside0.mk (Kd.R_below (by (with_reducible repeat (first | apply Kd.R_alloc | apply Kd.R_drewN | apply Kd.R_drew)); exact HO208.out) hb)
         have n2_ := Aside0.mk (Kd.R_below (by (with_reducible repeat (first | apply Kd.R_alloc | apply Kd.R_drewN | apply Kd.R_drew)); exact HO211.out) hb)
         have n3_ := Aside0.mk (Kd.N_lower (Kd.N_mono (ok' := fun k_ => (w.heap.size ≤ k_) ∧ some k_ ≠ (u204002 : Value).ownBlock ∧ some k_ ≠ (.slice Ao22 t206.length co22 : Value).ownBlock ∧ some k_ ≠ (.slice Ao23 y209.length co23 : Value).ownBlock ∧ k_ ≠ gb201 ∧ k_ ≠ gb203 ∧ k_ ≠ gb205) (Kd.R_N (Kd.R_bound ho0)) (fun k_ hk_ => ⟨(Nat.le_trans (bsz (by repeat (first | (with_reducible first | exact HB.out | apply bal | apply bdN | apply bd1 | refine bst ?_ GE201.out | refine bst ?_ GE203.out | refine bst ?_ GE205.out) | exact HB.out))) hk_.2.1), (Kd.fresh' (Kd.N_lt (by (with_reducible repeat (first | apply Kd.N_alloc | apply Kd.N_drewN | apply Kd.N_drew)); exact HO_204002.out)) k_ hk_.2.1), (Kd.fresh' (Kd.R_lt (by (with_reducible repeat (first | apply Kd.R_alloc | apply Kd.R_drewN | apply Kd.R_drew)); exact HO208.out)) k_ hk_.2.1), (Kd.fresh' (Kd.R_lt (by (with_reducible repeat (first | apply Kd.R_alloc | apply Kd.R_drewN | apply Kd.R_drew)); exact HO211.out)) k_ hk_.2.1), (Kd.freshB (g := gb201) (o := .cells #[.int .i64 0, .slice none 0 0, .slice none 0 0] 25 (0, 0)) (by (with_reducible repeat (first | refine kdN ?_ _ | refine kdr ?_ | refine kal ?_ _)); exact BK201.out) k_ hk_.2.1), (Kd.freshB (g := gb203) (o := .cells #[.int .i64 ((rd_T25 l0 0).f0), .slice Ao23 y209.length co23, u204002] 25 (0, 0)) (by (with_reducible repeat (first | refine kdN ?_ _ | refine kdr ?_ | refine kal ?_ _)); exact BK203.out) k_ hk_.2.1), (Kd.freshB (g := gb205) (o := .cells #[.int .i64 ((rd_T25 l0 x13_1).f0), .slice A204_1 ((rd_T25 l0 x13_1).f1).length c204_1, .slice A204_2 ((rd_T25 l0 x13_1).f2).length c204_2] 25 (0, 0)) (by (with_reducible repeat (first | refine kdN ?_ _ | refine kdr ?_ | refine kal ?_ _)); exact BK205.out) k_ hk_.2.1)⟩)) (bsz (by repeat (first | (with_reducible first | exact HB.out | apply bal | apply bdN | apply bd1 | refine bst ?_ GE201.out | refine bst ?_ GE203.out | refine bst ?_ GE205.out) | exact HB.out))))
         have n4_ := Aside0.mk (blk_below (g := gb201) (o := .cells #[.int .i64 0, .slice none 0 0, .slice none 0 0] 25 (0, 0)) (by (with_reducible repeat (first | refine kdN ?_ _ | refine kdr ?_ | refine kal ?_ _)); exact BK201.out) hb)
         have n5_ := Aside0.mk (blk_below (g := gb203) (o := .cells #[.int .i64 ((rd_T25 l0 0).f0), .slice Ao23 y209.length co23, u204002] 25 (0, 0)) (by (with_reducible repeat (first | refine kdN ?_ _ | refine kdr ?_ | refine kal ?_ _)); exact BK203.out) hb)
         have n6_ := Aside0.mk (blk_below (g := gb205) (o := .cells #[.int .i64 ((rd_T25 l0 x13_1).f0), .slice A204_1 ((rd_T25 l0 x13_1).f1).length c204_1, .slice A204_2 ((rd_T25 l0 x13_1).f2).length c204_2] 25 (0, 0)) (by (with_reducible repeat (first | refine kdN ?_ _ | refine kdr ?_ | refine kal ?_ _)); exact BK205.out) hb)
         have n7_ := Aside0.mk (bsp (by repeat (first | (with_reducible first | exact HB.out | apply bal | apply bdN | apply bd1 | refine bst ?_ GE201.out | refine bst ?_ GE203.out | refine bst ?_ GE205.out) | exact HB.out)) hb)
         clear HO_204002
         clear HO208
         clear HO211
         clear BK201
         clear BK203
         clear BK205
         clear HB
         have HO_204002 := n0_
         have HO208 := n1_
         have HO211 := n2_
         have HO214 := n3_
         have BK201 := n4_
         have BK203 := n5_
         have BK205 := n6_
         have HB := n7_
         clear n0_ n1_ n2_ n3_ n4_ n5_ n6_ n7_
         (try clear hb)
         (try clear hb2)
         (try clear hk)
         (try clear hi)
         (try clear ho0)
         obtain ⟨Ao29, co29, eo29⟩ := Kd.N_slice HO214.out
         (first | subst eo29 | (injection eo29 with f1_ f2_ f3_; have f4_ := f1_.symm; have f5_ := f3_.symm; clear f1_ f2_ f3_; subst f4_; subst f5_))
         refine hK.out _ _ ⟨(blk_cell BK203.out 0).trans rfl, (blk_cell BK203.out 1).trans rfl, (blk_cell BK203.out 2).trans rfl, (blk_cell BK205.out 0).trans rfl, (blk_cell BK205.out 1).trans rfl, (blk_cell BK205.out 2).trans rfl⟩ (fun hHeld => ?_)
         clear hK K
         refine norm_ (a' := ?_) ?_ ?_
         rotate_left
         ·show Act.put _ (some 36) _ = _
          simp only [Act.put, List.setIfInBounds_toArray, List.set_cons_zero, List.set_cons_succ, i64_w, i32_w]
          rfl
         refine one_ (i := 11) (N := some 37) #[true, true, true, true, true, true, true, true, true, true, true, true, false, false] rfl rfl (one_of HT_.out (by kernel_rfl)) (by decide) (fun K hK => ?_)
         refine Kd.N_append_rows_step k64 (w0 := w) w.heap.size (by rfl) (.tmp 27) (.tmp 36) 23 64 (.agg #[(.int .i64 0), (.int .i64 0), (.slice none 0 0), (.slice none 0 0), (.slice none 0 0)]) 88 rfl Try.underlying23 info64 rfl (by decide) (by omega) u204002 x204002_1 t212 _ _ _ (fun k_ => (w.heap.size ≤ k_) ∧ some k_ ≠ (.slice Ao22 t206.length co22 : Value).ownBlock ∧ some k_ ≠ (.slice Ao23 y209.length co23 : Value).ownBlock ∧ k_ ≠ gb201 ∧ k_ ≠ gb203 ∧ k_ ≠ gb205) (fun k_ => ((fun k_ => (w.heap.size ≤ k_) ∧ some k_ ≠ (.slice Ao22 t206.length co22 : Value).ownBlock ∧ some k_ ≠ (.slice Ao23 y209.length co23 : Value).ownBlock ∧ k_ ≠ gb201 ∧ k_ ≠ gb203 ∧ k_ ≠ gb205)) k_ ∧ some k_ ≠ (u204002 : Value).ownBlock) rfl rfl ?aO ?aR (fun _ hk => hk) ?aF ?aB ?aS ?aL ?_
         (case aR => exact (by skip; exact Kd.N_F (Kd.N_mono (ok' := (fun k_ => ((fun k_ => (w.heap.size ≤ k_) ∧ some k_ ≠ (.slice Ao22 t206.length co22 : Value).ownBlock ∧ some k_ ≠ (.slice Ao23 y209.length co23 : Value).ownBlock ∧ k_ ≠ gb201 ∧ k_ ≠ gb203 ∧ k_ ≠ gb205)) k_ ∧ some k_ ≠ (u204002 : Value).ownBlock)) (HO214.out) (fun k_ hk => ⟨⟨hk.1, ⟨hk.2.2.1, ⟨hk.2.2.2.1, ⟨hk.2.2.2.2.1, ⟨hk.2.2.2.2.2.1, hk.2.2.2.2.2.2⟩⟩⟩⟩⟩, hk.2.1⟩))))
         (case aB => exact (by repeat (first | (with_reducible first | exact HB.out | apply bal | apply bdN | apply bd1 | refine bst ?_ GE201.out | refine bst ?_ GE203.out | refine bst ?_ GE205.out) | exact HB.out)))
         (case aF => exact (fun k_ hk => ⟨(Nat.le_trans (bsz (by repeat (first | (with_reducible first | exact HB.out | apply bal | apply bdN | apply bd1 | refine bst ?_ GE201.out | refine bst ?_ GE203.out | refine bst ?_ GE205.out) | exact HB.out))) hk), Kd.fresh' (Kd.R_lt (by (with_reducible repeat (first | apply Kd.R_alloc | apply Kd.R_drewN | apply Kd.R_drew)); exact HO208.out)) k_ hk, Kd.fresh' (Kd.R_lt (by (with_reducible repeat (first | apply Kd.R_alloc | apply Kd.R_drewN | apply Kd.R_drew)); exact HO211.out)) k_ hk, Kd.freshB (g := gb201) (o := .cells #[.int .i64 0, .slice none 0 0, .slice none 0 0] 25 (0, 0)) (by (with_reducible repeat (first | refine kdN ?_ _ | refine kdr ?_ | refine kal ?_ _)); exact BK201.out) k_ hk, Kd.freshB (g := gb203) (o := .cells #[.int .i64 ((rd_T25 l0 0).f0), .slice Ao23 y209.length co23, u204002] 25 (0, 0)) (by (with_reducible repeat (first | refine kdN ?_ _ | refine kdr ?_ | refine kal ?_ _)); exact BK203.out) k_ hk, Kd.freshB (g := gb205) (o := .cells #[.int .i64 ((rd_T25 l0 x13_1).f0), .slice A204_1 ((rd_T25 l0 x13_1).f1).length c204_1, .slice A204_2 ((rd_T25 l0 x13_1).f2).length c204_2] 25 (0, 0)) (by (with_reducible repeat (first | refine kdN ?_ _ | refine kdr ?_ | refine kal ?_ _)); exact BK205.out) k_ hk⟩))
         (case aO => exact (by (with_reducible repeat (first | apply Kd.N_alloc | apply Kd.N_drewN | apply Kd.N_drew)); exact Kd.N_mono HO_204002.out (fun _ hk => ⟨hk.1.1, ⟨hk.1.2.1, ⟨hk.1.2.2.1, ⟨hk.1.2.2.2.1, ⟨hk.1.2.2.2.2.1, hk.1.2.2.2.2.2⟩⟩⟩⟩⟩)))
         (case aS => exact (bsz (by repeat (first | (with_reducible first | exact HB.out | apply bal | apply bdN | apply bd1 | refine bst ?_ GE201.out | refine bst ?_ GE203.out | refine bst ?_ GE205.out) | exact HB.out))))
         (case aL => have := LMc13.out; omega)
         intro v216 w28 ho hb hg hat
         rw [← Ny215.out] at ho
         have n0_ := Aside0.mk (blk_grown (g := gb201) (o := .cells #[.int .i64 0, .slice none 0 0, .slice none 0 0] 25 (0, 0)) (by (with_reducible repeat (first | refine kdN ?_ _ | refine kdr ?_ | refine kal ?_ _)); exact BK201.out) hg (Kd.N_ne HO_204002.out BK201.out (by decide)))
         have n1_ := Aside0.mk (blk_grown (g := gb203) (o := .cells #[.int .i64 ((rd_T25 l0 0).f0), .slice Ao23 y209.length co23, u204002] 25 (0, 0)) (by (with_reducible repeat (first | refine kdN ?_ _ | refine kdr ?_ | refine kal ?_ _)); exact BK203.out) hg (Kd.N_ne HO_204002.out BK203.out (by decide)))
         have n2_ := Aside0.mk (blk_grown (g := gb205) (o := .cells #[.int .i64 ((rd_T25 l0 x13_1).f0), .slice A204_1 ((rd_T25 l0 x13_1).f1).length c204_1, .slice A204_2 ((rd_T25 l0 x13_1).f2).length c204_2] 25 (0, 0)) (by (with_reducible repeat (first | refine kdN ?_ _ | refine kdr ?_ | refine kal ?_ _)); exact BK205.out) hg (Kd.N_ne HO_204002.out BK205.out (by decide)))
         have n3_ := Aside0.mk (Kd.R_over' (by (with_reducible repeat (first | apply Kd.R_alloc | apply Kd.R_drewN | apply Kd.R_drew)); exact HO208.out) (Kd.N_typed (by (with_reducible repeat (first | apply Kd.N_alloc | apply Kd.N_drewN | apply Kd.N_drew)); exact HO_204002.out)) (by decide) hg)
         have n4_ := Aside0.mk (Kd.R_over' (by (with_reducible repeat (first | apply Kd.R_alloc | apply Kd.R_drewN | apply Kd.R_drew)); exact HO211.out) (Kd.N_typed (by (with_reducible repeat (first | apply Kd.N_alloc | apply Kd.N_drewN | apply Kd.N_drew)); exact HO_204002.out)) (by decide) hg)
         have n5_ := Aside0.mk (Kd.N_afterv (ok := (fun k_ => (w.heap.size ≤ k_) ∧ some k_ ≠ (.slice Ao22 t206.length co22 : Value).ownBlock ∧ some k_ ≠ (.slice Ao23 y209.length co23 : Value).ownBlock ∧ k_ ≠ gb201 ∧ k_ ≠ gb203 ∧ k_ ≠ gb205)) (by (with_reducible repeat (first | apply Kd.N_alloc | apply Kd.N_drewN | apply Kd.N_drew)); exact Kd.N_mono HO214.out (fun _ hk => ⟨⟨hk.1, ⟨hk.2.2.1, ⟨hk.2.2.2.1, ⟨hk.2.2.2.2.1, ⟨hk.2.2.2.2.2.1, hk.2.2.2.2.2.2⟩⟩⟩⟩⟩, hk.2.1⟩)) hg hat)
         have n6_ := Aside0.mk (hb)
         have n7_ := Aside0.mk (ho)
         clear BK201
         clear BK203
         clear BK205
         clear HO208
         clear HO211
         clear HO214
         clear HB
         clear HO_204002
         have BK201 := n0_
         have BK203 := n1_
         have BK205 := n2_
         have HO208 := n3_
         have HO211 := n4_
         have HO214 := n5_
         have HB := n6_
         have HO217 := n7_
         clear n0_ n1_ n2_ n3_ n4_ n5_ n6_ n7_
         clear ho hb hg hat
         obtain ⟨Ao30, co30, eo30⟩ := Kd.N_slice HO217.out
         (first | subst eo30 | (injection eo30 with f1_ f2_ f3_; have f4_ := f1_.symm; have f5_ := f3_.symm; clear f1_ f2_ f3_; subst f4_; subst f5_))
         refine hK.out _ _ ⟨(blk_cell BK203.out 0).trans rfl, (blk_cell BK203.out 1).trans rfl, (blk_cell BK203.out 2).trans rfl, (blk_cell BK205.out 0).trans rfl, (blk_cell BK205.out 1).trans rfl, (blk_cell BK205.out 2).trans rfl⟩ (fun hHeld => ?_)
         clear hK K
         refine norm_ (a' := ?_) ?_ ?_
         rotate_left
         ·show Act.put _ (some 37) _ = _
          simp only [Act.put, List.setIfInBounds_toArray, List.set_cons_zero, List.set_cons_succ, i64_w, i32_w]
          rfl
         refine pure_ (i := 12) (N := some 38) (v := ?_) (a' := ?_) #[true, true, true, true, true, true, true, true, true, true, true, true, true, false] rfl rfl (any_of HT_.out (by kernel_rfl)) (fun _ _ _ h => h) (Or.inl ⟨by rfl, ?_⟩) ?_ ?_
         rotate_left
         ·intro w'
          go_simp
          with_reducible rfl
         rotate_left
         ·simp only [Act.put, List.setIfInBounds_toArray, List.set_cons_zero, List.set_cons_succ, i64_w, i32_w]
          rfl
         refine last_ (i := 13) (N := none) #[true, true, true, true, true, true, true, true, true, true, true, true, true, true] rfl rfl (one_of HT_.out (by kernel_rfl)) (by decide) (fun K hK => ?_)
         have hs31 : w28.cell? ⟨gb203, 2, none⟩ = some (u204002) := (blk_cell BK203.out 2).trans rfl
         have hfs31 := blk_frozen BK203.out 2
         have hns31_0 := NB201_203.out
         have hns31_2 := NB205_203.out
         have hms31_0 := NB203_201.out
         have hms31_2 := NB203_205.out
         refine skip_ (w1 := ?_) (by rfl) rfl ?_ ?_
         rotate_left
         ·go_simp
          rfl
         refine hK.out _ _ ?_
         clear hK K
         refine done_ (done_of HT_.out (by kernel_rfl)) ?_
         try go_wp2
         go_roundg k1
         case measure => have := HK1.out; omega
         case rel => exact ⟨(wrap64 (x13_1 + 1)), (y209), (y215), (.slice Ao23 y209.length co23), (.slice Ao30 y215.length co30), (by first | rfl | (simp; done) | (simp [*]; done)), H', ⟨by have := HK1.out; omega⟩, ⟨by (with_reducible repeat (first | apply Kd.R_alloc | apply Kd.R_drewN | apply Kd.R_drew)); exact Kd.R_mono (Kd.R_far (p := ⟨gb203, 2, none⟩) (Kd.R_types HO211.out BK203.out (by decide)) (fun _ hk => hk.2) (.slice Ao30 y215.length co30)) (fun _ hk => hk.1.1)⟩, ⟨by (with_reducible repeat (first | apply Kd.N_alloc | apply Kd.N_drewN | apply Kd.N_drew)); exact Kd.N_mono (Kd.N_far (p := ⟨gb203, 2, none⟩) (Kd.N_mono HO217.out (fun k_ hk => (⟨hk, hk.2.2.2.2.1⟩ : _ ∧ k_ ≠ gb203))) (fun _ hk => hk.2) (.slice Ao30 y215.length co30)) (fun _ hk => ⟨hk.1.1, ⟨hk.1.2.2.1, ⟨hk.1.2.2.2.1, hk.1.2.2.2.2.1⟩⟩⟩)⟩, ⟨by (with_reducible repeat (first | refine kdN ?_ _ | refine kdr ?_ | refine kal ?_ _)); refine blk_far ?_ NB201_203.out _; (with_reducible repeat (first | refine kdN ?_ _ | refine kdr ?_ | refine kal ?_ _)); exact BK201.out⟩, ⟨by (with_reducible repeat (first | refine kdN ?_ _ | refine kdr ?_ | refine kal ?_ _)); refine blk_put (cs := #[.int .i64 ((rd_T25 l0 0).f0), .slice Ao23 y209.length co23, u204002]) ?_ 2 _ rfl; (with_reducible repeat (first | refine kdN ?_ _ | refine kdr ?_ | refine kal ?_ _)); exact BK203.out⟩, ⟨by repeat (first | (with_reducible first | exact HB.out | apply bal | apply bdN | apply bd1 | refine bst ?_ GE201.out | refine bst ?_ GE203.out | refine bst ?_ GE205.out) | exact HB.out)⟩⟩
        ·rw [if_neg c13] at H
         exact absurd H (by simp)
       ·rw [if_neg c11] at H
        exact absurd H (by simp)
      ·rw [if_neg c9] at H
       exact absurd H (by simp)
     ·rw [if_neg c8] at H
      exact absurd H (by simp)
    ·rw [if_neg c7] at H
     have c7b0 : decide (x13_1 < (l0.length : Int)) = false := decide_eq_false c7
     clear c7
     simp only [Option.some.injEq, Prod.mk.injEq] at H
     obtain ⟨rfl, rfl, rfl⟩ := H
     have hnb32 := NB203_201.out
     have hnc32 := NB201_203.out
     obtain ⟨hcz33_0, hcz33_1, hcz33_2, hfz33_0, hfz33_1, hfz33_2⟩ := cf3 BK203.out
     obtain ⟨hcz34_0, hcz34_1, hcz34_2, hfz34_0, hfz34_1, hfz34_2⟩ := cf3 BK201.out
     obtain ⟨Ao35, co35, eo35⟩ := Kd.R_slice HO_204001.out
     subst eo35
     obtain ⟨Ao36, co36, eo36⟩ := Kd.N_slice HO_204002.out
     subst eo36
     go_wp2
     refine bodyPost_ret (results_cell_row rfl _ _ gb201 25 #[.int .i64 ((rd_T25 l0 0).f0), .slice Ao35 x204001_1.length co35, .slice Ao36 x204002_1.length co36] (0, 0) _ rfl (by (with_reducible repeat (first | refine kdN ?_ _ | refine kdr ?_ | refine kal ?_ _)); refine blk_put (cs := #[.int .i64 ((rd_T25 l0 0).f0), .slice Ao35 x204001_1.length co35, .slice none 0 0]) ?_ 2 _ rfl; (with_reducible repeat (first | refine kdN ?_ _ | refine kdr ?_ | refine kal ?_ _)); refine blk_put (cs := #[.int .i64 ((rd_T25 l0 0).f0), .slice none 0 0, .slice none 0 0]) ?_ 1 _ rfl; (with_reducible repeat (first | refine kdN ?_ _ | refine kdr ?_ | refine kal ?_ _)); refine blk_put (cs := #[.int .i64 0, .slice none 0 0, .slice none 0 0]) ?_ 0 _ rfl; (with_reducible repeat (first | refine kdN ?_ _ | refine kdr ?_ | refine kal ?_ _)); exact BK201.out) Try.underlying25 rfl (by kernel_rfl)) rfl ?_
     exact ⟨_, _, by first | rfl | (simp [*] <;> rfl), by (with_reducible repeat (first | apply Kd.R_alloc | apply Kd.R_drewN | apply Kd.R_drew)); exact Kd.R_mono (Kd.R_far (p := ⟨gb201, 2, none⟩) (Kd.R_far (p := ⟨gb201, 1, none⟩) (Kd.R_far (p := ⟨gb201, 0, none⟩) (Kd.R_types HO_204001.out BK201.out (by decide)) (fun _ hk => hk.2) (.int .i64 ((rd_T25 l0 0).f0))) (fun _ hk => hk.2) (.slice Ao35 x204001_1.length co35)) (fun _ hk => hk.2) (.slice Ao36 x204002_1.length co36)) (fun _ hk => hk.1), by (with_reducible repeat (first | apply Kd.N_alloc | apply Kd.N_drewN | apply Kd.N_drew)); exact Kd.N_mono (Kd.N_far (p := ⟨gb201, 2, none⟩) (Kd.N_far (p := ⟨gb201, 1, none⟩) (Kd.N_far (p := ⟨gb201, 0, none⟩) (Kd.N_mono HO_204002.out (fun k_ hk => (⟨hk, hk.2.2.1⟩ : _ ∧ k_ ≠ gb201))) (fun _ hk => hk.2) (.int .i64 ((rd_T25 l0 0).f0))) (fun _ hk => hk.2) (.slice Ao35 x204001_1.length co35)) (fun _ hk => hk.2) (.slice Ao36 x204002_1.length co36)) (fun _ hk => ⟨hk.1.1, hk.1.2.1⟩), by repeat (first | (with_reducible first | exact HB.out | apply bal | apply bdN | apply bd1 | refine bst ?_ GE201.out | refine bst ?_ GE203.out) | exact HB.out)⟩
 ·rw [if_neg c2] at H
  exact absurd H (by simp)
def prod_made.f (k : Nat) (a0_0 : Int) (l0_1 : List (S66)) (l0_2 : List (S64)) : Option (Int × (List (S66)) × (List (S64)) × Int) := (prog_Check.f k a0_0 l0_1 l0_2).bind fun t182 => (if t182 = 0 then (some (a0_0, l0_1, l0_2, 0)) else (some (0, ([] : List (S66)), ([] : List (S64)), 2)))
set_option maxHeartbeats 8000000 in
set_option maxRecDepth 100000 in
theorem prod_made.calls (k : Nat) (a0_0 : Int) (P0_1_ : Nat → Prop) (u9000_ : Value) (l0_1 : List (S66)) (P0_2_ : Nat → Prop) (A0_2 : Option Addr) (c0_2 : Nat) (l0_2 : List (S64)) (r1 : Int) (r2 : List (S66)) (r3 : List (S64)) (r4 : Int) (w0 w : World) (hB : Below w0.heap.size w0 w) (ho0_1 : Kd.R k66 66 w w0.heap.size P0_1_ u9000_ l0_1) (hs0_2 : Kd.V k64 64 w w0.heap.size (fun k_ => P0_2_ k_ ∧ some k_ ≠ (u9000_ : Value).ownBlock) (.slice A0_2 l0_2.length c0_2) l0_2) (h : prod_made.f k a0_0 l0_1 l0_2 = some (r1, r2, r3, r4)) :
  Calls Try.prog 63 #[.agg #[.int .i64 a0_0, u9000_, .slice A0_2 l0_2.length c0_2]] w fun e w' => ∃ v1_ v2_ : Value, e = .returned (.tuple #[.agg #[.int .i64 r1, v1_, v2_], .int .i64 r4]) ∧ Kd.R k66 66 w' w0.heap.size (fun k_ => (P0_1_ k_ ∨ w.heap.size ≤ k_)) v1_ r2 ∧ Kd.V k64 64 w' w0.heap.size (fun k_ => ((P0_1_ k_ ∨ P0_2_ k_) ∨ w.heap.size ≤ k_) ∧ some k_ ≠ (v1_ : Value).ownBlock) v2_ r3 ∧ Below w0.heap.size w0 w' ∧ Kept w w' (fun k_ => P0_1_ k_) := by
 have hu25 := Try.underlying25
 have HO0_1 := Aside0.mk (show Kd.R k66 66 w w0.heap.size (fun k_ => (P0_1_ k_ ∨ w.heap.size ≤ k_)) u9000_ l0_1 from Kd.R_mono ho0_1 (fun k_ hk => (.inl hk)))
 have HO0_2 := Aside0.mk (show Kd.V k64 64 w w0.heap.size (fun k_ => ((P0_1_ k_ ∨ P0_2_ k_) ∨ w.heap.size ≤ k_) ∧ some k_ ≠ (u9000_ : Value).ownBlock) (.slice A0_2 l0_2.length c0_2) l0_2 from Kd.V_mono hs0_2 (fun k_ hk => ⟨.inl (.inr hk.1), hk.2⟩))
 have HK := Aside0.mk (Kept.refl w (fun k_ => P0_1_ k_))
 have HW0 := Aside0.mk hB.size
 have HB := Aside0.mk hB
 clear hB
 have H : ((prog_Check.f k a0_0 l0_1 l0_2).bind fun t182 => (if t182 = 0 then (some (a0_0, l0_1, l0_2, 0)) else (some (0, ([] : List (S66)), ([] : List (S64)), 2)))) = some (r1, r2, r3, r4) := h
 clear h
 replace H := Option.bind_eq_some_iff.mp H
 obtain ⟨t182, A20, H⟩ := H
 replace H : (if t182 = 0 then (some (a0_0, l0_1, l0_2, 0)) else (some (0, ([] : List (S66)), ([] : List (S64)), 2))) = some (r1, r2, r3, r4) := H
 have A2 := Aside0.mk A20
 clear A20
 by_cases c3 : t182 = 0
 ·rw [if_pos c3] at H
  have c3b0 : (t182 == 0) = true := beq_iff_eq.mpr c3
  have c3b1 : (t182 != 0) = false := bne_eq_false_iff_eq.mpr c3
  clear c3
  simp only [Option.some.injEq, Prod.mk.injEq] at H
  obtain ⟨rfl, rfl, rfl, rfl⟩ := H
  obtain ⟨Ao4, co4, eo4⟩ := Kd.R_slice HO0_1.out
  subst eo4
  go_enter Try.func63, Try.ntmps63
  go_wp2_with (first | ((with_reducible refine gate_dst (N := 1) rfl ?_); refine box_event ?hg (N := 1) ?hd (cs := #[.int .i64 a0_0, .slice Ao4 l0_1.length co4, .slice A0_2 l0_2.length c0_2]) (t := 25) ?hr ?_; (case hd => rfl); (case hg => rfl); (case hr => first | (go_simp; done) | (go_simp; rfl)); intro gb180 hg w5 hbox hb; have n0_ := Aside0.mk (Kd.R_below (by (with_reducible repeat (first | apply Kd.R_alloc | apply Kd.R_drewN | apply Kd.R_drew)); exact HO0_1.out) hb); have n1_ := Aside0.mk (Kd.V_below (Kd.V_elderB (by (with_reducible repeat (first | apply Kd.V_alloc | apply Kd.V_drewN | apply Kd.V_drew)); exact HO0_2.out) gb180 (Nat.le_of_eq hg.symm)) hb); have n2_ := Aside0.mk (Kept.below (S := (fun k_ => P0_1_ k_)) (by repeat (first | (with_reducible first | exact HK.out | apply Kept.alloc | apply Kept.drewN | apply Kept.drew) | exact HK.out)) hb); have n3_ := Aside0.mk (bsp (by repeat (first | (with_reducible first | exact HB.out | apply bal | apply bdN | apply bd1) | exact HB.out)) hb); have n4_ := Aside0.mk (hbox); have n5_ := Aside0.mk ((by rw [hg]; exact (by first | exact HK.out.1 | exact (show Kept w _ (fun k_ => P0_1_ k_) from by repeat (first | (with_reducible first | exact HK.out | apply Kept.alloc | apply Kept.drewN | apply Kept.drew) | exact HK.out)).1) : w.heap.size ≤ gb180)); have n6_ := Aside0.mk ((by rw [hg]; exact (bsz (by repeat (first | (with_reducible first | exact HB.out | apply bal | apply bdN | apply bd1) | exact HB.out))) : w0.heap.size ≤ gb180)); clear HO0_1; clear HO0_2; clear HK; clear HB; have HO0_1 := n0_; have HO0_2 := n1_; have HK := n2_; have HB := n3_; have BK180 := n4_; have GW180 := n5_; have GE180 := n6_; clear n0_ n1_ n2_ n3_ n4_ n5_ n6_; clear hb hbox hg) | ((with_reducible refine gate_dst (N := 2) rfl ?_); refine box_event ?hg (N := 2) ?hd (cs := #[.int .i64 0, .slice none 0 0, .slice none 0 0]) (t := 25) ?hr ?_; (case hd => rfl); (case hg => rfl); (case hr => first | (go_simp; done) | (go_simp; rfl)); intro gb181 hg w6 hbox hb; have n0_ := Aside0.mk (Kd.R_below (by (with_reducible repeat (first | apply Kd.R_alloc | apply Kd.R_drewN | apply Kd.R_drew)); exact HO0_1.out) hb); have n1_ := Aside0.mk (Kd.V_below (Kd.V_elderB (by (with_reducible repeat (first | apply Kd.V_alloc | apply Kd.V_drewN | apply Kd.V_drew)); exact HO0_2.out) gb181 (Nat.le_of_eq hg.symm)) hb); have n2_ := Aside0.mk (blk_below (g := gb180) (o := .cells #[.int .i64 a0_0, .slice Ao4 l0_1.length co4, .slice A0_2 l0_2.length c0_2] 25 (0, 0)) (by (with_reducible repeat (first | refine kdN ?_ _ | refine kdr ?_ | refine kal ?_ _)); exact BK180.out) hb); have n3_ := Aside0.mk (Kept.below (S := (fun k_ => P0_1_ k_)) (by repeat (first | (with_reducible first | exact HK.out | apply Kept.alloc | apply Kept.drewN | apply Kept.drew | refine Kept.setCell ?_ (.inr GW180.out) _) | exact HK.out)) hb); have n4_ := Aside0.mk (bsp (by repeat (first | (with_reducible first | exact HB.out | apply bal | apply bdN | apply bd1 | refine bst ?_ GE180.out) | exact HB.out)) hb); have n5_ := Aside0.mk (hbox); have n6_ := Aside0.mk ((by rw [hg]; exact (by first | exact HK.out.1 | exact (show Kept w _ (fun k_ => P0_1_ k_) from by repeat (first | (with_reducible first | exact HK.out | apply Kept.alloc | apply Kept.drewN | apply Kept.drew | refine Kept.setCell ?_ (.inr GW180.out) _) | exact HK.out)).1) : w.heap.size ≤ gb181)); have n7_ := Aside0.mk ((by rw [hg]; exact (bsz (by repeat (first | (with_reducible first | exact HB.out | apply bal | apply bdN | apply bd1 | refine bst ?_ GE180.out) | exact HB.out))) : w0.heap.size ≤ gb181)); have n8_ := Aside0.mk ((by rw [hg]; exact Nat.ne_of_lt (blk_lt (g := gb180) (o := .cells #[.int .i64 a0_0, .slice Ao4 l0_1.length co4, .slice A0_2 l0_2.length c0_2] 25 (0, 0)) (by (with_reducible repeat (first | refine kdN ?_ _ | refine kdr ?_ | refine kal ?_ _)); exact BK180.out)) : gb180 ≠ gb181)); have n9_ := Aside0.mk ((by rw [hg]; exact Nat.ne_of_gt (blk_lt (g := gb180) (o := .cells #[.int .i64 a0_0, .slice Ao4 l0_1.length co4, .slice A0_2 l0_2.length c0_2] 25 (0, 0)) (by (with_reducible repeat (first | refine kdN ?_ _ | refine kdr ?_ | refine kal ?_ _)); exact BK180.out)) : gb181 ≠ gb180)); clear HO0_1; clear HO0_2; clear BK180; clear HK; clear HB; have HO0_1 := n0_; have HO0_2 := n1_; have BK180 := n2_; have HK := n3_; have HB := n4_; have BK181 := n5_; have GW181 := n6_; have GE181 := n7_; have NB180_181 := n8_; have NB181_180 := n9_; clear n0_ n1_ n2_ n3_ n4_ n5_ n6_ n7_ n8_ n9_; clear hb hbox hg; have hnb7 := NB180_181.out; have hnc7 := NB181_180.out; obtain ⟨hcz8_0, hcz8_1, hcz8_2, hfz8_0, hfz8_1, hfz8_2⟩ := cf3 BK180.out) | ((with_reducible refine gate_callee (f := 43) rfl ?_); refine goesL_ (some 5) rfl rfl Try.func43 (by kernel_rfl) rfl #[.agg #[.int .i64 a0_0, .slice Ao4 l0_1.length co4, .slice A0_2 l0_2.length c0_2]] rfl (by (try simp only [List.map_toArray, List.map_cons, List.map_nil]); first | done | rfl | (simp only [List.length_drop, List.length_take]; rfl)) ?_; (with_reducible refine (prog_Check.calls k a0_0 _ _ l0_1 _ _ l0_2 t182 _ ?side1 ?side2 ?side3 ?side4 A2.out).mono ?_); (case side1 => repeat (first | exact (Kd.R_reads' HO0_1.out).2.2 | with_reducible first | apply Kd.C_alloc | apply Kd.C_drewN | apply Kd.C_drew)); (case side2 => exact (Kd.R_reads' HO0_1.out).2.1); (case side3 => repeat (first | exact (Kd.V_reads' HO0_2.out).2.2 | with_reducible first | apply Kd.C_alloc | apply Kd.C_drewN | apply Kd.C_drew)); (case side4 => exact (Kd.V_reads' HO0_2.out).2.1); rintro e w9 ⟨rfl, hb⟩; refine ⟨_, rfl, ?_⟩; have n0_ := Aside0.mk (Kd.R_below (by (with_reducible repeat (first | apply Kd.R_alloc | apply Kd.R_drewN | apply Kd.R_drew)); exact HO0_1.out) hb); have n1_ := Aside0.mk (Kd.V_below (by (with_reducible repeat (first | apply Kd.V_alloc | apply Kd.V_drewN | apply Kd.V_drew)); exact HO0_2.out) hb); have n2_ := Aside0.mk (blk_below (g := gb180) (o := .cells #[.int .i64 a0_0, .slice Ao4 l0_1.length co4, .slice A0_2 l0_2.length c0_2] 25 (0, 0)) (by (with_reducible repeat (first | refine kdN ?_ _ | refine kdr ?_ | refine kal ?_ _)); exact BK180.out) hb); have n3_ := Aside0.mk (blk_below (g := gb181) (o := .cells #[.int .i64 0, .slice none 0 0, .slice none 0 0] 25 (0, 0)) (by (with_reducible repeat (first | refine kdN ?_ _ | refine kdr ?_ | refine kal ?_ _)); exact BK181.out) hb); have n4_ := Aside0.mk (Kept.below (S := (fun k_ => P0_1_ k_)) (by repeat (first | (with_reducible first | exact HK.out | apply Kept.alloc | apply Kept.drewN | apply Kept.drew | refine Kept.setCell ?_ (.inr GW180.out) _ | refine Kept.setCell ?_ (.inr GW181.out) _) | exact HK.out)) hb); have n5_ := Aside0.mk (bsp (by repeat (first | (with_reducible first | exact HB.out | apply bal | apply bdN | apply bd1 | refine bst ?_ GE180.out | refine bst ?_ GE181.out) | exact HB.out)) hb); clear HO0_1; clear HO0_2; clear BK180; clear BK181; clear HK; clear HB; have HO0_1 := n0_; have HO0_2 := n1_; have BK180 := n2_; have BK181 := n3_; have HK := n4_; have HB := n5_; clear n0_ n1_ n2_ n3_ n4_ n5_; (try clear hb); (try clear hb2); (try clear hk); (try clear hi); obtain ⟨hcz10_0, hcz10_1, hcz10_2, hfz10_0, hfz10_1, hfz10_2⟩ := cf3 BK180.out; obtain ⟨hcz11_0, hcz11_1, hcz11_2, hfz11_0, hfz11_1, hfz11_2⟩ := cf3 BK181.out))
  refine bodyPost_ret (results_ct rfl _ _ gb181 25 #[.int .i64 a0_0, .slice Ao4 l0_1.length co4, .slice A0_2 l0_2.length c0_2] (0, 0) _ rfl (by (with_reducible repeat (first | refine kdN ?_ _ | refine kdr ?_ | refine kal ?_ _)); refine blk_put (cs := #[.int .i64 a0_0, .slice Ao4 l0_1.length co4, .slice none 0 0]) ?_ 2 _ rfl; (with_reducible repeat (first | refine kdN ?_ _ | refine kdr ?_ | refine kal ?_ _)); refine blk_put (cs := #[.int .i64 a0_0, .slice none 0 0, .slice none 0 0]) ?_ 1 _ rfl; (with_reducible repeat (first | refine kdN ?_ _ | refine kdr ?_ | refine kal ?_ _)); refine blk_put (cs := #[.int .i64 0, .slice none 0 0, .slice none 0 0]) ?_ 0 _ rfl; (with_reducible repeat (first | refine kdN ?_ _ | refine kdr ?_ | refine kal ?_ _)); exact BK181.out) Try.underlying25 rfl (by kernel_rfl)) rfl ?_
  exact ⟨_, _, by first | rfl | (simp [*] <;> rfl), by (with_reducible repeat (first | apply Kd.R_alloc | apply Kd.R_drewN | apply Kd.R_drew)); exact Kd.R_mono (Kd.R_far (p := ⟨gb181, 2, none⟩) (Kd.R_far (p := ⟨gb181, 1, none⟩) (Kd.R_far (p := ⟨gb181, 0, none⟩) (Kd.R_types HO0_1.out BK181.out (by decide)) (fun _ hk => hk.2) (.int .i64 a0_0)) (fun _ hk => hk.2) (.slice Ao4 l0_1.length co4)) (fun _ hk => hk.2) (.slice A0_2 l0_2.length c0_2)) (fun _ hk => hk.1), by (with_reducible repeat (first | apply Kd.V_alloc | apply Kd.V_drewN | apply Kd.V_drew)); exact Kd.V_mono (Kd.V_far (p := ⟨gb181, 2, none⟩) (Kd.V_far (p := ⟨gb181, 1, none⟩) (Kd.V_far (p := ⟨gb181, 0, none⟩) (Kd.V_mono HO0_2.out (fun k_ hk => (⟨hk, hk.2⟩ : _ ∧ k_ ≠ gb181))) (fun _ hk => hk.2) (.int .i64 a0_0)) (fun _ hk => hk.2) (.slice Ao4 l0_1.length co4)) (fun _ hk => hk.2) (.slice A0_2 l0_2.length c0_2)) (fun _ hk => ⟨hk.1.1.1.1, hk.1.1.1.2⟩), by repeat (first | (with_reducible first | exact HB.out | apply bal | apply bdN | apply bd1 | refine bst ?_ GE180.out | refine bst ?_ GE181.out) | exact HB.out), by repeat (first | (with_reducible first | exact HK.out | apply Kept.alloc | apply Kept.drewN | apply Kept.drew | refine Kept.setCell ?_ (.inr GW180.out) _ | refine Kept.setCell ?_ (.inr GW181.out) _) | exact HK.out)⟩
 ·rw [if_neg c3] at H
  have c3b0 : (t182 == 0) = false := beq_eq_false_iff_ne.mpr c3
  have c3b1 : (t182 != 0) = true := bne_iff_ne.mpr c3
  simp only [Option.some.injEq, Prod.mk.injEq] at H
  obtain ⟨rfl, rfl, rfl, rfl⟩ := H
  obtain ⟨Ao12, co12, eo12⟩ := Kd.R_slice HO0_1.out
  subst eo12
  go_enter Try.func63, Try.ntmps63
  go_wp2_with (first | ((with_reducible refine gate_dst (N := 1) rfl ?_); refine box_event ?hg (N := 1) ?hd (cs := #[.int .i64 a0_0, .slice Ao12 l0_1.length co12, .slice A0_2 l0_2.length c0_2]) (t := 25) ?hr ?_; (case hd => rfl); (case hg => rfl); (case hr => first | (go_simp; done) | (go_simp; rfl)); intro gb180 hg w13 hbox hb; have n0_ := Aside0.mk (Kd.R_below (by (with_reducible repeat (first | apply Kd.R_alloc | apply Kd.R_drewN | apply Kd.R_drew)); exact HO0_1.out) hb); have n1_ := Aside0.mk (Kd.V_below (Kd.V_elderB (by (with_reducible repeat (first | apply Kd.V_alloc | apply Kd.V_drewN | apply Kd.V_drew)); exact HO0_2.out) gb180 (Nat.le_of_eq hg.symm)) hb); have n2_ := Aside0.mk (Kept.below (S := (fun k_ => P0_1_ k_)) (by repeat (first | (with_reducible first | exact HK.out | apply Kept.alloc | apply Kept.drewN | apply Kept.drew) | exact HK.out)) hb); have n3_ := Aside0.mk (bsp (by repeat (first | (with_reducible first | exact HB.out | apply bal | apply bdN | apply bd1) | exact HB.out)) hb); have n4_ := Aside0.mk (hbox); have n5_ := Aside0.mk ((by rw [hg]; exact (by first | exact HK.out.1 | exact (show Kept w _ (fun k_ => P0_1_ k_) from by repeat (first | (with_reducible first | exact HK.out | apply Kept.alloc | apply Kept.drewN | apply Kept.drew) | exact HK.out)).1) : w.heap.size ≤ gb180)); have n6_ := Aside0.mk ((by rw [hg]; exact (bsz (by repeat (first | (with_reducible first | exact HB.out | apply bal | apply bdN | apply bd1) | exact HB.out))) : w0.heap.size ≤ gb180)); clear HO0_1; clear HO0_2; clear HK; clear HB; have HO0_1 := n0_; have HO0_2 := n1_; have HK := n2_; have HB := n3_; have BK180 := n4_; have GW180 := n5_; have GE180 := n6_; clear n0_ n1_ n2_ n3_ n4_ n5_ n6_; clear hb hbox hg) | ((with_reducible refine gate_dst (N := 2) rfl ?_); refine box_event ?hg (N := 2) ?hd (cs := #[.int .i64 0, .slice none 0 0, .slice none 0 0]) (t := 25) ?hr ?_; (case hd => rfl); (case hg => rfl); (case hr => first | (go_simp; done) | (go_simp; rfl)); intro gb181 hg w14 hbox hb; have n0_ := Aside0.mk (Kd.R_below (by (with_reducible repeat (first | apply Kd.R_alloc | apply Kd.R_drewN | apply Kd.R_drew)); exact HO0_1.out) hb); have n1_ := Aside0.mk (Kd.V_below (Kd.V_elderB (by (with_reducible repeat (first | apply Kd.V_alloc | apply Kd.V_drewN | apply Kd.V_drew)); exact HO0_2.out) gb181 (Nat.le_of_eq hg.symm)) hb); have n2_ := Aside0.mk (blk_below (g := gb180) (o := .cells #[.int .i64 a0_0, .slice Ao12 l0_1.length co12, .slice A0_2 l0_2.length c0_2] 25 (0, 0)) (by (with_reducible repeat (first | refine kdN ?_ _ | refine kdr ?_ | refine kal ?_ _)); exact BK180.out) hb); have n3_ := Aside0.mk (Kept.below (S := (fun k_ => P0_1_ k_)) (by repeat (first | (with_reducible first | exact HK.out | apply Kept.alloc | apply Kept.drewN | apply Kept.drew | refine Kept.setCell ?_ (.inr GW180.out) _) | exact HK.out)) hb); have n4_ := Aside0.mk (bsp (by repeat (first | (with_reducible first | exact HB.out | apply bal | apply bdN | apply bd1 | refine bst ?_ GE180.out) | exact HB.out)) hb); have n5_ := Aside0.mk (hbox); have n6_ := Aside0.mk ((by rw [hg]; exact (by first | exact HK.out.1 | exact (show Kept w _ (fun k_ => P0_1_ k_) from by repeat (first | (with_reducible first | exact HK.out | apply Kept.alloc | apply Kept.drewN | apply Kept.drew | refine Kept.setCell ?_ (.inr GW180.out) _) | exact HK.out)).1) : w.heap.size ≤ gb181)); have n7_ := Aside0.mk ((by rw [hg]; exact (bsz (by repeat (first | (with_reducible first | exact HB.out | apply bal | apply bdN | apply bd1 | refine bst ?_ GE180.out) | exact HB.out))) : w0.heap.size ≤ gb181)); have n8_ := Aside0.mk ((by rw [hg]; exact Nat.ne_of_lt (blk_lt (g := gb180) (o := .cells #[.int .i64 a0_0, .slice Ao12 l0_1.length co12, .slice A0_2 l0_2.length c0_2] 25 (0, 0)) (by (with_reducible repeat (first | refine kdN ?_ _ | refine kdr ?_ | refine kal ?_ _)); exact BK180.out)) : gb180 ≠ gb181)); have n9_ := Aside0.mk ((by rw [hg]; exact Nat.ne_of_gt (blk_lt (g := gb180) (o := .cells #[.int .i64 a0_0, .slice Ao12 l0_1.length co12, .slice A0_2 l0_2.length c0_2] 25 (0, 0)) (by (with_reducible repeat (first | refine kdN ?_ _ | refine kdr ?_ | refine kal ?_ _)); exact BK180.out)) : gb181 ≠ gb180)); clear HO0_1; clear HO0_2; clear BK180; clear HK; clear HB; have HO0_1 := n0_; have HO0_2 := n1_; have BK180 := n2_; have HK := n3_; have HB := n4_; have BK181 := n5_; have GW181 := n6_; have GE181 := n7_; have NB180_181 := n8_; have NB181_180 := n9_; clear n0_ n1_ n2_ n3_ n4_ n5_ n6_ n7_ n8_ n9_; clear hb hbox hg; have hnb15 := NB180_181.out; have hnc15 := NB181_180.out; obtain ⟨hcz16_0, hcz16_1, hcz16_2, hfz16_0, hfz16_1, hfz16_2⟩ := cf3 BK180.out) | ((with_reducible refine gate_callee (f := 43) rfl ?_); refine goesL_ (some 5) rfl rfl Try.func43 (by kernel_rfl) rfl #[.agg #[.int .i64 a0_0, .slice Ao12 l0_1.length co12, .slice A0_2 l0_2.length c0_2]] rfl (by (try simp only [List.map_toArray, List.map_cons, List.map_nil]); first | done | rfl | (simp only [List.length_drop, List.length_take]; rfl)) ?_; (with_reducible refine (prog_Check.calls k a0_0 _ _ l0_1 _ _ l0_2 t182 _ ?side1 ?side2 ?side3 ?side4 A2.out).mono ?_); (case side1 => repeat (first | exact (Kd.R_reads' HO0_1.out).2.2 | with_reducible first | apply Kd.C_alloc | apply Kd.C_drewN | apply Kd.C_drew)); (case side2 => exact (Kd.R_reads' HO0_1.out).2.1); (case side3 => repeat (first | exact (Kd.V_reads' HO0_2.out).2.2 | with_reducible first | apply Kd.C_alloc | apply Kd.C_drewN | apply Kd.C_drew)); (case side4 => exact (Kd.V_reads' HO0_2.out).2.1); rintro e w17 ⟨rfl, hb⟩; refine ⟨_, rfl, ?_⟩; have n0_ := Aside0.mk (Kd.R_below (by (with_reducible repeat (first | apply Kd.R_alloc | apply Kd.R_drewN | apply Kd.R_drew)); exact HO0_1.out) hb); have n1_ := Aside0.mk (Kd.V_below (by (with_reducible repeat (first | apply Kd.V_alloc | apply Kd.V_drewN | apply Kd.V_drew)); exact HO0_2.out) hb); have n2_ := Aside0.mk (blk_below (g := gb180) (o := .cells #[.int .i64 a0_0, .slice Ao12 l0_1.length co12, .slice A0_2 l0_2.length c0_2] 25 (0, 0)) (by (with_reducible repeat (first | refine kdN ?_ _ | refine kdr ?_ | refine kal ?_ _)); exact BK180.out) hb); have n3_ := Aside0.mk (blk_below (g := gb181) (o := .cells #[.int .i64 0, .slice none 0 0, .slice none 0 0] 25 (0, 0)) (by (with_reducible repeat (first | refine kdN ?_ _ | refine kdr ?_ | refine kal ?_ _)); exact BK181.out) hb); have n4_ := Aside0.mk (Kept.below (S := (fun k_ => P0_1_ k_)) (by repeat (first | (with_reducible first | exact HK.out | apply Kept.alloc | apply Kept.drewN | apply Kept.drew | refine Kept.setCell ?_ (.inr GW180.out) _ | refine Kept.setCell ?_ (.inr GW181.out) _) | exact HK.out)) hb); have n5_ := Aside0.mk (bsp (by repeat (first | (with_reducible first | exact HB.out | apply bal | apply bdN | apply bd1 | refine bst ?_ GE180.out | refine bst ?_ GE181.out) | exact HB.out)) hb); clear HO0_1; clear HO0_2; clear BK180; clear BK181; clear HK; clear HB; have HO0_1 := n0_; have HO0_2 := n1_; have BK180 := n2_; have BK181 := n3_; have HK := n4_; have HB := n5_; clear n0_ n1_ n2_ n3_ n4_ n5_; (try clear hb); (try clear hb2); (try clear hk); (try clear hi); obtain ⟨hcz18_0, hcz18_1, hcz18_2, hfz18_0, hfz18_1, hfz18_2⟩ := cf3 BK181.out))
  refine bodyPost_ret (results_ct rfl _ _ gb181 25 #[.int .i64 0, .slice none 0 0, .slice none 0 0] (0, 0) _ rfl (by (with_reducible repeat (first | refine kdN ?_ _ | refine kdr ?_ | refine kal ?_ _)); refine blk_put (cs := #[.int .i64 0, .slice none 0 0, .slice none 0 0]) ?_ 2 _ rfl; (with_reducible repeat (first | refine kdN ?_ _ | refine kdr ?_ | refine kal ?_ _)); refine blk_put (cs := #[.int .i64 0, .slice none 0 0, .slice none 0 0]) ?_ 1 _ rfl; (with_reducible repeat (first | refine kdN ?_ _ | refine kdr ?_ | refine kal ?_ _)); refine blk_put (cs := #[.int .i64 0, .slice none 0 0, .slice none 0 0]) ?_ 0 _ rfl; (with_reducible repeat (first | refine kdN ?_ _ | refine kdr ?_ | refine kal ?_ _)); exact BK181.out) Try.underlying25 rfl (by kernel_rfl)) rfl ?_
  exact ⟨_, _, by first | rfl | (simp [*] <;> rfl), by first | exact Kd.R_nil _ _ _ _ _ | exact Kd.N_nil _ _ _ _ _ | exact Kd.V_nil _ _ _ _ _ | exact Kd.Q_nil _ _ _ _ _ | exact Kd.S_nil _ _ _ _ _, Kd.N_V (by first | exact Kd.R_nil _ _ _ _ _ | exact Kd.N_nil _ _ _ _ _ | exact Kd.V_nil _ _ _ _ _ | exact Kd.Q_nil _ _ _ _ _ | exact Kd.S_nil _ _ _ _ _ | exact Kd.N_nil _ _ _ 0 _ | exact Kd.R_nil _ _ _ 0 _), by repeat (first | (with_reducible first | exact HB.out | apply bal | apply bdN | apply bd1 | refine bst ?_ GE180.out | refine bst ?_ GE181.out) | exact HB.out), by repeat (first | (with_reducible first | exact HK.out | apply Kept.alloc | apply Kept.drewN | apply Kept.drew | refine Kept.setCell ?_ (.inr GW180.out) _ | refine Kept.setCell ?_ (.inr GW181.out) _) | exact HK.out)⟩
end Go.Proofs.Ytilebfkehmecaaa.Print
namespace Go.Proofs.Ytilebfkehmecaaa.Print
open Go.RowKit Go.Proofs.YtilebfkehmecaaaW.PrintWords Go.Proofs.YtilebfkehmecaaaW.PrintLast Go.Proofs.YtilebfkehmecaaaW.PrintMore
attribute [local go_sem] max2_int min2_int max_two min_two max_three min_three max_four min_four
set_option linter.unusedVariables false
set_option linter.unusedSimpArgs false
open Go.Shelf Go.RowKit
attribute [local go_sem] Oper.semAt_some
def prog_Single.f (k : Nat) (a0_0 : Int) (l0_1 : List S66) (l0_2 : List S64) : Option (Bool × Int) :=
  (prog_Check.f k a0_0 l0_1 l0_2).bind fun t => if t = 0 then (if l0_1.any (fun v => decide (v.f1 > 15)) = true then some (false, 0) else (prog_walk.f k l0_2 0).bind fun its => some (!(its.1.any (fun x => decide (x.2.f0 = 3) && decide (x.2.f1 > 15))), 0)) else some (false, 30)
theorem three_boxes (w : World) (a b c : Obj) : Below w.heap.size w (((w.alloc a).alloc b).alloc c) ∧ (((w.alloc a).alloc b).alloc c).heap[w.heap.size]? = some a ∧ (((w.alloc a).alloc b).alloc c).heap[w.heap.size + 1]? = some b ∧ (((w.alloc a).alloc b).alloc c).heap[w.heap.size + 1 + 1]? = some c := by
  refine ⟨bal (bal (bal (Below.refl _ _) _) _) _, kal (kal (blk_new _ _) _) _, ?_, ?_⟩
  · have := blk_new (w.alloc a) b
    exact kal (by simpa using this) _
  · have := blk_new ((w.alloc a).alloc b) c
    simpa using this
theorem store_pair {W : World} {B C : Nat} {t s : TypeId} {x y : Value} (hne : B ≠ C) (hs : W.heap[B]? = some (.cells #[x] t (0, 0))) (he : W.heap[C]? = some (.cells #[y] s (0, 0))) (u v : Value) {W' : World} (hW : (W.setCell ⟨B, 0, none⟩ u).setCell ⟨C, 0, none⟩ v = W') :
    W'.heap[B]? = some (.cells #[u] t (0, 0)) ∧ W'.heap[C]? = some (.cells #[v] s (0, 0)) ∧ W'.heap.size = W.heap.size ∧ (∀ k, k ≠ B → k ≠ C → W'.heap[k]? = W.heap[k]?) ∧ (∀ n, n ≤ B → n ≤ C → Below n W W') := by
  subst hW
  have h0 := blk_put hs 0 u (cs' := #[u]) rfl
  have k0 := blk_far he (p := ⟨B, 0, none⟩) (Ne.symm hne) u
  exact ⟨blk_far h0 hne v, blk_put k0 0 v rfl, by simp only [size_cell], fun k h1 h2 => by rw [Below.heap_setCell _ _ _ _ h2, Below.heap_setCell _ _ _ _ h1], fun n h1 h2 => (below_cell W u h1).trans (below_cell _ v h2)⟩
theorem results_be {P : Program} {fn : Func} {p q : Tmp} {tB tE : TypeId} (h : fn.results = #[.cell p tB, .cell q tE]) (tmps : Array Value) (w : World) (g g2 : Nat) (b : Bool) (v : Int) (hp : tmps.getD p undef = .pointer (some ⟨g, 0, none⟩)) (hq : tmps.getD q undef = .pointer (some ⟨g2, 0, none⟩))
    (hg : w.heap[g]? = some (.cells #[.bool b] tB (0, 0))) (hg2 : w.heap[g2]? = some (.cells #[.int .i64 v] tE (0, 0))) (hu1 : P.underlying tB = some .bool) (hu2 : P.underlying tE = some (.int .i64)) :
    (results fn tmps).run P w = .ok (.tuple #[.bool b, .int .i64 v]) w := by
  have hp' : tmps[p]?.getD undef = .pointer (some ⟨g, 0, none⟩) := by simpa using hp
  have hq' : tmps[q]?.getD undef = .pointer (some ⟨g2, 0, none⟩) := by simpa using hq
  have hc : w.cell? ⟨g2, 0, none⟩ = some (.int .i64 v) := (blk_cell hg2 0).trans rfl
  have hd : w.cell? ⟨g, 0, none⟩ = some (.bool b) := (blk_cell hg 0).trans rfl
  have hagg : (isAgg tE).run P w = .ok false w := by
    unfold isAgg
    rw [Sem.run_bind, run_underlying hu2 w]
    simp
  have hagg1 : (isAgg tB).run P w = .ok false w := by
    unfold isAgg
    rw [Sem.run_bind, run_underlying hu1 w]
    simp
  have h2 : (loadVar tE ⟨g2, 0, none⟩).run P w = .ok (.int .i64 v) w := by simp [loadVar, Sem.run_bind, hagg, go_sem, hc, Result.andThen]
  have h1 : (loadVar tB ⟨g, 0, none⟩).run P w = .ok (.bool b) w := by simp [loadVar, Sem.run_bind, hagg1, go_sem, hd, Result.andThen]
  generalize hL1 : loadVar tB ⟨g, 0, none⟩ = L1 at h1
  generalize hL2 : loadVar tE ⟨g2, 0, none⟩ = L2 at h2
  simp [results, h, Sem.run_bind, hp', hq', asAddr, Result.andThen, hL1, hL2, h1, h2]
theorem stop_some {α : Type} {p : α → Bool} : ∀ (its pre q : List α), stopAt (fun _ x => !p x) pre its = some q → its.any p = true
  | [], _, _, h => by cases h
  | x :: r, pre, q, h => by
    rw [stopAt] at h
    cases hp : p x with
    | true => simp [hp]
    | false =>
      simp [hp] at h
      obtain ⟨q', hq, _⟩ := h
      simp only [List.any_cons, hp, Bool.false_or]
      exact stop_some r _ q' hq
theorem none_any {α : Type} {p : α → Bool} {its : List α} (h : its.find? p = none) : its.any p = false := by
  rw [List.find?_eq_none] at h
  rw [List.any_eq_false]
  exact h
def narrow (l : List S66) (i : Int) : Prop := ∀ j : Nat, (j : Int) < i → ∀ v, l[j]? = some v → ¬ v.f1 > 15
theorem narrow_all {l : List S66} {i : Int} (h : narrow l i) (hi : ¬ i < (l.length : Int)) : l.any (fun v => decide (v.f1 > 15)) = false := by
  rw [List.any_eq_false]
  intro v hv
  obtain ⟨j, hj, e⟩ := List.mem_iff_getElem.1 hv
  have := h j (by omega) v (by rw [List.getElem?_eq_getElem hj, e])
  simpa using this
theorem wide_any {l : List S66} {i : Int} (h0 : 0 ≤ i) (h1 : i < (l.length : Int)) (h : (rd_T66 l i).f1 > 15) : l.any (fun v => decide (v.f1 > 15)) = true := by
  rw [List.any_eq_true]
  have hj : i.toNat < l.length := by omega
  refine ⟨l[i.toNat], List.getElem_mem hj, ?_⟩
  have e : rd_T66 l i = l[i.toNat] := by simp [rd_T66, List.getD_eq_getElem?_getD, List.getElem?_eq_getElem hj]
  rw [e] at h
  simpa using h
theorem narrow_step {l : List S66} {i : Int} (hn : narrow l i) (h0 : 0 ≤ i) (h : ¬ (rd_T66 l i).f1 > 15) : narrow l (i + 1) := by
  intro j hj v hv
  by_cases he : (j : Int) = i
  · have e : rd_T66 l i = v := by
      have : i.toNat = j := by omega
      simp [rd_T66, List.getD_eq_getElem?_getD, this, hv]
    rw [e] at h
    exact h
  · exact hn j (by omega) v hv
set_option maxHeartbeats 8000000 in
set_option maxRecDepth 100000 in
theorem prog_Single.calls (k : Nat) (a0_0 : Int) (A0_1 : Option Addr) (c0_1 : Nat) (l0_1 : List S66) (A0_2 : Option Addr) (c0_2 : Nat) (l0_2 : List S64) (r1 : Bool) (r2 : Int) (w : World)
    (hr0_1 : Kd.C k66 w A0_1 l0_1.length l0_1) (hc0_1 : l0_1.length ≤ c0_1) (hr0_2 : Kd.C k64 w A0_2 l0_2.length l0_2) (hc0_2 : l0_2.length ≤ c0_2) (h : prog_Single.f k a0_0 l0_1 l0_2 = some (r1, r2)) :
    Calls Try.prog 79 #[.agg #[.int .i64 a0_0, .slice A0_1 l0_1.length c0_1, .slice A0_2 l0_2.length c0_2]] w fun e w' => e = .returned (.tuple #[.bool r1, .int .i64 r2]) ∧ Below w.heap.size w w' := by
  refine callsIn_wide.1 (?_ : CallsIn Fence.wide 9 _ _ _ _ _)
  have huP := Try.underlying25
  have huS := Try.underlying64
  have huV := Try.underlying66
  have huE := Try.underlying32
  have huB := Try.underlying4
  refine callsIn_of_wp_marks Try.func79 rfl trivial ?_ rfl
  simp only [Try.ntmps79, List.size_toArray, List.length_cons, List.length_nil, Nat.reduceAdd, Nat.reduceSub, Array.replicate_succ, Array.replicate_zero, List.push_toArray, List.append_toArray, List.nil_append, List.cons_append]
  unfold prog_Single.f at h
  obtain ⟨tc, AC0, H0⟩ := Option.bind_eq_some_iff.mp h
  clear h
  have HR1 := Aside0.mk hr0_1
  have HC1 := Aside0.mk hc0_1
  have HR2 := Aside0.mk hr0_2
  have HC2 := Aside0.mk hc0_2
  have AC := Aside0.mk AC0
  have H := Aside0.mk H0
  clear hr0_1 hc0_1 hr0_2 hc0_2 AC0 H0
  have FB := three_boxes w (.cells #[.int .i64 a0_0, .slice A0_1 l0_1.length c0_1, .slice A0_2 l0_2.length c0_2] 25) (.cells #[.bool false] 4) (.cells #[.int .i64 0] 32)
  gi_wp2
  generalize (((w.alloc (.cells #[.int .i64 a0_0, .slice A0_1 l0_1.length c0_1, .slice A0_2 l0_2.length c0_2] 25)).alloc (.cells #[.bool false] 4)).alloc (.cells #[.int .i64 0] 32)) = W1 at FB ⊢
  obtain ⟨b1, p1, s1, e1⟩ := FB
  refine ⟨trivial, ?_⟩
  refine (callsIn_wide.2 (prog_Check.calls k a0_0 _ _ l0_1 _ _ l0_2 tc W1 (Kd.C_below HR1.out b1) HC1.out (Kd.C_below HR2.out b1) HC2.out AC.out)).mono ?_
  rintro e W2 ⟨rfl, hb2⟩
  have b2 := b1.trans (hb2.mono b1.size)
  have p2 := (hb2.block _ (blk_lt p1)).trans p1
  have s2 := (hb2.block _ (blk_lt s1)).trans s1
  have e2 := (hb2.block _ (blk_lt e1)).trans e1
  clear p1 s1 e1 hb2 AC b1
  by_cases htc : tc = 0
  case neg =>
    have h := H.out
    rw [if_neg htc] at h
    obtain ⟨rfl, rfl⟩ : r1 = false ∧ r2 = 30 := by
      injection (Option.some.inj h) with e1 e2
      exact ⟨e1.symm, e2.symm⟩
    clear h H
    have g1 : (tc == 0) = false := beq_eq_false_iff_ne.mpr htc
    have g2 : (tc != 0) = true := bne_iff_ne.mpr htc
    have c0 : W2.cell? ⟨w.heap.size + 1, 0, none⟩ = some (.bool false) := (blk_cell s2 0).trans rfl
    have d0 : W2.cell? ⟨w.heap.size + 1 + 1, 0, none⟩ = some (.int .i64 0) := (blk_cell e2 0).trans rfl
    have f0 := blk_frozen s2 0
    have f5 := blk_frozen e2 0
    gi_wp2
    generalize hW : (W2.setCell ⟨w.heap.size + 1, 0, none⟩ (.bool false)).setCell ⟨w.heap.size + 1 + 1, 0, none⟩ (.int .i64 30) = W3
    obtain ⟨t1, t2, _, _, t5⟩ := store_pair (by omega) s2 e2 _ _ hW
    exact ⟨_, results_be rfl _ _ (w.heap.size + 1) (w.heap.size + 1 + 1) false 30 rfl rfl t1 t2 huB huE, rfl, b2.trans (t5 _ (by omega) (by omega))⟩
  case pos =>
    subst htc
    have h := H.out
    rw [if_pos rfl] at h
    have H1 := Aside0.mk h
    clear H h
    obtain ⟨c0, c1, c2⟩ := cells3 p2
    have S2 := Aside0.mk s2
    have E2 := Aside0.mk e2
    have P2 := Aside0.mk p2
    have B2 := Aside0.mk b2
    clear s2 e2 p2 b2
    gi_wp2
    gi_loopw [14] (fun v14 wr => ∃ i : Int, v14 = .int .i64 i ∧ Aside0 (0 ≤ i) ∧ Aside0 (narrow l0_1 i) ∧ Aside0 (Below W2.heap.size W2 wr)) (fun v14 _ => l0_1.length - (intOf v14).toNat)
    case atStart => exact ⟨0, rfl, ⟨Int.le_refl _⟩, ⟨fun j hj => by omega⟩, ⟨Below.refl _ _⟩⟩
    case round =>
      obtain ⟨i, rfl, HI0, HN, HW⟩ := hrel
      clear c0 c1 c2
      have hi0 := HI0.out
      have hl : l0_1.length ≤ 9223372036854775807 := HR1.out.2.1
      have b4 := B2.out.trans (HW.out.mono B2.out.size)
      have s4 := (HW.out.block _ (blk_lt S2.out)).trans S2.out
      have e4 := (HW.out.block _ (blk_lt E2.out)).trans E2.out
      have p4 := (HW.out.block _ (blk_lt P2.out)).trans P2.out
      by_cases hlt : i < (l0_1.length : Int)
      case pos =>
        have hld : decide (i < (l0_1.length : Int)) = true := decide_eq_true hlt
        have hz : decide (0 ≤ i) = true := decide_eq_true hi0
        obtain ⟨ad, eA, q0, q1, q2⟩ := at_T66 HR1.out i hi0 hlt
        cases eA
        replace q0 := (b4.cell (World.block_lt_of_cell? w _ q0)).trans q0
        replace q1 := (b4.cell (World.block_lt_of_cell? w _ q1)).trans q1
        replace q2 := (b4.cell (World.block_lt_of_cell? w _ q2)).trans q2
        by_cases hwd : (rd_T66 l0_1 i).f1 > 15
        case pos =>
          have hwt : decide ((rd_T66 l0_1 i).f1 > 15) = true := decide_eq_true hwd
          have hany := wide_any hi0 hlt hwd
          have h := H1.out
          rw [if_pos hany] at h
          obtain ⟨rfl, rfl⟩ : r1 = false ∧ r2 = 0 := by
            injection (Option.some.inj h) with e1 e2
            exact ⟨e1.symm, e2.symm⟩
          have l1 := blk_lt s4
          have l2 := blk_lt e4
          have c0 : wr.cell? ⟨w.heap.size + 1, 0, none⟩ = some (.bool false) := (blk_cell s4 0).trans rfl
          have d0 : wr.cell? ⟨w.heap.size + 1 + 1, 0, none⟩ = some (.int .i64 0) := (blk_cell e4 0).trans rfl
          have f0 := blk_frozen s4 0
          have f5 := blk_frozen e4 0
          gi_wp2
          generalize hW : (wr.setCell ⟨w.heap.size + 1, 0, none⟩ (.bool false)).setCell ⟨w.heap.size + 1 + 1, 0, none⟩ (.int .i64 0) = W4
          obtain ⟨t1, t2, _, _, t5⟩ := store_pair (by omega) s4 e4 _ _ hW
          exact ⟨_, results_be rfl _ _ (w.heap.size + 1) (w.heap.size + 1 + 1) false 0 rfl rfl (kal t1 _) (kal t2 _) huB huE, rfl, bal (b4.trans (t5 _ (by omega) (by omega))) _⟩
        case neg =>
          have hwt : decide ((rd_T66 l0_1 i).f1 > 15) = false := decide_eq_false hwd
          gi_wp2
          have e1 : intOf (Value.int IntKind.i64 (i + 1)) = i + 1 := rfl
          have e2 : intOf (Value.int IntKind.i64 i) = i := rfl
          refine ⟨⟨i + 1, rfl, ⟨by omega⟩, ⟨narrow_step HN.out hi0 hwd⟩, ⟨bal HW.out _⟩⟩, ?_⟩
          rw [e1, e2]
          omega
      case neg =>
        have hld : decide (i < (l0_1.length : Int)) = false := decide_eq_false hlt
        have hany := narrow_all HN.out hlt
        have h := H1.out
        rw [if_neg (by rw [hany]; simp)] at h
        obtain ⟨⟨its, n'⟩, WK0, h⟩ := Option.bind_eq_some_iff.mp h
        have WK := Aside0.mk WK0
        have PK := Aside0.mk (Option.some.inj h)
        clear h H1 WK0
        obtain ⟨c0, c1, c2⟩ := cells3 p4
        gi_wp2_with (first | (refine ⟨trivial, ?_⟩; refine (callsIn_wide.2 (prog_each.fn _ _ _ wr)).mono ?_; rintro e W3 ⟨rfl, hb3, q3⟩))
        have b3 := b4.trans (hb3.mono b4.size)
        have s3 := (hb3.block _ (blk_lt s4)).trans s4
        have e3 := (hb3.block _ (blk_lt e4)).trans e4
        clear c0 c1 c2 p4 s4 e4
        have hcell : W3.cell? ⟨wr.heap.size, 2, none⟩ = some (.slice A0_2 l0_2.length c0_2) := (blk_cell q3 2).trans rfl
        refine wpIn_rangeBy (gf := 120) (lb := #[.pointer (some ⟨wr.heap.size, 0, none⟩)]) rfl (enters_of Try.func120 (by kernel_rfl) rfl)
          (prog_each.seq W3 wr.heap.size A0_2 c0_2 l0_2 its n' k hcell (Kd.C_below HR2.out b3) HC2.out WK.out) (Below.refl _ _) (by rintro x av ⟨v, rfl, _⟩; rfl)
          (fun _ x => !(decide (x.2.f0 = 3) && decide (x.2.f1 > 15)))
          (fun _ W => Below W3.heap.size W3 W)
          (fun c _ W => c = .ret ∧ W.heap[w.heap.size + 1]? = some (.cells #[.bool false] 4 (0, 0)) ∧ W.heap[w.heap.size + 1 + 1]? = some (.cells #[.int .i64 0] 32 (0, 0)) ∧ Below w.heap.size w W)
          (fun pre A B h hb => h.trans hb) ?hIx (Below.refl _ _) ?round ?done ?stop
        case hIx =>
          rintro c pre A j o o' hj ⟨hc, h1, h2, hb⟩ hA ho
          have ne : ∀ {k : Nat} {cs : Array Value} {t : TypeId}, A.heap[k]? = some (.cells cs t (0, 0)) → k ≠ j := by
            intro k cs t hk e
            subst e
            rw [hA] at hk
            cases hk
            cases ho
          have hS3 := b3.size
          exact ⟨hc, (World.putObj_heap_other (ne h1)).trans h1, (World.putObj_heap_other (ne h2)).trans h2, hb.trans (below_put _ _ _ (by omega))⟩
        case stop =>
          rintro c q W hst ⟨rfl, t1, t2, hb⟩ hD
          have hB3 := blk_lt e3
          have hS3 := b3.size
          have ha := stop_some (p := fun x : Int × S64 => decide (x.2.f0 = 3) && decide (x.2.f1 > 15)) _ _ _ hst
          obtain ⟨rfl, rfl⟩ : r1 = false ∧ r2 = 0 := by
            injection PK.out with e1 e2
            exact ⟨by rw [← e1]; simp [ha], e2.symm⟩
          gi_wp2
          refine ⟨by simp, .inl ⟨_, _, rfl, run_takeDeferred hD, ?_⟩⟩
          exact ⟨_, results_be rfl _ _ (w.heap.size + 1) (w.heap.size + 1 + 1) false 0 rfl rfl ((World.putObj_heap_other (by omega)).trans t1) ((World.putObj_heap_other (by omega)).trans t2) huB huE, rfl, hb.trans (below_put _ _ _ hS3)⟩
        case done =>
          rintro W hst hbW _ hD
          have ha := none_any (stop_none (p := fun x : Int × S64 => decide (x.2.f0 = 3) && decide (x.2.f1 > 15)) _ _ hst)
          obtain ⟨rfl, rfl⟩ : r1 = true ∧ r2 = 0 := by
            injection PK.out with e1 e2
            exact ⟨by rw [← e1]; simp [ha], e2.symm⟩
          have hB3 := blk_lt e3
          have hS3 := b3.size
          have s4 := (hbW.block _ (blk_lt s3)).trans s3
          have e4 := (hbW.block _ (blk_lt e3)).trans e3
          have c0 : W.cell? ⟨w.heap.size + 1, 0, none⟩ = some (.bool false) := (blk_cell s4 0).trans rfl
          have d0 : W.cell? ⟨w.heap.size + 1 + 1, 0, none⟩ = some (.int .i64 0) := (blk_cell e4 0).trans rfl
          have f0 := blk_frozen s4 0
          have f5 := blk_frozen e4 0
          gi_wp2
          generalize hW : (W.setCell ⟨w.heap.size + 1, 0, none⟩ (.bool true)).setCell ⟨w.heap.size + 1 + 1, 0, none⟩ (.int .i64 0) = W6
          obtain ⟨t1, t2, _, t4, t5⟩ := store_pair (by omega) s4 e4 _ _ hW
          refine ⟨by simp, .inl ⟨_, _, rfl, run_takeDeferred ((t4 _ (by omega) (by omega)).trans hD), ?_⟩⟩
          exact ⟨_, results_be rfl _ _ (w.heap.size + 1) (w.heap.size + 1 + 1) true 0 rfl rfl ((World.putObj_heap_other (by omega)).trans t1) ((World.putObj_heap_other (by omega)).trans t2) huB huE, rfl, b3.trans ((hbW.mono hS3).trans ((t5 _ (by omega) (by omega)).trans (below_put _ _ _ hS3)))⟩
        case round =>
          rintro l pre x av W hbW ⟨v, rfl, hv⟩ hpre _ hsz
          obtain ⟨A2, z2, A3, z3, A4, z4, rfl, ql2, qr2, ql3, qr3, ql4, qr4⟩ := hv
          gi_wp2
          refine ⟨World.grownBy_alloc _ _ _, ?_⟩
          intro W4 hg4 hs4 hi4 hb4
          have x4 : W4.heap[W.heap.size]? = some (.cells #[.int .i64 x.2.f0, .int .i64 x.2.f1, .slice A2 x.2.f2.length z2, .slice A3 x.2.f3.length z3, .slice A4 x.2.f4.length z4] 64 (0, 0)) :=
            (hg4.block W.heap.size (by simp) (by intro e; injection e with e; omega)).trans (heap_alloc_new _ _)
          have hB3 := blk_lt e3
          have hS3 := b3.size
          have s4 := (hi4.block _ (blk_lt s3)).trans s3
          have e4 := (hi4.block _ (blk_lt e3)).trans e3
          obtain ⟨m0, m1, m2, m3, m4⟩ := cells5 x4
          have hsW : W4.heap.size = W.heap.size + 1 := by rw [hs4]; simp
          have c0 : W4.cell? ⟨w.heap.size + 1, 0, none⟩ = some (.bool false) := (blk_cell s4 0).trans rfl
          have d0 : W4.cell? ⟨w.heap.size + 1 + 1, 0, none⟩ = some (.int .i64 0) := (blk_cell e4 0).trans rfl
          have f0 := blk_frozen s4 0
          have f5 := blk_frozen e4 0
          by_cases h3 : x.2.f0 = 3
          case neg =>
            have h3d : decide (x.2.f0 = 3) = false := decide_eq_false h3
            have h3b : (x.2.f0 == 3) = false := beq_eq_false_iff_ne.mpr h3
            gi_wp2
            exact ⟨by simp [h3d], Nat.le_refl _, fun k _ _ => rfl, hb4, hi4⟩
          case pos =>
            have h3d : decide (x.2.f0 = 3) = true := decide_eq_true h3
            have h3b : (x.2.f0 == 3) = true := beq_iff_eq.mpr h3
            by_cases h5 : x.2.f1 > 15
            case neg =>
              have h5d : decide (x.2.f1 > 15) = false := decide_eq_false h5
              gi_wp2
              exact ⟨by simp [h3d, h5d], Nat.le_refl _, fun k _ _ => rfl, hb4, hi4⟩
            case pos =>
              have h5d : decide (x.2.f1 > 15) = true := decide_eq_true h5
              gi_wp2
              generalize hW : (W4.setCell ⟨w.heap.size + 1, 0, none⟩ (.bool false)).setCell ⟨w.heap.size + 1 + 1, 0, none⟩ (.int .i64 0) = W6
              obtain ⟨t1, t2, _, t4, t5⟩ := store_pair (by omega) s4 e4 _ _ hW
              exact ⟨by simp [h3d, h5d], fun k h1 h2 => t4 k (by omega) (by omega), rfl, t1, t2, b3.trans ((hi4.mono hS3).trans (t5 _ (by omega) (by omega)))⟩
end Go.Proofs.Ytilebfkehmecaaa.Print
