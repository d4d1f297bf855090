/- For every program, list of stores and expression the law ProdValues returns true, and what came in reads as before. No condition. -/
import Derived.Test.YtilebfkehmecaaaU4
import Derived.Deep.DeepCutAuto
import Derived.Deep.DeepMust
import Derived.Laws.CopyOwn
import Derived.Laws.CopyRow
import Derived.Laws.EntriesVeiled
import Derived.Laws.MakeOwn
import Derived.Orders
import Derived.OrdersHeld
import Derived.Shelf.Abstract
import Derived.Shelf.RegionOpen
import Derived.WalkKit
import Derived.WalkSpells
set_option maxRecDepth 100000
set_option maxHeartbeats 16000000
namespace Go.Proofs.Ytilebfkehmecaaa.Print
open Go.RowKit Go.Proofs.YtilebfkehmecaaaW.PrintWords Go.Proofs.YtilebfkehmecaaaW.PrintLast Go.Proofs.YtilebfkehmecaaaW.PrintMore
attribute [local go_sem] max2_int min2_int max_two min_two max_three min_three max_four min_four
set_option linter.unusedVariables false
set_option linter.unusedSimpArgs false
open Go.Shelf Go.RowKit
attribute [local go_sem] Oper.semAt_some
mutual
def mvE (g : Int → Option Int) : S28 → Option S28
  | ⟨op, n, c, l⟩ => if op = 1 then (g c).bind fun r => (mvEs g l).bind fun l' => some ⟨op, wrap64 (n + r), 0, l'⟩ else (mvEs g l).bind fun l' => some ⟨op, n, c, l'⟩
def mvEs (g : Int → Option Int) : List S28 → Option (List S28)
  | [] => some []
  | x :: r => (mvE g x).bind fun y => (mvEs g r).bind fun s => if r.length < 1000000 then some (y :: s) else none
end
theorem mvEs_get {g : Int → Option Int} : ∀ {l l' : List S28}, mvEs g l = some l' → l'.length = l.length ∧ l.length ≤ 1000000 ∧ ∀ (j : Nat) (x : S28), l[j]? = some x → ∃ y, mvE g x = some y ∧ l'[j]? = some y
  | [], l', h => by
    rw [mvEs] at h
    obtain rfl := Option.some.inj h
    exact ⟨rfl, by simp, fun j x hj => by simp at hj⟩
  | x :: r, l', h => by
    rw [mvEs] at h
    obtain ⟨y, h1, h⟩ := Option.bind_eq_some_iff.mp h
    obtain ⟨s, h2, h⟩ := Option.bind_eq_some_iff.mp h
    obtain ⟨e1, e2, e3⟩ := mvEs_get h2
    by_cases hl : r.length < 1000000
    · rw [if_pos hl] at h
      obtain rfl := Option.some.inj h
      refine ⟨by simp [e1], by simp; omega, fun j z hj => ?_⟩
      cases j with
      | zero => obtain rfl : x = z := by simpa using hj
                exact ⟨y, h1, rfl⟩
      | succ j => exact e3 j z (by simpa using hj)
    · rw [if_neg hl] at h; cases h
theorem tree_ind {P : S28 → Prop} (node : ∀ a b c l, (∀ x ∈ l, P x) → P ⟨a, b, c, l⟩) : ∀ x, P x :=
  fun x => S28.rec (motive_1 := P) (motive_2 := fun l => ∀ x ∈ l, P x) node (fun _ h => by simp at h) (fun x r h1 h2 y hy => by rcases List.mem_cons.1 hy with rfl | h; exact h1; exact h2 y h) x
def FnAt (w : World) (v : Value) (g : Int → Option Int) : Prop := ∃ gf lb, v = .func (.func gf) #[] lb ∧ (∀ args w, (callFunc gf args).run Try.prog w = .ok (.enter gf args) w) ∧
  ∀ W n r, Below w.heap.size w W → g n = some r → Calls Try.prog gf (#[.int .i64 n] ++ lb) W fun e W' => e = .returned (.int .i64 r) ∧ Below W.heap.size W W'
theorem FnAt.below {w w1 : World} {v : Value} {g : Int → Option Int} (h : FnAt w v g) (hb : Below w.heap.size w w1) : FnAt w1 v g := by
  obtain ⟨gf, lb, e1, e2, h⟩ := h
  exact ⟨gf, lb, e1, e2, fun W n r hW hg => h W n r (hb.trans (hW.mono hb.size)) hg⟩
def MvAt (w : World) (b : Nat) (g : Int → Option Int) : Prop := ∃ v, FnAt w v g ∧ w.heap[b]? = some (.cells #[v] 80 (0, 0)) ∧ w.heap[b + 1]? = some (.cells #[.func (.func 83) #[] #[.pointer (some ⟨b, 0, none⟩), .pointer (some ⟨b + 1, 0, none⟩)]] 78 (0, 0))
theorem MvAt.below {w w1 : World} {b : Nat} {g : Int → Option Int} (h : MvAt w b g) (hb : Below w.heap.size w w1) : MvAt w1 b g := by
  obtain ⟨v, h1, h2, h3⟩ := h
  exact ⟨v, h1.below hb, (hb.block _ (blk_lt h2)).trans h2, (hb.block _ (blk_lt h3)).trans h3⟩
theorem prod_moving.fn (v : Value) (g : Int → Option Int) (w : World) (h : FnAt w v g) :
    Calls Try.prog 48 #[v] w fun e w' => e = .returned (.func (.func 83) #[] #[.pointer (some ⟨w.heap.size, 0, none⟩), .pointer (some ⟨w.heap.size + 1, 0, none⟩)]) ∧ MvAt w' w.heap.size g ∧ Below w.heap.size w w' := by
  obtain ⟨gf, lb, rfl, e2, h⟩ := h
  have q0 : ((w.alloc (.cells #[.func (.func gf) #[] lb] 80)).alloc (.cells #[.func (.func 83) #[] #[.pointer (some ⟨w.heap.size, 0, none⟩), .pointer (some ⟨w.heap.size + 1, 0, none⟩)]] 78)).heap[w.heap.size]? = some (.cells #[.func (.func gf) #[] lb] 80 (0, 0)) := kal (blk_new _ _) _
  have q1 : ((w.alloc (.cells #[.func (.func gf) #[] lb] 80)).alloc (.cells #[.func (.func 83) #[] #[.pointer (some ⟨w.heap.size, 0, none⟩), .pointer (some ⟨w.heap.size + 1, 0, none⟩)]] 78)).heap[w.heap.size + 1]? = some (.cells #[.func (.func 83) #[] #[.pointer (some ⟨w.heap.size, 0, none⟩), .pointer (some ⟨w.heap.size + 1, 0, none⟩)]] 78 (0, 0)) := by
    have := blk_new (w.alloc (.cells #[.func (.func gf) #[] lb] 80)) (.cells #[.func (.func 83) #[] #[.pointer (some ⟨w.heap.size, 0, none⟩), .pointer (some ⟨w.heap.size + 1, 0, none⟩)]] 78)
    simpa using this
  have hb : Below w.heap.size w ((w.alloc (.cells #[.func (.func gf) #[] lb] 80)).alloc (.cells #[.func (.func 83) #[] #[.pointer (some ⟨w.heap.size, 0, none⟩), .pointer (some ⟨w.heap.size + 1, 0, none⟩)]] 78)) := bal (bal (Below.refl _ _) _) _
  go_enter Try.func48, Try.ntmps48
  go_wp2
  go_ret
  exact ⟨rfl, ⟨_, FnAt.below ⟨gf, lb, rfl, e2, h⟩ hb, q0, q1⟩, hb⟩
theorem mv_take {l' : List S28} {i : Nat} {y : S28} (h : l'[i]? = some y) : l'.take (i + 1) = l'.take i ++ [y] := by
  rw [List.take_add_one, h]; rfl
theorem mv_stores {W : World} {B : Nat} (hz : W.heap[B + 1]? = some (.cells #[.int .i64 0, .int .i64 0, .int .i64 0, .slice none 0 0] 28 (0, 0))) (u a b c : Value) :
    (((((W.setCell ⟨B, 3, none⟩ u).setCell ⟨B + 1, 0, none⟩ a).setCell ⟨B + 1, 1, none⟩ b).setCell ⟨B + 1, 2, none⟩ c).setCell ⟨B + 1, 3, none⟩ u).heap[B + 1]? = some (.cells #[a, b, c, u] 28 (0, 0)) ∧
    (∀ k, B + 2 ≤ k → (((((W.setCell ⟨B, 3, none⟩ u).setCell ⟨B + 1, 0, none⟩ a).setCell ⟨B + 1, 1, none⟩ b).setCell ⟨B + 1, 2, none⟩ c).setCell ⟨B + 1, 3, none⟩ u).heap[k]? = W.heap[k]?) ∧
    Below B W (((((W.setCell ⟨B, 3, none⟩ u).setCell ⟨B + 1, 0, none⟩ a).setCell ⟨B + 1, 1, none⟩ b).setCell ⟨B + 1, 2, none⟩ c).setCell ⟨B + 1, 3, none⟩ u) := by
  have h0 := blk_far hz (p := ⟨B, 3, none⟩) (by simp) u
  have h1 := blk_put h0 0 a (cs' := #[a, .int .i64 0, .int .i64 0, .slice none 0 0]) rfl
  have h2 := blk_put h1 1 b (cs' := #[a, b, .int .i64 0, .slice none 0 0]) rfl
  have h3 := blk_put h2 2 c (cs' := #[a, b, c, .slice none 0 0]) rfl
  refine ⟨blk_put h3 3 u (cs' := #[a, b, c, u]) rfl, fun k hk => ?_, ?_⟩
  · rw [Below.heap_setCell _ _ _ _ (by simp; omega), Below.heap_setCell _ _ _ _ (by simp; omega), Below.heap_setCell _ _ _ _ (by simp; omega), Below.heap_setCell _ _ _ _ (by simp; omega), Below.heap_setCell _ _ _ _ (by simp; omega)]
  · exact ((((below_cell _ _ (Nat.le_refl _)).trans (below_cell _ _ (by omega))).trans (below_cell _ _ (by omega))).trans (below_cell _ _ (by omega))).trans (below_cell _ _ (by omega))
theorem prod_moving1.calls (g : Int → Option Int) : ∀ (e e1 : S28) (A : Option Addr) (c b : Nat) (w : World), mvE g e = some e1 → MvAt w b g → Kd.C k28 w A e.f3.length e.f3 → e.f3.length ≤ c →
    Calls Try.prog 83 #[.agg #[.int .i64 e.f0, .int .i64 e.f1, .int .i64 e.f2, .slice A e.f3.length c], .pointer (some ⟨b, 0, none⟩), .pointer (some ⟨b + 1, 0, none⟩)] w fun en w' =>
      ∃ v : Value, en = .returned (.agg #[.int .i64 e1.f0, .int .i64 e1.f1, .int .i64 e1.f2, v]) ∧ Kd.R k28 28 w' w.heap.size (fun _ => True) v e1.f3 ∧ Below w.heap.size w w' := by
  refine tree_ind fun op n cp l ih => ?_
  intro e1 A c b w h hm hr hc
  have huE := Try.underlying28
  rw [mvE] at h
  have HR := Aside0.mk hr
  have HC := Aside0.mk hc
  have HM := Aside0.mk hm
  have IH := Aside0.mk ih
  have H := Aside0.mk h
  clear hr hc hm ih h
  obtain ⟨fv, hf, hm1, hm2⟩ := HM.out
  obtain ⟨gf, lb, rfl, en, hg⟩ := hf
  have l1 := blk_lt hm1
  have l2 := blk_lt hm2
  obtain ⟨W0, hW0⟩ : ∃ W0, ((w.alloc (.cells #[.int .i64 op, .int .i64 n, .int .i64 cp, .slice A l.length c] 28)).alloc (.cells #[.int .i64 0, .int .i64 0, .int .i64 0, .slice none 0 0] 28)) = W0 := ⟨_, rfl⟩
  have b0 : Below w.heap.size w W0 := by rw [← hW0]; exact bal (bal (Below.refl _ _) _) _
  have s0 : W0.heap.size = w.heap.size + 1 + 1 := by rw [← hW0]; simp
  have p0 : W0.heap[w.heap.size]? = some (.cells #[.int .i64 op, .int .i64 n, .int .i64 cp, .slice A l.length c] 28 (0, 0)) := by rw [← hW0]; exact kal (blk_new _ _) _
  have z0 : W0.heap[w.heap.size + 1]? = some (.cells #[.int .i64 0, .int .i64 0, .int .i64 0, .slice none 0 0] 28 (0, 0)) := by
    rw [← hW0]
    have := blk_new (w.alloc (.cells #[.int .i64 op, .int .i64 n, .int .i64 cp, .slice A l.length c] 28)) (.cells #[.int .i64 0, .int .i64 0, .int .i64 0, .slice none 0 0] 28)
    simpa using this
  have c0 : W0.cell? ⟨w.heap.size, 0, none⟩ = some (.int .i64 op) := (blk_cell p0 0).trans rfl
  have c1 : W0.cell? ⟨w.heap.size, 1, none⟩ = some (.int .i64 n) := (blk_cell p0 1).trans rfl
  have c2 : W0.cell? ⟨w.heap.size, 2, none⟩ = some (.int .i64 cp) := (blk_cell p0 2).trans rfl
  have c3 : W0.cell? ⟨w.heap.size, 3, none⟩ = some (.slice A l.length c) := (blk_cell p0 3).trans rfl
  have m0 : W0.cell? ⟨b, 0, none⟩ = some (.func (.func gf) #[] lb) := (blk_cell ((b0.block _ l1).trans hm1) 0).trans rfl
  go_enter Try.func83, Try.ntmps83
  go_upto_if 10 with (fail)
  (try simp only [Act.put, List.setIfInBounds_toArray, List.set_cons_zero, List.set_cons_succ])
  go_cut [] (fun wc => ∃ (n2 c2 : Int) (l' : List S28), Aside0 (e1 = ⟨op, n2, c2, l'⟩) ∧ Aside0 (mvEs g l = some l') ∧ Aside0 (wc.heap[w.heap.size]? = some (.cells #[.int .i64 op, .int .i64 n2, .int .i64 c2, .slice A l.length c] 28 (0, 0))) ∧ Aside0 (wc.heap[w.heap.size + 1]? = some (.cells #[.int .i64 0, .int .i64 0, .int .i64 0, .slice none 0 0] 28 (0, 0))) ∧ Aside0 (Below w.heap.size w wc) ∧ Aside0 (w.heap.size + 2 ≤ wc.heap.size))
  case first =>
    by_cases hop : op = 1
    · have hq : (op == 1) = true := beq_iff_eq.mpr hop
      have h := H.out
      rw [if_pos hop] at h
      obtain ⟨r, hgr, h⟩ := Option.bind_eq_some_iff.mp h
      obtain ⟨l', hl', h⟩ := Option.bind_eq_some_iff.mp h
      have he := Aside0.mk (Option.some.inj h).symm
      have HL := Aside0.mk hl'
      clear h H hl' hop
      have p1 : W0.drew.heap[w.heap.size]? = some (.cells #[.int .i64 op, .int .i64 n, .int .i64 cp, .slice A l.length c] 28 (0, 0)) := kdr p0
      have z1 : W0.drew.heap[w.heap.size + 1]? = some (.cells #[.int .i64 0, .int .i64 0, .int .i64 0, .slice none 0 0] 28 (0, 0)) := kdr z0
      have b1 : Below w.heap.size w W0.drew := below_drew b0
      go_wp2
      refine start_ (n := 9) (S := fun w' => w'.cell? ⟨w.heap.size, 1, none⟩ = some (.int .i64 n) ∧ w'.cell? ⟨w.heap.size, 2, none⟩ = some (.int .i64 cp) ∧ w'.cell? ⟨b, 0, none⟩ = some (.func (.func gf) #[] lb)) (ds := [8]) #[false, false, false, false, false, false, false, false, false] (by kernel_rfl) rfl rfl ⟨c1, c2, m0⟩ (fun hHeld => ?_)
      generalize W0.drew = W1 at p1 z1 b1 hHeld ⊢
      refine pu (i := 0) (N := some 11) (bl 9 1) rfl rfl (by kernel_rfl) ?_
      refine tk (i := 1) (N := some 12) (bl 9 3) rfl rfl (by kernel_rfl) hHeld ?_
      refine tk (i := 2) (N := some 13) (bl 9 7) rfl rfl (by kernel_rfl) hHeld ?_
      refine pu (i := 3) (N := some 14) (bl 9 15) rfl rfl (by kernel_rfl) ?_
      refine tk (i := 4) (N := some 15) (bl 9 31) rfl rfl (by kernel_rfl) hHeld ?_
      refine one_ (i := 5) (N := (some 16)) (bl 9 63) rfl rfl (by kernel_rfl) (by decide) (fun K hK => ?_)
      refine call_ gf (#[.int .i64 cp] ++ lb) (by rfl) rfl ?run ?_
      case run =>
        unfold execOp
        simp [resolve, Deferred.ofValue, invoke, Act.eval, en]
      refine (hg W1 cp r b1 hgr).mono ?_
      rintro e W2 ⟨rfl, b2⟩
      have p2 := blk_below p1 b2
      have z2 := blk_below z1 b2
      have bb := b1.trans (b2.mono b1.size)
      refine ⟨_, rfl, ?_⟩
      refine hK.out _ _ ⟨(blk_cell p2 1).trans rfl, (blk_cell p2 2).trans rfl, (blk_cell ((bb.block _ l1).trans hm1) 0).trans rfl⟩ (fun hHeld => ?_)
      clear hK K
      refine nm 16 ?_
      refine pu (i := 6) (N := some 17) (bl 9 127) rfl rfl (by kernel_rfl) ?_
      refine pu (i := 7) (N := some 18) (bl 9 255) rfl rfl (by kernel_rfl) ?_
      refine last_ (i := 8) (N := none) (bl 9 511) rfl rfl (by kernel_rfl) (by decide) (fun K hK => ?_)
      have q1 : W2.cell? ⟨w.heap.size, 1, none⟩ = some (.int .i64 n) := (blk_cell p2 1).trans rfl
      have q2 : W2.frozen? ⟨w.heap.size, 1, none⟩ = false := blk_frozen p2 1
      refine skip_ (w1 := W2.setCell ⟨w.heap.size, 1, none⟩ (.int .i64 (wrap64 (n + r)))) (by rfl) rfl ?st ?_
      case st =>
        go_simp
      refine hK.out _ _ ?_
      clear hK K
      refine done_ (by kernel_rfl) ?_
      have p3 := blk_put p2 1 (.int .i64 (wrap64 (n + r))) (cs' := #[.int .i64 op, .int .i64 (wrap64 (n + r)), .int .i64 cp, .slice A l.length c]) rfl
      have z3 := blk_far z2 (p := ⟨w.heap.size, 1, none⟩) (by simp) (.int .i64 (wrap64 (n + r)))
      have b3 := bb.trans (below_cell W2 (B := w.heap.size) (i := 1) (.int .i64 (wrap64 (n + r))) (Nat.le_refl _))
      generalize W2.setCell ⟨w.heap.size, 1, none⟩ (.int .i64 (wrap64 (n + r))) = W3 at p3 z3 b3 ⊢
      have x0 : W3.cell? ⟨w.heap.size, 2, none⟩ = some (.int .i64 cp) := (blk_cell p3 2).trans rfl
      have x1 : W3.frozen? ⟨w.heap.size, 2, none⟩ = false := blk_frozen p3 2
      go_wp2
      go_meet
      case rel =>
        refine ⟨_, _, l', he, HL, ⟨blk_put p3 2 (.int .i64 0) (cs' := #[.int .i64 op, .int .i64 (wrap64 (n + r)), .int .i64 0, .slice A l.length c]) rfl⟩, ⟨blk_far z3 (p := ⟨w.heap.size, 2, none⟩) (by simp) _⟩, ⟨b3.trans (below_cell _ _ (Nat.le_refl _))⟩, ⟨?_⟩⟩
        rw [size_cell]
        have := blk_lt z3
        omega
    · have hq : (op == 1) = false := beq_eq_false_iff_ne.mpr hop
      have h := H.out
      rw [if_neg hop] at h
      obtain ⟨l', hl', h⟩ := Option.bind_eq_some_iff.mp h
      have he := Aside0.mk (Option.some.inj h).symm
      go_wp2
      go_meet
      case rel => exact ⟨_, _, l', he, ⟨hl'⟩, ⟨p0⟩, ⟨z0⟩, ⟨b0⟩, ⟨by omega⟩⟩
  case rest =>
    clear c0 c1 c2 c3 m0 p0 z0 s0 b0 hW0 H
    obtain ⟨n2, c2, l', he, HL, PB, ZB, BB, SB⟩ := hcut
    have HR := Aside0.mk (show Kd.C k28 w A l.length l from HR.out)
    have HC := Aside0.mk (show l.length ≤ c from HC.out)
    obtain ⟨hll, hl6, hget⟩ := mvEs_get HL.out
    have GET := Aside0.mk hget
    clear hget HL
    have x3 : wc.cell? ⟨w.heap.size, 3, none⟩ = some (.slice A l.length c) := (blk_cell PB.out 3).trans rfl
    go_wp2
    clear x3
    go_loopg [5, 23] l.length (fun kq v5 v23 X => ∃ (i : Nat) (A5 : Option Addr) (c5 : Nat), v23 = .int .i64 (i : Int) ∧ v5 = .slice A5 i c5 ∧ Aside0 (i + kq = l.length) ∧ Aside0 (Kd.R k28 28 X (w.heap.size + 2) (fun _ => True) (.slice A5 i c5) (l'.take i)) ∧ Aside0 (X.heap[w.heap.size]? = some (.cells #[.int .i64 op, .int .i64 n2, .int .i64 c2, .slice A l.length c] 28 (0, 0))) ∧ Aside0 (X.heap[w.heap.size + 1]? = some (.cells #[.int .i64 0, .int .i64 0, .int .i64 0, .slice none 0 0] 28 (0, 0))) ∧ Aside0 (Below w.heap.size w X) ∧ Aside0 (w.heap.size + 2 ≤ X.heap.size))
    case atStart => exact ⟨0, none, 0, rfl, rfl, ⟨by omega⟩, ⟨Kd.R_nil _ _ _ _ _⟩, PB, ZB, BB, SB⟩
    case round =>
      clear PB ZB BB SB
      obtain ⟨i, A5, c5, rfl, rfl, HI, HO, PB, ZB, BB, SB⟩ := hrel
      cases gk with
      | zero =>
        have hi : i = l.length := by have := HI.out; omega
        subst hi
        have hd : decide ((l.length : Int) < (l.length : Int)) = false := decide_eq_false (by omega)
        have o1 : Kd.R k28 28 wr (w.heap.size + 2) (fun _ => True) (.slice A5 l.length c5) l' := by
          have := HO.out
          rwa [List.take_of_length_le (by omega)] at this
        have x0 : wr.cell? ⟨w.heap.size, 0, none⟩ = some (.int .i64 op) := (blk_cell PB.out 0).trans rfl
        have x1 : wr.cell? ⟨w.heap.size, 1, none⟩ = some (.int .i64 n2) := (blk_cell PB.out 1).trans rfl
        have x2 : wr.cell? ⟨w.heap.size, 2, none⟩ = some (.int .i64 c2) := (blk_cell PB.out 2).trans rfl
        have x3 : wr.cell? ⟨w.heap.size, 3, none⟩ = some (.slice A l.length c) := (blk_cell PB.out 3).trans rfl
        have x4 := blk_frozen PB.out 3
        have y0 : wr.cell? ⟨w.heap.size + 1, 0, none⟩ = some (.int .i64 0) := (blk_cell ZB.out 0).trans rfl
        have y1 : wr.cell? ⟨w.heap.size + 1, 1, none⟩ = some (.int .i64 0) := (blk_cell ZB.out 1).trans rfl
        have y2 : wr.cell? ⟨w.heap.size + 1, 2, none⟩ = some (.int .i64 0) := (blk_cell ZB.out 2).trans rfl
        have y3 : wr.cell? ⟨w.heap.size + 1, 3, none⟩ = some (.slice none 0 0) := (blk_cell ZB.out 3).trans rfl
        have y4 := blk_frozen ZB.out 0
        have y5 := blk_frozen ZB.out 1
        have y6 := blk_frozen ZB.out 2
        have y7 := blk_frozen ZB.out 3
        go_wp2
        obtain ⟨zc, zk, zb⟩ := mv_stores (W := wr) (B := w.heap.size) ZB.out (.slice A5 l.length c5) (.int .i64 op) (.int .i64 n2) (.int .i64 c2)
        refine bodyPost_ret (results_cell_row rfl _ _ (w.heap.size + 1) 28 #[.int .i64 op, .int .i64 n2, .int .i64 c2, .slice A5 l.length c5] (0, 0) _ rfl zc huE rfl (by kernel_rfl)) rfl ?_
        rw [he.out]
        exact ⟨_, rfl, Kd.R_lower (Kd.R_mono (Kd.R_step (Kd.R_bound o1) (fun k hk _ => zk k hk.2.1)) (fun _ hk => trivial)) (by omega), BB.out.trans zb⟩
      | succ k1 =>
        have hi : i < l.length := by have := HI.out; omega
        have hd : decide ((i : Int) < (l.length : Int)) = true := decide_eq_true (by omega)
        obtain ⟨ad, A3, c3, e3, q0, q1, q2, q3, ql3, qr3⟩ := at_T28 HR.out (i : Int) (by omega) (by omega)
        subst e3
        have hxi : l[i]? = some (rd_T28 l (i : Int)) := by unfold rd_T28; rw [Int.toNat_natCast, List.getD_eq_getElem?_getD, List.getElem?_eq_getElem hi]; rfl
        generalize rd_T28 l (i : Int) = x at q0 q1 q2 q3 ql3 qr3 hxi
        obtain ⟨y, hy, hyi⟩ := GET.out i x hxi
        have hxm : x ∈ l := List.mem_of_getElem? hxi
        replace q0 := (BB.out.cell (World.block_lt_of_cell? w _ q0)).trans q0
        replace q1 := (BB.out.cell (World.block_lt_of_cell? w _ q1)).trans q1
        replace q2 := (BB.out.cell (World.block_lt_of_cell? w _ q2)).trans q2
        replace q3 := (BB.out.cell (World.block_lt_of_cell? w _ q3)).trans q3
        simp only [Int.toNat_natCast] at q0 q1 q2 q3
        have m1 : wr.cell? ⟨b + 1, 0, none⟩ = some (.func (.func 83) #[] #[.pointer (some ⟨b, 0, none⟩), .pointer (some ⟨b + 1, 0, none⟩)]) := (blk_cell ((BB.out.block _ l2).trans hm2) 0).trans rfl
        have l3 : b + 1 < wr.heap.size := Nat.lt_of_lt_of_le l2 BB.out.size
        have hw1 : IntKind.i64.wrap ((i : Int) + 1) = (i : Int) + 1 := by rw [i64_w]; unfold wrap64; omega
        have W1B := bal (Below.refl wr.heap.size wr) (.cells #[.int .i64 x.f0, .int .i64 x.f1, .int .i64 x.f2, .slice A3 x.f3.length c3] 28)
        have hSB := SB.out
        have hob := Kd.R_base HO.out
        have hol := Kd.R_lt HO.out
        have htk : (l'.take i).length = i := by rw [List.length_take]; omega
        go_wp2_with (first | (go_at_call 83; refine (IH.out x hxm y A3 c3 b _ hy ((HM.out.below BB.out).below W1B) (Kd.C_below (Kd.C_below qr3 BB.out) W1B) ql3).mono ?_; rintro e W2 ⟨v, rfl, o2, hb2⟩) | ((with_reducible refine gate_builtin (b := .append) (xs := #[.tmp 27, .tmp 31]) rfl ?_); at_builtin; refine Kd.R_append k28 (w0 := wr) (W := W2) (w.heap.size + 2) rfl (.tmp 27) (.tmp 31) 26 28 (.agg #[(.int .i64 0), (.int .i64 0), (.int .i64 0), (.slice none 0 0)]) 48 rfl Try.underlying26 info28 rfl (by decide) (by omega) (.slice A5 i c5) (l'.take i) y [.int .i64 y.f0, .int .i64 y.f1, .int .i64 y.f2, v] (fun _ => True) (fun k => wr.heap.size ≤ k) rfl rfl ?aP ?aK (fun _ _ => trivial) ?aO ?aB ?aS ?aL ?_; (case aP => exact k28_mkM _ _ _ y (Kd.R_lower (Kd.R_mono (Kd.R_bound o2) (fun k hk => Nat.le_trans W1B.size hk.2.1)) (Nat.le_trans hSB W1B.size))); (case aK => exact fun k hk => ⟨trivial, fun e => by have h9 := hol _ e.symm; omega⟩); (case aO => exact Kd.R_below (Kd.R_below HO.out W1B) hb2); (case aB => exact (W1B.trans (hb2.mono W1B.size)).mono hSB); (case aS => exact Nat.le_trans hSB (Nat.le_trans W1B.size hb2.size)); (case aL => rw [htk]; omega); intro v1 W3 o3 b3 g3 t3))
        obtain ⟨A6, c6, e6⟩ := Kd.R_slice o3
        subst e6
        have hWW := W1B.trans (hb2.mono W1B.size)
        have hne : ∀ k, k < w.heap.size + 2 → some k ≠ (Value.slice A5 i c5).ownBlock := fun k hk e => by have h9 := hob _ e.symm; omega
        have pf := Aside0.mk (blk_grown (blk_below PB.out hWW) g3 (hne _ (by omega)))
        have zf := Aside0.mk (blk_grown (blk_below ZB.out hWW) g3 (hne _ (by omega)))
        have bf := Aside0.mk (BB.out.trans (b3.mono (show w.heap.size ≤ w.heap.size + 2 by omega)))
        have sf := Aside0.mk (Nat.le_trans (Nat.le_trans hSB hWW.size) g3.size)
        have of := Aside0.mk o3
        clear o3 b3 g3 t3 hWW PB ZB BB SB HO W1B hb2 o2
        go_roundg k1
        case measure => omega
        case rel =>
          refine ⟨i + 1, A6, c6, by simp, by simp; omega, ⟨by have := HI.out; omega⟩, ⟨?_⟩, pf, zf, bf, sf⟩
          have := of.out
          rw [mv_take hyi]
          have e7 : (List.take i l' ++ [y]).length = i + 1 := by simp; omega
          rw [e7] at this
          exact this
def prod_Plain.vs (k : Nat) (l : List S66) : Nat → Option (List S66)
  | 0 => some []
  | n + 1 => (prod_Plain.vs k l n).bind fun a => (prod_variables.f k l (n : Int)).bind fun b => if a.length + b.length ≤ 1000000 then some (a ++ b) else none
def prod_Plain.f (k : Nat) (a0_0 : Int) (l0_1 : List S66) (l0_2 : List S64) (a1 : Int) (e0 e1 e2 : Int) (l : List S28) : Option (Int × Int × Int × List S28 × Int) :=
  (prog_Check.f k a0_0 l0_1 l0_2).bind fun t => if t = 0 then (if a1 < 1 then some (0, 0, 0, [], 1) else if a1 > 3 then some (0, 0, 0, [], 1) else
    (prod_single.f k a0_0 l0_1 l0_2).bind fun s => if s = 0 then ((prod_Plain.vs k l0_1 a1.toNat).bind fun v => (expr_Heading.f k a0_0 v).bind fun hd => if hd = 0 then
      ((expr_Check.f k a0_0 l0_1 a1 e0 e1 e2 l).bind fun c => if c = 0 then ((mvE (fun c => some (wrap64 (c * (l0_1.length : Int)))) ⟨e0, e1, e2, l⟩).bind fun y => some (y.f0, y.f1, y.f2, y.f3, 0)) else some (0, 0, 0, [], 20)) else some (0, 0, 0, [], 2))
      else some (0, 0, 0, [], 1)) else some (0, 0, 0, [], 30)
theorem prod_Plain.vs_pre {k : Nat} {l : List S66} : ∀ {n : Nat} {v : List S66}, prod_Plain.vs k l n = some v → ∀ j, j ≤ n → ∃ a, prod_Plain.vs k l j = some a
  | 0, v, h, j, hj => by
    obtain rfl : j = 0 := by omega
    exact ⟨v, h⟩
  | n + 1, v, h, j, hj => by
    by_cases e : j = n + 1
    · subst e
      exact ⟨v, h⟩
    · rw [prod_Plain.vs] at h
      obtain ⟨a, ha, _⟩ := Option.bind_eq_some_iff.mp h
      exact prod_Plain.vs_pre ha j (by omega)
theorem row4_put {W : World} {B t : Nat} {x0 x1 x2 x3 : Value} (hz : W.heap[B]? = some (.cells #[x0, x1, x2, x3] t (0, 0))) (a b c u : Value) :
    ((((W.setCell ⟨B, 0, none⟩ a).setCell ⟨B, 1, none⟩ b).setCell ⟨B, 2, none⟩ c).setCell ⟨B, 3, none⟩ u).heap[B]? = some (.cells #[a, b, c, u] t (0, 0)) ∧
    (∀ k, k ≠ B → ((((W.setCell ⟨B, 0, none⟩ a).setCell ⟨B, 1, none⟩ b).setCell ⟨B, 2, none⟩ c).setCell ⟨B, 3, none⟩ u).heap[k]? = W.heap[k]?) ∧
    (∀ n, n ≤ B → Below n W ((((W.setCell ⟨B, 0, none⟩ a).setCell ⟨B, 1, none⟩ b).setCell ⟨B, 2, none⟩ c).setCell ⟨B, 3, none⟩ u)) := by
  have h0 := blk_put hz 0 a (cs' := #[a, x1, x2, x3]) rfl
  have h1 := blk_put h0 1 b (cs' := #[a, b, x2, x3]) rfl
  have h2 := blk_put h1 2 c (cs' := #[a, b, c, x3]) rfl
  refine ⟨blk_put h2 3 u (cs' := #[a, b, c, u]) rfl, fun k hk => ?_, fun n hn => ?_⟩
  · rw [Below.heap_setCell _ _ _ _ hk, Below.heap_setCell _ _ _ _ hk, Below.heap_setCell _ _ _ _ hk, Below.heap_setCell _ _ _ _ hk]
  · exact (((below_cell _ _ hn).trans (below_cell _ _ hn)).trans (below_cell _ _ hn)).trans (below_cell _ _ hn)
theorem prod_Plain1.fn (w : World) (b : Nat) (a v : Value) (A : Option Addr) (n c : Nat) (h : w.heap[b]? = some (.cells #[a, .slice A n c, v] 25 (0, 0))) : FnAt w (.func (.func 49) #[] #[.pointer (some ⟨b, 0, none⟩)]) (fun c => some (wrap64 (c * (n : Int)))) := by
  refine ⟨_, _, rfl, enters_of Try.func49 (by kernel_rfl) rfl, fun W m r hW hr => ?_⟩
  obtain rfl : wrap64 (m * (n : Int)) = r := Option.some.inj hr
  show Calls Try.prog 49 #[.int .i64 m, .pointer (some ⟨b, 0, none⟩)] W _
  have c0 : W.cell? ⟨b, 1, none⟩ = some (.slice A n c) := (blk_cell ((hW.block _ (blk_lt h)).trans h) 1).trans rfl
  go_enter Try.func49, Try.ntmps49
  go_wp2
  go_ret
  exact ⟨rfl, Below.refl _ _⟩
theorem prod_Plain.calls (k : Nat) (a0_0 : Int) (A0_1 : Option Addr) (c0_1 : Nat) (l0_1 : List S66) (A0_2 : Option Addr) (c0_2 : Nat) (l0_2 : List S64) (a1 : Int) (e0 e1 e2 : Int) (A2 : Option Addr) (c2 : Nat) (l : List S28) (r1 r2 r3 : Int) (r4 : List S28) (r5 : Int) (w : World)
    (hr1 : Kd.C k66 w A0_1 l0_1.length l0_1) (hc1 : l0_1.length ≤ c0_1) (hr2 : Kd.C k64 w A0_2 l0_2.length l0_2) (hc2 : l0_2.length ≤ c0_2) (hr3 : Kd.C k28 w A2 l.length l) (hc3 : l.length ≤ c2) (h : prod_Plain.f k a0_0 l0_1 l0_2 a1 e0 e1 e2 l = some (r1, r2, r3, r4, r5)) :
    Calls Try.prog 12 #[.agg #[.int .i64 a0_0, .slice A0_1 l0_1.length c0_1, .slice A0_2 l0_2.length c0_2], .int .i64 a1, .agg #[.int .i64 e0, .int .i64 e1, .int .i64 e2, .slice A2 l.length c2]] w fun en w' => ∃ v4_ : Value, en = .returned (.tuple #[.agg #[.int .i64 r1, .int .i64 r2, .int .i64 r3, v4_], .int .i64 r5]) ∧ Kd.R k28 28 w' w.heap.size (fun _ => True) v4_ r4 ∧ Below w.heap.size w w' := by
  have huE := Try.underlying28
  have huP := Try.underlying25
  have HR1 := Aside0.mk hr1
  have HC1 := Aside0.mk hc1
  have HR2 := Aside0.mk hr2
  have HC2 := Aside0.mk hc2
  have HR3 := Aside0.mk hr3
  have HC3 := Aside0.mk hc3
  clear hr1 hc1 hr2 hc2 hr3 hc3
  unfold prod_Plain.f at h
  obtain ⟨tc, ac, h⟩ := Option.bind_eq_some_iff.mp h
  have AC := Aside0.mk ac
  clear ac
  obtain ⟨W0, hW0⟩ : ∃ X, (((w.alloc (.cells #[.int .i64 a0_0, .slice A0_1 l0_1.length c0_1, .slice A0_2 l0_2.length c0_2] 25)).alloc (.cells #[.int .i64 e0, .int .i64 e1, .int .i64 e2, .slice A2 l.length c2] 28)).alloc (.cells #[.int .i64 0, .int .i64 0, .int .i64 0, .slice none 0 0] 28)) = X := ⟨_, rfl⟩
  have b0 : Below w.heap.size w W0 := by rw [← hW0]; exact bal (bal (bal (Below.refl _ _) _) _) _
  have p0 : W0.heap[w.heap.size]? = some (.cells #[.int .i64 a0_0, .slice A0_1 l0_1.length c0_1, .slice A0_2 l0_2.length c0_2] 25 (0, 0)) := by rw [← hW0]; exact kal (kal (blk_new _ _) _) _
  have q0 : W0.heap[w.heap.size + 1]? = some (.cells #[.int .i64 e0, .int .i64 e1, .int .i64 e2, .slice A2 l.length c2] 28 (0, 0)) := by
    rw [← hW0]
    have := blk_new (w.alloc (.cells #[.int .i64 a0_0, .slice A0_1 l0_1.length c0_1, .slice A0_2 l0_2.length c0_2] 25)) (.cells #[.int .i64 e0, .int .i64 e1, .int .i64 e2, .slice A2 l.length c2] 28)
    exact kal (by simpa using this) _
  have z0 : W0.heap[w.heap.size + 1 + 1]? = some (.cells #[.int .i64 0, .int .i64 0, .int .i64 0, .slice none 0 0] 28 (0, 0)) := by
    rw [← hW0]
    have := blk_new ((w.alloc (.cells #[.int .i64 a0_0, .slice A0_1 l0_1.length c0_1, .slice A0_2 l0_2.length c0_2] 25)).alloc (.cells #[.int .i64 e0, .int .i64 e1, .int .i64 e2, .slice A2 l.length c2] 28)) (.cells #[.int .i64 0, .int .i64 0, .int .i64 0, .slice none 0 0] 28)
    simpa using this
  have x0 : W0.cell? ⟨w.heap.size, 0, none⟩ = some (.int .i64 a0_0) := (blk_cell p0 0).trans rfl
  have x1 : W0.cell? ⟨w.heap.size, 1, none⟩ = some (.slice A0_1 l0_1.length c0_1) := (blk_cell p0 1).trans rfl
  have x2 : W0.cell? ⟨w.heap.size, 2, none⟩ = some (.slice A0_2 l0_2.length c0_2) := (blk_cell p0 2).trans rfl
  have bad : ∀ (W : World) (ec : Int), Below w.heap.size w W → W.heap[w.heap.size + 1 + 1]? = some (.cells #[.int .i64 0, .int .i64 0, .int .i64 0, .slice none 0 0] 28 (0, 0)) → some (r1, r2, r3, r4, r5) = some (0, 0, 0, [], ec) → True := fun _ _ _ _ _ => trivial
  clear bad
  by_cases htc : tc = 0
  case neg =>
    rw [if_neg htc] at h
    have H := Aside0.mk h
    have g2 : (tc != 0) = true := bne_iff_ne.mpr htc
    clear h
    go_enter Try.func12, Try.ntmps12
    go_wp2_with (first | (go_at_call 43; refine (prog_Check.calls k a0_0 _ _ l0_1 _ _ l0_2 _ W0 (Kd.C_below HR1.out b0) HC1.out (Kd.C_below HR2.out b0) HC2.out AC.out).mono ?_; rintro e W1 ⟨rfl, hb1⟩; have b1 := b0.trans (hb1.mono b0.size); have p1 := blk_below p0 hb1; have q1 := blk_below q0 hb1; have z1 := blk_below z0 hb1; have y0 : W1.cell? ⟨w.heap.size, 0, none⟩ = some (.int .i64 a0_0) := (blk_cell p1 0).trans rfl; have y1 : W1.cell? ⟨w.heap.size, 1, none⟩ = some (.slice A0_1 l0_1.length c0_1) := (blk_cell p1 1).trans rfl; have y2 : W1.cell? ⟨w.heap.size, 2, none⟩ = some (.slice A0_2 l0_2.length c0_2) := (blk_cell p1 2).trans rfl; have z_0 : W1.cell? ⟨w.heap.size + 1 + 1, 0, none⟩ = some (.int .i64 0) := (blk_cell z1 0).trans rfl; have z_1 : W1.cell? ⟨w.heap.size + 1 + 1, 1, none⟩ = some (.int .i64 0) := (blk_cell z1 1).trans rfl; have z_2 : W1.cell? ⟨w.heap.size + 1 + 1, 2, none⟩ = some (.int .i64 0) := (blk_cell z1 2).trans rfl; have z_3 : W1.cell? ⟨w.heap.size + 1 + 1, 3, none⟩ = some (.slice none 0 0) := (blk_cell z1 3).trans rfl; have f_0 := blk_frozen z1 0; have f_1 := blk_frozen z1 1; have f_2 := blk_frozen z1 2; have f_3 := blk_frozen z1 3))
    obtain ⟨zc, zk, zb⟩ := row4_put z1 (.int .i64 0) (.int .i64 0) (.int .i64 0) (.slice none 0 0)
    refine bodyPost_ret (results_ct rfl _ _ (w.heap.size + 1 + 1) 28 #[.int .i64 0, .int .i64 0, .int .i64 0, .slice none 0 0] (0, 0) _ rfl zc huE rfl (by kernel_rfl)) rfl ?_
    obtain ⟨rfl, rfl, rfl, rfl, rfl⟩ : r1 = 0 ∧ r2 = 0 ∧ r3 = 0 ∧ r4 = [] ∧ r5 = 30 := by
      injection (Option.some.inj H.out) with g1 g2; injection g2 with g2 g3; injection g3 with g3 g4; injection g4 with g4 g5
      exact ⟨g1.symm, g2.symm, g3.symm, g4.symm, g5.symm⟩
    exact ⟨_, rfl, Kd.R_nil _ _ _ _ _, b1.trans (zb _ (by omega))⟩
  subst htc
  rw [if_pos rfl] at h
  by_cases h1 : a1 < 1
  case pos =>
    rw [if_pos h1] at h
    have H := Aside0.mk h
    have g2 : decide (a1 < 1) = true := decide_eq_true h1
    clear h h1
    go_enter Try.func12, Try.ntmps12
    go_wp2_with (first | (go_at_call 43; refine (prog_Check.calls k a0_0 _ _ l0_1 _ _ l0_2 _ W0 (Kd.C_below HR1.out b0) HC1.out (Kd.C_below HR2.out b0) HC2.out AC.out).mono ?_; rintro e W1 ⟨rfl, hb1⟩; have b1 := b0.trans (hb1.mono b0.size); have p1 := blk_below p0 hb1; have q1 := blk_below q0 hb1; have z1 := blk_below z0 hb1; have y0 : W1.cell? ⟨w.heap.size, 0, none⟩ = some (.int .i64 a0_0) := (blk_cell p1 0).trans rfl; have y1 : W1.cell? ⟨w.heap.size, 1, none⟩ = some (.slice A0_1 l0_1.length c0_1) := (blk_cell p1 1).trans rfl; have y2 : W1.cell? ⟨w.heap.size, 2, none⟩ = some (.slice A0_2 l0_2.length c0_2) := (blk_cell p1 2).trans rfl; have z_0 : W1.cell? ⟨w.heap.size + 1 + 1, 0, none⟩ = some (.int .i64 0) := (blk_cell z1 0).trans rfl; have z_1 : W1.cell? ⟨w.heap.size + 1 + 1, 1, none⟩ = some (.int .i64 0) := (blk_cell z1 1).trans rfl; have z_2 : W1.cell? ⟨w.heap.size + 1 + 1, 2, none⟩ = some (.int .i64 0) := (blk_cell z1 2).trans rfl; have z_3 : W1.cell? ⟨w.heap.size + 1 + 1, 3, none⟩ = some (.slice none 0 0) := (blk_cell z1 3).trans rfl; have f_0 := blk_frozen z1 0; have f_1 := blk_frozen z1 1; have f_2 := blk_frozen z1 2; have f_3 := blk_frozen z1 3))
    obtain ⟨zc, zk, zb⟩ := row4_put z1 (.int .i64 0) (.int .i64 0) (.int .i64 0) (.slice none 0 0)
    refine bodyPost_ret (results_ct rfl _ _ (w.heap.size + 1 + 1) 28 #[.int .i64 0, .int .i64 0, .int .i64 0, .slice none 0 0] (0, 0) _ rfl zc huE rfl (by kernel_rfl)) rfl ?_
    obtain ⟨rfl, rfl, rfl, rfl, rfl⟩ : r1 = 0 ∧ r2 = 0 ∧ r3 = 0 ∧ r4 = [] ∧ r5 = 1 := by
      injection (Option.some.inj H.out) with g1 g2; injection g2 with g2 g3; injection g3 with g3 g4; injection g4 with g4 g5
      exact ⟨g1.symm, g2.symm, g3.symm, g4.symm, g5.symm⟩
    exact ⟨_, rfl, Kd.R_nil _ _ _ _ _, b1.trans (zb _ (by omega))⟩
  rw [if_neg h1] at h
  have g1 : decide (a1 < 1) = false := decide_eq_false h1
  by_cases h3 : a1 > 3
  case pos =>
    rw [if_pos h3] at h
    have H := Aside0.mk h
    have g2 : decide (3 < a1) = true := decide_eq_true h3
    have g3 : decide (a1 > 3) = true := decide_eq_true h3
    clear h h1 h3
    go_enter Try.func12, Try.ntmps12
    go_wp2_with (first | (go_at_call 43; refine (prog_Check.calls k a0_0 _ _ l0_1 _ _ l0_2 _ W0 (Kd.C_below HR1.out b0) HC1.out (Kd.C_below HR2.out b0) HC2.out AC.out).mono ?_; rintro e W1 ⟨rfl, hb1⟩; have b1 := b0.trans (hb1.mono b0.size); have p1 := blk_below p0 hb1; have q1 := blk_below q0 hb1; have z1 := blk_below z0 hb1; have y0 : W1.cell? ⟨w.heap.size, 0, none⟩ = some (.int .i64 a0_0) := (blk_cell p1 0).trans rfl; have y1 : W1.cell? ⟨w.heap.size, 1, none⟩ = some (.slice A0_1 l0_1.length c0_1) := (blk_cell p1 1).trans rfl; have y2 : W1.cell? ⟨w.heap.size, 2, none⟩ = some (.slice A0_2 l0_2.length c0_2) := (blk_cell p1 2).trans rfl; have z_0 : W1.cell? ⟨w.heap.size + 1 + 1, 0, none⟩ = some (.int .i64 0) := (blk_cell z1 0).trans rfl; have z_1 : W1.cell? ⟨w.heap.size + 1 + 1, 1, none⟩ = some (.int .i64 0) := (blk_cell z1 1).trans rfl; have z_2 : W1.cell? ⟨w.heap.size + 1 + 1, 2, none⟩ = some (.int .i64 0) := (blk_cell z1 2).trans rfl; have z_3 : W1.cell? ⟨w.heap.size + 1 + 1, 3, none⟩ = some (.slice none 0 0) := (blk_cell z1 3).trans rfl; have f_0 := blk_frozen z1 0; have f_1 := blk_frozen z1 1; have f_2 := blk_frozen z1 2; have f_3 := blk_frozen z1 3))
    obtain ⟨zc, zk, zb⟩ := row4_put z1 (.int .i64 0) (.int .i64 0) (.int .i64 0) (.slice none 0 0)
    refine bodyPost_ret (results_ct rfl _ _ (w.heap.size + 1 + 1) 28 #[.int .i64 0, .int .i64 0, .int .i64 0, .slice none 0 0] (0, 0) _ rfl zc huE rfl (by kernel_rfl)) rfl ?_
    obtain ⟨rfl, rfl, rfl, rfl, rfl⟩ : r1 = 0 ∧ r2 = 0 ∧ r3 = 0 ∧ r4 = [] ∧ r5 = 1 := by
      injection (Option.some.inj H.out) with g1 g2; injection g2 with g2 g3; injection g3 with g3 g4; injection g4 with g4 g5
      exact ⟨g1.symm, g2.symm, g3.symm, g4.symm, g5.symm⟩
    exact ⟨_, rfl, Kd.R_nil _ _ _ _ _, b1.trans (zb _ (by omega))⟩
  rw [if_neg h3] at h
  have g3 : decide (3 < a1) = false := decide_eq_false h3
  have g4 : decide (a1 > 3) = false := decide_eq_false h3
  obtain ⟨sc, as_, h⟩ := Option.bind_eq_some_iff.mp h
  have AS := Aside0.mk as_
  have RNG := Aside0.mk (And.intro h1 h3)
  clear as_ h1 h3
  by_cases hsc : sc = 0
  case neg =>
    rw [if_neg hsc] at h
    have H := Aside0.mk h
    have g5 : (sc != 0) = true := bne_iff_ne.mpr hsc
    clear h hsc
    go_enter Try.func12, Try.ntmps12
    go_wp2_with (first | (go_at_call 43; refine (prog_Check.calls k a0_0 _ _ l0_1 _ _ l0_2 _ W0 (Kd.C_below HR1.out b0) HC1.out (Kd.C_below HR2.out b0) HC2.out AC.out).mono ?_; rintro e W1 ⟨rfl, hb1⟩; have b1 := b0.trans (hb1.mono b0.size); have p1 := blk_below p0 hb1; have q1 := blk_below q0 hb1; have z1 := blk_below z0 hb1; have y0 : W1.cell? ⟨w.heap.size, 0, none⟩ = some (.int .i64 a0_0) := (blk_cell p1 0).trans rfl; have y1 : W1.cell? ⟨w.heap.size, 1, none⟩ = some (.slice A0_1 l0_1.length c0_1) := (blk_cell p1 1).trans rfl; have y2 : W1.cell? ⟨w.heap.size, 2, none⟩ = some (.slice A0_2 l0_2.length c0_2) := (blk_cell p1 2).trans rfl; have z_0 : W1.cell? ⟨w.heap.size + 1 + 1, 0, none⟩ = some (.int .i64 0) := (blk_cell z1 0).trans rfl; have z_1 : W1.cell? ⟨w.heap.size + 1 + 1, 1, none⟩ = some (.int .i64 0) := (blk_cell z1 1).trans rfl; have z_2 : W1.cell? ⟨w.heap.size + 1 + 1, 2, none⟩ = some (.int .i64 0) := (blk_cell z1 2).trans rfl; have z_3 : W1.cell? ⟨w.heap.size + 1 + 1, 3, none⟩ = some (.slice none 0 0) := (blk_cell z1 3).trans rfl; have f_0 := blk_frozen z1 0; have f_1 := blk_frozen z1 1; have f_2 := blk_frozen z1 2; have f_3 := blk_frozen z1 3) | (go_at_call 44; refine (prod_single.calls k a0_0 _ _ l0_1 _ _ l0_2 _ W1 (Kd.C_below HR1.out b1) HC1.out (Kd.C_below HR2.out b1) HC2.out AS.out).mono ?_; rintro e W2 ⟨rfl, hb2⟩; have b2 := b1.trans (hb2.mono b1.size); have p2 := blk_below p1 hb2; have q2 := blk_below q1 hb2; have z2 := blk_below z1 hb2; have y0 : W2.cell? ⟨w.heap.size, 0, none⟩ = some (.int .i64 a0_0) := (blk_cell p2 0).trans rfl; have y1 : W2.cell? ⟨w.heap.size, 1, none⟩ = some (.slice A0_1 l0_1.length c0_1) := (blk_cell p2 1).trans rfl; have y2 : W2.cell? ⟨w.heap.size, 2, none⟩ = some (.slice A0_2 l0_2.length c0_2) := (blk_cell p2 2).trans rfl; have z_0 : W2.cell? ⟨w.heap.size + 1 + 1, 0, none⟩ = some (.int .i64 0) := (blk_cell z2 0).trans rfl; have z_1 : W2.cell? ⟨w.heap.size + 1 + 1, 1, none⟩ = some (.int .i64 0) := (blk_cell z2 1).trans rfl; have z_2 : W2.cell? ⟨w.heap.size + 1 + 1, 2, none⟩ = some (.int .i64 0) := (blk_cell z2 2).trans rfl; have z_3 : W2.cell? ⟨w.heap.size + 1 + 1, 3, none⟩ = some (.slice none 0 0) := (blk_cell z2 3).trans rfl; have f_0 := blk_frozen z2 0; have f_1 := blk_frozen z2 1; have f_2 := blk_frozen z2 2; have f_3 := blk_frozen z2 3))
    obtain ⟨zc, zk, zb⟩ := row4_put z2 (.int .i64 0) (.int .i64 0) (.int .i64 0) (.slice none 0 0)
    refine bodyPost_ret (results_ct rfl _ _ (w.heap.size + 1 + 1) 28 #[.int .i64 0, .int .i64 0, .int .i64 0, .slice none 0 0] (0, 0) _ rfl zc huE rfl (by kernel_rfl)) rfl ?_
    obtain ⟨rfl, rfl, rfl, rfl, rfl⟩ : r1 = 0 ∧ r2 = 0 ∧ r3 = 0 ∧ r4 = [] ∧ r5 = 1 := by
      injection (Option.some.inj H.out) with g1 g2; injection g2 with g2 g3; injection g3 with g3 g4; injection g4 with g4 g5
      exact ⟨g1.symm, g2.symm, g3.symm, g4.symm, g5.symm⟩
    exact ⟨_, rfl, Kd.R_nil _ _ _ _ _, b2.trans (zb _ (by omega))⟩
  subst hsc
  rw [if_pos rfl] at h
  obtain ⟨vs, av, h⟩ := Option.bind_eq_some_iff.mp h
  obtain ⟨hc, ah, h⟩ := Option.bind_eq_some_iff.mp h
  have AV := Aside0.mk av
  have AH := Aside0.mk ah
  have H := Aside0.mk h
  clear av ah h
  go_enter Try.func12, Try.ntmps12
  go_wp2_with (first | (go_at_call 43; refine (prog_Check.calls k a0_0 _ _ l0_1 _ _ l0_2 _ W0 (Kd.C_below HR1.out b0) HC1.out (Kd.C_below HR2.out b0) HC2.out AC.out).mono ?_; rintro e W1 ⟨rfl, hb1⟩; have b1 := b0.trans (hb1.mono b0.size); have p1 := blk_below p0 hb1; have q1 := blk_below q0 hb1; have z1 := blk_below z0 hb1; have y0 : W1.cell? ⟨w.heap.size, 0, none⟩ = some (.int .i64 a0_0) := (blk_cell p1 0).trans rfl; have y1 : W1.cell? ⟨w.heap.size, 1, none⟩ = some (.slice A0_1 l0_1.length c0_1) := (blk_cell p1 1).trans rfl; have y2 : W1.cell? ⟨w.heap.size, 2, none⟩ = some (.slice A0_2 l0_2.length c0_2) := (blk_cell p1 2).trans rfl; have z_0 : W1.cell? ⟨w.heap.size + 1 + 1, 0, none⟩ = some (.int .i64 0) := (blk_cell z1 0).trans rfl; have z_1 : W1.cell? ⟨w.heap.size + 1 + 1, 1, none⟩ = some (.int .i64 0) := (blk_cell z1 1).trans rfl; have z_2 : W1.cell? ⟨w.heap.size + 1 + 1, 2, none⟩ = some (.int .i64 0) := (blk_cell z1 2).trans rfl; have z_3 : W1.cell? ⟨w.heap.size + 1 + 1, 3, none⟩ = some (.slice none 0 0) := (blk_cell z1 3).trans rfl; have f_0 := blk_frozen z1 0; have f_1 := blk_frozen z1 1; have f_2 := blk_frozen z1 2; have f_3 := blk_frozen z1 3) | (go_at_call 44; refine (prod_single.calls k a0_0 _ _ l0_1 _ _ l0_2 _ W1 (Kd.C_below HR1.out b1) HC1.out (Kd.C_below HR2.out b1) HC2.out AS.out).mono ?_; rintro e W2 ⟨rfl, hb2⟩; have b2 := b1.trans (hb2.mono b1.size); have p2 := blk_below p1 hb2; have q2 := blk_below q1 hb2; have z2 := blk_below z1 hb2; have y0 : W2.cell? ⟨w.heap.size, 0, none⟩ = some (.int .i64 a0_0) := (blk_cell p2 0).trans rfl; have y1 : W2.cell? ⟨w.heap.size, 1, none⟩ = some (.slice A0_1 l0_1.length c0_1) := (blk_cell p2 1).trans rfl; have y2 : W2.cell? ⟨w.heap.size, 2, none⟩ = some (.slice A0_2 l0_2.length c0_2) := (blk_cell p2 2).trans rfl; have z_0 : W2.cell? ⟨w.heap.size + 1 + 1, 0, none⟩ = some (.int .i64 0) := (blk_cell z2 0).trans rfl; have z_1 : W2.cell? ⟨w.heap.size + 1 + 1, 1, none⟩ = some (.int .i64 0) := (blk_cell z2 1).trans rfl; have z_2 : W2.cell? ⟨w.heap.size + 1 + 1, 2, none⟩ = some (.int .i64 0) := (blk_cell z2 2).trans rfl; have z_3 : W2.cell? ⟨w.heap.size + 1 + 1, 3, none⟩ = some (.slice none 0 0) := (blk_cell z2 3).trans rfl; have f_0 := blk_frozen z2 0; have f_1 := blk_frozen z2 1; have f_2 := blk_frozen z2 2; have f_3 := blk_frozen z2 3))
  have PB := Aside0.mk p2
  have QB := Aside0.mk q2
  have ZZ := Aside0.mk z2
  have BB := Aside0.mk b2
  have SB := Aside0.mk (show w.heap.size + 3 ≤ W2.heap.size from by have := blk_lt z2; omega)
  clear p0 q0 z0 b0 x0 x1 x2 hb1 b1 p1 q1 z1 hb2 b2 p2 q2 z2 y0 y1 y2 z_0 z_1 z_2 z_3 f_0 f_1 f_2 f_3 hW0
  go_loopg [8, 27] a1.toNat (fun kq v8 v27 X => ∃ (j : Nat) (A8 : Option Addr) (c8 : Nat) (acc : List S66), v27 = .int .i64 (j : Int) ∧ v8 = .slice A8 acc.length c8 ∧ Aside0 (j + kq = a1.toNat) ∧ Aside0 (prod_Plain.vs k l0_1 j = some acc) ∧ Aside0 (Kd.R k66 66 X (w.heap.size + 3) (fun _ => True) (.slice A8 acc.length c8) acc) ∧ Aside0 (X.heap[w.heap.size]? = some (.cells #[.int .i64 a0_0, .slice A0_1 l0_1.length c0_1, .slice A0_2 l0_2.length c0_2] 25 (0, 0))) ∧ Aside0 (X.heap[w.heap.size + 1]? = some (.cells #[.int .i64 e0, .int .i64 e1, .int .i64 e2, .slice A2 l.length c2] 28 (0, 0))) ∧ Aside0 (X.heap[w.heap.size + 1 + 1]? = some (.cells #[.int .i64 0, .int .i64 0, .int .i64 0, .slice none 0 0] 28 (0, 0))) ∧ Aside0 (Below w.heap.size w X) ∧ Aside0 (w.heap.size + 3 ≤ X.heap.size))
  case atStart => exact ⟨0, none, 0, [], rfl, rfl, ⟨by omega⟩, ⟨rfl⟩, ⟨Kd.R_nil _ _ _ _ _⟩, PB, QB, ZZ, BB, SB⟩
  case round =>
    clear PB QB ZZ BB SB
    obtain ⟨j, A8, c8, acc, rfl, rfl, HI, HV, HO, PB, QB, ZZ, BB, SB⟩ := hrel
    have hrng := RNG.out
    cases gk with
    | succ k1 =>
      have hj : j < a1.toNat := by have := HI.out; omega
      have hd : decide ((j : Int) < a1) = true := decide_eq_true (by omega)
      obtain ⟨nx, hnx⟩ := prod_Plain.vs_pre AV.out (j + 1) (by omega)
      have hnx2 := hnx
      rw [prod_Plain.vs] at hnx
      obtain ⟨a_, ha_, hnx⟩ := Option.bind_eq_some_iff.mp hnx
      obtain rfl : acc = a_ := Option.some.inj (HV.out.symm.trans ha_)
      obtain ⟨b_, hb_, hnx⟩ := Option.bind_eq_some_iff.mp hnx
      have hlen : acc.length + b_.length ≤ 1000000 := by
        rcases Nat.lt_or_ge 1000000 (acc.length + b_.length) with h1 | h1
        · rw [if_neg (by omega)] at hnx; cases hnx
        · exact h1
      rw [if_pos hlen] at hnx
      obtain rfl := Option.some.inj hnx
      have NX := Aside0.mk hnx2
      have HB_ := Aside0.mk hb_
      clear hnx hnx2 ha_ hb_
      have y1 : wr.cell? ⟨w.heap.size, 1, none⟩ = some (.slice A0_1 l0_1.length c0_1) := (blk_cell PB.out 1).trans rfl
      have hw1 : IntKind.i64.wrap ((j : Int) + 1) = (j : Int) + 1 := by rw [i64_w]; unfold wrap64; omega
      have hob := Kd.R_base HO.out
      have hSB := SB.out
      go_wp2_with (first | (go_at_call 45; refine (prod_variables.calls k _ _ l0_1 (j : Int) _ wr (Kd.C_below HR1.out BB.out) HC1.out HB_.out).mono ?_; rintro e Y ⟨v0, rfl, oY, hbY⟩; obtain ⟨D0, d0, eD0⟩ := Kd.R_slice oY; subst eD0) | ((with_reducible refine gate_builtin (b := .append) (xs := #[.tmp 30, .tmp 34]) rfl ?_); at_builtin; refine Kd.R_append_rows k66 (w0 := wr) (W := Y) (w.heap.size + 3) rfl (.tmp 30) (.tmp 34) 22 66 (.agg #[(.string ⟨#[]⟩), (.int .i64 0), (.int .i64 0)]) 32 rfl Try.underlying22 info66 rfl (by decide) (by omega) (.slice A8 acc.length c8) acc b_ _ _ _ (fun _ => True) (fun _ => False) rfl rfl ?aO ?aR (fun _ _ h => h) (fun _ h => h.elim) (fun _ _ => trivial) ?aB ?aS ?aL ?_; (case aO => exact Kd.R_below HO.out hbY); (case aR => exact (Kd.R_reads' oY).2.2); (case aB => exact hbY.mono hSB); (case aS => exact Nat.le_trans hSB hbY.size); (case aL => omega); intro v1 W3 o3 b3 g3 t3))
      obtain ⟨A6, c6, e6⟩ := Kd.R_slice o3
      subst e6
      have hne : ∀ q, q < w.heap.size + 3 → some q ≠ (Value.slice A8 acc.length c8).ownBlock := fun q hq e => by have h9 := hob _ e.symm; omega
      have pf := Aside0.mk (blk_grown (blk_below PB.out hbY) g3 (hne _ (by omega)))
      have qf := Aside0.mk (blk_grown (blk_below QB.out hbY) g3 (hne _ (by omega)))
      have zf := Aside0.mk (blk_grown (blk_below ZZ.out hbY) g3 (hne _ (by omega)))
      have bf := Aside0.mk (BB.out.trans (b3.mono (show w.heap.size ≤ w.heap.size + 3 by omega)))
      have sf := Aside0.mk (Nat.le_trans (Nat.le_trans hSB hbY.size) g3.size)
      have of := Aside0.mk o3
      clear o3 b3 g3 t3 PB QB ZZ BB SB HO hbY oY y1
      go_roundg k1
      case measure => omega
      case rel => exact ⟨j + 1, A6, c6, acc ++ b_, by simp, rfl, ⟨by have := HI.out; omega⟩, NX, of, pf, qf, zf, bf, sf⟩
    | zero =>
      have hj : j = a1.toNat := by have := HI.out; omega
      have hd : decide ((j : Int) < a1) = false := decide_eq_false (by omega)
      obtain rfl : acc = vs := Option.some.inj (HV.out.symm.trans (hj ▸ AV.out))
      obtain ⟨_, hlv, cv⟩ := Kd.R_reads' HO.out
      have CV := Aside0.mk cv
      clear cv
      have y0 : wr.cell? ⟨w.heap.size, 0, none⟩ = some (.int .i64 a0_0) := (blk_cell PB.out 0).trans rfl
      have y1 : wr.cell? ⟨w.heap.size, 1, none⟩ = some (.slice A0_1 l0_1.length c0_1) := (blk_cell PB.out 1).trans rfl
      have y2 : wr.cell? ⟨w.heap.size, 2, none⟩ = some (.slice A0_2 l0_2.length c0_2) := (blk_cell PB.out 2).trans rfl
      by_cases hhc : hc = 0
      case neg =>
        have h := H.out
        clear H
        rw [if_neg hhc] at h
        have H := Aside0.mk h
        have g6 : (hc != 0) = true := bne_iff_ne.mpr hhc
        clear h hhc
        go_wp2_with (first | (go_at_call 46; refine (expr_Heading.calls k a0_0 _ _ acc _ wr CV.out hlv AH.out).mono ?_; rintro e Y ⟨rfl, hbY⟩; have bY := BB.out.trans (hbY.mono BB.out.size); have pY := blk_below PB.out hbY; have qY := blk_below QB.out hbY; have zY := blk_below ZZ.out hbY; have s0 : Y.cell? ⟨w.heap.size, 0, none⟩ = some (.int .i64 a0_0) := (blk_cell pY 0).trans rfl; have s1 : Y.cell? ⟨w.heap.size, 1, none⟩ = some (.slice A0_1 l0_1.length c0_1) := (blk_cell pY 1).trans rfl; have s2 : Y.cell? ⟨w.heap.size, 2, none⟩ = some (.slice A0_2 l0_2.length c0_2) := (blk_cell pY 2).trans rfl; have t0 : Y.cell? ⟨w.heap.size + 1, 0, none⟩ = some (.int .i64 e0) := (blk_cell qY 0).trans rfl; have t1 : Y.cell? ⟨w.heap.size + 1, 1, none⟩ = some (.int .i64 e1) := (blk_cell qY 1).trans rfl; have t2 : Y.cell? ⟨w.heap.size + 1, 2, none⟩ = some (.int .i64 e2) := (blk_cell qY 2).trans rfl; have t3 : Y.cell? ⟨w.heap.size + 1, 3, none⟩ = some (.slice A2 l.length c2) := (blk_cell qY 3).trans rfl; have z_0 : Y.cell? ⟨w.heap.size + 1 + 1, 0, none⟩ = some (.int .i64 0) := (blk_cell zY 0).trans rfl; have z_1 : Y.cell? ⟨w.heap.size + 1 + 1, 1, none⟩ = some (.int .i64 0) := (blk_cell zY 1).trans rfl; have z_2 : Y.cell? ⟨w.heap.size + 1 + 1, 2, none⟩ = some (.int .i64 0) := (blk_cell zY 2).trans rfl; have z_3 : Y.cell? ⟨w.heap.size + 1 + 1, 3, none⟩ = some (.slice none 0 0) := (blk_cell zY 3).trans rfl; have f_0 := blk_frozen zY 0; have f_1 := blk_frozen zY 1; have f_2 := blk_frozen zY 2; have f_3 := blk_frozen zY 3))
        obtain ⟨zc, zk, zb⟩ := row4_put zY (.int .i64 0) (.int .i64 0) (.int .i64 0) (.slice none 0 0)
        refine bodyPost_ret (results_ct rfl _ _ (w.heap.size + 1 + 1) 28 #[.int .i64 0, .int .i64 0, .int .i64 0, .slice none 0 0] (0, 0) _ rfl zc huE rfl (by kernel_rfl)) rfl ?_
        obtain ⟨rfl, rfl, rfl, rfl, rfl⟩ : r1 = 0 ∧ r2 = 0 ∧ r3 = 0 ∧ r4 = [] ∧ r5 = 2 := by
          injection (Option.some.inj H.out) with g1 g2; injection g2 with g2 g3; injection g3 with g3 g4; injection g4 with g4 g5
          exact ⟨g1.symm, g2.symm, g3.symm, g4.symm, g5.symm⟩
        exact ⟨_, rfl, Kd.R_nil _ _ _ _ _, bY.trans (zb _ (by omega))⟩
      subst hhc
      have h := H.out
      clear H
      rw [if_pos rfl] at h
      obtain ⟨cc, ae, h⟩ := Option.bind_eq_some_iff.mp h
      have AE := Aside0.mk ae
      by_cases hcc : cc = 0
      case neg =>
        rw [if_neg hcc] at h
        have H := Aside0.mk h
        have g6 : (cc != 0) = true := bne_iff_ne.mpr hcc
        clear h hcc ae
        go_wp2_with (first | (go_at_call 46; refine (expr_Heading.calls k a0_0 _ _ acc _ wr CV.out hlv AH.out).mono ?_; rintro e Y ⟨rfl, hbY⟩; have bY := BB.out.trans (hbY.mono BB.out.size); have pY := blk_below PB.out hbY; have qY := blk_below QB.out hbY; have zY := blk_below ZZ.out hbY; have s0 : Y.cell? ⟨w.heap.size, 0, none⟩ = some (.int .i64 a0_0) := (blk_cell pY 0).trans rfl; have s1 : Y.cell? ⟨w.heap.size, 1, none⟩ = some (.slice A0_1 l0_1.length c0_1) := (blk_cell pY 1).trans rfl; have s2 : Y.cell? ⟨w.heap.size, 2, none⟩ = some (.slice A0_2 l0_2.length c0_2) := (blk_cell pY 2).trans rfl; have t0 : Y.cell? ⟨w.heap.size + 1, 0, none⟩ = some (.int .i64 e0) := (blk_cell qY 0).trans rfl; have t1 : Y.cell? ⟨w.heap.size + 1, 1, none⟩ = some (.int .i64 e1) := (blk_cell qY 1).trans rfl; have t2 : Y.cell? ⟨w.heap.size + 1, 2, none⟩ = some (.int .i64 e2) := (blk_cell qY 2).trans rfl; have t3 : Y.cell? ⟨w.heap.size + 1, 3, none⟩ = some (.slice A2 l.length c2) := (blk_cell qY 3).trans rfl; have z_0 : Y.cell? ⟨w.heap.size + 1 + 1, 0, none⟩ = some (.int .i64 0) := (blk_cell zY 0).trans rfl; have z_1 : Y.cell? ⟨w.heap.size + 1 + 1, 1, none⟩ = some (.int .i64 0) := (blk_cell zY 1).trans rfl; have z_2 : Y.cell? ⟨w.heap.size + 1 + 1, 2, none⟩ = some (.int .i64 0) := (blk_cell zY 2).trans rfl; have z_3 : Y.cell? ⟨w.heap.size + 1 + 1, 3, none⟩ = some (.slice none 0 0) := (blk_cell zY 3).trans rfl; have f_0 := blk_frozen zY 0; have f_1 := blk_frozen zY 1; have f_2 := blk_frozen zY 2; have f_3 := blk_frozen zY 3) | (go_at_call 47; refine (expr_Check.calls k a0_0 _ _ l0_1 a1 e0 e1 e2 _ _ l _ Y (Kd.C_below HR1.out bY) HC1.out (Kd.C_below HR3.out bY) HC3.out AE.out).mono ?_; rintro e V ⟨rfl, hbV⟩; have bV := bY.trans (hbV.mono bY.size); have pV := blk_below pY hbV; have qV := blk_below qY hbV; have zV := blk_below zY hbV; have z_0 : V.cell? ⟨w.heap.size + 1 + 1, 0, none⟩ = some (.int .i64 0) := (blk_cell zV 0).trans rfl; have z_1 : V.cell? ⟨w.heap.size + 1 + 1, 1, none⟩ = some (.int .i64 0) := (blk_cell zV 1).trans rfl; have z_2 : V.cell? ⟨w.heap.size + 1 + 1, 2, none⟩ = some (.int .i64 0) := (blk_cell zV 2).trans rfl; have z_3 : V.cell? ⟨w.heap.size + 1 + 1, 3, none⟩ = some (.slice none 0 0) := (blk_cell zV 3).trans rfl; have f_0 := blk_frozen zV 0; have f_1 := blk_frozen zV 1; have f_2 := blk_frozen zV 2; have f_3 := blk_frozen zV 3))
        obtain ⟨zc, zk, zb⟩ := row4_put zV (.int .i64 0) (.int .i64 0) (.int .i64 0) (.slice none 0 0)
        refine bodyPost_ret (results_ct rfl _ _ (w.heap.size + 1 + 1) 28 #[.int .i64 0, .int .i64 0, .int .i64 0, .slice none 0 0] (0, 0) _ rfl zc huE rfl (by kernel_rfl)) rfl ?_
        obtain ⟨rfl, rfl, rfl, rfl, rfl⟩ : r1 = 0 ∧ r2 = 0 ∧ r3 = 0 ∧ r4 = [] ∧ r5 = 20 := by
          injection (Option.some.inj H.out) with g1 g2; injection g2 with g2 g3; injection g3 with g3 g4; injection g4 with g4 g5
          exact ⟨g1.symm, g2.symm, g3.symm, g4.symm, g5.symm⟩
        exact ⟨_, rfl, Kd.R_nil _ _ _ _ _, bV.trans (zb _ (by omega))⟩
      subst hcc
      rw [if_pos rfl] at h
      obtain ⟨y, hy, h⟩ := Option.bind_eq_some_iff.mp h
      have HY := Aside0.mk hy
      have H := Aside0.mk h
      clear h hy ae
      go_wp2_with (first | (go_at_call 46; refine (expr_Heading.calls k a0_0 _ _ acc _ wr CV.out hlv AH.out).mono ?_; rintro e Y ⟨rfl, hbY⟩; have bY := BB.out.trans (hbY.mono BB.out.size); have pY := blk_below PB.out hbY; have qY := blk_below QB.out hbY; have zY := blk_below ZZ.out hbY; have s0 : Y.cell? ⟨w.heap.size, 0, none⟩ = some (.int .i64 a0_0) := (blk_cell pY 0).trans rfl; have s1 : Y.cell? ⟨w.heap.size, 1, none⟩ = some (.slice A0_1 l0_1.length c0_1) := (blk_cell pY 1).trans rfl; have s2 : Y.cell? ⟨w.heap.size, 2, none⟩ = some (.slice A0_2 l0_2.length c0_2) := (blk_cell pY 2).trans rfl; have t0 : Y.cell? ⟨w.heap.size + 1, 0, none⟩ = some (.int .i64 e0) := (blk_cell qY 0).trans rfl; have t1 : Y.cell? ⟨w.heap.size + 1, 1, none⟩ = some (.int .i64 e1) := (blk_cell qY 1).trans rfl; have t2 : Y.cell? ⟨w.heap.size + 1, 2, none⟩ = some (.int .i64 e2) := (blk_cell qY 2).trans rfl; have t3 : Y.cell? ⟨w.heap.size + 1, 3, none⟩ = some (.slice A2 l.length c2) := (blk_cell qY 3).trans rfl; have z_0 : Y.cell? ⟨w.heap.size + 1 + 1, 0, none⟩ = some (.int .i64 0) := (blk_cell zY 0).trans rfl; have z_1 : Y.cell? ⟨w.heap.size + 1 + 1, 1, none⟩ = some (.int .i64 0) := (blk_cell zY 1).trans rfl; have z_2 : Y.cell? ⟨w.heap.size + 1 + 1, 2, none⟩ = some (.int .i64 0) := (blk_cell zY 2).trans rfl; have z_3 : Y.cell? ⟨w.heap.size + 1 + 1, 3, none⟩ = some (.slice none 0 0) := (blk_cell zY 3).trans rfl; have f_0 := blk_frozen zY 0; have f_1 := blk_frozen zY 1; have f_2 := blk_frozen zY 2; have f_3 := blk_frozen zY 3) | (go_at_call 47; refine (expr_Check.calls k a0_0 _ _ l0_1 a1 e0 e1 e2 _ _ l _ Y (Kd.C_below HR1.out bY) HC1.out (Kd.C_below HR3.out bY) HC3.out AE.out).mono ?_; rintro e V ⟨rfl, hbV⟩; have bV := bY.trans (hbV.mono bY.size); have pV := blk_below pY hbV; have qV := blk_below qY hbV; have zV := blk_below zY hbV; have z_0 : V.cell? ⟨w.heap.size + 1 + 1, 0, none⟩ = some (.int .i64 0) := (blk_cell zV 0).trans rfl; have z_1 : V.cell? ⟨w.heap.size + 1 + 1, 1, none⟩ = some (.int .i64 0) := (blk_cell zV 1).trans rfl; have z_2 : V.cell? ⟨w.heap.size + 1 + 1, 2, none⟩ = some (.int .i64 0) := (blk_cell zV 2).trans rfl; have z_3 : V.cell? ⟨w.heap.size + 1 + 1, 3, none⟩ = some (.slice none 0 0) := (blk_cell zV 3).trans rfl; have f_0 := blk_frozen zV 0; have f_1 := blk_frozen zV 1; have f_2 := blk_frozen zV 2; have f_3 := blk_frozen zV 3))
      have hfn := prod_Plain1.fn V.drew w.heap.size _ _ _ _ _ (kdr pV)
      have bD := below_drew bV
      have qD := kdr qV
      have zD := kdr zV
      refine start_ (n := 6) (S := fun w' => w'.cell? ⟨w.heap.size + 1, 0, none⟩ = some (.int .i64 e0) ∧ w'.cell? ⟨w.heap.size + 1, 1, none⟩ = some (.int .i64 e1) ∧ w'.cell? ⟨w.heap.size + 1, 2, none⟩ = some (.int .i64 e2) ∧ w'.cell? ⟨w.heap.size + 1, 3, none⟩ = some (.slice A2 l.length c2)) (ds := [4]) #[false, false, false, false, false, false] (by kernel_rfl) rfl rfl ⟨(blk_cell qD 0).trans rfl, (blk_cell qD 1).trans rfl, (blk_cell qD 2).trans rfl, (blk_cell qD 3).trans rfl⟩ (fun hHeld => ?_)
      generalize V.drew = V1 at hfn bD qD zD hHeld ⊢
      refine pu (i := 0) (N := some 52) (bl 6 1) rfl rfl (by kernel_rfl) ?_
      refine tk (i := 2) (N := some 54) (bl 6 5) rfl rfl (by kernel_rfl) hHeld ?_
      refine one_ (i := 1) (N := (some 53)) (bl 6 7) rfl rfl (by kernel_rfl) (by decide) (fun K hK => ?_)
      refine goes_ Try.func48 (by kernel_rfl) rfl #[.func (.func 49) #[] #[.pointer (some ⟨w.heap.size, 0, none⟩)]] (by rfl) rfl rfl (by (try simp only [List.map_toArray, List.map_cons, List.map_nil]); rfl) ?_
      refine (prod_moving.fn _ _ V1 hfn).mono ?_
      rintro e V2 ⟨rfl, hm2, b2⟩
      have bE := bD.trans (b2.mono bD.size)
      have qE := blk_below qD b2
      have zE := blk_below zD b2
      refine ⟨_, rfl, ?_⟩
      refine hK.out _ _ ⟨(blk_cell qE 0).trans rfl, (blk_cell qE 1).trans rfl, (blk_cell qE 2).trans rfl, (blk_cell qE 3).trans rfl⟩ (fun hHeld => ?_)
      clear hK K
      refine nm 53 ?_
      refine one_ (i := 3) (N := (some 55)) (bl 6 15) rfl rfl (by kernel_rfl) (by decide) (fun K hK => ?_)
      refine call_ 83 #[.agg #[.int .i64 e0, .int .i64 e1, .int .i64 e2, .slice A2 l.length c2], .pointer (some ⟨V1.heap.size, 0, none⟩), .pointer (some ⟨V1.heap.size + 1, 0, none⟩)] (by rfl) rfl ?run ?_
      case run =>
        have en := fun args w => enters_of (P := Try.prog) Try.func83 (by kernel_rfl) rfl args w
        unfold execOp
        simp [resolve, Deferred.ofValue, invoke, Act.eval, en]
      refine (prod_moving1.calls _ (⟨e0, e1, e2, l⟩ : S28) y A2 c2 V1.heap.size V2 HY.out hm2 (Kd.C_below HR3.out bE) HC3.out).mono ?_
      rintro e V3 ⟨v, rfl, o3, b3⟩
      have bF := bE.trans (b3.mono bE.size)
      have qF := blk_below qE b3
      have zF := blk_below zE b3
      refine ⟨_, rfl, ?_⟩
      refine hK.out _ _ ⟨(blk_cell qF 0).trans rfl, (blk_cell qF 1).trans rfl, (blk_cell qF 2).trans rfl, (blk_cell qF 3).trans rfl⟩ (fun hHeld => ?_)
      clear hK K
      refine nm 55 ?_
      obtain ⟨D3, d3, e3⟩ := Kd.R_slice o3
      subst e3
      refine last_ (i := 4) (N := none) (bl 6 31) rfl rfl (by kernel_rfl) (by decide) (fun K hK => ?_)
      have sz := blk_lt zF
      obtain ⟨zc, zk, zb⟩ := row4_put zF (.int .i64 y.f0) (.int .i64 y.f1) (.int .i64 y.f2) (.slice D3 y.f3.length d3)
      refine skip_ (w1 := ((((V3.setCell ⟨w.heap.size + 1 + 1, 0, none⟩ (.int .i64 y.f0)).setCell ⟨w.heap.size + 1 + 1, 1, none⟩ (.int .i64 y.f1)).setCell ⟨w.heap.size + 1 + 1, 2, none⟩ (.int .i64 y.f2)).setCell ⟨w.heap.size + 1 + 1, 3, none⟩ (.slice D3 y.f3.length d3))) (by rfl) rfl ?st ?_
      case st =>
        have z_0 : V3.cell? ⟨w.heap.size + 1 + 1, 0, none⟩ = some (.int .i64 0) := (blk_cell zF 0).trans rfl
        have z_1 : V3.cell? ⟨w.heap.size + 1 + 1, 1, none⟩ = some (.int .i64 0) := (blk_cell zF 1).trans rfl
        have z_2 : V3.cell? ⟨w.heap.size + 1 + 1, 2, none⟩ = some (.int .i64 0) := (blk_cell zF 2).trans rfl
        have z_3 : V3.cell? ⟨w.heap.size + 1 + 1, 3, none⟩ = some (.slice none 0 0) := (blk_cell zF 3).trans rfl
        have f_0 := blk_frozen zF 0
        have f_1 := blk_frozen zF 1
        have f_2 := blk_frozen zF 2
        have f_3 := blk_frozen zF 3
        go_simp
      refine hK.out _ _ ?_
      clear hK K
      refine pu (i := 5) (N := some 7) (bl 6 63) rfl rfl (by kernel_rfl) ?_
      refine done_ (by kernel_rfl) ?_
      try simp only [Exit.then]
      go_wp2
      refine bodyPost_ret (results_ct rfl _ _ (w.heap.size + 1 + 1) 28 #[.int .i64 y.f0, .int .i64 y.f1, .int .i64 y.f2, .slice D3 y.f3.length d3] (0, 0) _ rfl zc huE rfl (by kernel_rfl)) rfl ?_
      obtain ⟨rfl, rfl, rfl, rfl, rfl⟩ : r1 = y.f0 ∧ r2 = y.f1 ∧ r3 = y.f2 ∧ r4 = y.f3 ∧ r5 = 0 := by
        injection (Option.some.inj H.out) with g1 g2; injection g2 with g2 g3; injection g3 with g3 g4; injection g4 with g4 g5
        exact ⟨g1.symm, g2.symm, g3.symm, g4.symm, g5.symm⟩
      have sE := bE.size
      have sV1 := blk_lt zD
      have sV2 := b2.size
      exact ⟨_, rfl, Kd.R_lower (Kd.R_mono (Kd.R_step (Kd.R_bound o3) (fun q hq _ => zk q (by have := hq.2.1; omega))) (fun _ _ => trivial)) sE, bF.trans (zb _ (by omega))⟩
end Go.Proofs.Ytilebfkehmecaaa.Print
namespace Go.Proofs.Ytilebfkehmecaaa.Print
open Go.RowKit Go.Proofs.YtilebfkehmecaaaW.PrintWords Go.Proofs.YtilebfkehmecaaaW.PrintLast Go.Proofs.YtilebfkehmecaaaW.PrintMore
attribute [local go_sem] max2_int min2_int max_two min_two max_three min_three max_four min_four
set_option linter.unusedVariables false
set_option linter.unusedSimpArgs false
mutual
def r2_Same.j0 : Nat → Bool → Int → Int → Int → List (S28) → Int → Int → Int → List (S28) → Option (Bool)
 | 0, _, _, _, _, _, _, _, _, _ => none
 | k + 1, x33, x154000, x154001, x154002, x154003, x155000, x155001, x155002, x155003 => if x33 = true then (some false) else (r2_Same.l0 k 0 x154000 x154001 x154002 x154003 x155000 x155001 x155002 x155003)
def r2_Same.l0 : Nat → Int → Int → Int → Int → List (S28) → Int → Int → Int → List (S28) → Option (Bool)
 | 0, _, _, _, _, _, _, _, _, _ => none
 | k + 1, x5, x154000, x154001, x154002, x154003, x155000, x155001, x155002, x155003 => if x5 < (x154003.length : Int) then (if 0 ≤ x5 then (if x5 < (x155003.length : Int) then ((r2_Same.f k ((rd_T28 x154003 x5).f0) ((rd_T28 x154003 x5).f1) ((rd_T28 x154003 x5).f2) ((rd_T28 x154003 x5).f3) ((rd_T28 x155003 x5).f0) ((rd_T28 x155003 x5).f1) ((rd_T28 x155003 x5).f2) ((rd_T28 x155003 x5).f3)).bind fun t157 => (if t157 = true then (r2_Same.l0 k (wrap64 (x5 + 1)) x154000 x154001 x154002 x154003 x155000 x155001 x155002 x155003) else (some false))) else (none)) else (none)) else (some true)
def r2_Same.f : Nat → Int → Int → Int → List (S28) → Int → Int → Int → List (S28) → Option (Bool)
 | 0, _, _, _, _, _, _, _, _ => none
 | k + 1, a0_0, a0_1, a0_2, l0_3, a1_0, a1_1, a1_2, l1_3 => if a0_0 = a1_0 then (if a0_1 = a1_1 then (if a0_2 = a1_2 then (r2_Same.j0 k ((l0_3.length : Int) != (l1_3.length : Int)) a0_0 a0_1 a0_2 l0_3 a1_0 a1_1 a1_2 l1_3) else (r2_Same.j0 k true a0_0 a0_1 a0_2 l0_3 a1_0 a1_1 a1_2 l1_3)) else (r2_Same.j0 k true a0_0 a0_1 a0_2 l0_3 a1_0 a1_1 a1_2 l1_3)) else (r2_Same.j0 k true a0_0 a0_1 a0_2 l0_3 a1_0 a1_1 a1_2 l1_3)
end
def r2_Same.T6 : Bool × List (List Nat × List Nat) := (true, [([], []), ([0], [0]), ([], []), ([1, 2], [1, 2]), ([3], [3]), ([], []), ([5], [5]), ([], []), ([6, 7], [6, 7]), ([8], [8]), ([4, 9], [4, 9]), ([10], [10])])
def r2_Same.B6 : List Nat := [0, 1, 0, 7, 15, 0, 32, 0, 224, 480, 1023, 2047]
theorem r2_Same.tab6 : rtab .any (opsOf Try.f14 6) = r2_Same.T6 := by kernel_rfl
theorem r2_Same.bits6 : waitsOk r2_Same.T6.2 r2_Same.B6 = true := by kernel_rfl
theorem r2_Same.calls (k : Nat) : ∀ (a0_0 : Int) (a0_1 : Int) (a0_2 : Int) (A0_3 : Option Addr) (c0_3 : Nat) (l0_3 : List (S28)) (a1_0 : Int) (a1_1 : Int) (a1_2 : Int) (A1_3 : Option Addr) (c1_3 : Nat) (l1_3 : List (S28)) (r : Bool) (w : World) (hr0_3 : Kd.C k28 w A0_3 l0_3.length l0_3) (hc0_3 : l0_3.length ≤ c0_3) (hr1_3 : Kd.C k28 w A1_3 l1_3.length l1_3) (hc1_3 : l1_3.length ≤ c1_3) (h : r2_Same.f k a0_0 a0_1 a0_2 l0_3 a1_0 a1_1 a1_2 l1_3 = some r),
  Calls Try.prog 14 #[.agg #[.int .i64 a0_0, .int .i64 a0_1, .int .i64 a0_2, .slice A0_3 l0_3.length c0_3], .agg #[.int .i64 a1_0, .int .i64 a1_1, .int .i64 a1_2, .slice A1_3 l1_3.length c1_3]] w fun e w' => e = .returned (.bool r) ∧ Below w.heap.size w w' := by
 induction k using Nat.strongRecOn with
 | _ k ih =>
 intro a0_0 a0_1 a0_2 A0_3 c0_3 l0_3 a1_0 a1_1 a1_2 A1_3 c1_3 l1_3 r w hr0_3 hc0_3 hr1_3 hc1_3 h
 cases k with
 | zero => exact absurd h (by simp [r2_Same.f])
 | succ k =>
 simp only [r2_Same.f] at h
 have hu28 := Try.underlying28
 have HR0_3 := Aside0.mk hr0_3
 have HC0_3 := Aside0.mk hc0_3
 clear hr0_3 hc0_3
 have HR1_3 := Aside0.mk hr1_3
 have HC1_3 := Aside0.mk hc1_3
 clear hr1_3 hc1_3
 have HB := Aside0.mk (Below.refl w.heap.size w)
 have H : (if a0_0 = a1_0 then (if a0_1 = a1_1 then (if a0_2 = a1_2 then (r2_Same.j0 k ((l0_3.length : Int) != (l1_3.length : Int)) a0_0 a0_1 a0_2 l0_3 a1_0 a1_1 a1_2 l1_3) else (r2_Same.j0 k true a0_0 a0_1 a0_2 l0_3 a1_0 a1_1 a1_2 l1_3)) else (r2_Same.j0 k true a0_0 a0_1 a0_2 l0_3 a1_0 a1_1 a1_2 l1_3)) else (r2_Same.j0 k true a0_0 a0_1 a0_2 l0_3 a1_0 a1_1 a1_2 l1_3)) = some r := h
 clear h
 have HC3 := Aside0.mk H
 clear H
 go_enter Try.func14, Try.ntmps14
 go_upto_region 1 with (first | ((with_reducible refine gate_dst (N := 2) rfl ?_); (try (refine gate_guard (by rfl) ?_; dsimp only)); refine bx 2 rfl rfl #[.int .i64 a0_0, .int .i64 a0_1, .int .i64 a0_2, .slice A0_3 l0_3.length c0_3] 28 ?_; intro gb153 hg w4 hbox hb; have BK153 := Aside0.mk (hbox); have GE153 := ge HB hg; replace HB := sb HB hb; clear hb hbox hg) | ((with_reducible refine gate_dst (N := 3) rfl ?_); (try (refine gate_guard (by rfl) ?_; dsimp only)); refine bx 3 rfl rfl #[.int .i64 a1_0, .int .i64 a1_1, .int .i64 a1_2, .slice A1_3 l1_3.length c1_3] 28 ?_; intro gb154 hg w5 hbox hb; have BK154 := Aside0.mk (hbox); have GE154 := ge HB hg; have NB153_154 := Aside0.mk ((by rw [hg]; exact Nat.ne_of_lt (blk_lt (kk BK153)) : gb153 ≠ gb154)); have NB154_153 := Aside0.mk ((by rw [hg]; exact Nat.ne_of_gt (blk_lt (kk BK153)) : gb154 ≠ gb153)); replace BK153 := kb BK153 hb; replace HB := sb HB hb; clear hb hbox hg))
 (try simp only [Act.put, List.setIfInBounds_toArray, List.set_cons_zero, List.set_cons_succ])
 go_cut [33] (fun v33 wc => ∃ (kq : Nat) (x33_2 : Bool), v33 = .bool x33_2 ∧ Aside0 (r2_Same.j0 kq x33_2 a0_0 a0_1 a0_2 l0_3 a1_0 a1_1 a1_2 l1_3 = some r) ∧ Aside0 (kq ≤ k) ∧ Aside0 (wc.heap[gb153]? = some (.cells #[.int .i64 a0_0, .int .i64 a0_1, .int .i64 a0_2, (.slice A0_3 l0_3.length c0_3)] 28 (0, 0))) ∧ Aside0 (wc.heap[gb154]? = some (.cells #[.int .i64 a1_0, .int .i64 a1_1, .int .i64 a1_2, (.slice A1_3 l1_3.length c1_3)] 28 (0, 0))) ∧ Aside0 (Below w.heap.size w wc))
 case first =>
  have H := HC3.out
  clear HC3
  by_cases c6 : a0_0 = a1_0
  rotate_left
  ·rw [if_neg c6] at H
   have c6b0 : (a0_0 == a1_0) = false := beq_eq_false_iff_ne.mpr c6
   have c6b1 : (a0_0 != a1_0) = true := bne_iff_ne.mpr c6
   (first | rw [c6b0] | (simp only [i64_w, i32_w]; rw [c6b0]) | skip)
   have H' := Aside0.mk H
   clear H
   have hnb18 := NB153_154.out
   have hnc18 := NB154_153.out
   obtain ⟨hcz19_0, hcz19_1, hcz19_2, hcz19_3, hfz19_0, hfz19_1, hfz19_2, hfz19_3⟩ := cf4 BK153.out
   obtain ⟨hcz20_0, hcz20_1, hcz20_2, hcz20_3, hfz20_0, hfz20_1, hfz20_2, hfz20_3⟩ := cf4 BK154.out
   go_wp2
   go_meet
   case rel => exact ⟨_, (true), rs, H', ⟨by first | omega | exact Nat.le_refl _⟩, ⟨kk BK153⟩, ⟨kk BK154⟩, ⟨bb HB⟩⟩
  rw [if_pos c6] at H
  have c6b0 : (a0_0 == a1_0) = true := beq_iff_eq.mpr c6
  have c6b1 : (a0_0 != a1_0) = false := bne_eq_false_iff_eq.mpr c6
  clear c6
  (first | rw [c6b0] | (simp only [i64_w, i32_w]; rw [c6b0]) | skip)
  by_cases c7 : a0_1 = a1_1
  rotate_left
  ·rw [if_neg c7] at H
   have c7b0 : (a0_1 == a1_1) = false := beq_eq_false_iff_ne.mpr c7
   have c7b1 : (a0_1 != a1_1) = true := bne_iff_ne.mpr c7
   have H' := Aside0.mk H
   clear H
   have hnb15 := NB153_154.out
   have hnc15 := NB154_153.out
   obtain ⟨hcz16_0, hcz16_1, hcz16_2, hcz16_3, hfz16_0, hfz16_1, hfz16_2, hfz16_3⟩ := cf4 BK153.out
   obtain ⟨hcz17_0, hcz17_1, hcz17_2, hcz17_3, hfz17_0, hfz17_1, hfz17_2, hfz17_3⟩ := cf4 BK154.out
   go_wp2
   go_meet
   case rel => exact ⟨_, (true), rs, H', ⟨by first | omega | exact Nat.le_refl _⟩, ⟨kk BK153⟩, ⟨kk BK154⟩, ⟨bb HB⟩⟩
  rw [if_pos c7] at H
  have c7b0 : (a0_1 == a1_1) = true := beq_iff_eq.mpr c7
  have c7b1 : (a0_1 != a1_1) = false := bne_eq_false_iff_eq.mpr c7
  clear c7
  by_cases c8 : a0_2 = a1_2
  rotate_left
  ·rw [if_neg c8] at H
   have c8b0 : (a0_2 == a1_2) = false := beq_eq_false_iff_ne.mpr c8
   have c8b1 : (a0_2 != a1_2) = true := bne_iff_ne.mpr c8
   have H' := Aside0.mk H
   clear H
   have hnb12 := NB153_154.out
   have hnc12 := NB154_153.out
   obtain ⟨hcz13_0, hcz13_1, hcz13_2, hcz13_3, hfz13_0, hfz13_1, hfz13_2, hfz13_3⟩ := cf4 BK153.out
   obtain ⟨hcz14_0, hcz14_1, hcz14_2, hcz14_3, hfz14_0, hfz14_1, hfz14_2, hfz14_3⟩ := cf4 BK154.out
   go_wp2
   go_meet
   case rel => exact ⟨_, (true), rs, H', ⟨by first | omega | exact Nat.le_refl _⟩, ⟨kk BK153⟩, ⟨kk BK154⟩, ⟨bb HB⟩⟩
  rw [if_pos c8] at H
  have c8b0 : (a0_2 == a1_2) = true := beq_iff_eq.mpr c8
  have c8b1 : (a0_2 != a1_2) = false := bne_eq_false_iff_eq.mpr c8
  clear c8
  have H' := Aside0.mk H
  clear H
  have hnb9 := NB153_154.out
  have hnc9 := NB154_153.out
  obtain ⟨hcz10_0, hcz10_1, hcz10_2, hcz10_3, hfz10_0, hfz10_1, hfz10_2, hfz10_3⟩ := cf4 BK153.out
  obtain ⟨hcz11_0, hcz11_1, hcz11_2, hcz11_3, hfz11_0, hfz11_1, hfz11_2, hfz11_3⟩ := cf4 BK154.out
  go_wp2
  go_meet
  case rel => exact ⟨_, (((l0_3.length : Int) != (l1_3.length : Int))), rs, H', ⟨by first | omega | exact Nat.le_refl _⟩, ⟨kk BK153⟩, ⟨kk BK154⟩, ⟨bb HB⟩⟩
 case rest =>
  clear HC3
  try clear c1
  try clear p2
  try clear c6
  try clear c6b0
  try clear c6b1
  try clear c7
  try clear c7b0
  try clear c7b1
  try clear c8
  try clear c8b0
  try clear c8b1
  try clear c9
  try clear c12
  try clear c14
  try clear c15
  try clear c18
  try clear hcz10_0 hcz10_1 hcz10_2 hcz10_3
  try clear hcz11_0 hcz11_1 hcz11_2 hcz11_3
  try clear hcz13_0 hcz13_1 hcz13_2 hcz13_3
  try clear hcz14_0 hcz14_1 hcz14_2 hcz14_3
  try clear hcz16_0 hcz16_1 hcz16_2 hcz16_3
  try clear hcz17_0 hcz17_1 hcz17_2 hcz17_3
  try clear hcz19_0 hcz19_1 hcz19_2 hcz19_3
  try clear hcz20_0 hcz20_1 hcz20_2 hcz20_3
  try clear hfz10_0 hfz10_1 hfz10_2 hfz10_3
  try clear hfz11_0 hfz11_1 hfz11_2 hfz11_3
  try clear hfz13_0 hfz13_1 hfz13_2 hfz13_3
  try clear hfz14_0 hfz14_1 hfz14_2 hfz14_3
  try clear hfz16_0 hfz16_1 hfz16_2 hfz16_3
  try clear hfz17_0 hfz17_1 hfz17_2 hfz17_3
  try clear hfz19_0 hfz19_1 hfz19_2 hfz19_3
  try clear hfz20_0 hfz20_1 hfz20_2 hfz20_3
  obtain ⟨kq, x33_2, rfl, HA, HJ2, BK153, BK154, HB⟩ := hcut
  cases kq with
  | zero => exact absurd HA.out (by simp [r2_Same.j0])
  | succ kj2 =>
   have H := HA.out
   clear HA
   simp only [r2_Same.j0] at H
   by_cases c21 : x33_2 = true
   ·subst c21
    replace H := it H
    obtain rfl := Option.some.inj H
    go_wp2
    go_ret
    exact ⟨rr, bb HB⟩
   replace c21 := Bool.eq_false_iff.mpr c21
   subst c21
   replace H := fi H
   have H' := Aside0.mk H
   clear H
   go_wp2
   go_loopg [5] kj2 (fun kq v5 w' => ∃ (x5_2 : Int), v5 = .int .i64 x5_2 ∧ Aside0 (r2_Same.l0 kq x5_2 a0_0 a0_1 a0_2 l0_3 a1_0 a1_1 a1_2 l1_3 = some r) ∧ Aside0 (kq ≤ kj2) ∧ Aside0 (w'.heap[gb153]? = some (.cells #[.int .i64 a0_0, .int .i64 a0_1, .int .i64 a0_2, (.slice A0_3 l0_3.length c0_3)] 28 (0, 0))) ∧ Aside0 (w'.heap[gb154]? = some (.cells #[.int .i64 a1_0, .int .i64 a1_1, .int .i64 a1_2, (.slice A1_3 l1_3.length c1_3)] 28 (0, 0))) ∧ Aside0 (Below w.heap.size w w'))
   case atStart => exact ⟨(0), rs, H', ⟨Nat.le_refl _⟩, ⟨kk BK153⟩, ⟨kk BK154⟩, ⟨bb HB⟩⟩
   case round =>
    clear H'
    try clear c1
    try clear c2
    try clear p2
    try clear c6
    try clear c6b0
    try clear c6b1
    try clear c7
    try clear c7b0
    try clear c7b1
    try clear c8
    try clear c8b0
    try clear c8b1
    try clear c9
    try clear c12
    try clear c14
    try clear c15
    try clear c18
    try clear c21
    try clear hcz10_0 hcz10_1 hcz10_2 hcz10_3
    try clear hcz11_0 hcz11_1 hcz11_2 hcz11_3
    try clear hcz13_0 hcz13_1 hcz13_2 hcz13_3
    try clear hcz14_0 hcz14_1 hcz14_2 hcz14_3
    try clear hcz16_0 hcz16_1 hcz16_2 hcz16_3
    try clear hcz17_0 hcz17_1 hcz17_2 hcz17_3
    try clear hcz19_0 hcz19_1 hcz19_2 hcz19_3
    try clear hcz20_0 hcz20_1 hcz20_2 hcz20_3
    try clear hfz10_0 hfz10_1 hfz10_2 hfz10_3
    try clear hfz11_0 hfz11_1 hfz11_2 hfz11_3
    try clear hfz13_0 hfz13_1 hfz13_2 hfz13_3
    try clear hfz14_0 hfz14_1 hfz14_2 hfz14_3
    try clear hfz16_0 hfz16_1 hfz16_2 hfz16_3
    try clear hfz17_0 hfz17_1 hfz17_2 hfz17_3
    try clear hfz19_0 hfz19_1 hfz19_2 hfz19_3
    try clear hfz20_0 hfz20_1 hfz20_2 hfz20_3
    try clear p2
    obtain ⟨x5_2, rfl, HA, HK2, BK153, BK154, HB⟩ := hrel
    cases gk with
    | zero => exact absurd HA.out (by simp [r2_Same.l0])
    | succ k2 =>
     have H := HA.out
     clear HA
     simp only [r2_Same.l0] at H
     by_cases c22 : x5_2 < (l0_3.length : Int)
     rotate_left
     ·rw [if_neg c22] at H
      have c22b0 : decide (x5_2 < (l0_3.length : Int)) = false := decide_eq_false c22
      clear c22
      obtain rfl := Option.some.inj H
      have hnb35 := NB153_154.out
      have hnc35 := NB154_153.out
      obtain ⟨hcz36_0, hcz36_1, hcz36_2, hcz36_3, hfz36_0, hfz36_1, hfz36_2, hfz36_3⟩ := cf4 BK153.out
      go_wp2
      go_ret
      exact ⟨rr, bb HB⟩
     rw [if_pos c22] at H
     have c22b0 : decide (x5_2 < (l0_3.length : Int)) = true := decide_eq_true c22
     clear c22
     by_cases c23 : 0 ≤ x5_2
     rotate_left
     ·rw [if_neg c23] at H
      exact absurd H (by simp)
     rw [if_pos c23] at H
     have c23b0 : decide (0 ≤ x5_2) = true := decide_eq_true c23
     clear c23
     by_cases c24 : x5_2 < (l1_3.length : Int)
     rotate_left
     ·rw [if_neg c24] at H
      exact absurd H (by simp)
     rw [if_pos c24] at H
     have c24b0 : decide (x5_2 < (l1_3.length : Int)) = true := decide_eq_true c24
     clear c24
     obtain ⟨t157, A25, H⟩ := be H
     by_cases c26 : t157 = true
     rotate_left
     ·replace c26 := Bool.eq_false_iff.mpr c26
      subst c26
      replace H := fi H
      obtain rfl := Option.some.inj H
      have hnb31 := NB153_154.out
      have hnc31 := NB154_153.out
      obtain ⟨hcz32_0, hcz32_1, hcz32_2, hcz32_3, hfz32_0, hfz32_1, hfz32_2, hfz32_3⟩ := cf4 BK153.out
      try go_wp2
      replace BK153 := Aside0.mk (kdr BK153.out)
      replace BK154 := Aside0.mk (kdr BK154.out)
      replace HB := Aside0.mk (bd1 HB.out)
      have p155 : 0 ≤ (x5_2 : Int) := od
      have q155 : x5_2 < (l0_3.length : Int) := od
      obtain ⟨ad155, A155_3, c155_3, e155, hx155_0, hx155_1, hx155_2, hx155_3, hl155_3, hi155_3⟩ := at_T28 HR0_3.out x5_2 p155 q155
      have hw155_3 := hx155_3
      have hw155_2 := hx155_2
      have hw155_1 := hx155_1
      have hw155_0 := hx155_0
      cases e155
      replace hx155_0 := bcell HB.out hx155_0
      replace hx155_1 := bcell HB.out hx155_1
      replace hx155_2 := bcell HB.out hx155_2
      replace hx155_3 := bcell HB.out hx155_3
      have HR155_3 := Aside0.mk hi155_3
      have HC155_3 := Aside0.mk hl155_3
      clear hi155_3 hl155_3
      replace p155 := eq_true p155
      replace q155 := eq_true q155
      have p156 : 0 ≤ (x5_2 : Int) := od
      have q156 : x5_2 < (l1_3.length : Int) := od
      obtain ⟨ad156, A156_3, c156_3, e156, hx156_0, hx156_1, hx156_2, hx156_3, hl156_3, hi156_3⟩ := at_T28 HR1_3.out x5_2 p156 q156
      have hw156_3 := hx156_3
      have hw156_2 := hx156_2
      have hw156_1 := hx156_1
      have hw156_0 := hx156_0
      cases e156
      replace hx156_0 := bcell HB.out hx156_0
      replace hx156_1 := bcell HB.out hx156_1
      replace hx156_2 := bcell HB.out hx156_2
      replace hx156_3 := bcell HB.out hx156_3
      have HR156_3 := Aside0.mk hi156_3
      have HC156_3 := Aside0.mk hl156_3
      clear hi156_3 hl156_3
      replace p156 := eq_true p156
      replace q156 := eq_true q156
      refine start_ (n := 12) (S := fun w' => w'.cell? ⟨gb153, 0, none⟩ = some (.int .i64 a0_0) ∧ w'.cell? ⟨gb153, 1, none⟩ = some (.int .i64 a0_1) ∧ w'.cell? ⟨gb153, 2, none⟩ = some (.int .i64 a0_2) ∧ w'.cell? ⟨gb153, 3, none⟩ = some (.slice (some ad155) l0_3.length c0_3) ∧ w'.cell? ⟨gb154, 0, none⟩ = some (.int .i64 a1_0) ∧ w'.cell? ⟨gb154, 1, none⟩ = some (.int .i64 a1_1) ∧ w'.cell? ⟨gb154, 2, none⟩ = some (.int .i64 a1_2) ∧ w'.cell? ⟨gb154, 3, none⟩ = some (.slice (some ad156) l1_3.length c1_3) ∧ w'.cell? (ad155.add ((x5_2).toNat * 4)) = some (.int .i64 ((rd_T28 l0_3 x5_2).f0)) ∧ w'.cell? ⟨(ad155.add ((x5_2).toNat * 4)).block, (ad155.add ((x5_2).toNat * 4)).off + 1, none⟩ = some (.int .i64 ((rd_T28 l0_3 x5_2).f1)) ∧ w'.cell? ⟨(ad155.add ((x5_2).toNat * 4)).block, (ad155.add ((x5_2).toNat * 4)).off + 2, none⟩ = some (.int .i64 ((rd_T28 l0_3 x5_2).f2)) ∧ w'.cell? ⟨(ad155.add ((x5_2).toNat * 4)).block, (ad155.add ((x5_2).toNat * 4)).off + 3, none⟩ = some (.slice A155_3 ((rd_T28 l0_3 x5_2).f3).length c155_3) ∧ w'.cell? (ad156.add ((x5_2).toNat * 4)) = some (.int .i64 ((rd_T28 l1_3 x5_2).f0)) ∧ w'.cell? ⟨(ad156.add ((x5_2).toNat * 4)).block, (ad156.add ((x5_2).toNat * 4)).off + 1, none⟩ = some (.int .i64 ((rd_T28 l1_3 x5_2).f1)) ∧ w'.cell? ⟨(ad156.add ((x5_2).toNat * 4)).block, (ad156.add ((x5_2).toNat * 4)).off + 2, none⟩ = some (.int .i64 ((rd_T28 l1_3 x5_2).f2)) ∧ w'.cell? ⟨(ad156.add ((x5_2).toNat * 4)).block, (ad156.add ((x5_2).toNat * 4)).off + 3, none⟩ = some (.slice A156_3 ((rd_T28 l1_3 x5_2).f3).length c156_3)) (ds := []) #[false, false, false, false, false, false, false, false, false, false, false, false] (by kernel_rfl) rfl rfl ⟨(blk_cell BK153.out 0).trans rfl, (blk_cell BK153.out 1).trans rfl, (blk_cell BK153.out 2).trans rfl, (blk_cell BK153.out 3).trans rfl, (blk_cell BK154.out 0).trans rfl, (blk_cell BK154.out 1).trans rfl, (blk_cell BK154.out 2).trans rfl, (blk_cell BK154.out 3).trans rfl, (bcell HB.out hw155_0), (bcell HB.out hw155_1), (bcell HB.out hw155_2), (bcell HB.out hw155_3), (bcell HB.out hw156_0), (bcell HB.out hw156_1), (bcell HB.out hw156_2), (bcell HB.out hw156_3)⟩ (fun hHeld => ?_); refine with_tabW r2_Same.tab6 r2_Same.bits6 (fun HT_ HW_ => ?_)
      generalize wr.drew = w33 at BK153 BK154 HB HR155_3 HR156_3 hx155_0 hx155_1 hx155_2 hx155_3 hx156_0 hx156_1 hx156_2 hx156_3 hHeld ⊢
      refine pT 0 41 (bl 12 1) HT_ rfl rfl ?_
      refine pT 2 43 (bl 12 5) HT_ rfl rfl ?_
      refine pT 5 46 (bl 12 37) HT_ rfl rfl ?_
      refine pT 7 48 (bl 12 165) HT_ rfl rfl ?_
      refine tk (i := 1) (N := some 42) (bl 12 167) rfl rfl (take_ofW HT_.out HW_.out (by kernel_rfl)) hHeld ?_
      refine pT 3 44 (bl 12 175) HT_ rfl rfl ?_
      refine tk (i := 4) (N := some 45) (bl 12 191) rfl rfl (take_ofW HT_.out HW_.out (by kernel_rfl)) hHeld ?_
      refine tk (i := 6) (N := some 47) (bl 12 255) rfl rfl (take_ofW HT_.out HW_.out (by kernel_rfl)) hHeld ?_
      refine pT 8 49 (bl 12 511) HT_ rfl rfl ?_
      refine tk (i := 9) (N := some 50) (bl 12 1023) rfl rfl (take_ofW HT_.out HW_.out (by kernel_rfl)) hHeld ?_
      refine one_ (i := 10) (N := some 51) (bl 12 2047) rfl rfl (one_of HT_.out (by kernel_rfl)) (by decide) (fun K hK => ?_)
      refine gO Try.func14 #[.agg #[.int .i64 ((rd_T28 l0_3 x5_2).f0), .int .i64 ((rd_T28 l0_3 x5_2).f1), .int .i64 ((rd_T28 l0_3 x5_2).f2), .slice A155_3 ((rd_T28 l0_3 x5_2).f3).length c155_3], .agg #[.int .i64 ((rd_T28 l1_3 x5_2).f0), .int .i64 ((rd_T28 l1_3 x5_2).f1), .int .i64 ((rd_T28 l1_3 x5_2).f2), .slice A156_3 ((rd_T28 l1_3 x5_2).f3).length c156_3]] (by rfl) rfl rfl ?_
      with_reducible refine (ih k2 (by have := HJ2.out; have := HK2.out; omega) ((rd_T28 l0_3 x5_2).f0) ((rd_T28 l0_3 x5_2).f1) ((rd_T28 l0_3 x5_2).f2) _ _ ((rd_T28 l0_3 x5_2).f3) ((rd_T28 l1_3 x5_2).f0) ((rd_T28 l1_3 x5_2).f1) ((rd_T28 l1_3 x5_2).f2) _ _ ((rd_T28 l1_3 x5_2).f3) false _ ?side1 ?side2 ?side3 ?side4 A25.out).mono ?_
      (case side1 => exact cb HR155_3 HB)
      (case side2 => exact HC155_3.out)
      (case side3 => exact cb HR156_3 HB)
      (case side4 => exact HC156_3.out)
      rintro e w34 ⟨rfl, hb⟩
      refine ⟨_, rfl, ?_⟩
      replace BK153 := kb BK153 hb
      replace BK154 := kb BK154 hb
      replace HB := sb HB hb
      (try clear hb)
      (try clear hb2)
      (try clear hk)
      (try clear hi)
      refine hK.out _ _ ⟨(blk_cell BK153.out 0).trans rfl, (blk_cell BK153.out 1).trans rfl, (blk_cell BK153.out 2).trans rfl, (blk_cell BK153.out 3).trans rfl, (blk_cell BK154.out 0).trans rfl, (blk_cell BK154.out 1).trans rfl, (blk_cell BK154.out 2).trans rfl, (blk_cell BK154.out 3).trans rfl, (bcell HB.out hw155_0), (bcell HB.out hw155_1), (bcell HB.out hw155_2), (bcell HB.out hw155_3), (bcell HB.out hw156_0), (bcell HB.out hw156_1), (bcell HB.out hw156_2), (bcell HB.out hw156_3)⟩ (fun hHeld => ?_)
      clear hK K
      refine nm 51 ?_
      refine pT 11 52 (bl 12 4095) HT_ rfl rfl ?_
      refine done_ (done_of HT_.out (by kernel_rfl)) ?_
      try go_wp2
      go_ret
      exact ⟨rr, bb HB⟩
     subst c26
     replace H := it H
     have H' := Aside0.mk H
     clear H
     have hnb27 := NB153_154.out
     have hnc27 := NB154_153.out
     obtain ⟨hcz28_0, hcz28_1, hcz28_2, hcz28_3, hfz28_0, hfz28_1, hfz28_2, hfz28_3⟩ := cf4 BK153.out
     try go_wp2
     replace BK153 := Aside0.mk (kdr BK153.out)
     replace BK154 := Aside0.mk (kdr BK154.out)
     replace HB := Aside0.mk (bd1 HB.out)
     have p155 : 0 ≤ (x5_2 : Int) := od
     have q155 : x5_2 < (l0_3.length : Int) := od
     obtain ⟨ad155, A155_3, c155_3, e155, hx155_0, hx155_1, hx155_2, hx155_3, hl155_3, hi155_3⟩ := at_T28 HR0_3.out x5_2 p155 q155
     have hw155_3 := hx155_3
     have hw155_2 := hx155_2
     have hw155_1 := hx155_1
     have hw155_0 := hx155_0
     cases e155
     replace hx155_0 := bcell HB.out hx155_0
     replace hx155_1 := bcell HB.out hx155_1
     replace hx155_2 := bcell HB.out hx155_2
     replace hx155_3 := bcell HB.out hx155_3
     have HR155_3 := Aside0.mk hi155_3
     have HC155_3 := Aside0.mk hl155_3
     clear hi155_3 hl155_3
     replace p155 := eq_true p155
     replace q155 := eq_true q155
     have p156 : 0 ≤ (x5_2 : Int) := od
     have q156 : x5_2 < (l1_3.length : Int) := od
     obtain ⟨ad156, A156_3, c156_3, e156, hx156_0, hx156_1, hx156_2, hx156_3, hl156_3, hi156_3⟩ := at_T28 HR1_3.out x5_2 p156 q156
     have hw156_3 := hx156_3
     have hw156_2 := hx156_2
     have hw156_1 := hx156_1
     have hw156_0 := hx156_0
     cases e156
     replace hx156_0 := bcell HB.out hx156_0
     replace hx156_1 := bcell HB.out hx156_1
     replace hx156_2 := bcell HB.out hx156_2
     replace hx156_3 := bcell HB.out hx156_3
     have HR156_3 := Aside0.mk hi156_3
     have HC156_3 := Aside0.mk hl156_3
     clear hi156_3 hl156_3
     replace p156 := eq_true p156
     replace q156 := eq_true q156
     refine start_ (n := 12) (S := fun w' => w'.cell? ⟨gb153, 0, none⟩ = some (.int .i64 a0_0) ∧ w'.cell? ⟨gb153, 1, none⟩ = some (.int .i64 a0_1) ∧ w'.cell? ⟨gb153, 2, none⟩ = some (.int .i64 a0_2) ∧ w'.cell? ⟨gb153, 3, none⟩ = some (.slice (some ad155) l0_3.length c0_3) ∧ w'.cell? ⟨gb154, 0, none⟩ = some (.int .i64 a1_0) ∧ w'.cell? ⟨gb154, 1, none⟩ = some (.int .i64 a1_1) ∧ w'.cell? ⟨gb154, 2, none⟩ = some (.int .i64 a1_2) ∧ w'.cell? ⟨gb154, 3, none⟩ = some (.slice (some ad156) l1_3.length c1_3) ∧ w'.cell? (ad155.add ((x5_2).toNat * 4)) = some (.int .i64 ((rd_T28 l0_3 x5_2).f0)) ∧ w'.cell? ⟨(ad155.add ((x5_2).toNat * 4)).block, (ad155.add ((x5_2).toNat * 4)).off + 1, none⟩ = some (.int .i64 ((rd_T28 l0_3 x5_2).f1)) ∧ w'.cell? ⟨(ad155.add ((x5_2).toNat * 4)).block, (ad155.add ((x5_2).toNat * 4)).off + 2, none⟩ = some (.int .i64 ((rd_T28 l0_3 x5_2).f2)) ∧ w'.cell? ⟨(ad155.add ((x5_2).toNat * 4)).block, (ad155.add ((x5_2).toNat * 4)).off + 3, none⟩ = some (.slice A155_3 ((rd_T28 l0_3 x5_2).f3).length c155_3) ∧ w'.cell? (ad156.add ((x5_2).toNat * 4)) = some (.int .i64 ((rd_T28 l1_3 x5_2).f0)) ∧ w'.cell? ⟨(ad156.add ((x5_2).toNat * 4)).block, (ad156.add ((x5_2).toNat * 4)).off + 1, none⟩ = some (.int .i64 ((rd_T28 l1_3 x5_2).f1)) ∧ w'.cell? ⟨(ad156.add ((x5_2).toNat * 4)).block, (ad156.add ((x5_2).toNat * 4)).off + 2, none⟩ = some (.int .i64 ((rd_T28 l1_3 x5_2).f2)) ∧ w'.cell? ⟨(ad156.add ((x5_2).toNat * 4)).block, (ad156.add ((x5_2).toNat * 4)).off + 3, none⟩ = some (.slice A156_3 ((rd_T28 l1_3 x5_2).f3).length c156_3)) (ds := []) #[false, false, false, false, false, false, false, false, false, false, false, false] (by kernel_rfl) rfl rfl ⟨(blk_cell BK153.out 0).trans rfl, (blk_cell BK153.out 1).trans rfl, (blk_cell BK153.out 2).trans rfl, (blk_cell BK153.out 3).trans rfl, (blk_cell BK154.out 0).trans rfl, (blk_cell BK154.out 1).trans rfl, (blk_cell BK154.out 2).trans rfl, (blk_cell BK154.out 3).trans rfl, (bcell HB.out hw155_0), (bcell HB.out hw155_1), (bcell HB.out hw155_2), (bcell HB.out hw155_3), (bcell HB.out hw156_0), (bcell HB.out hw156_1), (bcell HB.out hw156_2), (bcell HB.out hw156_3)⟩ (fun hHeld => ?_); refine with_tabW r2_Same.tab6 r2_Same.bits6 (fun HT_ HW_ => ?_)
     generalize wr.drew = w29 at BK153 BK154 HB HR155_3 HR156_3 hx155_0 hx155_1 hx155_2 hx155_3 hx156_0 hx156_1 hx156_2 hx156_3 hHeld ⊢
     refine pT 0 41 (bl 12 1) HT_ rfl rfl ?_
     refine pT 2 43 (bl 12 5) HT_ rfl rfl ?_
     refine pT 5 46 (bl 12 37) HT_ rfl rfl ?_
     refine pT 7 48 (bl 12 165) HT_ rfl rfl ?_
     refine tk (i := 1) (N := some 42) (bl 12 167) rfl rfl (take_ofW HT_.out HW_.out (by kernel_rfl)) hHeld ?_
     refine pT 3 44 (bl 12 175) HT_ rfl rfl ?_
     refine tk (i := 4) (N := some 45) (bl 12 191) rfl rfl (take_ofW HT_.out HW_.out (by kernel_rfl)) hHeld ?_
     refine tk (i := 6) (N := some 47) (bl 12 255) rfl rfl (take_ofW HT_.out HW_.out (by kernel_rfl)) hHeld ?_
     refine pT 8 49 (bl 12 511) HT_ rfl rfl ?_
     refine tk (i := 9) (N := some 50) (bl 12 1023) rfl rfl (take_ofW HT_.out HW_.out (by kernel_rfl)) hHeld ?_
     refine one_ (i := 10) (N := some 51) (bl 12 2047) rfl rfl (one_of HT_.out (by kernel_rfl)) (by decide) (fun K hK => ?_)
     refine gO Try.func14 #[.agg #[.int .i64 ((rd_T28 l0_3 x5_2).f0), .int .i64 ((rd_T28 l0_3 x5_2).f1), .int .i64 ((rd_T28 l0_3 x5_2).f2), .slice A155_3 ((rd_T28 l0_3 x5_2).f3).length c155_3], .agg #[.int .i64 ((rd_T28 l1_3 x5_2).f0), .int .i64 ((rd_T28 l1_3 x5_2).f1), .int .i64 ((rd_T28 l1_3 x5_2).f2), .slice A156_3 ((rd_T28 l1_3 x5_2).f3).length c156_3]] (by rfl) rfl rfl ?_
     with_reducible refine (ih k2 (by have := HJ2.out; have := HK2.out; omega) ((rd_T28 l0_3 x5_2).f0) ((rd_T28 l0_3 x5_2).f1) ((rd_T28 l0_3 x5_2).f2) _ _ ((rd_T28 l0_3 x5_2).f3) ((rd_T28 l1_3 x5_2).f0) ((rd_T28 l1_3 x5_2).f1) ((rd_T28 l1_3 x5_2).f2) _ _ ((rd_T28 l1_3 x5_2).f3) true _ ?side1 ?side2 ?side3 ?side4 A25.out).mono ?_
     (case side1 => exact cb HR155_3 HB)
     (case side2 => exact HC155_3.out)
     (case side3 => exact cb HR156_3 HB)
     (case side4 => exact HC156_3.out)
     rintro e w30 ⟨rfl, hb⟩
     refine ⟨_, rfl, ?_⟩
     replace BK153 := kb BK153 hb
     replace BK154 := kb BK154 hb
     replace HB := sb HB hb
     (try clear hb)
     (try clear hb2)
     (try clear hk)
     (try clear hi)
     refine hK.out _ _ ⟨(blk_cell BK153.out 0).trans rfl, (blk_cell BK153.out 1).trans rfl, (blk_cell BK153.out 2).trans rfl, (blk_cell BK153.out 3).trans rfl, (blk_cell BK154.out 0).trans rfl, (blk_cell BK154.out 1).trans rfl, (blk_cell BK154.out 2).trans rfl, (blk_cell BK154.out 3).trans rfl, (bcell HB.out hw155_0), (bcell HB.out hw155_1), (bcell HB.out hw155_2), (bcell HB.out hw155_3), (bcell HB.out hw156_0), (bcell HB.out hw156_1), (bcell HB.out hw156_2), (bcell HB.out hw156_3)⟩ (fun hHeld => ?_)
     clear hK K
     refine nm 51 ?_
     refine pT 11 52 (bl 12 4095) HT_ rfl rfl ?_
     refine done_ (done_of HT_.out (by kernel_rfl)) ?_
     try go_wp2
     go_roundg k2
     case measure => have := HJ2.out; have := HK2.out; omega
     case rel => exact ⟨(wrap64 (x5_2 + 1)), rs, H', ⟨by have := HJ2.out; have := HK2.out; omega⟩, ⟨kk BK153⟩, ⟨kk BK154⟩, ⟨bb HB⟩⟩
mutual
def plE (m : Int) : S28 → S28
  | ⟨op, n, c, l⟩ => if op = 1 then ⟨op, wrap64 (n + wrap64 (m * c)), 0, plEs m l⟩ else ⟨op, n, 0, plEs m l⟩
def plEs (m : Int) : List S28 → List S28
  | [] => []
  | x :: r => plE m x :: plEs m r
end
theorem plEs_length (m : Int) : ∀ l, (plEs m l).length = l.length
  | [] => by simp only [plEs]
  | x :: r => by simp only [plEs, List.length_cons, plEs_length m r]
theorem plE_good (m : Int) : (∀ x, goodE x → goodE (plE m x) ∧ eN (plE m x) = eN x) ∧ (∀ l, goodEs l → goodEs (plEs m l) ∧ eNs (plEs m l) = eNs l) := by
  refine E_ind (fun a b c l ih => ?_) (fun _ => ?_) (fun x r h1 h2 => ?_)
  · rintro ⟨hl, hg⟩
    obtain ⟨i1, i2⟩ := ih hg
    simp only [plE]
    split
    · exact ⟨⟨by rw [plEs_length]; exact hl, i1⟩, by simp only [eN, i2]⟩
    · exact ⟨⟨by rw [plEs_length]; exact hl, i1⟩, by simp only [eN, i2]⟩
  · simp only [plEs]; exact ⟨trivial, trivial⟩
  · rintro ⟨g1, g2⟩
    obtain ⟨a1, a2⟩ := h1 g1
    obtain ⟨b1, b2⟩ := h2 g2
    simp only [plEs, eNs, a2, b2]
    exact ⟨⟨a1, b1⟩, trivial⟩
theorem nodeIs_copy {w : Int} {vars : List S66} {kk a b c n : Int} (h : nodeIs w vars kk a b c n = true) (h1 : a ≠ 1) : c = 0 := by
  unfold nodeIs at h
  rw [Bool.and_eq_true] at h
  have h := h.2
  unfold nodeOk at h
  by_cases h0 : a = 0
  · rw [if_pos h0] at h
    split at h
    · cases h
    · split at h
      · cases h
      · split at h
        · assumption
        · cases h
  · rw [if_neg h0, if_neg h1] at h
    split at h
    · split at h
      · assumption
      · cases h
    · cases h
theorem mvE_pl (w : Int) (vars : List S66) (kk m : Int) : (∀ x, eOK w vars kk x = true → eN x ≤ 1000 → mvE (fun c => some (wrap64 (c * m))) x = some (plE m x)) ∧
    (∀ l, eOKs w vars kk l = true → eNs l ≤ 1000 → mvEs (fun c => some (wrap64 (c * m))) l = some (plEs m l)) := by
  refine E_ind (fun a b c l ih => ?_) (fun _ _ => ?_) (fun x r h1 h2 => ?_)
  · intro ho hn
    simp only [eOK, Bool.and_eq_true] at ho
    simp only [eN] at hn
    have := ih ho.2 (by omega)
    unfold mvE plE
    rw [this]
    by_cases h1 : a = 1
    · rw [if_pos h1, if_pos h1, Int.mul_comm c m]; rfl
    · rw [if_neg h1, if_neg h1, nodeIs_copy ho.1 h1]; rfl
  · simp only [mvEs, plEs]
  · intro ho hn
    simp only [eOKs, Bool.and_eq_true] at ho
    simp only [eNs] at hn
    have hp := eN_pos x
    have hle : r.length ≤ eNs r := eNs_len r
    unfold mvEs plEs
    rw [h1 ho.1 (by omega), h2 ho.2 (by omega), Option.bind_some, Option.bind_some, if_pos (by omega)]
def noE : S28 := ⟨0, 0, 0, []⟩
def plC (w : Int) (vars : List S66) (body : List S64) (k : Int) (x : S28) : Int :=
  if cpE w vars body k = 0 then (if hIs w (vsN vars k.toNat) = true then (if eIs w vars k x = true then 0 else 20) else 2) else cpE w vars body k
def plX (w : Int) (vars : List S66) (body : List S64) (k : Int) (x : S28) : S28 := if plC w vars body k x = 0 then plE (vars.length : Int) x else noE
def plR (w : Int) (vars : List S66) (body : List S64) (k : Int) (x : S28) : Int × Int × Int × List S28 × Int :=
  ((plX w vars body k x).f0, (plX w vars body k x).f1, (plX w vars body k x).f2, (plX w vars body k x).f3, plC w vars body k x)
theorem plR_no {w : Int} {vars : List S66} {body : List S64} {k : Int} {x : S28} {n : Int} (h : plC w vars body k x = n) (hn : n ≠ 0) : plR w vars body k x = (0, 0, 0, [], n) := by
  unfold plR plX
  rw [h, if_neg hn]
  rfl
theorem plR_ok {w : Int} {vars : List S66} {body : List S64} {k : Int} {x : S28} (h : plC w vars body k x = 0) : plR w vars body k x = ((plE (vars.length : Int) x).f0, (plE (vars.length : Int) x).f1, (plE (vars.length : Int) x).f2, (plE (vars.length : Int) x).f3, 0) := by
  unfold plR plX
  rw [h, if_pos rfl]
theorem sgE_vals (w : Int) (vars : List S66) (body : List S64) : (pIs w vars body = true ∧ sgE w vars body = 0) ∨ (pIs w vars body = true ∧ sgE w vars body = 1) ∨ (pIs w vars body = false ∧ sgE w vars body = 30) := by
  unfold sgE
  cases pIs w vars body
  · exact .inr (.inr ⟨rfl, rfl⟩)
  · cases sgB vars body
    · exact .inr (.inl ⟨rfl, rfl⟩)
    · exact .inl ⟨rfl, rfl⟩
theorem eIs_400 {w : Int} {vars : List S66} {k : Int} {x : S28} (h : eIs w vars k x = true) : eN x ≤ 400 ∧ eOK w vars k x = true := by
  unfold eIs at h
  rw [Bool.and_eq_true, Bool.and_eq_true, decide_eq_true_eq] at h
  exact ⟨h.1, h.2.2⟩
theorem vs_tells (vars : List S66) (hl : vars.length ≤ 1000) (hv : ∀ v ∈ vars, v.f0.size ≤ 1000) : ∀ n : Nat, n ≤ 3 → Tells (fun k => prod_Plain.vs k vars n) (vsN vars n)
  | 0, _ => by
    unfold prod_Plain.vs vsN
    exact Tells.pure _
  | n + 1, hn => by
    unfold prod_Plain.vs vsN
    refine Tells.bind (vs_tells vars hl hv n (by omega)) (Tells.bind (variables_tells (n : Int) (by omega) (by omega) vars hl hv) (Tells.ifT ?_ (Tells.pure _)))
    rw [vsN_length, List.length_map]
    have : n * vars.length ≤ 2 * 1000 := Nat.mul_le_mul (by omega) hl
    omega
theorem pIs_width {w : Int} {vars : List S66} {body : List S64} (hp : pIs w vars body = true) : 1 ≤ w ∧ w ≤ 8 := by
  obtain ⟨hh, _⟩ := pIs_all hp
  obtain ⟨h1, h8, _⟩ := hIs_all hh
  exact ⟨h1, h8⟩
theorem heading_ok {w : Int} {vars : List S66} {body : List S64} (hp : pIs w vars body = true) : Tells (fun k => expr_Heading.f k w vars) 0 := by
  have := Heading_tells w vars
  rw [(pIs_all hp).1] at this
  exact this
theorem prodPlain_tells (w : Int) (vars : List S66) (body : List S64) (hl : body.length ≤ 9223372036854775807) (hg : goodSs body) (k : Int) (x : S28) (ge : goodE x) :
    Tells (fun j => prod_Plain.f j w vars body k x.f0 x.f1 x.f2 x.f3) (plR w vars body k x) := by
  unfold prod_Plain.f
  refine Tells.bind (pCheck_tells w vars body hl hg) ?_
  have ts := prodSingle_tells w vars body hl hg
  rcases sgE_vals w vars body with ⟨hp, hs⟩ | ⟨hp, hs⟩ | ⟨hp, hs⟩
  · rw [hp]
    refine Tells.ifT rfl ?_
    by_cases c1 : k < 1
    · rw [plR_no (n := 1) (by unfold plC cpE; rw [hs, if_pos rfl, if_pos c1, if_neg (by decide)]) (by decide)]
      exact Tells.ifT c1 (Tells.pure _)
    refine Tells.ifF c1 ?_
    by_cases c3 : k > 3
    · rw [plR_no (n := 1) (by unfold plC cpE; rw [hs, if_pos rfl, if_neg c1, if_pos c3, if_neg (by decide)]) (by decide)]
      exact Tells.ifT c3 (Tells.pure _)
    refine Tells.ifF c3 (Tells.bind ts (Tells.ifT hs ?_))
    have hcp : cpE w vars body k = 0 := by unfold cpE; rw [hs, if_pos rfl, if_neg c1, if_neg c3]
    obtain ⟨vl, vn⟩ := pIs_names hp
    obtain ⟨h1, h8⟩ := pIs_width hp
    refine Tells.bind (vs_tells vars vl vn k.toNat (by omega)) (Tells.bind (Heading_tells w (vsN vars k.toNat)) ?_)
    by_cases hh : hIs w (vsN vars k.toNat) = true
    · rw [hh]
      refine Tells.ifT rfl (Tells.bind (Check_tells w vars k h1 h8 (by omega) (by omega) (heading_ok hp) x ge) ?_)
      by_cases he : eIs w vars k x = true
      · rw [he]
        refine Tells.ifT rfl ?_
        obtain ⟨n4, ok⟩ := eIs_400 he
        have em := (mvE_pl w vars k (vars.length : Int)).1 x ok (by omega)
        rw [plR_ok (by unfold plC; rw [if_pos hcp, if_pos hh, if_pos he])]
        rw [E_eta, em]
        exact Tells.pure _
      · rw [Bool.eq_false_iff.2 he, plR_no (n := 20) (by unfold plC; rw [if_pos hcp, if_pos hh, if_neg he]) (by decide)]
        exact Tells.ifF (by decide) (Tells.pure _)
    · rw [Bool.eq_false_iff.2 hh, plR_no (n := 2) (by unfold plC; rw [if_pos hcp, if_neg hh]) (by decide)]
      exact Tells.ifF (by decide) (Tells.pure _)
  · rw [hp]
    have hc : cpE w vars body k = 1 := by unfold cpE; rw [hs, if_neg (by decide)]
    rw [plR_no (n := 1) (by unfold plC; rw [hc, if_neg (by decide)]) (by decide)]
    refine Tells.ifT rfl ?_
    by_cases c1 : k < 1
    · exact Tells.ifT c1 (Tells.pure _)
    refine Tells.ifF c1 ?_
    by_cases c3 : k > 3
    · exact Tells.ifT c3 (Tells.pure _)
    refine Tells.ifF c3 (Tells.bind ts (Tells.ifF (by rw [hs]; decide) (Tells.pure _)))
  · rw [hp]
    have hc : cpE w vars body k = 30 := by unfold cpE; rw [hs, if_neg (by decide)]
    rw [plR_no (n := 30) (by unfold plC; rw [hc, if_neg (by decide)]) (by decide)]
    exact Tells.ifF (by decide) (Tells.pure _)
def prod_cells.l0 : Nat → Int → List (S66) → Int → Int → Option (Int)
 | 0, _, _, _, _ => none
 | k + 1, x3, x7, x8, x9 => if x9 < x8 then (if 0 ≤ x9 then (if x9 < (x7.length : Int) then (prod_cells.l0 k (wrap64 (x3 + ((rd_T66 x7 x9).f2))) x7 x8 (wrap64 (x9 + 1))) else (none)) else (none)) else (some x3)
def prod_cells.f (k : Nat) (a0_0 : Int) (l0_1 : List (S66)) (l0_2 : List (S64)) : Option (Int) := prod_cells.l0 k 0 l0_1 (l0_1.length : Int) 0
theorem prod_cells.calls (k : Nat) (a0_0 : Int) (A0_1 : Option Addr) (c0_1 : Nat) (l0_1 : List (S66)) (A0_2 : Option Addr) (c0_2 : Nat) (l0_2 : List (S64)) (r : Int) (w : World) (hr0_1 : Kd.C k66 w A0_1 l0_1.length l0_1) (hc0_1 : l0_1.length ≤ c0_1) (hr0_2 : Kd.C k64 w A0_2 l0_2.length l0_2) (hc0_2 : l0_2.length ≤ c0_2) (h : prod_cells.f k a0_0 l0_1 l0_2 = some r) :
  Calls Try.prog 55 #[.agg #[.int .i64 a0_0, .slice A0_1 l0_1.length c0_1, .slice A0_2 l0_2.length c0_2]] w fun e w' => e = .returned (.int .i64 r) ∧ Below w.heap.size w w' := by
 have hu25 := Try.underlying25
 have hu66 := Try.underlying66
 have HR0_1 := Aside0.mk hr0_1
 have HC0_1 := Aside0.mk hc0_1
 clear hr0_1 hc0_1
 have HR0_2 := Aside0.mk hr0_2
 have HC0_2 := Aside0.mk hc0_2
 clear hr0_2 hc0_2
 have HB := Aside0.mk (Below.refl w.heap.size w)
 have H : (prod_cells.l0 k 0 l0_1 (l0_1.length : Int) 0) = some r := h
 clear h
 have H' := Aside0.mk H
 clear H
 go_enter Try.func55, Try.ntmps55
 go_wp2_with (first | ((with_reducible refine gate_dst (N := 1) rfl ?_); refine bx 1 rfl rfl #[.int .i64 a0_0, .slice A0_1 l0_1.length c0_1, .slice A0_2 l0_2.length c0_2] 25 ?_; intro gb165 hg w2 hbox hb; have BK165 := Aside0.mk (hbox); have GE165 := ge HB hg; replace HB := sb HB hb; clear hb hbox hg; obtain ⟨hcz3_0, hcz3_1, hcz3_2, hfz3_0, hfz3_1, hfz3_2⟩ := cf3 BK165.out))
 go_loopg [3, 9] k (fun kq v3 v9 w' => ∃ (x3_1 : Int) (x9_1 : Int), v3 = .int .i64 x3_1 ∧ v9 = .int .i64 x9_1 ∧ Aside0 (prod_cells.l0 kq x3_1 l0_1 (l0_1.length : Int) x9_1 = some r) ∧ Aside0 (kq ≤ k) ∧ Aside0 (w'.heap[gb165]? = some (.cells #[.int .i64 a0_0, (.slice A0_1 l0_1.length c0_1), (.slice A0_2 l0_2.length c0_2)] 25 (0, 0))) ∧ Aside0 (Below w.heap.size w w'))
 case atStart => exact ⟨(0), (0), rs, rs, H', ⟨Nat.le_refl _⟩, ⟨kk BK165⟩, ⟨bb HB⟩⟩
 case round =>
  clear H'
  try clear p2
  try clear hcz3_0 hcz3_1 hcz3_2 hfz3_0 hfz3_1 hfz3_2
  obtain ⟨x3_1, x9_1, rfl, rfl, HA, HK1, BK165, HB⟩ := hrel
  cases gk with
  | zero => exact absurd HA.out (by simp [prod_cells.l0])
  | succ k1 =>
   have H := HA.out
   clear HA
   simp only [prod_cells.l0] at H
   by_cases c4 : x9_1 < (l0_1.length : Int)
   rotate_left
   ·rw [if_neg c4] at H
    have c4b0 : decide (x9_1 < (l0_1.length : Int)) = false := decide_eq_false c4
    clear c4
    obtain rfl := Option.some.inj H
    go_wp2
    go_ret
    exact ⟨rr, bb HB⟩
   rw [if_pos c4] at H
   have c4b0 : decide (x9_1 < (l0_1.length : Int)) = true := decide_eq_true c4
   clear c4
   by_cases c5 : 0 ≤ x9_1
   rotate_left
   ·rw [if_neg c5] at H
    exact absurd H (by simp)
   rw [if_pos c5] at H
   have c5b0 : decide (0 ≤ x9_1) = true := decide_eq_true c5
   clear c5
   by_cases c6 : x9_1 < (l0_1.length : Int)
   rotate_left
   ·rw [if_neg c6] at H
    exact absurd H (by simp)
   rw [if_pos c6] at H
   have c6b0 : decide (x9_1 < (l0_1.length : Int)) = true := decide_eq_true c6
   clear c6
   have H' := Aside0.mk H
   clear H
   have p166 : 0 ≤ (x9_1 : Int) := od
   have q166 : x9_1 < (l0_1.length : Int) := od
   obtain ⟨ad166, e166, hx166_0, hx166_1, hx166_2⟩ := at_T66 HR0_1.out x9_1 p166 q166
   cases e166
   replace hx166_0 := bcell HB.out hx166_0
   replace hx166_1 := bcell HB.out hx166_1
   replace hx166_2 := bcell HB.out hx166_2
   replace p166 := eq_true p166
   replace q166 := eq_true q166
   go_wp2_with (first | ((with_reducible refine gate_dst (N := 5) rfl ?_); refine bx 5 rfl rfl #[.string (⟨#[]⟩ : ByteArray), .int .i64 0, .int .i64 0] 66 ?_; intro gb167 hg w7 hbox hb; have BK167 := Aside0.mk (hbox); have GE167 := ge HB hg; have NB165_167 := Aside0.mk ((by rw [hg]; exact Nat.ne_of_lt (blk_lt (kk BK165)) : gb165 ≠ gb167)); have NB167_165 := Aside0.mk ((by rw [hg]; exact Nat.ne_of_gt (blk_lt (kk BK165)) : gb167 ≠ gb165)); replace BK165 := kb BK165 hb; replace HB := sb HB hb; clear hb hbox hg; have hnb8 := NB167_165.out; have hnc8 := NB165_167.out; obtain ⟨hcz9_0, hcz9_1, hcz9_2, hfz9_0, hfz9_1, hfz9_2⟩ := cf3 BK167.out))
   go_roundg k1
   case measure => have := HK1.out; omega
   case rel => exact ⟨(wrap64 (x3_1 + ((rd_T66 l0_1 x9_1).f2))), (wrap64 (x9_1 + 1)), rs, rs, H', ⟨by have := HK1.out; omega⟩, ⟨kk BK165⟩, ⟨bb HB⟩⟩
def prod_words.l0 : Nat → Int → Int → Int → List Int → Int → Int → Option (Bool)
 | 0, _, _, _, _, _, _ => none
 | k + 1, x0, x5, x6, x18, x19, x20 => if x20 < x19 then (if 0 ≤ x20 then (if x20 < (x18.length : Int) then (prod_words.l0 k x0 (mn x5 (rd x18 x20)) (mx x6 (rd x18 x20)) x18 x19 (wrap64 (x20 + 1))) else (none)) else (none)) else (if x5 ≥ 0 then (if 0 ≤ (IntKind.u64.wrap (x0)) then (some (decide (x6 < (shl .i64 1 (IntKind.u64.wrap (x0)))))) else (none)) else (some false))
def prod_words.f (k : Nat) (a0 : Int) (l1 : List Int) : Option (Bool) := if (l1.length : Int) = 0 then (some true) else (if 0 < (l1.length : Int) then (prod_words.l0 k a0 (rd l1 0) (rd l1 0) l1 (l1.length : Int) 0) else (none))
theorem prod_words.calls (k : Nat) (a0 : Int) (A1 : Option Addr) (c1 : Nat) (l1 : List Int) (r : Bool) (w : World) (hr1 : Kd.C (Kd.int .i64) w A1 l1.length l1) (hc1 : l1.length ≤ c1) (h : prod_words.f k a0 l1 = some r) :
  Calls Try.prog 56 #[.int .i64 a0, .slice A1 l1.length c1] w fun e w' => e = .returned (.bool r) ∧ Below w.heap.size w w' := by
 have HR1 := Aside0.mk hr1
 have HC1 := Aside0.mk hc1
 clear hr1 hc1
 have HB := Aside0.mk (Below.refl w.heap.size w)
 have H : (if (l1.length : Int) = 0 then (some true) else (if 0 < (l1.length : Int) then (prod_words.l0 k a0 (rd l1 0) (rd l1 0) l1 (l1.length : Int) 0) else (none))) = some r := h
 clear h
 by_cases c3 : (l1.length : Int) = 0
 ·rw [if_pos c3] at H
  have c3b0 : ((l1.length : Int) == 0) = true := beq_iff_eq.mpr c3
  have c3b1 : ((l1.length : Int) != 0) = false := bne_eq_false_iff_eq.mpr c3
  clear c3
  obtain rfl := Option.some.inj H
  go_enter Try.func56, Try.ntmps56
  go_wp2
  repeat (go_quiet (fail); try go_wp2)
  go_ret
  exact ⟨rr, bb HB⟩
 rw [if_neg c3] at H
 have c3b0 : ((l1.length : Int) == 0) = false := beq_eq_false_iff_ne.mpr c3
 have c3b1 : ((l1.length : Int) != 0) = true := bne_iff_ne.mpr c3
 have c3b2 : ¬ (l1 = []) := fun h_ => c3 (by rw [h_]; rfl)
 by_cases c4 : 0 < (l1.length : Int)
 rotate_left
 ·rw [if_neg c4] at H
  exact absurd H (by simp)
 rw [if_pos c4] at H
 have c4b0 : decide (0 < (l1.length : Int)) = true := decide_eq_true c4
 have c4b1 : decide (0 < l1.length) = true := decide_eq_true (by omega)
 clear c4
 have H' := Aside0.mk H
 clear H
 have p168 : 0 ≤ (0 : Int) := (by omega)
 have q168 : 0 < (l1.length : Int) := od
 obtain ⟨ad168, e168, hx168_0⟩ := Kd.at_int HR1.out 0 p168 q168
 cases e168
 have qi168 : (0 < l1.length) = True := eq_true (by omega)
 (try rw [show ((0 : Int)).toNat = 0 from rfl] at hx168_0)
 (try rw [Addr.add_zero'] at hx168_0)
 replace p168 := eq_true p168
 replace q168 := eq_true q168
 have p169 : 0 ≤ (0 : Int) := (by omega)
 have q169 : 0 < (l1.length : Int) := od
 obtain ⟨ad169, e169, hx169_0⟩ := Kd.at_int HR1.out 0 p169 q169
 obtain rfl : ad168 = ad169 := (by injection e169)
 have qi169 : (0 < l1.length) = True := eq_true (by omega)
 (try rw [show ((0 : Int)).toNat = 0 from rfl] at hx169_0)
 (try rw [Addr.add_zero'] at hx169_0)
 replace p169 := eq_true p169
 replace q169 := eq_true q169
 go_enter Try.func56, Try.ntmps56
 go_wp2
 repeat (go_quiet (fail); try go_wp2)
 go_loopg [5, 6, 20] k (fun kq v5 v6 v20 w' => ∃ (x5_1 : Int) (x6_1 : Int) (x20_1 : Int), v5 = .int .i64 x5_1 ∧ v6 = .int .i64 x6_1 ∧ v20 = .int .i64 x20_1 ∧ Aside0 (prod_words.l0 kq a0 x5_1 x6_1 l1 (l1.length : Int) x20_1 = some r) ∧ Aside0 (kq ≤ k) ∧ Aside0 (Below w.heap.size w w'))
 case atStart => exact ⟨(rd l1 0), (rd l1 0), (0), rs, rs, rs, H', ⟨Nat.le_refl _⟩, ⟨bb HB⟩⟩
 case round =>
  clear H'
  try clear c1
  try clear p1
  try clear q1
  try clear hx1
  try clear qi1
  try clear p2
  try clear c3
  try clear c3b0
  try clear c3b1
  try clear c3b2
  try clear c4
  try clear c4b0
  try clear c4b1
  try clear hx168_0
  try clear hx169_0
  try clear p168
  try clear p169
  try clear q168
  try clear q169
  obtain ⟨x5_1, x6_1, x20_1, rfl, rfl, rfl, HA, HK1, HB⟩ := hrel
  cases gk with
  | zero => exact absurd HA.out (by simp [prod_words.l0])
  | succ k1 =>
   have H := HA.out
   clear HA
   simp only [prod_words.l0] at H
   by_cases c5 : x20_1 < (l1.length : Int)
   ·rw [if_pos c5] at H
    have c5b0 : decide (x20_1 < (l1.length : Int)) = true := decide_eq_true c5
    clear c5
    by_cases c6 : 0 ≤ x20_1
    rotate_left
    ·rw [if_neg c6] at H
     exact absurd H (by simp)
    rw [if_pos c6] at H
    have c6b0 : decide (0 ≤ x20_1) = true := decide_eq_true c6
    clear c6
    by_cases c7 : x20_1 < (l1.length : Int)
    rotate_left
    ·rw [if_neg c7] at H
     exact absurd H (by simp)
    rw [if_pos c7] at H
    have c7b0 : decide (x20_1 < (l1.length : Int)) = true := decide_eq_true c7
    clear c7
    obtain ⟨ji8, hji8⟩ : ∃ j_ : Int, (mn x5_1 (rd l1 x20_1)) = j_ := ⟨_, rfl⟩
    replace H : (prod_words.l0 k1 a0 ji8 (mx x6_1 (rd l1 x20_1)) l1 (l1.length : Int) (wrap64 (x20_1 + 1))) = some r := by first | (rw [hji8] at H; exact H) | (simp only [hji8] at H ⊢; exact H)
    have hji8_ : (if (rd l1 x20_1) < x5_1 then (rd l1 x20_1) else x5_1) = ji8 := hji8
    obtain ⟨ji9, hji9⟩ : ∃ j_ : Int, (mx x6_1 (rd l1 x20_1)) = j_ := ⟨_, rfl⟩
    replace H : (prod_words.l0 k1 a0 ji8 ji9 l1 (l1.length : Int) (wrap64 (x20_1 + 1))) = some r := by first | (rw [hji9] at H; exact H) | (simp only [hji9] at H ⊢; exact H)
    have hji9_ : (if x6_1 < (rd l1 x20_1) then (rd l1 x20_1) else x6_1) = ji9 := hji9
    have H' := Aside0.mk H
    clear H
    have p170 : 0 ≤ (x20_1 : Int) := od
    have q170 : x20_1 < (l1.length : Int) := od
    obtain ⟨ad170, e170, hx170_0⟩ := Kd.at_int HR1.out x20_1 p170 q170
    obtain rfl : ad168 = ad170 := (by injection e170)
    replace hx170_0 := bcell HB.out hx170_0
    replace p170 := eq_true p170
    replace q170 := eq_true q170
    go_wp2
    repeat (go_quiet (fail); try go_wp2)
    go_roundg k1
    case measure => have := HK1.out; omega
    case rel => exact ⟨(ji8), (ji9), (wrap64 (x20_1 + 1)), (by first | rfl | (simp; done) | (simp only [← hji8] <;> (first | rfl | simp)) | (simp [*]; done)), (by first | rfl | (simp; done) | (simp only [← hji9] <;> (first | rfl | simp)) | (simp [*]; done)), rs, H', ⟨by have := HK1.out; omega⟩, ⟨bb HB⟩⟩
   rw [if_neg c5] at H
   have c5b0 : decide (x20_1 < (l1.length : Int)) = false := decide_eq_false c5
   clear c5
   by_cases c10 : x5_1 ≥ 0
   rotate_left
   ·rw [if_neg c10] at H
    have c10b0 : decide (0 ≤ x5_1) = false := decide_eq_false c10
    clear c10
    obtain rfl := Option.some.inj H
    go_wp2
    repeat (go_quiet (fail); try go_wp2)
    go_ret
    exact ⟨rr, bb HB⟩
   rw [if_pos c10] at H
   have c10b0 : decide (0 ≤ x5_1) = true := decide_eq_true c10
   clear c10
   obtain ⟨ji11, hji11⟩ : ∃ j_ : Int, (IntKind.u64.wrap (a0)) = j_ := ⟨_, rfl⟩
   replace H : (if 0 ≤ (ji11) then (some (decide (x6_1 < (shl .i64 1 (ji11))))) else (none)) = some r := by first | (rw [hji11] at H; exact H) | (simp only [hji11] at H ⊢; exact H)
   by_cases c12 : 0 ≤ (ji11)
   rotate_left
   ·rw [if_neg c12] at H
    exact absurd H (by simp)
   rw [if_pos c12] at H
   have c12b0 := eq_true c12
   have c12b1 : decide (0 ≤ (ji11)) = true := decide_eq_true c12
   clear c12
   obtain ⟨ji13, hji13⟩ : ∃ j_ : Int, (shl .i64 1 (ji11)) = j_ := ⟨_, rfl⟩
   replace H : (some (decide (x6_1 < (ji13)))) = some r := by first | (rw [hji13] at H; exact H) | (simp only [hji13] at H ⊢; exact H)
   have hji13_ : (IntKind.i64.wrap (1 * 2 ^ min (ji11).toNat 64)) = ji13 := hji13
   have hji13z : (ji11) ≤ 64 → (IntKind.i64.wrap (1 * 2 ^ (ji11).toNat)) = ji13 := shl_small hji13
   have hji13u : (IntKind.i64.wrap (2 ^ min (ji11).toNat 64)) = ji13 := by have h_ := hji13_; rw [Int.one_mul] at h_; exact h_
   have hji13v : (ji11) ≤ 64 → (IntKind.i64.wrap (2 ^ (ji11).toNat)) = ji13 := fun hle_ => by have h_ := hji13z hle_; rw [Int.one_mul] at h_; exact h_
   have hji13y : (wrap64 (1 * 2 ^ min (ji11).toNat 64)) = ji13 := (i64_w _).symm.trans hji13_
   have hji13x : (ji11) ≤ 64 → (wrap64 (1 * 2 ^ (ji11).toNat)) = ji13 := fun h_ => (i64_w _).symm.trans (hji13z h_)
   obtain rfl := Option.some.inj H
   go_wp2
   repeat (go_quiet (fail); try go_wp2)
   go_ret
   exact ⟨by first | rfl | (simp [errW_none, errW_some] <;> rfl) | (simp only [← hji11, ← hji13]; first | rfl | (simp [errW_none, errW_some] <;> rfl)) | (simp [*, errW_none, errW_some] <;> rfl), bb HB⟩
mutual
def prod_Join.j0 : Nat → List (List Int) → Bool → Int → List (S66) → List (S64) → Option (List Int × Int)
 | 0, _, _, _, _, _ => none
 | k + 1, x1, x24, x172000, x172001, x172002 => if x24 = true then (some (([] : List Int), 1)) else (prod_Join.l0 k ([] : List Int) x1 (x1.length : Int) 0 x172000 x172001 x172002)
def prod_Join.l0 : Nat → List Int → List (List Int) → Int → Int → Int → List (S66) → List (S64) → Option (List Int × Int)
 | 0, _, _, _, _, _, _, _ => none
 | k + 1, x6, x25, x26, x27, x172000, x172001, x172002 => if x27 < x26 then (if 0 ≤ x27 then (if x27 < (x25.length : Int) then ((prod_cells.f k x172000 x172001 x172002).bind fun t175 => (if ((rd_L10 x25 x27).length : Int) = t175 then ((prod_words.f k x172000 (rd_L10 x25 x27)).bind fun t176 => (if t176 = true then (if x6.length + (rd_L10 x25 x27).length < 17592186044416 then (prod_Join.l0 k (x6 ++ (rd_L10 x25 x27)) x25 x26 (wrap64 (x27 + 1)) x172000 x172001 x172002) else (none)) else (some (([] : List Int), 1)))) else (some (([] : List Int), 1)))) else (none)) else (none)) else (some (x6, 0))
end
def prod_Join.f (k : Nat) (a0_0 : Int) (l0_1 : List (S66)) (l0_2 : List (S64)) (l1 : List (List Int)) : Option (List Int × Int) := (prog_Check.f k a0_0 l0_1 l0_2).bind fun t172 => (if t172 = 0 then (if (l1.length : Int) < 1 then (prod_Join.j0 k l1 true a0_0 l0_1 l0_2) else (if (l1.length : Int) > 3 then (prod_Join.j0 k l1 true a0_0 l0_1 l0_2) else ((prod_single.f k a0_0 l0_1 l0_2).bind fun t173 => (prod_Join.j0 k l1 (t173 != 0) a0_0 l0_1 l0_2)))) else (some (([] : List Int), 30)))
theorem prod_Join.calls (k : Nat) (a0_0 : Int) (A0_1 : Option Addr) (c0_1 : Nat) (l0_1 : List (S66)) (A0_2 : Option Addr) (c0_2 : Nat) (l0_2 : List (S64)) (A1 : Option Addr) (c1 : Nat) (l1 : List (List Int)) (r1 : List Int) (r2 : Int) (w : World) (hr0_1 : Kd.C k66 w A0_1 l0_1.length l0_1) (hc0_1 : l0_1.length ≤ c0_1) (hr0_2 : Kd.C k64 w A0_2 l0_2.length l0_2) (hc0_2 : l0_2.length ≤ c0_2) (hr1 : Kd.C (Kd.slice 3 (Kd.int .i64)) w A1 l1.length l1) (hc1 : l1.length ≤ c1) (h : prod_Join.f k a0_0 l0_1 l0_2 l1 = some (r1, r2)) :
  Calls Try.prog 21 #[.agg #[.int .i64 a0_0, .slice A0_1 l0_1.length c0_1, .slice A0_2 l0_2.length c0_2], .slice A1 l1.length c1] w fun e w' => ∃ v0_ : Value, e = .returned (.tuple #[v0_, .int .i64 r2]) ∧ Kd.R (Kd.int .i64) 3 w' w.heap.size (fun _ => True) v0_ r1 ∧ Below w.heap.size w w' := by
 have hu25 := Try.underlying25
 have HR0_1 := Aside0.mk hr0_1
 have HC0_1 := Aside0.mk hc0_1
 clear hr0_1 hc0_1
 have HR0_2 := Aside0.mk hr0_2
 have HC0_2 := Aside0.mk hc0_2
 clear hr0_2 hc0_2
 have HR1 := Aside0.mk hr1
 have HC1 := Aside0.mk hc1
 clear hr1 hc1
 have HB := Aside0.mk (Below.refl w.heap.size w)
 have H : ((prog_Check.f k a0_0 l0_1 l0_2).bind fun t172 => (if t172 = 0 then (if (l1.length : Int) < 1 then (prod_Join.j0 k l1 true a0_0 l0_1 l0_2) else (if (l1.length : Int) > 3 then (prod_Join.j0 k l1 true a0_0 l0_1 l0_2) else ((prod_single.f k a0_0 l0_1 l0_2).bind fun t173 => (prod_Join.j0 k l1 (t173 != 0) a0_0 l0_1 l0_2)))) else (some (([] : List Int), 30)))) = some (r1, r2) := h
 clear h
 obtain ⟨t172, A3, H⟩ := be H
 by_cases c4 : t172 = 0
 rotate_left
 ·rw [if_neg c4] at H
  have c4b0 : (t172 == 0) = false := beq_eq_false_iff_ne.mpr c4
  have c4b1 : (t172 != 0) = true := bne_iff_ne.mpr c4
  simp only [Option.some.injEq, Prod.mk.injEq] at H
  obtain ⟨rfl, rfl⟩ := H
  go_enter Try.func21, Try.ntmps21
  go_wp2_with (first | ((with_reducible refine gate_dst (N := 2) rfl ?_); (try (refine gate_guard (by rfl) ?_; dsimp only)); refine bx 2 rfl rfl #[.int .i64 a0_0, .slice A0_1 l0_1.length c0_1, .slice A0_2 l0_2.length c0_2] 25 ?_; intro gb171 hg w34 hbox hb; have BK171 := Aside0.mk (hbox); have GE171 := ge HB hg; replace HB := sb HB hb; clear hb hbox hg; obtain ⟨hcz35_0, hcz35_1, hcz35_2, hfz35_0, hfz35_1, hfz35_2⟩ := cf3 BK171.out) | ((with_reducible refine gate_callee (f := 43) rfl ?_); refine gL (some 10) rfl rfl Try.func43 #[.agg #[.int .i64 a0_0, .slice A0_1 l0_1.length c0_1, .slice A0_2 l0_2.length c0_2]] rfl ?_; (with_reducible refine (prog_Check.calls k a0_0 _ _ l0_1 _ _ l0_2 t172 _ ?side1 ?side2 ?side3 ?side4 A3.out).mono ?_); (case side1 => exact cb HR0_1 HB); (case side2 => exact HC0_1.out); (case side3 => exact cb HR0_2 HB); (case side4 => exact HC0_2.out); rintro e w36 ⟨rfl, hb⟩; refine ⟨_, rfl, ?_⟩; replace BK171 := kb BK171 hb; replace HB := sb HB hb; (try clear hb)))
  go_ret2
  exact ⟨_, rr, by first | exact Kd.R_nil _ _ _ _ _ | exact Kd.N_nil _ _ _ _ _ | exact Kd.V_nil _ _ _ _ _ | exact Kd.Q_nil _ _ _ _ _ | exact Kd.S_nil _ _ _ _ _, bb HB⟩
 rw [if_pos c4] at H
 have c4b0 : (t172 == 0) = true := beq_iff_eq.mpr c4
 have c4b1 : (t172 != 0) = false := bne_eq_false_iff_eq.mpr c4
 clear c4
 have HC5 := Aside0.mk H
 clear H
 go_enter Try.func21, Try.ntmps21
 go_upto_region 3 with (first | ((with_reducible refine gate_dst (N := 2) rfl ?_); (try (refine gate_guard (by rfl) ?_; dsimp only)); refine bx 2 rfl rfl #[.int .i64 a0_0, .slice A0_1 l0_1.length c0_1, .slice A0_2 l0_2.length c0_2] 25 ?_; intro gb171 hg w6 hbox hb; have BK171 := Aside0.mk (hbox); have GE171 := ge HB hg; replace HB := sb HB hb; clear hb hbox hg; obtain ⟨hcz7_0, hcz7_1, hcz7_2, hfz7_0, hfz7_1, hfz7_2⟩ := cf3 BK171.out) | ((with_reducible refine gate_callee (f := 43) rfl ?_); refine gL (some 10) rfl rfl Try.func43 #[.agg #[.int .i64 a0_0, .slice A0_1 l0_1.length c0_1, .slice A0_2 l0_2.length c0_2]] rfl ?_; (with_reducible refine (prog_Check.calls k a0_0 _ _ l0_1 _ _ l0_2 t172 _ ?side1 ?side2 ?side3 ?side4 A3.out).mono ?_); (case side1 => exact cb HR0_1 HB); (case side2 => exact HC0_1.out); (case side3 => exact cb HR0_2 HB); (case side4 => exact HC0_2.out); rintro e w8 ⟨rfl, hb⟩; refine ⟨_, rfl, ?_⟩; replace BK171 := kb BK171 hb; replace HB := sb HB hb; (try clear hb)))
 (try simp only [Act.put, List.setIfInBounds_toArray, List.set_cons_zero, List.set_cons_succ])
 go_cut [24] (fun v24 wc => ∃ (kq : Nat) (x24_4 : Bool), v24 = .bool x24_4 ∧ Aside0 (prod_Join.j0 kq l1 x24_4 a0_0 l0_1 l0_2 = some (r1, r2)) ∧ Aside0 (kq ≤ k) ∧ Aside0 (wc.heap[gb171]? = some (.cells #[.int .i64 a0_0, (.slice A0_1 l0_1.length c0_1), (.slice A0_2 l0_2.length c0_2)] 25 (0, 0))) ∧ Aside0 (Below w.heap.size w wc))
 case first =>
  have H := HC5.out
  clear HC5
  by_cases c9 : (l1.length : Int) < 1
  ·rw [if_pos c9] at H
   have c9b0 : decide ((l1.length : Int) < 1) = true := decide_eq_true c9
   have c9b1 : decide (l1.length < 1) = true := decide_eq_true (by omega)
   clear c9
   (first | rw [c9b0] | (simp only [i64_w, i32_w]; rw [c9b0]) | skip)
   have H' := Aside0.mk H
   clear H
   go_wp2
   go_meet
   case rel => exact ⟨_, (true), rs, H', ⟨by first | omega | exact Nat.le_refl _⟩, ⟨kk BK171⟩, ⟨bb HB⟩⟩
  rw [if_neg c9] at H
  have c9b0 : decide ((l1.length : Int) < 1) = false := decide_eq_false c9
  have c9b1 : decide (l1.length < 1) = false := decide_eq_false (by omega)
  clear c9
  (first | rw [c9b0] | (simp only [i64_w, i32_w]; rw [c9b0]) | skip)
  by_cases c10 : (l1.length : Int) > 3
  ·rw [if_pos c10] at H
   have c10b0 : decide (3 < (l1.length : Int)) = true := decide_eq_true c10
   have c10b1 : decide (3 < l1.length) = true := decide_eq_true (by omega)
   clear c10
   have H' := Aside0.mk H
   clear H
   go_wp2
   go_meet
   case rel => exact ⟨_, (true), rs, H', ⟨by first | omega | exact Nat.le_refl _⟩, ⟨kk BK171⟩, ⟨bb HB⟩⟩
  rw [if_neg c10] at H
  have c10b0 : decide (3 < (l1.length : Int)) = false := decide_eq_false c10
  have c10b1 : decide (3 < l1.length) = false := decide_eq_false (by omega)
  clear c10
  obtain ⟨t173, A11, H⟩ := be H
  have H' := Aside0.mk H
  clear H
  obtain ⟨hcz12_0, hcz12_1, hcz12_2, hfz12_0, hfz12_1, hfz12_2⟩ := cf3 BK171.out
  go_wp2_with (first | (go_at_call 44; (with_reducible refine (prod_single.calls k a0_0 _ _ l0_1 _ _ l0_2 t173 _ ?side1 ?side2 ?side3 ?side4 A11.out).mono ?_); (case side1 => exact cb HR0_1 HB); (case side2 => exact HC0_1.out); (case side3 => exact cb HR0_2 HB); (case side4 => exact HC0_2.out); rintro e w13 ⟨rfl, hb⟩; replace BK171 := kb BK171 hb; replace HB := sb HB hb; (try clear hb)))
  go_meet
  case rel => exact ⟨_, ((t173 != 0)), rs, H', ⟨by first | omega | exact Nat.le_refl _⟩, ⟨kk BK171⟩, ⟨bb HB⟩⟩
 case rest =>
  clear HC5
  try clear c1
  try clear c2
  try clear p2
  try clear c4
  try clear c4b0
  try clear c4b1
  try clear c9
  try clear c9b0
  try clear c9b1
  try clear c10
  try clear c10b0
  try clear c10b1
  try clear hcz12_0 hcz12_1 hcz12_2
  try clear hcz7_0 hcz7_1 hcz7_2
  try clear hfz12_0 hfz12_1 hfz12_2
  try clear hfz7_0 hfz7_1 hfz7_2
  obtain ⟨kq, x24_4, rfl, HA, HJ4, BK171, HB⟩ := hcut
  cases kq with
  | zero => exact absurd HA.out (by simp [prod_Join.j0])
  | succ kj4 =>
   have H := HA.out
   clear HA
   simp only [prod_Join.j0] at H
   by_cases c14 : x24_4 = true
   ·subst c14
    replace H := it H
    simp only [Option.some.injEq, Prod.mk.injEq] at H
    obtain ⟨rfl, rfl⟩ := H
    go_wp2
    go_ret2
    exact ⟨_, rr, by first | exact Kd.R_nil _ _ _ _ _ | exact Kd.N_nil _ _ _ _ _ | exact Kd.V_nil _ _ _ _ _ | exact Kd.Q_nil _ _ _ _ _ | exact Kd.S_nil _ _ _ _ _, bb HB⟩
   replace c14 := Bool.eq_false_iff.mpr c14
   subst c14
   replace H := fi H
   have H' := Aside0.mk H
   clear H
   go_wp2
   go_loopg [6, 27] kj4 (fun kq v6 v27 w' => ∃ (x6_2 : List Int) (x27_2 : Int), v27 = .int .i64 x27_2 ∧ Aside0 (prod_Join.l0 kq x6_2 l1 (l1.length : Int) x27_2 a0_0 l0_1 l0_2 = some (r1, r2)) ∧ Aside0 (kq ≤ kj4) ∧ Aside0 (Kd.R (Kd.int .i64) 3 w' w.heap.size (fun _ => True) v6 x6_2) ∧ Aside0 (w'.heap[gb171]? = some (.cells #[.int .i64 a0_0, (.slice A0_1 l0_1.length c0_1), (.slice A0_2 l0_2.length c0_2)] 25 (0, 0))) ∧ Aside0 (Below w.heap.size w w'))
   case atStart => exact ⟨(([] : List Int)), (0), rs, H', ⟨Nat.le_refl _⟩, ⟨by first | exact Kd.R_nil _ _ _ _ _ | exact Kd.N_nil _ _ _ _ _ | exact Kd.V_nil _ _ _ _ _ | exact Kd.Q_nil _ _ _ _ _ | exact Kd.S_nil _ _ _ _ _⟩, ⟨kk BK171⟩, ⟨bb HB⟩⟩
   case round =>
    clear H'
    try clear c1
    try clear c2
    try clear p2
    try clear c4
    try clear c4b0
    try clear c4b1
    try clear c9
    try clear c9b0
    try clear c9b1
    try clear c10
    try clear c10b0
    try clear c10b1
    try clear c14
    try clear hcz12_0 hcz12_1 hcz12_2
    try clear hcz7_0 hcz7_1 hcz7_2
    try clear hfz12_0 hfz12_1 hfz12_2
    try clear hfz7_0 hfz7_1 hfz7_2
    try clear p2
    obtain ⟨x6_2, x27_2, rfl, HA, HK2, HO_6, BK171, HB⟩ := hrel
    cases gk with
    | zero => exact absurd HA.out (by simp [prod_Join.l0])
    | succ k2 =>
     have H := HA.out
     clear HA
     simp only [prod_Join.l0] at H
     by_cases c15 : x27_2 < (l1.length : Int)
     rotate_left
     ·rw [if_neg c15] at H
      have c15b0 : decide (x27_2 < (l1.length : Int)) = false := decide_eq_false c15
      clear c15
      simp only [Option.some.injEq, Prod.mk.injEq] at H
      obtain ⟨rfl, rfl⟩ := H
      go_wp2
      go_ret2
      exact ⟨_, rr, by (with_reducible repeat (first | apply Kd.R_alloc | apply Kd.R_drewN | apply Kd.R_drew)); exact HO_6.out, bb HB⟩
     rw [if_pos c15] at H
     have c15b0 : decide (x27_2 < (l1.length : Int)) = true := decide_eq_true c15
     clear c15
     by_cases c16 : 0 ≤ x27_2
     rotate_left
     ·rw [if_neg c16] at H
      exact absurd H (by simp)
     rw [if_pos c16] at H
     have c16b0 : decide (0 ≤ x27_2) = true := decide_eq_true c16
     clear c16
     by_cases c17 : x27_2 < (l1.length : Int)
     rotate_left
     ·rw [if_neg c17] at H
      exact absurd H (by simp)
     rw [if_pos c17] at H
     have c17b0 : decide (x27_2 < (l1.length : Int)) = true := decide_eq_true c17
     clear c17
     obtain ⟨t175, A18, H⟩ := be H
     by_cases c19 : ((rd_L10 l1 x27_2).length : Int) = t175
     rotate_left
     ·rw [if_neg c19] at H
      have c19b0 : (((rd_L10 l1 x27_2).length : Int) == t175) = false := beq_eq_false_iff_ne.mpr c19
      have c19b1 : (((rd_L10 l1 x27_2).length : Int) != t175) = true := bne_iff_ne.mpr c19
      simp only [Option.some.injEq, Prod.mk.injEq] at H
      obtain ⟨rfl, rfl⟩ := H
      have p174 : 0 ≤ (x27_2 : Int) := od
      have q174 : x27_2 < (l1.length : Int) := od
      obtain ⟨ad174, A174_0, c174_0, e174, hx174_0, hl174_0, hi174_0⟩ := at_L10 HR1.out x27_2 p174 q174
      cases e174
      replace hx174_0 := bcell HB.out hx174_0
      have HR174_0 := Aside0.mk hi174_0
      have HC174_0 := Aside0.mk hl174_0
      clear hi174_0 hl174_0
      replace p174 := eq_true p174
      replace q174 := eq_true q174
      obtain ⟨hcz32_0, hcz32_1, hcz32_2, hfz32_0, hfz32_1, hfz32_2⟩ := cf3 BK171.out
      go_wp2_with (first | ((with_reducible refine gate_callee (f := 55) rfl ?_); refine gL (some 34) rfl rfl Try.func55 #[.agg #[.int .i64 a0_0, .slice A0_1 l0_1.length c0_1, .slice A0_2 l0_2.length c0_2]] rfl ?_; (with_reducible refine (prod_cells.calls k2 a0_0 _ _ l0_1 _ _ l0_2 t175 _ ?side1 ?side2 ?side3 ?side4 A18.out).mono ?_); (case side1 => exact cb HR0_1 HB); (case side2 => exact HC0_1.out); (case side3 => exact cb HR0_2 HB); (case side4 => exact HC0_2.out); rintro e w33 ⟨rfl, hb⟩; refine ⟨_, rfl, ?_⟩; replace HO_6 := Aside0.mk (Kd.R_below (iR HO_6) hb); replace BK171 := kb BK171 hb; replace HB := sb HB hb; (try clear hb)))
      go_ret2
      exact ⟨_, rr, by first | exact Kd.R_nil _ _ _ _ _ | exact Kd.N_nil _ _ _ _ _ | exact Kd.V_nil _ _ _ _ _ | exact Kd.Q_nil _ _ _ _ _ | exact Kd.S_nil _ _ _ _ _, bb HB⟩
     rw [if_pos c19] at H
     have c19b0 : (((rd_L10 l1 x27_2).length : Int) == t175) = true := beq_iff_eq.mpr c19
     have c19b1 : (((rd_L10 l1 x27_2).length : Int) != t175) = false := bne_eq_false_iff_eq.mpr c19
     clear c19
     obtain ⟨t176, A20, H⟩ := be H
     by_cases c21 : t176 = true
     rotate_left
     ·replace c21 := Bool.eq_false_iff.mpr c21
      subst c21
      replace H := fi H
      simp only [Option.some.injEq, Prod.mk.injEq] at H
      obtain ⟨rfl, rfl⟩ := H
      have p174 : 0 ≤ (x27_2 : Int) := od
      have q174 : x27_2 < (l1.length : Int) := od
      obtain ⟨ad174, A174_0, c174_0, e174, hx174_0, hl174_0, hi174_0⟩ := at_L10 HR1.out x27_2 p174 q174
      cases e174
      replace hx174_0 := bcell HB.out hx174_0
      have HR174_0 := Aside0.mk hi174_0
      have HC174_0 := Aside0.mk hl174_0
      clear hi174_0 hl174_0
      replace p174 := eq_true p174
      replace q174 := eq_true q174
      obtain ⟨hcz28_0, hcz28_1, hcz28_2, hfz28_0, hfz28_1, hfz28_2⟩ := cf3 BK171.out
      go_wp2_with (first | ((with_reducible refine gate_callee (f := 55) rfl ?_); refine gL (some 34) rfl rfl Try.func55 #[.agg #[.int .i64 a0_0, .slice A0_1 l0_1.length c0_1, .slice A0_2 l0_2.length c0_2]] rfl ?_; (with_reducible refine (prod_cells.calls k2 a0_0 _ _ l0_1 _ _ l0_2 t175 _ ?side1 ?side2 ?side3 ?side4 A18.out).mono ?_); (case side1 => exact cb HR0_1 HB); (case side2 => exact HC0_1.out); (case side3 => exact cb HR0_2 HB); (case side4 => exact HC0_2.out); rintro e w29 ⟨rfl, hb⟩; refine ⟨_, rfl, ?_⟩; replace HO_6 := Aside0.mk (Kd.R_below (iR HO_6) hb); replace BK171 := kb BK171 hb; replace HB := sb HB hb; (try clear hb); obtain ⟨hcz30_0, hcz30_1, hcz30_2, hfz30_0, hfz30_1, hfz30_2⟩ := cf3 BK171.out) | (go_at_call 56; (with_reducible refine (prod_words.calls k2 a0_0 _ _ (rd_L10 l1 x27_2) false _ ?side1 ?side2 A20.out).mono ?_); (case side1 => exact cb HR174_0 HB); (case side2 => exact HC174_0.out); rintro e w31 ⟨rfl, hb⟩; replace HO_6 := Aside0.mk (Kd.R_below (iR HO_6) hb); replace BK171 := kb BK171 hb; replace HB := sb HB hb; (try clear hb)))
      go_ret2
      exact ⟨_, rr, by first | exact Kd.R_nil _ _ _ _ _ | exact Kd.N_nil _ _ _ _ _ | exact Kd.V_nil _ _ _ _ _ | exact Kd.Q_nil _ _ _ _ _ | exact Kd.S_nil _ _ _ _ _, bb HB⟩
     subst c21
     replace H := it H
     by_cases c22 : x6_2.length + (rd_L10 l1 x27_2).length < 17592186044416
     rotate_left
     ·rw [if_neg c22] at H
      exact absurd H (by simp)
     rw [if_pos c22] at H
     have LMc22 := Aside0.mk c22
     clear c22
     obtain ⟨y177, hy177⟩ : ∃ y_ : List Int, y_ = (x6_2 ++ (rd_L10 l1 x27_2)) := ⟨_, rfl⟩
     replace H : (prod_Join.l0 k2 y177 l1 (l1.length : Int) (wrap64 (x27_2 + 1)) a0_0 l0_1 l0_2) = some (r1, r2) := by first | (rw [hy177]; with_reducible exact H) | (have H2_ := (Option.bind_some _ _).symm.trans H; rw [hy177]; with_reducible exact H2_) | (have H2_ := (Option.bind_some _ _).symm.trans H; with_reducible exact H2_) | with_reducible exact H | (rw [hy177]; exact H) | exact H
     have Ny177 := Aside0.mk hy177
     clear hy177
     have H' := Aside0.mk H
     clear H
     have p174 : 0 ≤ (x27_2 : Int) := od
     have q174 : x27_2 < (l1.length : Int) := od
     obtain ⟨ad174, A174_0, c174_0, e174, hx174_0, hl174_0, hi174_0⟩ := at_L10 HR1.out x27_2 p174 q174
     cases e174
     replace hx174_0 := bcell HB.out hx174_0
     have HR174_0 := Aside0.mk hi174_0
     have HC174_0 := Aside0.mk hl174_0
     clear hi174_0 hl174_0
     replace p174 := eq_true p174
     replace q174 := eq_true q174
     obtain ⟨hcz23_0, hcz23_1, hcz23_2, hfz23_0, hfz23_1, hfz23_2⟩ := cf3 BK171.out
     go_wp2_with (first | ((with_reducible refine gate_callee (f := 55) rfl ?_); refine gL (some 34) rfl rfl Try.func55 #[.agg #[.int .i64 a0_0, .slice A0_1 l0_1.length c0_1, .slice A0_2 l0_2.length c0_2]] rfl ?_; (with_reducible refine (prod_cells.calls k2 a0_0 _ _ l0_1 _ _ l0_2 t175 _ ?side1 ?side2 ?side3 ?side4 A18.out).mono ?_); (case side1 => exact cb HR0_1 HB); (case side2 => exact HC0_1.out); (case side3 => exact cb HR0_2 HB); (case side4 => exact HC0_2.out); rintro e w24 ⟨rfl, hb⟩; refine ⟨_, rfl, ?_⟩; replace HO_6 := Aside0.mk (Kd.R_below (iR HO_6) hb); replace BK171 := kb BK171 hb; replace HB := sb HB hb; (try clear hb); obtain ⟨hcz25_0, hcz25_1, hcz25_2, hfz25_0, hfz25_1, hfz25_2⟩ := cf3 BK171.out) | (go_at_call 56; (with_reducible refine (prod_words.calls k2 a0_0 _ _ (rd_L10 l1 x27_2) true _ ?side1 ?side2 A20.out).mono ?_); (case side1 => exact cb HR174_0 HB); (case side2 => exact HC174_0.out); rintro e w26 ⟨rfl, hb⟩; replace HO_6 := Aside0.mk (Kd.R_below (iR HO_6) hb); replace BK171 := kb BK171 hb; replace HB := sb HB hb; (try clear hb)) | ((with_reducible refine gate_builtin (b := .append) (xs := #[.tmp 43, .tmp 44]) rfl ?_); (try (refine gate_guard (by rfl) ?_; dsimp only)); at_builtin; refine Kd.R_append_rows (Kd.int .i64) (w0 := w) w.heap.size rfl (.tmp 43) (.tmp 44) 45 3 (.int .i64 0) 8 rfl Try.underlying45 info3 rfl (by decide) (by omega) u6 x6_2 (rd_L10 l1 x27_2) _ _ _ (fun _ => True) (fun _ => False) rfl rfl ?aO ?aR (fun _ _ h => h) (fun _ h => h.elim) ?aF ?aB ?aS ?aL ?_; (case aR => repeat (first | exact (Kd.C_below HR174_0.out HB.out) | with_reducible first | apply Kd.C_alloc | apply Kd.C_drewN | apply Kd.C_drew)); (case aB => exact (bb HB)); (case aF => exact (fun _ _ => trivial)); (case aO => exact (iR HO_6)); (case aS => exact (bsz (bb HB))); (case aL => have := LMc22.out; omega); intro v178 w27 ho hb hg hat; rw [← Ny177.out] at ho; have HO179 := Aside0.mk (ho); replace BK171 := Aside0.mk (blk_grown (kk BK171) hg (Kd.R_ne HO_6.out BK171.out (by decide))); replace HB := Aside0.mk (hb); clear HO_6; clear ho hb hg hat))
     go_roundg k2
     case measure => have := HJ4.out; have := HK2.out; omega
     case rel => exact ⟨(y177), (wrap64 (x27_2 + 1)), rs, H', ⟨by have := HJ4.out; have := HK2.out; omega⟩, ⟨by (with_reducible repeat (first | apply Kd.R_alloc | apply Kd.R_drewN | apply Kd.R_drew)); exact HO179.out⟩, ⟨kk BK171⟩, ⟨bb HB⟩⟩
def r2_Stores.l0 : Nat → Int → List (S66) → List (List Int) → Int → Option (Bool)
 | 0, _, _, _, _ => none
 | k + 1, x0, x1, x2, x7 => if x7 < (x2.length : Int) then (if 0 ≤ x7 then ((r2_Store.f k x0 x1 (rd_L10 x2 x7)).bind fun t406 => (if t406 = true then (r2_Stores.l0 k x0 x1 x2 (wrap64 (x7 + 1))) else (some false))) else (none)) else (some true)
def r2_Stores.f (k : Nat) (a0 : Int) (l1 : List (S66)) (l2 : List (List Int)) : Option (Bool) := r2_Stores.l0 k a0 l1 l2 0
theorem r2_Stores.calls (k : Nat) (a0 : Int) (A1 : Option Addr) (c1 : Nat) (l1 : List (S66)) (A2 : Option Addr) (c2 : Nat) (l2 : List (List Int)) (r : Bool) (w : World) (hr1 : Kd.C k66 w A1 l1.length l1) (hc1 : l1.length ≤ c1) (hr2 : Kd.C (Kd.slice 3 (Kd.int .i64)) w A2 l2.length l2) (hc2 : l2.length ≤ c2) (h : r2_Stores.f k a0 l1 l2 = some r) :
  Calls Try.prog 19 #[.int .i64 a0, .slice A1 l1.length c1, .slice A2 l2.length c2] w fun e w' => e = .returned (.bool r) ∧ Drawn0 w w' := by
 have HR1 := Aside0.mk hr1
 have HC1 := Aside0.mk hc1
 clear hr1 hc1
 have HR2 := Aside0.mk hr2
 have HC2 := Aside0.mk hc2
 clear hr2 hc2
 have H : (r2_Stores.l0 k a0 l1 l2 0) = some r := h
 clear h
 have H' := Aside0.mk H
 clear H
 go_enter Try.func19, Try.ntmps19
 go_wp2
 go_loopg [7] k (fun kq v7 w' => ∃ (x7_1 : Int), v7 = .int .i64 x7_1 ∧ Aside0 (r2_Stores.l0 kq a0 l1 l2 x7_1 = some r) ∧ Aside0 (kq ≤ k) ∧ Drawn0 w w')
 case atStart => exact ⟨(0), rs, H', ⟨Nat.le_refl _⟩, dr⟩
 case round =>
  clear H'
  try clear c1
  try clear c2
  try clear p2
  obtain ⟨x7_1, rfl, HA, HK1, ⟨m1, rfl⟩⟩ := hrel
  cases gk with
  | zero => exact absurd HA.out (by simp [r2_Stores.l0])
  | succ k1 =>
   have H := HA.out
   clear HA
   simp only [r2_Stores.l0] at H
   by_cases c4 : x7_1 < (l2.length : Int)
   rotate_left
   ·rw [if_neg c4] at H
    have c4b0 : decide (x7_1 < (l2.length : Int)) = false := decide_eq_false c4
    clear c4
    obtain rfl := Option.some.inj H
    go_wp2
    go_ret
    exact ⟨rs, dr⟩
   rw [if_pos c4] at H
   have c4b0 : decide (x7_1 < (l2.length : Int)) = true := decide_eq_true c4
   clear c4
   by_cases c5 : 0 ≤ x7_1
   rotate_left
   ·rw [if_neg c5] at H
    exact absurd H (by simp)
   rw [if_pos c5] at H
   have c5b0 : decide (0 ≤ x7_1) = true := decide_eq_true c5
   clear c5
   obtain ⟨t406, A6, H⟩ := be H
   by_cases c7 : t406 = true
   rotate_left
   ·replace c7 := Bool.eq_false_iff.mpr c7
    subst c7
    replace H := fi H
    obtain rfl := Option.some.inj H
    have p405 : 0 ≤ (x7_1 : Int) := od
    have q405 : x7_1 < (l2.length : Int) := od
    obtain ⟨ad405, A405_0, c405_0, e405, hx405_0, hl405_0, hi405_0⟩ := at_L10 HR2.out x7_1 p405 q405
    cases e405
    have HR405_0 := Aside0.mk hi405_0
    have HC405_0 := Aside0.mk hl405_0
    clear hi405_0 hl405_0
    replace p405 := eq_true p405
    replace q405 := eq_true q405
    go_wp2_with (first | ((with_reducible refine gate_callee (f := 23) rfl ?_); refine gL (some 20) rfl rfl Try.func23 #[.int .i64 a0, .slice A1 l1.length c1, .slice A405_0 (rd_L10 l2 x7_1).length c405_0] rfl ?_; (with_reducible refine (r2_Store.calls k1 a0 _ _ l1 _ _ (rd_L10 l2 x7_1) false _ ?side1 ?side2 ?side3 ?side4 A6.out).mono ?_); (case side1 => exact ca HR1); (case side2 => exact HC1.out); (case side3 => exact ca HR405_0); (case side4 => exact HC405_0.out); rintro e w' ⟨rfl, ⟨nd, rfl⟩⟩; refine ⟨_, rfl, ?_⟩))
    go_ret
    exact ⟨rs, dr⟩
   subst c7
   replace H := it H
   have H' := Aside0.mk H
   clear H
   have p405 : 0 ≤ (x7_1 : Int) := od
   have q405 : x7_1 < (l2.length : Int) := od
   obtain ⟨ad405, A405_0, c405_0, e405, hx405_0, hl405_0, hi405_0⟩ := at_L10 HR2.out x7_1 p405 q405
   cases e405
   have HR405_0 := Aside0.mk hi405_0
   have HC405_0 := Aside0.mk hl405_0
   clear hi405_0 hl405_0
   replace p405 := eq_true p405
   replace q405 := eq_true q405
   go_wp2_with (first | ((with_reducible refine gate_callee (f := 23) rfl ?_); refine gL (some 20) rfl rfl Try.func23 #[.int .i64 a0, .slice A1 l1.length c1, .slice A405_0 (rd_L10 l2 x7_1).length c405_0] rfl ?_; (with_reducible refine (r2_Store.calls k1 a0 _ _ l1 _ _ (rd_L10 l2 x7_1) true _ ?side1 ?side2 ?side3 ?side4 A6.out).mono ?_); (case side1 => exact ca HR1); (case side2 => exact HC1.out); (case side3 => exact ca HR405_0); (case side4 => exact HC405_0.out); rintro e w' ⟨rfl, ⟨nd, rfl⟩⟩; refine ⟨_, rfl, ?_⟩))
   go_roundg k1
   case measure => have := HK1.out; omega
   case rel => exact ⟨(wrap64 (x7_1 + 1)), rs, H', ⟨by have := HK1.out; omega⟩, dr⟩
theorem pcells_loop : ∀ (suf pre : List S66) (acc : Int), (∀ v ∈ suf, 1 ≤ v.f2 ∧ v.f2 ≤ 8) → (pre ++ suf).length ≤ 1000 → 0 ≤ acc → acc + 8 * suf.length ≤ 1000000 →
    Tells (fun k => prod_cells.l0 k acc (pre ++ suf) ((pre ++ suf).length : Int) (pre.length : Int)) (acc + cs suf)
  | [], pre, acc, _, _, _, _ => by
    refine Tells.succ ?_
    simp only [prod_cells.l0, pre_nlt, if_false]
    rw [cs_nil, Int.add_zero]
    exact Tells.pure _
  | v :: r, pre, acc, hv, hl, h0, h1 => by
    refine Tells.succ ?_
    have hv1 := hv v (by simp)
    rw [List.length_cons] at h1
    simp only [prod_cells.l0, pre_lt, pre_pos, if_true, rdV_mid]
    have t := pcells_loop r (pre ++ [v]) (acc + v.f2) (fun u hu => hv u (by simp [hu])) (by rw [← pre_app]; exact hl) (by omega) (by omega)
    rw [← pre_app] at t
    rw [w64 (n := acc + v.f2) (by omega) (by omega), pre_next pre v r (by omega), cs_cons, ← Int.add_assoc]
    exact t
theorem pcells_tells (w : Int) (vars : List S66) (l2 : List S64) (hv : ∀ v ∈ vars, 1 ≤ v.f2 ∧ v.f2 ≤ 8) (hl : vars.length ≤ 18) : Tells (fun k => prod_cells.f k w vars l2) (cs vars) := by
  unfold prod_cells.f
  have := pcells_loop vars [] 0 hv (by rw [List.nil_append]; omega) (by decide) (by omega)
  rw [Int.zero_add] at this
  exact this
theorem pwords_loop (w : Int) (h1 : 1 ≤ w) (h8 : w ≤ 8) : ∀ (suf pre : List Int) (a b : Int), (pre ++ suf).length ≤ 9223372036854775807 →
    Tells (fun k => prod_words.l0 k w a b (pre ++ suf) ((pre ++ suf).length : Int) (pre.length : Int)) ((decide (0 ≤ a) && decide (b < 2 ^ w.toNat)) && valid (2 ^ w.toNat) suf)
  | [], pre, a, b, _ => by
    refine Tells.succ ?_
    simp only [prod_words.l0, pre_nlt, if_false]
    rw [u64_small (by omega) (by omega), shl_one (by omega) (by omega)]
    have hv : valid (2 ^ w.toNat) [] = true := rfl
    rw [hv, Bool.and_true]
    by_cases c : 0 ≤ a
    · rw [decide_eq_true c, Bool.true_and]
      exact Tells.ifT c (Tells.ifT (by omega) (Tells.pure _))
    · rw [decide_eq_false c, Bool.false_and]
      exact Tells.ifF c (Tells.pure _)
  | s :: r, pre, a, b, hl => by
    refine Tells.succ ?_
    simp only [prod_words.l0, pre_lt, pre_pos, if_true, rd_mid]
    have ih := pwords_loop w h1 h8 r (pre ++ [s]) (mn a s) (mx b s) (by rw [← pre_app]; exact hl)
    rw [← pre_app] at ih
    rw [pre_next pre s r hl, show valid (2 ^ w.toNat) (s :: r) = (decide (0 ≤ s ∧ s < 2 ^ w.toNat) && valid (2 ^ w.toNat) r) from List.all_cons]
    have e : ((decide (0 ≤ mn a s) && decide (mx b s < 2 ^ w.toNat)) && valid (2 ^ w.toNat) r) = ((decide (0 ≤ a) && decide (b < 2 ^ w.toNat)) && (decide (0 ≤ s ∧ s < 2 ^ w.toNat) && valid (2 ^ w.toNat) r)) := by
      generalize (2 : Int) ^ w.toNat = p
      have e1 : decide (0 ≤ mn a s) = (decide (0 ≤ a) && decide (0 ≤ s)) := by
        rw [← Bool.decide_and]; apply decide_eq_decide.2; unfold mn; split <;> omega
      have e2 : decide (mx b s < p) = (decide (b < p) && decide (s < p)) := by
        rw [← Bool.decide_and]; apply decide_eq_decide.2; unfold mx; split <;> omega
      rw [e1, e2, Bool.decide_and]
      cases decide (0 ≤ a) <;> cases decide (0 ≤ s) <;> cases decide (b < p) <;> cases decide (s < p) <;> simp
    rw [← e]
    exact ih
theorem pwords_tells (w : Int) (h1 : 1 ≤ w) (h8 : w ≤ 8) (l : List Int) (hl : l.length ≤ 9223372036854775807) : Tells (fun k => prod_words.f k w l) (valid (2 ^ w.toNat) l) := by
  unfold prod_words.f
  cases l with
  | nil => exact Tells.ifT rfl (Tells.pure _)
  | cons s r =>
    refine Tells.ifF (by rw [List.length_cons]; omega) (Tells.ifT (by rw [List.length_cons]; omega) ?_)
    have e : rd (s :: r) 0 = s := rd_mid [] s r
    rw [e]
    have := pwords_loop w h1 h8 (s :: r) [] s s hl
    have e2 : ((decide (0 ≤ s) && decide (s < 2 ^ w.toNat)) && valid (2 ^ w.toNat) (s :: r)) = valid (2 ^ w.toNat) (s :: r) := by
      rw [show valid (2 ^ w.toNat) (s :: r) = (decide (0 ≤ s ∧ s < 2 ^ w.toNat) && valid (2 ^ w.toNat) r) from List.all_cons, Bool.decide_and]
      cases decide (0 ≤ s) <;> cases decide (s < 2 ^ w.toNat) <;> simp
    rw [e2] at this
    exact this
theorem rdI_mid (pre : List (List Int)) (x : List Int) (r : List (List Int)) : rd_L10 (pre ++ x :: r) (pre.length : Int) = x := getD_mid pre x _ r
def isSto (w : Int) (vars : List S66) (s : List Int) : Bool := decide ((s.length : Int) = cs vars) && valid (2 ^ w.toNat) s
theorem pIs_cells {w : Int} {vars : List S66} {body : List S64} (hp : pIs w vars body = true) : 1 ≤ w ∧ w ≤ 8 ∧ (∀ v ∈ vars, 1 ≤ v.f2 ∧ v.f2 ≤ 8) ∧ vars.length ≤ 18 ∧ 0 ≤ cs vars ∧ cs vars ≤ 144 := by
  obtain ⟨hh, _⟩ := pIs_all hp
  obtain ⟨h1, h8, _, h18, hv, _⟩ := hIs_all hh
  have hv' : ∀ v ∈ vars, 1 ≤ v.f2 ∧ v.f2 ≤ 8 := fun v h => ⟨(hv v h).2.2.1, (hv v h).2.2.2⟩
  have := cs_bound vars hv'
  exact ⟨h1, h8, hv', h18, this.1, by omega⟩
theorem stores_loop (w : Int) (vars : List S66) (h1 : 1 ≤ w) (h8 : w ≤ 8) (hv : ∀ v ∈ vars, 1 ≤ v.f2 ∧ v.f2 ≤ 8) (h18 : vars.length ≤ 18) : ∀ (suf pre : List (List Int)), (pre ++ suf).length ≤ 1000 → (∀ s ∈ suf, s.length ≤ 9223372036854775807) →
    Tells (fun k => r2_Stores.l0 k w vars (pre ++ suf) (pre.length : Int)) (suf.all (isSto w vars))
  | [], pre, _, _ => by
    refine Tells.succ ?_
    simp only [r2_Stores.l0, pre_nlt, if_false]
    exact Tells.pure _
  | s :: r, pre, hl, hs => by
    refine Tells.succ ?_
    simp only [r2_Stores.l0, pre_lt, pre_pos, if_true, rdI_mid, List.all_cons]
    refine Tells.bind (Store_is w vars s h1 h8 hv h18 (hs s (by simp))) (Tells.ifB ?_)
    rw [pre_next pre s r (by omega)]
    have ih := stores_loop w vars h1 h8 hv h18 r (pre ++ [s]) (by rw [← pre_app]; exact hl) (fun u hu => hs u (by simp [hu]))
    rw [← pre_app] at ih
    exact ih
theorem Stores_tells (w : Int) (vars : List S66) (h1 : 1 ≤ w) (h8 : w ≤ 8) (hv : ∀ v ∈ vars, 1 ≤ v.f2 ∧ v.f2 ≤ 8) (h18 : vars.length ≤ 18) (l : List (List Int)) (hl : l.length ≤ 1000) (hs : ∀ s ∈ l, s.length ≤ 9223372036854775807) :
    Tells (fun k => r2_Stores.f k w vars l) (l.all (isSto w vars)) := by
  unfold r2_Stores.f
  exact stores_loop w vars h1 h8 hv h18 l [] hl hs
theorem isSto_len {w : Int} {vars : List S66} {s : List Int} (h : isSto w vars s = true) : (s.length : Int) = cs vars ∧ valid (2 ^ w.toNat) s = true := by
  unfold isSto at h
  rw [Bool.and_eq_true, decide_eq_true_eq] at h
  exact h
def jnV (w : Int) (vars : List S66) (acc : List Int) (l : List (List Int)) : List Int × Int := if l.all (isSto w vars) = true then (acc ++ l.flatten, 0) else ([], 1)
def jnR (w : Int) (vars : List S66) (body : List S64) (l : List (List Int)) : List Int × Int := if cpE w vars body (l.length : Int) = 0 then jnV w vars [] l else ([], cpE w vars body (l.length : Int))
theorem join_loop (w : Int) (vars : List S66) (body : List S64) (h1 : 1 ≤ w) (h8 : w ≤ 8) (hv : ∀ v ∈ vars, 1 ≤ v.f2 ∧ v.f2 ≤ 8) (h18 : vars.length ≤ 18) (c0 : 0 ≤ cs vars) (c1 : cs vars ≤ 144) : ∀ (suf pre : List (List Int)) (acc : List Int), (pre ++ suf).length ≤ 1000 → acc.length + suf.length * 144 ≤ 1000000 → (∀ s ∈ suf, s.length ≤ 9223372036854775807) →
    Tells (fun k => prod_Join.l0 k acc (pre ++ suf) ((pre ++ suf).length : Int) (pre.length : Int) w vars body) (jnV w vars acc suf)
  | [], pre, acc, _, _, _ => by
    refine Tells.succ ?_
    simp only [prod_Join.l0, pre_nlt, if_false]
    have : jnV w vars acc [] = (acc, 0) := by unfold jnV; rw [List.all_nil, if_pos rfl, List.flatten_nil, List.append_nil]
    rw [this]
    exact Tells.pure _
  | s :: r, pre, acc, hl, ha, hs => by
    refine Tells.succ ?_
    simp only [prod_Join.l0, pre_lt, pre_pos, if_true, rdI_mid]
    refine Tells.bind (pcells_tells w vars body hv h18) ?_
    rw [List.length_cons] at ha
    by_cases e : (s.length : Int) = cs vars
    · refine Tells.ifT e (Tells.bind (pwords_tells w h1 h8 s (hs s (by simp))) ?_)
      by_cases hv2 : valid (2 ^ w.toNat) s = true
      · refine Tells.ifT hv2 (Tells.ifT (by omega) ?_)
        have hi : isSto w vars s = true := by unfold isSto; rw [decide_eq_true e, hv2]; rfl
        have : jnV w vars acc (s :: r) = jnV w vars (acc ++ s) r := by
          unfold jnV
          rw [List.all_cons, hi, Bool.true_and, List.flatten_cons, List.append_assoc]
        rw [this, pre_next pre s r (by omega)]
        have ih := join_loop w vars body h1 h8 hv h18 c0 c1 r (pre ++ [s]) (acc ++ s) (by rw [← pre_app]; exact hl) (by rw [List.length_append]; omega) (fun u hu => hs u (by simp [hu]))
        rw [← pre_app] at ih
        exact ih
      · have hi : isSto w vars s = false := by unfold isSto; rw [Bool.eq_false_iff.2 hv2, Bool.and_false]
        have : jnV w vars acc (s :: r) = ([], 1) := by unfold jnV; rw [List.all_cons, hi, Bool.false_and, if_neg (by decide)]
        rw [this]
        exact Tells.ifF hv2 (Tells.pure _)
    · have hi : isSto w vars s = false := by unfold isSto; rw [decide_eq_false e, Bool.false_and]
      have : jnV w vars acc (s :: r) = ([], 1) := by unfold jnV; rw [List.all_cons, hi, Bool.false_and, if_neg (by decide)]
      rw [this]
      exact Tells.ifF e (Tells.pure _)
theorem flatten_len {c : Int} (h0 : 0 ≤ c) : ∀ {l : List (List Int)}, (∀ s ∈ l, (s.length : Int) = c) → (l.flatten.length : Int) = l.length * c
  | [], _ => by simp
  | s :: r, h => by
    have h1 := h s (by simp)
    have h2 := flatten_len h0 (l := r) (fun u hu => h u (by simp [hu]))
    rw [List.flatten_cons, List.length_append, List.length_cons, Int.natCast_add, h2, h1]
    have : ((r.length + 1 : Nat) : Int) * c = (r.length : Int) * c + c := by rw [Int.natCast_add, Int.add_mul]; simp
    rw [this]
    omega
theorem cpE_ok {w : Int} {vars : List S66} {body : List S64} {k : Int} (hc : cpE w vars body k = 0) : pIs w vars body = true ∧ sgE w vars body = 0 ∧ 1 ≤ k ∧ k ≤ 3 := by
  unfold cpE at hc
  rcases sgE_vals w vars body with ⟨hp, hs⟩ | ⟨hp, hs⟩ | ⟨hp, hs⟩
  · rw [hs, if_pos rfl] at hc
    by_cases c1 : k < 1
    · rw [if_pos c1] at hc; cases hc
    · rw [if_neg c1] at hc
      by_cases c3 : k > 3
      · rw [if_pos c3] at hc; cases hc
      · exact ⟨hp, hs, by omega, by omega⟩
  · rw [hs, if_neg (by decide)] at hc; cases hc
  · rw [hs, if_neg (by decide)] at hc; cases hc
theorem join_tells (w : Int) (vars : List S66) (body : List S64) (hl : body.length ≤ 9223372036854775807) (hg : goodSs body) (l : List (List Int)) (hs : ∀ s ∈ l, s.length ≤ 9223372036854775807) :
    Tells (fun j => prod_Join.f j w vars body l) (jnR w vars body l) := by
  unfold prod_Join.f
  refine Tells.bind (pCheck_tells w vars body hl hg) ?_
  have ts := prodSingle_tells w vars body hl hg
  have no : ∀ b, b = true → cpE w vars body (l.length : Int) = 1 → Tells (fun j => prod_Join.j0 j l b w vars body) (jnR w vars body l) := by
    rintro b rfl h
    have : jnR w vars body l = ([], 1) := by unfold jnR; rw [h, if_neg (by decide)]
    rw [this]
    refine Tells.succ ?_
    simp only [prod_Join.j0, if_true]
    exact Tells.pure _
  rcases sgE_vals w vars body with ⟨hp, h⟩ | ⟨hp, h⟩ | ⟨hp, h⟩
  · rw [hp]
    refine Tells.ifT rfl ?_
    by_cases c1 : (l.length : Int) < 1
    · exact Tells.ifT c1 (no _ rfl (by unfold cpE; rw [h, if_pos rfl, if_pos c1]))
    refine Tells.ifF c1 ?_
    by_cases c3 : (l.length : Int) > 3
    · exact Tells.ifT c3 (no _ rfl (by unfold cpE; rw [h, if_pos rfl, if_neg c1, if_pos c3]))
    refine Tells.ifF c3 (Tells.bind ts ?_)
    have hcp : cpE w vars body (l.length : Int) = 0 := by unfold cpE; rw [h, if_pos rfl, if_neg c1, if_neg c3]
    obtain ⟨h1, h8, hv, h18, k0, k1⟩ := pIs_cells hp
    rw [h]
    refine Tells.succ ?_
    simp only [prod_Join.j0, bne_self_eq_false, Bool.false_eq_true, if_false]
    have : jnR w vars body l = jnV w vars [] l := by unfold jnR; rw [hcp, if_pos rfl]
    rw [this]
    exact join_loop w vars body h1 h8 hv h18 k0 k1 l [] [] (by simp only [List.nil_append]; omega) (by simp only [List.length_nil]; omega) hs
  · rw [hp]
    refine Tells.ifT rfl ?_
    have hc : cpE w vars body (l.length : Int) = 1 := by unfold cpE; rw [h, if_neg (by decide)]
    by_cases c1 : (l.length : Int) < 1
    · exact Tells.ifT c1 (no _ rfl hc)
    refine Tells.ifF c1 ?_
    by_cases c3 : (l.length : Int) > 3
    · exact Tells.ifT c3 (no _ rfl hc)
    exact Tells.ifF c3 (Tells.bind ts (no _ (by rw [h]; rfl) hc))
  · rw [hp]
    have hc : cpE w vars body (l.length : Int) = 30 := by unfold cpE; rw [h, if_neg (by decide)]
    have : jnR w vars body l = ([], 30) := by unfold jnR; rw [hc, if_neg (by decide)]
    rw [this]
    exact Tells.ifF (by decide) (Tells.pure _)
theorem val_const {w : Int} {vs : List S66} {st : List (List Int)} {n c : Int} {l : List S28} : Tells (fun k => r2_Value.f k w vs st 0 n c l) n := by
  refine Tells.succ ?_
  simp only [r2_Value.f, if_true]
  exact Tells.pure _
theorem lt1 (x : S28) (r : List S28) : (0 : Int) < ((x :: r).length : Int) := by rw [List.length_cons]; omega
theorem lt2 (x y : S28) (r : List S28) : (1 : Int) < ((x :: y :: r).length : Int) := by rw [List.length_cons, List.length_cons]; omega
theorem lt3 (x y z : S28) (r : List S28) : (2 : Int) < ((x :: y :: z :: r).length : Int) := by rw [List.length_cons, List.length_cons, List.length_cons]; omega
theorem rd0 (x : S28) (r : List S28) : rd_T28 (x :: r) 0 = x := rfl
theorem rd1 (x y : S28) (r : List S28) : rd_T28 (x :: y :: r) 1 = y := rfl
theorem rd2 (x y z : S28) (r : List S28) : rd_T28 (x :: y :: z :: r) 2 = z := rfl
theorem val_not {w : Int} {vs : List S66} {st : List (List Int)} {n c : Int} {x : S28} {v u : Int} (t : Tells (fun k => r2_Value.f k w vs st x.f0 x.f1 x.f2 x.f3) v) (tn : Tells (fun k => r1_Not.f k w v) u) :
    Tells (fun k => r2_Value.f k w vs st 12 n c [x]) u := by
  refine Tells.succ ?_
  simp only [r2_Value.f, show ¬ ((12 : Int) = 0) by decide, show ¬ ((12 : Int) = 1) by decide, if_true, if_false, lt1, rd0]
  exact Tells.bind t (Tells.bind tn (Tells.pure _))
theorem val_do {w : Int} {vs : List S66} {st : List (List Int)} {op n c : Int} {x y : S28} {a b d : Int} (o0 : op ≠ 0) (o1 : op ≠ 1) (o12 : op ≠ 12) (o15 : op ≠ 15) (tx : Tells (fun k => r2_Value.f k w vs st x.f0 x.f1 x.f2 x.f3) a) (ty : Tells (fun k => r2_Value.f k w vs st y.f0 y.f1 y.f2 y.f3) b)
    (td : Tells (fun k => r1_Do.f k op w a b) d) : Tells (fun k => r2_Value.f k w vs st op n c [x, y]) d := by
  refine Tells.succ ?_
  simp only [r2_Value.f, o0, o1, o12, o15, if_true, if_false, lt1, rd0, lt2, rd1]
  exact Tells.bind tx (Tells.bind ty (Tells.bind td (Tells.pure _)))
theorem val_if {w : Int} {vs : List S66} {st : List (List Int)} {n c : Int} {x y z : S28} {a b d : Int} (tx : Tells (fun k => r2_Value.f k w vs st x.f0 x.f1 x.f2 x.f3) a) (ty : Tells (fun k => r2_Value.f k w vs st y.f0 y.f1 y.f2 y.f3) b)
    (tz : Tells (fun k => r2_Value.f k w vs st z.f0 z.f1 z.f2 z.f3) d) : Tells (fun k => r2_Value.f k w vs st 15 n c [x, y, z]) (if a = 0 then d else b) := by
  refine Tells.succ ?_
  simp only [r2_Value.f, show ¬ ((15 : Int) = 0) by decide, show ¬ ((15 : Int) = 1) by decide, show ¬ ((15 : Int) = 12) by decide, if_true, if_false, lt1, rd0, lt2, rd1, lt3, rd2]
  refine Tells.bind tx (Tells.bind ty ?_)
  by_cases h : a = 0
  · rw [if_pos h]
    exact Tells.ifT h (Tells.bind tz (Tells.pure _))
  · rw [if_neg h]
    exact Tells.ifF h (Tells.pure _)
theorem at_t (vs : List S66) (hl : vs.length ≤ 18) (hv : ∀ v ∈ vs, 1 ≤ v.f2 ∧ v.f2 ≤ 8) (n i : Int) (h0 : 0 ≤ n) (h1 : n < (vs.length : Int)) (i0 : 0 ≤ i) :
    Tells (fun k => r2_At.f k vs n i) (cs (vs.take n.toNat) + i % (rd_T66 vs n).f2) ∧ 1 ≤ (rd_T66 vs n).f2 ∧ (rd_T66 vs n).f2 ≤ 8 ∧ 0 ≤ cs (vs.take n.toNat) ∧ cs (vs.take n.toNat) + (rd_T66 vs n).f2 ≤ cs vs := by
  obtain ⟨m, rfl⟩ : ∃ m : Nat, n = m := ⟨n.toNat, by omega⟩
  have hm : m < vs.length := by omega
  have hx : rd_T66 vs (m : Int) = vs[m] := by
    show vs.getD (m : Int).toNat _ = _
    rw [Int.toNat_natCast, List.getD_eq_getElem?_getD, List.getElem?_eq_getElem hm, Option.getD_some]
  have hc := hv vs[m] (List.getElem_mem hm)
  have hb := cs_bound (vs.take m) (fun v h => hv v (List.mem_of_mem_take h))
  have hb2 : (vs.take m).length ≤ 18 := by rw [List.length_take]; omega
  have hd := cs_bound (vs.drop (m + 1)) (fun v h => hv v (List.mem_of_mem_drop h))
  have app : ∀ a b : List S66, cs (a ++ b) = cs a + cs b := fun a b => by unfold cs; rw [List.map_append, List.sum_append]
  have hsum : cs vs = cs (vs.take m) + (vs[m].f2 + cs (vs.drop (m + 1))) := by
    have e : vs = vs.take m ++ vs[m] :: vs.drop (m + 1) := by rw [List.getElem_cons_drop, List.take_append_drop]
    have e2 := congrArg cs e
    rw [app, cs_cons] at e2
    exact e2
  rw [Int.toNat_natCast, hx]
  have hm0 : 0 ≤ i % vs[m].f2 := Int.emod_nonneg _ (by omega)
  have hm1 : i % vs[m].f2 < vs[m].f2 := Int.emod_lt_of_pos _ (by omega)
  refine ⟨?_, hc.1, hc.2, hb.1, by omega⟩
  unfold r2_At.f
  have tf := first_tells vs (m : Int) (by omega) (by omega) hv hl
  rw [Int.toNat_natCast] at tf
  refine Tells.bind tf (Tells.ifT (by omega) (Tells.ifT (by omega) (Tells.ifF (by rw [hx]; omega) ?_)))
  rw [hx, Int.tmod_eq_emod_of_nonneg i0, w64 (by omega) (by omega)]
  exact Tells.pure _
theorem rd_nat (l : List Int) (i : Int) (h0 : 0 ≤ i) (h1 : i < (l.length : Int)) : ∃ h : i.toNat < l.length, rd l i = l[i.toNat] := by
  have h : i.toNat < l.length := by omega
  refine ⟨h, ?_⟩
  show l.getD i.toNat 0 = _
  rw [List.getD_eq_getElem?_getD, List.getElem?_eq_getElem h, Option.getD_some]
theorem rdL_nat (l : List (List Int)) (i : Int) (h0 : 0 ≤ i) (h1 : i < (l.length : Int)) : ∃ h : i.toNat < l.length, rd_L10 l i = l[i.toNat] := by
  have h : i.toNat < l.length := by omega
  refine ⟨h, ?_⟩
  show l.getD i.toNat _ = _
  rw [List.getD_eq_getElem?_getD, List.getElem?_eq_getElem h, Option.getD_some]
def rdC (vs : List S66) (st : List (List Int)) (n c i : Int) : Int := rd (rd_L10 st c) (cs (vs.take n.toNat) + i % (rd_T66 vs n).f2)
theorem val_read {w : Int} {vs : List S66} {st : List (List Int)} {n c : Int} (hl : vs.length ≤ 18) (hv : ∀ v ∈ vs, 1 ≤ v.f2 ∧ v.f2 ≤ 8) (h0 : 0 ≤ n) (h1 : n < (vs.length : Int)) (c0 : 0 ≤ c) (c1 : c < (st.length : Int)) (hs : ((rd_L10 st c).length : Int) = cs vs) :
    Tells (fun k => r2_Value.f k w vs st 1 n c []) (rdC vs st n c 0) ∧
    ∀ x i, 0 ≤ i → Tells (fun k => r2_Value.f k w vs st x.f0 x.f1 x.f2 x.f3) i → Tells (fun k => r2_Value.f k w vs st 1 n c [x]) (rdC vs st n c i) := by
  constructor
  · obtain ⟨ta, p1, p8, q0, q1⟩ := at_t vs hl hv n 0 h0 h1 (Int.le_refl _)
    have hm0 : 0 ≤ (0 : Int) % (rd_T66 vs n).f2 := Int.emod_nonneg _ (by omega)
    have hm1 : (0 : Int) % (rd_T66 vs n).f2 < (rd_T66 vs n).f2 := Int.emod_lt_of_pos _ (by omega)
    refine Tells.succ ?_
    simp only [r2_Value.f, show ¬ ((1 : Int) = 0) by decide, if_true, if_false]
    refine Tells.ifF (by rw [List.length_nil]; omega) (Tells.ifT c0 (Tells.ifT c1 (Tells.bind ta (Tells.ifT (by omega) (Tells.ifT (by omega) (Tells.pure _))))))
  · intro x i i0 tx
    obtain ⟨ta, p1, p8, q0, q1⟩ := at_t vs hl hv n i h0 h1 i0
    have hm0 : 0 ≤ i % (rd_T66 vs n).f2 := Int.emod_nonneg _ (by omega)
    have hm1 : i % (rd_T66 vs n).f2 < (rd_T66 vs n).f2 := Int.emod_lt_of_pos _ (by omega)
    refine Tells.succ ?_
    simp only [r2_Value.f, show ¬ ((1 : Int) = 0) by decide, if_true, if_false, lt1, rd0]
    exact Tells.bind tx (Tells.ifT c0 (Tells.ifT c1 (Tells.bind ta (Tells.ifT (by omega) (Tells.ifT (by omega) (Tells.pure _))))))
theorem cs_app (a b : List S66) : cs (a ++ b) = cs a + cs b := by unfold cs; rw [List.map_append, List.sum_append]
theorem cs_map (i : Int) : ∀ l : List S66, cs (l.map (nmd i)) = cs l
  | [] => rfl
  | v :: r => by rw [List.map_cons, cs_cons, cs_cons, cs_map i r]; rfl
theorem cs_vsN (vars : List S66) : ∀ k : Nat, cs (vsN vars k) = (k : Int) * cs vars
  | 0 => by simp [vsN, cs_nil]
  | k + 1 => by
    rw [vsN, cs_app, cs_vsN vars k, cs_map, Int.natCast_add, Int.add_mul]
    simp
theorem vsN_at (vars : List S66) : ∀ (k c b : Nat), c < k → b < vars.length → ∃ v u, (vsN vars k)[c * vars.length + b]? = some v ∧ vars[b]? = some u ∧ v.f2 = u.f2 ∧ cs ((vsN vars k).take (c * vars.length + b)) = (c : Int) * cs vars + cs (vars.take b)
  | 0, _, _, h, _ => absurd h (Nat.not_lt_zero _)
  | k + 1, c, b, h, hb => by
    have hlen := vsN_length vars k
    by_cases e : c = k
    · subst e
      refine ⟨nmd (c : Int) vars[b], vars[b], ?_, List.getElem?_eq_getElem hb, rfl, ?_⟩
      · rw [vsN, List.getElem?_append_right (by omega), hlen, Nat.add_sub_cancel_left, List.getElem?_map, List.getElem?_eq_getElem hb]
        rfl
      · rw [vsN, ← hlen, List.take_length_add_append, cs_app, cs_vsN, ← List.map_take, cs_map]
    · obtain ⟨v, u, h1, h2, h3, h4⟩ := vsN_at vars k c b (by omega) hb
      have hle : c * vars.length + b < (vsN vars k).length := by
        rw [hlen]
        have : (c + 1) * vars.length ≤ k * vars.length := Nat.mul_le_mul (by omega) (Nat.le_refl _)
        rw [Nat.succ_mul] at this
        omega
      refine ⟨v, u, ?_, h2, h3, ?_⟩
      · rw [vsN, List.getElem?_append_left hle]
        exact h1
      · rw [vsN, List.take_append_of_le_length (by omega)]
        exact h4
theorem flat_at {n : Nat} : ∀ (st : List (List Int)), (∀ s ∈ st, s.length = n) → ∀ (c i : Nat), i < n → ∀ s, st[c]? = some s → st.flatten[c * n + i]? = s[i]?
  | [], _, c, i, _, s, h => by simp at h
  | x :: r, hs, c, i, hi, s, h => by
    have hx := hs x (by simp)
    cases c with
    | zero =>
      simp only [List.getElem?_cons_zero, Option.some.injEq] at h
      subst h
      rw [List.flatten_cons, Nat.zero_mul, Nat.zero_add, List.getElem?_append_left (by omega)]
    | succ c =>
      rw [List.getElem?_cons_succ] at h
      have ih := flat_at r (fun u hu => hs u (by simp [hu])) c i hi s h
      rw [List.flatten_cons, Nat.succ_mul, List.getElem?_append_right (by omega), hx, ← ih]
      congr 1
      omega
theorem hIs_cells {w : Int} {vs : List S66} (h : hIs w vs = true) : 1 ≤ w ∧ w ≤ 8 ∧ vs.length ≤ 18 ∧ (∀ v ∈ vs, 1 ≤ v.f2 ∧ v.f2 ≤ 8) := by
  obtain ⟨h1, h8, _, h18, hv, _⟩ := hIs_all h
  exact ⟨h1, h8, h18, fun v hx => ⟨(hv v hx).2.2.1, (hv v hx).2.2.2⟩⟩
theorem rdV_nat (l : List S66) (i : Nat) (v : S66) (h : l[i]? = some v) : rd_T66 l (i : Int) = v := by
  show l.getD (i : Int).toNat _ = _
  rw [Int.toNat_natCast, List.getD_eq_getElem?_getD, h, Option.getD_some]
theorem read_same {vars : List S66} (hv : ∀ v ∈ vars, 1 ≤ v.f2 ∧ v.f2 ≤ 8) {st : List (List Int)} (hs : ∀ s ∈ st, (s.length : Int) = cs vars) (b c : Nat) (hb : b < vars.length) (hc : c < st.length) (i : Int) (i0 : 0 ≤ i) :
    rdC (vsN vars st.length) [st.flatten] ((c * vars.length + b : Nat) : Int) 0 i = rdC vars st (b : Int) (c : Int) i ∧ (rd_T66 (vsN vars st.length) ((c * vars.length + b : Nat) : Int)).f2 = (rd_T66 vars (b : Int)).f2 := by
  obtain ⟨v, u, h1, h2, h3, h4⟩ := vsN_at vars st.length c b hc hb
  have e1 := rdV_nat _ _ _ h1
  have e2 := rdV_nat _ _ _ h2
  have hu : 1 ≤ u.f2 ∧ u.f2 ≤ 8 := hv u (List.mem_of_getElem? h2)
  refine ⟨?_, by rw [e1, e2, h3]⟩
  unfold rdC
  rw [e1, e2, h3, Int.toNat_natCast, Int.toNat_natCast, h4]
  have hm0 : 0 ≤ i % u.f2 := Int.emod_nonneg _ (by omega)
  have hm1 : i % u.f2 < u.f2 := Int.emod_lt_of_pos _ (by omega)
  have hcb := cs_bound (vars.take b) (fun v h => hv v (List.mem_of_mem_take h))
  have hca := cs_bound vars hv
  obtain ⟨N, hN⟩ : ∃ N : Nat, cs vars = N := ⟨(cs vars).toNat, by omega⟩
  obtain ⟨T, hT⟩ : ∃ T : Nat, cs (vars.take b) = T := ⟨(cs (vars.take b)).toNat, by omega⟩
  obtain ⟨I, hI⟩ : ∃ I : Nat, i % u.f2 = I := ⟨(i % u.f2).toNat, by omega⟩
  have hsum : (T : Int) + u.f2 ≤ N := by
    have e : vars = vars.take b ++ (vars.drop b) := (List.take_append_drop b vars).symm
    have e3 : vars.drop b = u :: vars.drop (b + 1) := by
      rw [List.drop_eq_getElem_cons hb]
      rw [List.getElem?_eq_getElem hb] at h2
      rw [Option.some.inj h2]
    have e4 := congrArg cs e
    rw [cs_app, e3, cs_cons] at e4
    have hd := cs_bound (vars.drop (b + 1)) (fun v h => hv v (List.mem_of_mem_drop h))
    omega
  rw [hN, hT, hI]
  obtain ⟨hc', e5⟩ := rdL_nat st (c : Int) (by omega) (by omega)
  have e6 : st[c]? = some (rd_L10 st (c : Int)) := by rw [e5, List.getElem?_eq_getElem hc]; simp only [Int.toNat_natCast]
  have hs' : ∀ s ∈ st, s.length = N := fun s h => by have := hs s h; omega
  have key := flat_at st hs' c (T + I) (by omega) _ e6
  show rd st.flatten _ = rd (rd_L10 st (c : Int)) _
  have e7 : (c : Int) * (N : Int) + (T : Int) + (I : Int) = ((c * N + (T + I) : Nat) : Int) := by rw [Int.natCast_add, Int.natCast_mul, Int.natCast_add, Int.add_assoc]
  have e8 : (T : Int) + (I : Int) = ((T + I : Nat) : Int) := by rw [Int.natCast_add]
  rw [e7, e8]
  show st.flatten.getD _ 0 = (rd_L10 st (c : Int)).getD _ 0
  rw [Int.toNat_natCast, Int.toNat_natCast, List.getD_eq_getElem?_getD, List.getD_eq_getElem?_getD, key]
theorem read_word {w : Nat} {vars : List S66} (hl : vars.length ≤ 18) (hv : ∀ v ∈ vars, 1 ≤ v.f2 ∧ v.f2 ≤ 8) {st : List (List Int)} (hs : ∀ s ∈ st, (s.length : Int) = cs vars ∧ valid (2 ^ w) s = true) (b c : Nat) (hb : b < vars.length) (hc : c < st.length) (i : Int) (i0 : 0 ≤ i) :
    0 ≤ rdC vars st (b : Int) (c : Int) i ∧ rdC vars st (b : Int) (c : Int) i < 2 ^ w := by
  obtain ⟨_, p1, p8, q0, q1⟩ := at_t vars hl hv (b : Int) i (by omega) (by omega) i0
  have hm0 : 0 ≤ i % (rd_T66 vars (b : Int)).f2 := Int.emod_nonneg _ (by omega)
  have hm1 : i % (rd_T66 vars (b : Int)).f2 < (rd_T66 vars (b : Int)).f2 := Int.emod_lt_of_pos _ (by omega)
  obtain ⟨hc', e5⟩ := rdL_nat st (c : Int) (by omega) (by omega)
  have hmem : rd_L10 st (c : Int) ∈ st := by rw [e5]; exact List.getElem_mem hc'
  obtain ⟨h1, h2⟩ := hs _ hmem
  unfold rdC
  obtain ⟨hk, e⟩ := rd_nat (rd_L10 st (c : Int)) (cs (vars.take ((b : Int)).toNat) + i % (rd_T66 vars (b : Int)).f2) (by omega) (by omega)
  rw [e]
  exact valid_iff.1 h2 _ (List.getElem_mem hk)
theorem nodeIs_two {w : Int} {vars : List S66} {kk a b c n : Int} (h : nodeIs w vars kk a b c n = true) : arVal vars a b = n ∧ nodeOk w kk a b c = true := by
  unfold nodeIs at h
  rw [Bool.and_eq_true, decide_eq_true_eq] at h
  exact h
theorem nodeOk_const {w : Nat} (h8 : w ≤ 8) {kk b c : Int} (h : nodeOk (w : Int) kk 0 b c = true) : 0 ≤ b ∧ b < 2 ^ w := by
  unfold nodeOk at h
  rw [if_pos rfl] at h
  have hp := two_le h8
  have hp0 := two_pos w
  rw [Int.toNat_natCast, w64 (by omega) (by omega)] at h
  split at h
  · cases h
  · split at h
    · cases h
    · constructor <;> omega
theorem nodeOk_read {w kk b c : Int} (h : nodeOk w kk 1 b c = true) : 0 ≤ c ∧ c < kk := by
  unfold nodeOk at h
  rw [if_neg (by decide), if_pos rfl] at h
  split at h
  · cases h
  · split at h
    · cases h
    · constructor <;> omega
theorem len0 {l : List S28} (h : (0 : Int) = (l.length : Int)) : l = [] := List.eq_nil_of_length_eq_zero (by omega)
theorem len1 {l : List S28} (h : (1 : Int) = (l.length : Int)) : ∃ x, l = [x] := List.length_eq_one_iff.1 (by omega)
theorem len2 {l : List S28} (h : (2 : Int) = (l.length : Int)) : ∃ x y, l = [x, y] := by
  match l, h with
  | [x, y], _ => exact ⟨x, y, rfl⟩
  | [], h => simp at h
  | [_], h => simp at h
  | _ :: _ :: _ :: r, h => simp only [List.length_cons] at h; omega
theorem len3 {l : List S28} (h : (3 : Int) = (l.length : Int)) : ∃ x y z, l = [x, y, z] := by
  match l, h with
  | [x, y, z], _ => exact ⟨x, y, z, rfl⟩
  | [], h => simp at h
  | [_], h => simp at h
  | [_, _], h => simp at h
  | _ :: _ :: _ :: _ :: r, h => simp only [List.length_cons] at h; omega
theorem num_of {C B L : Nat} (hC : C ≤ 2) (hL : L ≤ 18) (hB : B < L) : wrap64 ((B : Int) + wrap64 ((L : Int) * (C : Int))) = ((C * L + B : Nat) : Int) := by
  have h : C * L ≤ 2 * 18 := Nat.mul_le_mul hC hL
  have e : (L : Int) * (C : Int) = ((C * L : Nat) : Int) := by rw [Int.natCast_mul, Int.mul_comm]
  rw [e]
  generalize C * L = q at h
  rw [w64 (n := (q : Int)) (by omega) (by omega), w64 (by omega) (by omega)]
  omega
theorem idx_lt {C B K L : Nat} (hC : C < K) (hB : B < L) : C * L + B < K * L := by
  have h9 : (C + 1) * L ≤ K * L := Nat.mul_le_mul (by omega) (Nat.le_refl _)
  have h10 : (C + 1) * L = C * L + L := Nat.succ_mul _ _
  rw [h10] at h9
  generalize C * L = x at h9 ⊢
  generalize K * L = y at h9 ⊢
  omega
def Val2 (w : Int) (vars : List S66) (st : List (List Int)) (x : S28) : Prop := ∃ v, 0 ≤ v ∧ v < 2 ^ w.toNat ∧ Tells (fun k => r2_Value.f k w vars st x.f0 x.f1 x.f2 x.f3) v ∧
  Tells (fun k => r2_Value.f k w (vsN vars st.length) [st.flatten] (plE (vars.length : Int) x).f0 (plE (vars.length : Int) x).f1 (plE (vars.length : Int) x).f2 (plE (vars.length : Int) x).f3) v
theorem values2 (n : Nat) (h1 : 1 ≤ n) (h8 : n ≤ 8) (vars : List S66) (hl : vars.length ≤ 18) (hv : ∀ v ∈ vars, 1 ≤ v.f2 ∧ v.f2 ≤ 8) (st : List (List Int)) (h3 : st.length ≤ 3) (hs : ∀ s ∈ st, (s.length : Int) = cs vars ∧ valid (2 ^ n) s = true)
    (hh : (vsN vars st.length).length ≤ 18 ∧ ∀ v ∈ vsN vars st.length, 1 ≤ v.f2 ∧ v.f2 ≤ 8) :
    (∀ x, eOK (n : Int) vars (st.length : Int) x = true → Val2 (n : Int) vars st x) ∧ (∀ l, eOKs (n : Int) vars (st.length : Int) l = true → ∀ x ∈ l, Val2 (n : Int) vars st x) := by
  refine E_ind (fun a b c l ih => ?_) (fun _ x hx => by cases hx) (fun x r ih1 ih2 => ?_)
  · intro ho
    simp only [eOK, Bool.and_eq_true] at ho
    obtain ⟨hn, ho⟩ := ho
    have ih := ih ho
    obtain ⟨har, hok⟩ := nodeIs_two hn
    have hp := two_le h8
    have hp0 := two_pos n
    unfold arVal at har
    by_cases a0 : a = 0
    · subst a0
      rw [if_pos rfl] at har
      obtain rfl := len0 har
      obtain ⟨b0, b1⟩ := nodeOk_const h8 hok
      refine ⟨b, b0, by rw [Int.toNat_natCast]; exact b1, val_const, ?_⟩
      simp only [plE, show ¬ ((0 : Int) = 1) by decide, if_false]
      exact val_const
    rw [if_neg a0] at har
    by_cases a1 : a = 1
    · subst a1
      rw [if_pos rfl] at har
      obtain ⟨c0, c1⟩ := nodeOk_read hok
      by_cases hb : 0 ≤ b ∧ b < (vars.length : Int)
      · rw [if_pos hb] at har
        obtain ⟨B, rfl⟩ : ∃ B : Nat, b = B := ⟨b.toNat, by omega⟩
        obtain ⟨C, rfl⟩ : ∃ C : Nat, c = C := ⟨c.toNat, by omega⟩
        have hB : B < vars.length := by omega
        have hC : C < st.length := by omega
        have hnum := num_of (C := C) (B := B) (show C ≤ 2 by omega) hl (show B < vars.length by omega)
        have hlt : ((C * vars.length + B : Nat) : Int) < ((vsN vars st.length).length : Int) := by
          rw [vsN_length]
          exact Int.ofNat_lt.2 (idx_lt hC hB)
        obtain ⟨hc', e5⟩ := rdL_nat st (C : Int) (by omega) (by omega)
        have hlen1 : ((rd_L10 st (C : Int)).length : Int) = cs vars := by rw [e5]; exact (hs _ (List.getElem_mem hc')).1
        have hlen2 : ((rd_L10 [st.flatten] (0 : Int)).length : Int) = cs (vsN vars st.length) := by
          rw [cs_vsN]
          exact flatten_len (cs_bound vars hv).1 (fun s h => (hs s h).1)
        obtain ⟨r1, r2⟩ := val_read (w := (n : Int)) (st := st) (c := (C : Int)) hl hv (by omega) (show ((B : Int)) < (vars.length : Int) by omega) (by omega) (by omega) hlen1
        obtain ⟨q1, q2⟩ := val_read (w := (n : Int)) (st := [st.flatten]) (c := 0) (n := ((C * vars.length + B : Nat) : Int)) hh.1 hh.2 (Int.natCast_nonneg _) hlt (Int.le_refl _) (by simp) hlen2
        have hs1 : ∀ s ∈ st, (s.length : Int) = cs vars := fun s h => (hs s h).1
        by_cases hcl : (rd_T66 vars (B : Int)).f2 > 1
        · rw [if_pos hcl] at har
          obtain ⟨x, rfl⟩ := len1 har
          obtain ⟨v, v0, v1, t1, t2⟩ := ih x (by simp)
          obtain ⟨e1, _⟩ := read_same hv hs1 B C hB hC v v0
          obtain ⟨w0, w1⟩ := read_word hl hv hs B C hB hC v v0
          refine ⟨_, w0, by rw [Int.toNat_natCast]; exact w1, r2 x v v0 t1, ?_⟩
          have t := q2 _ v v0 t2
          rw [e1] at t
          simp only [plE, plEs, if_true, hnum]
          exact t
        · rw [if_neg hcl] at har
          obtain rfl := len0 har
          obtain ⟨e1, _⟩ := read_same hv hs1 B C hB hC 0 (Int.le_refl _)
          obtain ⟨w0, w1⟩ := read_word hl hv hs B C hB hC 0 (Int.le_refl _)
          refine ⟨_, w0, by rw [Int.toNat_natCast]; exact w1, r1, ?_⟩
          have t := q1
          rw [e1] at t
          simp only [plE, plEs, if_true, hnum]
          exact t
      · rw [if_neg hb] at har
        omega
    rw [if_neg a1] at har
    by_cases a2 : (2 ≤ a ∧ a ≤ 11) ∨ a = 13 ∨ a = 14
    · rw [if_pos a2] at har
      obtain ⟨x, y, rfl⟩ := len2 har
      obtain ⟨u, u0, u1, t1, t2⟩ := ih x (by simp)
      obtain ⟨v, v0, v1, t3, t4⟩ := ih y (by simp)
      rw [Int.toNat_natCast] at u1 v1
      obtain ⟨d, td, d0, d1⟩ := do_t n h1 h8 a u v u0 u1 v0 v1
      have n12 : a ≠ 12 := by omega
      have n15 : a ≠ 15 := by omega
      refine ⟨d, d0, by rw [Int.toNat_natCast]; exact d1, val_do a0 a1 n12 n15 t1 t3 td, ?_⟩
      simp only [plE, plEs, a1, if_false]
      exact val_do a0 a1 n12 n15 t2 t4 td
    rw [if_neg a2] at har
    by_cases a12 : a = 12
    · rw [if_pos a12] at har
      subst a12
      obtain ⟨x, rfl⟩ := len1 har
      obtain ⟨u, u0, u1, t1, t2⟩ := ih x (by simp)
      rw [Int.toNat_natCast] at u1
      have tn := Not_t n h8 u u0 u1
      refine ⟨2 ^ n - 1 - u, by omega, by rw [Int.toNat_natCast]; omega, val_not t1 tn, ?_⟩
      simp only [plE, plEs, a1, if_false]
      exact val_not t2 tn
    rw [if_neg a12] at har
    by_cases a15 : a = 15
    · rw [if_pos a15] at har
      subst a15
      obtain ⟨x, y, z, rfl⟩ := len3 har
      obtain ⟨u, u0, u1, t1, t2⟩ := ih x (by simp)
      obtain ⟨v, v0, v1, t3, t4⟩ := ih y (by simp)
      obtain ⟨q, q0, q1, t5, t6⟩ := ih z (by simp)
      refine ⟨if u = 0 then q else v, by split <;> assumption, by split <;> assumption, val_if t1 t3 t5, ?_⟩
      simp only [plE, plEs, a1, if_false]
      exact val_if t2 t4 t6
    · rw [if_neg a15] at har
      omega
  · intro ho y hy
    simp only [eOKs, Bool.and_eq_true] at ho
    rcases List.mem_cons.1 hy with rfl | hy
    · exact ih1 ho.1
    · exact ih2 ho.2 y hy
theorem plE_depth (m : Int) : (∀ x, eD (plE m x) = eD x) ∧ (∀ l, eDs (plEs m l) = eDs l) := by
  refine E_ind (fun a b c l ih => ?_) ?_ (fun x r h1 h2 => ?_)
  · simp only [plE]
    split <;> simp only [eD, ih]
  · simp only [plEs]
  · simp only [plEs, eDs, h1, h2]
theorem plE_ok (w : Int) (vars : List S66) (hl : vars.length ≤ 18) (kk : Nat) (h3 : kk ≤ 3) : (∀ x, eOK w vars (kk : Int) x = true → eOK w (vsN vars kk) 1 (plE (vars.length : Int) x) = true) ∧
    (∀ l, eOKs w vars (kk : Int) l = true → eOKs w (vsN vars kk) 1 (plEs (vars.length : Int) l) = true) := by
  refine E_ind (fun a b c l ih => ?_) (fun _ => by simp only [plEs, eOKs]) (fun x r h1 h2 => ?_)
  · intro ho
    simp only [eOK, Bool.and_eq_true] at ho
    obtain ⟨hn, ho⟩ := ho
    have ih := ih ho
    obtain ⟨har, hok⟩ := nodeIs_two hn
    by_cases a1 : a = 1
    · subst a1
      obtain ⟨c0, c1⟩ := nodeOk_read hok
      unfold arVal at har
      rw [if_neg (by decide), if_pos rfl] at har
      by_cases hb : 0 ≤ b ∧ b < (vars.length : Int)
      · rw [if_pos hb] at har
        obtain ⟨B, rfl⟩ : ∃ B : Nat, b = B := ⟨b.toNat, by omega⟩
        obtain ⟨C, rfl⟩ : ∃ C : Nat, c = C := ⟨c.toNat, by omega⟩
        have hnum := num_of (C := C) (B := B) (show C ≤ 2 by omega) hl (show B < vars.length by omega)
        obtain ⟨v, u, h1, h2, h3', _⟩ := vsN_at vars kk C B (by omega) (by omega)
        have e1 := rdV_nat _ _ _ h1
        have e2 := rdV_nat _ _ _ h2
        have hlt : ((C * vars.length + B : Nat) : Int) < ((vsN vars kk).length : Int) := by
          rw [vsN_length]
          exact Int.ofNat_lt.2 (idx_lt (show C < kk by omega) (show B < vars.length by omega))
        simp only [plE, if_true, eOK, Bool.and_eq_true, hnum]
        refine ⟨?_, ih⟩
        unfold nodeIs
        rw [plEs_length, Bool.and_eq_true, decide_eq_true_eq]
        constructor
        · unfold arVal
          rw [if_neg (by decide), if_pos rfl, if_pos ⟨Int.natCast_nonneg _, hlt⟩, e1, h3', ← e2]
          exact har
        · unfold nodeOk
          rw [if_neg (by decide), if_pos rfl, if_neg (by decide), if_neg (by decide)]
      · rw [if_neg hb] at har
        omega
    · have hc := nodeIs_copy hn a1
      subst hc
      simp only [plE, a1, if_false, eOK, Bool.and_eq_true]
      refine ⟨?_, ih⟩
      unfold nodeIs
      rw [plEs_length, Bool.and_eq_true, decide_eq_true_eq]
      constructor
      · unfold arVal at har ⊢
        rw [if_neg a1] at har ⊢
        exact har
      · unfold nodeOk at hok ⊢
        rw [if_neg a1] at hok ⊢
        exact hok
  · intro ho
    simp only [eOKs, Bool.and_eq_true, plEs] at ho ⊢
    exact ⟨h1 ho.1, h2 ho.2⟩
theorem eqA66 (d : Nat) (w : World) (x0 y0 : ByteArray) (x1 y1 : Int) (x2 y2 : Int) :
  (Op.equalIn (d + 2) 66 (.agg #[.string x0, .int .i64 x1, .int .i64 x2]) (.agg #[.string y0, .int .i64 y1, .int .i64 y2])).run Try.prog w = .ok (x0.toList == y0.toList && (x1 == y1 && (x2 == y2))) w := by
 refine eqA_of Try.underlying66 (by kernel_rfl) ?_
 refine eqf_cons (by rfl) (by go_simp; rfl) (by go_simp; rfl) (by go_simp) ?_
 refine eqf_cons (by rfl) (by go_simp; rfl) (by go_simp; rfl) (by go_simp) ?_
 exact eqf_last (by rfl) (by go_simp; rfl) (by go_simp; rfl) (by go_simp)
end Go.Proofs.Ytilebfkehmecaaa.Print
namespace Go.Proofs.Ytilebfkehmecaaa.Print
open Go.RowKit Go.Proofs.YtilebfkehmecaaaW.PrintWords Go.Proofs.YtilebfkehmecaaaW.PrintLast Go.Proofs.YtilebfkehmecaaaW.PrintMore
attribute [local go_sem] max2_int min2_int max_two min_two max_three min_three max_four min_four
set_option linter.unusedVariables false
set_option linter.unusedSimpArgs false
section
variable {P : Program} {ops : Array Oper} {Q : Exit → Act → World → Prop} {md : Region.Mode}
end
end Go.Proofs.Ytilebfkehmecaaa.Print
namespace Go.Proofs.Ytilebfkehmecaaa.Print
open Go.RowKit Go.Proofs.YtilebfkehmecaaaW.PrintWords Go.Proofs.YtilebfkehmecaaaW.PrintLast Go.Proofs.YtilebfkehmecaaaW.PrintMore
attribute [local go_sem] max2_int min2_int max_two min_two max_three min_three max_four min_four
set_option linter.unusedVariables false
set_option linter.unusedSimpArgs false
open Go.RowKit
section
variable {α : Type} {d : Kd α} {e : Nat} {W W1 : World} {v : Value}
theorem flatten_get {sz : Nat} : ∀ (css : List (List Value)) (j : Nat) (c : List Value) (i : Nat), (∀ c ∈ css, c.length = sz) → css[j]? = some c → i < sz → css.flatten[j * sz + i]? = c[i]?
  | [], j, c, i, _, h, _ => by simp at h
  | x :: r, 0, c, i, hl, h, hi => by
    obtain rfl : x = c := by simpa using h
    have := hl x (by simp)
    simp only [List.flatten_cons, Nat.zero_mul, Nat.zero_add]
    rw [List.getElem?_append_left (by omega)]
  | x :: r, j + 1, c, i, hl, h, hi => by
    have h1 := hl x (by simp)
    have h2 : r[j]? = some c := by simpa using h
    simp only [List.flatten_cons]
    have e1 : (j + 1) * sz + i = x.length + (j * sz + i) := by rw [h1, Nat.succ_mul]; omega
    rw [e1, List.getElem?_append_right (by omega), Nat.add_sub_cancel_left]
    exact flatten_get r j c i (fun c hc => hl c (by simp [hc])) h2 hi
def Is (d : Kd α) (B : Nat) (W : World) (v : Value) (x : α) : Prop := ∃ cs : List Value, v = .agg cs.toArray ∧ Kd.FK d W (fun k => B ≤ k ∧ k < W.heap.size) x cs
def IsRow (d : Kd α) (B : Nat) (e : Nat) (W : World) (v : Value) (l : List α) : Prop :=
  ∃ (b : Nat) (css : List (List Value)), v = .slice (some ⟨b, 0, none⟩) l.length l.length ∧ W.heap[b]? = some (.cells css.flatten.toArray e (0, 0)) ∧ B ≤ b ∧ css.length = l.length ∧ l.length ≤ 9223372036854775807 ∧
    ∀ (j : Nat) (x : α) (c : List Value), l[j]? = some x → css[j]? = some c → Kd.FK d W (fun k => B ≤ k ∧ k < b) x c
variable {B : Nat}
theorem Is.below {x : α} (h : Is d B W v x) (hb : Below W.heap.size W W1) : Is d B W1 v x := by
  obtain ⟨cs, e1, h⟩ := h
  exact ⟨cs, e1, Kd.FK_mono (Kd.FK_below h hb) (fun k hk => ⟨hk.1, Nat.lt_of_lt_of_le hk.2 hb.size⟩)⟩
theorem IsRow.below {l : List α} (h : IsRow d B e W v l) (hb : Below W.heap.size W W1) : IsRow d B e W1 v l := by
  obtain ⟨b, css, e1, h1, h0, h2, h3, h4⟩ := h
  exact ⟨b, css, e1, (hb.block _ (blk_lt h1)).trans h1, h0, h2, h3, fun j x c hj hc => Kd.FK_below (h4 j x c hj hc) hb⟩
theorem IsRow.F {l : List α} {b : Nat} {css : List (List Value)} (h1 : W.heap[b]? = some (.cells css.flatten.toArray e (0, 0))) (h0 : B ≤ b) (h2 : css.length = l.length) (h3 : l.length ≤ 9223372036854775807)
    (h4 : ∀ (j : Nat) (x : α) (c : List Value), l[j]? = some x → css[j]? = some c → Kd.FK d W (fun k => B ≤ k ∧ k < b) x c) : Kd.F d W (fun k => B ≤ k ∧ k < W.heap.size) (some ⟨b, 0, none⟩) l.length l := by
  intro W' hW'
  have hb := blk_lt h1
  have hlen : ∀ c ∈ css, c.length = d.sz := by
    intro c hc
    obtain ⟨j, hj, e2⟩ := List.mem_iff_getElem.1 hc
    have hj2 : j < l.length := by omega
    exact d.K_len (Kd.FK_now (h4 j l[j] c (List.getElem?_eq_getElem hj2) (by rw [List.getElem?_eq_getElem hj, e2])))
  refine ⟨rfl, h3, fun _ => ⟨_, rfl, fun j x hj => ?_⟩⟩
  have hj2 : j < css.length := by have := (List.getElem?_eq_some_iff.1 hj).1; omega
  have hc := List.getElem?_eq_getElem hj2
  have hk := h4 j x _ hj hc
  refine ⟨css[j], hlen _ (List.getElem_mem hj2), hk W' (fun k hk' hk2 => hW' k ⟨hk'.1, hk2⟩ hk2), fun i u hu => ?_⟩
  have hi : i < d.sz := by have := (List.getElem?_eq_some_iff.1 hu).1; rw [hlen _ (List.getElem_mem hj2)] at this; exact this
  have hg := flatten_get css j _ i hlen hc hi
  have hB := (hW' b ⟨h0, hb⟩ hb).trans h1
  have : (⟨b, 0, none⟩ : Addr).add (j * d.sz + i) = ⟨b, j * d.sz + i, none⟩ := by unfold Addr.add; split <;> simp_all
  rw [this, blk_cell hB (j * d.sz + i)]
  simpa [hg] using hu
theorem IsRow.foot {l : List α} (h : IsRow d B e W v l) : ∃ A, v = .slice A l.length l.length ∧ Kd.F d W (fun k => B ≤ k ∧ k < W.heap.size) A l.length l := by
  obtain ⟨b, css, e1, h1, h0, h2, h3, h4⟩ := h
  exact ⟨_, e1, IsRow.F h1 h0 h2 h3 h4⟩
theorem IsRow.C {l : List α} (h : IsRow d B e W v l) : ∃ A, v = .slice A l.length l.length ∧ d.C W A l.length l := by
  obtain ⟨A, e1, h1⟩ := h.foot
  exact ⟨A, e1, Kd.F_now h1⟩
theorem IsRow.new {l : List α} (hB : B ≤ W.heap.size) (css : List (List Value)) {cs : Array Value} (hcs : cs = css.flatten.toArray) (h2 : css.length = l.length) (h3 : l.length ≤ 9223372036854775807) (h4 : ∀ (j : Nat) (x : α) (c : List Value), l[j]? = some x → css[j]? = some c → Kd.FK d W (fun k => B ≤ k ∧ k < W.heap.size) x c) :
    IsRow d B e (W.alloc (.cells cs e)) (.slice (some ⟨W.heap.size, 0, none⟩) l.length l.length) l := by
  subst hcs
  exact ⟨_, css, rfl, heap_alloc_new _ _, hB, h2, h3, fun j x c hj hc => Kd.FK_below (h4 j x c hj hc) (bal (Below.refl _ _) _)⟩
theorem F_zero (A : Option Addr) (ok : Nat → Prop) : Kd.F d W ok A ([] : List α).length [] := fun W' _ => ⟨rfl, by simp, fun h => by simp at h⟩
end
end Go.Proofs.Ytilebfkehmecaaa.Print
namespace Go.Proofs.Ytilebfkehmecaaa.Print
open Go.RowKit Go.Proofs.YtilebfkehmecaaaW.PrintWords Go.Proofs.YtilebfkehmecaaaW.PrintLast Go.Proofs.YtilebfkehmecaaaW.PrintMore
attribute [local go_sem] max2_int min2_int max_two min_two max_three min_three max_four min_four
set_option linter.unusedVariables false
set_option linter.unusedSimpArgs false
open Go.Shelf Go.RowKit
attribute [local go_sem] Oper.semAt_some
theorem run_copy_rowk {P : Program} (w : World) (dT sT ty elem : TypeId) (k g o dLen dCap : Nat) (a : Addr) (sLen sCap : Nat) (cur : Array Value) (t : TypeId) (cs : List Value)
    (hu : P.underlying dT = some (.slice elem)) (hs : (P.info? elem).map (·.size) = some k)
    (hg : w.heap[g]? = some (.cells cur t (0, 0))) (hn : cs.length = Nat.min sLen dLen * k)
    (hsrc : ∀ j v, cs[j]? = some v → w.cell? (a.add j) = some v) (hfit : o + cs.length ≤ cur.size) (h1 : ∀ v ∈ cs, v.oneCell' = true) :
    (Builtin.copy_ #[dT, sT] ty #[.slice (some ⟨g, o, none⟩) dLen dCap, .slice (some a) sLen sCap]).run P w =
      .ok (goInt (Nat.min sLen dLen)) (w.setRow g (cur.toList.take o ++ cs ++ cur.toList.drop (o + cs.length)).toArray) := by
  have hl := run_loadCells_list (P := P) w a cs hsrc
  have hst := run_storeCells_at P g o t cs 0 cur w hg (by simpa using hfit) h1
  cases hq : P.info? elem with
  | none => simp [hq] at hs
  | some i =>
    have hi : i.size = k := by simpa [hq] using hs
    simp [Builtin.copy_, run_underlying hu, Builtin.lenOf, Builtin.firstCells, sizeOf, typeInfo, hq, hi, ← hn, hl, hst]
theorem wpList_copy_rowk {P : Program} {w : World} {ops : Array Oper} {rest : List Oper} {o : Oper} {a : Act} {Q : Exit → Act → World → Prop} (hgd : o.guard = none) (d s : Operand) (dT sT : TypeId)
    (ho : o.op = .call { callee := .builtin .copy, args := #[d, s], argTypes := #[dT, sT] }) (elem k : TypeId) (hu : P.underlying dT = some (.slice elem)) (hsz : (P.info? elem).map (·.size) = some k)
    (g off dLen dCap : Nat) (ad : Addr) (sLen sCap : Nat) (hd : a.eval d = .slice (some ⟨g, off, none⟩) dLen dCap) (hs : a.eval s = .slice (some ad) sLen sCap)
    (cur : Array Value) (t : TypeId) (hg : w.heap[g]? = some (.cells cur t (0, 0))) (cs : List Value) (hn : cs.length = Nat.min sLen dLen * k)
    (hsrc : ∀ j v, cs[j]? = some v → w.cell? (ad.add j) = some v) (hfit : off + cs.length ≤ cur.size) (h1 : ∀ v ∈ cs, v.oneCell' = true) (new : Array Value) (hnew : (cur.toList.take off ++ cs ++ cur.toList.drop (off + cs.length)).toArray = new)
    (h : ∀ w', w'.heap[g]? = some (.cells new t (0, 0)) → (∀ B, B ≤ g → Below B w w') → w'.heap.size = w.heap.size → wpList P ops Q rest (a.put o.dst (goInt (Nat.min sLen dLen))) w') : wpList P ops Q (o :: rest) a w := by
  subst hnew
  refine wpList_plain hgd fun K hK => ?_
  have hrun := run_copy_rowk (P := P) w dT sT o.type elem k g off dLen dCap ad sLen sCap cur t cs hu hsz hg hn hsrc hfit h1
  unfold Oper.wp
  simp [execOp, ho, resolve, invoke, builtin, hd, hs, hrun, Result.andThen]
  refine hK _ _ (h _ ?_ (fun B hB => below_setRow (Below.refl _ _) hB _) (by simp [World.setRow]))
  have := setRow_heap w g cur ((cur.toList.take off ++ cs ++ cur.toList.drop (off + cs.length)).toArray) t (0, 0) hg
  simpa using this
theorem step_copy_rowk {P : Program} {w : World} {ops : Array Oper} {o : Oper} {a : Act} {Kc : Act → World → Prop} {Q : Exit → Act → World → Prop} (hw : Region.wanted o (yielded ops a.tmps) = true) (d s : Operand) (dT sT : TypeId)
    (ho : o.op = .call { callee := .builtin .copy, args := #[d, s], argTypes := #[dT, sT] }) (elem k : TypeId) (hu : P.underlying dT = some (.slice elem)) (hsz : (P.info? elem).map (·.size) = some k)
    (g off dLen dCap : Nat) (ad : Addr) (sLen sCap : Nat) (hd : a.eval d = .slice (some ⟨g, off, none⟩) dLen dCap) (hs : a.eval s = .slice (some ad) sLen sCap)
    (cur : Array Value) (t : TypeId) (hg : w.heap[g]? = some (.cells cur t (0, 0))) (cs : List Value) (hn : cs.length = Nat.min sLen dLen * k)
    (hsrc : ∀ j v, cs[j]? = some v → w.cell? (ad.add j) = some v) (hfit : off + cs.length ≤ cur.size) (h1 : ∀ v ∈ cs, v.oneCell' = true) (new : Array Value) (hnew : (cur.toList.take off ++ cs ++ cur.toList.drop (off + cs.length)).toArray = new)
    (h : ∀ w', w'.heap[g]? = some (.cells new t (0, 0)) → (∀ B, B ≤ g → Below B w w') → w'.heap.size = w.heap.size → Kc (a.put o.dst (goInt (Nat.min sLen dLen))) w') :
    if Region.wanted o (yielded ops a.tmps) = true then Oper.wp P o a w Kc Q else Kc (a.put o.dst undef) w := by
  subst hnew
  rw [if_pos hw]
  have hrun := run_copy_rowk (P := P) w dT sT o.type elem k g off dLen dCap ad sLen sCap cur t cs hu hsz hg hn hsrc hfit h1
  unfold Oper.wp
  simp [execOp, ho, resolve, invoke, builtin, hd, hs, hrun, Result.andThen]
  refine h _ ?_ (fun B hB => below_setRow (Below.refl _ _) hB _) (by simp [World.setRow])
  have := setRow_heap w g cur ((cur.toList.take off ++ cs ++ cur.toList.drop (off + cs.length)).toArray) t (0, 0) hg
  simpa using this
theorem srcn {W : World} {b t : Nat} {cur : Array Value} {cs : List Value} (h : W.heap[b]? = some (.cells cur t (0, 0))) (hc : ∀ (j : Nat) (v : Value), cs[j]? = some v → cur[j]? = some v) : ∀ j v, cs[j]? = some v → W.cell? ((⟨b, 0, none⟩ : Addr).add j) = some v := by
  intro j v hj
  have : (⟨b, 0, none⟩ : Addr).add j = ⟨b, j, none⟩ := by unfold Addr.add; split <;> simp_all
  rw [this, blk_cell h j]
  exact hc j v hj
theorem C_of_row {α : Type} {d : Kd α} {W : World} {b e : Nat} {l : List α} {css : List (List Value)} (h1 : W.heap[b]? = some (.cells css.flatten.toArray e (0, 0))) (h2 : css.length = l.length) (h3 : l.length ≤ 9223372036854775807)
    (h4 : ∀ (j : Nat) (x : α) (c : List Value), l[j]? = some x → css[j]? = some c → d.K W x c) : d.C W (some ⟨b, 0, none⟩) l.length l := by
  have hlen : ∀ c ∈ css, c.length = d.sz := by
    intro c hc
    obtain ⟨j, hj, e2⟩ := List.mem_iff_getElem.1 hc
    have hj2 : j < l.length := by omega
    exact d.K_len (h4 j l[j] c (List.getElem?_eq_getElem hj2) (by rw [List.getElem?_eq_getElem hj, e2]))
  have flat : ∀ (css : List (List Value)) (j : Nat) (c : List Value) (i : Nat), (∀ c ∈ css, c.length = d.sz) → css[j]? = some c → i < d.sz → css.flatten[j * d.sz + i]? = c[i]? := by
    intro css
    induction css with
    | nil => intro j c i _ h _; simp at h
    | cons x r ih =>
      intro j c i hl h hi
      have h1 := hl x (by simp)
      cases j with
      | zero =>
        obtain rfl : x = c := by simpa using h
        simp only [List.flatten_cons, Nat.zero_mul, Nat.zero_add]
        rw [List.getElem?_append_left (by omega)]
      | succ j =>
        have e1 : (j + 1) * d.sz + i = x.length + (j * d.sz + i) := by rw [h1, Nat.succ_mul]; omega
        simp only [List.flatten_cons]
        rw [e1, List.getElem?_append_right (by omega), Nat.add_sub_cancel_left]
        exact ih j c i (fun c hc => hl c (by simp [hc])) (by simpa using h) hi
  refine ⟨rfl, h3, fun _ => ⟨_, rfl, fun j x hj => ?_⟩⟩
  have hj2 : j < css.length := by have := (List.getElem?_eq_some_iff.1 hj).1; omega
  have hc := List.getElem?_eq_getElem hj2
  refine ⟨css[j], hlen _ (List.getElem_mem hj2), h4 j x _ hj hc, fun i u hu => ?_⟩
  have hi : i < d.sz := by have := (List.getElem?_eq_some_iff.1 hu).1; rw [hlen _ (List.getElem_mem hj2)] at this; exact this
  have hg := flat css j _ i hlen hc hi
  have : (⟨b, 0, none⟩ : Addr).add (j * d.sz + i) = ⟨b, j * d.sz + i, none⟩ := by unfold Addr.add; split <;> simp_all
  rw [this, blk_cell h1 (j * d.sz + i)]
  simpa [hg] using hu
theorem bits_Mul.one (n : Int) (w : World) (hn : n = 1 ∨ n = 2 ∨ n = 3) : Calls Try.prog 97 #[.int .u64 1, .int .u64 n] w fun e w' => e = .returned (.tuple #[.int .u64 0, .int .u64 n]) ∧ w = w' := by
  rcases hn with rfl | rfl | rfl
  all_goals
    go_enter Try.func97, Try.ntmps97
    go_wp2
    go_ret2
    exact ⟨rfl, rfl⟩
theorem src3 {W : World} {b t : Nat} {x y z : Value} (h : W.heap[b]? = some (.cells #[x, y, z] t (0, 0))) : ∀ j v, [x, y, z][j]? = some v → W.cell? ((⟨b, 0, none⟩ : Addr).add j) = some v := by
  intro j v hj
  have : (⟨b, 0, none⟩ : Addr).add j = ⟨b, j, none⟩ := by unfold Addr.add; split <;> simp_all
  rw [this, blk_cell h j]
  simpa using hj
theorem slices_Repeat.calls (n : Nat) (hn : n = 1 ∨ n = 2 ∨ n = 3) (p0 : Int) (A1 : Option Addr) (n1 c1 : Nat) (A2 : Option Addr) (n2 c2 : Nat) (b : Nat) (w : World) (hb : w.heap[b]? = some (.cells #[.int .i64 p0, .slice A1 n1 c1, .slice A2 n2 c2] 25 (0, 0))) :
    Calls Try.prog 66 #[.slice (some ⟨b, 0, none⟩) 1 1, .int .i64 (n : Int)] w fun e w' => ∃ B, e = .returned (.slice (some ⟨B, 0, none⟩) n n) ∧ w'.heap[B]? = some (.cells (List.replicate n [.int .i64 p0, .slice A1 n1 c1, .slice A2 n2 c2]).flatten.toArray 25 (0, 0)) ∧ Below w.heap.size w w' := by
  have huP := Try.underlying93
  have hlt := blk_lt hb
  have hi : ∃ i, Try.prog.info? 25 = some i ∧ i.zero = some (.agg #[.int .i64 0, .slice none 0 0, .slice none 0 0]) ∧ i.size = 3 ∧ i.bytes = 56 := by
    have h := info25
    obtain ⟨i, h1, h2⟩ := Option.map_eq_some_iff.1 h
    simp only [Prod.mk.injEq] at h2
    exact ⟨i, h1, h2.1, h2.2.1, h2.2.2⟩
  have hsz : (Try.prog.info? 25).map (·.size) = some 3 := by
    obtain ⟨i, h1, _, h3, _⟩ := hi
    rw [h1]; simp [h3]
  have hmk : ∀ m : Nat, m ≤ 3 → ∀ W : World, (Instr.makeSlice 93 (.int .i64 (m : Int)) (.int .i64 (m : Int))).run Try.prog W = .ok (.slice (some ⟨W.heap.size, 0, none⟩) m m) (W.alloc (.cells (madeCells #[.int .i64 0, .slice none 0 0, .slice none 0 0] (m * 3)) 25)) := by
    intro m hm W
    obtain ⟨i, h1, h2, h3, h4⟩ := hi
    have := run_make (P := Try.prog) W 93 25 i _ huP h1 h2 .i64 .i64 (m : Int) (m : Int) (by omega) (Int.le_refl _) (by rw [h4]; omega) (by omega)
    rw [h3] at this
    simp only [Int.toNat_natCast] at this
    exact this
  have HB := Aside0.mk hb
  clear hi hb
  rcases hn with rfl | rfl | rfl
  · have hm : ∀ W : World, (Instr.makeSlice 93 (.int .i64 1) (.int .i64 1)).run Try.prog W = .ok (.slice (some ⟨W.heap.size, 0, none⟩) 1 1) (W.alloc (.cells #[.int .i64 0, .slice none 0 0, .slice none 0 0] 25)) := fun W => by have h9 := hmk 1 (by omega) W; rwa [show madeCells #[.int .i64 0, .slice none 0 0, .slice none 0 0] (1 * 3) = #[.int .i64 0, .slice none 0 0, .slice none 0 0] from by first | rfl | kernel_rfl] at h9
    clear hmk
    have b0 := bal (Below.refl w.heap.size w) (.cells #[.int .i64 0, .slice none 0 0, .slice none 0 0] 25)
    have z0 : (w.alloc (.cells #[.int .i64 0, .slice none 0 0, .slice none 0 0] 25)).heap[w.heap.size]? = some (.cells #[.int .i64 0, .slice none 0 0, .slice none 0 0] 25 (0, 0)) := blk_new _ _
    have d0 := blk_below HB.out b0
    obtain ⟨W0, hW0⟩ : ∃ X, w.alloc (.cells #[.int .i64 0, .slice none 0 0, .slice none 0 0] 25) = X := ⟨_, rfl⟩
    rw [hW0] at b0 z0 d0
    go_enter Try.func66, Try.ntmps66
    go_wp2_with (first | (go_at_call 97; refine (bits_Mul.one 1 _ (by decide)).mono ?_; rintro e W ⟨rfl, rfl⟩) | ((with_reducible refine gate_builtin (b := .copy) (xs := #[.tmp 31, .tmp 32]) rfl ?_); go_must (refine wpList_copy_rowk (P := Try.prog) (w := W0) rfl (.tmp 31) (.tmp 32) 93 93 rfl 25 3 huP hsz w.heap.size 0 1 1 ⟨b, 0, none⟩ 1 1 rfl rfl _ 25 z0 [.int .i64 p0, .slice A1 n1 c1, .slice A2 n2 c2] rfl (src3 d0) (by simp) (by simp [Value.oneCell']) #[.int .i64 p0, .slice A1 n1 c1, .slice A2 n2 c2] rfl ?_; intro W1 z1 b1 s1)))
    have s2 : W0.heap.size = w.heap.size + 1 := by rw [← hW0]; simp
    have SS := Aside0.mk (show w.heap.size + 1 ≤ W1.heap.size by omega)
    have BW := Aside0.mk (b0.trans (b1 _ (Nat.le_refl _)))
    have ROW := Aside0.mk z1
    clear z0 b0 d0 hW0 z1 b1 s1 s2 hm HB hlt
    go_loopg [8] 0 (fun kq v8 X => ((v8 = .int .i64 1 ∧ 1 + kq = 1 ∧ Aside0 (X.heap[w.heap.size]? = some (.cells #[.int .i64 p0, .slice A1 n1 c1, .slice A2 n2 c2] 25 (0, 0))))) ∧ Aside0 (Below w.heap.size w X))
    case atStart => exact ⟨⟨rfl, by decide, ROW⟩, BW⟩
    case round =>
      clear ROW BW SS
      obtain ⟨hrel, BW⟩ := hrel
      rcases hrel with ⟨rfl, hk, ROW⟩
      · obtain rfl : gk = 0 := by omega
        go_wp2
        go_ret
        exact ⟨_, rfl, ROW.out, BW.out⟩
  · have hm : ∀ W : World, (Instr.makeSlice 93 (.int .i64 2) (.int .i64 2)).run Try.prog W = .ok (.slice (some ⟨W.heap.size, 0, none⟩) 2 2) (W.alloc (.cells #[.int .i64 0, .slice none 0 0, .slice none 0 0, .int .i64 0, .slice none 0 0, .slice none 0 0] 25)) := fun W => by have h9 := hmk 2 (by omega) W; rwa [show madeCells #[.int .i64 0, .slice none 0 0, .slice none 0 0] (2 * 3) = #[.int .i64 0, .slice none 0 0, .slice none 0 0, .int .i64 0, .slice none 0 0, .slice none 0 0] from by first | rfl | kernel_rfl] at h9
    clear hmk
    have b0 := bal (Below.refl w.heap.size w) (.cells #[.int .i64 0, .slice none 0 0, .slice none 0 0, .int .i64 0, .slice none 0 0, .slice none 0 0] 25)
    have z0 : (w.alloc (.cells #[.int .i64 0, .slice none 0 0, .slice none 0 0, .int .i64 0, .slice none 0 0, .slice none 0 0] 25)).heap[w.heap.size]? = some (.cells #[.int .i64 0, .slice none 0 0, .slice none 0 0, .int .i64 0, .slice none 0 0, .slice none 0 0] 25 (0, 0)) := blk_new _ _
    have d0 := blk_below HB.out b0
    obtain ⟨W0, hW0⟩ : ∃ X, w.alloc (.cells #[.int .i64 0, .slice none 0 0, .slice none 0 0, .int .i64 0, .slice none 0 0, .slice none 0 0] 25) = X := ⟨_, rfl⟩
    rw [hW0] at b0 z0 d0
    go_enter Try.func66, Try.ntmps66
    go_wp2_with (first | (go_at_call 97; refine (bits_Mul.one 2 _ (by decide)).mono ?_; rintro e W ⟨rfl, rfl⟩) | ((with_reducible refine gate_builtin (b := .copy) (xs := #[.tmp 31, .tmp 32]) rfl ?_); go_must (refine wpList_copy_rowk (P := Try.prog) (w := W0) rfl (.tmp 31) (.tmp 32) 93 93 rfl 25 3 huP hsz w.heap.size 0 2 2 ⟨b, 0, none⟩ 1 1 rfl rfl _ 25 z0 [.int .i64 p0, .slice A1 n1 c1, .slice A2 n2 c2] rfl (src3 d0) (by simp) (by simp [Value.oneCell']) #[.int .i64 p0, .slice A1 n1 c1, .slice A2 n2 c2, .int .i64 0, .slice none 0 0, .slice none 0 0] rfl ?_; intro W1 z1 b1 s1)))
    have s2 : W0.heap.size = w.heap.size + 1 := by rw [← hW0]; simp
    have SS := Aside0.mk (show w.heap.size + 1 ≤ W1.heap.size by omega)
    have BW := Aside0.mk (b0.trans (b1 _ (Nat.le_refl _)))
    have ROW := Aside0.mk z1
    clear z0 b0 d0 hW0 z1 b1 s1 s2 hm HB hlt
    go_loopg [8] 1 (fun kq v8 X => ((v8 = .int .i64 1 ∧ 1 + kq = 2 ∧ Aside0 (X.heap[w.heap.size]? = some (.cells #[.int .i64 p0, .slice A1 n1 c1, .slice A2 n2 c2, .int .i64 0, .slice none 0 0, .slice none 0 0] 25 (0, 0)))) ∨ (v8 = .int .i64 2 ∧ 2 + kq = 2 ∧ Aside0 (X.heap[w.heap.size]? = some (.cells #[.int .i64 p0, .slice A1 n1 c1, .slice A2 n2 c2, .int .i64 p0, .slice A1 n1 c1, .slice A2 n2 c2] 25 (0, 0))))) ∧ Aside0 (Below w.heap.size w X))
    case atStart => exact ⟨.inl ⟨rfl, by decide, ROW⟩, BW⟩
    case round =>
      clear ROW BW SS
      obtain ⟨hrel, BW⟩ := hrel
      rcases hrel with ⟨rfl, hk, ROW⟩ | ⟨rfl, hk, ROW⟩
      · obtain rfl : gk = 1 := by omega
        go_wp2
        have RD := Aside0.mk (kdr ROW.out)
        have BD := Aside0.mk (below_drew BW.out)
        refine start_ (n := 10) (S := fun _ => True) (ds := []) #[false, false, false, false, false, false, false, false, false, false] (by kernel_rfl) rfl rfl trivial (fun hHeld => ?_)
        generalize wr.drew = Y at RD BD hHeld ⊢
        refine pu (i := 0) (N := some 38) (bl 10 1) rfl rfl (by kernel_rfl) ?_
        refine pu (i := 1) (N := some 39) (bl 10 3) rfl rfl (by kernel_rfl) ?_
        refine pu (i := 2) (N := some 40) (bl 10 7) rfl rfl (by kernel_rfl) ?_
        refine pu (i := 3) (N := some 41) (bl 10 15) rfl rfl (by kernel_rfl) ?_
        refine pu (i := 4) (N := some 42) (bl 10 31) rfl rfl (by kernel_rfl) ?_
        refine pu (i := 5) (N := some 43) (bl 10 63) rfl rfl (by kernel_rfl) ?_
        refine pu (i := 6) (N := some 44) (bl 10 127) rfl rfl (by kernel_rfl) ?_
        refine one_ (i := 7) (N := (some 45)) (bl 10 255) rfl rfl (by kernel_rfl) (by decide) (fun K hK => ?_)
        refine step_copy_rowk (P := Try.prog) (w := Y) (by rfl) (.tmp 41) (.tmp 44) 93 93 rfl 25 3 huP hsz w.heap.size 3 1 1 ⟨w.heap.size, 0, none⟩ 1 2 rfl rfl _ 25 RD.out [.int .i64 p0, .slice A1 n1 c1, .slice A2 n2 c2] rfl (srcn RD.out (by intro j v hj; rcases j with _ | _ | _ | j <;> simp_all)) (by simp) (by simp [Value.oneCell']) #[.int .i64 p0, .slice A1 n1 c1, .slice A2 n2 c2, .int .i64 p0, .slice A1 n1 c1, .slice A2 n2 c2] rfl ?_
        intro Y2 z2 b2 s2
        refine hK.out _ _ trivial (fun hHeld => ?_)
        clear hK K
        refine nm 45 ?_
        refine pu (i := 8) (N := some 46) (bl 10 511) rfl rfl (by kernel_rfl) ?_
        refine pu (i := 9) (N := some 8) (bl 10 1023) rfl rfl (by kernel_rfl) ?_
        refine done_ (by kernel_rfl) ?_
        try simp only [Exit.then, Exit.inBlock]
        have bz := Aside0.mk (BD.out.trans (b2 _ (Nat.le_refl _)))
        have rz := Aside0.mk z2
        try go_wp2
        go_roundg 0
        case measure => omega
        case rel => exact ⟨.inr (⟨by first | rfl | (unfold wrap64; rfl) | (simp [wrap64]; done), by decide, rz⟩), bz⟩
      · obtain rfl : gk = 0 := by omega
        go_wp2
        go_ret
        exact ⟨_, rfl, ROW.out, BW.out⟩
  · have hm : ∀ W : World, (Instr.makeSlice 93 (.int .i64 3) (.int .i64 3)).run Try.prog W = .ok (.slice (some ⟨W.heap.size, 0, none⟩) 3 3) (W.alloc (.cells #[.int .i64 0, .slice none 0 0, .slice none 0 0, .int .i64 0, .slice none 0 0, .slice none 0 0, .int .i64 0, .slice none 0 0, .slice none 0 0] 25)) := fun W => by have h9 := hmk 3 (by omega) W; rwa [show madeCells #[.int .i64 0, .slice none 0 0, .slice none 0 0] (3 * 3) = #[.int .i64 0, .slice none 0 0, .slice none 0 0, .int .i64 0, .slice none 0 0, .slice none 0 0, .int .i64 0, .slice none 0 0, .slice none 0 0] from by first | rfl | kernel_rfl] at h9
    clear hmk
    have b0 := bal (Below.refl w.heap.size w) (.cells #[.int .i64 0, .slice none 0 0, .slice none 0 0, .int .i64 0, .slice none 0 0, .slice none 0 0, .int .i64 0, .slice none 0 0, .slice none 0 0] 25)
    have z0 : (w.alloc (.cells #[.int .i64 0, .slice none 0 0, .slice none 0 0, .int .i64 0, .slice none 0 0, .slice none 0 0, .int .i64 0, .slice none 0 0, .slice none 0 0] 25)).heap[w.heap.size]? = some (.cells #[.int .i64 0, .slice none 0 0, .slice none 0 0, .int .i64 0, .slice none 0 0, .slice none 0 0, .int .i64 0, .slice none 0 0, .slice none 0 0] 25 (0, 0)) := blk_new _ _
    have d0 := blk_below HB.out b0
    obtain ⟨W0, hW0⟩ : ∃ X, w.alloc (.cells #[.int .i64 0, .slice none 0 0, .slice none 0 0, .int .i64 0, .slice none 0 0, .slice none 0 0, .int .i64 0, .slice none 0 0, .slice none 0 0] 25) = X := ⟨_, rfl⟩
    rw [hW0] at b0 z0 d0
    go_enter Try.func66, Try.ntmps66
    go_wp2_with (first | (go_at_call 97; refine (bits_Mul.one 3 _ (by decide)).mono ?_; rintro e W ⟨rfl, rfl⟩) | ((with_reducible refine gate_builtin (b := .copy) (xs := #[.tmp 31, .tmp 32]) rfl ?_); go_must (refine wpList_copy_rowk (P := Try.prog) (w := W0) rfl (.tmp 31) (.tmp 32) 93 93 rfl 25 3 huP hsz w.heap.size 0 3 3 ⟨b, 0, none⟩ 1 1 rfl rfl _ 25 z0 [.int .i64 p0, .slice A1 n1 c1, .slice A2 n2 c2] rfl (src3 d0) (by simp) (by simp [Value.oneCell']) #[.int .i64 p0, .slice A1 n1 c1, .slice A2 n2 c2, .int .i64 0, .slice none 0 0, .slice none 0 0, .int .i64 0, .slice none 0 0, .slice none 0 0] rfl ?_; intro W1 z1 b1 s1)))
    have s2 : W0.heap.size = w.heap.size + 1 := by rw [← hW0]; simp
    have SS := Aside0.mk (show w.heap.size + 1 ≤ W1.heap.size by omega)
    have BW := Aside0.mk (b0.trans (b1 _ (Nat.le_refl _)))
    have ROW := Aside0.mk z1
    clear z0 b0 d0 hW0 z1 b1 s1 s2 hm HB hlt
    go_loopg [8] 2 (fun kq v8 X => ((v8 = .int .i64 1 ∧ 1 + kq = 3 ∧ Aside0 (X.heap[w.heap.size]? = some (.cells #[.int .i64 p0, .slice A1 n1 c1, .slice A2 n2 c2, .int .i64 0, .slice none 0 0, .slice none 0 0, .int .i64 0, .slice none 0 0, .slice none 0 0] 25 (0, 0)))) ∨ (v8 = .int .i64 2 ∧ 2 + kq = 3 ∧ Aside0 (X.heap[w.heap.size]? = some (.cells #[.int .i64 p0, .slice A1 n1 c1, .slice A2 n2 c2, .int .i64 p0, .slice A1 n1 c1, .slice A2 n2 c2, .int .i64 0, .slice none 0 0, .slice none 0 0] 25 (0, 0)))) ∨ (v8 = .int .i64 3 ∧ 3 + kq = 3 ∧ Aside0 (X.heap[w.heap.size]? = some (.cells #[.int .i64 p0, .slice A1 n1 c1, .slice A2 n2 c2, .int .i64 p0, .slice A1 n1 c1, .slice A2 n2 c2, .int .i64 p0, .slice A1 n1 c1, .slice A2 n2 c2] 25 (0, 0))))) ∧ Aside0 (Below w.heap.size w X))
    case atStart => exact ⟨.inl ⟨rfl, by decide, ROW⟩, BW⟩
    case round =>
      clear ROW BW SS
      obtain ⟨hrel, BW⟩ := hrel
      rcases hrel with ⟨rfl, hk, ROW⟩ | ⟨rfl, hk, ROW⟩ | ⟨rfl, hk, ROW⟩
      · obtain rfl : gk = 2 := by omega
        go_wp2
        have RD := Aside0.mk (kdr ROW.out)
        have BD := Aside0.mk (below_drew BW.out)
        refine start_ (n := 10) (S := fun _ => True) (ds := []) #[false, false, false, false, false, false, false, false, false, false] (by kernel_rfl) rfl rfl trivial (fun hHeld => ?_)
        generalize wr.drew = Y at RD BD hHeld ⊢
        refine pu (i := 0) (N := some 38) (bl 10 1) rfl rfl (by kernel_rfl) ?_
        refine pu (i := 1) (N := some 39) (bl 10 3) rfl rfl (by kernel_rfl) ?_
        refine pu (i := 2) (N := some 40) (bl 10 7) rfl rfl (by kernel_rfl) ?_
        refine pu (i := 3) (N := some 41) (bl 10 15) rfl rfl (by kernel_rfl) ?_
        refine pu (i := 4) (N := some 42) (bl 10 31) rfl rfl (by kernel_rfl) ?_
        refine pu (i := 5) (N := some 43) (bl 10 63) rfl rfl (by kernel_rfl) ?_
        refine pu (i := 6) (N := some 44) (bl 10 127) rfl rfl (by kernel_rfl) ?_
        refine one_ (i := 7) (N := (some 45)) (bl 10 255) rfl rfl (by kernel_rfl) (by decide) (fun K hK => ?_)
        refine step_copy_rowk (P := Try.prog) (w := Y) (by rfl) (.tmp 41) (.tmp 44) 93 93 rfl 25 3 huP hsz w.heap.size 3 2 2 ⟨w.heap.size, 0, none⟩ 1 3 rfl rfl _ 25 RD.out [.int .i64 p0, .slice A1 n1 c1, .slice A2 n2 c2] rfl (srcn RD.out (by intro j v hj; rcases j with _ | _ | _ | j <;> simp_all)) (by simp) (by simp [Value.oneCell']) #[.int .i64 p0, .slice A1 n1 c1, .slice A2 n2 c2, .int .i64 p0, .slice A1 n1 c1, .slice A2 n2 c2, .int .i64 0, .slice none 0 0, .slice none 0 0] rfl ?_
        intro Y2 z2 b2 s2
        refine hK.out _ _ trivial (fun hHeld => ?_)
        clear hK K
        refine nm 45 ?_
        refine pu (i := 8) (N := some 46) (bl 10 511) rfl rfl (by kernel_rfl) ?_
        refine pu (i := 9) (N := some 8) (bl 10 1023) rfl rfl (by kernel_rfl) ?_
        refine done_ (by kernel_rfl) ?_
        try simp only [Exit.then, Exit.inBlock]
        have bz := Aside0.mk (BD.out.trans (b2 _ (Nat.le_refl _)))
        have rz := Aside0.mk z2
        try go_wp2
        go_roundg 1
        case measure => omega
        case rel => exact ⟨.inr (.inl ⟨by first | rfl | (unfold wrap64; rfl) | (simp [wrap64]; done), by decide, rz⟩), bz⟩
      · obtain rfl : gk = 1 := by omega
        go_wp2
        have RD := Aside0.mk (kdr ROW.out)
        have BD := Aside0.mk (below_drew BW.out)
        refine start_ (n := 10) (S := fun _ => True) (ds := []) #[false, false, false, false, false, false, false, false, false, false] (by kernel_rfl) rfl rfl trivial (fun hHeld => ?_)
        generalize wr.drew = Y at RD BD hHeld ⊢
        refine pu (i := 0) (N := some 38) (bl 10 1) rfl rfl (by kernel_rfl) ?_
        refine pu (i := 1) (N := some 39) (bl 10 3) rfl rfl (by kernel_rfl) ?_
        refine pu (i := 2) (N := some 40) (bl 10 7) rfl rfl (by kernel_rfl) ?_
        refine pu (i := 3) (N := some 41) (bl 10 15) rfl rfl (by kernel_rfl) ?_
        refine pu (i := 4) (N := some 42) (bl 10 31) rfl rfl (by kernel_rfl) ?_
        refine pu (i := 5) (N := some 43) (bl 10 63) rfl rfl (by kernel_rfl) ?_
        refine pu (i := 6) (N := some 44) (bl 10 127) rfl rfl (by kernel_rfl) ?_
        refine one_ (i := 7) (N := (some 45)) (bl 10 255) rfl rfl (by kernel_rfl) (by decide) (fun K hK => ?_)
        refine step_copy_rowk (P := Try.prog) (w := Y) (by rfl) (.tmp 41) (.tmp 44) 93 93 rfl 25 3 huP hsz w.heap.size 6 1 1 ⟨w.heap.size, 0, none⟩ 2 3 rfl rfl _ 25 RD.out [.int .i64 p0, .slice A1 n1 c1, .slice A2 n2 c2] rfl (srcn RD.out (by intro j v hj; rcases j with _ | _ | _ | j <;> simp_all)) (by simp) (by simp [Value.oneCell']) #[.int .i64 p0, .slice A1 n1 c1, .slice A2 n2 c2, .int .i64 p0, .slice A1 n1 c1, .slice A2 n2 c2, .int .i64 p0, .slice A1 n1 c1, .slice A2 n2 c2] rfl ?_
        intro Y2 z2 b2 s2
        refine hK.out _ _ trivial (fun hHeld => ?_)
        clear hK K
        refine nm 45 ?_
        refine pu (i := 8) (N := some 46) (bl 10 511) rfl rfl (by kernel_rfl) ?_
        refine pu (i := 9) (N := some 8) (bl 10 1023) rfl rfl (by kernel_rfl) ?_
        refine done_ (by kernel_rfl) ?_
        try simp only [Exit.then, Exit.inBlock]
        have bz := Aside0.mk (BD.out.trans (b2 _ (Nat.le_refl _)))
        have rz := Aside0.mk z2
        try go_wp2
        go_roundg 0
        case measure => omega
        case rel => exact ⟨.inr (.inr (⟨by first | rfl | (unfold wrap64; rfl) | (simp [wrap64]; done), by decide, rz⟩)), bz⟩
      · obtain rfl : gk = 0 := by omega
        go_wp2
        go_ret
        exact ⟨_, rfl, ROW.out, BW.out⟩
def mvN (i fr op n : Int) : Int := if op = 0 then wrap64 (n + fr) else if op = 4 then wrap64 (n + fr) else if op = 3 then wrap64 (n + wrap64 (16 * i)) else n
mutual
def mvS (i fr : Int) : S64 → Option S64
  | ⟨op, n, a, t, e⟩ => (mvEs (fun _ => some fr) a).bind fun a' => (mvSs i fr t).bind fun t' => (mvSs i fr e).bind fun e' => some ⟨op, mvN i fr op n, a', t', e'⟩
def mvSs (i fr : Int) : List S64 → Option (List S64)
  | [] => some []
  | x :: r => (mvS i fr x).bind fun y => (mvSs i fr r).bind fun s => if r.length < 1000000 then some (y :: s) else none
end
theorem mvSs_get {i fr : Int} : ∀ {l l' : List S64}, mvSs i fr l = some l' → l'.length = l.length ∧ l.length ≤ 1000000 ∧ ∀ (j : Nat) (x : S64), l[j]? = some x → ∃ y, mvS i fr x = some y ∧ l'[j]? = some y
  | [], l', h => by
    rw [mvSs] at h
    obtain rfl := Option.some.inj h
    exact ⟨rfl, by simp, fun j x hj => by simp at hj⟩
  | x :: r, l', h => by
    rw [mvSs] at h
    obtain ⟨y, h1, h⟩ := Option.bind_eq_some_iff.mp h
    obtain ⟨s, h2, h⟩ := Option.bind_eq_some_iff.mp h
    obtain ⟨e1, e2, e3⟩ := mvSs_get h2
    by_cases hl : r.length < 1000000
    · rw [if_pos hl] at h
      obtain rfl := Option.some.inj h
      refine ⟨by simp [e1], by simp; omega, fun j z hj => ?_⟩
      cases j with
      | zero => obtain rfl : x = z := by simpa using hj
                exact ⟨y, h1, rfl⟩
      | succ j => exact e3 j z (by simpa using hj)
    · rw [if_neg hl] at h; cases h
theorem rows_ind {Q : List S64 → Prop} (h : ∀ l, (∀ x ∈ l, Q x.f3 ∧ Q x.f4) → Q l) : ∀ l, Q l :=
  fun l => h l (S64.rec_1 (motive_1 := fun x => Q x.f3 ∧ Q x.f4) (motive_2 := fun l => ∀ x ∈ l, Q x.f3 ∧ Q x.f4) (fun _ _ _ t e h1 h2 => ⟨h t h1, h e h2⟩) (fun _ h => by simp at h) (fun x r h1 h2 y hy => by rcases List.mem_cons.1 hy with rfl | h; exact h1; exact h2 y h) l)
theorem mv_takeS {l' : List S64} {i : Nat} {y : S64} (h : l'[i]? = some y) : l'.take (i + 1) = l'.take i ++ [y] := by
  rw [List.take_add_one, h]; rfl
theorem prod_Moved1.fn (w : World) (b : Nat) (fr : Int) (h : w.heap[b]? = some (.cells #[.int .i64 fr] 3 (0, 0))) : FnAt w (.func (.func 96) #[] #[.pointer (some ⟨b, 0, none⟩)]) (fun _ => some fr) := by
  refine ⟨_, _, rfl, enters_of Try.func96 (by kernel_rfl) rfl, fun W n r hW hr => ?_⟩
  obtain rfl : fr = r := Option.some.inj hr
  show Calls Try.prog 96 #[.int .i64 n, .pointer (some ⟨b, 0, none⟩)] W _
  have c0 : W.cell? ⟨b, 0, none⟩ = some (.int .i64 fr) := (blk_cell ((hW.block _ (blk_lt h)).trans h) 0).trans rfl
  go_enter Try.func96, Try.ntmps96
  go_wp2
  go_ret
  exact ⟨rfl, Below.refl _ _⟩
theorem prod_Moved.go (i fr : Int) : ∀ (l l' : List S64) (A : Option Addr) (c : Nat) (w : World), mvSs i fr l = some l' → Kd.C k64 w A l.length l → l.length ≤ c →
    Calls Try.prog 64 #[.slice A l.length c, .int .i64 i, .int .i64 fr] w fun en w' => ∃ v : Value, en = .returned v ∧ Kd.R k64 64 w' w.heap.size (fun _ => True) v l' ∧ Below w.heap.size w w' := by
  refine rows_ind fun l ih => ?_
  intro l' A c w h hr hc
  have huE := Try.underlying28
  have huS := Try.underlying64
  have HR := Aside0.mk hr
  have HC := Aside0.mk hc
  have IH := Aside0.mk ih
  obtain ⟨hll, hl6, hget⟩ := mvSs_get h
  have GET := Aside0.mk hget
  clear hr hc ih h hget
  have q0 : (w.alloc (.cells #[.int .i64 fr] 3)).heap[w.heap.size]? = some (.cells #[.int .i64 fr] 3 (0, 0)) := blk_new _ _
  have b0 := bal (Below.refl w.heap.size w) (.cells #[.int .i64 fr] 3)
  have hfn := Aside0.mk (prod_Moved1.fn _ _ _ q0)
  go_enter Try.func64, Try.ntmps64
  go_wp2_with (first | (go_at_call 48; refine (prod_moving.fn _ (fun _ => some fr) _ hfn.out).mono ?_; rintro e W1 ⟨rfl, hmv, hb1⟩))
  have s0 : (w.alloc (.cells #[.int .i64 fr] 3)).heap.size = w.heap.size + 1 := by simp
  rw [s0] at hmv hb1
  have MV := Aside0.mk hmv
  have BX := Aside0.mk ((hb1.block _ (by omega)).trans q0)
  have B1 := Aside0.mk (b0.trans (hb1.mono (by omega)))
  have hlt := blk_lt BX.out
  clear hmv hb1 q0 b0 hfn s0
  go_loopg [8, 18] l.length (fun kq v8 v18 X => ∃ (j : Nat) (A8 : Option Addr) (c8 : Nat), v18 = .int .i64 (j : Int) ∧ v8 = .slice A8 j c8 ∧ Aside0 (j + kq = l.length) ∧ Aside0 (Kd.R k64 64 X W1.heap.size (fun _ => True) (.slice A8 j c8) (l'.take j)) ∧ Aside0 (Below W1.heap.size W1 X))
  case atStart => exact ⟨0, none, 0, rfl, rfl, ⟨by omega⟩, ⟨Kd.R_nil _ _ _ _ _⟩, ⟨Below.refl _ _⟩⟩
  case round =>
    obtain ⟨j, A8, c8, rfl, rfl, HI, HO, BB⟩ := hrel
    cases gk with
    | zero =>
      have hj : j = l.length := by have := HI.out; omega
      subst hj
      have hd : decide ((l.length : Int) < (l.length : Int)) = false := decide_eq_false (by omega)
      have o1 : Kd.R k64 64 wr W1.heap.size (fun _ => True) (.slice A8 l.length c8) l' := by
        have := HO.out
        rwa [List.take_of_length_le (by omega)] at this
      go_wp2
      go_ret
      exact ⟨_, rfl, Kd.R_lower o1 B1.out.size, B1.out.trans (BB.out.mono B1.out.size)⟩
    | succ k1 =>
      obtain ⟨Wr, rfl⟩ : ∃ X, X = wr := ⟨_, rfl⟩
      have hj : j < l.length := by have := HI.out; omega
      have hd : decide ((j : Int) < (l.length : Int)) = true := decide_eq_true (by omega)
      have HBW := Aside0.mk (B1.out.trans (BB.out.mono B1.out.size))
      obtain ⟨ad, B2, b2, B3, b3, B4, b4, e3, q0, q1, q2, q3, q4, ql2, qr2, ql3, qr3, ql4, qr4⟩ := at_T64 HR.out (j : Int) (by omega) (by omega)
      subst e3
      have hxi : l[j]? = some (rd_T64 l (j : Int)) := by unfold rd_T64; rw [Int.toNat_natCast, List.getD_eq_getElem?_getD, List.getElem?_eq_getElem hj]; rfl
      generalize rd_T64 l (j : Int) = x at q0 q1 q2 q3 q4 ql2 qr2 ql3 qr3 ql4 qr4 hxi
      obtain ⟨y, hy, hyi⟩ := GET.out j x hxi
      have hxm : x ∈ l := List.mem_of_getElem? hxi
      obtain ⟨op, n, xa, xt, xe⟩ := x
      obtain ⟨iht, ihe⟩ := IH.out _ hxm
      dsimp only at q0 q1 q2 q3 q4 ql2 qr2 ql3 qr3 ql4 qr4 iht ihe
      rw [mvS] at hy
      obtain ⟨a', ha', hy⟩ := Option.bind_eq_some_iff.mp hy
      obtain ⟨t', ht', hy⟩ := Option.bind_eq_some_iff.mp hy
      obtain ⟨e', he', hy⟩ := Option.bind_eq_some_iff.mp hy
      obtain rfl := Option.some.inj hy
      obtain ⟨hal, ha6, hag⟩ := mvEs_get ha'
      simp only [Int.toNat_natCast] at q0 q1 q2 q3 q4
      replace q0 := (HBW.out.cell (World.block_lt_of_cell? w _ q0)).trans q0
      replace q1 := (HBW.out.cell (World.block_lt_of_cell? w _ q1)).trans q1
      replace q2 := (HBW.out.cell (World.block_lt_of_cell? w _ q2)).trans q2
      replace q3 := (HBW.out.cell (World.block_lt_of_cell? w _ q3)).trans q3
      replace q4 := (HBW.out.cell (World.block_lt_of_cell? w _ q4)).trans q4
      have QL2 := Aside0.mk ql2
      have QR2 := Aside0.mk qr2
      have QL3 := Aside0.mk ql3
      have QR3 := Aside0.mk qr3
      have QL4 := Aside0.mk ql4
      have QR4 := Aside0.mk qr4
      have IT := Aside0.mk iht
      have IE := Aside0.mk ihe
      have HAG := Aside0.mk hag
      have HT := Aside0.mk ht'
      have HE := Aside0.mk he'
      clear ql2 qr2 ql3 qr3 ql4 qr4 iht ihe hag ht' he' hy ha' hxi hxm
      have hBX := Aside0.mk ((BB.out.block _ hlt).trans BX.out)
      have mb : Wr.cell? ⟨w.heap.size, 0, none⟩ = some (.int .i64 fr) := (blk_cell hBX.out 0).trans rfl
      have hltr := blk_lt hBX.out
      have HMV := Aside0.mk (MV.out.below BB.out)
      have hSB := BB.out.size
      have hob := Kd.R_base HO.out
      have hol := Kd.R_lt HO.out
      have hjl : (l'.take j).length = j := by rw [List.length_take]; omega
      obtain ⟨n', hn'⟩ : ∃ n', mvN i fr op n = n' := ⟨_, rfl⟩
      obtain ⟨opn, hopn⟩ : ∃ z : Int, op = z := ⟨_, rfl⟩
      rw [hn', hopn] at hyi
      have HYI := Aside0.mk hyi
      have HOPN := Aside0.mk hopn
      clear hyi
      have hw1 : IntKind.i64.wrap ((j : Int) + 1) = (j : Int) + 1 := by rw [i64_w]; unfold wrap64; omega
      have ways : (op = 0 ∧ wrap64 (n + fr) = n') ∨ (op ≠ 0 ∧ op = 4 ∧ wrap64 (n + fr) = n') ∨ (op ≠ 0 ∧ op ≠ 4 ∧ op = 3 ∧ wrap64 (n + wrap64 (16 * i)) = n') ∨ (op ≠ 0 ∧ op ≠ 4 ∧ op ≠ 3 ∧ n = n') := by
        rw [← hn', mvN]
        by_cases h0 : op = 0
        · exact .inl ⟨h0, by rw [if_pos h0]⟩
        · by_cases h4 : op = 4
          · exact .inr (.inl ⟨h0, h4, by rw [if_neg h0, if_pos h4]⟩)
          · by_cases h3 : op = 3
            · exact .inr (.inr (.inl ⟨h0, h4, h3, by rw [if_neg h0, if_neg h4, if_pos h3]⟩))
            · exact .inr (.inr (.inr ⟨h0, h4, h3, by rw [if_neg h0, if_neg h4, if_neg h3]⟩))
      clear hn' hopn
      go_upto_if 24 with (fail)
      (try simp only [Act.put, List.setIfInBounds_toArray, List.set_cons_zero, List.set_cons_succ])
      rename_i Kr hKr Kb hKb
      refine (fun (key : ∀ (a : Act) (W : World), (∃ u11 u13 u19 u20 u21 u22 u23 u24 u25 u26 u27 u28 u29 u30 u31 u32 u33 u34 u35 u36 u37 u38 u39 u40 u41 u42 u43 u44 u45 u46 u47 u48 u49 u50 u51 u52 u53 u54 u55 u56 u57 u58 u59 u60 u61 u62 u63 u64 u65 u66 u67 u68 u69 u70 u71 u72 : Value, a = { tmps := #[.slice (some ad) l.length c, .int .i64 i, .int .i64 fr, undef, undef, .pointer (some ⟨w.heap.size, 0, none⟩), .slice none 0 0, .func (.func 83) #[] #[.pointer (some ⟨w.heap.size + 1, 0, none⟩), .pointer (some ⟨w.heap.size + 1 + 1, 0, none⟩)], .slice A8 j c8, undef, .pointer (some ⟨Wr.heap.size, 0, none⟩), u11, undef, u13, .func (.func 96) #[] #[.pointer (some ⟨w.heap.size, 0, none⟩)], .func (.func 83) #[] #[.pointer (some ⟨w.heap.size + 1, 0, none⟩), .pointer (some ⟨w.heap.size + 1 + 1, 0, none⟩)], .slice (some ad) l.length c, .int .i64 l.length, .int .i64 j, u19, u20, u21, u22, u23, u24, u25, u26, u27, u28, u29, u30, u31, u32, u33, u34, u35, u36, u37, u38, u39, u40, u41, u42, u43, u44, u45, u46, u47, u48, u49, u50, u51, u52, u53, u54, u55, u56, u57, u58, u59, u60, u61, u62, u63, u64, u65, u66, u67, u68, u69, u70, u71, u72, undef], defers := [] }) → W.heap[Wr.heap.size]? = some (.cells #[.int .i64 opn, .int .i64 n', .slice B2 xa.length b2, .slice B3 xt.length b3, .slice B4 xe.length b4] 64 (0, 0)) → Below Wr.heap.size Wr W → W.heap.size = Wr.heap.size + 1 → Kr a W) => ?main) ?key
      case main =>
        clear hKr
        rcases ways with ⟨h0, en⟩ | ⟨h0, h4, en⟩ | ⟨h0, h4, h3, en⟩ | ⟨h0, h4, h3, en⟩
        · subst h0
          go_wp2
          exact key _ _ ⟨_, _, _, _, _, _, _, _, _, _, _, _, _, _, _, _, _, _, _, _, _, _, _, _, _, _, _, _, _, _, _, _, _, _, _, _, _, _, _, _, _, _, _, _, _, _, _, _, _, _, _, _, _, _, _, _, rfl⟩ (by rw [← HOPN.out]; exact blk_new _ _) (bal (Below.refl _ _) _) (by simp)
        · subst h4
          go_wp2
          exact key _ _ ⟨_, _, _, _, _, _, _, _, _, _, _, _, _, _, _, _, _, _, _, _, _, _, _, _, _, _, _, _, _, _, _, _, _, _, _, _, _, _, _, _, _, _, _, _, _, _, _, _, _, _, _, _, _, _, _, _, rfl⟩ (by rw [← HOPN.out]; exact blk_new _ _) (bal (Below.refl _ _) _) (by simp)
        · subst h3
          go_wp2
          exact key _ _ ⟨_, _, _, _, _, _, _, _, _, _, _, _, _, _, _, _, _, _, _, _, _, _, _, _, _, _, _, _, _, _, _, _, _, _, _, _, _, _, _, _, _, _, _, _, _, _, _, _, _, _, _, _, _, _, _, _, rfl⟩ (by rw [← HOPN.out]; exact blk_new _ _) (bal (Below.refl _ _) _) (by simp)
        · have e0 := (beq_eq_false_iff_ne (a := op)).mpr h0; have e4 := (beq_eq_false_iff_ne (a := op)).mpr h4; have e3 := (beq_eq_false_iff_ne (a := op)).mpr h3; subst en; clear h0 h4 h3
          go_wp2
          exact key _ _ ⟨_, _, _, _, _, _, _, _, _, _, _, _, _, _, _, _, _, _, _, _, _, _, _, _, _, _, _, _, _, _, _, _, _, _, _, _, _, _, _, _, _, _, _, _, _, _, _, _, _, _, _, _, _, _, _, _, rfl⟩ (by rw [← HOPN.out]; exact blk_new _ _) (bal (Below.refl _ _) _) (by simp)
      case key =>
        clear q0 q1 q2 q3 q4 ways HOPN
        rintro a Wg ⟨u11, u13, u19, u20, u21, u22, u23, u24, u25, u26, u27, u28, u29, u30, u31, u32, u33, u34, u35, u36, u37, u38, u39, u40, u41, u42, u43, u44, u45, u46, u47, u48, u49, u50, u51, u52, u53, u54, u55, u56, u57, u58, u59, u60, u61, u62, u63, u64, u65, u66, u67, u68, u69, u70, u71, u72, rfl⟩ pg bg sg
        refine hKr _ _ ?_
        have g2 : Wg.cell? ⟨Wr.heap.size, 2, none⟩ = some (.slice B2 xa.length b2) := (blk_cell pg 2).trans rfl
        have PG := Aside0.mk pg
        have BG := Aside0.mk bg
        have SG := Aside0.mk sg
        clear pg bg sg hKb Kb
        go_wp2
        go_loopg [11, 43] xa.length (fun kq v11 v43 Y => ∃ (m : Nat) (A11 : Option Addr) (c11 : Nat), v43 = .int .i64 (m : Int) ∧ v11 = .slice A11 m c11 ∧ Aside0 (m + kq = xa.length) ∧ Aside0 (Kd.R k28 28 Y (Wr.heap.size + 1) (fun _ => True) (.slice A11 m c11) (a'.take m)) ∧ Aside0 (Y.heap[Wr.heap.size]? = some (.cells #[.int .i64 opn, .int .i64 n', .slice B2 xa.length b2, .slice B3 xt.length b3, .slice B4 xe.length b4] 64 (0, 0))) ∧ Aside0 (Below Wr.heap.size Wr Y) ∧ Aside0 (Wr.heap.size + 1 ≤ Y.heap.size))
        case atStart => exact ⟨0, none, 0, rfl, rfl, ⟨by omega⟩, ⟨Kd.R_nil _ _ _ _ _⟩, PG, BG, ⟨by have := SG.out; omega⟩⟩
        case round =>
          clear PG BG SG
          obtain ⟨m, A11, c11, rfl, rfl, MI, MO, PG, BG, SG⟩ := hrel
          cases gk with
          | zero =>
            have hm : m = xa.length := by have := MI.out; omega
            subst hm
            have hd2 : decide ((xa.length : Int) < (xa.length : Int)) = false := decide_eq_false (by omega)
            have o2 : Kd.R k28 28 wr (Wr.heap.size + 1) (fun _ => True) (.slice A11 xa.length c11) a' := by
              have := MO.out
              rwa [List.take_of_length_le (by omega)] at this
            have O2 := Aside0.mk o2
            clear o2 MO
            go_wp2
            have PD := Aside0.mk (kdr PG.out)
            have BD := Aside0.mk (below_drew BG.out)
            have OD := Aside0.mk (Kd.R_drew O2.out)
            have SD := Aside0.mk (show Wr.heap.size + 1 ≤ wr.drew.heap.size from SG.out)
            have XD := Aside0.mk ((BD.out.block _ hltr).trans hBX.out)
            refine start_ (n := 17) (S := fun w' => w'.cell? ⟨Wr.heap.size, 3, none⟩ = some (.slice B3 xt.length b3) ∧ w'.cell? ⟨Wr.heap.size, 4, none⟩ = some (.slice B4 xe.length b4) ∧ w'.cell? ⟨w.heap.size, 0, none⟩ = some (.int .i64 fr)) (ds := [12, 14, 16]) #[false, false, false, false, false, false, false, false, false, false, false, false, false, false, false, false, false] (by kernel_rfl) rfl rfl ⟨(blk_cell PD.out 3).trans rfl, (blk_cell PD.out 4).trans rfl, (blk_cell XD.out 0).trans rfl⟩ (fun hHeld => ?_)
            generalize wr.drew = Y at PD BD OD SD XD hHeld ⊢
            clear PG BG SG O2
            refine pu (i := 0) (N := some 54) (bl 17 1) rfl rfl (by kernel_rfl) ?_
            refine pu (i := 1) (N := some 55) (bl 17 3) rfl rfl (by kernel_rfl) ?_
            refine tk (i := 2) (N := some 56) (bl 17 7) rfl rfl (by kernel_rfl) hHeld ?_
            refine pu (i := 3) (N := some 57) (bl 17 15) rfl rfl (by kernel_rfl) ?_
            refine tk (i := 4) (N := some 58) (bl 17 31) rfl rfl (by kernel_rfl) hHeld ?_
            refine pu (i := 6) (N := some 60) (bl 17 95) rfl rfl (by kernel_rfl) ?_
            refine tk (i := 7) (N := some 61) (bl 17 223) rfl rfl (by kernel_rfl) hHeld ?_
            refine pu (i := 8) (N := some 62) (bl 17 479) rfl rfl (by kernel_rfl) ?_
            refine tk (i := 9) (N := some 63) (bl 17 991) rfl rfl (by kernel_rfl) hHeld ?_
            refine pu (i := 11) (N := some 65) (bl 17 3039) rfl rfl (by kernel_rfl) ?_
            refine one_ (i := 5) (N := (some 59)) (bl 17 3071) rfl rfl (by kernel_rfl) (by decide) (fun K hK => ?_)
            refine goes_ Try.func64 (by kernel_rfl) rfl #[.slice B3 xt.length b3, .int .i64 i, .int .i64 fr] (by rfl) rfl rfl (by (try simp only [List.map_toArray, List.map_cons, List.map_nil]); rfl) ?_
            refine (IT.out _ _ _ Y HT.out (Kd.C_below QR3.out (HBW.out.trans (BD.out.mono HBW.out.size))) QL3.out).mono ?_
            rintro e Y2 ⟨v3, rfl, o3, hb3⟩
            have PE := Aside0.mk (blk_below PD.out hb3)
            have BE := Aside0.mk (BD.out.trans (hb3.mono BD.out.size))
            have OE := Aside0.mk (Kd.R_below OD.out hb3)
            have XE := Aside0.mk ((BE.out.block _ hltr).trans hBX.out)
            have SE := Aside0.mk (Nat.le_trans SD.out hb3.size)
            have TE := Aside0.mk (Kd.R_lower o3 SD.out)
            clear PD BD OD XD SD o3 hb3
            refine ⟨_, rfl, ?_⟩
            refine hK.out _ _ ⟨(blk_cell PE.out 3).trans rfl, (blk_cell PE.out 4).trans rfl, (blk_cell XE.out 0).trans rfl⟩ (fun hHeld => ?_)
            clear hK K
            refine nm 59 ?_
            refine one_ (i := 10) (N := (some 64)) (bl 17 4095) rfl rfl (by kernel_rfl) (by decide) (fun K hK => ?_)
            refine goes_ Try.func64 (by kernel_rfl) rfl #[.slice B4 xe.length b4, .int .i64 i, .int .i64 fr] (by rfl) rfl rfl (by (try simp only [List.map_toArray, List.map_cons, List.map_nil]); rfl) ?_
            refine (IE.out _ _ _ Y2 HE.out (Kd.C_below QR4.out (HBW.out.trans (BE.out.mono HBW.out.size))) QL4.out).mono ?_
            rintro e Y3 ⟨v4, rfl, o4, hb4⟩
            have PF := Aside0.mk (blk_below PE.out hb4)
            have BF := Aside0.mk (BE.out.trans (hb4.mono BE.out.size))
            have OF := Aside0.mk (Kd.R_below OE.out hb4)
            have XF := Aside0.mk ((BF.out.block _ hltr).trans hBX.out)
            have SF := Aside0.mk (Nat.le_trans SE.out hb4.size)
            have TF := Aside0.mk (Kd.R_below TE.out hb4)
            have UF := Aside0.mk (Kd.R_lower o4 SE.out)
            clear PE BE OE XE SE TE o4 hb4
            refine ⟨_, rfl, ?_⟩
            refine hK.out _ _ ⟨(blk_cell PF.out 3).trans rfl, (blk_cell PF.out 4).trans rfl, (blk_cell XF.out 0).trans rfl⟩ (fun hHeld => ?_)
            clear hK K
            refine nm 64 ?_
            obtain ⟨D3, d3, e3⟩ := Kd.R_slice TF.out
            subst e3
            obtain ⟨D4, d4, e4⟩ := Kd.R_slice UF.out
            subst e4
            refine last_ (i := 12) (N := none) (bl 17 8191) rfl rfl (by kernel_rfl) (by decide) (fun K hK => ?_)
            refine skip_ (w1 := (Y3.setCell ⟨Wr.heap.size, 2, none⟩ (.slice A11 xa.length c11))) (by rfl) rfl ?st2 ?_
            case st2 =>
              have x0 : Y3.cell? ⟨Wr.heap.size, 2, none⟩ = some _ := (blk_cell PF.out 2).trans rfl
              have x1 : Y3.cell? ⟨Wr.heap.size, 3, none⟩ = some _ := (blk_cell PF.out 3).trans rfl
              have x2 : Y3.cell? ⟨Wr.heap.size, 4, none⟩ = some _ := (blk_cell PF.out 4).trans rfl
              have x3 := blk_frozen PF.out 2
              have x4 := blk_frozen PF.out 3
              have x5 := blk_frozen PF.out 4
              go_simp
            refine hK.out _ _ ?_
            clear hK K
            refine pu (i := 13) (N := some 66) (bl 17 16383) rfl rfl (by kernel_rfl) ?_
            refine last_ (i := 14) (N := none) (bl 17 32767) rfl rfl (by kernel_rfl) (by decide) (fun K hK => ?_)
            refine skip_ (w1 := ((Y3.setCell ⟨Wr.heap.size, 2, none⟩ (.slice A11 xa.length c11)).setCell ⟨Wr.heap.size, 3, none⟩ (.slice D3 t'.length d3))) (by rfl) rfl ?st3 ?_
            case st3 =>
              have x0 : Y3.cell? ⟨Wr.heap.size, 2, none⟩ = some _ := (blk_cell PF.out 2).trans rfl
              have x1 : Y3.cell? ⟨Wr.heap.size, 3, none⟩ = some _ := (blk_cell PF.out 3).trans rfl
              have x2 : Y3.cell? ⟨Wr.heap.size, 4, none⟩ = some _ := (blk_cell PF.out 4).trans rfl
              have x3 := blk_frozen PF.out 2
              have x4 := blk_frozen PF.out 3
              have x5 := blk_frozen PF.out 4
              go_simp
            refine hK.out _ _ ?_
            clear hK K
            refine pu (i := 15) (N := some 67) (bl 17 65535) rfl rfl (by kernel_rfl) ?_
            refine last_ (i := 16) (N := none) (bl 17 131071) rfl rfl (by kernel_rfl) (by decide) (fun K hK => ?_)
            refine skip_ (w1 := (((Y3.setCell ⟨Wr.heap.size, 2, none⟩ (.slice A11 xa.length c11)).setCell ⟨Wr.heap.size, 3, none⟩ (.slice D3 t'.length d3)).setCell ⟨Wr.heap.size, 4, none⟩ (.slice D4 e'.length d4))) (by rfl) rfl ?st4 ?_
            case st4 =>
              have x0 : Y3.cell? ⟨Wr.heap.size, 2, none⟩ = some _ := (blk_cell PF.out 2).trans rfl
              have x1 : Y3.cell? ⟨Wr.heap.size, 3, none⟩ = some _ := (blk_cell PF.out 3).trans rfl
              have x2 : Y3.cell? ⟨Wr.heap.size, 4, none⟩ = some _ := (blk_cell PF.out 4).trans rfl
              have x3 := blk_frozen PF.out 2
              have x4 := blk_frozen PF.out 3
              have x5 := blk_frozen PF.out 4
              go_simp
            refine hK.out _ _ ?_
            clear hK K
            refine done_ (by kernel_rfl) ?_
            have p7 := blk_put (blk_put (blk_put PF.out 2 (.slice A11 xa.length c11) (cs' := #[.int .i64 opn, .int .i64 n', .slice A11 xa.length c11, .slice B3 xt.length b3, .slice B4 xe.length b4]) rfl) 3 (.slice D3 t'.length d3) (cs' := #[.int .i64 opn, .int .i64 n', .slice A11 xa.length c11, .slice D3 t'.length d3, .slice B4 xe.length b4]) rfl) 4 (.slice D4 e'.length d4) (cs' := #[.int .i64 opn, .int .i64 n', .slice A11 xa.length c11, .slice D3 t'.length d3, .slice D4 e'.length d4]) rfl
            have b7 := ((BF.out.trans (below_cell Y3 (i := 2) (.slice A11 xa.length c11) (Nat.le_refl _))).trans (below_cell _ (i := 3) (.slice D3 t'.length d3) (Nat.le_refl _))).trans (below_cell _ (i := 4) (.slice D4 e'.length d4) (Nat.le_refl _))
            have k7 : ∀ k, Wr.heap.size + 1 ≤ k → (((Y3.setCell ⟨Wr.heap.size, 2, none⟩ (.slice A11 xa.length c11)).setCell ⟨Wr.heap.size, 3, none⟩ (.slice D3 t'.length d3)).setCell ⟨Wr.heap.size, 4, none⟩ (.slice D4 e'.length d4)).heap[k]? = Y3.heap[k]? := fun k hk => by rw [Below.heap_setCell _ _ _ _ (by simp; omega), Below.heap_setCell _ _ _ _ (by simp; omega), Below.heap_setCell _ _ _ _ (by simp; omega)]
            have O7 := Aside0.mk (Kd.R_mono (Kd.R_step (Kd.R_bound OF.out) (fun k hk _ => k7 k hk.2.1)) (fun k hk => (show Wr.heap.size ≤ k from Nat.le_of_succ_le hk.2.1)))
            have T7 := Aside0.mk (Kd.R_mono (Kd.R_step (Kd.R_bound TF.out) (fun k hk _ => k7 k hk.2.1)) (fun k hk => (show Wr.heap.size ≤ k from Nat.le_of_succ_le hk.2.1)))
            have U7 := Aside0.mk (Kd.R_mono (Kd.R_step (Kd.R_bound UF.out) (fun k hk _ => k7 k hk.2.1)) (fun k hk => (show Wr.heap.size ≤ k from Nat.le_of_succ_le hk.2.1)))
            have P7 := Aside0.mk p7
            have B7 := Aside0.mk b7
            clear p7 b7 k7 PF BF OF XF SF TF UF
            generalize (((Y3.setCell ⟨Wr.heap.size, 2, none⟩ (.slice A11 xa.length c11)).setCell ⟨Wr.heap.size, 3, none⟩ (.slice D3 t'.length d3)).setCell ⟨Wr.heap.size, 4, none⟩ (.slice D4 e'.length d4)) = W7 at P7 B7 O7 T7 U7 ⊢
            have x0 : W7.cell? ⟨Wr.heap.size, 0, none⟩ = some _ := (blk_cell P7.out 0).trans rfl
            have x1 : W7.cell? ⟨Wr.heap.size, 1, none⟩ = some _ := (blk_cell P7.out 1).trans rfl
            have x2 : W7.cell? ⟨Wr.heap.size, 2, none⟩ = some _ := (blk_cell P7.out 2).trans rfl
            have x3 : W7.cell? ⟨Wr.heap.size, 3, none⟩ = some _ := (blk_cell P7.out 3).trans rfl
            have x4 : W7.cell? ⟨Wr.heap.size, 4, none⟩ = some _ := (blk_cell P7.out 4).trans rfl
            have hS7 := B7.out.size
            go_wp2_with (first | ((with_reducible refine gate_builtin (b := .append) (xs := #[.tmp 68, .tmp 70]) rfl ?_); at_builtin; refine Kd.R_append k64 (w0 := W1) (W := W7) W1.heap.size rfl (.tmp 68) (.tmp 70) 23 64 (.agg #[(.int .i64 0), (.int .i64 0), (.slice none 0 0), (.slice none 0 0), (.slice none 0 0)]) 88 rfl Try.underlying23 info64 rfl (by decide) (by omega) (.slice A8 j c8) (l'.take j) (⟨opn, n', a', t', e'⟩ : S64) [.int .i64 opn, .int .i64 n', .slice A11 xa.length c11, .slice D3 t'.length d3, .slice D4 e'.length d4] (fun _ => True) (fun k => Wr.heap.size ≤ k) rfl rfl ?aP ?aK (fun _ _ => trivial) ?aO ?aB ?aS ?aL ?_; (case aP => exact k64_mkM _ _ _ (⟨opn, n', a', t', e'⟩ : S64) (Kd.R_lower O7.out (Nat.le_succ_of_le hSB)) (Kd.R_lower T7.out (Nat.le_succ_of_le hSB)) (Kd.R_lower U7.out (Nat.le_succ_of_le hSB))); (case aK => exact fun k hk => ⟨trivial, fun e => by have h9 := hol _ e.symm; omega⟩); (case aO => exact Kd.R_below HO.out B7.out); (case aB => exact BB.out.trans (B7.out.mono hSB)); (case aS => exact Nat.le_trans hSB hS7); (case aL => rw [hjl]; omega); intro v1 W8 o8 b8 g8 t8))
            obtain ⟨A9, c9, e9⟩ := Kd.R_slice o8
            subst e9
            have O8 := Aside0.mk o8
            have B8 := Aside0.mk b8
            clear o8 b8 g8 t8 B7 O7 T7 U7 P7 x0 x1 x2 x3 x4
            go_roundg k1
            case measure => omega
            case rel =>
              refine ⟨j + 1, A9, c9, by simp, by simp; omega, ⟨by have := HI.out; omega⟩, ⟨?_⟩, B8⟩
              have := O8.out
              rw [mv_takeS HYI.out]
              have e7 : (List.take j l' ++ [(⟨opn, n', a', t', e'⟩ : S64)]).length = j + 1 := by simp; omega
              rw [e7] at this
              exact this
          | succ k2 =>
            have hm : m < xa.length := by have := MI.out; omega
            have hd2 : decide ((m : Int) < (xa.length : Int)) = true := decide_eq_true (by omega)
            have HBY := Aside0.mk (HBW.out.trans (BG.out.mono HBW.out.size))
            obtain ⟨ad2, D3, d3, e3, s0, s1, s2, s3, sl3, sr3⟩ := at_T28 QR2.out (m : Int) (by omega) (by omega)
            subst e3
            have hzm : xa[m]? = some (rd_T28 xa (m : Int)) := by unfold rd_T28; rw [Int.toNat_natCast, List.getD_eq_getElem?_getD, List.getElem?_eq_getElem hm]; rfl
            generalize rd_T28 xa (m : Int) = z at s0 s1 s2 s3 sl3 sr3 hzm
            obtain ⟨u, hu, hum⟩ := HAG.out m z hzm
            simp only [Int.toNat_natCast] at s0 s1 s2 s3
            replace s0 := (HBY.out.cell (World.block_lt_of_cell? w _ s0)).trans s0
            replace s1 := (HBY.out.cell (World.block_lt_of_cell? w _ s1)).trans s1
            replace s2 := (HBY.out.cell (World.block_lt_of_cell? w _ s2)).trans s2
            replace s3 := (HBY.out.cell (World.block_lt_of_cell? w _ s3)).trans s3
            have hw2 : IntKind.i64.wrap ((m : Int) + 1) = (m : Int) + 1 := by rw [i64_w]; unfold wrap64; omega
            have W1B := bal (Below.refl wr.heap.size wr) (.cells #[.int .i64 z.f0, .int .i64 z.f1, .int .i64 z.f2, .slice D3 z.f3.length d3] 28)
            have hSY := SG.out
            have hob2 := Kd.R_base MO.out
            have hol2 := Kd.R_lt MO.out
            have htk : (a'.take m).length = m := by rw [List.length_take]; omega
            go_wp2_with (first | (go_at_call 83; refine (prod_moving1.calls _ z u D3 d3 (w.heap.size + 1) _ hu ((HMV.out.below BG.out).below W1B) (Kd.C_below (Kd.C_below sr3 HBY.out) W1B) sl3).mono ?_; rintro e W2 ⟨v, rfl, p2, hb2⟩) | ((with_reducible refine gate_builtin (b := .append) (xs := #[.tmp 47, .tmp 51]) rfl ?_); at_builtin; refine Kd.R_append k28 (w0 := wr) (W := W2) (Wr.heap.size + 1) rfl (.tmp 47) (.tmp 51) 26 28 (.agg #[(.int .i64 0), (.int .i64 0), (.int .i64 0), (.slice none 0 0)]) 48 rfl Try.underlying26 info28 rfl (by decide) (by omega) (.slice A11 m c11) (a'.take m) u [.int .i64 u.f0, .int .i64 u.f1, .int .i64 u.f2, v] (fun _ => True) (fun k => wr.heap.size ≤ k) rfl rfl ?aP ?aK (fun _ _ => trivial) ?aO ?aB ?aS ?aL ?_; (case aP => exact k28_mkM _ _ _ u (Kd.R_lower (Kd.R_mono (Kd.R_bound p2) (fun k hk => Nat.le_trans W1B.size hk.2.1)) (Nat.le_trans hSY W1B.size))); (case aK => exact fun k hk => ⟨trivial, fun e => by have h9 := hol2 _ e.symm; omega⟩); (case aO => exact Kd.R_below (Kd.R_below MO.out W1B) hb2); (case aB => exact (W1B.trans (hb2.mono W1B.size)).mono hSY); (case aS => exact Nat.le_trans hSY (Nat.le_trans W1B.size hb2.size)); (case aL => rw [htk]; omega); intro v1 W3 o3 b3 g3 t3))
            obtain ⟨A6, c6, e6⟩ := Kd.R_slice o3
            subst e6
            have hWW := W1B.trans (hb2.mono W1B.size)
            have pf := Aside0.mk (blk_grown (blk_below PG.out hWW) g3 (fun e => by have h9 := hob2 _ e.symm; omega))
            have bf := Aside0.mk (BG.out.trans (b3.mono (show Wr.heap.size ≤ Wr.heap.size + 1 by omega)))
            have sf := Aside0.mk (Nat.le_trans (Nat.le_trans hSY hWW.size) g3.size)
            have of := Aside0.mk o3
            clear o3 b3 g3 t3 hWW PG BG SG MO W1B hb2 p2
            go_roundg k2
            case measure => omega
            case rel =>
              refine ⟨m + 1, A6, c6, by simp, by simp; omega, ⟨by have := MI.out; omega⟩, ⟨?_⟩, pf, bf, sf⟩
              have := of.out
              rw [mv_take hum]
              have e7 : (List.take m a' ++ [u]).length = m + 1 := by simp; omega
              rw [e7] at this
              exact this
def prod_Moved.f (_ : Nat) (l0 : List S64) (a1 a2 : Int) : Option (List S64) := mvSs a1 a2 l0
theorem prod_Moved.calls (k : Nat) (A0 : Option Addr) (c0 : Nat) (l0 : List S64) (a1 a2 : Int) (r : List S64) (w : World) (hr0 : Kd.C k64 w A0 l0.length l0) (hc0 : l0.length ≤ c0) (h : prod_Moved.f k l0 a1 a2 = some r) :
    Calls Try.prog 64 #[.slice A0 l0.length c0, .int .i64 a1, .int .i64 a2] w fun e w' => ∃ v0_ : Value, e = .returned v0_ ∧ Kd.R k64 64 w' w.heap.size (fun _ => True) v0_ r ∧ Below w.heap.size w w' :=
  prod_Moved.go a1 a2 l0 r A0 c0 w h hr0 hc0
end Go.Proofs.Ytilebfkehmecaaa.Print
namespace Go.Proofs.Ytilebfkehmecaaa.Print
open Go.RowKit Go.Proofs.YtilebfkehmecaaaW.PrintWords Go.Proofs.YtilebfkehmecaaaW.PrintLast Go.Proofs.YtilebfkehmecaaaW.PrintMore
attribute [local go_sem] max2_int min2_int max_two min_two max_three min_three max_four min_four
set_option linter.unusedVariables false
set_option linter.unusedSimpArgs false
def prod_Of.l0 : Nat → List (S25) → Int → Int → Int → List (S66) → List (S64) → Option (Int × (List (S66)) × (List (S64)))
 | 0, _, _, _, _, _, _ => none
 | k + 1, x11, x12, x13, x204000, x204001, x204002 => if x13 < x12 then (if 0 ≤ x13 then (if x13 < (x11.length : Int) then ((prod_variables.f k ((rd_T25 x11 x13).f1) x13).bind fun t206 => (if x204001.length + t206.length < 4398046511104 then ((prod_Moved.f k ((rd_T25 x11 x13).f2) x13 (wrap64 (x13 * (((rd_T25 x11 x13).f1).length : Int)))).bind fun t212 => (if x204002.length + t212.length < 1599289640401 then (prod_Of.l0 k x11 x12 (wrap64 (x13 + 1)) x204000 (x204001 ++ t206) (x204002 ++ t212)) else (none))) else (none))) else (none)) else (none)) else (some (x204000, x204001, x204002))
def prod_Of.f (k : Nat) (l0 : List (S25)) : Option (Int × (List (S66)) × (List (S64))) := if 0 < (l0.length : Int) then (prod_Of.l0 k l0 (l0.length : Int) 0 ((rd_T25 l0 0).f0) ([] : List (S66)) ([] : List (S64))) else (none)
def prod_Of.T5 : Bool × List (List Nat × List Nat) := (true, [([], []), ([0], [0]), ([], []), ([2], [2]), ([], []), ([3, 4], [3, 4]), ([1, 5, 5], [1, 5]), ([0, 1, 2, 3, 4, 5, 6], []), ([7, 6, 6, 0, 1, 2, 3, 4, 5, 6], [6, 7])])
def prod_Of.B5 : List Nat := [0, 1, 0, 4, 0, 28, 63, 127, 255]
theorem prod_Of.tab5 : rtab .any (opsOf Try.f65 5) = prod_Of.T5 := by kernel_rfl
theorem prod_Of.bits5 : waitsOk prod_Of.T5.2 prod_Of.B5 = true := by kernel_rfl
def prod_Of.T6 : Bool × List (List Nat × List Nat) := (true, [([], []), ([0], [0]), ([], []), ([2], [2]), ([], []), ([], []), ([], []), ([6], [6]), ([7], [7]), ([5, 8], [5, 8]), ([3, 4, 9], [3, 4, 9]), ([1, 10, 10], [1, 10]), ([0, 1, 2, 3, 4, 5, 6, 7, 8, 9, 10, 11], []), ([12, 11, 11, 0, 1, 2, 3, 4, 5, 6, 7, 8, 9, 10, 11], [11, 12])])
def prod_Of.B6 : List Nat := [0, 1, 0, 4, 0, 0, 0, 64, 192, 480, 1020, 2047, 4095, 8191]
theorem prod_Of.tab6 : rtab .any (opsOf Try.f65 6) = prod_Of.T6 := by kernel_rfl
theorem prod_Of.bits6 : waitsOk prod_Of.T6.2 prod_Of.B6 = true := by kernel_rfl
theorem prod_Of.calls (k : Nat) (A0 : Option Addr) (c0 : Nat) (l0 : List (S25)) (r1 : Int) (r2 : List (S66)) (r3 : List (S64)) (w : World) (hr0 : Kd.C k25 w A0 l0.length l0) (hc0 : l0.length ≤ c0) (h : prod_Of.f k l0 = some (r1, r2, r3)) :
  Calls Try.prog 65 #[.slice A0 l0.length c0] w fun e w' => ∃ v1_ v2_ : Value, e = .returned (.agg #[.int .i64 r1, v1_, v2_]) ∧ Kd.R k66 66 w' w.heap.size (fun k_ => (w.heap.size ≤ k_)) v1_ r2 ∧ Kd.N k64 64 w' w.heap.size (fun k_ => (w.heap.size ≤ k_) ∧ some k_ ≠ (v1_ : Value).ownBlock) v2_ r3 ∧ Below w.heap.size w w' := by
 have hu25 := Try.underlying25
 have HR0 := Aside0.mk hr0
 have HC0 := Aside0.mk hc0
 clear hr0 hc0
 have HB := Aside0.mk (Below.refl w.heap.size w)
 have H : (if 0 < (l0.length : Int) then (prod_Of.l0 k l0 (l0.length : Int) 0 ((rd_T25 l0 0).f0) ([] : List (S66)) ([] : List (S64))) else (none)) = some (r1, r2, r3) := h
 clear h
 by_cases c2 : 0 < (l0.length : Int)
 rotate_left
 ·rw [if_neg c2] at H
  exact absurd H (by simp)
 rw [if_pos c2] at H
 have c2b0 : decide (0 < (l0.length : Int)) = true := decide_eq_true c2
 have c2b1 : decide (0 < l0.length) = true := decide_eq_true (by omega)
 clear c2
 have H' := Aside0.mk H
 clear H
 go_enter Try.func65, Try.ntmps65
 go_wp2_with (first | ((with_reducible refine gate_dst (N := 2) rfl ?_); refine bx 2 rfl rfl #[.int .i64 0, .slice none 0 0, .slice none 0 0] 25 ?_; intro gb201 hg w3 hbox hb; have BK201 := Aside0.mk (hbox); have GE201 := ge HB hg; replace HB := sb HB hb; clear hb hbox hg; have p202 : 0 ≤ (0 : Int) := (by omega); have q202 : 0 < (l0.length : Int) := od; obtain ⟨ad202, A202_1, c202_1, A202_2, c202_2, e202, hx202_0, hx202_1, hx202_2, hl202_1, hi202_1, hl202_2, hi202_2⟩ := at_T25 HR0.out 0 p202 q202; cases e202; have qi202 : (0 < l0.length) = True := eq_true (by omega); (try rw [show ((0 : Int)).toNat = 0 from rfl] at hx202_0); (try rw [show 0 * 3 = 0 from rfl] at hx202_0); (try rw [Addr.add_zero'] at hx202_0); (try rw [show ((0 : Int)).toNat = 0 from rfl] at hx202_1); (try rw [show 0 * 3 = 0 from rfl] at hx202_1); (try rw [Addr.add_zero'] at hx202_1); (try rw [show ((0 : Int)).toNat = 0 from rfl] at hx202_2); (try rw [show 0 * 3 = 0 from rfl] at hx202_2); (try rw [Addr.add_zero'] at hx202_2); replace hx202_0 := bcell HB.out hx202_0; replace hx202_1 := bcell HB.out hx202_1; replace hx202_2 := bcell HB.out hx202_2; have HR202_1 := Aside0.mk hi202_1; have HC202_1 := Aside0.mk hl202_1; clear hi202_1 hl202_1; have HR202_2 := Aside0.mk hi202_2; have HC202_2 := Aside0.mk hl202_2; clear hi202_2 hl202_2; replace p202 := eq_true p202; replace q202 := eq_true q202) | ((with_reducible refine gate_dst (N := 3) rfl ?_); refine bx 3 rfl rfl #[.int .i64 0, .slice none 0 0, .slice none 0 0] 25 ?_; intro gb203 hg w4 hbox hb; have BK203 := Aside0.mk (hbox); have GE203 := ge HB hg; have NB201_203 := Aside0.mk ((by rw [hg]; exact Nat.ne_of_lt (blk_lt (kk BK201)) : gb201 ≠ gb203)); have NB203_201 := Aside0.mk ((by rw [hg]; exact Nat.ne_of_gt (blk_lt (kk BK201)) : gb203 ≠ gb201)); replace BK201 := kb BK201 hb; replace HB := sb HB hb; clear hb hbox hg; have hnb5 := NB203_201.out; have hnc5 := NB201_203.out; obtain ⟨hcz6_0, hcz6_1, hcz6_2, hfz6_0, hfz6_1, hfz6_2⟩ := cf3 BK203.out))
 go_loopg [13] k (fun kq v13 w' => ∃ (x13_1 : Int) (x204001_1 : List (S66)) (x204002_1 : List (S64)) (u204001 : Value) (u204002 : Value), v13 = .int .i64 x13_1 ∧ Aside0 (prod_Of.l0 kq l0 (l0.length : Int) x13_1 ((rd_T25 l0 0).f0) x204001_1 x204002_1 = some (r1, r2, r3)) ∧ Aside0 (kq ≤ k) ∧ Aside0 (Kd.R k66 66 w' w.heap.size (fun k_ => (w.heap.size ≤ k_)) u204001 x204001_1) ∧ Aside0 (Kd.N k64 64 w' w.heap.size (fun k_ => (w.heap.size ≤ k_) ∧ some k_ ≠ (u204001 : Value).ownBlock ∧ k_ ≠ gb201 ∧ k_ ≠ gb203) u204002 x204002_1) ∧ Aside0 (w'.heap[gb201]? = some (.cells #[.int .i64 0, (.slice none 0 0), (.slice none 0 0)] 25 (0, 0))) ∧ Aside0 (w'.heap[gb203]? = some (.cells #[.int .i64 ((rd_T25 l0 0).f0), u204001, u204002] 25 (0, 0))) ∧ Aside0 (Below w.heap.size w w'))
 case atStart => exact ⟨(0), (([] : List (S66))), (([] : List (S64))), (.slice none 0 0), (.slice none 0 0), rs, H', ⟨Nat.le_refl _⟩, ⟨by first | exact Kd.R_nil _ _ _ _ _ | exact Kd.N_nil _ _ _ _ _ | exact Kd.V_nil _ _ _ _ _ | exact Kd.Q_nil _ _ _ _ _ | exact Kd.S_nil _ _ _ _ _⟩, ⟨by first | exact Kd.R_nil _ _ _ _ _ | exact Kd.N_nil _ _ _ _ _ | exact Kd.V_nil _ _ _ _ _ | exact Kd.Q_nil _ _ _ _ _ | exact Kd.S_nil _ _ _ _ _⟩, ⟨kk BK201⟩, ⟨by (with_reducible repeat (first | refine kdN ?_ _ | refine kdr ?_ | refine kal ?_ _)); refine blk_put (cs := #[.int .i64 ((rd_T25 l0 0).f0), .slice none 0 0, .slice none 0 0]) ?_ 2 _ rfl; (with_reducible repeat (first | refine kdN ?_ _ | refine kdr ?_ | refine kal ?_ _)); refine blk_put (cs := #[.int .i64 ((rd_T25 l0 0).f0), .slice none 0 0, .slice none 0 0]) ?_ 1 _ rfl; (with_reducible repeat (first | refine kdN ?_ _ | refine kdr ?_ | refine kal ?_ _)); refine blk_put (cs := #[.int .i64 0, .slice none 0 0, .slice none 0 0]) ?_ 0 _ rfl; (with_reducible repeat (first | refine kdN ?_ _ | refine kdr ?_ | refine kal ?_ _)); exact BK203.out⟩, ⟨bb HB⟩⟩
 case round =>
  clear H'
  try clear c2
  try clear c2b0
  try clear c2b1
  try clear p2
  try clear q2
  try clear hx2
  try clear qi2
  try clear c5
  try clear c6
  try clear hcz6_0 hcz6_1 hcz6_2 hfz6_0 hfz6_1 hfz6_2
  try clear hx202_0
  try clear hx202_1
  try clear hx202_2
  try clear p202
  try clear q202
  obtain ⟨x13_1, x204001_1, x204002_1, u204001, u204002, rfl, HA, HK1, HO_204001, HO_204002, BK201, BK203, HB⟩ := hrel
  cases gk with
  | zero => exact absurd HA.out (by simp [prod_Of.l0])
  | succ k1 =>
   have H := HA.out
   clear HA
   simp only [prod_Of.l0] at H
   by_cases c7 : x13_1 < (l0.length : Int)
   rotate_left
   ·rw [if_neg c7] at H
    have c7b0 : decide (x13_1 < (l0.length : Int)) = false := decide_eq_false c7
    clear c7
    simp only [Option.some.injEq, Prod.mk.injEq] at H
    obtain ⟨rfl, rfl, rfl⟩ := H
    have hnb32 := NB203_201.out
    have hnc32 := NB201_203.out
    obtain ⟨hcz33_0, hcz33_1, hcz33_2, hfz33_0, hfz33_1, hfz33_2⟩ := cf3 BK203.out
    obtain ⟨hcz34_0, hcz34_1, hcz34_2, hfz34_0, hfz34_1, hfz34_2⟩ := cf3 BK201.out
    obtain ⟨Ao35, co35, eo35⟩ := Kd.R_slice HO_204001.out
    subst eo35
    obtain ⟨Ao36, co36, eo36⟩ := Kd.N_slice HO_204002.out
    subst eo36
    go_wp2
    refine bodyPost_ret (results_cell_row rfl _ _ gb201 25 #[.int .i64 ((rd_T25 l0 0).f0), .slice Ao35 x204001_1.length co35, .slice Ao36 x204002_1.length co36] (0, 0) _ rfl (by (with_reducible repeat (first | refine kdN ?_ _ | refine kdr ?_ | refine kal ?_ _)); refine blk_put (cs := #[.int .i64 ((rd_T25 l0 0).f0), .slice Ao35 x204001_1.length co35, .slice none 0 0]) ?_ 2 _ rfl; (with_reducible repeat (first | refine kdN ?_ _ | refine kdr ?_ | refine kal ?_ _)); refine blk_put (cs := #[.int .i64 ((rd_T25 l0 0).f0), .slice none 0 0, .slice none 0 0]) ?_ 1 _ rfl; (with_reducible repeat (first | refine kdN ?_ _ | refine kdr ?_ | refine kal ?_ _)); refine blk_put (cs := #[.int .i64 0, .slice none 0 0, .slice none 0 0]) ?_ 0 _ rfl; (with_reducible repeat (first | refine kdN ?_ _ | refine kdr ?_ | refine kal ?_ _)); exact BK201.out) Try.underlying25 rfl (by kernel_rfl)) rfl ?_
    exact ⟨_, _, rr, by (with_reducible repeat (first | apply Kd.R_alloc | apply Kd.R_drewN | apply Kd.R_drew)); exact Kd.R_mono (Kd.R_far (p := ⟨gb201, 2, none⟩) (Kd.R_far (p := ⟨gb201, 1, none⟩) (Kd.R_far (p := ⟨gb201, 0, none⟩) (Kd.R_types HO_204001.out BK201.out (by decide)) (fun _ hk => hk.2) (.int .i64 ((rd_T25 l0 0).f0))) (fun _ hk => hk.2) (.slice Ao35 x204001_1.length co35)) (fun _ hk => hk.2) (.slice Ao36 x204002_1.length co36)) (fun _ hk => hk.1), by (with_reducible repeat (first | apply Kd.N_alloc | apply Kd.N_drewN | apply Kd.N_drew)); exact Kd.N_mono (Kd.N_far (p := ⟨gb201, 2, none⟩) (Kd.N_far (p := ⟨gb201, 1, none⟩) (Kd.N_far (p := ⟨gb201, 0, none⟩) (Kd.N_mono HO_204002.out (fun k_ hk => (⟨hk, hk.2.2.1⟩ : _ ∧ k_ ≠ gb201))) (fun _ hk => hk.2) (.int .i64 ((rd_T25 l0 0).f0))) (fun _ hk => hk.2) (.slice Ao35 x204001_1.length co35)) (fun _ hk => hk.2) (.slice Ao36 x204002_1.length co36)) (fun _ hk => ⟨hk.1.1, hk.1.2.1⟩), bb HB⟩
   rw [if_pos c7] at H
   have c7b0 : decide (x13_1 < (l0.length : Int)) = true := decide_eq_true c7
   clear c7
   by_cases c8 : 0 ≤ x13_1
   rotate_left
   ·rw [if_neg c8] at H
    exact absurd H (by simp)
   rw [if_pos c8] at H
   have c8b0 : decide (0 ≤ x13_1) = true := decide_eq_true c8
   clear c8
   by_cases c9 : x13_1 < (l0.length : Int)
   rotate_left
   ·rw [if_neg c9] at H
    exact absurd H (by simp)
   rw [if_pos c9] at H
   have c9b0 : decide (x13_1 < (l0.length : Int)) = true := decide_eq_true c9
   clear c9
   obtain ⟨t206, A10, H⟩ := be H
   by_cases c11 : x204001_1.length + t206.length < 4398046511104
   rotate_left
   ·rw [if_neg c11] at H
    exact absurd H (by simp)
   rw [if_pos c11] at H
   have LMc11 := Aside0.mk c11
   clear c11
   obtain ⟨y209, hy209⟩ : ∃ y_ : List (S66), y_ = (x204001_1 ++ t206) := ⟨_, rfl⟩
   replace H : ((prod_Moved.f k1 ((rd_T25 l0 x13_1).f2) x13_1 (wrap64 (x13_1 * (((rd_T25 l0 x13_1).f1).length : Int)))).bind fun t212 => (if x204002_1.length + t212.length < 1599289640401 then (prod_Of.l0 k1 l0 (l0.length : Int) (wrap64 (x13_1 + 1)) ((rd_T25 l0 0).f0) y209 (x204002_1 ++ t212)) else (none))) = some (r1, r2, r3) := by first | (rw [hy209]; with_reducible exact H) | (have H2_ := (Option.bind_some _ _).symm.trans H; rw [hy209]; with_reducible exact H2_) | (have H2_ := (Option.bind_some _ _).symm.trans H; with_reducible exact H2_) | with_reducible exact H | (rw [hy209]; exact H) | exact H
   have Ny209 := Aside0.mk hy209
   clear hy209
   obtain ⟨t212, A12, H⟩ := be H
   by_cases c13 : x204002_1.length + t212.length < 1599289640401
   rotate_left
   ·rw [if_neg c13] at H
    exact absurd H (by simp)
   rw [if_pos c13] at H
   have LMc13 := Aside0.mk c13
   clear c13
   obtain ⟨y215, hy215⟩ : ∃ y_ : List (S64), y_ = (x204002_1 ++ t212) := ⟨_, rfl⟩
   replace H : (prod_Of.l0 k1 l0 (l0.length : Int) (wrap64 (x13_1 + 1)) ((rd_T25 l0 0).f0) y209 y215) = some (r1, r2, r3) := by first | (rw [hy215]; with_reducible exact H) | (have H2_ := (Option.bind_some _ _).symm.trans H; rw [hy215]; with_reducible exact H2_) | (have H2_ := (Option.bind_some _ _).symm.trans H; with_reducible exact H2_) | with_reducible exact H | (rw [hy215]; exact H) | exact H
   have Ny215 := Aside0.mk hy215
   clear hy215
   have H' := Aside0.mk H
   clear H
   have p204 : 0 ≤ (x13_1 : Int) := od
   have q204 : x13_1 < (l0.length : Int) := od
   obtain ⟨ad204, A204_1, c204_1, A204_2, c204_2, e204, hx204_0, hx204_1, hx204_2, hl204_1, hi204_1, hl204_2, hi204_2⟩ := at_T25 HR0.out x13_1 p204 q204
   obtain rfl : ad202 = ad204 := (by injection e204)
   replace hx204_0 := bcell HB.out hx204_0
   replace hx204_1 := bcell HB.out hx204_1
   replace hx204_2 := bcell HB.out hx204_2
   have HR204_1 := Aside0.mk hi204_1
   have HC204_1 := Aside0.mk hl204_1
   clear hi204_1 hl204_1
   have HR204_2 := Aside0.mk hi204_2
   have HC204_2 := Aside0.mk hl204_2
   clear hi204_2 hl204_2
   replace p204 := eq_true p204
   replace q204 := eq_true q204
   try go_wp2_with (first | ((with_reducible refine gate_dst (N := 5) rfl ?_); refine bx 5 rfl rfl #[.int .i64 0, .slice none 0 0, .slice none 0 0] 25 ?_; intro gb205 hg w14 hbox hb; have BK205 := Aside0.mk (hbox); have GE205 := ge HB hg; have NB201_205 := Aside0.mk ((by rw [hg]; exact Nat.ne_of_lt (blk_lt (kk BK201)) : gb201 ≠ gb205)); have NB205_201 := Aside0.mk ((by rw [hg]; exact Nat.ne_of_gt (blk_lt (kk BK201)) : gb205 ≠ gb201)); have NB203_205 := Aside0.mk ((by rw [hg]; exact Nat.ne_of_lt (blk_lt (kk BK203)) : gb203 ≠ gb205)); have NB205_203 := Aside0.mk ((by rw [hg]; exact Nat.ne_of_gt (blk_lt (kk BK203)) : gb205 ≠ gb203)); replace HO_204001 := Aside0.mk (Kd.R_below (iR HO_204001) hb); replace HO_204002 := Aside0.mk (Kd.N_below (Kd.N_elderB (iN HO_204002) gb205 (Nat.le_of_eq hg.symm)) hb); replace BK201 := kb BK201 hb; replace BK203 := kb BK203 hb; replace HB := sb HB hb; clear hb hbox hg; have hnb15 := NB205_201.out; have hnc15 := NB201_205.out; have hnb16 := NB205_203.out; have hnc16 := NB203_205.out; obtain ⟨hcz17_0, hcz17_1, hcz17_2, hfz17_0, hfz17_1, hfz17_2⟩ := cf3 BK205.out))
   have n0_ : Aside0 (Kd.R k66 66 (((w14.setCell ⟨gb205, 0, none⟩ (.int .i64 ((rd_T25 l0 x13_1).f0))).setCell ⟨gb205, 1, none⟩ (.slice A204_1 ((rd_T25 l0 x13_1).f1).length c204_1)).setCell ⟨gb205, 2, none⟩ (.slice A204_2 ((rd_T25 l0 x13_1).f2).length c204_2)) w.heap.size (fun k_ => (w.heap.size ≤ k_)) u204001 x204001_1) := ⟨by (with_reducible repeat (first | apply Kd.R_alloc | apply Kd.R_drewN | apply Kd.R_drew)); exact Kd.R_mono (Kd.R_far (p := ⟨gb205, 2, none⟩) (Kd.R_far (p := ⟨gb205, 1, none⟩) (Kd.R_far (p := ⟨gb205, 0, none⟩) (Kd.R_types HO_204001.out BK205.out (by decide)) (fun _ hk => hk.2) (.int .i64 ((rd_T25 l0 x13_1).f0))) (fun _ hk => hk.2) (.slice A204_1 ((rd_T25 l0 x13_1).f1).length c204_1)) (fun _ hk => hk.2) (.slice A204_2 ((rd_T25 l0 x13_1).f2).length c204_2)) (fun _ hk => hk.1)⟩
   have n1_ : Aside0 (Kd.N k64 64 (((w14.setCell ⟨gb205, 0, none⟩ (.int .i64 ((rd_T25 l0 x13_1).f0))).setCell ⟨gb205, 1, none⟩ (.slice A204_1 ((rd_T25 l0 x13_1).f1).length c204_1)).setCell ⟨gb205, 2, none⟩ (.slice A204_2 ((rd_T25 l0 x13_1).f2).length c204_2)) w.heap.size (fun k_ => (w.heap.size ≤ k_) ∧ some k_ ≠ (u204001 : Value).ownBlock ∧ k_ ≠ gb201 ∧ k_ ≠ gb203 ∧ k_ ≠ gb205) u204002 x204002_1) := ⟨by (with_reducible repeat (first | apply Kd.N_alloc | apply Kd.N_drewN | apply Kd.N_drew)); exact Kd.N_mono (Kd.N_far (p := ⟨gb205, 2, none⟩) (Kd.N_far (p := ⟨gb205, 1, none⟩) (Kd.N_far (p := ⟨gb205, 0, none⟩) (Kd.N_mono HO_204002.out (fun k_ hk => (⟨hk, hk.2⟩ : _ ∧ k_ ≠ gb205))) (fun _ hk => hk.2) (.int .i64 ((rd_T25 l0 x13_1).f0))) (fun _ hk => hk.2) (.slice A204_1 ((rd_T25 l0 x13_1).f1).length c204_1)) (fun _ hk => hk.2) (.slice A204_2 ((rd_T25 l0 x13_1).f2).length c204_2)) (fun _ hk => ⟨hk.1.1.1, ⟨hk.1.1.2.1, ⟨hk.1.1.2.2.1, ⟨hk.1.1.2.2.2, hk.1.2⟩⟩⟩⟩)⟩
   have n2_ : Aside0 ((((w14.setCell ⟨gb205, 0, none⟩ (.int .i64 ((rd_T25 l0 x13_1).f0))).setCell ⟨gb205, 1, none⟩ (.slice A204_1 ((rd_T25 l0 x13_1).f1).length c204_1)).setCell ⟨gb205, 2, none⟩ (.slice A204_2 ((rd_T25 l0 x13_1).f2).length c204_2)).heap[gb201]? = some (.cells #[.int .i64 0, .slice none 0 0, .slice none 0 0] 25 (0, 0))) := ⟨kk BK201⟩
   have n3_ : Aside0 ((((w14.setCell ⟨gb205, 0, none⟩ (.int .i64 ((rd_T25 l0 x13_1).f0))).setCell ⟨gb205, 1, none⟩ (.slice A204_1 ((rd_T25 l0 x13_1).f1).length c204_1)).setCell ⟨gb205, 2, none⟩ (.slice A204_2 ((rd_T25 l0 x13_1).f2).length c204_2)).heap[gb203]? = some (.cells #[.int .i64 ((rd_T25 l0 0).f0), u204001, u204002] 25 (0, 0))) := ⟨kk BK203⟩
   have n4_ : Aside0 ((((w14.setCell ⟨gb205, 0, none⟩ (.int .i64 ((rd_T25 l0 x13_1).f0))).setCell ⟨gb205, 1, none⟩ (.slice A204_1 ((rd_T25 l0 x13_1).f1).length c204_1)).setCell ⟨gb205, 2, none⟩ (.slice A204_2 ((rd_T25 l0 x13_1).f2).length c204_2)).heap[gb205]? = some (.cells #[.int .i64 ((rd_T25 l0 x13_1).f0), .slice A204_1 ((rd_T25 l0 x13_1).f1).length c204_1, .slice A204_2 ((rd_T25 l0 x13_1).f2).length c204_2] 25 (0, 0))) := ⟨by (with_reducible repeat (first | refine kdN ?_ _ | refine kdr ?_ | refine kal ?_ _)); refine blk_put (cs := #[.int .i64 ((rd_T25 l0 x13_1).f0), .slice A204_1 ((rd_T25 l0 x13_1).f1).length c204_1, .slice none 0 0]) ?_ 2 _ rfl; (with_reducible repeat (first | refine kdN ?_ _ | refine kdr ?_ | refine kal ?_ _)); refine blk_put (cs := #[.int .i64 ((rd_T25 l0 x13_1).f0), .slice none 0 0, .slice none 0 0]) ?_ 1 _ rfl; (with_reducible repeat (first | refine kdN ?_ _ | refine kdr ?_ | refine kal ?_ _)); refine blk_put (cs := #[.int .i64 0, .slice none 0 0, .slice none 0 0]) ?_ 0 _ rfl; (with_reducible repeat (first | refine kdN ?_ _ | refine kdr ?_ | refine kal ?_ _)); exact BK205.out⟩
   have n5_ : Aside0 (Below w.heap.size w (((w14.setCell ⟨gb205, 0, none⟩ (.int .i64 ((rd_T25 l0 x13_1).f0))).setCell ⟨gb205, 1, none⟩ (.slice A204_1 ((rd_T25 l0 x13_1).f1).length c204_1)).setCell ⟨gb205, 2, none⟩ (.slice A204_2 ((rd_T25 l0 x13_1).f2).length c204_2))) := ⟨bb HB⟩
   (try clear HO_204001)
   (try clear HO_204002)
   (try clear BK201)
   (try clear BK203)
   (try clear BK205)
   (try clear HB)
   generalize (((w14.setCell ⟨gb205, 0, none⟩ (.int .i64 ((rd_T25 l0 x13_1).f0))).setCell ⟨gb205, 1, none⟩ (.slice A204_1 ((rd_T25 l0 x13_1).f1).length c204_1)).setCell ⟨gb205, 2, none⟩ (.slice A204_2 ((rd_T25 l0 x13_1).f2).length c204_2)) = w18 at n0_ n1_ n2_ n3_ n4_ n5_ ⊢
   have HO_204001 := n0_
   have HO_204002 := n1_
   have BK201 := n2_
   have BK203 := n3_
   have BK205 := n4_
   have HB := n5_
   clear n0_ n1_ n2_ n3_ n4_ n5_
   replace HO_204001 := Aside0.mk (Kd.R_drew HO_204001.out)
   replace HO_204002 := Aside0.mk (Kd.N_drew HO_204002.out)
   replace BK201 := Aside0.mk (kdr BK201.out)
   replace BK203 := Aside0.mk (kdr BK203.out)
   replace BK205 := Aside0.mk (kdr BK205.out)
   replace HB := Aside0.mk (bd1 HB.out)
   refine start_ (n := 9) (S := fun w' => w'.cell? ⟨gb203, 0, none⟩ = some (.int .i64 ((rd_T25 l0 0).f0)) ∧ w'.cell? ⟨gb203, 1, none⟩ = some (u204001) ∧ w'.cell? ⟨gb203, 2, none⟩ = some (u204002) ∧ w'.cell? ⟨gb205, 0, none⟩ = some (.int .i64 ((rd_T25 l0 x13_1).f0)) ∧ w'.cell? ⟨gb205, 1, none⟩ = some (.slice A204_1 ((rd_T25 l0 x13_1).f1).length c204_1) ∧ w'.cell? ⟨gb205, 2, none⟩ = some (.slice A204_2 ((rd_T25 l0 x13_1).f2).length c204_2)) (ds := [8]) #[false, false, false, false, false, false, false, false, false] (by kernel_rfl) rfl rfl ⟨(blk_cell BK203.out 0).trans rfl, (blk_cell BK203.out 1).trans rfl, (blk_cell BK203.out 2).trans rfl, (blk_cell BK205.out 0).trans rfl, (blk_cell BK205.out 1).trans rfl, (blk_cell BK205.out 2).trans rfl⟩ (fun hHeld => ?_); refine with_tabW prod_Of.tab5 prod_Of.bits5 (fun HT_ HW_ => ?_)
   generalize w18.drew = w19 at HO_204001 HO_204002 BK201 BK203 BK205 HB hHeld ⊢
   refine pT 0 18 (bl 9 1) HT_ rfl rfl ?_
   refine pT 2 20 (bl 9 5) HT_ rfl rfl ?_
   refine pT 4 22 (bl 9 21) HT_ rfl rfl ?_
   refine tk (i := 1) (N := some 19) (bl 9 23) rfl rfl (take_ofW HT_.out HW_.out (by kernel_rfl)) hHeld ?_
   refine tk (i := 3) (N := some 21) (bl 9 31) rfl rfl (take_ofW HT_.out HW_.out (by kernel_rfl)) hHeld ?_
   refine one_ (i := 5) (N := some 23) (bl 9 63) rfl rfl (one_of HT_.out (by kernel_rfl)) (by decide) (fun K hK => ?_)
   refine gO Try.func45 #[.slice A204_1 ((rd_T25 l0 x13_1).f1).length c204_1, .int .i64 x13_1] (by rfl) rfl rfl ?_
   with_reducible refine (prod_variables.calls k1 _ _ ((rd_T25 l0 x13_1).f1) x13_1 t206 _ ?side1 ?side2 A10.out).mono ?_
   (case side1 => exact cb HR204_1 HB)
   (case side2 => exact HC204_1.out)
   rintro e w20 ⟨v207, rfl, ho0, hb⟩
   refine ⟨_, rfl, ?_⟩
   have HO208 := Aside0.mk (Kd.R_lower (Kd.R_new' (Kd.R_newM (M := fun k_ => (w.heap.size ≤ k_)) ho0 (bsz (bb HB)) (fun k_ h_ => h_)) (Kd.R_lt (iR HO_204001))) (bsz (bb HB)))
   replace HO_204001 := Aside0.mk (Kd.R_elder' (iR HO_204001) (Kd.R_base ho0) hb)
   replace HO_204002 := Aside0.mk (Kd.N_elder' (iN HO_204002) (Kd.R_base ho0) hb)
   replace BK201 := kb BK201 hb
   replace BK203 := kb BK203 hb
   replace BK205 := kb BK205 hb
   replace HB := sb HB hb
   (try clear hb)
   (try clear hb2)
   (try clear hk)
   (try clear hi)
   (try clear ho0)
   obtain ⟨Ao22, co22, eo22⟩ := Kd.R_slice HO208.out
   (first | subst eo22 | (injection eo22 with f1_ f2_ f3_; have f4_ := f1_.symm; have f5_ := f3_.symm; clear f1_ f2_ f3_; subst f4_; subst f5_))
   refine hK.out _ _ ⟨(blk_cell BK203.out 0).trans rfl, (blk_cell BK203.out 1).trans rfl, (blk_cell BK203.out 2).trans rfl, (blk_cell BK205.out 0).trans rfl, (blk_cell BK205.out 1).trans rfl, (blk_cell BK205.out 2).trans rfl⟩ (fun hHeld => ?_)
   clear hK K
   refine nm 23 ?_
   refine one_ (i := 6) (N := some 24) (bl 9 127) rfl rfl (one_of HT_.out (by kernel_rfl)) (by decide) (fun K hK => ?_)
   refine Kd.R_append_rows_step k66 (w0 := w) w.heap.size (by rfl) (.tmp 19) (.tmp 23) 22 66 (.agg #[(.string ⟨#[]⟩), (.int .i64 0), (.int .i64 0)]) 32 rfl Try.underlying22 info66 rfl (by decide) (by omega) u204001 x204001_1 t206 _ _ _ (fun k_ => (w.heap.size ≤ k_) ∧ some k_ ≠ (.slice Ao22 t206.length co22 : Value).ownBlock) (fun _ => False) rfl rfl ?aO ?aR (fun _ _ h => h) (fun _ h => h.elim) ?aF ?aB ?aS ?aL ?_
   (case aR => repeat (first | exact (Kd.R_reads' HO208.out).2.2 | with_reducible first | apply Kd.C_alloc | apply Kd.C_drewN | apply Kd.C_drew))
   (case aB => exact (bb HB))
   (case aF => exact (fun k_ hk => ⟨(Nat.le_trans (bsz (bb HB)) hk), Kd.fresh' (Kd.R_lt (iR HO208)) k_ hk⟩))
   (case aO => exact (iR HO_204001))
   (case aS => exact (bsz (bb HB)))
   (case aL => have := LMc11.out; omega)
   intro v210 w21 ho hb hg hat
   rw [← Ny209.out] at ho
   have HO211 := Aside0.mk (ho)
   replace HO_204002 := Aside0.mk (Kd.N_afterv (ok := (fun k_ => (w.heap.size ≤ k_) ∧ some k_ ≠ (.slice Ao22 t206.length co22 : Value).ownBlock ∧ k_ ≠ gb201 ∧ k_ ≠ gb203 ∧ k_ ≠ gb205)) (by (with_reducible repeat (first | apply Kd.N_alloc | apply Kd.N_drewN | apply Kd.N_drew)); exact Kd.N_mono HO_204002.out (fun _ hk => ⟨⟨hk.1.1, ⟨hk.2, ⟨hk.1.2.2.1, ⟨hk.1.2.2.2.1, hk.1.2.2.2.2⟩⟩⟩⟩, hk.1.2.1⟩)) hg hat)
   replace BK201 := Aside0.mk (blk_grown (kk BK201) hg (Kd.R_ne HO_204001.out BK201.out (by decide)))
   replace BK203 := Aside0.mk (blk_grown (kk BK203) hg (Kd.R_ne HO_204001.out BK203.out (by decide)))
   replace BK205 := Aside0.mk (blk_grown (kk BK205) hg (Kd.R_ne HO_204001.out BK205.out (by decide)))
   replace HO208 := Aside0.mk (Kd.R_after (ok := (fun k_ => (w.heap.size ≤ k_))) (by (with_reducible repeat (first | apply Kd.R_alloc | apply Kd.R_drewN | apply Kd.R_drew)); exact Kd.R_mono HO208.out (fun _ hk => ⟨hk.1.1, hk.2⟩)) hg hat)
   replace HB := Aside0.mk (hb)
   clear HO_204001
   clear ho hb hg hat
   obtain ⟨Ao23, co23, eo23⟩ := Kd.R_slice HO211.out
   (first | subst eo23 | (injection eo23 with f1_ f2_ f3_; have f4_ := f1_.symm; have f5_ := f3_.symm; clear f1_ f2_ f3_; subst f4_; subst f5_))
   refine hK.out _ _ ⟨(blk_cell BK203.out 0).trans rfl, (blk_cell BK203.out 1).trans rfl, (blk_cell BK203.out 2).trans rfl, (blk_cell BK205.out 0).trans rfl, (blk_cell BK205.out 1).trans rfl, (blk_cell BK205.out 2).trans rfl⟩ (fun hHeld => ?_)
   clear hK K
   refine nm 24 ?_
   refine pT 7 25 (bl 9 255) HT_ rfl rfl ?_
   refine last_ (i := 8) (N := none) (bl 9 511) rfl rfl (one_of HT_.out (by kernel_rfl)) (by decide) (fun K hK => ?_)
   have hs24 : w21.cell? ⟨gb203, 1, none⟩ = some (u204001) := (blk_cell BK203.out 1).trans rfl
   have hfs24 := blk_frozen BK203.out 1
   have hns24_0 := NB201_203.out
   have hns24_2 := NB205_203.out
   have hms24_0 := NB203_201.out
   have hms24_2 := NB203_205.out
   refine skip_ (w1 := ?_) (by rfl) rfl ?_ ?_
   rotate_left
   ·go_simp
    rfl
   refine hK.out _ _ ?_
   clear hK K
   refine done_ (done_of HT_.out (by kernel_rfl)) ?_
   try go_wp2
   have n0_ : Aside0 (Kd.N k64 64 (w21.setCell ⟨gb203, 1, none⟩ (.slice Ao23 y209.length co23)) w.heap.size (fun k_ => (w.heap.size ≤ k_) ∧ some k_ ≠ (.slice Ao22 t206.length co22 : Value).ownBlock ∧ some k_ ≠ (.slice Ao23 y209.length co23 : Value).ownBlock ∧ k_ ≠ gb201 ∧ k_ ≠ gb203 ∧ k_ ≠ gb205) u204002 x204002_1) := ⟨by (with_reducible repeat (first | apply Kd.N_alloc | apply Kd.N_drewN | apply Kd.N_drew)); exact Kd.N_mono (Kd.N_far (p := ⟨gb203, 1, none⟩) (Kd.N_mono HO_204002.out (fun k_ hk => (⟨hk, hk.1.2.2.2.1⟩ : _ ∧ k_ ≠ gb203))) (fun _ hk => hk.2) (.slice Ao23 y209.length co23)) (fun _ hk => ⟨hk.1.1.1, ⟨hk.1.1.2.1, ⟨hk.1.2, ⟨hk.1.1.2.2.1, ⟨hk.1.1.2.2.2.1, hk.1.1.2.2.2.2⟩⟩⟩⟩⟩)⟩
   have n1_ : Aside0 (Kd.R k66 66 (w21.setCell ⟨gb203, 1, none⟩ (.slice Ao23 y209.length co23)) w.heap.size (fun k_ => (w.heap.size ≤ k_) ∧ some k_ ≠ (.slice Ao23 y209.length co23 : Value).ownBlock) (.slice Ao22 t206.length co22) t206) := ⟨by (with_reducible repeat (first | apply Kd.R_alloc | apply Kd.R_drewN | apply Kd.R_drew)); exact Kd.R_mono (Kd.R_far (p := ⟨gb203, 1, none⟩) (Kd.R_types HO208.out BK203.out (by decide)) (fun _ hk => hk.2) (.slice Ao23 y209.length co23)) (fun _ hk => ⟨hk.1.1, hk.1.2⟩)⟩
   have n2_ : Aside0 (Kd.R k66 66 (w21.setCell ⟨gb203, 1, none⟩ (.slice Ao23 y209.length co23)) w.heap.size (fun k_ => (w.heap.size ≤ k_) ∧ some k_ ≠ (.slice Ao22 t206.length co22 : Value).ownBlock) (.slice Ao23 y209.length co23) y209) := ⟨by (with_reducible repeat (first | apply Kd.R_alloc | apply Kd.R_drewN | apply Kd.R_drew)); exact Kd.R_mono (Kd.R_far (p := ⟨gb203, 1, none⟩) (Kd.R_types HO211.out BK203.out (by decide)) (fun _ hk => hk.2) (.slice Ao23 y209.length co23)) (fun _ hk => ⟨hk.1.1, hk.1.2⟩)⟩
   have n3_ : Aside0 ((w21.setCell ⟨gb203, 1, none⟩ (.slice Ao23 y209.length co23)).heap[gb201]? = some (.cells #[.int .i64 0, .slice none 0 0, .slice none 0 0] 25 (0, 0))) := ⟨kk BK201⟩
   have n4_ : Aside0 ((w21.setCell ⟨gb203, 1, none⟩ (.slice Ao23 y209.length co23)).heap[gb203]? = some (.cells #[.int .i64 ((rd_T25 l0 0).f0), .slice Ao23 y209.length co23, u204002] 25 (0, 0))) := ⟨by (with_reducible repeat (first | refine kdN ?_ _ | refine kdr ?_ | refine kal ?_ _)); refine blk_put (cs := #[.int .i64 ((rd_T25 l0 0).f0), u204001, u204002]) ?_ 1 _ rfl; (with_reducible repeat (first | refine kdN ?_ _ | refine kdr ?_ | refine kal ?_ _)); exact BK203.out⟩
   have n5_ : Aside0 ((w21.setCell ⟨gb203, 1, none⟩ (.slice Ao23 y209.length co23)).heap[gb205]? = some (.cells #[.int .i64 ((rd_T25 l0 x13_1).f0), .slice A204_1 ((rd_T25 l0 x13_1).f1).length c204_1, .slice A204_2 ((rd_T25 l0 x13_1).f2).length c204_2] 25 (0, 0))) := ⟨kk BK205⟩
   have n6_ : Aside0 (Below w.heap.size w (w21.setCell ⟨gb203, 1, none⟩ (.slice Ao23 y209.length co23))) := ⟨bb HB⟩
   (try clear HO_204002)
   (try clear HO208)
   (try clear HO211)
   (try clear BK201)
   (try clear BK203)
   (try clear BK205)
   (try clear HB)
   generalize (w21.setCell ⟨gb203, 1, none⟩ (.slice Ao23 y209.length co23)) = w25 at n0_ n1_ n2_ n3_ n4_ n5_ n6_ ⊢
   have HO_204002 := n0_
   have HO208 := n1_
   have HO211 := n2_
   have BK201 := n3_
   have BK203 := n4_
   have BK205 := n5_
   have HB := n6_
   clear n0_ n1_ n2_ n3_ n4_ n5_ n6_
   replace HO_204002 := Aside0.mk (Kd.N_drew HO_204002.out)
   replace HO208 := Aside0.mk (Kd.R_drew HO208.out)
   replace HO211 := Aside0.mk (Kd.R_drew HO211.out)
   replace BK201 := Aside0.mk (kdr BK201.out)
   replace BK203 := Aside0.mk (kdr BK203.out)
   replace BK205 := Aside0.mk (kdr BK205.out)
   replace HB := Aside0.mk (bd1 HB.out)
   refine start_ (n := 14) (S := fun w' => w'.cell? ⟨gb203, 0, none⟩ = some (.int .i64 ((rd_T25 l0 0).f0)) ∧ w'.cell? ⟨gb203, 1, none⟩ = some (.slice Ao23 y209.length co23) ∧ w'.cell? ⟨gb203, 2, none⟩ = some (u204002) ∧ w'.cell? ⟨gb205, 0, none⟩ = some (.int .i64 ((rd_T25 l0 x13_1).f0)) ∧ w'.cell? ⟨gb205, 1, none⟩ = some (.slice A204_1 ((rd_T25 l0 x13_1).f1).length c204_1) ∧ w'.cell? ⟨gb205, 2, none⟩ = some (.slice A204_2 ((rd_T25 l0 x13_1).f2).length c204_2)) (ds := [13]) #[false, false, false, false, false, false, false, false, false, false, false, false, false, false] (by kernel_rfl) rfl rfl ⟨(blk_cell BK203.out 0).trans rfl, (blk_cell BK203.out 1).trans rfl, (blk_cell BK203.out 2).trans rfl, (blk_cell BK205.out 0).trans rfl, (blk_cell BK205.out 1).trans rfl, (blk_cell BK205.out 2).trans rfl⟩ (fun hHeld => ?_); refine with_tabW prod_Of.tab6 prod_Of.bits6 (fun HT_ HW_ => ?_)
   generalize w25.drew = w26 at HO_204002 HO208 HO211 BK201 BK203 BK205 HB hHeld ⊢
   refine pT 0 26 (bl 14 1) HT_ rfl rfl ?_
   refine pT 2 28 (bl 14 5) HT_ rfl rfl ?_
   refine pT 4 30 (bl 14 21) HT_ rfl rfl ?_
   refine pT 5 31 (bl 14 53) HT_ rfl rfl ?_
   refine pT 6 32 (bl 14 117) HT_ rfl rfl ?_
   refine tk (i := 1) (N := some 27) (bl 14 119) rfl rfl (take_ofW HT_.out HW_.out (by kernel_rfl)) hHeld ?_
   refine tk (i := 3) (N := some 29) (bl 14 127) rfl rfl (take_ofW HT_.out HW_.out (by kernel_rfl)) hHeld ?_
   refine tk (i := 7) (N := some 33) (bl 14 255) rfl rfl (take_ofW HT_.out HW_.out (by kernel_rfl)) hHeld ?_
   refine pT 8 34 (bl 14 511) HT_ rfl rfl ?_
   refine pT 9 35 (bl 14 1023) HT_ rfl rfl ?_
   refine one_ (i := 10) (N := some 36) (bl 14 2047) rfl rfl (one_of HT_.out (by kernel_rfl)) (by decide) (fun K hK => ?_)
   refine gO Try.func64 #[.slice A204_2 ((rd_T25 l0 x13_1).f2).length c204_2, .int .i64 x13_1, .int .i64 (wrap64 (x13_1 * (((rd_T25 l0 x13_1).f1).length : Int)))] (by rfl) rfl rfl ?_
   with_reducible refine (prod_Moved.calls k1 _ _ ((rd_T25 l0 x13_1).f2) x13_1 (wrap64 (x13_1 * (((rd_T25 l0 x13_1).f1).length : Int))) t212 _ ?side1 ?side2 A12.out).mono ?_
   (case side1 => exact cb HR204_2 HB)
   (case side2 => exact HC204_2.out)
   rintro e w27 ⟨v213, rfl, ho0, hb⟩
   refine ⟨_, rfl, ?_⟩
   have HO214 := Aside0.mk (Kd.N_lower (Kd.N_mono (ok' := fun k_ => (w.heap.size ≤ k_) ∧ some k_ ≠ (u204002 : Value).ownBlock ∧ some k_ ≠ (.slice Ao22 t206.length co22 : Value).ownBlock ∧ some k_ ≠ (.slice Ao23 y209.length co23 : Value).ownBlock ∧ k_ ≠ gb201 ∧ k_ ≠ gb203 ∧ k_ ≠ gb205) (Kd.R_N (Kd.R_bound ho0)) (fun k_ hk_ => ⟨(Nat.le_trans (bsz (bb HB)) hk_.2.1), (Kd.fresh' (Kd.N_lt (iN HO_204002)) k_ hk_.2.1), (Kd.fresh' (Kd.R_lt (iR HO208)) k_ hk_.2.1), (Kd.fresh' (Kd.R_lt (iR HO211)) k_ hk_.2.1), (Kd.freshB (kk BK201) k_ hk_.2.1), (Kd.freshB (kk BK203) k_ hk_.2.1), (Kd.freshB (kk BK205) k_ hk_.2.1)⟩)) (bsz (bb HB)))
   replace HO_204002 := Aside0.mk (Kd.N_elder' (iN HO_204002) (by first | exact Kd.N_base ho0 | exact Kd.R_base ho0) hb)
   replace HO208 := Aside0.mk (Kd.R_below (iR HO208) hb)
   replace HO211 := Aside0.mk (Kd.R_below (iR HO211) hb)
   replace BK201 := kb BK201 hb
   replace BK203 := kb BK203 hb
   replace BK205 := kb BK205 hb
   replace HB := sb HB hb
   (try clear hb)
   (try clear hb2)
   (try clear hk)
   (try clear hi)
   (try clear ho0)
   obtain ⟨Ao29, co29, eo29⟩ := Kd.N_slice HO214.out
   (first | subst eo29 | (injection eo29 with f1_ f2_ f3_; have f4_ := f1_.symm; have f5_ := f3_.symm; clear f1_ f2_ f3_; subst f4_; subst f5_))
   refine hK.out _ _ ⟨(blk_cell BK203.out 0).trans rfl, (blk_cell BK203.out 1).trans rfl, (blk_cell BK203.out 2).trans rfl, (blk_cell BK205.out 0).trans rfl, (blk_cell BK205.out 1).trans rfl, (blk_cell BK205.out 2).trans rfl⟩ (fun hHeld => ?_)
   clear hK K
   refine nm 36 ?_
   refine one_ (i := 11) (N := some 37) (bl 14 4095) rfl rfl (one_of HT_.out (by kernel_rfl)) (by decide) (fun K hK => ?_)
   refine Kd.N_append_rows_step k64 (w0 := w) w.heap.size (by rfl) (.tmp 27) (.tmp 36) 23 64 (.agg #[(.int .i64 0), (.int .i64 0), (.slice none 0 0), (.slice none 0 0), (.slice none 0 0)]) 88 rfl Try.underlying23 info64 rfl (by decide) (by omega) u204002 x204002_1 t212 _ _ _ (fun k_ => (w.heap.size ≤ k_) ∧ some k_ ≠ (.slice Ao22 t206.length co22 : Value).ownBlock ∧ some k_ ≠ (.slice Ao23 y209.length co23 : Value).ownBlock ∧ k_ ≠ gb201 ∧ k_ ≠ gb203 ∧ k_ ≠ gb205) (fun k_ => ((fun k_ => (w.heap.size ≤ k_) ∧ some k_ ≠ (.slice Ao22 t206.length co22 : Value).ownBlock ∧ some k_ ≠ (.slice Ao23 y209.length co23 : Value).ownBlock ∧ k_ ≠ gb201 ∧ k_ ≠ gb203 ∧ k_ ≠ gb205)) k_ ∧ some k_ ≠ (u204002 : Value).ownBlock) rfl rfl ?aO ?aR (fun _ hk => hk) ?aF ?aB ?aS ?aL ?_
   (case aR => exact (by skip; exact Kd.N_F (Kd.N_mono (ok' := (fun k_ => ((fun k_ => (w.heap.size ≤ k_) ∧ some k_ ≠ (.slice Ao22 t206.length co22 : Value).ownBlock ∧ some k_ ≠ (.slice Ao23 y209.length co23 : Value).ownBlock ∧ k_ ≠ gb201 ∧ k_ ≠ gb203 ∧ k_ ≠ gb205)) k_ ∧ some k_ ≠ (u204002 : Value).ownBlock)) (HO214.out) (fun k_ hk => ⟨⟨hk.1, ⟨hk.2.2.1, ⟨hk.2.2.2.1, ⟨hk.2.2.2.2.1, ⟨hk.2.2.2.2.2.1, hk.2.2.2.2.2.2⟩⟩⟩⟩⟩, hk.2.1⟩))))
   (case aB => exact (bb HB))
   (case aF => exact (fun k_ hk => ⟨(Nat.le_trans (bsz (bb HB)) hk), Kd.fresh' (Kd.R_lt (iR HO208)) k_ hk, Kd.fresh' (Kd.R_lt (iR HO211)) k_ hk, Kd.freshB (kk BK201) k_ hk, Kd.freshB (kk BK203) k_ hk, Kd.freshB (kk BK205) k_ hk⟩))
   (case aO => exact (by (with_reducible repeat (first | apply Kd.N_alloc | apply Kd.N_drewN | apply Kd.N_drew)); exact Kd.N_mono HO_204002.out (fun _ hk => ⟨hk.1.1, ⟨hk.1.2.1, ⟨hk.1.2.2.1, ⟨hk.1.2.2.2.1, ⟨hk.1.2.2.2.2.1, hk.1.2.2.2.2.2⟩⟩⟩⟩⟩)))
   (case aS => exact (bsz (bb HB)))
   (case aL => have := LMc13.out; omega)
   intro v216 w28 ho hb hg hat
   rw [← Ny215.out] at ho
   have HO217 := Aside0.mk (ho)
   replace BK201 := Aside0.mk (blk_grown (kk BK201) hg (Kd.N_ne HO_204002.out BK201.out (by decide)))
   replace BK203 := Aside0.mk (blk_grown (kk BK203) hg (Kd.N_ne HO_204002.out BK203.out (by decide)))
   replace BK205 := Aside0.mk (blk_grown (kk BK205) hg (Kd.N_ne HO_204002.out BK205.out (by decide)))
   replace HO208 := Aside0.mk (Kd.R_over' (iR HO208) (Kd.N_typed (iN HO_204002)) (by decide) hg)
   replace HO211 := Aside0.mk (Kd.R_over' (iR HO211) (Kd.N_typed (iN HO_204002)) (by decide) hg)
   replace HO214 := Aside0.mk (Kd.N_afterv (ok := (fun k_ => (w.heap.size ≤ k_) ∧ some k_ ≠ (.slice Ao22 t206.length co22 : Value).ownBlock ∧ some k_ ≠ (.slice Ao23 y209.length co23 : Value).ownBlock ∧ k_ ≠ gb201 ∧ k_ ≠ gb203 ∧ k_ ≠ gb205)) (by (with_reducible repeat (first | apply Kd.N_alloc | apply Kd.N_drewN | apply Kd.N_drew)); exact Kd.N_mono HO214.out (fun _ hk => ⟨⟨hk.1, ⟨hk.2.2.1, ⟨hk.2.2.2.1, ⟨hk.2.2.2.2.1, ⟨hk.2.2.2.2.2.1, hk.2.2.2.2.2.2⟩⟩⟩⟩⟩, hk.2.1⟩)) hg hat)
   replace HB := Aside0.mk (hb)
   clear HO_204002
   clear ho hb hg hat
   obtain ⟨Ao30, co30, eo30⟩ := Kd.N_slice HO217.out
   (first | subst eo30 | (injection eo30 with f1_ f2_ f3_; have f4_ := f1_.symm; have f5_ := f3_.symm; clear f1_ f2_ f3_; subst f4_; subst f5_))
   refine hK.out _ _ ⟨(blk_cell BK203.out 0).trans rfl, (blk_cell BK203.out 1).trans rfl, (blk_cell BK203.out 2).trans rfl, (blk_cell BK205.out 0).trans rfl, (blk_cell BK205.out 1).trans rfl, (blk_cell BK205.out 2).trans rfl⟩ (fun hHeld => ?_)
   clear hK K
   refine nm 37 ?_
   refine pT 12 38 (bl 14 8191) HT_ rfl rfl ?_
   refine last_ (i := 13) (N := none) (bl 14 16383) rfl rfl (one_of HT_.out (by kernel_rfl)) (by decide) (fun K hK => ?_)
   have hs31 : w28.cell? ⟨gb203, 2, none⟩ = some (u204002) := (blk_cell BK203.out 2).trans rfl
   have hfs31 := blk_frozen BK203.out 2
   have hns31_0 := NB201_203.out
   have hns31_2 := NB205_203.out
   have hms31_0 := NB203_201.out
   have hms31_2 := NB203_205.out
   refine skip_ (w1 := ?_) (by rfl) rfl ?_ ?_
   rotate_left
   ·go_simp
    rfl
   refine hK.out _ _ ?_
   clear hK K
   refine done_ (done_of HT_.out (by kernel_rfl)) ?_
   try go_wp2
   go_roundg k1
   case measure => have := HK1.out; omega
   case rel => exact ⟨(wrap64 (x13_1 + 1)), (y209), (y215), (.slice Ao23 y209.length co23), (.slice Ao30 y215.length co30), rs, H', ⟨by have := HK1.out; omega⟩, ⟨by (with_reducible repeat (first | apply Kd.R_alloc | apply Kd.R_drewN | apply Kd.R_drew)); exact Kd.R_mono (Kd.R_far (p := ⟨gb203, 2, none⟩) (Kd.R_types HO211.out BK203.out (by decide)) (fun _ hk => hk.2) (.slice Ao30 y215.length co30)) (fun _ hk => hk.1.1)⟩, ⟨by (with_reducible repeat (first | apply Kd.N_alloc | apply Kd.N_drewN | apply Kd.N_drew)); exact Kd.N_mono (Kd.N_far (p := ⟨gb203, 2, none⟩) (Kd.N_mono HO217.out (fun k_ hk => (⟨hk, hk.2.2.2.2.1⟩ : _ ∧ k_ ≠ gb203))) (fun _ hk => hk.2) (.slice Ao30 y215.length co30)) (fun _ hk => ⟨hk.1.1, ⟨hk.1.2.2.1, ⟨hk.1.2.2.2.1, hk.1.2.2.2.2.1⟩⟩⟩)⟩, ⟨kk BK201⟩, ⟨by (with_reducible repeat (first | refine kdN ?_ _ | refine kdr ?_ | refine kal ?_ _)); refine blk_put (cs := #[.int .i64 ((rd_T25 l0 0).f0), .slice Ao23 y209.length co23, u204002]) ?_ 2 _ rfl; (with_reducible repeat (first | refine kdN ?_ _ | refine kdr ?_ | refine kal ?_ _)); exact BK203.out⟩, ⟨bb HB⟩⟩
end Go.Proofs.Ytilebfkehmecaaa.Print
