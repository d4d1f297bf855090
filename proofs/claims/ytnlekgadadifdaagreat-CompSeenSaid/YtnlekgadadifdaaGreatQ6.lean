/- For two starts whose runs are Done, the runs of a program have equal events exactly if the runs of the code that comp.Compile makes have, and the code then has equal costs; programs of at most 600 nodes. -/
import Derived.Test.YtnlekgadadifdaaGreatQ5
import Derived.Test.YtnlekgadadifdaaGreatProg
set_option maxRecDepth 100000
set_option maxHeartbeats 16000000
set_option linter.unusedVariables false
set_option linter.unusedSimpArgs false
namespace Go.Proofs.YtnlekgadadifdaaGreat.Print
open Go.RowKit Go.Proofs.YtnlekgadadifdaaGreatW.PrintWords Go.Proofs.YtnlekgadadifdaaGreatW.PrintLast Go.Proofs.YtnlekgadadifdaaGreatW.PrintMore
attribute [local go_sem] zn zl zr zq zh zg zm zk 
def z1V (L : List Int) (p : Nat) (c : List Int) : Prop := ∀ i x, c[i]? = some x -> L[p + i]? = some x
theorem z1V.left {L : List Int} {p : Nat} {a b : List Int} (h : z1V L p (a ++ b)) : z1V L p a := fun i x hx => h i x (by rw [List.getElem?_append_left (by exact (List.getElem?_eq_some_iff.1 hx).1)]; exact hx)
theorem z1V.right {L : List Int} {p : Nat} {a b : List Int} (h : z1V L p (a ++ b)) : z1V L (p + a.length) b := fun i x hx => by
 rw [Nat.add_assoc]
 exact h (a.length + i) x (by rw [List.getElem?_append_right (by omega), Nat.add_sub_cancel_left]; exact hx)
theorem z1V.head {L : List Int} {p : Nat} {x : Int} {r : List Int} (h : z1V L p (x :: r)) : L[p]? = some x /\ z1V L (p + 1) r :=
 ⟨h 0 x rfl, fun i y hy => by rw [show p + 1 + i = p + (i + 1) by omega]; exact h (i + 1) y (by simpa using hy)⟩
def Far (L : List Int) (m q : Nat) : Prop := ∀ (i : Nat) x, m <= i -> L[i]? = some x -> (q : Int) <= x
theorem Far.low {L : List Int} {m k p q : Nat} {l : List Int} (h : Far L (m + k) q) (hk : l.length = k) (hs : z1V L m l) (ha : Asc p q l) (hpq : p <= q) : Far L m p := fun i x hi hx => by
 by_cases hik : i < m + k
 ·have hl : i - m < l.length := by omega
  have := hs (i - m) l[i - m] (jn hl)
  rw [show m + (i - m) = i by omega, hx] at this
  obtain rfl := sj this
  exact (ha.2 _ (List.getElem_mem hl)).1
 ·have := h i x (by omega) hx
  omega
def At (ins : List S93) (L Z : List Int) (m : Int) (p : Nat) (s : S81) : Prop :=
 Seg ins p (cS s p) /\ z1V L m.toNat ((p : Int) :: plS s p) /\ z1V Z m.toNat (zS s p) /\ Far L (m.toNat + kS s) (p + nS s)
inductive Yd (ins : List S93) (L Z : List Int) : Nat -> List ZT -> Nat -> Prop
 | stop {p : Nat} : ins[p]? = some ⟨11, 0, 0, 0, 0⟩ -> Yd ins L Z p [] 0
 | item {p : Nat} {m : Int} {s : S81} {rest : List ZT} {j : Nat} : At ins L Z m p s -> Yd ins L Z (p + nS s) rest j -> Yd ins L Z p (⟨m, s⟩ :: rest) j
 | jump {p q : Nat} {td : List ZT} {j : Nat} : ins[p]? = some ⟨5, (q : Int), 0, 0, 0⟩ -> Yd ins L Z q td j -> Yd ins L Z p td (j + 1)
section
variable {n : Nat} {l1 : List S76} {ins : List S93} {L Z : List Int}
theorem Yn : ∀ (l : List S81) (m : Int) (p : Nat) (rest : List ZT) (j : Nat), IVs n l1 m l -> Seg ins p (cSs l p) -> z1V L m.toNat (yy l p) -> z1V Z m.toNat (zSs l p) -> Far L (m.toNat + kSs l) (p + nSs l) -> Yd ins L Z (p + nSs l) rest j -> Yd ins L Z p (Zu cnS m l ++ rest) j
 | [], m, p, rest, j, _, _, _, _, _, h => by
  simpa [Zu, nSs] using h
 | x :: r, m, p, rest, j, hv, h1, h2, h3, hf, h => by
  obtain ⟨v1, v2⟩ := hv.cons
  obtain ⟨k1, n1, a1⟩ := (z1U (n : Int) l1).1 x v1.2.2.1
  obtain ⟨k2, a2⟩ := (z1U (n : Int) l1).2 r v2.2.2.1
  have hm := v1.1
  have e : (m + 1 + cnS x.f3 + cnS x.f4).toNat = m.toNat + kS x := by
   rw [k1, z0R]
   unfold cnS
   omega
  rw [cSs] at h1
  rw [yy] at h2
  rw [zSs] at h3
  simp only [nSs, kSs] at h hf
  have h1r := h1.right
  have h2r := h2.right
  have h3r := h3.right
  rw [cS_len] at h1r
  rw [jp, plS_len] at h2r
  rw [(a1 p).2.2] at h3r
  rw [<- Nat.add_assoc] at h
  rw [<- Nat.add_assoc, <- Nat.add_assoc] at hf
  have ih := Yn r (m + 1 + cnS x.f3 + cnS x.f4) (p + nS x) rest j v2 h1r (by rw [e]; exact h2r) (by rw [e]; exact h3r) (by rw [e]; exact hf) h
  rw [Zu, List.cons_append]
  refine .item ⟨h1.left, h2.left, h3.left, ?_⟩ ih
  exact hf.low (by rw [YQ]) h2r (by have := (a2 (p + nS x)).1; push_cast at this ⊢; exact this) (by omega)
theorem At.br {m : Int} {p : Nat} {op N : Int} {x : S62} {t e : List S81} (h : At ins L Z m p ⟨op, N, [x], t, e⟩) (hb : op = 1 \/ op = 2) (h2 : op = 2 -> e = []) (hv : IV n l1 m ⟨op, N, [x], t, e⟩) {rest : List ZT} {j : Nat} (hc : Yd ins L Z (p + nS ⟨op, N, [x], t, e⟩) rest j) :
  Seg ins p (cE x 0) /\ Z[m.toNat]? = some ((p + nE x : Nat) : Int) /\ ∃ q : Nat, ins[p + nE x]? = some ⟨6, 0, q, 0, 0⟩ /\
   (op = 1 -> Yd ins L Z q (Zu cnS (m + 1 + cnS t) e ++ rest) j /\ ∃ j', j' <= j + 1 /\ Yd ins L Z (p + nE x + 1) (Zu cnS (m + 1) t ++ rest) j') /\
   (op = 2 -> Yd ins L Z q rest j /\ Yd ins L Z (p + nE x + 1) ((Zu cnS (m + 1) t ++ [⟨m, ⟨op, N, [x], t, e⟩⟩]) ++ rest) (j + 1)) := by
 have hAt := h
 obtain ⟨g1, g2, g3, g4⟩ := h
 obtain ⟨vt, ve⟩ := hv.then_
 dsimp only at vt ve
 obtain ⟨kt, at_⟩ := (z1U (n : Int) l1).2 t vt.2.2.1
 obtain ⟨ke, ae⟩ := (z1U (n : Int) l1).2 e ve.2.2.1
 have hm := hv.1
 simp only [cS, jb hb, hdE, List.headD_cons] at g1
 simp only [plS, jb hb, hdE, List.headD_cons] at g2
 simp only [zS, jb hb, hdE, List.headD_cons] at g3
 have hks : kS ⟨op, N, [x], t, e⟩ = kSs t + kSs e + 1 := by simp only [kS, jb hb]
 have hns : nS ⟨op, N, [x], t, e⟩ = nE x + 1 + nSs t + (if e.length = 0 then (if op = 2 then 1 else 0) else 1 + nSs e) := by simp only [nS, jb hb, hdE, List.headD_cons]
 have hm1 : (m + 1).toNat = m.toNat + 1 := by omega
 have hm2 : (m + 1 + cnS t).toNat = m.toNat + 1 + kSs t := by rw [kt]; unfold cnS; omega
 have p2 := g2.head.2
 have z2 := g3.head.2
 have pt := p2.left
 have pe := p2.right
 have zt := z2.left
 have ze := z2.right
 rw [YQ] at pe
 rw [(at_ _).2.2] at ze
 by_cases h0 : e.length = 0
 ·obtain rfl := List.eq_nil_of_length_eq_zero h0
  rw [jb h0] at hns
  rw [show decide (0 < ([] : List S81).length) = false from rfl] at g1
  unfold brC at g1
  rw [ja (by simp)] at g1
  rw [hks, hns] at g4
  simp only [kSs, Nat.add_zero] at g4
  have c1 := g1.left.left
  have c2 := g1.left.right.head
  have c3 := g1.right
  rw [YX] at c2
  rw [je, jp, YX, ZZ] at c3
  rw [ZZ] at c2
  rw [hns] at hc
  refine ⟨c1, g3.head.1, _, c2.1, fun o => ?_, fun o => ?_⟩
  ·rw [ja (by omega)] at hc g4 ⊢
   refine ⟨?_, j, by omega, ?_⟩
   ·simpa [Zu, Nat.add_assoc] using hc
   ·refine Yn t (m + 1) (p + nE x + 1) rest j vt c2.2 (by rw [hm1]; exact pt) (by rw [hm1]; exact zt) ?_ ?_
    ·rw [hm1]
     intro i y hi hy
     have := g4 i y (by omega) hy
     omega
    ·simpa [Nat.add_assoc] using hc
  ·rw [jb o] at hc g4 c3 ⊢
   have c4 := c3.head.1
   refine ⟨?_, ?_⟩
   ·simpa [Nat.add_assoc] using hc
   ·rw [ju]
    refine Yn t (m + 1) (p + nE x + 1) _ (j + 1) vt c2.2 (by rw [hm1]; exact pt) (by rw [hm1]; exact zt) ?_ ?_
    ·rw [hm1]
     intro i y hi hy
     have := g4 i y (by omega) hy
     omega
    ·refine .jump (q := p) (by rw [<- c4]; congr 1; omega) ?_
     exact .item hAt (by rw [hns, jb o]; exact hc)
 ·have ho : op = 1 := by
   rcases hb with h | h
   ·exact h
   ·exact jm (congrArg List.length (h2 h)) h0
  rw [ja h0] at hns
  rw [decide_eq_true (by omega : 0 < e.length)] at g1
  unfold brC at g1
  rw [jb rfl] at g1
  rw [hks, hns] at g4
  have c1 := g1.left.left
  have c2 := g1.left.right.head
  have c3 := g1.right.head
  rw [YX] at c2
  rw [je, jp, YX, ZZ] at c3
  rw [ZZ] at c2
  rw [ZZ] at c3
  rw [hns] at hc
  have fe : Far L (m.toNat + 1 + kSs t) (p + nE x + 1 + nSs t + 1) := by
   refine Far.low (k := kSs e) (q := p + nE x + 1 + nSs t + 1 + nSs e) ?_ (YQ _ _) pe (by have := (ae (p + nE x + 1 + nSs t + 1)).1; push_cast at this ⊢; exact this) (by omega)
   intro i y hi hy
   have := g4 i y (by omega) hy
   omega
  refine ⟨c1, g3.head.1, _, c2.1, fun o => ⟨?_, j + 1, by omega, ?_⟩, fun o => by omega⟩
  ·refine Yn e _ _ rest j ve ?_ ?_ ?_ ?_ ?_
   ·have := c3.2
    rw [show p + (nE x + (nSs t + 1)) + 1 = p + nE x + 1 + nSs t + 1 by omega] at this
    exact this
   ·rw [hm2]; exact pe
   ·rw [hm2]; exact ze
   ·rw [hm2]
    intro i y hi hy
    have := g4 i y (by omega) hy
    omega
   ·rw [show p + nE x + 1 + nSs t + 1 + nSs e = p + (nE x + 1 + nSs t + (1 + nSs e)) by omega]
    exact hc
  ·refine Yn t (m + 1) (p + nE x + 1) rest (j + 1) vt c2.2 (by rw [hm1]; exact pt) (by rw [hm1]; exact zt) ?_ ?_
   ·rw [hm1]
    intro i y hi hy
    have := fe i y (by omega) hy
    omega
   ·refine .jump (q := p + nE x + 1 + nSs t + 1 + nSs e) ?_ ?_
    ·have := c3.1
     rw [show p + (nE x + (nSs t + 1)) = p + nE x + 1 + nSs t by omega] at this
     exact this
    ·rw [show p + nE x + 1 + nSs t + 1 + nSs e = p + (nE x + 1 + nSs t + (1 + nSs e)) by omega]
     exact hc
end
def z4k (Z : List Int) (e : Z4) : Z4 := if e.f0 = 0 then ⟨0, rg Z e.f1, 1 - e.f2⟩ else e
def z3o (Z : List Int) (es : List Z4) : Prop := ∀ e ∈ es, e.f0 = 0 -> 0 <= e.f1 /\ e.f1.toNat < Z.length
theorem z3o.app {Z : List Int} {a b : List Z4} (h1 : z3o Z a) (h2 : z3o Z b) : z3o Z (a ++ b) := fun e he => by
 rcases List.mem_append.1 he with h | h
 ·exact h1 e h
 ·exact h2 e h
theorem z3o.nb {Z : List Int} {b : List Z4} (h : NB b) : z3o Z b := fun e he h0 => jm h0 (h e he)
structure z1X (n : Nat) (Z : List Int) (c : MC) (v : VC) : Prop where
 st : v.st = c.st
 ou : v.ou = c.ou
 us : v.us = c.us
 tr : v.tr = c.tr.map (z4k Z) /\ z3o Z c.tr
 ov : v.ov = false
 ovc : c.ov = false
 ed : v.ed = 0
 edc : c.ed = 0
 rl : v.re.length = 64
 rw_ : ∀ a ∈ v.re, WW n a
 pc : 0 <= v.pc
def Rel (n : Nat) (ins : List S93) (L Z : List Int) (c : MC) (v : VC) (j : Nat) : Prop := z1X n Z c v /\ Yd ins L Z v.pc.toNat c.td j /\ v.co + j <= 2 * c.co
structure Fin (L Z : List Int) (c : MC) (v : VC) : Prop where
 st : v.st = c.st
 ou : v.ou = c.ou
 us : v.us = c.us
 tr : v.tr = c.tr.map (z4k Z) /\ z3o Z c.tr
 ov : v.ov = true
 ed : v.ed = c.ed
 co : v.co <= 2 * c.co + 1
 at_ : c.ed ≠ 0 -> 0 <= c.wh /\ ∃ p q : Nat, L[c.wh.toNat]? = some (p : Int) /\ (p : Int) <= v.wh /\ v.wh < q /\ Far L (c.wh.toNat + 1) q
theorem tmap_nb {Z : List Int} {es : List Z4} (h : NB es) : es.map (z4k Z) = es := by
 induction es with
 | nil => rfl
 | cons e r ih =>
  rw [List.map_cons, ih (fun x hx => h x (List.mem_cons_of_mem _ hx))]
  unfold z4k
  rw [ja (h e (List.mem_cons_self ..))]
theorem NB_flat {l : List S62} {f : S62 -> List Z4} (h : ∀ x ∈ l, NB (f x)) : NB (l.flatMap f) := fun e he => by
 obtain ⟨x, hx, hm⟩ := List.mem_flatMap.1 he
 exact h x hx e hm
theorem z7j : (∀ x : S62, nE x = eN x) /\ (∀ l : List S62, nAs l = eNs l) := by
 refine z15 (fun a b c l ih => ?_) ?_ (fun x r h1 h2 => ?_)
 ·rw [nE, ih]
  simp only [eN]
  omega
 ·simp only [nAs, eNs]
 ·simp only [nAs, eNs, h1, h2]
theorem z7y {l : List S62} {d : Nat} (h : ∀ x ∈ l, eD x <= d) : eDs l <= d := by
 induction l with
 | nil => simp [eDs]
 | cons x r ih =>
  simp only [eDs]
  have := h x (List.mem_cons_self ..)
  have := ih (fun y hy => h y (List.mem_cons_of_mem _ hy))
  omega
def hop (v : VC) (p N : Nat) (tl : List Int) : VC := { v with pc := p, fu := v.fu - N, co := v.co + N, tl := tl }
section
variable {n : Nat} {l1 : List S76} {pk : List Int} {ins : List S93} {L Z : List Int}
theorem Yd.run {wd : Int} {p : Nat} {td : List ZT} {j : Nat} (h : Yd ins L Z p td j) : ∀ v : VC, v.pc = p -> v.ov = false -> ∃ (N q j' : Nat) (tl : List Int), yT wd l1 pk ins N v (hop v q N tl) /\ N + j' = j /\ ((td = [] /\ j' = 0 /\ ins[q]? = some ⟨11, 0, 0, 0, 0⟩) \/ ∃ m s rest, td = ⟨m, s⟩ :: rest /\ At ins L Z m q s /\ Yd ins L Z (q + nS s) rest j') := by
 have h0 : ∀ v : VC, ∀ p : Nat, v.pc = p -> hop v p 0 v.tl = v := fun v p hp => by
  unfold hop
  rw [<- hp]
  simp
 induction h with
 | @stop p hi => exact fun v hp _ => ⟨0, p, 0, v.tl, by rw [h0 v p hp]; exact .refl _, rfl, .inl ⟨rfl, rfl, hi⟩⟩
 | @item p m s rest j ha hc _ => exact fun v hp _ => ⟨0, p, j, v.tl, by rw [h0 v p hp]; exact .refl _, by omega, .inr ⟨m, s, rest, rfl, ha, hc⟩⟩
 | @jump p q td j hi _ ih =>
  intro v hp ho
  have h1 := z70 (wd := wd) (l1 := l1) (pk := pk) (c := v) (q := (q : Int)) ho (by omega) (by rw [hp, jh]; exact hi)
  obtain ⟨N, q', j', tl, a1, a2, a3⟩ := ih { zV v with pc := (q : Int) } rfl ho
  refine ⟨N + 1, q', j', tl, ?_, by omega, a3⟩
  have e : hop { zV v with pc := (q : Int) } q' N tl = hop v q' (N + 1) tl := by
   unfold hop zV
   simp only [VC.mk.injEq, true_and, and_true]
   refine ⟨?_, ?_⟩ <;> (push_cast; omega)
  rw [<- e]
  exact .step h1 a1
theorem z1X.hop {c : MC} {v : VC} (h : z1X n Z c v) (p N : Nat) (tl : List Int) : z1X n Z c (hop v p N tl) := ⟨h.st, h.ou, h.us, h.tr, h.ov, h.ovc, h.ed, h.edc, h.rl, h.rw_, by show (0 : Int) <= p; omega⟩
theorem Rel.done {c : MC} {v : VC} {j : Nat} (h : Rel n ins L Z c v j) (ht : c.td = []) : ∃ N v', yT (n : Int) l1 pk ins N v v' /\ Fin L Z c v' := by
 obtain ⟨hc, hk, hco⟩ := h
 rw [ht] at hk
 obtain ⟨N, q, j', tl, h1, h2, h3⟩ := hk.run (wd := (n : Int)) (l1 := l1) (pk := pk) v (by have := hc.pc; omega) hc.ov
 rcases h3 with ⟨_, _, hi⟩ | ⟨m, s, rest, e, _⟩
 ·have h4 := z6W (wd := (n : Int)) (l1 := l1) (pk := pk) (c := hop v q N tl) hc.ov (by show (0 : Int) <= q; omega) (by show ins[((q : Int)).toNat]? = _; rw [jh]; exact hi)
  refine ⟨_, _, h1.trans (.one h4), hc.st, hc.ou, hc.us, hc.tr, rfl, hc.edc.symm, ?_, fun h => jm hc.edc h⟩
  show v.co + N + 1 <= 2 * c.co + 1
  omega
 ·exact jm e (by simp)
theorem z2v (hh : z0s n l1) {c : MC} {v : VC} {j r : Nat} {N i a : Int} (hc : z1X n Z c v) (hs : z2u n l1 c.st) (hr : r < 64) (N0 : 0 <= N) (N1 : N < (l1.length : Int)) (ha : rg v.re r = a) (i0 : 0 <= i) (h1 : 1 < (zp l1 N).f2 -> rg v.re 0 = i) (h2 : ¬ 1 < (zp l1 N).f2 -> i = 0)
  (hi : ins[v.pc.toNat]? = some ⟨4, N, 0, r, 0⟩) (hk : Yd ins L Z (v.pc.toNat + 1) c.td j) (hco : v.co + 1 + j <= 2 * c.co) (arr : Bool) (harr : arr = decide (1 < (zp l1 N).f2)) :
  ∃ v', stp (n : Int) l1 pk ins v v' /\ Rel n ins L Z (z0m l1 N i a (atP l1 N i) arr c) v' j := by
 obtain ⟨B, rfl⟩ : ∃ B : Nat, N = B := ⟨N.toNat, by omega⟩
 obtain ⟨pe, p0, p1, c1, _⟩ := z7N hh N0 N1 i0
 have hF := z0d l1 (B : Int) (by omega) (by omega) hh.2.2.2 hh.2.2.1
 have hst := hs.1
 have hpc := hc.pc
 have hidx : yt l1 v.re B 0 = i % (zp l1 (B : Int)).f2 := by
  unfold yt
  by_cases h : 1 < (zp l1 (B : Int)).f2
  ·rw [ja (by omega), h1 h, z4l i0]
  ·rw [jb (by omega), h2 h, Int.zero_emod]
 have hp := z6i (wd := (n : Int)) (pk := pk) (c := v) (r := r) (N := B) hc.ov hpc hc.rl hr (by omega) hF (by rw [hidx]; omega) (by rw [hidx, hc.st]; omega) hi
 refine ⟨_, hp, ?_⟩
 have hidx' : yt l1 (zV v).re B 0 = Int.tmod i (zp l1 (B : Int)).f2 := by rw [z4l i0]; exact hidx
 have hset : (cs (l1.take (B : Int).toNat) + yt l1 (zV v).re B 0).toNat = (atP l1 B i).toNat := by
  rw [pe]
  show (cs (l1.take (B : Int).toNat) + yt l1 v.re B 0).toNat = _
  rw [hidx]
 have e1 : (v.pc + 1).toNat = v.pc.toNat + 1 := by omega
 by_cases h : 1 < (zp l1 (B : Int)).f2
 ·have e : Yz l1 (cs (l1.take (B : Int).toNat)) B 0 r (zV v) = ({ zV v with st := v.st.set (atP l1 B i).toNat a, tr := v.tr ++ [⟨2, B, Int.tmod i (zp l1 (B : Int)).f2⟩], pc := v.pc + 1 } : VC) := by
   unfold Yz vEv
   rw [jb h, hset, hidx']
   show _ = ({ zV v with st := v.st.set (atP l1 B i).toNat a, tr := v.tr ++ [⟨2, B, Int.tmod i (zp l1 (B : Int)).f2⟩], pc := v.pc + 1 } : VC)
   rw [show rg (zV v).re r = a from ha]
   rfl
  rw [e, harr, decide_eq_true h]
  unfold z0m mEv
  rw [jb rfl]
  refine ⟨⟨?_, hc.ou, hc.us, ?_, hc.ov, hc.ovc, hc.ed, hc.edc, hc.rl, hc.rw_, by show 0 <= v.pc + 1; omega⟩, ?_, hco⟩
  ·show v.st.set _ a = c.st.set _ a
   rw [hc.st]
  ·refine ⟨?_, hc.tr.2.app (fun e he h0 => ?_)⟩
   ·show v.tr ++ _ = List.map _ (c.tr ++ _)
    rw [List.map_append, <- hc.tr.1]
    rfl
   ·rw [List.mem_singleton.1 he] at h0
    exact jm h0 (show ¬ ((2 : Int) = 0) by decide)
  ·show Yd ins L Z (v.pc + 1).toNat c.td j
   rw [e1]
   exact hk
 ·have e : Yz l1 (cs (l1.take (B : Int).toNat)) B 0 r (zV v) = ({ zV v with st := v.st.set (atP l1 B i).toNat a, pc := v.pc + 1 } : VC) := by
   unfold Yz vEv
   rw [ja h, hset]
   show ({ zV v with st := v.st.set (atP l1 B i).toNat (rg (zV v).re r), pc := v.pc + 1 } : VC) = _
   rw [show rg (zV v).re r = a from ha]
  rw [e, harr, decide_eq_false h]
  unfold z0m
  rw [ja (by simp)]
  refine ⟨⟨?_, hc.ou, hc.us, hc.tr, hc.ov, hc.ovc, hc.ed, hc.edc, hc.rl, hc.rw_, by show 0 <= v.pc + 1; omega⟩, ?_, hco⟩
  ·show v.st.set _ a = c.st.set _ a
   rw [hc.st]
  ·show Yd ins L Z (v.pc + 1).toNat c.td j
   rw [e1]
   exact hk
end
section
variable {n : Nat} {l1 : List S76} {pk : List Int} {ins : List S93} {L Z : List Int}
theorem z4T (hh : z0s n l1) {c : MC} {v : VC} (hs : z2u n l1 c.st) (hc : z1X n Z c v) {a : List S62} (ha : ∀ y ∈ a, eOK (n : Int) l1 1 y = true /\ eN y <= 400 /\ eD y <= 16 /\ Yg y) (hl : a.length <= 2) (hseg : Seg ins v.pc.toNat (cAs a 0)) (rest : List ZT) :
  ∃ re tl, yT (n : Int) l1 pk ins (nAs a) v (adv v (nAs a) re (a.flatMap (evX n l1 pk ins c.st)) tl) /\ z1X n Z (Y9 ndX (evX n l1 pk ins c.st) c a rest) (adv v (nAs a) re (a.flatMap (evX n l1 pk ins c.st)) tl) /\ (∀ (i : Nat) y, a[i]? = some y -> rg re (i : Int) = vaX n l1 pk ins c.st y) /\ (Y9 ndX (evX n l1 pk ins c.st) c a rest).co = c.co + 1 + nAs a := by
 have h1 : ∀ y ∈ a, eOK (n : Int) l1 1 y = true /\ eN y <= 1000 := fun y hy => ⟨(ha y hy).1, by have := (ha y hy).2.1; omega⟩
 have hD : eDs a <= 16 := z7y (fun y hy => (ha y hy).2.2.1)
 obtain ⟨re, tl, a1, a2, a3, _, a5⟩ := z4f (pk := pk) (ins := ins) hh hs a h1 0 v hc.st hc.rl hc.rw_ hc.ov hc.pc (by omega) hseg
 have hnb : NB (a.flatMap (evX n l1 pk ins c.st)) := NB_flat (fun y hy => (z0u (pk := pk) (ins := ins) hh hs (h1 y hy).1 (h1 y hy).2).2.2.2.2.1)
 refine ⟨re, tl, a5, ⟨hc.st, hc.ou, hc.us, ?_, hc.ov, hc.ovc, hc.ed, hc.edc, a1, a2, ?_⟩, fun i y hy => ?_, ?_⟩
 ·refine ⟨?_, hc.tr.2.app (.nb hnb)⟩
  show v.tr ++ _ = List.map _ (c.tr ++ _)
  rw [List.map_append, tmap_nb hnb, hc.tr.1]
 ·show 0 <= v.pc + (nAs a : Int)
  have := hc.pc
  omega
 ·have := a3 i (vaX n l1 pk ins c.st y) (by rw [List.getElem?_map, hy]; rfl)
  rw [Nat.zero_add] at this
  exact this
 ·show c.co + 1 + (a.map ndX).sum = _
  rw [(z36 (pk := pk) (ins := ins) hh hs a h1).2, z7j.2]
theorem z1X.tick {c : MC} {v : VC} (h : z1X n Z c v) {p : Int} (hp : 0 <= p) : z1X n Z c { zV v with pc := p } := ⟨h.st, h.ou, h.us, h.tr, h.ov, h.ovc, h.ed, h.edc, h.rl, h.rw_, hp⟩
def yQ (n : Nat) (l1 : List S76) (pk : List Int) (ins : List S93) (L Z : List Int) (v : VC) (c' : MC) : Prop :=
 (c'.ov = false /\ ∃ N v' j', yT (n : Int) l1 pk ins N v v' /\ Rel n ins L Z c' v' j') \/ (c'.ov = true /\ ∃ N v', yT (n : Int) l1 pk ins N v v' /\ Fin L Z c' v')
theorem yQ.rel {v v1 v' : VC} {c' : MC} {N j : Nat} (h : yT (n : Int) l1 pk ins N v v1) (hs : stp (n : Int) l1 pk ins v1 v') (hr : Rel n ins L Z c' v' j) : yQ n l1 pk ins L Z v c' :=
 .inl ⟨hr.1.ovc, _, v', j, h.trans (.one hs), hr⟩
theorem z7v {m : Int} {p : Nat} {s : S81} (h : At ins L Z m p s) (hk : kS s = 1) : L[m.toNat]? = some (p : Int) /\ Far L (m.toNat + 1) (p + nS s) := by
 obtain ⟨_, h2, _, h4⟩ := h
 rw [hk] at h4
 exact ⟨h2.head.1, h4⟩
theorem z2L {c : MC} {v v0 : VC} {N : Nat} {x m : Int} {p q : Nat} (h0 : yT (n : Int) l1 pk ins N v0 v) (hc : z1X n Z c v) (hs : stp (n : Int) l1 pk ins v (Yf x (zV v))) (hx : x ≠ 0) (hm : 0 <= m) (hL : L[m.toNat]? = some (p : Int)) (hp : (p : Int) <= v.pc) (hq : v.pc < q) (hF : Far L (m.toNat + 1) q) (hco : v.co + 1 <= 2 * c.co + 1) : yQ n l1 pk ins L Z v0 (YR x m c) := by
 refine .inr ⟨rfl, _, _, h0.trans (.one hs), hc.st, hc.ou, hc.us, hc.tr, rfl, rfl, hco, fun _ => ⟨hm, p, q, hL, ?_, ?_, hF⟩⟩
 ·show (p : Int) <= if x = 0 then _ else v.pc
  rw [ja hx]
  exact hp
 ·show (if x = 0 then _ else v.pc) < (q : Int)
  rw [ja hx]
  exact hq
theorem z72 {p : Nat} {op N : Int} {a : List S62} {t e : List S81} {m : Int} (h : At ins L Z m p ⟨op, N, a, t, e⟩) (hb : ¬ (op = 1 \/ op = 2)) : Seg ins p (cAs a 0) /\ Seg ins (p + nAs a) (cT op N a.length) /\ nS ⟨op, N, a, t, e⟩ = nAs a + (cT op N a.length).length /\ kS ⟨op, N, a, t, e⟩ = 1 := by
 have g := h.1
 simp only [cS, ja hb] at g
 have g2 := g.right
 rw [z0e] at g2
 exact ⟨g.left, g2, by simp only [nS, ja hb], by simp only [kS, ja hb]⟩
theorem act_sim (hh : z0s n l1) (hpk : ∀ a ∈ pk, WW n a) {c : MC} {v : VC} {m op N : Int} {a : List S62} {t e : List S81} {rest : List ZT} {j p : Nat} (hs : z2u n l1 c.st) (hu : 0 <= c.us) (hx : IV n l1 m ⟨op, N, a, t, e⟩) (hc : z1X n Z c v) (hp : v.pc = p) (hA : At ins L Z m p ⟨op, N, a, t, e⟩) (hk : Yd ins L Z (p + nS ⟨op, N, a, t, e⟩) rest j) (hco : v.co + j <= 2 * c.co) :
  yQ n l1 pk ins L Z v (yL cnS l1 pk (Y9 ndX (evX n l1 pk ins c.st) c a rest) m op N t e ⟨m, ⟨op, N, a, t, e⟩⟩ (a.map (vaX n l1 pk ins c.st)) rest) := by
 obtain ⟨ha, _, hl, hop, hn1, hn2⟩ := z0r hx
 have hm := hx.1
 have hpn : v.pc.toNat = p := by omega
 by_cases hb : op = 1 \/ op = 2
 ·have hla : a.length = 1 := by
   rcases hop with ⟨b, _⟩ | ⟨_, b⟩ | ⟨b, _⟩ | ⟨b, _⟩ | ⟨b, _⟩
   all_goals omega
  obtain ⟨x, rfl⟩ := List.length_eq_one_iff.1 hla
  obtain ⟨s1, z1, q, i1, b1, b2⟩ := hA.br hb hn2 hx hk
  obtain ⟨re, tl, st1, co1, rg1, ec⟩ := z4T (pk := pk) hh hs hc ha hl (by rw [hpn]; simp only [cAs, List.append_nil]; exact s1) rest
  have hnx : nAs [x] = nE x := by simp [nAs]
  have hwp : (adv v (nAs [x]) re ([x].flatMap (evX n l1 pk ins c.st)) tl).pc = ((p + nE x : Nat) : Int) := by show v.pc + (nAs [x] : Int) = _; rw [hnx]; omega
  have hwc : (adv v (nAs [x]) re ([x].flatMap (evX n l1 pk ins c.st)) tl).co = v.co + nAs [x] := rfl
  have hr0 : rg re 0 = vaX n l1 pk ins c.st x := rg1 0 x rfl
  have hre : (adv v (nAs [x]) re ([x].flatMap (evX n l1 pk ins c.st)) tl).re = re := rfl
  have etd : (Y9 ndX (evX n l1 pk ins c.st) c [x] rest).td = rest := rfl
  generalize (adv v (nAs [x]) re ([x].flatMap (evX n l1 pk ins c.st)) tl) = w at st1 co1 hwp hwc hre
  generalize Y9 ndX (evX n l1 pk ins c.st) c [x] rest = c1 at co1 ec etd ⊢
  have hz := z6V (wd := (n : Int)) (l1 := l1) (pk := pk) co1.ov co1.pc co1.rl (by rw [hwp, jh]; exact i1)
  rw [hre, hr0] at hz
  have hZ : rg Z m = ((p + nE x : Nat) : Int) := by
   unfold rg
   rw [jw, z1]
   rfl
  have hrd : rd ([x].map (vaX n l1 pk ins c.st)) 0 = vaX n l1 pk ins c.st x := rfl
  generalize [x].map (vaX n l1 pk ins c.st) = vs at hrd
  generalize vaX n l1 pk ins c.st x = u at hz hr0 hrd
  have ctr : ∀ {b : Int} {td : List ZT} {pc : Int}, b = 1 - (if u = 0 then 1 else 0) -> 0 <= pc -> z1X n Z { mEv 0 m b c1 with td := td } { zV w with tr := w.tr ++ [⟨0, w.pc, if u = 0 then 1 else 0⟩], pc := pc } := fun {b td pc} hb hp => ⟨co1.st, co1.ou, co1.us, ⟨by
    show w.tr ++ _ = List.map _ (c1.tr ++ _)
    rw [List.map_append, <- co1.tr.1, hwp]
    unfold z4k
    simp only [List.map_cons, List.map_nil, if_true, hZ]
    rw [show (if u = 0 then (1 : Int) else 0) = 1 - b by rw [hb]; split <;> rfl], co1.tr.2.app (fun e he _ => by
    rw [List.mem_singleton.1 he]
    exact ⟨hm, (List.getElem?_eq_some_iff.1 z1).1⟩)⟩, co1.ov, co1.ovc, co1.ed, co1.edc, co1.rl, co1.rw_, hp⟩
  rcases hb with o | o
  ·obtain ⟨k1, j', hj, k2⟩ := b1 o
   subst o
   unfold yL
   rw [ja (by decide), jb rfl, hrd]
   by_cases hu0 : u = 0
   ·rw [jb hu0, jb hu0]
    rw [jb hu0, jb hu0] at hz
    refine yQ.rel (j := j) st1 hz ⟨?_, ?_, ?_⟩
    ·have := ctr (b := 0) (td := Zu cnS (m + 1 + cnS t) e ++ rest) (pc := (q : Int)) (by rw [jb hu0]; rfl) (by omega)
     rwa [jb hu0] at this
    ·show Yd ins L Z ((q : Int)).toNat _ j
     rw [jh]
     exact k1
    ·show w.co + 1 + j <= 2 * c1.co
     omega
   ·rw [ja hu0, ja hu0]
    rw [ja hu0, ja hu0] at hz
    refine yQ.rel (j := j') st1 hz ⟨?_, ?_, ?_⟩
    ·have := ctr (b := 1) (td := Zu cnS (m + 1) t ++ rest) (pc := w.pc + 1) (by rw [ja hu0]; rfl) (by omega)
     rwa [ja hu0] at this
    ·show Yd ins L Z (w.pc + 1).toNat _ j'
     rw [hwp, show (((p + nE x : Nat) : Int) + 1).toNat = p + nE x + 1 by omega]
     exact k2
    ·show w.co + 1 + j' <= 2 * c1.co
     omega
  ·obtain ⟨k1, k2⟩ := b2 o
   subst o
   unfold yL
   rw [ja (by decide), ja (by decide), jb rfl, hrd]
   by_cases hu0 : u = 0
   ·rw [jb hu0]
    rw [jb hu0, jb hu0] at hz
    refine yQ.rel (j := j) st1 hz ⟨?_, ?_, ?_⟩
    ·have := ctr (b := 0) (td := c1.td) (pc := (q : Int)) (by rw [jb hu0]; rfl) (by omega)
     rwa [jb hu0] at this
    ·show Yd ins L Z ((q : Int)).toNat c1.td j
     rw [jh, etd]
     exact k1
    ·show w.co + 1 + j <= 2 * c1.co
     omega
   ·rw [ja hu0]
    rw [ja hu0, ja hu0] at hz
    refine yQ.rel (j := j + 1) st1 hz ⟨?_, ?_, ?_⟩
    ·have := ctr (b := 1) (td := (Zu cnS (m + 1) t ++ [⟨m, ⟨2, N, [x], t, e⟩⟩]) ++ rest) (pc := w.pc + 1) (by rw [ja hu0]; rfl) (by omega)
     rwa [ja hu0] at this
    ·show Yd ins L Z (w.pc + 1).toNat _ (j + 1)
     rw [hwp, show (((p + nE x : Nat) : Int) + 1).toNat = p + nE x + 1 by omega]
     exact k2
    ·show w.co + 1 + ((j + 1 : Nat) : Int) <= 2 * c1.co
     push_cast
     omega
 ·obtain ⟨s1, s2, hns, hks⟩ := z72 hA hb
  obtain ⟨re, tl, st1, co1, rg1, ec⟩ := z4T (pk := pk) hh hs hc ha hl (by rw [hpn]; exact s1) rest
  obtain ⟨hL, hF⟩ := z7v hA hks
  have hwp : (adv v (nAs a) re (a.flatMap (evX n l1 pk ins c.st)) tl).pc = ((p + nAs a : Nat) : Int) := by show v.pc + (nAs a : Int) = _; omega
  have hwc : (adv v (nAs a) re (a.flatMap (evX n l1 pk ins c.st)) tl).co = v.co + nAs a := rfl
  have hre : (adv v (nAs a) re (a.flatMap (evX n l1 pk ins c.st)) tl).re = re := rfl
  have etd : (Y9 ndX (evX n l1 pk ins c.st) c a rest).td = rest := rfl
  have est : (Y9 ndX (evX n l1 pk ins c.st) c a rest).st = c.st := rfl
  have eus : (Y9 ndX (evX n l1 pk ins c.st) c a rest).us = c.us := rfl
  have hw : ∀ y ∈ a, WW n (vaX n l1 pk ins c.st y) := fun y hy => (z0u (pk := pk) (ins := ins) hh hs (ha y hy).1 (by have := (ha y hy).2.1; omega)).1
  generalize (adv v (nAs a) re (a.flatMap (evX n l1 pk ins c.st)) tl) = w at st1 co1 hwp hwc hre
  generalize Y9 ndX (evX n l1 pk ins c.st) c a rest = c1 at co1 ec etd est eus ⊢
  rw [<- est] at hs
  rw [<- hre] at rg1
  rw [hns] at hk hF
  generalize vaX n l1 pk ins c.st = f at rg1 hw ⊢
  rcases hop with ⟨rfl, b0, b1, b2⟩ | ⟨b, _⟩ | ⟨rfl, hla, b0, b1⟩ | ⟨rfl, b0, b1, b2⟩ | ⟨b, hla⟩
  ·unfold cT at hk s2
   rw [jb rfl] at hk s2
   unfold yL
   rw [jb rfl]
   by_cases hf : (zp l1 N).f2 > 1
   ·rw [jb hf] at b2
    obtain ⟨x, y, rfl⟩ := len2 (l := a) (by omega)
    obtain ⟨v', h1, h2⟩ := z2v (pk := pk) (a := f y) (i := f x) (r := 1) hh co1 hs (by omega) b0 b1 (rg1 1 y rfl) (hw x (by simp)).1 (fun _ => rg1 0 x rfl) (fun h => jm hf h) (by rw [hwp, jh]; exact s2.head.1) (by rw [hwp, jh, etd]; exact hk) (by omega) true (dT hf).symm
    exact yQ.rel st1 h1 h2
   ·rw [ja hf] at b2
    obtain ⟨x, rfl⟩ := len1 (l := a) (by omega)
    obtain ⟨v', h1, h2⟩ := z2v (pk := pk) (a := f x) (i := 0) (r := 0) hh co1 hs (by omega) b0 b1 (rg1 0 x rfl) (jq _) (fun h => jm h hf) (fun _ => rfl) (by rw [hwp, jh]; exact s2.head.1) (by rw [hwp, jh, etd]; exact hk) (by omega) false (dF hf).symm
    exact yQ.rel st1 h1 h2
  ·exact jm b hb
  ·obtain ⟨x, rfl⟩ := List.length_eq_one_iff.1 hla
   unfold cT at hk s2
   rw [ja (by decide), jb rfl] at hk s2
   unfold yL
   rw [ja (by decide), ja (by decide), ja (by decide), jb rfl]
   have h1 := stp_out (wd := (n : Int)) (l1 := l1) (pk := pk) (lv := N) co1.ov co1.pc co1.rl (by rw [hwp, jh]; exact s2.head.1)
   have h0 : rg w.re 0 = f x := rg1 0 x rfl
   rw [h0] at h1
   refine yQ.rel (j := j) st1 h1 ⟨⟨co1.st, ?_, co1.us, co1.tr, co1.ov, co1.ovc, co1.ed, co1.edc, co1.rl, co1.rw_, ?_⟩, ?_, ?_⟩
   ·show w.ou ++ _ = c1.ou ++ _
    rw [co1.ou]
    rfl
   ·show 0 <= w.pc + 1
    omega
   ·show Yd ins L Z (w.pc + 1).toNat c1.td j
    rw [hwp, show (((p + nAs [x] : Nat) : Int) + 1).toNat = p + nAs [x] + 1 by omega, etd]
    exact hk
   ·show w.co + 1 + j <= 2 * c1.co
    omega
  ·unfold cT at hk s2 hF
   rw [ja (by decide), ja (by decide), jb rfl] at hk s2 hF
   unfold yL
   rw [ja (by decide), ja (by decide), ja (by decide), ja (by decide), jb rfl]
   have hla : a.length <= 1 := by
    split at b2 <;> omega
   have hpick := z6X (wd := (n : Int)) (l1 := l1) (pk := pk) (r := a.length) co1.ov co1.pc co1.rl (by omega) (by rw [hwp, jh]; exact s2.head.1)
   rw [co1.us] at hpick
   by_cases hus : (pk.length : Int) <= c1.us
   ·rw [jb hus]
    rw [jb hus] at hpick
    have hF' : Far L (m.toNat + 1) (p + (nAs a + 2)) := hF
    exact z2L st1 co1 hpick (by decide) hm hL (by omega) (q := p + (nAs a + 2)) (by omega) hF' (by omega)
   ·rw [ja hus]
    rw [ja hus] at hpick
    have hpw : WW n (rg pk c1.us) := by
     obtain ⟨hl', e⟩ := z3R pk c1.us (by omega) (by omega)
     rw [show rg pk c1.us = rd pk c1.us from rfl, e]
     exact hpk _ (List.getElem_mem _)
    have co2 : z1X n Z { c1 with us := c1.us + 1 } (ZN a.length (rg pk c1.us) { zV w with us := c1.us + 1 }) := ⟨co1.st, co1.ou, rfl, co1.tr, co1.ov, co1.ovc, co1.ed, co1.edc, by show (w.re.set _ _).length = 64; rw [List.length_set]; exact co1.rl, z3Y co1.rw_ hpw, by show 0 <= w.pc + 1; omega⟩
    have st2 := st1.trans (.one hpick)
    have hp2 : (ZN a.length (rg pk c1.us) { zV w with us := c1.us + 1 }).pc.toNat = p + nAs a + 1 := by show (w.pc + 1).toNat = _; omega
    have hr2 : rg (ZN a.length (rg pk c1.us) { zV w with us := c1.us + 1 }).re (a.length : Int) = rg pk c1.us := by
     show rg (w.re.set ((a.length : Int)).toNat _) _ = _
     rw [jh]
     exact z77 (by rw [co1.rl]; omega)
    have i2 := s2.head.2.head.1
    by_cases hf : (zp l1 N).f2 > 1
    ·rw [jb hf] at b2
     obtain ⟨x, rfl⟩ := len1 (l := a) (by omega)
     have hr0 : rg (ZN ([x].length : Int) (rg pk c1.us) { zV w with us := c1.us + 1 }).re 0 = f x := by
      rw [<- rg1 0 x rfl]
      refine rg_of (j := 0) ?_
      show (w.re.set 1 _)[0]? = w.re[0]?
      rw [List.getElem?_set_ne (by omega)]
     obtain ⟨v', h1, h2⟩ := z2v (pk := pk) (a := rg pk c1.us) (i := f x) (r := [x].length) hh co2 hs (by omega) b0 b1 hr2 (hw x (by simp)).1 (fun _ => hr0) (fun h => jm hf h) (by rw [hp2]; exact i2) (by rw [hp2]; show Yd ins L Z _ c1.td j; rw [etd]; exact hk) (by show w.co + 1 + 1 + (j : Int) <= 2 * c1.co; omega) true (dT hf).symm
     exact yQ.rel st2 h1 h2
    ·rw [ja hf] at b2
     obtain rfl := List.eq_nil_of_length_eq_zero (by omega : a.length = 0)
     obtain ⟨v', h1, h2⟩ := z2v (pk := pk) (a := rg pk c1.us) (i := 0) (r := 0) hh co2 hs (by omega) b0 b1 hr2 (jq _) (fun h => jm h hf) (fun _ => rfl) (by rw [hp2]; exact i2) (by rw [hp2]; show Yd ins L Z _ c1.td j; rw [etd]; exact hk) (by show w.co + 1 + 1 + (j : Int) <= 2 * c1.co; omega) false (dF hf).symm
     exact yQ.rel st2 h1 h2
  ·obtain ⟨x, rfl⟩ := List.length_eq_one_iff.1 hla
   have h0 : rg w.re 0 = f x := rg1 0 x rfl
   have k0 : rd ([x].map f) 0 = f x := rfl
   have hgo : ∀ {v' : VC}, v' = { zV w with pc := w.pc + 1 } -> nAs [x] + (cT op N [x].length).length = nAs [x] + 1 -> Rel n ins L Z c1 v' j := fun {v'} e e2 => by
    subst e
    refine ⟨co1.tick (by omega), ?_, ?_⟩
    ·show Yd ins L Z (w.pc + 1).toNat c1.td j
     rw [hwp, show (((p + nAs [x] : Nat) : Int) + 1).toNat = p + (nAs [x] + 1) by omega, etd, <- e2]
     exact hk
    ·show w.co + 1 + j <= 2 * c1.co
     omega
   rcases b with rfl | rfl
   ·unfold cT at s2 hF
    rw [ja (by decide), ja (by decide), ja (by decide), jb rfl] at s2 hF
    unfold yL
    rw [ja (by decide), ja (by decide), ja (by decide), ja (by decide), ja (by decide), jb rfl, k0]
    have h1 := z6Y (wd := (n : Int)) (l1 := l1) (pk := pk) co1.ov co1.pc co1.rl (by rw [hwp, jh]; exact s2.head.1)
    rw [h0] at h1
    by_cases hz : f x = 0
    ·rw [jb hz]
     rw [jb hz] at h1
     have hF' : Far L (m.toNat + 1) (p + (nAs [x] + 1)) := hF
     exact z2L st1 co1 h1 (by decide) hm hL (by omega) (q := p + (nAs [x] + 1)) (by omega) hF' (by omega)
    ·rw [ja hz]
     rw [ja hz] at h1
     exact yQ.rel st1 h1 (hgo rfl rfl)
   ·unfold cT at s2 hF
    rw [ja (by decide), ja (by decide), ja (by decide), ja (by decide), jb rfl] at s2 hF
    unfold yL
    rw [ja (by decide), ja (by decide), ja (by decide), ja (by decide), ja (by decide), ja (by decide), jb rfl, k0]
    have h1 := z6Z (wd := (n : Int)) (l1 := l1) (pk := pk) co1.ov co1.pc co1.rl (by rw [hwp, jh]; exact s2.head.1)
    rw [h0] at h1
    by_cases hz : f x = 0
    ·rw [jb hz]
     rw [jb hz] at h1
     have hF' : Far L (m.toNat + 1) (p + (nAs [x] + 1)) := hF
     exact z2L st1 co1 h1 (by decide) hm hL (by omega) (q := p + (nAs [x] + 1)) (by omega) hF' (by omega)
    ·rw [ja hz]
     rw [ja hz] at h1
     exact yQ.rel st1 h1 (hgo rfl rfl)
end
section
variable {n : Nat} {l1 : List S76} {pk : List Int} {ins : List S93} {L Z : List Int}
def MSl (n : Nat) (l1 : List S76) (c : MC) : Prop :=
 0 <= c.fu /\ c.fu <= 4096 /\ z2u n l1 c.st /\ (∀ x ∈ c.td, IV n l1 x.f0 x.f1) /\ 0 <= c.us /\ c.us + 1 <= 4096 - c.fu /\ 0 <= c.co /\ c.co <= 401 * (4096 - c.fu) /\ (c.tr.length : Int) + 1 <= 402 * (4096 - c.fu) /\ (c.ou.length : Int) + 1 <= 4096 - c.fu /\ (c.td.length : Int) + 401 <= 401 * (4097 - c.fu)
theorem z5D {c : MC} (h : MSl n l1 c) {N i a p : Int} {arr : Bool} (ha : WW n a) {u : Int} (hu : u = c.us \/ u = c.us + 1) : z3h n l1 (z0m l1 N i a p arr { c with us := u }) := by
 obtain ⟨f0, f1, hs, htd, u0, u1, o0, o1, t1, t2, t3⟩ := h
 have hs' : z2u n l1 (c.st.set p.toNat a) := ⟨by rw [List.length_set]; exact hs.1, z3Y hs.2 ha⟩
 unfold z0m
 split
 ·exact ⟨f0, f1, hs', htd, by show 0 <= u; omega, by show u <= 4096 - c.fu; omega, o0, o1, by show ((c.tr ++ [_]).length : Int) <= 402 * (4096 - c.fu); rw [je, List.length_singleton]; push_cast; omega, by show (c.ou.length : Int) <= 4096 - c.fu; omega, by show (c.td.length : Int) <= 401 * (4097 - c.fu); omega⟩
 ·exact ⟨f0, f1, hs', htd, by show 0 <= u; omega, by show u <= 4096 - c.fu; omega, o0, o1, by show (c.tr.length : Int) <= 402 * (4096 - c.fu); omega, by show (c.ou.length : Int) <= 4096 - c.fu; omega, by show (c.td.length : Int) <= 401 * (4097 - c.fu); omega⟩
theorem z0P {c c' : MC} (h : MSl n l1 c) (h1 : c'.fu = c.fu) (h2 : c'.st = c.st) (h3 : ∀ x ∈ c'.td, IV n l1 x.f0 x.f1) (h4 : c'.us = c.us) (h5 : c'.co = c.co) (h6 : c'.tr.length <= c.tr.length + 1) (h7 : c'.ou.length <= c.ou.length + 1) (h8 : c'.td.length <= c.td.length + 401) : z3h n l1 c' := by
 obtain ⟨f0, f1, hs, htd, u0, u1, o0, o1, t1, t2, t3⟩ := h
 unfold z3h
 rw [h1, h2, h4, h5]
 exact ⟨f0, f1, hs, h3, u0, by omega, o0, o1, by omega, by omega, by omega⟩
theorem z6q (hh : z0s n l1) (hpk : ∀ a ∈ pk, WW n a) {c : MC} (h : z3h n l1 c) {x : ZT} {rest : List ZT} (ht : c.td = x :: rest) (hf : c.fu ≠ 0) :
  (yZ cnS l1 pk ndX (evX n l1 pk ins) (vaX n l1 pk ins) c).ov = true \/ (z3h n l1 (yZ cnS l1 pk ndX (evX n l1 pk ins) (vaX n l1 pk ins) c) /\ (yZ cnS l1 pk ndX (evX n l1 pk ins) (vaX n l1 pk ins) c).fu = c.fu - 1) := by
 obtain ⟨f0, f1, hs, htd, u0, u1, o0, o1, t1, t2, t3⟩ := h
 have hx := htd x (by rw [ht]; exact List.mem_cons_self ..)
 obtain ⟨m, ⟨op, N, a, t, e⟩⟩ := x
 dsimp only at hx
 obtain ⟨ha, hn, hl, hop, hn1, hn2⟩ := z0r hx
 have h1 : ∀ y ∈ a, eOK (n : Int) l1 1 y = true /\ eN y <= 1000 := fun y hy => ⟨(ha y hy).1, by have := (ha y hy).2.1; omega⟩
 obtain ⟨e1, e2⟩ := z36 (pk := pk) (ins := ins) hh hs a h1
 have hw : ∀ y ∈ a, WW n (vaX n l1 pk ins c.st y) := fun y hy => (z0u (pk := pk) (ins := ins) hh hs (h1 y hy).1 (h1 y hy).2).1
 have hsn := hx.2.2.2.1
 rw [z0j] at hsn
 dsimp only at hsn
 have hlt := z1N t
 have hle := z1N e
 obtain ⟨vt, ve⟩ := hx.then_
 dsimp only at vt ve
 have htd' : ∀ y ∈ rest, IV n l1 y.f0 y.f1 := fun y hy => htd y (by rw [ht]; exact List.mem_cons_of_mem _ hy)
 rw [ht, jp] at t3
 unfold yZ
 rw [ht]
 dsimp only
 rw [ja hf]
 have hM : MSl n l1 (Y9 ndX (evX n l1 pk ins c.st) c a rest) := by
  unfold Y9
  refine ⟨by show 0 <= c.fu - 1; omega, by show c.fu - 1 <= 4096; omega, hs, htd', u0, by show c.us + 1 <= 4096 - (c.fu - 1); omega, by show 0 <= c.co + 1 + (a.map ndX).sum; omega, by show c.co + 1 + (a.map ndX).sum <= 401 * (4096 - (c.fu - 1)); omega, ?_, ?_, ?_⟩
  ·show ((c.tr ++ a.flatMap (evX n l1 pk ins c.st)).length : Int) + 1 <= 402 * (4096 - (c.fu - 1))
   rw [je]
   push_cast
   omega
  ·show (c.ou.length : Int) + 1 <= 4096 - (c.fu - 1)
   omega
  ·show (rest.length : Int) + 401 <= 401 * (4097 - (c.fu - 1))
   push_cast at t3
   omega
 have hfu : (Y9 ndX (evX n l1 pk ins c.st) c a rest).fu = c.fu - 1 := rfl
 have etd : (Y9 ndX (evX n l1 pk ins c.st) c a rest).td = rest := rfl
 generalize Y9 ndX (evX n l1 pk ins c.st) c a rest = c1 at hM hfu etd ⊢
 rw [<- hfu]
 generalize hV : a.map (vaX n l1 pk ins c.st) = vs
 have hvs : ∀ i : Int, 0 <= i -> i < (vs.length : Int) -> WW n (rd vs i) := fun i i0 i1 => by
  subst hV
  exact z3Z hw i0 i1
 have hvl : vs.length = a.length := by rw [<- hV, List.length_map]
 have htm : ∀ y ∈ c1.td, IV n l1 y.f0 y.f1 := by rw [etd]; exact htd'
 have hsfu : ∀ {N i a p : Int} {arr : Bool} {c : MC}, (z0m l1 N i a p arr c).fu = c.fu := fun {N i a p arr c} => by
  unfold z0m
  split <;> rfl
 unfold yL
 by_cases p0 : op = 0
 ·rw [jb p0]
  refine .inr ⟨?_, hsfu⟩
  have hla : 0 < a.length := by
   rcases hop with ⟨_, _, _, b⟩ | ⟨b, _⟩ | ⟨b, _⟩ | ⟨b, _⟩ | ⟨b, _⟩
   ·split at b <;> omega
   all_goals omega
  have := z5D hM (N := N) (i := if 1 < vs.length then rd vs 0 else 0) (p := atP l1 N (if 1 < vs.length then rd vs 0 else 0)) (arr := decide (1 < vs.length)) (hvs ((vs.length : Int) - 1) (by omega) (by omega)) (.inl rfl)
  exact this
 rw [ja p0]
 by_cases p1 : op = 1
 ·rw [jb p1]
  refine .inr ⟨z0P hM rfl rfl ?_ rfl rfl (by show (c1.tr ++ [_]).length <= _; simp) (Nat.le_succ _) ?_, rfl⟩
  ·intro y hy
   rcases List.mem_append.1 hy with hy | hy
   ·split at hy
    ·exact ve.items y hy
    ·exact vt.items y hy
   ·exact htd' y hy
  ·show ((if _ then _ else _) ++ rest).length <= _
   rw [je, etd]
   split
   ·rw [yj]; omega
   ·rw [yj]; omega
 rw [ja p1]
 by_cases p2 : op = 2
 ·rw [jb p2]
  split
  ·exact .inr ⟨z0P hM rfl rfl htm rfl rfl (by show (c1.tr ++ [_]).length <= _; simp) (Nat.le_succ _) (by show c1.td.length <= _; omega), rfl⟩
  ·refine .inr ⟨z0P hM rfl rfl ?_ rfl rfl (by show (c1.tr ++ [_]).length <= _; simp) (Nat.le_succ _) ?_, rfl⟩
   ·intro y hy
    rcases List.mem_append.1 hy with hy | hy
    ·rcases List.mem_append.1 hy with hy | hy
     ·exact vt.items y hy
     ·rw [List.mem_singleton.1 hy]
      exact hx
    ·exact htd' y hy
   ·show ((Zu cnS (m + 1) t ++ [_]) ++ rest).length <= _
    rw [je, je, yj, etd, List.length_singleton]
    omega
 rw [ja p2]
 by_cases p3 : op = 3
 ·rw [jb p3]
  exact .inr ⟨z0P hM rfl rfl htm rfl rfl (Nat.le_succ _) (by show (c1.ou ++ [_]).length <= _; simp) (by show c1.td.length <= _; omega), rfl⟩
 rw [ja p3]
 have hM' : z3h n l1 c1 := z0P hM rfl rfl htm rfl rfl (Nat.le_succ _) (Nat.le_succ _) (by omega)
 by_cases p4 : op = 4
 ·rw [jb p4]
  split
  ·exact .inl rfl
  ·rename_i hus
   refine .inr ⟨?_, hsfu⟩
   have hpw : WW n (rd pk c1.us) := by
    obtain ⟨hl', e⟩ := z3R pk c1.us hM.2.2.2.2.1 (by omega)
    rw [e]
    exact hpk _ (List.getElem_mem _)
   exact z5D hM hpw (.inr rfl)
 rw [ja p4]
 by_cases p5 : op = 5
 ·rw [jb p5]
  split
  ·exact .inl rfl
  ·exact .inr ⟨hM', rfl⟩
 rw [ja p5]
 by_cases p6 : op = 6
 ·rw [jb p6]
  split
  ·exact .inl rfl
  ·exact .inr ⟨hM', rfl⟩
 rw [ja p6]
 exact .inr ⟨hM', rfl⟩
theorem mAct_co {c : MC} {m op N : Int} {t e : List S81} {self : ZT} {vs : List Int} {rest : List ZT} : (yL cnS l1 pk c m op N t e self vs rest).co = c.co := by
 have hs : ∀ {N i a p : Int} {arr : Bool} {c : MC}, (z0m l1 N i a p arr c).co = c.co := fun {N i a p arr c} => by
  unfold z0m
  split <;> rfl
 unfold yL
 repeat' split
 all_goals first | rfl | exact hs
theorem z7m {c : MC} {m op N : Int} {t e : List S81} {self : ZT} {vs : List Int} {rest : List ZT} : (yL cnS l1 pk c m op N t e self vs rest).st.length = c.st.length := by
 have hs : ∀ {N i a p : Int} {arr : Bool} {c : MC}, (z0m l1 N i a p arr c).st.length = c.st.length := fun {N i a p arr c} => by
  unfold z0m
  split <;> exact List.length_set
 unfold yL
 repeat' split
 all_goals first | rfl | exact hs
theorem z6p {c : MC} {nd : S62 -> Int} {ev : List Int -> S62 -> List Z4} {va : List Int -> S62 -> Int} : (yZ cnS l1 pk nd ev va c).st.length = c.st.length := by
 unfold yZ
 split
 ·rfl
 ·split
  ·rfl
  ·rw [z7m]
   rfl
theorem z7k (hh : z0s n l1) {c : MC} (h : z3h n l1 c) {x : ZT} {rest : List ZT} (ht : c.td = x :: rest) (hf : c.fu ≠ 0) : (yZ cnS l1 pk ndX (evX n l1 pk ins) (vaX n l1 pk ins) c).co <= 401 * 4096 := by
 obtain ⟨f0, f1, hs, htd, u0, u1, o0, o1, t1, t2, t3⟩ := h
 have hx := htd x (by rw [ht]; exact List.mem_cons_self ..)
 obtain ⟨m, ⟨op, N, a, t, e⟩⟩ := x
 dsimp only at hx
 obtain ⟨ha, hn, _⟩ := z0r hx
 obtain ⟨_, e2⟩ := z36 (pk := pk) (ins := ins) hh hs a (fun y hy => ⟨(ha y hy).1, by have := (ha y hy).2.1; omega⟩)
 unfold yZ
 rw [ht]
 dsimp only
 rw [ja hf, mAct_co]
 show c.co + 1 + (a.map ndX).sum <= _
 omega
theorem run_sim (hh : z0s n l1) (hpk : ∀ a ∈ pk, WW n a) : ∀ (f : Nat) (c : MC) (v : VC) (j : Nat), c.fu = f -> z3h n l1 c -> Rel n ins L Z c v j ->
  ∃ c', Yv cnS l1 pk ndX (evX n l1 pk ins) (vaX n l1 pk ins) (f + 2) c = some c' /\ z5g cnS (n : Int) l1 pk ndX (evX n l1 pk ins) (vaX n l1 pk ins) (f + 2) c /\ c'.co <= 401 * 4096 /\ c'.st.length = c.st.length /\ (c'.ed = 3 \/ ∃ N v', yT (n : Int) l1 pk ins N v v' /\ Fin L Z c' v') := by
 intro f
 have td_ne : ∀ {c : MC}, c.ov = false -> ∀ x rest, c.td = x :: rest -> yz c = false := fun ho x rest he => by
  unfold yz
  rw [ho, he]
  rfl
 have hex : ∀ (c c1 : MC) (v : VC) (j : Nat), z3h n l1 c -> Rel n ins L Z c v j -> c.fu ≠ 0 -> ∀ x rest, c.td = x :: rest -> yQ n l1 pk ins L Z v (yZ cnS l1 pk ndX (evX n l1 pk ins) (vaX n l1 pk ins) c) := fun c c1 v j hi hr hf x rest he => by
  obtain ⟨hc, hk, hco⟩ := hr
  obtain ⟨N, q, j', tl, a1, a2, a3⟩ := hk.run (wd := (n : Int)) (l1 := l1) (pk := pk) v (by have := hc.pc; omega) hc.ov
  rcases a3 with ⟨e, _⟩ | ⟨m, s, rest', e, ha, hk'⟩
  ·rw [he] at e
   exact jm e (by simp)
  ·rw [he] at e
   obtain ⟨rfl, rfl⟩ := List.cons.inj e
   obtain ⟨op, b, a, t, u⟩ := s
   have hx := hi.2.2.2.1 ⟨m, ⟨op, b, a, t, u⟩⟩ (by rw [he]; exact List.mem_cons_self ..)
   have := act_sim (pk := pk) (c := c) hh hpk hi.2.2.1 hi.2.2.2.2.1 hx (hc.hop q N tl) rfl ha hk' (by show v.co + (N : Int) + j' <= _; omega)
   unfold yZ
   rw [he]
   dsimp only
   rw [ja hf]
   rcases this with ⟨o, N2, v2, j2, st2, r2⟩ | ⟨o, N2, v2, st2, r2⟩
   ·exact .inl ⟨o, _, v2, j2, a1.trans st2, r2⟩
   ·exact .inr ⟨o, _, v2, a1.trans st2, r2⟩
 induction f with
 | zero =>
  intro c v j hf hi hr
  have hco : c.co <= 401 * 4096 := by have := hi.2.2.2.2.2.2.2.1; omega
  rcases htd : c.td with _ | ⟨x, rest⟩
  ·have he : yz c = true := by unfold yz; rw [htd]; simp
   obtain ⟨N, v', h1, h2⟩ := hr.done (pk := pk) (l1 := l1) htd
   exact ⟨c, by simp only [Yv, he, if_true], by intro h; rw [he] at h; exact jm h (by simp), hco, rfl, .inr ⟨N, v', h1, h2⟩⟩
  ·have he := td_ne hr.1.ovc x rest htd
   have hs : yZ cnS l1 pk ndX (evX n l1 pk ins) (vaX n l1 pk ins) c = YR 3 x.f0 c := by
    unfold yZ
    rw [htd]
    dsimp only
    rw [jb (by omega)]
   have he2 : yz (YR 3 x.f0 c) = true := rfl
   refine ⟨YR 3 x.f0 c, ?_, ?_, hco, rfl, .inl rfl⟩
   ·simp only [Yv, he, hs, he2, if_true, Bool.false_eq_true, if_false]
   ·intro _
    refine ⟨tfit hh hpk hi, ?_⟩
    intro h
    rw [hs, he2] at h
    exact jm h (by simp)
 | succ f ih =>
  intro c v j hf hi hr
  have hco : c.co <= 401 * 4096 := by have := hi.2.2.2.2.2.2.2.1; have := hi.1; omega
  rcases htd : c.td with _ | ⟨x, rest⟩
  ·have he : yz c = true := by unfold yz; rw [htd]; simp
   obtain ⟨N, v', h1, h2⟩ := hr.done (pk := pk) (l1 := l1) htd
   refine ⟨c, ?_, ?_, hco, rfl, .inr ⟨N, v', h1, h2⟩⟩
   ·rw [Yv, jb he]
   ·intro h
    rw [he] at h
    exact jm h (by simp)
  ·have he := td_ne hr.1.ovc x rest htd
   have hf0 : c.fu ≠ 0 := by omega
   have hst := hex c c v j hi hr hf0 x rest htd
   have hin := z6q (ins := ins) hh hpk hi htd hf0
   have hcs := z7k (pk := pk) (ins := ins) hh hi htd hf0
   have hln := z6p (l1 := l1) (pk := pk) (nd := ndX) (ev := evX n l1 pk ins) (va := vaX n l1 pk ins) (c := c)
   generalize hc1 : yZ cnS l1 pk ndX (evX n l1 pk ins) (vaX n l1 pk ins) c = c1 at hst hin hcs hln
   rcases hst with ⟨o, N, v1, j1, s1, r1⟩ | ⟨o, N, v1, s1, r1⟩
   ·rcases hin with hin | ⟨hin, hfu⟩
    ·rw [o] at hin
     exact jm hin (by simp)
    obtain ⟨c', h1, h2, h3, h5, h4⟩ := ih c1 v1 j1 (by omega) hin r1
    refine ⟨c', ?_, ?_, h3, h5.trans hln, ?_⟩
    ·rw [Yv, ja (by rw [he]; simp), hc1]
     exact h1
    ·intro _
     refine ⟨tfit hh hpk hi, ?_⟩
     rw [hc1]
     exact h2
    ·rcases h4 with h4 | ⟨N', v', s', f'⟩
     ·exact .inl h4
     ·exact .inr ⟨_, v', s1.trans s', f'⟩
   ·have he1 : yz c1 = true := by unfold yz; rw [o]; rfl
    refine ⟨c1, ?_, ?_, hcs, hln, .inr ⟨N, v1, s1, r1⟩⟩
    ·rw [Yv, ja (by rw [he]; simp), hc1, Yv, jb he1]
    ·intro _
     refine ⟨tfit hh hpk hi, ?_⟩
     rw [hc1]
     intro h
     rw [he1] at h
     exact jm h (by simp)
end
section
variable {n : Nat} {l1 : List S76} {pk : List Int} {ins : List S93} {L Z : List Int}
theorem z5b {i : S93} {pc : Int} (h : ins[pc.toNat]? = some i) : ya ins pc = i := by
 show ins.getD pc.toNat _ = i
 rw [jw, h]
 rfl
theorem z54 {wd : Int} {N : Nat} {c c' : VC} (h : yT wd l1 pk ins N c c') : Bal c -> ins.length <= 100000 -> c.co + N <= 4000000 -> c'.ov = true -> ∃ k0, ∀ k, k0 <= k -> yB k wd l1 pk ins (N + 1) c = some c' /\ z50 k wd l1 pk ins (N + 1) c := by
 induction h with
 | refl c =>
  intro _ _ _ ho
  refine ⟨0, fun k _ => ⟨by rw [yB, jb ho], ?_⟩⟩
  intro h
  rw [ho] at h
  exact jm h (by simp)
 | @step N c c1 c2 h1 h2 ih =>
  intro hb hl hco ho
  obtain ⟨b1, e1⟩ := hb.stp h1
  obtain ⟨k1, hk1⟩ := ih b1 hl (by push_cast at hco; omega) ho
  obtain ⟨o1, p0, i, hi, ⟨k2, hk2⟩, hf⟩ := h1
  obtain ⟨g1, g2, g3, g4, g5, g6, g7⟩ := hb
  have hil := (List.getElem?_eq_some_iff.1 hi).1
  push_cast at hco
  obtain ⟨k3, hk3⟩ := hf ⟨p0, by show c.pc < _; omega, by show c.tr.length < _; omega, by show c.ou.length < _; omega, g6, by show c.us < _; omega⟩
  have hr := z5b hi
  refine ⟨k1 + k2 + k3, fun k hk => ?_⟩
  obtain ⟨a1, a2⟩ := hk1 k (by omega)
  have a3 := hk2 k (by omega)
  have a4 := hk3 k (by omega)
  dsimp only at a3
  constructor
  ·rw [yB, ja (by rw [o1]; simp), ja (by omega), hr, a3, jv]
   exact a1
  ·intro _ _
   rw [hr]
   refine ⟨⟨p0, by omega, by omega, by omega, g1, by omega, by omega, a4⟩, fun c' e => ?_⟩
   rw [a3] at e
   obtain rfl := sj e
   exact a2
theorem z71 (a b : List S93) : Seg (a ++ b) 0 a /\ Seg (a ++ b) a.length b := by
 have h : Seg (a ++ b) 0 (a ++ b) := fun i x hx => by rw [Nat.zero_add]; exact hx
 refine ⟨h.left, ?_⟩
 have := h.right
 rw [Nat.zero_add] at this
 exact this
theorem z6w {body : List S81} (hv : IVs n l1 0 body) : Yd (zG body) (yy body 0) (zSs body 0) 0 (Zu cnS 0 body) 0 := by
 obtain ⟨s1, s2⟩ := z71 (cSs body 0) [⟨11, 0, 0, 0, 0⟩]
 have := Yn (n := n) (l1 := l1) (ins := zG body) (L := yy body 0) (Z := zSs body 0) body 0 0 [] 0 hv s1 (fun i x hx => by rw [show (0 : Int).toNat + i = i by simp]; exact hx) (fun i x hx => by rw [show (0 : Int).toNat + i = i by simp]; exact hx) (fun i x hi hx => by
  have := (List.getElem?_eq_some_iff.1 hx).1
  rw [YQ] at this
  rw [show (0 : Int).toNat = 0 from rfl] at hi
  omega) (.stop (by
  have := s2.head.1
  rw [ZZ] at this
  rw [Nat.zero_add]
  exact this))
 rwa [List.append_nil] at this
theorem cT_le (op b : Int) (m : Nat) : (cT op b m).length <= 2 := by
 unfold cT
 repeat' split
 all_goals simp
theorem hdE_le (a : List S62) : nE (hdE a) <= eNs a + 1 := by
 cases a with
 | nil => simp [hdE, nE, nAs]
 | cons x r =>
  simp only [hdE, List.headD_cons, eNs]
  rw [z7j.1]
  omega
theorem nS_le : (∀ x : S81, nS x <= 4 * sN x /\ kS x <= sN x) /\ (∀ l : List S81, nSs l <= 4 * sNs l /\ kSs l <= sNs l) := by
 refine z1k (fun a b l t e h1 h2 => ?_) ?_ (fun x r h1 h2 => ?_)
 ·have hh := hdE_le l
  have hc := cT_le a b l.length
  rw [nS, kS, z0j, z7j.2]
  simp only
  constructor
  ·split
   ·split
    ·split <;> omega
    ·omega
   ·omega
  ·split <;> omega
 ·rw [nSs, kSs, z2w]
  omega
 ·rw [nSs, kSs, yF]
  omega
theorem YW (body : List S81) : (zG body).length = nSs body + 1 := by
 unfold zG
 rw [je, ZZ]
 rfl
theorem both (hh : z0s n l1) (hpk : ∀ a ∈ pk, WW n a) {st : List Int} (hs : z2u n l1 st) {body : List S81} (hv : IVs n l1 0 body) {fuel : Int} (f0 : 0 <= fuel) (f1 : fuel <= 4096) :
  ∃ c', Yv cnS l1 pk ndX (evX n l1 pk (zG body)) (vaX n l1 pk (zG body)) (fuel.toNat + 2) (Ya cnS fuel st body) = some c' /\ z5g cnS (n : Int) l1 pk ndX (evX n l1 pk (zG body)) (vaX n l1 pk (zG body)) (fuel.toNat + 2) (Ya cnS fuel st body) /\ c'.st.length = st.length /\
   (c'.ed = 3 \/ ∃ v' N, Fin (yy body 0) (zSs body 0) c' v' /\ Bal v' /\ c'.co <= 401 * 4096 /\ ∃ k0, ∀ k, k0 <= k -> yB k (n : Int) l1 pk (zG body) N (zC 4194304 st) = some v' /\ z50 k (n : Int) l1 pk (zG body) N (zC 4194304 st)) := by
 have hb := z1N body
 have hnb := hv.2.2.2.1
 have hi : z3h n l1 (Ya cnS fuel st body) := ⟨f0, f1, hs, hv.items, jq _, by show (0 : Int) <= 4096 - fuel; omega, jq _, by show (0 : Int) <= 401 * (4096 - fuel); omega, by show (0 : Int) <= 402 * (4096 - fuel); omega, by show (0 : Int) <= 4096 - fuel; omega, by
  show ((Zu cnS 0 body).length : Int) <= 401 * (4097 - fuel)
  rw [yj]
  omega⟩
 have hp := z04 n
 have hr : Rel n (zG body) (yy body 0) (zSs body 0) (Ya cnS fuel st body) (zC 4194304 st) 0 := ⟨⟨rfl, rfl, rfl, ⟨rfl, fun e he => jm he (by simp [Ya])⟩, rfl, rfl, rfl, rfl, by simp [zC], fun a ha => by
  rw [(List.mem_replicate.1 ha).2]
  exact ⟨jq _, by omega⟩, jq _⟩, z6w hv, jq _⟩
 obtain ⟨c', h1, h2, h3, hle, h4⟩ := run_sim hh hpk fuel.toNat _ _ 0 (by show fuel = _; omega) hi hr
 refine ⟨c', h1, h2, hle, ?_⟩
 rcases h4 with h4 | ⟨N, v', h4, h5⟩
 ·exact .inl h4
 ·have hB : Bal (zC 4194304 st) := ⟨jq _, rfl, rfl, jq _, jq _, jq _, jq _⟩
  have hN := (hB.steps h4).2
  have hco := h5.co
  have h0 : (zC 4194304 st).co = 0 := rfl
  obtain ⟨k0, hk⟩ := z54 h4 hB (by rw [YW]; have := (nS_le.2 body).1; omega) (by omega) h5.ov
  exact .inr ⟨v', N + 1, h5, (hB.steps h4).1, h3, k0, hk⟩
end
def RP (n : Nat) (l1 : List S76) (ins : List S93) (i : S93) : Prop := ∃ k0, ∀ k, k0 <= k -> z0A k (n : Int) l1 ins i
section
variable {n : Nat} {l1 : List S76} {ins : List S93}
theorem z4S {N s : Int} (h0 : 0 <= N) (h1 : N < (l1.length : Int)) (hs : if (zp l1 N).f2 > 1 then Yi s else s = 0) : zc (fun k => Yr.f k (n : Int) l1 ins N s) true := by
 unfold Yr.f
 refine zc.ifF (by omega) (zc.succ ?_)
 simp only [Yr.j0]
 rw [decide_eq_false (by omega)]
 refine zc.ifF (by simp) (zc.ifT h0 (zc.ifT h1 ?_))
 by_cases h : (zp l1 N).f2 > 1
 ·rw [jb h] at hs
  refine zc.ifT h ?_
  rw [ZH hs]
  exact zc.pure _
 ·rw [ja h] at hs
  refine zc.ifF h ?_
  rw [hs]
  exact zc.pure _
theorem RP.of {i : S93} (h : ∀ k, z0A k (n : Int) l1 ins i) : RP n l1 ins i := ⟨0, fun k _ => h k⟩
theorem z7D (h1 : 1 <= n) (h8 : n <= 8) : (∀ x : S62, eOK (n : Int) l1 1 x = true -> ∀ r : Nat, r + 3 * eD x <= 60 -> ∀ i ∈ cE x r, RP n l1 ins i) /\ (∀ l : List S62, z0L (n : Int) l1 1 l = true -> ∀ r : Nat, r + l.length + 3 * eDs l <= 60 -> ∀ i ∈ cAs l r, RP n l1 ins i) := by
 refine z15 (fun a b c l ih => ?_) (fun _ r _ i hi => by simp [cAs] at hi) (fun x r ih1 ih2 => ?_)
 ·intro ho r hd i hi
  simp only [eOK, jg] at ho
  obtain ⟨hno, ho⟩ := ho
  obtain ⟨har, hok⟩ := z2V hno
  simp only [eD] at hd
  have hlen : l.length <= 3 := by
   unfold YI at har
   repeat' split at har
   all_goals omega
  rw [cE, List.mem_append, List.mem_singleton] at hi
  rcases hi with hi | rfl
  ·exact ih ho r (by omega) i hi
  have r0 : Yi (r : Int) := ⟨by omega, by omega⟩
  have r1 : Yi ((r : Int) + 1) := ⟨by omega, by omega⟩
  have r2 : Yi ((r : Int) + 2) := ⟨by omega, by omega⟩
  unfold YI at har
  unfold cI
  by_cases a0 : a = 0
  ·subst a0
   obtain ⟨b0, b1⟩ := z1K h8 hok
   obtain ⟨k0, hk⟩ := z1u (n : Int) b (by omega) (by omega)
   refine ⟨k0, fun k h => .inl ⟨rfl, r0, ?_, rfl, rfl⟩⟩
   have := hk k h
   rw [decide_eq_true ⟨b0, by rw [jh]; exact b1⟩] at this
   exact this
  rw [ja a0] at har ⊢
  by_cases a1 : a = 1
  ·subst a1
   rw [jb rfl] at har ⊢
   by_cases hb : 0 <= b /\ b < (l1.length : Int)
   ·rw [jb hb] at har
    have hat : zc (fun k => Yr.f k (n : Int) l1 ins b (if 0 < l.length then (r : Int) else 0)) true := by
     refine z4S hb.1 hb.2 ?_
     by_cases hf : (zp l1 b).f2 > 1
     ·rw [jb hf] at har ⊢
      rw [jb (by omega)]
      exact r0
     ·rw [ja hf] at har ⊢
      rw [ja (by omega)]
    obtain ⟨k0, hk⟩ := hat
    exact ⟨k0, fun k h => .inr (.inr (.inr (.inr (.inl ⟨rfl, r0, hk k h, rfl⟩))))⟩
   ·rw [ja hb] at har
    omega
  rw [ja a1] at har ⊢
  by_cases a12 : a = 12
  ·rw [jb a12]
   exact RP.of fun k => .inr (.inr (.inl ⟨rfl, r0, r0, rfl, rfl⟩))
  rw [ja a12]
  by_cases a15 : a = 15
  ·rw [jb a15]
   exact RP.of fun k => .inr (.inr (.inr (.inl ⟨rfl, r0, r0, r1, r2⟩)))
  rw [ja a15]
  by_cases a2 : (2 <= a /\ a <= 11) \/ a = 13 \/ a = 14
  ·refine RP.of fun k => .inr (.inl ⟨rfl, r0, r0, ?_, r1⟩)
   show YD.f a = some true
   unfold YD.f
   by_cases g2 : a >= 2
   ·rw [jb g2]
    by_cases g3 : a <= 11
    ·rw [jb g3]
    ·rw [ja g3]
     by_cases g4 : a = 13
     ·rw [jb g4]
     ·rw [ja g4]
      have : a = 14 := by omega
      rw [this]
      rfl
   ·omega
  ·rw [ja a2, ja a12, ja a15] at har
   omega
 ·intro ho q hd i hi
  simp only [z0L, jg] at ho
  simp only [eDs, jp] at hd
  rw [cAs, List.mem_append] at hi
  rcases hi with hi | hi
  ·exact ih1 ho.1 q (by omega) i hi
  ·exact ih2 ho.2 (q + 1) (by omega) i (by push_cast; exact hi)
theorem eOKs_of {l : List S62} (h : ∀ y ∈ l, eOK (n : Int) l1 1 y = true) : z0L (n : Int) l1 1 l = true := by
 induction l with
 | nil => rfl
 | cons x r ih =>
  simp only [z0L, jg]
  exact ⟨h x (List.mem_cons_self ..), ih (fun y hy => h y (List.mem_cons_of_mem _ hy))⟩
theorem z7C (h1 : 1 <= n) (h8 : n <= 8) : (∀ x : S81, ∀ (m : Int) (p : Nat), IV n l1 m x -> p + nS x < ins.length -> ∀ i ∈ cS x p, RP n l1 ins i) /\ (∀ l : List S81, ∀ (m : Int) (p : Nat), IVs n l1 m l -> p + nSs l < ins.length -> ∀ i ∈ cSs l p, RP n l1 ins i) := by
 refine z1k (fun op b a t e h1' h2' => ?_) (fun m p _ _ i hi => by simp [cSs] at hi) (fun x r ih1 ih2 => ?_)
 ·intro m p hv hp i hi
  obtain ⟨ha, _, hl, hop, hn1, hn2⟩ := z0r hv
  obtain ⟨vt, ve⟩ := hv.then_
  dsimp only at vt ve
  have hD : eDs a <= 16 := z7y (fun y hy => (ha y hy).2.2.1)
  have hA : ∀ i ∈ cAs a ((0 : Nat) : Int), RP n l1 ins i := (z7D h1 h8).2 a (eOKs_of fun y hy => (ha y hy).1) 0 (by omega)
  have r0 : Yi 0 := ⟨by decide, by decide⟩
  by_cases hb : op = 1 \/ op = 2
  ·have hla : a.length = 1 := by
    rcases hop with ⟨b, _⟩ | ⟨_, b⟩ | ⟨b, _⟩ | ⟨b, _⟩ | ⟨b, _⟩
    all_goals omega
   obtain ⟨x, rfl⟩ := List.length_eq_one_iff.1 hla
   have hx : ∀ i ∈ cE x 0, RP n l1 ins i := fun i hi => hA i (by simp only [cAs, List.append_nil]; exact hi)
   have hns : nS ⟨op, b, [x], t, e⟩ = nE x + 1 + nSs t + (if e.length = 0 then (if op = 2 then 1 else 0) else 1 + nSs e) := by simp only [nS, jb hb, hdE, List.headD_cons]
   rw [hns] at hp
   simp only [cS, jb hb, hdE, List.headD_cons] at hi
   have jz : ∀ q : Nat, q < ins.length -> RP n l1 ins ⟨6, 0, (q : Int), 0, 0⟩ := fun q hq => RP.of fun k => .inr (.inr (.inr (.inr (.inr (.inr (.inr (.inl ⟨rfl, r0, by show (0 : Int) <= q; omega, by show (q : Int) < _; omega, rfl, rfl⟩)))))))
   have jj : ∀ q : Nat, q < ins.length -> RP n l1 ins ⟨5, (q : Int), 0, 0, 0⟩ := fun q hq => RP.of fun k => .inr (.inr (.inr (.inr (.inr (.inr (.inl ⟨rfl, by show (0 : Int) <= q; omega, by show (q : Int) < _; omega, rfl, rfl, rfl⟩))))))
   by_cases h0 : e.length = 0
   ·rw [jb h0] at hp
    rw [decide_eq_false (by omega : ¬ 0 < e.length)] at hi
    unfold brC at hi
    rw [ja (by simp), YX, ZZ] at hi
    have hb1 : (if op = 2 then [(⟨5, (p : Int), 0, 0, 0⟩ : S93)] else []).length = if op = 2 then 1 else 0 := by split <;> rfl
    rw [hb1] at hi
    rcases List.mem_append.1 hi with hi | hi
    ·rcases List.mem_append.1 hi with hi | hi
     ·exact hx i hi
     ·rcases List.mem_cons.1 hi with rfl | hi
      ·exact jz _ (by omega)
      ·exact h1' _ _ vt (by omega) i hi
    ·split at hi
     ·rw [List.mem_singleton.1 hi]
      exact jj p (by omega)
     ·simp at hi
   ·rw [ja h0] at hp
    rw [decide_eq_true (by omega : 0 < e.length)] at hi
    unfold brC at hi
    rw [jb rfl, YX, ZZ, ZZ] at hi
    rcases List.mem_append.1 hi with hi | hi
    ·rcases List.mem_append.1 hi with hi | hi
     ·exact hx i hi
     ·rcases List.mem_cons.1 hi with rfl | hi
      ·exact jz _ (by omega)
      ·exact h1' _ _ vt (by omega) i hi
    ·rcases List.mem_cons.1 hi with rfl | hi
     ·exact jj _ (by omega)
     ·exact h2' _ _ ve (by omega) i hi
  ·simp only [cS, ja hb] at hi
   rcases List.mem_append.1 hi with hi | hi
   ·exact hA i hi
   unfold cT at hi
   have hst : ∀ s : Int, Yi s -> 0 <= b -> b < (l1.length : Int) -> RP n l1 ins ⟨4, b, 0, s, 0⟩ := fun s hs b0 b1 => by
    obtain ⟨k0, hk⟩ := z4S (n := n) (ins := ins) (s := 0) b0 b1 (by split; exact r0; rfl)
    exact ⟨k0, fun k h => .inr (.inr (.inr (.inr (.inr (.inl ⟨rfl, hk k h, hs, rfl⟩)))))⟩
   rcases hop with ⟨rfl, b0, b1, b2⟩ | ⟨b, _⟩ | ⟨rfl, hla, b0, b1⟩ | ⟨rfl, b0, b1, b2⟩ | ⟨b, hla⟩
   ·rw [jb rfl] at hi
    rw [List.mem_singleton.1 hi]
    have hla : 1 <= a.length := by split at b2 <;> omega
    exact hst _ ⟨by omega, by omega⟩ b0 b1
   ·exact jm b hb
   ·rw [ja (by decide), jb rfl] at hi
    rw [List.mem_singleton.1 hi]
    exact RP.of fun k => .inr (.inr (.inr (.inr (.inr (.inr (.inr (.inr (.inl ⟨rfl, b0, b1, r0, rfl, rfl⟩))))))))
   ·rw [ja (by decide), ja (by decide), jb rfl] at hi
    have hr : Yi (a.length : Int) := ⟨by omega, by omega⟩
    rcases List.mem_cons.1 hi with rfl | hi
    ·exact RP.of fun k => .inr (.inr (.inr (.inr (.inr (.inr (.inr (.inr (.inr (.inl ⟨.inl rfl, hr, rfl, rfl, rfl⟩)))))))))
    ·rw [List.mem_singleton.1 hi]
     exact hst _ hr b0 b1
   ·rcases b with rfl | rfl
    ·rw [ja (by decide), ja (by decide), ja (by decide), jb rfl] at hi
     rw [List.mem_singleton.1 hi]
     exact RP.of fun k => .inr (.inr (.inr (.inr (.inr (.inr (.inr (.inr (.inr (.inl ⟨.inr (.inl rfl), r0, rfl, rfl, rfl⟩)))))))))
    ·rw [ja (by decide), ja (by decide), ja (by decide), ja (by decide), jb rfl] at hi
     rw [List.mem_singleton.1 hi]
     exact RP.of fun k => .inr (.inr (.inr (.inr (.inr (.inr (.inr (.inr (.inr (.inl ⟨.inr (.inr rfl), r0, rfl, rfl, rfl⟩)))))))))
 ·intro m p hv hp i hi
  obtain ⟨v1, v2⟩ := hv.cons
  simp only [nSs] at hp
  rw [cSs, List.mem_append] at hi
  rcases hi with hi | hi
  ·exact ih1 m p v1 (by omega) i hi
  ·exact ih2 _ (p + nS x) v2 (by omega) i hi
theorem RP_all {l : List S93} (h : ∀ i ∈ l, RP n l1 ins i) : ∃ k0, ∀ k, k0 <= k -> ∀ i ∈ l, z0A k (n : Int) l1 ins i := by
 induction l with
 | nil => exact ⟨0, fun k _ i hi => by simp at hi⟩
 | cons x r ih =>
  obtain ⟨k1, h1⟩ := h x (List.mem_cons_self ..)
  obtain ⟨k2, h2⟩ := ih (fun y hy => h y (List.mem_cons_of_mem _ hy))
  refine ⟨k1 + k2, fun k hk i hi => ?_⟩
  rcases List.mem_cons.1 hi with rfl | hi
  ·exact h1 k (by omega)
  ·exact h2 k (by omega) i hi
theorem code_ok (h1 : 1 <= n) (h8 : n <= 8) {body : List S81} (hv : IVs n l1 0 body) : ∃ k0, ∀ k, k0 <= k -> ∀ j : Nat, j < (zG body).length -> z0A k (n : Int) l1 (zG body) (ya (zG body) j) := by
 have hl := YW body
 obtain ⟨k0, hk⟩ := RP_all (n := n) (l1 := l1) (ins := zG body) (l := zG body) (fun i hi => by
  unfold zG at hi
  rcases List.mem_append.1 hi with hi | hi
  ·exact (z7C h1 h8).2 body 0 0 hv (by omega) i hi
  ·rw [List.mem_singleton.1 hi]
   exact RP.of fun k => .inr (.inr (.inr (.inr (.inr (.inr (.inr (.inr (.inr (.inr rfl))))))))))
 refine ⟨k0, fun k h j hj => hk k h _ ?_⟩
 have e := z5b (ins := zG body) (pc := (j : Int)) (i := (zG body)[j]) (by rw [jh]; exact jn hj)
 rw [e]
 exact List.getElem_mem _
theorem z6z (body : List S81) : (ya (zG body) (((zG body).length : Int) - 1)).f0 = 11 := by
 have e := z5b (ins := zG body) (pc := ((zG body).length : Int) - 1) (i := ⟨11, 0, 0, 0, 0⟩) (by
  rw [YW, show (((nSs body + 1 : Nat) : Int) - 1).toNat = nSs body by omega]
  unfold zG
  rw [List.getElem?_append_right (Nat.le_of_eq (ZZ body 0)), ZZ, Nat.sub_self]
  rfl)
 rw [e]
end
def yR.f (k : Nat) (a0_0 : Int) (l0_1 : List (S76)) (l0_2 : List (S81)) (l1_0 : List Int) (l1_1 : List Int) : Option (Bool) := (Yt.f k a0_0 l0_1 l1_0).bind fun t892 => (if t892 = true then (if (l1_1.length : Int) <= 16 then ((ZD.f k a0_0 l1_1).bind fun t893 => (some t893)) else (some false)) else (some false))
theorem yR.calls (k : Nat) (a0_0 : Int) (A0_1 : Option Addr) (c0_1 : Nat) (l0_1 : List (S76)) (A0_2 : Option Addr) (c0_2 : Nat) (l0_2 : List (S81)) (A1_0 : Option Addr) (c1_0 : Nat) (l1_0 : List Int) (A1_1 : Option Addr) (c1_1 : Nat) (l1_1 : List Int) (r : Bool) (w : World) (hr0_1 : Kd.C k76 w A0_1 l0_1.length l0_1) (hc0_1 : l0_1.length <= c0_1) (hr0_2 : Kd.C k81 w A0_2 l0_2.length l0_2) (hc0_2 : l0_2.length <= c0_2) (hr1_0 : Kd.C (Kd.int .i64) w A1_0 l1_0.length l1_0) (hc1_0 : l1_0.length <= c1_0) (hr1_1 : Kd.C (Kd.int .i64) w A1_1 l1_1.length l1_1) (hc1_1 : l1_1.length <= c1_1) (h : yR.f k a0_0 l0_1 l0_2 l1_0 l1_1 = some r) :
  Calls Tryz.prog 39 #[.agg (Vf a0_0 A0_1 l0_1 c0_1 A0_2 l0_2 c0_2), .agg (Vn A1_0 l1_0 c1_0 A1_1 l1_1 c1_1)] w fun e w' => e = .returned (.bool r) /\ Below w.heap.size w w' := by
 have hu25 := Tryz.underlying25
 have hu28 := Tryz.underlying28
 have HR0_1 := am hr0_1
 have HC0_1 := am hc0_1
 clear hr0_1 hc0_1
 have HR0_2 := am hr0_2
 have HC0_2 := am hc0_2
 clear hr0_2 hc0_2
 have HR1_0 := am hr1_0
 have HC1_0 := am hc1_0
 clear hr1_0 hc1_0
 have HR1_1 := am hr1_1
 have HC1_1 := am hc1_1
 clear hr1_1 hc1_1
 have HB := am (jc w.heap.size w)
 have H := h
 clear h
 obtain ⟨t892, A3, H⟩ := be H
 replace H := ob H
 obtain ⟨rfl, H⟩ | ⟨rfl, H⟩ := H
 ·obtain rfl := sj H
  go_enter Tryz.func39, Tryz.ntmps39
  go_wp2_with (first | ((with_reducible refine zw (N := 2) rfl ?_); (try (refine zB (by rfl) ?_; dsimp only)); refine bx 2 rfl rfl (Vf a0_0 A0_1 l0_1 c0_1 A0_2 l0_2 c0_2) 25 ?_; intro gb890 hg w17 hbox hb; have BK890 := am (hbox); have GE890 := ge HB hg; replace HB := sb HB hb; clear hb hbox hg) | ((with_reducible refine zw (N := 3) rfl ?_); (try (refine zB (by rfl) ?_; dsimp only)); refine bx 3 rfl rfl (Vn A1_0 l1_0 c1_0 A1_1 l1_1 c1_1) 28 ?_; intro gb891 hg w18 hbox hb; have BK891 := am (hbox); have GE891 := ge HB hg; have NB890_891 := nl BK890 hg; have NB891_890 := ng BK890 hg; replace BK890 := kb BK890 hb; replace HB := sb HB hb; clear hb hbox hg; have hnb19 := NB890_891.out; have hnc19 := NB891_890.out; have hz20 := cf3 BK890.out; have hz21 := cf2 BK891.out) | ((with_reducible refine zz (f := 21) rfl ?_); refine gL (some 11) rfl rfl Tryz.func21 (Vf a0_0 A0_1 l0_1 c0_1 A1_0 l1_0 c1_0) rfl ?_; (with_reducible refine (Yt.calls k a0_0 _ _ l0_1 _ _ l1_0 false _ (cb HR0_1 HB) HC0_1.out (cb HR1_0 HB) HC1_0.out A3.out).mono ?_); rintro e w' ⟨rfl, ⟨nd, rfl⟩⟩; refine ⟨_, rfl, ?_⟩))
  go_ret
  exact ⟨rr, bb HB⟩
 obtain ⟨c5b0, H⟩ | ⟨c5b0, H⟩ := ei H
 ·have c5 := of_decide_eq_false c5b0
  have c5b1 : decide (l1_1.length <= 16) = false := dF (by omega)
  clear c5
  obtain rfl := sj H
  go_enter Tryz.func39, Tryz.ntmps39
  go_wp2_with (first | ((with_reducible refine zw (N := 2) rfl ?_); (try (refine zB (by rfl) ?_; dsimp only)); refine bx 2 rfl rfl (Vf a0_0 A0_1 l0_1 c0_1 A0_2 l0_2 c0_2) 25 ?_; intro gb890 hg w12 hbox hb; have BK890 := am (hbox); have GE890 := ge HB hg; replace HB := sb HB hb; clear hb hbox hg) | ((with_reducible refine zw (N := 3) rfl ?_); (try (refine zB (by rfl) ?_; dsimp only)); refine bx 3 rfl rfl (Vn A1_0 l1_0 c1_0 A1_1 l1_1 c1_1) 28 ?_; intro gb891 hg w13 hbox hb; have BK891 := am (hbox); have GE891 := ge HB hg; have NB890_891 := nl BK890 hg; have NB891_890 := ng BK890 hg; replace BK890 := kb BK890 hb; replace HB := sb HB hb; clear hb hbox hg; have hnb14 := NB890_891.out; have hnc14 := NB891_890.out; have hz15 := cf3 BK890.out; have hz16 := cf2 BK891.out) | ((with_reducible refine zz (f := 21) rfl ?_); refine gL (some 11) rfl rfl Tryz.func21 (Vf a0_0 A0_1 l0_1 c0_1 A1_0 l1_0 c1_0) rfl ?_; (with_reducible refine (Yt.calls k a0_0 _ _ l0_1 _ _ l1_0 true _ (cb HR0_1 HB) HC0_1.out (cb HR1_0 HB) HC1_0.out A3.out).mono ?_); rintro e w' ⟨rfl, ⟨nd, rfl⟩⟩; refine ⟨_, rfl, ?_⟩))
  go_ret
  exact ⟨rr, bb HB⟩
 have c5 := of_decide_eq_true c5b0
 have c5b1 : decide (l1_1.length <= 16) = true := dT (by omega)
 clear c5
 obtain ⟨t893, A6, H⟩ := be H
 obtain rfl := sj H
 go_enter Tryz.func39, Tryz.ntmps39
 go_wp2_with (first | ((with_reducible refine zw (N := 2) rfl ?_); (try (refine zB (by rfl) ?_; dsimp only)); refine bx 2 rfl rfl (Vf a0_0 A0_1 l0_1 c0_1 A0_2 l0_2 c0_2) 25 ?_; intro gb890 hg w7 hbox hb; have BK890 := am (hbox); have GE890 := ge HB hg; replace HB := sb HB hb; clear hb hbox hg) | ((with_reducible refine zw (N := 3) rfl ?_); (try (refine zB (by rfl) ?_; dsimp only)); refine bx 3 rfl rfl (Vn A1_0 l1_0 c1_0 A1_1 l1_1 c1_1) 28 ?_; intro gb891 hg w8 hbox hb; have BK891 := am (hbox); have GE891 := ge HB hg; have NB890_891 := nl BK890 hg; have NB891_890 := ng BK890 hg; replace BK890 := kb BK890 hb; replace HB := sb HB hb; clear hb hbox hg; have hnb9 := NB890_891.out; have hnc9 := NB891_890.out; have hz10 := cf3 BK890.out; have hz11 := cf2 BK891.out) | ((with_reducible refine zz (f := 21) rfl ?_); refine gL (some 11) rfl rfl Tryz.func21 (Vf a0_0 A0_1 l0_1 c0_1 A1_0 l1_0 c1_0) rfl ?_; (with_reducible refine (Yt.calls k a0_0 _ _ l0_1 _ _ l1_0 true _ (cb HR0_1 HB) HC0_1.out (cb HR1_0 HB) HC1_0.out A3.out).mono ?_); rintro e w' ⟨rfl, ⟨nd, rfl⟩⟩; refine ⟨_, rfl, ?_⟩) | (go_at_call 49; (with_reducible refine (ZD.calls k a0_0 _ _ l1_1 t893 _ ?side1 HC1_1.out A6.out).mono ?_); (case side1 => repeat (first | exact (ji HR1_1.out (bb HB)) | with_reducible first | apply Kd.C_alloc | apply Kd.C_drewN | apply Kd.C_drew)); rintro e w' ⟨rfl, ⟨nd, rfl⟩⟩))
 go_ret
 exact ⟨rr, bb HB⟩
def Zh.j0 : Nat -> Bool -> Int -> List (S76) -> List (S81) -> List Int -> List Int -> Option (Int)
 | 0, _, _, _, _, _, _ => none
 | k + 1, x15, x895000, x895001, x895002, x896000, x896001 => if x15 = true then (some 1) else ((yR.f k x895000 x895001 x895002 x896000 x896001).bind fun t897 => (if t897 = true then (some 0) else (some 50)))
def Zh.f (k : Nat) (a0_0 : Int) (l0_1 : List (S76)) (l0_2 : List (S81)) (a1 : Int) (l2_0 : List Int) (l2_1 : List Int) : Option (Int) := (z2g.f k a0_0 l0_1 l0_2).bind fun t896 => (if t896 = true then (if a1 < 0 then (Zh.j0 k true a0_0 l0_1 l0_2 l2_0 l2_1) else (Zh.j0 k (decide (a1 > 4096)) a0_0 l0_1 l0_2 l2_0 l2_1)) else (some 30))
theorem Zh.calls (k : Nat) (a0_0 : Int) (A0_1 : Option Addr) (c0_1 : Nat) (l0_1 : List (S76)) (A0_2 : Option Addr) (c0_2 : Nat) (l0_2 : List (S81)) (a1 : Int) (A2_0 : Option Addr) (c2_0 : Nat) (l2_0 : List Int) (A2_1 : Option Addr) (c2_1 : Nat) (l2_1 : List Int) (r : Int) (w : World) (hr0_1 : Kd.C k76 w A0_1 l0_1.length l0_1) (hc0_1 : l0_1.length <= c0_1) (hr0_2 : Kd.C k81 w A0_2 l0_2.length l0_2) (hc0_2 : l0_2.length <= c0_2) (hr2_0 : Kd.C (Kd.int .i64) w A2_0 l2_0.length l2_0) (hc2_0 : l2_0.length <= c2_0) (hr2_1 : Kd.C (Kd.int .i64) w A2_1 l2_1.length l2_1) (hc2_1 : l2_1.length <= c2_1) (h : Zh.f k a0_0 l0_1 l0_2 a1 l2_0 l2_1 = some r) :
  Calls Tryz.prog 13 #[.agg (Vf a0_0 A0_1 l0_1 c0_1 A0_2 l0_2 c0_2), .int .i64 a1, .agg (Vn A2_0 l2_0 c2_0 A2_1 l2_1 c2_1)] w fun e w' => e = .returned (.int .i64 r) /\ Below w.heap.size w w' := by
 have hu25 := Tryz.underlying25
 have hu28 := Tryz.underlying28
 have HR0_1 := am hr0_1
 have HC0_1 := am hc0_1
 clear hr0_1 hc0_1
 have HR0_2 := am hr0_2
 have HC0_2 := am hc0_2
 clear hr0_2 hc0_2
 have HR2_0 := am hr2_0
 have HC2_0 := am hc2_0
 clear hr2_0 hc2_0
 have HR2_1 := am hr2_1
 have HC2_1 := am hc2_1
 clear hr2_1 hc2_1
 have HB := am (jc w.heap.size w)
 have H := h
 clear h
 obtain ⟨t896, A4, H⟩ := be H
 replace H := ob H
 obtain ⟨rfl, H⟩ | ⟨rfl, H⟩ := H
 ·obtain rfl := sj H
  go_enter Tryz.func13, Tryz.ntmps13
  go_wp2_with (first | ((with_reducible refine zw (N := 3) rfl ?_); refine bz HB 3 rfl rfl (Vf a0_0 A0_1 l0_1 c0_1 A0_2 l0_2 c0_2) 25 ?_; intro gb894 w24 BK894 GE894 HB) | ((with_reducible refine zw (N := 5) rfl ?_); refine bx 5 rfl rfl (Vn A2_0 l2_0 c2_0 A2_1 l2_1 c2_1) 28 ?_; intro gb895 hg w25 hbox hb; have BK895 := am (hbox); have GE895 := ge HB hg; have NB894_895 := nl BK894 hg; have NB895_894 := ng BK894 hg; replace BK894 := kb BK894 hb; replace HB := sb HB hb; clear hb hbox hg; have hnb26 := NB894_895.out; have hnc26 := NB895_894.out; have hz27 := cf3 BK894.out) | (go_at_call 10; (with_reducible refine (z2g.calls k a0_0 _ _ l0_1 _ _ l0_2 false _ (cb HR0_1 HB) HC0_1.out (cb HR0_2 HB) HC0_2.out A4.out).mono ?_); rintro e w28 ⟨rfl, hb⟩; replace BK894 := kb BK894 hb; replace BK895 := kb BK895 hb; replace HB := sb HB hb))
  go_ret
  exact ⟨rr, bb HB⟩
 have HC6 := am H
 clear H
 go_enter Tryz.func13, Tryz.ntmps13
 go_upto_region 3 with (first | ((with_reducible refine zw (N := 3) rfl ?_); refine bz HB 3 rfl rfl (Vf a0_0 A0_1 l0_1 c0_1 A0_2 l0_2 c0_2) 25 ?_; intro gb894 w7 BK894 GE894 HB) | ((with_reducible refine zw (N := 5) rfl ?_); refine bx 5 rfl rfl (Vn A2_0 l2_0 c2_0 A2_1 l2_1 c2_1) 28 ?_; intro gb895 hg w8 hbox hb; have BK895 := am (hbox); have GE895 := ge HB hg; have NB894_895 := nl BK894 hg; have NB895_894 := ng BK894 hg; replace BK894 := kb BK894 hb; replace HB := sb HB hb; clear hb hbox hg; have hnb9 := NB894_895.out; have hnc9 := NB895_894.out; have hz10 := cf3 BK894.out) | (go_at_call 10; (with_reducible refine (z2g.calls k a0_0 _ _ l0_1 _ _ l0_2 true _ (cb HR0_1 HB) HC0_1.out (cb HR0_2 HB) HC0_2.out A4.out).mono ?_); rintro e w11 ⟨rfl, hb⟩; replace BK894 := kb BK894 hb; replace BK895 := kb BK895 hb; replace HB := sb HB hb))
 (try simp only [Act.put, List.setIfInBounds_toArray, List.set_cons_zero, List.set_cons_succ])
 go_cut [15] (fun v15 wc => ∃ (kq : Nat) (x15_5 : Bool), v15 = .bool x15_5 /\ Aside0 (Zh.j0 kq x15_5 a0_0 l0_1 l0_2 l2_0 l2_1 = some r) /\ Aside0 (kq <= k) /\ Aside0 (wc.heap[gb894]? = some (.cells #[.int .i64 a0_0, (.slice A0_1 l0_1.length c0_1), (.slice A0_2 l0_2.length c0_2)] 25 (0, 0))) /\ Aside0 (wc.heap[gb895]? = some (.cells #[(.slice A2_0 l2_0.length c2_0), (.slice A2_1 l2_1.length c2_1)] 28 (0, 0))) /\ Aside0 (Below w.heap.size w wc))
 case first =>
  have H := HC6.out
  clear HC6
  obtain ⟨c12b0, H⟩ | ⟨c12b0, H⟩ := iE H
  ·(first | rw [c12b0] | (simp only [zP, Zr]; rw [c12b0]) | skip)
   have H' := am H
   clear H
   go_wp2
   go_meet
   case rel => exact ⟨_, (true), rs, H', ⟨by first | omega | exact jk _⟩, ⟨kk BK894⟩, ⟨kk BK895⟩, ⟨bb HB⟩⟩
  (first | rw [c12b0] | (simp only [zP, Zr]; rw [c12b0]) | skip)
  have H' := am H
  clear H
  go_wp2
  go_meet
  case rel => exact ⟨_, (decide (a1 > 4096)), rs, H', ⟨by first | omega | exact jk _⟩, ⟨kk BK894⟩, ⟨kk BK895⟩, ⟨bb HB⟩⟩
 case rest =>
  clear HC6
  obtain ⟨kq, x15_5, rfl, HA, HJ5, BK894, BK895, HB⟩ := hcut
  cases kq with
  | zero => exact jm HA.out (by simp [Zh.j0])
  | succ kj5 =>
   have H := HA.out
   clear HA
   simp only [Zh.j0] at H
   replace H := bo H
   obtain ⟨rfl, H⟩ | ⟨rfl, H⟩ := H
   ·obtain rfl := sj H
    go_wp2
    go_ret
    exact ⟨rr, bb HB⟩
   obtain ⟨t897, A14, H⟩ := be H
   replace H := bo H
   obtain ⟨rfl, H⟩ | ⟨rfl, H⟩ := H
   ·obtain rfl := sj H
    have hnb16 := NB894_895.out
    have hnc16 := NB895_894.out
    have hz17 := cf3 BK894.out
    have hz18 := cf2 BK895.out
    go_wp2_with (first | (go_at_call 39; (with_reducible refine (yR.calls kj5 a0_0 _ _ l0_1 _ _ l0_2 _ _ l2_0 _ _ l2_1 true _ (cb HR0_1 HB) HC0_1.out (cb HR0_2 HB) HC0_2.out (cb HR2_0 HB) HC2_0.out (cb HR2_1 HB) HC2_1.out A14.out).mono ?_); rintro e w19 ⟨rfl, hb⟩; replace BK894 := kb BK894 hb; replace BK895 := kb BK895 hb; replace HB := sb HB hb))
    go_ret
    exact ⟨rr, bb HB⟩
   obtain rfl := sj H
   have hnb20 := NB894_895.out
   have hnc20 := NB895_894.out
   have hz21 := cf3 BK894.out
   have hz22 := cf2 BK895.out
   go_wp2_with (first | (go_at_call 39; (with_reducible refine (yR.calls kj5 a0_0 _ _ l0_1 _ _ l0_2 _ _ l2_0 _ _ l2_1 false _ (cb HR0_1 HB) HC0_1.out (cb HR0_2 HB) HC0_2.out (cb HR2_0 HB) HC2_0.out (cb HR2_1 HB) HC2_1.out A14.out).mono ?_); rintro e w23 ⟨rfl, hb⟩; replace BK894 := kb BK894 hb; replace BK895 := kb BK895 hb; replace HB := sb HB hb))
   go_ret
   exact ⟨rr, bb HB⟩
theorem eqA76 (d : Nat) (w : World) (x0 y0 : ByteArray) (x1 y1 : Int) (x2 y2 : Int) :
  (Op.equalIn (d + 2) 76 (.agg #[.string x0, .int .i64 x1, .int .i64 x2]) (.agg #[.string y0, .int .i64 y1, .int .i64 y2])).run Tryz.prog w = .ok (x0.toList == y0.toList && (x1 == y1 && (x2 == y2))) w := by
 refine z45 Tryz.underlying76 (by kernel_rfl) ?_
 refine Yc (by rfl) (by go_simp; rfl) (by go_simp; rfl) (by go_simp) ?_
 refine Yc (by rfl) (by go_simp; rfl) (by go_simp; rfl) (by go_simp) ?_
 exact z1R (by rfl) (by go_simp; rfl) (by go_simp; rfl) (by go_simp)
end Go.Proofs.YtnlekgadadifdaaGreat.Print
namespace Go.Proofs.YtnlekgadadifdaaGreat.Print
open Go.RowKit Go.Proofs.YtnlekgadadifdaaGreatW.PrintWords Go.Proofs.YtnlekgadadifdaaGreatW.PrintLast Go.Proofs.YtnlekgadadifdaaGreatW.PrintMore
attribute [local go_sem] zn zl zr zq zh zg zm zk
set_option linter.unusedVariables false
set_option linter.unusedSimpArgs false
attribute [local go_sem high] eqA76
def Zn.l0 : Nat -> List (S76) -> List (S76) -> Int -> Option (Bool)
 | 0, _, _, _ => none
 | k + 1, x0, x1, x5 => if x5 < (x0.length : Int) then (if 0 <= x5 then (if x5 < (x1.length : Int) then (if (!((((zp x0 x5).f0).toList) == (((zp x1 x5).f0).toList)) || (!(((zp x0 x5).f1) == ((zp x1 x5).f1)) || (!(((zp x0 x5).f2) == ((zp x1 x5).f2))))) = true then (some false) else (Zn.l0 k x0 x1 (wrap64 (x5 + 1)))) else (none)) else (none)) else (some true)
def Zn.f (k : Nat) (l0 : List (S76)) (l1 : List (S76)) : Option (Bool) := if (l0.length : Int) = (l1.length : Int) then (Zn.l0 k l0 l1 0) else (some false)
theorem Zn.calls (k : Nat) (A0 : Option Addr) (c0 : Nat) (l0 : List (S76)) (A1 : Option Addr) (c1 : Nat) (l1 : List (S76)) (r : Bool) (w : World) (hr0 : Kd.C k76 w A0 l0.length l0) (hc0 : l0.length <= c0) (hr1 : Kd.C k76 w A1 l1.length l1) (hc1 : l1.length <= c1) (h : Zn.f k l0 l1 = some r) :
  Calls Tryz.prog 38 (Vn A0 l0 c0 A1 l1 c1) w fun e w' => e = .returned (.bool r) /\ zT w w' := by
 have hu76 := Tryz.underlying76
 have HR0 := am hr0
 have HC0 := am hc0
 clear hr0 hc0
 have HR1 := am hr1
 have HC1 := am hc1
 clear hr1 hc1
 have H := h
 clear h
 obtain ⟨c3, c3b0, c3b1, H⟩ | ⟨c3b0, c3b1, H⟩ := qi H
 ·have c3b2 : (l0.length == l1.length) = false := by first | simpa using c3 | (simp at c3 ⊢; omega)
  obtain rfl := sj H
  go_enter Tryz.func38, Tryz.ntmps38
  go_wp2
  repeat (go_quiet (fail); try go_wp2)
  go_ret
  exact ⟨rs, dr⟩
 have c3 := beq_iff_eq.mp c3b0
 have c3b2 : (l0.length == l1.length) = true := by first | simpa using c3 | (simp at c3 ⊢; omega)
 clear c3
 have H' := am H
 clear H
 go_enter Tryz.func38, Tryz.ntmps38
 go_wp2
 repeat (go_quiet (fail); try go_wp2)
 go_loopg [5] k (fun kq v5 w' => ∃ (x5_1 : Int), v5 = .int .i64 x5_1 /\ Aside0 (Zn.l0 kq l0 l1 x5_1 = some r) /\ Aside0 (kq <= k) /\ zT w w')
 case atStart => exact ⟨(0), rs, H', ⟨jk _⟩, dr⟩
 case round =>
  clear H'
  obtain ⟨x5_1, rfl, HA, HK1, ⟨m1, rfl⟩⟩ := hrel
  cases gk with
  | zero => exact jm HA.out (by simp [Zn.l0])
  | succ k1 =>
   have H := HA.out
   clear HA
   simp only [Zn.l0] at H
   obtain ⟨c4b0, H⟩ | ⟨c4b0, H⟩ := ei H
   ·obtain rfl := sj H
    go_wp2
    repeat (go_quiet (fail); try go_wp2)
    go_ret
    exact ⟨rs, dr⟩
   obtain ⟨c5b0, H⟩ := pd H
   obtain ⟨c6b0, H⟩ := pd H
   by_cases c7 : (!((((zp l0 x5_1).f0).toList) == (((zp l1 x5_1).f0).toList)) || (!(((zp l0 x5_1).f1) == ((zp l1 x5_1).f1)) || (!(((zp l0 x5_1).f2) == ((zp l1 x5_1).f2))))) = true
   ·rw [jb c7] at H
    have c7b0 : (!((((zp l0 x5_1).f0).toList) == (((zp l1 x5_1).f0).toList)) || (!(((zp l0 x5_1).f1) == ((zp l1 x5_1).f1)) || (!(((zp l0 x5_1).f2) == ((zp l1 x5_1).f2))))) = true := c7
    clear c7
    obtain rfl := sj H
    have p880 : 0 <= (x5_1 : Int) := od
    have q880 : x5_1 < (l0.length : Int) := od
    obtain ⟨ad880, e880, hx880_0, hx880_1, hx880_2⟩ := Zs HR0.out x5_1 p880 q880
    cases e880
    replace p880 := eT p880
    replace q880 := eT q880
    have p881 : 0 <= (x5_1 : Int) := od
    have q881 : x5_1 < (l1.length : Int) := od
    obtain ⟨ad881, e881, hx881_0, hx881_1, hx881_2⟩ := Zs HR1.out x5_1 p881 q881
    cases e881
    replace p881 := eT p881
    replace q881 := eT q881
    go_wp2
    repeat (go_quiet (fail); try go_wp2)
    go_ret
    exact ⟨rs, dr⟩
   rw [ja c7] at H
   have c7b0 : (!((((zp l0 x5_1).f0).toList) == (((zp l1 x5_1).f0).toList)) || (!(((zp l0 x5_1).f1) == ((zp l1 x5_1).f1)) || (!(((zp l0 x5_1).f2) == ((zp l1 x5_1).f2))))) = false := by simpa using c7
   clear c7
   have H' := am H
   clear H
   have p880 : 0 <= (x5_1 : Int) := od
   have q880 : x5_1 < (l0.length : Int) := od
   obtain ⟨ad880, e880, hx880_0, hx880_1, hx880_2⟩ := Zs HR0.out x5_1 p880 q880
   cases e880
   replace p880 := eT p880
   replace q880 := eT q880
   have p881 : 0 <= (x5_1 : Int) := od
   have q881 : x5_1 < (l1.length : Int) := od
   obtain ⟨ad881, e881, hx881_0, hx881_1, hx881_2⟩ := Zs HR1.out x5_1 p881 q881
   cases e881
   replace p881 := eT p881
   replace q881 := eT q881
   go_wp2
   repeat (go_quiet (fail); try go_wp2)
   go_roundg k1
   case measure => have := HK1.out; omega
   case rel => exact ⟨(wrap64 (x5_1 + 1)), rs, H', ⟨by have := HK1.out; omega⟩, dr⟩
end Go.Proofs.YtnlekgadadifdaaGreat.Print
set_option linter.unusedVariables false
set_option linter.unusedSimpArgs false
namespace Go.Proofs.YtnlekgadadifdaaGreat.Print
open Go.RowKit Go.Proofs.YtnlekgadadifdaaGreatW.PrintWords Go.Proofs.YtnlekgadadifdaaGreatW.PrintLast Go.Proofs.YtnlekgadadifdaaGreatW.PrintMore
attribute [local go_sem] zn zl zr zq zh zg zm zk 
theorem eqA134 (d : Nat) (w : World) (x0 y0 : Int) (x1 y1 : Int) :
  (Op.equalIn (d + 2) 134 (.agg (Veq x0 x1)) (.agg (Veq y0 y1))).run Tryz.prog w = .ok (x0 == y0 && (x1 == y1)) w := by
 refine z45 Tryz.underlying134 (by kernel_rfl) ?_
 refine Yc (by rfl) (by go_simp; rfl) (by go_simp; rfl) (by go_simp) ?_
 exact z1R (by rfl) (by go_simp; rfl) (by go_simp; rfl) (by go_simp)
theorem eqA93 (d : Nat) (w : World) (x0 y0 : Int) (x1 y1 : Int) (x2 y2 : Int) (x3 y3 : Int) (x4 y4 : Int) :
  (Op.equalIn (d + 2) 93 (.agg (Vl x0 x1 x2 x3 x4)) (.agg (Vl y0 y1 y2 y3 y4))).run Tryz.prog w = .ok (x0 == y0 && (x1 == y1 && (x2 == y2 && (x3 == y3 && (x4 == y4))))) w := by
 refine z45 Tryz.underlying93 (by kernel_rfl) ?_
 refine Yc (by rfl) (by go_simp; rfl) (by go_simp; rfl) (by go_simp) ?_
 refine Yc (by rfl) (by go_simp; rfl) (by go_simp; rfl) (by go_simp) ?_
 refine Yc (by rfl) (by go_simp; rfl) (by go_simp; rfl) (by go_simp) ?_
 refine Yc (by rfl) (by go_simp; rfl) (by go_simp; rfl) (by go_simp) ?_
 exact z1R (by rfl) (by go_simp; rfl) (by go_simp; rfl) (by go_simp)
theorem z2K : ∀ (suf pre : List S76), (pre ++ suf).length <= 9223372036854775807 -> zc (fun k => Zn.l0 k (pre ++ suf) (pre ++ suf) (pre.length : Int)) true
 | [], pre, _ => by
  refine zc.succ ?_
  simp only [Zn.l0, ZL, if_false]
  exact zc.pure _
 | v :: r, pre, hl => by
  refine zc.succ ?_
  simp only [Zn.l0, Zo, Z6, if_true, YJ, beq_self_eq_true, Bool.not_true, Bool.or_self, Bool.false_eq_true, if_false]
  rw [Zi pre v r hl]
  have ih := z2K r (pre ++ [v]) (by rw [<- zQ]; exact hl)
  rw [<- zQ] at ih
  exact ih
theorem z4n (l : List S76) (hl : l.length <= 9223372036854775807) : zc (fun k => Zn.f k l l) true := by
 unfold Zn.f
 exact zc.ifT rfl (z2K l [] hl)
def z5B (n : Nat) (l1 : List S76) (fuel : Int) (st pk : List Int) : Prop := 0 <= fuel /\ fuel <= 4096 /\ z2u n l1 st /\ ∀ a ∈ pk, WW n a
theorem z1L {n : Nat} {l1 : List S76} {body : List S81} (hp : pIs (n : Int) l1 body = true) (hl : body.length <= 9223372036854775807) (hg : ZM body) (hh : z0s n l1) (fuel : Int) (st pk : List Int) (h1 : st.length <= 9223372036854775807) (h2 : pk.length <= 9223372036854775807) :
  ∃ r, zc (fun k => Zh.f k (n : Int) l1 body fuel st pk) r /\ (r = 0 -> z5B n l1 fuel st pk) := by
 have hI := z3x (n : Int) l1 body hl hg
 rw [hp] at hI
 have hn1 := hh.1
 have hn8 := hh.2.1
 unfold Zh.f
 by_cases hf : fuel < 0
 ·refine ⟨1, zc.bind hI (zc.ifT rfl (zc.ifT hf (zc.succ ?_))), fun h => jm h (by decide)⟩
  simp only [Zh.j0, if_true]
  exact zc.pure _
 by_cases hf2 : fuel > 4096
 ·refine ⟨1, zc.bind hI (zc.ifT rfl (zc.ifF hf (zc.succ ?_))), fun h => jm h (by decide)⟩
  simp only [Zh.j0, decide_eq_true hf2, if_true]
  exact zc.pure _
 have hS := z7Q (n : Int) l1 st (by omega) (by omega) hh.2.2.2 hh.2.2.1 h1
 have hW := z1l (n : Int) (by omega) (by omega) pk [] h2
 have fin : ∀ b : Bool, zc (fun k => yR.f k (n : Int) l1 body st pk) b -> zc (fun k => (z2g.f k (n : Int) l1 body).bind fun t896 => (if t896 = true then (if fuel < 0 then (Zh.j0 k true (n : Int) l1 body st pk) else (Zh.j0 k (decide (fuel > 4096)) (n : Int) l1 body st pk)) else (some 30))) (if b = true then 0 else 50) := fun b hb => by
  refine zc.bind hI (zc.ifT rfl (zc.ifF hf (zc.succ ?_)))
  simp only [Zh.j0, decide_eq_false hf2, Bool.false_eq_true, if_false]
  refine zc.bind hb ?_
  cases b
  ·exact zc.ifF (by simp) (zc.pure _)
  ·exact zc.ifT rfl (zc.pure _)
 by_cases c1 : (st.length : Int) = cs l1
 case neg =>
  rw [decide_eq_false c1, jx] at hS
  refine ⟨_, fin false (by unfold yR.f; exact zc.bind hS (zc.ifF (by simp) (zc.pure _))), fun h => jm h (by simp)⟩
 rw [decide_eq_true c1, Bool.true_and, jh] at hS
 cases c2 : z1f (2 ^ n) st
 ·rw [c2] at hS
  exact ⟨_, fin false (by unfold yR.f; exact zc.bind hS (zc.ifF (by simp) (zc.pure _))), fun h => jm h (by simp)⟩
 rw [c2] at hS
 by_cases c3 : (pk.length : Int) <= 16
 case neg => exact ⟨_, fin false (by unfold yR.f; exact zc.bind hS (zc.ifT rfl (zc.ifF c3 (zc.pure _)))), fun h => jm h (by simp)⟩
 rw [jh] at hW
 refine ⟨_, fin (z1f (2 ^ n) pk) (by unfold yR.f ZD.f; exact zc.bind hS (zc.ifT rfl (zc.ifT c3 (zc.bind hW (zc.pure _))))), fun h => ?_⟩
 have c4 : z1f (2 ^ n) pk = true := by
  by_cases h4 : z1f (2 ^ n) pk = true
  ·exact h4
  ·rw [ja h4] at h
   exact jm h (by decide)
 exact ⟨by omega, by omega, ⟨c1, fun a ha => z3s.1 c2 a ha⟩, fun a ha => z3s.1 c4 a ha⟩
theorem prog_ok {w : Int} {l1 : List S76} {body : List S81} (hp : pIs w l1 body = true) (hg : ZM body) : ∃ n : Nat, w = n /\ z0s n l1 /\ IVs n l1 0 body := by
 obtain ⟨hh, hn⟩ := z5G hp
 obtain ⟨w1, w8, _, h18, hv, _⟩ := z44 hh
 refine ⟨w.toNat, by omega, ⟨by omega, by omega, h18, fun v hm => (hv v hm).2.2⟩, jq _, ?_, ?_, hn, hg⟩
 ·have := (z73.2 body).1
  omega
 ·unfold pIs at hp
  rw [jg, jg, jg] at hp
  rw [show ((w.toNat : Nat) : Int) = w by omega]
  exact hp.2.2.2
theorem okS_of (w : Int) (vars : List S76) : (∀ x : S81, sOK w vars x = true -> okS x) /\ (∀ l : List S81, YC w vars l = true -> z1J l) := by
 refine z1k (fun a b l t e h1 h2 h => ?_) (fun _ => trivial) (fun x r h1 h2 h => ?_)
 ·rw [z0y, jg, jg, jg] at h
  obtain ⟨hh, ht, he, _⟩ := h
  refine ⟨fun ho hl => ?_, h1 ht, h2 he⟩
  simp only at hh
  subst hl
  unfold z0c YY at hh
  rw [jg, decide_eq_true_iff] at hh
  have := hh.1
  rcases ho with rfl | rfl
  ·simp at this
   split at this <;> omega
  ·simp at this
   split at this <;> omega
 ·rw [yX, jg] at h
  exact ⟨h1 h.1, h2 h.2⟩
theorem tlk {α : Type} {g : Nat -> Option α} {v : α} (h : zc g v) : ∃ k0, ∀ k, k0 <= k -> g k = some v := h
def z4e (k : Nat) (w : Int) (l1 : List S76) (body : List S81) : Prop := (z1J body /\ nSs body < 900000 /\ kSs body < 900000) /\ l1.length < 1000000 /\ zK.f k w l1 = some true /\ (zG body).length <= 4000 /\ (∀ j : Nat, j < (zG body).length -> z0A k w l1 (zG body) (ya (zG body) j)) /\ Zn.f k l1 l1 = some true
theorem z5n {n : Nat} {l1 : List S76} {body : List S81} (hp : pIs (n : Int) l1 body = true) (hh : z0s n l1) (hv : IVs n l1 0 body) : ∃ k0, ∀ k, k0 <= k -> z4e k (n : Int) l1 body := by
 obtain ⟨hI, _⟩ := z5G hp
 have hH := z14 (n : Int) l1
 rw [hI] at hH
 obtain ⟨k1, h1⟩ := tlk hH
 obtain ⟨k2, h2⟩ := code_ok (l1 := l1) hh.1 hh.2.1 hv
 obtain ⟨k3, h3⟩ := tlk (z4n l1 (by have := hh.2.2.1; omega))
 have hb := nS_le.2 body
 have hn := hv.2.2.2.1
 have h18 := hh.2.2.1
 refine ⟨k1 + k2 + k3, fun k hk => ⟨⟨(okS_of (n : Int) l1).2 body hv.2.2.1, by omega, by omega⟩, by omega, h1 k (by omega), by rw [YW]; omega, h2 k (by omega), h3 k (by omega)⟩⟩
theorem for_ok.calls (k : Nat) (wd : Int) (A1 : Option Addr) (c1 : Nat) (l1 : List S76) (A2 : Option Addr) (c2 n2 : Nat) (B1 : Option Addr) (d1 : Nat) (B2 : Option Addr) (d2 : Nat) (body : List S81) (w : World) (h1 : Kd.C k76 w A1 l1.length l1) (hc1 : l1.length <= c1) (h2 : Kd.C k76 w B1 l1.length l1) (hc2 : l1.length <= d1) (h3 : Kd.C k93 w B2 (zG body).length (zG body)) (hc3 : (zG body).length <= d2) (hC : z4e k wd l1 body) :
  Calls Tryz.prog 12 #[.agg (Vo wd A1 l1 c1 A2 n2 c2), .agg (Vf wd B1 l1 d1 B2 (zG body) d2)] w fun e w' => e = .returned (.bool true) /\ Below w.heap.size w w' := by
 have huP := Tryz.underlying25
 have huC := Tryz.underlying33
 obtain ⟨_, _, hH, hl, hR, hS⟩ := hC
 have hlast := z6z body
 have hlen := YW body
 generalize zG body = ins at h3 hc3 hl hR hlast hlen ⊢
 have H1 := am h1
 have H2 := am h2
 have H3 := am h3
 have C1 := am hc1
 have C2 := am hc2
 have C3 := am hc3
 have HH := am hH
 have HL := am hl
 have HR := am hR
 have HS := am hS
 have HLA := am hlast
 have HLE := am (show 1 <= ins.length by omega)
 obtain ⟨b_, hsz_, x0_, x1_⟩ := z4P w (.cells (Vo wd A1 l1 c1 A2 n2 c2) 25) (.cells (Vf wd B1 l1 d1 B2 ins d2) 33)
 have B0 := am b_
 have X0 := am x0_
 have X1 := am x1_
 clear h1 h2 h3 hc1 hc2 hc3 hH hl hR hS hlast hlen b_ hsz_ x0_ x1_
 go_enter Tryz.func12, Tryz.ntmps12
 go_upto_region 1 with (fail)
 generalize (w.alloc (.cells (Vo wd A1 l1 c1 A2 n2 c2) 25)).alloc (.cells (Vf wd B1 l1 d1 B2 ins d2) 33) = W at B0 X0 X1 ⊢
 have p_q := bq X0.out
 have q_q := bq X1.out
 go_wp2_with (first | (go_at_call 18; refine (z66.calls k wd B1 d1 l1 B2 d2 ins W (ji H2.out B0.out) C2.out (ji H3.out B0.out) C3.out HH.out HLE.out HL.out HR.out (.inr HLA.out)).mono ?_; rintro e W2 ⟨rfl, hb⟩; have B2 := am (B0.out.trans (hb.mono B0.out.size)); have Y0 := am (zd X0.out hb); have Y1 := am (zd X1.out hb); clear hb p_q q_q; have p_q := bq Y0.out; have q_q := bq Y1.out) | (go_at_call 38; refine (Zn.calls k B1 d1 l1 A1 c1 l1 true _ (ji H2.out B2.out) C2.out (ji H1.out B2.out) C1.out HS.out).mono ?_; rintro e W3 ⟨rfl, hb⟩; have B3 := am (B2.out.trans ((Z8 hb).mono B2.out.size)); clear hb))
 go_ret
 exact ⟨rfl, B3.out⟩
theorem cmp_ok {k : Nat} {w : World} {a0 : Int} {l1 : List S76} {l2 : List S81} (hc : Zy.f k a0 l1 l2 = some 0) (H : z4e k a0 l1 l2) {A1 A2 : Option Addr} {n1 n2 : Nat} (h1 : Kd.C k76 w A1 l1.length l1) (hn1 : l1.length <= n1) (h2 : Kd.C k81 w A2 l2.length l2) (hn2 : l2.length <= n2) :
  Calls Tryz.prog 9 #[.agg (Vf a0 A1 l1 n1 A2 l2 n2)] w fun e w' => ∃ D1 d1 D2 d2, e = .returned (.tuple #[.agg (Vf a0 D1 l1 d1 D2 (zG l2) d2), .int .i64 0]) /\ Kd.C k76 w' D1 l1.length l1 /\ l1.length <= d1 /\ Kd.C k93 w' D2 (zG l2).length (zG l2) /\ (zG l2).length <= d2 /\ Below w.heap.size w w' := by
 refine (z0F.calls k a0 A1 n1 l1 A2 n2 l2 0 w h1 hn1 h2 hn2 hc (fun _ => H.1) (fun _ => H.2.1)).mono ?_
 rintro e w' ⟨v1, v2, rfl, r1, r2, hb⟩
 rw [show yP 0 a0 l1 l2 = (a0, l1, zG l2, 0) by rw [yP, jb rfl]] at r1 r2 ⊢
 obtain ⟨D1, d1, rfl⟩ := js r1
 obtain ⟨D2, d2, rfl⟩ := js r2
 exact ⟨D1, d1, D2, d2, rfl, (Kd.R_reads' r1).2.2, (Kd.R_reads' r1).2.1, (Kd.R_reads' r2).2.2, (Kd.R_reads' r2).2.1, hb⟩
theorem eqA144 (d : Nat) (w : World) (x0 y0 : Int) (x1 y1 : Int) (x2 y2 : Int) :
  (Op.equalIn (d + 2) 144 (.agg #[.int .i64 x0, .int .i64 x1, .int .i64 x2]) (.agg #[.int .i64 y0, .int .i64 y1, .int .i64 y2])).run Tryz.prog w = .ok (x0 == y0 && (x1 == y1 && (x2 == y2))) w := by
 refine z45 Tryz.underlying144 (by kernel_rfl) ?_
 refine Yc (by rfl) (by go_simp; rfl) (by go_simp; rfl) (by go_simp) ?_
 refine Yc (by rfl) (by go_simp; rfl) (by go_simp; rfl) (by go_simp) ?_
 exact z1R (by rfl) (by go_simp; rfl) (by go_simp; rfl) (by go_simp)
end Go.Proofs.YtnlekgadadifdaaGreat.Print
namespace Go.Proofs.YtnlekgadadifdaaGreat.Print
open Go.RowKit Go.Proofs.YtnlekgadadifdaaGreatW.PrintWords Go.Proofs.YtnlekgadadifdaaGreatW.PrintLast Go.Proofs.YtnlekgadadifdaaGreatW.PrintMore
attribute [local go_sem] zn zl zr zq zh zg zm zk
set_option linter.unusedVariables false
set_option linter.unusedSimpArgs false
attribute [local go_sem high] eqA144
def ZE.l0 : Nat -> List (Z4) -> List (Z4) -> Int -> Option (Bool)
 | 0, _, _, _ => none
 | k + 1, x0, x1, x5 => if x5 < (x0.length : Int) then (if 0 <= x5 then (if x5 < (x1.length : Int) then (if (!(((Zl x0 x5).f0) == ((Zl x1 x5).f0)) || (!(((Zl x0 x5).f1) == ((Zl x1 x5).f1)) || (!(((Zl x0 x5).f2) == ((Zl x1 x5).f2))))) = true then (some false) else (ZE.l0 k x0 x1 (wrap64 (x5 + 1)))) else (none)) else (none)) else (some true)
def ZE.f (k : Nat) (l0 : List (Z4)) (l1 : List (Z4)) : Option (Bool) := if (l0.length : Int) = (l1.length : Int) then (ZE.l0 k l0 l1 0) else (some false)
theorem ZE.calls (k : Nat) (A0 : Option Addr) (c0 : Nat) (l0 : List (Z4)) (A1 : Option Addr) (c1 : Nat) (l1 : List (Z4)) (r : Bool) (w : World) (hr0 : Kd.C Ye w A0 l0.length l0) (hc0 : l0.length <= c0) (hr1 : Kd.C Ye w A1 l1.length l1) (hc1 : l1.length <= c1) (h : ZE.f k l0 l1 = some r) :
  Calls Tryz.prog 50 (Vn A0 l0 c0 A1 l1 c1) w fun e w' => e = .returned (.bool r) /\ zT w w' := by
 have hu144 := Tryz.underlying144
 have HR0 := am hr0
 have HC0 := am hc0
 clear hr0 hc0
 have HR1 := am hr1
 have HC1 := am hc1
 clear hr1 hc1
 have H := h
 clear h
 obtain ⟨c3, c3b0, c3b1, H⟩ | ⟨c3b0, c3b1, H⟩ := qi H
 ·have c3b2 : (l0.length == l1.length) = false := by first | simpa using c3 | (simp at c3 ⊢; omega)
  obtain rfl := sj H
  go_enter Tryz.func50, Tryz.ntmps50
  go_wp2
  repeat (go_quiet (fail); try go_wp2)
  go_ret
  exact ⟨rs, dr⟩
 have c3 := beq_iff_eq.mp c3b0
 have c3b2 : (l0.length == l1.length) = true := by first | simpa using c3 | (simp at c3 ⊢; omega)
 clear c3
 have H' := am H
 clear H
 go_enter Tryz.func50, Tryz.ntmps50
 go_wp2
 repeat (go_quiet (fail); try go_wp2)
 go_loopg [5] k (fun kq v5 w' => ∃ (x5_1 : Int), v5 = .int .i64 x5_1 /\ Aside0 (ZE.l0 kq l0 l1 x5_1 = some r) /\ Aside0 (kq <= k) /\ zT w w')
 case atStart => exact ⟨(0), rs, H', ⟨jk _⟩, dr⟩
 case round =>
  clear H'
  obtain ⟨x5_1, rfl, HA, HK1, ⟨m1, rfl⟩⟩ := hrel
  cases gk with
  | zero => exact jm HA.out (by simp [ZE.l0])
  | succ k1 =>
   have H := HA.out
   clear HA
   simp only [ZE.l0] at H
   obtain ⟨c4b0, H⟩ | ⟨c4b0, H⟩ := ei H
   ·obtain rfl := sj H
    go_wp2
    repeat (go_quiet (fail); try go_wp2)
    go_ret
    exact ⟨rs, dr⟩
   obtain ⟨c5b0, H⟩ := pd H
   obtain ⟨c6b0, H⟩ := pd H
   by_cases c7 : (!(((Zl l0 x5_1).f0) == ((Zl l1 x5_1).f0)) || (!(((Zl l0 x5_1).f1) == ((Zl l1 x5_1).f1)) || (!(((Zl l0 x5_1).f2) == ((Zl l1 x5_1).f2))))) = true
   ·rw [jb c7] at H
    have c7b0 : (!(((Zl l0 x5_1).f0) == ((Zl l1 x5_1).f0)) || (!(((Zl l0 x5_1).f1) == ((Zl l1 x5_1).f1)) || (!(((Zl l0 x5_1).f2) == ((Zl l1 x5_1).f2))))) = true := c7
    clear c7
    obtain rfl := sj H
    have p1336 : 0 <= (x5_1 : Int) := od
    have q1336 : x5_1 < (l0.length : Int) := od
    obtain ⟨ad1336, e1336, hx1336_0, hx1336_1, hx1336_2⟩ := z2A HR0.out x5_1 p1336 q1336
    cases e1336
    replace p1336 := eT p1336
    replace q1336 := eT q1336
    have p1337 : 0 <= (x5_1 : Int) := od
    have q1337 : x5_1 < (l1.length : Int) := od
    obtain ⟨ad1337, e1337, hx1337_0, hx1337_1, hx1337_2⟩ := z2A HR1.out x5_1 p1337 q1337
    cases e1337
    replace p1337 := eT p1337
    replace q1337 := eT q1337
    go_wp2
    repeat (go_quiet (fail); try go_wp2)
    go_ret
    exact ⟨rs, dr⟩
   rw [ja c7] at H
   have c7b0 : (!(((Zl l0 x5_1).f0) == ((Zl l1 x5_1).f0)) || (!(((Zl l0 x5_1).f1) == ((Zl l1 x5_1).f1)) || (!(((Zl l0 x5_1).f2) == ((Zl l1 x5_1).f2))))) = false := by simpa using c7
   clear c7
   have H' := am H
   clear H
   have p1336 : 0 <= (x5_1 : Int) := od
   have q1336 : x5_1 < (l0.length : Int) := od
   obtain ⟨ad1336, e1336, hx1336_0, hx1336_1, hx1336_2⟩ := z2A HR0.out x5_1 p1336 q1336
   cases e1336
   replace p1336 := eT p1336
   replace q1336 := eT q1336
   have p1337 : 0 <= (x5_1 : Int) := od
   have q1337 : x5_1 < (l1.length : Int) := od
   obtain ⟨ad1337, e1337, hx1337_0, hx1337_1, hx1337_2⟩ := z2A HR1.out x5_1 p1337 q1337
   cases e1337
   replace p1337 := eT p1337
   replace q1337 := eT q1337
   go_wp2
   repeat (go_quiet (fail); try go_wp2)
   go_roundg k1
   case measure => have := HK1.out; omega
   case rel => exact ⟨(wrap64 (x5_1 + 1)), rs, H', ⟨by have := HK1.out; omega⟩, dr⟩
end Go.Proofs.YtnlekgadadifdaaGreat.Print
set_option linter.unusedVariables false
set_option linter.unusedSimpArgs false
namespace Go.Proofs.YtnlekgadadifdaaGreat.Print
open Go.RowKit Go.Proofs.YtnlekgadadifdaaGreatW.PrintWords Go.Proofs.YtnlekgadadifdaaGreatW.PrintLast Go.Proofs.YtnlekgadadifdaaGreatW.PrintMore
attribute [local go_sem] zn zl zr zq zh zg zm zk 
def yw.f (k : Nat) (l0 : List (Z4)) (l1 : List (Z4)) : Option (Bool) := (ZE.f k l0 l1).bind fun t1338 => (some t1338)
theorem yw.calls (k : Nat) (A0 : Option Addr) (c0 : Nat) (l0 : List (Z4)) (A1 : Option Addr) (c1 : Nat) (l1 : List (Z4)) (r : Bool) (w : World) (hr0 : Kd.C Ye w A0 l0.length l0) (hc0 : l0.length <= c0) (hr1 : Kd.C Ye w A1 l1.length l1) (hc1 : l1.length <= c1) (h : yw.f k l0 l1 = some r) :
  Calls Tryz.prog 23 (Vn A0 l0 c0 A1 l1 c1) w fun e w' => e = .returned (.bool r) /\ zT w w' := by
 have HR0 := am hr0
 have HC0 := am hc0
 clear hr0 hc0
 have HR1 := am hr1
 have HC1 := am hc1
 clear hr1 hc1
 have H := h
 clear h
 obtain ⟨t1338, A3, H⟩ := be H
 obtain rfl := sj H
 go_enter Tryz.func23, Tryz.ntmps23
 go_wp2_with (first | ((with_reducible refine zz (f := 50) rfl ?_); refine gL (some 7) rfl rfl Tryz.func50 (Vn A0 l0 c0 A1 l1 c1) rfl ?_; (with_reducible refine (ZE.calls k _ _ l0 _ _ l1 t1338 _ (ca HR0) HC0.out (ca HR1) HC1.out A3.out).mono ?_); rintro e w' ⟨rfl, ⟨nd, rfl⟩⟩; refine ⟨_, rfl, ?_⟩))
 go_ret
 exact ⟨rs, dr⟩
theorem z4w (pre : List Z4) (x : Z4) (r : List Z4) {n : Int} (h : n = (pre.length : Int)) : Zl (pre ++ x :: r) n = x := by
 rw [h]
 exact z0Z pre x _ r
open Classical in
theorem z2n : ∀ (s1 s2 p1 p2 : List Z4), p1.length = p2.length -> s1.length = s2.length -> (p1 ++ s1).length <= 4611686018427387904 -> zc (fun k => ZE.l0 k (p1 ++ s1) (p2 ++ s2) (p1.length : Int)) (decide (s1 = s2))
 | [], [], p1, p2, _, _, _ => by
  refine zc.succ ?_
  simp only [ZE.l0, ZL, if_false]
  exact zc.pure _
 | x :: r, y :: s, p1, p2, hp, hs, hl => by
  simp only [je, jp] at hl hs
  refine zc.succ ?_
  simp only [ZE.l0, z4w p1 x r rfl, z4w p2 y s (show (p1.length : Int) = p2.length by omega)]
  refine zc.ifT (by rw [je, jp]; omega) (zc.ifT (by omega) (zc.ifT (by rw [je, jp]; omega) ?_))
  by_cases h : x = y
  ·subst h
   refine zc.ifF (by simp) ?_
   have ih := z2n r s (p1 ++ [x]) (p2 ++ [x]) (by simp [hp]) (by omega) (by simp only [je, jp, List.length_nil]; omega)
   rw [<- zQ, <- zQ] at ih
   have hn : wrap64 ((p1.length : Int) + 1) = (((p1 ++ [x]).length : Nat) : Int) := by rw [w64 (by omega) (by omega), je, List.length_singleton]; rfl
   rw [hn]
   have he : decide (x :: r = x :: s) = decide (r = s) := by simp
   rw [he]
   exact ih
  ·have he : decide (x :: r = y :: s) = false := dF (fun e => h (List.cons.inj e).1)
   rw [he]
   refine zc.ifT ?_ (zc.pure _)
   obtain ⟨a, b, c⟩ := x
   obtain ⟨d, e, f⟩ := y
   simp only [Bool.or_eq_true, Bool.not_eq_true', beq_eq_false_iff_ne]
   by_cases h1 : a = d
   ·by_cases h2 : b = e
    ·by_cases h3 : c = f
     ·exact jm (by rw [h1, h2, h3]) h
     ·exact .inr (.inr h3)
    ·exact .inr (.inl h2)
   ·exact .inl h1
open Classical in
theorem z1A (a b : List Z4) (hl : a.length <= 4611686018427387904) : zc (fun k => yw.f k a b) (decide (a = b)) := by
 unfold yw.f
 refine zc.bind ?_ (zc.pure _)
 unfold ZE.f
 by_cases h : (a.length : Int) = (b.length : Int)
 ·exact zc.ifT h (z2n a b [] [] rfl (by omega) hl)
 ·rw [decide_eq_false (fun e => h (by rw [e]))]
  exact zc.ifF h (zc.pure _)
theorem rgZ {Z : List Int} {x : Int} (h : x.toNat < Z.length) : rg Z x = Z[x.toNat] := by
 unfold rg
 rw [jw, jn h]
 rfl
theorem rgZ_inj {Z : List Int} (hZ : Z.Pairwise (· < ·)) {x y : Int} (h0 : 0 <= x) (h1 : x.toNat < Z.length) (h2 : 0 <= y) (h3 : y.toNat < Z.length) (h : rg Z x = rg Z y) : x = y := by
 rw [rgZ h1, rgZ h3] at h
 rcases Nat.lt_trichotomy x.toNat y.toNat with c | c | c
 ·have := List.pairwise_iff_getElem.1 hZ _ _ h1 h3 c
  omega
 ·omega
 ·have := List.pairwise_iff_getElem.1 hZ _ _ h3 h1 c
  omega
theorem z4j {Z : List Int} (hZ : Z.Pairwise (· < ·)) : ∀ {a b : List Z4}, z3o Z a -> z3o Z b -> a.map (z4k Z) = b.map (z4k Z) -> a = b
 | [], [], _, _, _ => rfl
 | [], y :: s, _, _, h => by simp at h
 | x :: r, [], _, _, h => by simp at h
 | x :: r, y :: s, ha, hb, h => by
  rw [List.map_cons, List.map_cons] at h
  obtain ⟨h1, h2⟩ := List.cons.inj h
  have ih := z4j hZ (fun e he => ha e (List.mem_cons_of_mem _ he)) (fun e he => hb e (List.mem_cons_of_mem _ he)) h2
  have hx := ha x (List.mem_cons_self ..)
  have hy := hb y (List.mem_cons_self ..)
  obtain ⟨x0, x1, x2⟩ := x
  obtain ⟨y0, y1, y2⟩ := y
  unfold z4k at h1
  dsimp only at h1 hx hy
  rw [ih]
  by_cases c : x0 = 0
  ·rw [jb c] at h1
   by_cases d : y0 = 0
   ·rw [jb d] at h1
    injection h1 with e1 e2 e3
    have := rgZ_inj hZ (hx c).1 (hx c).2 (hy d).1 (hy d).2 e2
    rw [c, d, this, show x2 = y2 by omega]
   ·rw [ja d] at h1
    injection h1 with e1 e2 e3
    exact jm e1.symm d
  ·rw [ja c] at h1
   by_cases d : y0 = 0
   ·rw [jb d] at h1
    injection h1 with e1 e2 e3
    exact jm e1 c
   ·rw [ja d] at h1
    rw [h1]
def Two (c1 d1 c d : VC) : Prop := (c1.ov = true /\ c1.ed ≠ 0) \/ (d1.ov = true /\ d1.ed ≠ 0) \/ (c1.ov = true /\ d1.ov = true /\ c1.co = c.co /\ d1.co = d.co) \/
 (c1.ov = false /\ d1.ov = false /\ c1.co = c.co /\ d1.co = d.co /\ c1.tr.length = d1.tr.length /\ (c1.tr = d1.tr -> c1.pc = d1.pc))
theorem z1y (l1 : List S76) (kind : Int) (v : Nat) (n : Int) (c : VC) : (vEv l1 kind v n c).ov = c.ov /\ (vEv l1 kind v n c).co = c.co /\ (∃ t, (vEv l1 kind v n c).tr = c.tr ++ t) /\ (vEv l1 kind v n c).tr.length = c.tr.length + (if 1 < (zp l1 v).f2 then 1 else 0) := by
 unfold vEv
 split
 ·exact ⟨rfl, rfl, ⟨_, rfl⟩, by simp⟩
 ·exact ⟨rfl, rfl, ⟨[], by simp⟩, rfl⟩
theorem z5y {k k' : Nat} {wd : Int} {l1 : List S76} {pk pk' : List Int} {c d c1 d1 : VC} {i : S93} (hc : vDo k wd l1 pk c i = some c1) (hd : vDo k' wd l1 pk' d i = some d1) (ho : c.ov = false) (ho' : d.ov = false) (hp : c.pc = d.pc) (ht : c.tr.length = d.tr.length) : Two c1 d1 c d /\ (∃ t, c1.tr = c.tr ++ t) /\ ∃ t, d1.tr = d.tr ++ t := by
 unfold vDo at hc hd
 have nx : ∀ {x : VC}, ∃ t, x.tr = x.tr ++ t := ⟨[], by simp⟩
 by_cases o0 : i.f0 = 0
 ·rw [jb o0] at hc hd
  obtain rfl := sj hc
  obtain rfl := sj hd
  exact ⟨.inr (.inr (.inr ⟨ho, ho', rfl, rfl, ht, fun _ => by show c.pc + 1 = d.pc + 1; omega⟩)), nx, nx⟩
 rw [ja o0] at hc hd
 by_cases o1 : i.f0 = 1
 ·rw [jb o1] at hc hd
  obtain ⟨_, _, rfl⟩ := Option.map_eq_some_iff.1 hc
  obtain ⟨_, _, rfl⟩ := Option.map_eq_some_iff.1 hd
  exact ⟨.inr (.inr (.inr ⟨ho, ho', rfl, rfl, ht, fun _ => by show c.pc + 1 = d.pc + 1; omega⟩)), nx, nx⟩
 rw [ja o1] at hc hd
 by_cases o2 : i.f0 = 2
 ·rw [jb o2] at hc hd
  obtain rfl := sj hc
  obtain rfl := sj hd
  exact ⟨.inr (.inr (.inr ⟨ho, ho', rfl, rfl, ht, fun _ => by show c.pc + 1 = d.pc + 1; omega⟩)), nx, nx⟩
 rw [ja o2] at hc hd
 by_cases o3 : i.f0 = 3
 ·rw [jb o3] at hc hd
  obtain ⟨f, _, rfl⟩ := Option.map_eq_some_iff.1 hc
  obtain ⟨f', _, rfl⟩ := Option.map_eq_some_iff.1 hd
  obtain ⟨a1, a2, a3, a4⟩ := z1y l1 1 i.f2.toNat (yt l1 c.re i.f2.toNat i.f3) c
  obtain ⟨b1, b2, b3, b4⟩ := z1y l1 1 i.f2.toNat (yt l1 d.re i.f2.toNat i.f3) d
  exact ⟨.inr (.inr (.inr ⟨a1.trans ho, b1.trans ho', a2, b2, by show (vEv ..).tr.length = (vEv ..).tr.length; rw [a4, b4, ht], fun _ => by show c.pc + 1 = d.pc + 1; omega⟩)), a3, b3⟩
 rw [ja o3] at hc hd
 by_cases o4 : i.f0 = 4
 ·rw [jb o4] at hc hd
  obtain ⟨f, _, rfl⟩ := Option.map_eq_some_iff.1 hc
  obtain ⟨f', _, rfl⟩ := Option.map_eq_some_iff.1 hd
  obtain ⟨a1, a2, a3, a4⟩ := z1y l1 2 i.f1.toNat (yt l1 c.re i.f1.toNat i.f2) { c with st := c.st.set (f + yt l1 c.re i.f1.toNat i.f2).toNat (rg c.re i.f3) }
  obtain ⟨b1, b2, b3, b4⟩ := z1y l1 2 i.f1.toNat (yt l1 d.re i.f1.toNat i.f2) { d with st := d.st.set (f' + yt l1 d.re i.f1.toNat i.f2).toNat (rg d.re i.f3) }
  exact ⟨.inr (.inr (.inr ⟨a1.trans ho, b1.trans ho', a2, b2, by show (vEv ..).tr.length = (vEv ..).tr.length; rw [a4, b4]; show c.tr.length + _ = d.tr.length + _; rw [ht], fun _ => by show c.pc + 1 = d.pc + 1; omega⟩)), a3, b3⟩
 rw [ja o4] at hc hd
 by_cases o5 : i.f0 = 5
 ·rw [jb o5] at hc hd
  obtain rfl := sj hc
  obtain rfl := sj hd
  exact ⟨.inr (.inr (.inr ⟨ho, ho', rfl, rfl, ht, fun _ => rfl⟩)), nx, nx⟩
 rw [ja o5] at hc hd
 by_cases o6 : i.f0 = 6
 ·rw [jb o6] at hc hd
  obtain rfl := sj hc
  obtain rfl := sj hd
  refine ⟨.inr (.inr (.inr ⟨ho, ho', rfl, rfl, by show (c.tr ++ _).length = (d.tr ++ _).length; rw [je, je, ht]; rfl, fun h => ?_⟩)), ⟨_, rfl⟩, ⟨_, rfl⟩⟩
  have h2 := (List.append_inj (show c.tr ++ _ = d.tr ++ _ from h) ht).2
  have h3 := (List.cons.inj h2).1
  injection h3 with _ _ e
  show (if rg c.re i.f1 = 0 then i.f2 else c.pc + 1) = if rg d.re i.f1 = 0 then i.f2 else d.pc + 1
  by_cases z : rg c.re i.f1 = 0
  ·by_cases y : rg d.re i.f1 = 0
   ·rw [jb z, jb y]
   ·rw [jb z, ja y] at e
    exact jm e (by decide)
  ·by_cases y : rg d.re i.f1 = 0
   ·rw [ja z, jb y] at e
    exact jm e (by decide)
   ·rw [ja z, ja y, hp]
 rw [ja o6] at hc hd
 by_cases o7 : i.f0 = 7
 ·rw [jb o7] at hc hd
  obtain rfl := sj hc
  obtain rfl := sj hd
  exact ⟨.inr (.inr (.inr ⟨ho, ho', rfl, rfl, ht, fun _ => by show c.pc + 1 = d.pc + 1; omega⟩)), nx, nx⟩
 rw [ja o7] at hc hd
 by_cases o8 : i.f0 = 8
 ·rw [jb o8] at hc hd
  split at hc
  ·obtain rfl := sj hc
   refine ⟨.inl ⟨rfl, show (4 : Int) ≠ 0 by decide⟩, nx, ?_⟩
   split at hd <;> (obtain rfl := sj hd; exact nx)
  ·obtain rfl := sj hc
   split at hd
   ·obtain rfl := sj hd
    exact ⟨.inr (.inl ⟨rfl, show (4 : Int) ≠ 0 by decide⟩), nx, nx⟩
   ·obtain rfl := sj hd
    exact ⟨.inr (.inr (.inr ⟨ho, ho', rfl, rfl, ht, fun _ => by show c.pc + 1 = d.pc + 1; omega⟩)), nx, nx⟩
 rw [ja o8] at hc hd
 by_cases o9 : i.f0 = 9
 ·rw [jb o9] at hc hd
  split at hc
  ·obtain rfl := sj hc
   refine ⟨.inl ⟨rfl, show (1 : Int) ≠ 0 by decide⟩, nx, ?_⟩
   split at hd <;> (obtain rfl := sj hd; exact nx)
  ·obtain rfl := sj hc
   split at hd
   ·obtain rfl := sj hd
    exact ⟨.inr (.inl ⟨rfl, show (1 : Int) ≠ 0 by decide⟩), nx, nx⟩
   ·obtain rfl := sj hd
    exact ⟨.inr (.inr (.inr ⟨ho, ho', rfl, rfl, ht, fun _ => by show c.pc + 1 = d.pc + 1; omega⟩)), nx, nx⟩
 rw [ja o9] at hc hd
 by_cases o10 : i.f0 = 10
 ·rw [jb o10] at hc hd
  split at hc
  ·obtain rfl := sj hc
   refine ⟨.inl ⟨rfl, show (2 : Int) ≠ 0 by decide⟩, nx, ?_⟩
   split at hd <;> (obtain rfl := sj hd; exact nx)
  ·obtain rfl := sj hc
   split at hd
   ·obtain rfl := sj hd
    exact ⟨.inr (.inl ⟨rfl, show (2 : Int) ≠ 0 by decide⟩), nx, nx⟩
   ·obtain rfl := sj hd
    exact ⟨.inr (.inr (.inr ⟨ho, ho', rfl, rfl, ht, fun _ => by show c.pc + 1 = d.pc + 1; omega⟩)), nx, nx⟩
 rw [ja o10] at hc hd
 obtain rfl := sj hc
 obtain rfl := sj hd
 exact ⟨.inr (.inr (.inl ⟨rfl, rfl, rfl, rfl⟩)), nx, nx⟩
theorem z0v {k : Nat} {wd : Int} {l1 : List S76} {pk : List Int} {ins : List S93} {N : Nat} {c v : VC} (h : yB k wd l1 pk ins N c = some v) (ho : c.ov = true) : v = c := by
 cases N with
 | zero => simp [yB] at h
 | succ N =>
  rw [yB, jb ho] at h
  exact (sj h).symm
theorem z2F {k : Nat} {wd : Int} {l1 : List S76} {pk : List Int} {ins : List S93} : ∀ (N : Nat) {c v : VC}, yB k wd l1 pk ins N c = some v -> ∃ t, v.tr = c.tr ++ t
 | 0, c, v, h => by simp [yB] at h
 | N + 1, c, v, h => by
  rw [yB] at h
  by_cases o : c.ov = true
  ·rw [jb o] at h
   obtain rfl := sj h
   exact ⟨[], by simp⟩
  rw [ja o] at h
  by_cases f : c.fu = 0
  ·rw [jb f] at h
   obtain rfl := sj h
   exact ⟨[], by simp [Yf]⟩
  rw [ja f] at h
  obtain ⟨c1, h1, h2⟩ := Option.bind_eq_some_iff.1 h
  have o' : (zV c).ov = false := by show c.ov = false; simpa using o
  obtain ⟨_, ⟨t1, e1⟩, _⟩ := z5y h1 h1 o' o' rfl rfl
  obtain ⟨t2, e2⟩ := z2F N h2
  exact ⟨t1 ++ t2, by rw [e2, e1]; show (c.tr ++ t1) ++ t2 = _; rw [ju]⟩
theorem z4D {k k' : Nat} {wd : Int} {l1 : List S76} {pk pk' : List Int} {ins : List S93} : ∀ (N : Nat) {M : Nat} {c d v u : VC}, c.ov = false -> d.ov = false -> c.pc = d.pc -> c.co = d.co -> c.tr.length = d.tr.length ->
  yB k wd l1 pk ins N c = some v -> yB k' wd l1 pk' ins M d = some u -> v.ed = 0 -> u.ed = 0 -> v.tr = u.tr -> v.co = u.co
 | 0, M, c, d, v, u, _, _, _, _, _, h, _, _, _, _ => by simp [yB] at h
 | N + 1, 0, c, d, v, u, _, _, _, _, _, _, h, _, _, _ => by simp [yB] at h
 | N + 1, M + 1, c, d, v, u, ho, ho', hp, hco, ht, h, h', ed, ed', htr => by
  rw [yB, ja (by rw [ho]; simp)] at h
  rw [yB, ja (by rw [ho']; simp)] at h'
  by_cases f : c.fu = 0
  ·rw [jb f] at h
   obtain rfl := sj h
   exact jm ed (show ¬ ((3 : Int) = 0) by decide)
  rw [ja f] at h
  by_cases f' : d.fu = 0
  ·rw [jb f'] at h'
   obtain rfl := sj h'
   exact jm ed' (show ¬ ((3 : Int) = 0) by decide)
  rw [ja f'] at h'
  obtain ⟨c1, h1, h2⟩ := Option.bind_eq_some_iff.1 h
  obtain ⟨d1, h1', h2'⟩ := Option.bind_eq_some_iff.1 h'
  rw [<- hp] at h1'
  obtain ⟨tw, _, _⟩ := z5y (c := zV c) (d := zV d) h1 h1' ho ho' hp ht
  rcases tw with ⟨a, b⟩ | ⟨a, b⟩ | ⟨a, a', b, b'⟩ | ⟨a, a', b, b', e, g⟩
  ·rw [z0v h2 a] at ed
   exact jm ed b
  ·rw [z0v h2' a] at ed'
   exact jm ed' b
  ·rw [z0v h2 a, z0v h2' a', b, b']
   show c.co + 1 = d.co + 1
   omega
  ·obtain ⟨t, e1⟩ := z2F N h2
   obtain ⟨t', e2⟩ := z2F M h2'
   have h3 : c1.tr = d1.tr := (List.append_inj (e1.symm.trans (htr.trans e2)) e).1
   exact z4D N a a' (g h3) (by rw [b, b']; show c.co + 1 = d.co + 1; omega) e h2 h2' ed ed' htr
def z7S (k : Nat) (w : Int) (l1 : List S76) (body : List S81) (fuel : Int) (st pk : List Int) (c' : MC) : Prop := ∃ (cn : List S81 -> Int) (nd : S62 -> Int) (ev : List Int -> S62 -> List Z4) (va : List Int -> S62 -> Int) (r : Nat), GI cn 0 body /\ Zm.f k st = some st /\ Yv cn l1 pk nd ev va r (Ya cn fuel st body) = some c' /\ z5g cn w l1 pk nd ev va r (Ya cn fuel st body)
def z5v (k : Nat) (w : Int) (l1 : List S76) (body : List S81) (st pk : List Int) (v' : VC) : Prop := Zm.f k st = some st /\ ∃ N : Nat, yB k w l1 pk (zG body) N (zC 4194304 st) = some v' /\ z50 k w l1 pk (zG body) N (zC 4194304 st)
theorem z74 {n : Nat} {l1 : List S76} {body : List S81} (hh : z0s n l1) (hv : IVs n l1 0 body) {fuel : Int} {st pk : List Int} (h : z5B n l1 fuel st pk) :
  ∃ c', (∃ k0, ∀ k, k0 <= k -> z7S k (n : Int) l1 body fuel st pk c') /\ (c'.ed = 3 \/ ∃ v', Fin (yy body 0) (zSs body 0) c' v' /\ v'.tr.length <= 4000000 /\ ∃ k0, ∀ k, k0 <= k -> z5v k (n : Int) l1 body st pk v') := by
 obtain ⟨f0, f1, hs, hpk⟩ := h
 have hc := hh.cs_le
 obtain ⟨k1, h1⟩ := tlk (z2d st (by have := hs.1; omega))
 obtain ⟨c', g1, g2, g3, g4⟩ := both hh hpk hs hv f0 f1
 refine ⟨c', ⟨k1, fun k hk => ⟨_, _, _, _, _, hv.gi, h1 k hk, g1, g2⟩⟩, ?_⟩
 rcases g4 with g4 | ⟨v', N, g4, g5, g6, k2, h2⟩
 ·exact .inl g4
 ·obtain ⟨b1, b2, b3, b4, b5, b6, b7⟩ := g5
  have := g4.co
  exact .inr ⟨v', g4, by omega, k1 + k2, fun k hk => ⟨h1 k (by omega), N, (h2 k (by omega)).1, (h2 k (by omega)).2⟩⟩
def z7R (k : Nat) (w : Int) (l1 : List S76) (body : List S81) (fuel : Int) (sa pa sb pb : List Int) (bf : Bool) (ra rb : Int) : Prop :=
 yI.f k body 600 = some bf /\ Zh.f k w l1 body fuel sa pa = some ra /\ Zh.f k w l1 body fuel sb pb = some rb /\ (ra = 0 -> rb = 0 -> Zy.f k w l1 body = some 0 /\ z4e k w l1 body /\ ∃ c' d', z7S k w l1 body fuel sa pa c' /\ z7S k w l1 body fuel sb pb d' /\
  (c'.ed = 0 -> d'.ed = 0 -> ∃ (v' u' : VC) (same : Bool), z5v k w l1 body sa pa v' /\ z5v k w l1 body sb pb u' /\ yw.f k c'.tr d'.tr = some same /\ yw.f k v'.tr u'.tr = some same /\ (same = true -> v'.co = u'.co)))
open Classical in
theorem z55 (w : Int) (l1 : List S76) (body : List S81) (fuel : Int) (sa pa sb pb : List Int) (hl : body.length <= 9223372036854775807) (hg : ZM body) (hsa : sa.length <= 9223372036854775807) (hpa : pa.length <= 9223372036854775807) (hsb : sb.length <= 9223372036854775807) (hpb : pb.length <= 9223372036854775807) : ∃ (k : Nat) (bf : Bool) (ra rb : Int), z7R k w l1 body fuel sa pa sb pb bf ra rb := by
 obtain ⟨k1, h1⟩ := tlk (fitsS body 600 hl hg (by decide) (by decide))
 by_cases hp : pIs w l1 body = true
 ·have hI := z3T w l1 body hl hg
  rw [hp] at hI
  obtain ⟨k3, h3⟩ := tlk hI
  obtain ⟨n, rfl, hh, hv⟩ := prog_ok hp hg
  obtain ⟨k4, h4⟩ := z5n hp hh hv
  obtain ⟨ra, hra, ha0⟩ := z1L hp hl hg hh fuel sa pa hsa hpa
  obtain ⟨rb, hrb, hb0⟩ := z1L hp hl hg hh fuel sb pb hsb hpb
  obtain ⟨k5, h5⟩ := tlk hra
  obtain ⟨k6, h6⟩ := tlk hrb
  by_cases a0 : ra = 0
  case neg => exact ⟨k1 + k5 + k6, _, ra, rb, h1 _ (by omega), h5 _ (by omega), h6 _ (by omega), fun h => jm h a0⟩
  by_cases b0 : rb = 0
  case neg => exact ⟨k1 + k5 + k6, _, ra, rb, h1 _ (by omega), h5 _ (by omega), h6 _ (by omega), fun _ h => jm h b0⟩
  obtain ⟨c', ⟨k7, h7⟩, ec⟩ := z74 hh hv (ha0 a0)
  obtain ⟨d', ⟨k8, h8⟩, ed⟩ := z74 hh hv (hb0 b0)
  by_cases e0 : c'.ed = 0 /\ d'.ed = 0
  case neg =>
   obtain ⟨K, hK⟩ : ∃ K, K = k1 + k3 + k4 + k5 + k6 + k7 + k8 := ⟨_, rfl⟩
   exact ⟨K, _, ra, rb, h1 _ (by omega), h5 _ (by omega), h6 _ (by omega), fun _ _ => ⟨h3 K (by omega), h4 K (by omega), c', d', h7 K (by omega), h8 K (by omega), fun x y => jm ⟨x, y⟩ e0⟩⟩
  obtain ⟨e1, e2⟩ := e0
  obtain ⟨v', fv, lv, k9, h9⟩ := ec.resolve_left (by omega)
  obtain ⟨u', fu, lu, k10, h10⟩ := ed.resolve_left (by omega)
  obtain ⟨_, hasc⟩ := (z1U (n : Int) l1).2 body hv.2.2.1
  have hZ := (hasc 0).2.1.1
  have hsame : decide (v'.tr = u'.tr) = decide (c'.tr = d'.tr) := by
   by_cases e : c'.tr = d'.tr
   ·rw [decide_eq_true e, decide_eq_true (by rw [fv.tr.1, fu.tr.1, e])]
   ·rw [decide_eq_false e, decide_eq_false (fun x => e (z4j hZ fv.tr.2 fu.tr.2 (by rw [<- fv.tr.1, <- fu.tr.1, x])))]
  have lc : c'.tr.length <= 4611686018427387904 := by
   have := congrArg List.length fv.tr.1
   rw [List.length_map] at this
   omega
  obtain ⟨k11, h11⟩ := tlk (z1A c'.tr d'.tr lc)
  obtain ⟨k12, h12⟩ := tlk (z1A v'.tr u'.tr (by omega))
  rw [hsame] at h12
  obtain ⟨K, hK⟩ : ∃ K, K = k1 + k3 + k4 + k5 + k6 + k7 + k8 + k9 + k10 + k11 + k12 := ⟨_, rfl⟩
  have h9' := h9 K (by omega)
  have h10' := h10 K (by omega)
  refine ⟨K, _, ra, rb, h1 _ (by omega), h5 _ (by omega), h6 _ (by omega), fun _ _ => ⟨h3 K (by omega), h4 K (by omega), c', d', h7 K (by omega), h8 K (by omega), fun _ _ => ⟨v', u', _, h9', h10', h11 K (by omega), h12 K (by omega), fun hs => ?_⟩⟩⟩
  obtain ⟨_, N, l1_, _⟩ := h9'
  obtain ⟨_, M, l2_, _⟩ := h10'
  have htr : v'.tr = u'.tr := by
   rw [<- hsame] at hs
   exact of_decide_eq_true hs
  exact z4D N (c := zC 4194304 sa) (d := zC 4194304 sb) rfl rfl rfl rfl rfl l1_ l2_ (fv.ed.trans e1) (fu.ed.trans e2) htr
 ·have hI := z3x w l1 body hl hg
  rw [Bool.eq_false_iff.2 hp] at hI
  have hC : ∀ (s p : List Int), zc (fun k => Zh.f k w l1 body fuel s p) 30 := fun s p => by
   unfold Zh.f
   exact zc.bind hI (zc.ifF (by simp) (zc.pure _))
  obtain ⟨k2, h2⟩ := tlk (hC sa pa)
  obtain ⟨k3, h3⟩ := tlk (hC sb pb)
  exact ⟨k1 + k2 + k3, _, 30, 30, h1 _ (by omega), h2 _ (by omega), h3 _ (by omega), fun h => jm h (by decide)⟩
section
variable {P : Program} {ops : Array Oper} {Q : Exit -> Act -> World -> Prop}
theorem ZI {i : Nat} {K : Act -> World -> Prop} {a : Act} {W W1 : World} {o : Oper} {v : Value} (ho : ops[i]? = some o) (hg : o.guard = none) (hrun : (execOp a.eval o).run P W = .ok (.value v) W1) (hK : K (a.put o.dst v) W1) : wpOp P ops Q i K a W := by
 unfold wpOp
 rw [ho]
 have hw : Region.wanted o (yielded ops a.tmps) = true := by simp [Region.wanted, hg]
 simp only [hw, if_true]
 left
 unfold Oper.wp
 rw [hrun]
 exact hK
theorem z1I {i : Nat} {K : Act -> World -> Prop} {a : Act} {W W1 : World} {o : Oper} {f : FuncId} {args : Array Value} (ho : ops[i]? = some o) (hg : o.guard = none) (hrun : (execOp a.eval o).run P W = .ok (.enter f args) W1)
  (hc : Calls P f args W1 fun e w' => ∃ v, e = .returned v /\ K (a.put o.dst v) w') : wpOp P ops Q i K a W := by
 unfold wpOp
 rw [ho]
 have hw : Region.wanted o (yielded ops a.tmps) = true := by simp [Region.wanted, hg]
 simp only [hw, if_true]
 left
 unfold Oper.wp
 rw [hrun]
 refine Calls.mono hc ?_
 rintro e w' ⟨v, rfl, hk⟩
 exact hk
theorem z2y {i : Nat} {K : Act -> World -> Prop} {a : Act} {W W1 : World} {o : Oper} (ho : ops[i]? = some o) (hg : o.guard = none) (hrun : (execOp a.eval o).run P W = .ok .skip W1) (hK : K (a.put o.dst undef) W1) : wpOp P ops Q i K a W := by
 unfold wpOp
 rw [ho]
 have hw : Region.wanted o (yielded ops a.tmps) = true := by simp [Region.wanted, hg]
 simp only [hw, if_true]
 left
 unfold Oper.wp
 rw [hrun]
 exact hK
end
section
variable {P : Program} {ops : Array Oper} {Q : Exit -> Act -> World -> Prop} {md : Region.Mode}
def z7G (md : Region.Mode) (ops : Array Oper) : Bool := (List.range ops.size).all fun j => match ops[j]? with | none => true | some o => o.after.all fun e => !Region.binds md e || decide (e.on < j)
theorem z2s (hb : z7G md ops = true) {listed : Array Bool} (hr : Region.ready md ops listed = []) : ∀ j, j < ops.size -> listed.getD j true = true := by
 intro j
 induction j using Nat.strongRecOn with
 | _ j ih =>
 intro hj
 rcases hl : listed.getD j true with _ | _
 ·exfalso
  have hm : j ∈ Region.ready md ops listed := by
   rw [mem_ready]
   refine ⟨hl, ops[j], Array.getElem?_eq_getElem hj, fun e he hbe => ?_⟩
   have h1 := List.all_eq_true.1 hb j (List.mem_range.2 hj)
   rw [Array.getElem?_eq_getElem hj] at h1
   have h2 := Array.all_eq_true'.1 h1 e he
   have h3 : e.on < j := by simpa [hbe] using h2
   have h4 := ih e.on h3 (by omega)
   rcases Nat.lt_or_ge e.on listed.size with h' | h'
   ·simp [Array.getD, h'] at h4 ⊢
    exact h4
   ·have : listed.getD j true = true := by
     have : ¬ j < listed.size := by omega
     simp [Array.getD, this]
    rw [hl] at this
    cases this
  rw [hr] at hm
  cases hm
 ·rfl
theorem z4X (hb : z7G md ops = true) (Inv : Array Bool -> Act -> World -> Prop)
  (hend : ∀ listed a w, Inv listed a w -> (∀ j, j < ops.size -> listed.getD j true = true) -> Q .normal a w)
  (step : ∀ listed a w i o, Inv listed a w -> ops[i]? = some o -> listed.getD i true = false -> (∀ e ∈ o.after, Region.binds md e = true -> listed.getD e.on false = true) ->
   wpOp P ops Q i (fun a' w' => Inv (listed.setIfInBounds i true) a' w') a w) :
  ∀ (fuel : Nat) (listed : Array Bool) (a : Act) (w : World), z0N ops.size listed <= fuel -> Inv listed a w -> wpAny P md ops Q fuel listed a w := by
 intro fuel
 induction fuel with
 | zero =>
  intro listed a w hu hI
  have hr : Region.ready md ops listed = [] := by
   rw [List.eq_nil_iff_forall_not_mem]
   intro j hj
   obtain ⟨h0, o, ho, _⟩ := mem_ready.1 hj
   have hlt := (Array.getElem?_eq_some_iff.1 ho).1
   have := z1z hlt h0
   omega
  exact ⟨hr, hend _ _ _ hI (z2s hb hr)⟩
 | succ fuel ih =>
  intro listed a w hu hI
  refine ⟨fun hr => hend _ _ _ hI (z2s hb hr), fun i hi => ?_⟩
  obtain ⟨h0, o, ho, hall⟩ := mem_ready.1 hi
  have hlt := (Array.getElem?_eq_some_iff.1 ho).1
  have hu2 := z1z hlt h0
  exact wpOp_mono (fun a' w' h' => ih _ a' w' (by omega) h') (step listed a w i o hI ho h0 hall)
end
theorem get_ft {L : Array Bool} {i : Nat} (h : L.getD i false = true) : L.getD i true = true := by
 rcases Nat.lt_or_ge i L.size with hs | hs
 ·simp [Array.getD, hs] at h ⊢
  exact h
 ·simp [Array.getD, Nat.not_lt.mpr hs] at h
theorem yC {α : Type} (A : Array α) (i j : Nat) (x d : α) (hi : i < A.size) : (A.setIfInBounds i x).getD j d = if j = i then x else A.getD j d := by
 by_cases h : j = i
 ·subst h
  simp [Array.getD, hi]
 ·rw [ja h]
  simp only [Array.getD_eq_getD_getElem?, Array.getElem?_setIfInBounds]
  rw [ja (Ne.symm h)]
structure TG where
 d : Nat -> Nat
 p : Nat
 q : Nat
 t : TypeId
 z : Array Value
 G : Nat -> Value -> (Nat -> Prop) -> World -> Prop
 inj : ∀ i j, i < 8 -> j < 8 -> d i = d j -> i = j
 away : ∀ i, i < 8 -> d i ≠ p /\ d i ≠ q
 pq : p ≠ q
 grow : ∀ i v N W W1, G i v N W -> Below W.heap.size W W1 -> G i v N W1
 new : ∀ i v N W o, G i v N W -> G i v (fun k => N k \/ k = W.heap.size) (W.alloc o)
 fill : ∀ i v N W g vs, G i v N W -> N g -> G i v N (W.setCells g 0 vs)
def TEx (T : TG) (W0 : World) (N : Nat -> Prop) (L : Array Bool) (a : Act) (W : World) : Prop :=
 (∀ k, N k -> W0.heap.size <= k /\ k < W.heap.size) /\ (∀ i, i < 8 -> L.getD i false = true -> T.G i (a.tmps.getD (T.d i) undef) N W) /\
  (L.getD 8 false = true -> ∃ g cs, a.tmps.getD T.p undef = .pointer (some ⟨g, 0, none⟩) /\ N g /\ W.heap[g]? = some (.cells cs T.t (0, 0)) /\ (L.getD 10 false = true -> a.tmps.getD (T.d 3) undef = .agg cs) /\ (L.getD 10 false = false -> cs = T.z)) /\
  (L.getD 9 false = true -> ∃ g cs, a.tmps.getD T.q undef = .pointer (some ⟨g, 0, none⟩) /\ N g /\ W.heap[g]? = some (.cells cs T.t (0, 0)) /\ (L.getD 11 false = true -> a.tmps.getD (T.d 7) undef = .agg cs) /\ (L.getD 11 false = false -> cs = T.z)) /\
  (L.getD 8 false = true -> L.getD 9 false = true -> a.tmps.getD T.p undef ≠ a.tmps.getD T.q undef)
structure YZ (T : TG) (W0 : World) (b : Array Value) (L : Array Bool) (a : Act) (W : World) : Prop where
 len : L.size = 12
 size : a.tmps.size = b.size
 fits : (∀ i, i < 8 -> T.d i < b.size) /\ T.p < b.size /\ T.q < b.size
 defers : a.defers = []
 base : ∀ j, (∀ i, i < 8 -> j ≠ T.d i) -> j ≠ T.p -> j ≠ T.q -> a.tmps.getD j undef = b.getD j undef
 below : Below W0.heap.size W0 W
 o10 : L.getD 10 false = true -> L.getD 3 false = true /\ L.getD 8 false = true
 o11 : L.getD 11 false = true -> L.getD 7 false = true /\ L.getD 9 false = true
 ex : ∃ N, TEx T W0 N L a W
theorem tf {L : Array Bool} {i : Nat} (h : L.getD i true = false) : L.getD i false = false := by
 cases h2 : L.getD i false with
 | false => rfl
 | true =>
  rw [get_ft h2] at h
  cases h
section
variable {T : TG} {W0 W W1 : World} {b : Array Value} {L : Array Bool} {a : Act}
theorem YZ.set (h : YZ T W0 b L a W) {i : Nat} (hi : i < 12) (j : Nat) : (L.setIfInBounds i true).getD j false = if j = i then true else L.getD j false := yC _ _ _ _ _ (by rw [h.len]; exact hi)
theorem YZ.put (h : YZ T W0 b L a W) {N : Nat -> Prop} (hx : TEx T W0 N L a W) {i : Nat} (hi : i < 8) (hl : L.getD i true = false) {v : Value} (hb : Below W.heap.size W W1) (hv : T.G i v N W1) : YZ T W0 b (L.setIfInBounds i true) (a.put (some (T.d i)) v) W1 := by
 have hs : T.d i < a.tmps.size := by rw [h.size]; exact h.fits.1 i hi
 have g : ∀ j, (a.put (some (T.d i)) v).tmps.getD j undef = if j = T.d i then v else a.tmps.getD j undef := fun j => yC _ _ _ _ _ hs
 have gl := h.set (i := i) (by omega)
 have hl' := tf hl
 obtain ⟨x1, x2, x3, x4, x5⟩ := hx
 have e10 : (L.setIfInBounds i true).getD 10 false = L.getD 10 false := by rw [gl, ja (by omega)]
 have e11 : (L.setIfInBounds i true).getD 11 false = L.getD 11 false := by rw [gl, ja (by omega)]
 have e8 : (L.setIfInBounds i true).getD 8 false = L.getD 8 false := by rw [gl, ja (by omega)]
 have e9 : (L.setIfInBounds i true).getD 9 false = L.getD 9 false := by rw [gl, ja (by omega)]
 have gp : (a.put (some (T.d i)) v).tmps.getD T.p undef = a.tmps.getD T.p undef := by rw [g, ja (fun e => (T.away i hi).1 e.symm)]
 have gq : (a.put (some (T.d i)) v).tmps.getD T.q undef = a.tmps.getD T.q undef := by rw [g, ja (fun e => (T.away i hi).2 e.symm)]
 have gd : ∀ j, j < 8 -> L.getD j false = true -> (a.put (some (T.d i)) v).tmps.getD (T.d j) undef = a.tmps.getD (T.d j) undef := fun j hj hlj => by
  rw [g, ja (fun e => by rw [T.inj j i hj hi e, hl'] at hlj; cases hlj)]
 refine ⟨by simp [h.len], by simp [Act.put, h.size], h.fits, h.defers, fun j h1 h2 h3 => by rw [g, ja (h1 i hi)]; exact h.base j h1 h2 h3, h.below.trans (hb.mono h.below.size), ?_, ?_, N, fun k hk => ⟨(x1 k hk).1, ltl (x1 k hk).2 hb.size⟩, ?_, ?_, ?_, ?_⟩
 ·intro h1
  rw [e10] at h1
  obtain ⟨y1, y2⟩ := h.o10 h1
  rw [gl, gl]
  exact ⟨by split <;> simp_all, by split <;> simp_all⟩
 ·intro h1
  rw [e11] at h1
  obtain ⟨y1, y2⟩ := h.o11 h1
  rw [gl, gl]
  exact ⟨by split <;> simp_all, by split <;> simp_all⟩
 ·intro j hj hlj
  rw [g]
  by_cases hji : j = i
  ·subst hji
   rw [jb rfl]
   exact hv
  ·rw [gl, ja hji] at hlj
   rw [ja (fun e => hji (T.inj j i hj hi e))]
   exact T.grow _ _ _ _ _ (x2 j hj hlj) hb
 ·intro h8
  rw [e8] at h8
  obtain ⟨gg, cs, y1, y2, y3, y4, y5⟩ := x3 h8
  rw [e10, gp]
  exact ⟨gg, cs, y1, y2, (hb.block _ (zM y3)).trans y3, fun h10 => by rw [gd 3 (by omega) (h.o10 h10).1]; exact y4 h10, y5⟩
 ·intro h9
  rw [e9] at h9
  obtain ⟨gg, cs, y1, y2, y3, y4, y5⟩ := x4 h9
  rw [e11, gq]
  exact ⟨gg, cs, y1, y2, (hb.block _ (zM y3)).trans y3, fun h11 => by rw [gd 7 (by omega) (h.o11 h11).1]; exact y4 h11, y5⟩
 ·intro h8 h9
  rw [e8] at h8
  rw [e9] at h9
  rw [gp, gq]
  exact x5 h8 h9
theorem YZ.new8 (h : YZ T W0 b L a W) (hl : L.getD 8 true = false) : YZ T W0 b (L.setIfInBounds 8 true) (a.put (some T.p) (.pointer (some ⟨W.heap.size, 0, none⟩))) (W.alloc (.cells T.z T.t (0, 0))) := by
 obtain ⟨N, x1, x2, x3, x4, x5⟩ := h.ex
 have hs : T.p < a.tmps.size := by rw [h.size]; exact h.fits.2.1
 have g : ∀ j, (a.put (some T.p) (.pointer (some ⟨W.heap.size, 0, none⟩))).tmps.getD j undef = if j = T.p then .pointer (some ⟨W.heap.size, 0, none⟩) else a.tmps.getD j undef := fun j => yC _ _ _ _ _ hs
 have gl := h.set (i := 8) (by omega)
 have hl' := tf hl
 have hb := bal (jc W.heap.size W) (.cells T.z T.t (0, 0))
 have gd : ∀ j, j < 8 -> (a.put (some T.p) (.pointer (some ⟨W.heap.size, 0, none⟩))).tmps.getD (T.d j) undef = a.tmps.getD (T.d j) undef := fun j hj => by rw [g, ja (T.away j hj).1]
 have hn10 : L.getD 10 false = false := by
  cases h10 : L.getD 10 false with
  | false => rfl
  | true => rw [(h.o10 h10).2] at hl'; cases hl'
 have hsz : (W.alloc (.cells T.z T.t (0, 0))).heap.size = W.heap.size + 1 := by simp
 refine ⟨by simp [h.len], by simp [Act.put, h.size], h.fits, h.defers, fun j h1 h2 h3 => by rw [g, ja h2]; exact h.base j h1 h2 h3, h.below.trans (hb.mono h.below.size), ?_, ?_, fun k => N k \/ k = W.heap.size, ?_, ?_, ?_, ?_, ?_⟩
 ·intro h1
  rw [gl, ja (by omega), hn10] at h1
  cases h1
 ·intro h1
  rw [gl, ja (by omega)] at h1
  rw [gl, gl, ja (by omega), ja (by omega)]
  exact h.o11 h1
 ·intro k hk
  rw [hsz]
  rcases hk with hk | rfl
  ·have := x1 k hk
   omega
  ·have := h.below.size
   omega
 ·intro j hj hlj
  rw [gl, ja (by omega)] at hlj
  rw [gd j hj]
  exact T.new _ _ _ _ _ (x2 j hj hlj)
 ·intro _
  rw [g, jb rfl, gl, ja (by omega)]
  exact ⟨W.heap.size, T.z, rfl, .inr rfl, zI _ _, (fun h10 => by rw [hn10] at h10; cases h10), fun _ => rfl⟩
 ·intro h9
  rw [gl, ja (by omega)] at h9
  obtain ⟨gg, cs, y1, y2, y3, y4, y5⟩ := x4 h9
  rw [g, ja (fun e => T.pq e.symm), gl, ja (by omega), gd 7 (by omega)]
  exact ⟨gg, cs, y1, .inl y2, (hb.block _ (zM y3)).trans y3, y4, y5⟩
 ·intro _ h9
  rw [gl, ja (by omega)] at h9
  obtain ⟨gg, cs, y1, y2, y3, _⟩ := x4 h9
  rw [g, jb rfl, g, ja (fun e => T.pq e.symm), y1]
  intro e
  simp only [Value.pointer.injEq, Option.some.injEq, Addr.mk.injEq] at e
  have := (x1 gg y2).2
  omega
theorem YZ.new9 (h : YZ T W0 b L a W) (hl : L.getD 9 true = false) : YZ T W0 b (L.setIfInBounds 9 true) (a.put (some T.q) (.pointer (some ⟨W.heap.size, 0, none⟩))) (W.alloc (.cells T.z T.t (0, 0))) := by
 obtain ⟨N, x1, x2, x3, x4, x5⟩ := h.ex
 have hs : T.q < a.tmps.size := by rw [h.size]; exact h.fits.2.2
 have g : ∀ j, (a.put (some T.q) (.pointer (some ⟨W.heap.size, 0, none⟩))).tmps.getD j undef = if j = T.q then .pointer (some ⟨W.heap.size, 0, none⟩) else a.tmps.getD j undef := fun j => yC _ _ _ _ _ hs
 have gl := h.set (i := 9) (by omega)
 have hl' := tf hl
 have hb := bal (jc W.heap.size W) (.cells T.z T.t (0, 0))
 have gd : ∀ j, j < 8 -> (a.put (some T.q) (.pointer (some ⟨W.heap.size, 0, none⟩))).tmps.getD (T.d j) undef = a.tmps.getD (T.d j) undef := fun j hj => by rw [g, ja (T.away j hj).2]
 have hn11 : L.getD 11 false = false := by
  cases h11 : L.getD 11 false with
  | false => rfl
  | true => rw [(h.o11 h11).2] at hl'; cases hl'
 have hsz : (W.alloc (.cells T.z T.t (0, 0))).heap.size = W.heap.size + 1 := by simp
 refine ⟨by simp [h.len], by simp [Act.put, h.size], h.fits, h.defers, fun j h1 h2 h3 => by rw [g, ja h3]; exact h.base j h1 h2 h3, h.below.trans (hb.mono h.below.size), ?_, ?_, fun k => N k \/ k = W.heap.size, ?_, ?_, ?_, ?_, ?_⟩
 ·intro h1
  rw [gl, ja (by omega)] at h1
  rw [gl, gl, ja (by omega), ja (by omega)]
  exact h.o10 h1
 ·intro h1
  rw [gl, ja (by omega), hn11] at h1
  cases h1
 ·intro k hk
  rw [hsz]
  rcases hk with hk | rfl
  ·have := x1 k hk
   omega
  ·have := h.below.size
   omega
 ·intro j hj hlj
  rw [gl, ja (by omega)] at hlj
  rw [gd j hj]
  exact T.new _ _ _ _ _ (x2 j hj hlj)
 ·intro h8
  rw [gl, ja (by omega)] at h8
  obtain ⟨gg, cs, y1, y2, y3, y4, y5⟩ := x3 h8
  rw [g, ja T.pq, gl, ja (by omega), gd 3 (by omega)]
  exact ⟨gg, cs, y1, .inl y2, (hb.block _ (zM y3)).trans y3, y4, y5⟩
 ·intro _
  rw [g, jb rfl, gl, ja (by omega)]
  exact ⟨W.heap.size, T.z, rfl, .inr rfl, zI _ _, (fun h11 => by rw [hn11] at h11; cases h11), fun _ => rfl⟩
 ·intro h8 _
  rw [gl, ja (by omega)] at h8
  obtain ⟨gg, cs, y1, y2, y3, _⟩ := x3 h8
  rw [g, ja T.pq, g, jb rfl, y1]
  intro e
  simp only [Value.pointer.injEq, Option.some.injEq, Addr.mk.injEq] at e
  have := (x1 gg y2).2
  omega
theorem YZ.fill10 (h : YZ T W0 b L a W) (hl : L.getD 10 true = false) (h3 : L.getD 3 false = true) (h8 : L.getD 8 false = true) {g : Nat} (hp : a.tmps.getD T.p undef = .pointer (some ⟨g, 0, none⟩)) {vs : List Value} (hv : a.tmps.getD (T.d 3) undef = .agg vs.toArray) (hn : vs.length = T.z.size) : YZ T W0 b (L.setIfInBounds 10 true) a (W.setCells g 0 vs) := by
 obtain ⟨N, x1, x2, x3, x4, x5⟩ := h.ex
 have gl := h.set (i := 10) (by omega)
 have hl' := tf hl
 obtain ⟨gg, cs, y1, y2, y3, y4, y5⟩ := x3 h8
 rw [hp] at y1
 simp only [Value.pointer.injEq, Option.some.injEq, Addr.mk.injEq] at y1
 obtain ⟨rfl, _⟩ := y1
 have hz := y5 hl'
 subst hz
 have hg0 := (x1 g y2).1
 refine ⟨by simp [h.len], h.size, h.fits, h.defers, h.base, Zb h.below hg0, ?_, ?_, N, fun k hk => by rw [yM]; exact x1 k hk, ?_, ?_, ?_, ?_⟩
 ·intro _
  rw [gl, gl, ja (by omega), ja (by omega)]
  exact ⟨h3, h8⟩
 ·intro h1
  rw [gl, ja (by omega)] at h1
  rw [gl, gl, ja (by omega), ja (by omega)]
  exact h.o11 h1
 ·intro j hj hlj
  rw [gl, ja (by omega)] at hlj
  exact T.fill _ _ _ _ _ _ (x2 j hj hlj) y2
 ·intro _
  rw [gl, jb rfl]
  exact ⟨g, vs.toArray, hp, y2, Za y3 hn, fun _ => hv, fun e => by cases e⟩
 ·intro h9
  rw [gl, ja (by omega)] at h9
  obtain ⟨g9, cs9, z1, z2, z3, z4, z5⟩ := x4 h9
  rw [gl, ja (by omega)]
  refine ⟨g9, cs9, z1, z2, (Zj (fun e => ?_)).trans z3, z4, z5⟩
  subst e
  exact x5 h8 h9 (hp.trans z1.symm)
 ·intro h1 h2
  rw [gl, ja (by omega)] at h1 h2
  exact x5 h1 h2
theorem YZ.fill11 (h : YZ T W0 b L a W) (hl : L.getD 11 true = false) (h7 : L.getD 7 false = true) (h9 : L.getD 9 false = true) {g : Nat} (hp : a.tmps.getD T.q undef = .pointer (some ⟨g, 0, none⟩)) {vs : List Value} (hv : a.tmps.getD (T.d 7) undef = .agg vs.toArray) (hn : vs.length = T.z.size) : YZ T W0 b (L.setIfInBounds 11 true) a (W.setCells g 0 vs) := by
 obtain ⟨N, x1, x2, x3, x4, x5⟩ := h.ex
 have gl := h.set (i := 11) (by omega)
 have hl' := tf hl
 obtain ⟨gg, cs, y1, y2, y3, y4, y5⟩ := x4 h9
 rw [hp] at y1
 simp only [Value.pointer.injEq, Option.some.injEq, Addr.mk.injEq] at y1
 obtain ⟨rfl, _⟩ := y1
 have hz := y5 hl'
 subst hz
 have hg0 := (x1 g y2).1
 refine ⟨by simp [h.len], h.size, h.fits, h.defers, h.base, Zb h.below hg0, ?_, ?_, N, fun k hk => by rw [yM]; exact x1 k hk, ?_, ?_, ?_, ?_⟩
 ·intro h1
  rw [gl, ja (by omega)] at h1
  rw [gl, gl, ja (by omega), ja (by omega)]
  exact h.o10 h1
 ·intro _
  rw [gl, gl, ja (by omega), ja (by omega)]
  exact ⟨h7, h9⟩
 ·intro j hj hlj
  rw [gl, ja (by omega)] at hlj
  exact T.fill _ _ _ _ _ _ (x2 j hj hlj) y2
 ·intro h8
  rw [gl, ja (by omega)] at h8
  obtain ⟨g8, cs8, z1, z2, z3, z4, z5⟩ := x3 h8
  rw [gl, ja (by omega)]
  refine ⟨g8, cs8, z1, z2, (Zj (fun e => ?_)).trans z3, z4, z5⟩
  subst e
  exact x5 h8 h9 (z1.trans hp.symm)
 ·intro _
  rw [gl, jb rfl]
  exact ⟨g, vs.toArray, hp, y2, Za y3 hn, fun _ => hv, fun e => by cases e⟩
 ·intro h1 h2
  rw [gl, ja (by omega)] at h1 h2
  exact x5 h1 h2
theorem YZ.tmps (h : YZ T W0 b L a W) : a.tmps = (((((((((b.setIfInBounds (T.d 0) (a.tmps.getD (T.d 0) undef)).setIfInBounds (T.d 1) (a.tmps.getD (T.d 1) undef)).setIfInBounds (T.d 2) (a.tmps.getD (T.d 2) undef)).setIfInBounds (T.d 3) (a.tmps.getD (T.d 3) undef)).setIfInBounds (T.d 4) (a.tmps.getD (T.d 4) undef)).setIfInBounds (T.d 5) (a.tmps.getD (T.d 5) undef)).setIfInBounds (T.d 6) (a.tmps.getD (T.d 6) undef)).setIfInBounds (T.d 7) (a.tmps.getD (T.d 7) undef)).setIfInBounds T.p (a.tmps.getD T.p undef)).setIfInBounds T.q (a.tmps.getD T.q undef) := by
 apply Array.ext
 ·simp [h.size]
 ·intro j h1 h2
  have e : ∀ (B : Array Value) (hB : j < B.size), B[j] = B.getD j undef := fun B hB => by simp [Array.getD, hB]
  rw [e _ h1, e _ h2]
  have hb : j < b.size := by rw [<- h.size]; exact h1
  obtain ⟨f1, f2, f3⟩ := h.fits
  rw [yC _ _ _ _ _ (by simpa using f3)]
  by_cases c : j = T.q
  ·rw [jb c, c]
  rw [ja c, yC _ _ _ _ _ (by simpa using f2)]
  by_cases c8 : j = T.p
  ·rw [jb c8, c8]
  rw [ja c8, yC _ _ _ _ _ (by simpa using f1 7 (by omega))]
  by_cases c7 : j = T.d 7
  ·rw [jb c7, c7]
  rw [ja c7, yC _ _ _ _ _ (by simpa using f1 6 (by omega))]
  by_cases c6 : j = T.d 6
  ·rw [jb c6, c6]
  rw [ja c6, yC _ _ _ _ _ (by simpa using f1 5 (by omega))]
  by_cases c5 : j = T.d 5
  ·rw [jb c5, c5]
  rw [ja c5, yC _ _ _ _ _ (by simpa using f1 4 (by omega))]
  by_cases c4 : j = T.d 4
  ·rw [jb c4, c4]
  rw [ja c4, yC _ _ _ _ _ (by simpa using f1 3 (by omega))]
  by_cases c3 : j = T.d 3
  ·rw [jb c3, c3]
  rw [ja c3, yC _ _ _ _ _ (by simpa using f1 2 (by omega))]
  by_cases c2 : j = T.d 2
  ·rw [jb c2, c2]
  rw [ja c2, yC _ _ _ _ _ (by simpa using f1 1 (by omega))]
  by_cases c1 : j = T.d 1
  ·rw [jb c1, c1]
  rw [ja c1, yC _ _ _ _ _ (by simpa using f1 0 (by omega))]
  by_cases c0 : j = T.d 0
  ·rw [jb c0, c0]
  rw [ja c0]
  refine h.base j (fun i hi => ?_) c8 c
  match i, hi with
  | 0, _ => exact c0
  | 1, _ => exact c1
  | 2, _ => exact c2
  | 3, _ => exact c3
  | 4, _ => exact c4
  | 5, _ => exact c5
  | 6, _ => exact c6
  | 7, _ => exact c7
end
def RV (ed : Int) (ns no : Nat) (tr : List Z4) (co us wh : Int) (v : Value) (N : Nat -> Prop) (W : World) : Prop :=
 ∃ (E1 : Option Addr) (e1 : Nat) (E2 : Option Addr) (e2 : Nat) (E3 : Option Addr) (e3 : Nat), v = .agg #[.int .i64 ed, .slice E1 ns e1, .slice E2 no e2, .slice E3 tr.length e3, .int .i64 co, .int .i64 us, .int .i64 wh] /\ tr.length <= e3 /\ Kd.F Ye W (fun k => k < W.heap.size /\ ¬ N k) E3 tr.length tr
section
variable {ed : Int} {ns no : Nat} {tr : List Z4} {co us wh : Int} {v : Value} {N : Nat -> Prop} {W : World}
theorem RV.grow (h : RV ed ns no tr co us wh v N W) {W1 : World} (hb : Below W.heap.size W W1) : RV ed ns no tr co us wh v N W1 := by
 obtain ⟨E1, e1, E2, e2, E3, e3, e, l, f⟩ := h
 exact ⟨E1, e1, E2, e2, E3, e3, e, l, Kd.F_mono (Kd.F_step f (fun k hk _ => hb.block k hk.1)) (fun k hk => ⟨ltl hk.1 hb.size, hk.2⟩)⟩
theorem RV.new (h : RV ed ns no tr co us wh v N W) (o : Obj) : RV ed ns no tr co us wh v (fun k => N k \/ k = W.heap.size) (W.alloc o) := by
 obtain ⟨E1, e1, E2, e2, E3, e3, e, l, f⟩ := h
 have hb := bal (jc W.heap.size W) o
 exact ⟨E1, e1, E2, e2, E3, e3, e, l, Kd.F_mono (Kd.F_step f (fun k hk _ => hb.block k hk.1)) (fun k hk => ⟨ltl hk.1 hb.size, fun h => by rcases h with h | h; exact hk.2 h; omega⟩)⟩
theorem RV.fill (h : RV ed ns no tr co us wh v N W) {g : Nat} (hg : N g) (vs : List Value) : RV ed ns no tr co us wh v N (W.setCells g 0 vs) := by
 obtain ⟨E1, e1, E2, e2, E3, e3, e, l, f⟩ := h
 exact ⟨E1, e1, E2, e2, E3, e3, e, l, Kd.F_mono (Kd.F_step f (fun k hk _ => Zj (fun e => hk.2 (e ▸ hg)))) (fun k hk => ⟨by rw [yM]; exact hk.1, hk.2⟩)⟩
end
theorem get_tf {L : Array Bool} {i : Nat} (hs : i < L.size) (h : L.getD i true = true) : L.getD i false = true := by
 simp [Array.getD, hs] at h ⊢
 exact h
theorem z2I {P : Program} {ops : Array Oper} {Q : Exit -> Act -> World -> Prop} {id : Nat} {a : Act} {w : World} (T : TG) (hm : P.follows .mixedOrders = true) (hb : z7G .any ops = true) (hn : ops.size = 12) (hd : a.defers = []) (hf : (∀ i, i < 8 -> T.d i < a.tmps.size) /\ T.p < a.tmps.size /\ T.q < a.tmps.size)
  (hend : ∀ L a' W, YZ T w.drew a.tmps L a' W -> (∀ j, j < 12 -> L.getD j false = true) -> Q .normal a' W)
  (hstep : ∀ L a' W i o, YZ T w.drew a.tmps L a' W -> ops[i]? = some o -> i < 12 -> L.getD i true = false -> (∀ e ∈ o.after, Region.binds .any e = true -> L.getD e.on false = true) -> wpOp P ops Q i (fun a2 w2 => YZ T w.drew a.tmps (L.setIfInBounds i true) a2 w2) a' W) :
  (Code.region id ops true).wp P Q a w := by
 refine wp_region_any hm ?_
 refine z4X hb (YZ T w.drew a.tmps) ?_ ?_ _ _ _ _ ?_ ?_
 ·intro L a' W hI hL
  exact hend L a' W hI (fun j hj => get_tf (by rw [hI.len]; exact hj) (hL j (by rw [hn]; exact hj)))
 ·intro L a' W i o hI ho hl hall
  exact hstep L a' W i o hI ho (by rw [<- hn]; exact (Array.getElem?_eq_some_iff.1 ho).1) hl hall
 ·unfold z0N
  exact Nat.le_trans (List.length_filter_le _ _) (by simp)
 ·have hz : ∀ j, (Array.replicate ops.size false).getD j false = false := fun j => by
   simp only [Array.getD_eq_getD_getElem?, Array.getElem?_replicate]
   split <;> rfl
  refine ⟨by simp [hn], rfl, hf, hd, fun _ _ _ _ => rfl, jc _ _, fun h => ?_, fun h => ?_, fun _ => False, fun k hk => hk.elim, fun i hi h => ?_, fun h => ?_, fun h => ?_, fun h => ?_⟩
  all_goals (rw [hz] at h; cases h)
section
theorem z7P {a : Act} {B : Array Value} {D : List Deferred} (h1 : a.tmps = B) (h2 : a.defers = D) : a = ⟨B, D⟩ := by
 cases a
 cases h1
 cases h2
 rfl
theorem Zd {a : Act} {n : Nat} {v : Value} (h : a.tmps.getD n undef = v) : a.tmps[n]?.getD undef = v := by simpa using h
def CVV (c : VC) (v : Value) (N : Nat -> Prop) (W : World) : Prop :=
 ∃ (E1 : Option Addr) (e1 : Nat) (E2 : Option Addr) (e2 : Nat) (E3 : Option Addr) (e3 : Nat) (V7 : Option Addr) (x7 : Nat) (V8 : Option Addr) (x8 : Nat), v = .agg #[.int .i64 c.ed, .slice E1 c.st.length e1, .slice E2 c.ou.length e2, .slice E3 c.tr.length e3, .int .i64 c.co, .int .i64 c.us, .int .i64 c.wh, .slice V7 c.re.length x7, .slice V8 c.tl.length x8, .int .i64 c.pc, .int .i64 c.fu, .bool c.ov] /\ RV c.ed c.st.length c.ou.length c.tr c.co c.us c.wh (.agg #[.int .i64 c.ed, .slice E1 c.st.length e1, .slice E2 c.ou.length e2, .slice E3 c.tr.length e3, .int .i64 c.co, .int .i64 c.us, .int .i64 c.wh]) N W
def seenG6 (pa fa sa sb : Value) (c d : MC) : Nat -> Value -> (Nat -> Prop) -> World -> Prop
 | 0, v, _, _ => v = pa | 1, v, _, _ => v = fa | 2, v, _, _ => v = sa | 4, v, _, _ => v = pa | 5, v, _, _ => v = fa | 6, v, _, _ => v = sb
 | 3, v, N, W => RV c.ed c.st.length c.ou.length c.tr c.co c.us c.wh v N W
 | 7, v, N, W => RV d.ed d.st.length d.ou.length d.tr d.co d.us d.wh v N W
 | _, _, _, _ => True
def seenG9 (ca sa sb : Value) (c d : VC) : Nat -> Value -> (Nat -> Prop) -> World -> Prop
 | 0, v, _, _ => v = ca | 1, v, _, _ => v = sa | 4, v, _, _ => v = ca | 5, v, _, _ => v = sb
 | 2, v, N, W => CVV c v N W | 6, v, N, W => CVV d v N W
 | 3, v, N, W => RV c.ed c.st.length c.ou.length c.tr c.co c.us c.wh v N W
 | 7, v, N, W => RV d.ed d.st.length d.ou.length d.tr d.co d.us d.wh v N W
 | _, _, _, _ => True
theorem CVV.grow {c : VC} {v : Value} {N : Nat -> Prop} {W W1 : World} (h : CVV c v N W) (hb : Below W.heap.size W W1) : CVV c v N W1 := by
 obtain ⟨E1, e1, E2, e2, E3, e3, V7, x7, V8, x8, e, r⟩ := h
 exact ⟨E1, e1, E2, e2, E3, e3, V7, x7, V8, x8, e, r.grow hb⟩
theorem CVV.new {c : VC} {v : Value} {N : Nat -> Prop} {W : World} (h : CVV c v N W) (o : Obj) : CVV c v (fun k => N k \/ k = W.heap.size) (W.alloc o) := by
 obtain ⟨E1, e1, E2, e2, E3, e3, V7, x7, V8, x8, e, r⟩ := h
 exact ⟨E1, e1, E2, e2, E3, e3, V7, x7, V8, x8, e, r.new o⟩
theorem CVV.fill {c : VC} {v : Value} {N : Nat -> Prop} {W : World} (h : CVV c v N W) {g : Nat} (hg : N g) (vs : List Value) : CVV c v N (W.setCells g 0 vs) := by
 obtain ⟨E1, e1, E2, e2, E3, e3, V7, x7, V8, x8, e, r⟩ := h
 exact ⟨E1, e1, E2, e2, E3, e3, V7, x7, V8, x8, e, r.fill hg vs⟩
def z3k : Array Value := Vhq
def z3O (pa fa sa sb : Value) (c d : MC) : TG where
 d := fun i => 48 + i
 p := 11
 q := 12
 t := 44
 z := z3k
 G := seenG6 pa fa sa sb c d
 inj := fun i j _ _ h => by have h1 : 48 + i = 48 + j := h; omega
 away := fun i _ => ⟨by show 48 + i ≠ 11; omega, by show 48 + i ≠ 12; omega⟩
 pq := by decide
 grow := fun i v N W W1 h hb => by
  match i, h with
  | 0, h => exact h
  | 1, h => exact h
  | 2, h => exact h
  | 3, h => exact RV.grow h hb
  | 4, h => exact h
  | 5, h => exact h
  | 6, h => exact h
  | 7, h => exact RV.grow h hb
  | _ + 8, _ => trivial
 new := fun i v N W o h  => by
  match i, h with
  | 0, h => exact h
  | 1, h => exact h
  | 2, h => exact h
  | 3, h => exact RV.new h o
  | 4, h => exact h
  | 5, h => exact h
  | 6, h => exact h
  | 7, h => exact RV.new h o
  | _ + 8, _ => trivial
 fill := fun i v N W g vs h hg => by
  match i, h with
  | 0, h => exact h
  | 1, h => exact h
  | 2, h => exact h
  | 3, h => exact RV.fill h hg vs
  | 4, h => exact h
  | 5, h => exact h
  | 6, h => exact h
  | 7, h => exact RV.fill h hg vs
  | _ + 8, _ => trivial
def z3N (ca sa sb : Value) (c d : VC) : TG where
 d := fun i => 65 + i
 p := 13
 q := 14
 t := 44
 z := z3k
 G := seenG9 ca sa sb c d
 inj := fun i j _ _ h => by have h1 : 65 + i = 65 + j := h; omega
 away := fun i _ => ⟨by show 65 + i ≠ 13; omega, by show 65 + i ≠ 14; omega⟩
 pq := by decide
 grow := fun i v N W W1 h hb => by
  match i, h with
  | 0, h => exact h
  | 1, h => exact h
  | 2, h => exact CVV.grow h hb
  | 3, h => exact RV.grow h hb
  | 4, h => exact h
  | 5, h => exact h
  | 6, h => exact CVV.grow h hb
  | 7, h => exact RV.grow h hb
  | _ + 8, _ => trivial
 new := fun i v N W o h  => by
  match i, h with
  | 0, h => exact h
  | 1, h => exact h
  | 2, h => exact CVV.new h o
  | 3, h => exact RV.new h o
  | 4, h => exact h
  | 5, h => exact h
  | 6, h => exact CVV.new h o
  | 7, h => exact RV.new h o
  | _ + 8, _ => trivial
 fill := fun i v N W g vs h hg => by
  match i, h with
  | 0, h => exact h
  | 1, h => exact h
  | 2, h => exact CVV.fill h hg vs
  | 3, h => exact RV.fill h hg vs
  | 4, h => exact h
  | 5, h => exact h
  | 6, h => exact CVV.fill h hg vs
  | 7, h => exact RV.fill h hg vs
  | _ + 8, _ => trivial
theorem z02 {w : World} {g : Nat} {a0 a1 : Value} {t : TypeId} (h : w.heap[g]? = some (.cells #[a0, a1] t (0, 0))) : w.cell? ⟨g, 0, none⟩ = some a0 /\ w.cell? ⟨g, 1, none⟩ = some a1 := ⟨(za h 0).trans rfl, (za h 1).trans rfl⟩
attribute [local go_sem] z4Q
theorem compSeen.walk (k : Nat) (a0 : Int) (A1 : Option Addr) (c1 : Nat) (l1 : List S76) (A2 : Option Addr) (c2 : Nat) (l2 : List S81) (fuel : Int) (As : Option Addr) (ns : Nat) (sa : List Int) (Ap : Option Addr) (np : Nat) (pa : List Int) (Bs : Option Addr) (ms : Nat) (sb : List Int) (Bp : Option Addr) (mp : Nat) (pb : List Int) (bf : Bool) (ra rb : Int) (w : World) (hr1 : Kd.C k76 w A1 l1.length l1) (hc1 : l1.length <= c1) (hr2 : Kd.C k81 w A2 l2.length l2) (hc2 : l2.length <= c2)
  (hsa : Kd.C (Kd.int .i64) w As sa.length sa) (hns : sa.length <= ns) (hpa : Kd.C (Kd.int .i64) w Ap pa.length pa) (hnp : pa.length <= np) (hsb : Kd.C (Kd.int .i64) w Bs sb.length sb) (hms : sb.length <= ms) (hpb : Kd.C (Kd.int .i64) w Bp pb.length pb) (hmp : pb.length <= mp) (H : z7R k a0 l1 l2 fuel sa pa sb pb bf ra rb) :
  Calls Tryz.prog 5 #[.agg (Vf a0 A1 l1 c1 A2 l2 c2), .int .i64 fuel, .agg (Vn As sa ns Ap pa np), .agg (Vn Bs sb ms Bp pb mp)] w fun e w' => e = .returned (.bool true) /\ Below w.heap.size w w' := by
 have huP := Tryz.underlying25
 have huCo := Tryz.underlying33
 have huSt := Tryz.underlying28
 have huR := Tryz.underlying44
 have huVC := Tryz.underlying48
 have HR1 := am hr1
 have HC1 := am hc1
 have HR2 := am hr2
 have HC2 := am hc2
 have HSA := am hsa
 have HNS := am hns
 have HPA := am hpa
 have HNP := am hnp
 have HSB := am hsb
 have HMS := am hms
 have HPB := am hpb
 have HMP := am hmp
 obtain ⟨hf, hca, hcb, hgo⟩ := H
 have HF := am hf
 have HCA := am hca
 have HCB := am hcb
 have HG := am hgo
 obtain ⟨b_, hsz_, x0_, x1_, x2_⟩ := z7F w (.cells (Vf a0 A1 l1 c1 A2 l2 c2) 25) (.cells (Vn As sa ns Ap pa np) 28) (.cells (Vn Bs sb ms Bp pb mp) 28)
 have B0 := am b_
 have X0 := am x0_
 have X1 := am x1_
 have X2 := am x2_
 clear hr1 hc1 hr2 hc2 hsa hns hpa hnp hsb hms hpb hmp hf hca hcb hgo b_ hsz_ x0_ x1_ x2_
 go_enter Tryz.func5, Tryz.ntmps5
 go_upto_region 1 with (fail)
 generalize ((w.alloc (.cells (Vf a0 A1 l1 c1 A2 l2 c2) 25)).alloc (.cells (Vn As sa ns Ap pa np) 28)).alloc (.cells (Vn Bs sb ms Bp pb mp) 28) = W0 at B0 X0 X1 X2 ⊢
 have p_q := bq X0.out
 obtain ⟨s0, s1⟩ := z02 X1.out
 obtain ⟨u0, u1⟩ := z02 X2.out
 cases bf with
 | false =>
  go_wp2_with (first | (go_at_call 7; refine (yI.calls k A2 c2 l2 600 false W0 (ji HR2.out B0.out) HC2.out HF.out).mono ?_; rintro e W1 ⟨rfl, hb⟩; have B1 := am (B0.out.trans (hb.mono B0.out.size)); have X0 := am (zd X0.out hb); have X1 := am (zd X1.out hb); have X2 := am (zd X2.out hb); clear hb; clear p_q s0 s1 u0 u1; have p_q := bq X0.out; obtain ⟨s0, s1⟩ := z02 X1.out; obtain ⟨u0, u1⟩ := z02 X2.out) | (go_at_call 8; refine (z3e.calls _).mono ?_; rintro e W9 ⟨rfl, hb⟩; have B9 := am (B1.out.trans (hb.mono B1.out.size)); clear hb))
  go_ret
  exact ⟨rfl, B9.out⟩
 | true =>
  by_cases a0_ : ra = 0
  case neg =>
   have ea0 : (ra == 0) = false := bF a0_
   have ea1 : (ra != 0) = true := bN a0_
   go_wp2_with (first | (go_at_call 7; refine (yI.calls k A2 c2 l2 600 true W0 (ji HR2.out B0.out) HC2.out HF.out).mono ?_; rintro e W1 ⟨rfl, hb⟩; have B1 := am (B0.out.trans (hb.mono B0.out.size)); have X0 := am (zd X0.out hb); have X1 := am (zd X1.out hb); have X2 := am (zd X2.out hb); clear hb; clear p_q s0 s1 u0 u1; have p_q := bq X0.out; obtain ⟨s0, s1⟩ := z02 X1.out; obtain ⟨u0, u1⟩ := z02 X2.out) | (go_at_call 13; (with_reducible refine (Zh.calls k a0 _ _ l1 _ _ l2 fuel _ _ sa _ _ pa ra W1 (ji HR1.out B1.out) HC1.out (ji HR2.out B1.out) HC2.out (ji HSA.out B1.out) HNS.out (ji HPA.out B1.out) HNP.out HCA.out).mono ?_); rintro e W2 ⟨rfl, hb⟩; have B2 := am (B1.out.trans (hb.mono B1.out.size)); have X0 := am (zd X0.out hb); have X1 := am (zd X1.out hb); have X2 := am (zd X2.out hb); clear hb; clear p_q s0 s1 u0 u1; have p_q := bq X0.out; obtain ⟨s0, s1⟩ := z02 X1.out; obtain ⟨u0, u1⟩ := z02 X2.out) | (go_at_call 8; refine (z3e.calls _).mono ?_; rintro e W9 ⟨rfl, hb⟩; have B9 := am (B2.out.trans (hb.mono B2.out.size)); clear hb))
   go_ret
   exact ⟨rfl, B9.out⟩
  subst a0_
  by_cases b0_ : rb = 0
  case neg =>
   have eb0 : (rb == 0) = false := bF b0_
   have eb1 : (rb != 0) = true := bN b0_
   go_wp2_with (first | (go_at_call 7; refine (yI.calls k A2 c2 l2 600 true W0 (ji HR2.out B0.out) HC2.out HF.out).mono ?_; rintro e W1 ⟨rfl, hb⟩; have B1 := am (B0.out.trans (hb.mono B0.out.size)); have X0 := am (zd X0.out hb); have X1 := am (zd X1.out hb); have X2 := am (zd X2.out hb); clear hb; clear p_q s0 s1 u0 u1; have p_q := bq X0.out; obtain ⟨s0, s1⟩ := z02 X1.out; obtain ⟨u0, u1⟩ := z02 X2.out) | (go_at_call 13; (with_reducible refine (Zh.calls k a0 _ _ l1 _ _ l2 fuel _ _ sa _ _ pa 0 W1 (ji HR1.out B1.out) HC1.out (ji HR2.out B1.out) HC2.out (ji HSA.out B1.out) HNS.out (ji HPA.out B1.out) HNP.out HCA.out).mono ?_); rintro e W2 ⟨rfl, hb⟩; have B2 := am (B1.out.trans (hb.mono B1.out.size)); have X0 := am (zd X0.out hb); have X1 := am (zd X1.out hb); have X2 := am (zd X2.out hb); clear hb; clear p_q s0 s1 u0 u1; have p_q := bq X0.out; obtain ⟨s0, s1⟩ := z02 X1.out; obtain ⟨u0, u1⟩ := z02 X2.out) | (go_at_call 13; (with_reducible refine (Zh.calls k a0 _ _ l1 _ _ l2 fuel _ _ sb _ _ pb rb W2 (ji HR1.out B2.out) HC1.out (ji HR2.out B2.out) HC2.out (ji HSB.out B2.out) HMS.out (ji HPB.out B2.out) HMP.out HCB.out).mono ?_); rintro e W3 ⟨rfl, hb⟩; have B3 := am (B2.out.trans (hb.mono B2.out.size)); have X0 := am (zd X0.out hb); have X1 := am (zd X1.out hb); have X2 := am (zd X2.out hb); clear hb; clear p_q s0 s1 u0 u1; have p_q := bq X0.out; obtain ⟨s0, s1⟩ := z02 X1.out; obtain ⟨u0, u1⟩ := z02 X2.out) | (go_at_call 8; refine (z3e.calls _).mono ?_; rintro e W9 ⟨rfl, hb⟩; have B9 := am (B3.out.trans (hb.mono B3.out.size)); clear hb))
   go_ret
   exact ⟨rfl, B9.out⟩
  subst b0_
  obtain ⟨hk, hco, c', d', hra, hrb, hend⟩ := HG.out rfl rfl
  have HK := am hk
  have HCO := am hco
  have HRA := am hra
  have HRB := am hrb
  have HEND := am hend
  clear HG hk hco hra hrb hend
  go_upto_region 4 with (first | (go_at_call 7; refine (yI.calls k A2 c2 l2 600 true W0 (ji HR2.out B0.out) HC2.out HF.out).mono ?_; rintro e W1 ⟨rfl, hb⟩; have B1 := am (B0.out.trans (hb.mono B0.out.size)); have X0 := am (zd X0.out hb); have X1 := am (zd X1.out hb); have X2 := am (zd X2.out hb); clear hb; clear p_q s0 s1 u0 u1; have p_q := bq X0.out; obtain ⟨s0, s1⟩ := z02 X1.out; obtain ⟨u0, u1⟩ := z02 X2.out) | (go_at_call 13; (with_reducible refine (Zh.calls k a0 _ _ l1 _ _ l2 fuel _ _ sa _ _ pa 0 W1 (ji HR1.out B1.out) HC1.out (ji HR2.out B1.out) HC2.out (ji HSA.out B1.out) HNS.out (ji HPA.out B1.out) HNP.out HCA.out).mono ?_); rintro e W2 ⟨rfl, hb⟩; have B2 := am (B1.out.trans (hb.mono B1.out.size)); have X0 := am (zd X0.out hb); have X1 := am (zd X1.out hb); have X2 := am (zd X2.out hb); clear hb; clear p_q s0 s1 u0 u1; have p_q := bq X0.out; obtain ⟨s0, s1⟩ := z02 X1.out; obtain ⟨u0, u1⟩ := z02 X2.out) | (go_at_call 13; (with_reducible refine (Zh.calls k a0 _ _ l1 _ _ l2 fuel _ _ sb _ _ pb 0 W2 (ji HR1.out B2.out) HC1.out (ji HR2.out B2.out) HC2.out (ji HSB.out B2.out) HMS.out (ji HPB.out B2.out) HMP.out HCB.out).mono ?_); rintro e W3 ⟨rfl, hb⟩; have B3 := am (B2.out.trans (hb.mono B2.out.size)); have X0 := am (zd X0.out hb); have X1 := am (zd X1.out hb); have X2 := am (zd X2.out hb); clear hb; clear p_q s0 s1 u0 u1; have p_q := bq X0.out; obtain ⟨s0, s1⟩ := z02 X1.out; obtain ⟨u0, u1⟩ := z02 X2.out) | (go_at_call 9; refine (cmp_ok HK.out HCO.out (w := W3) (ji HR1.out B3.out) HC1.out (ji HR2.out B3.out) HC2.out).mono ?_; rintro e W4 ⟨D1, d1, D2, d2, rfl, r1, n1, r2, n2, hb⟩; have R1 := am r1; have R2 := am r2; have N1 := am n1; have N2 := am n2; have B4 := am (B3.out.trans (hb.mono B3.out.size)); have X0 := am (zd X0.out hb); have X1 := am (zd X1.out hb); have X2 := am (zd X2.out hb); clear hb r1 r2 n1 n2; clear p_q s0 s1 u0 u1; have p_q := bq X0.out; obtain ⟨s0, s1⟩ := z02 X1.out; obtain ⟨u0, u1⟩ := z02 X2.out))
  clear p_q s0 s1 u0 u1 B0 B1 B2 B3
  have ba := bal B4.out (.cells (Vf a0 D1 l1 d1 D2 (zG l2) d2) 33)
  have nb := zI W4 (.cells (Vf a0 D1 l1 d1 D2 (zG l2) d2) 33)
  have bs := bal (jc W4.heap.size W4) (.cells (Vf a0 D1 l1 d1 D2 (zG l2) d2) 33)
  have X0 := am (kal X0.out (.cells (Vf a0 D1 l1 d1 D2 (zG l2) d2) 33))
  have X1 := am (kal X1.out (.cells (Vf a0 D1 l1 d1 D2 (zG l2) d2) 33))
  have X2 := am (kal X2.out (.cells (Vf a0 D1 l1 d1 D2 (zG l2) d2) 33))
  have R1 := am (ji R1.out bs)
  have R2 := am (ji R2.out bs)
  clear bs
  generalize W4.alloc (.cells (Vf a0 D1 l1 d1 D2 (zG l2) d2) 33) = W5 at ba nb X0 X1 X2 R1 R2 ⊢
  have B5 := am ba
  have XC := am nb
  clear ba nb
  have p_q := bq X0.out
  obtain ⟨q0, q1, q2⟩ := row3 XC.out
  go_upto_region 6 with (first | (go_at_call 12; refine (for_ok.calls k a0 A1 c1 l1 A2 c2 l2.length D1 d1 D2 d2 l2 W5 (ji HR1.out B5.out) HC1.out R1.out N1.out R2.out N2.out HCO.out).mono ?_; rintro e W6 ⟨rfl, hb⟩; have B6 := am (B5.out.trans (hb.mono B5.out.size)); have X0 := am (zd X0.out hb); have X1 := am (zd X1.out hb); have X2 := am (zd X2.out hb); have XC := am (zd XC.out hb); have R1 := am (ji R1.out hb); have R2 := am (ji R2.out hb); clear hb p_q q0 q1 q2))
  clear B4 B5
  have BD := am (B6.out.trans ((zj (jc _ _)).mono B6.out.size))
  have X0 := am (kdr X0.out)
  have X1 := am (kdr X1.out)
  have X2 := am (kdr X2.out)
  have XC := am (kdr XC.out)
  have R1 := am (Kd.C_drew R1.out)
  have R2 := am (Kd.C_drew R2.out)
  refine z2I (z3O (.agg (Vf a0 A1 l1 c1 A2 l2 c2)) (.int .i64 fuel) (.agg (Vn As sa ns Ap pa np)) (.agg (Vn Bs sb ms Bp pb mp)) c' d') (by kernel_rfl) (by kernel_rfl) rfl rfl ⟨fun i hi => by show 48 + i < _; simp; omega, by simp [z3O], by simp [z3O]⟩ ?hend ?hstep
  case hstep =>
   intro L a W i o hI ho hi hl hall
   obtain ⟨N, hx⟩ := hI.ex
   have hbw := hI.below
   match i, hi with
   | 0, _ =>
    cases ho
    have t4 := Zd ((hI.base 4 (fun i hi => by show 4 ≠ 48 + i; omega) (by show 4 ≠ 11; decide) (by show 4 ≠ 12; decide)).trans rfl)
    have hz := zd X0.out hbw
    have z0 : W.cell? ⟨w.heap.size, 0, none⟩ = some (.int .i64 a0) := (za hz 0).trans rfl
    have z1 : W.cell? ⟨w.heap.size, 1, none⟩ = some (.slice A1 l1.length c1) := (za hz 1).trans rfl
    have z2 : W.cell? ⟨w.heap.size, 2, none⟩ = some (.slice A2 l2.length c2) := (za hz 2).trans rfl
    refine ZI (v := .agg (Vf a0 A1 l1 c1 A2 l2 c2)) (W1 := W) rfl rfl (by go_simp; done) ?_
    exact hI.put hx (i := 0) (by omega) hl (jc _ _) rfl
   | 1, _ =>
    cases ho
    have t1 := Zd ((hI.base 1 (fun i hi => by show 1 ≠ 48 + i; omega) (by show 1 ≠ 11; decide) (by show 1 ≠ 12; decide)).trans rfl)
    refine ZI (v := .int .i64 fuel) (W1 := W) rfl rfl (by go_simp; done) ?_
    exact hI.put hx (i := 1) (by omega) hl (jc _ _) rfl
   | 2, _ =>
    cases ho
    have t6 := Zd ((hI.base 6 (fun i hi => by show 6 ≠ 48 + i; omega) (by show 6 ≠ 11; decide) (by show 6 ≠ 12; decide)).trans rfl)
    have hz := zd X1.out hbw
    have z0 : W.cell? ⟨w.heap.size + 1, 0, none⟩ = some (.slice As sa.length ns) := (za hz 0).trans rfl
    have z1 : W.cell? ⟨w.heap.size + 1, 1, none⟩ = some (.slice Ap pa.length np) := (za hz 1).trans rfl
    refine ZI (v := .agg (Vn As sa ns Ap pa np)) (W1 := W) rfl rfl (by go_simp; done) ?_
    exact hI.put hx (i := 2) (by omega) hl (jc _ _) rfl
   | 3, _ =>
    cases ho
    have g0 := Zd (show a.tmps.getD 48 undef = _ from hx.2.1 0 (by omega) (hall ⟨0, .data⟩ (by simp) rfl))
    have g1 := Zd (show a.tmps.getD 49 undef = _ from hx.2.1 1 (by omega) (hall ⟨1, .data⟩ (by simp) rfl))
    have g2 := Zd (show a.tmps.getD 50 undef = _ from hx.2.1 2 (by omega) (hall ⟨2, .data⟩ (by simp) rfl))
    have BX := BD.out.trans (hbw.mono BD.out.size)
    obtain ⟨cn, nd, ev, va, r, h1, h2, h3, h4⟩ := HRA.out
    refine z1I (f := 14) (args := #[.agg (Vf a0 A1 l1 c1 A2 l2 c2), .int .i64 fuel, .agg (Vn As sa ns Ap pa np)]) (W1 := W) rfl rfl (by go_simp; done) ?_
    refine (z5P.callsE cn nd ev va r W k a0 A1 c1 l1 A2 c2 l2 fuel As ns sa Ap np pa c' (ji HR1.out BX) HC1.out (ji HR2.out BX) HC2.out h1 (ji HSA.out BX) HNS.out h2 (ji HPA.out BX) HNP.out h3 h4).mono ?_
    rintro e w' ⟨E1, e1, E2, e2, E3, e3, rfl, l3, hf, hb⟩
    exact ⟨_, rfl, hI.put hx (i := 3) (by omega) hl hb ⟨E1, e1, E2, e2, E3, e3, rfl, l3, Kd.F_mono hf (fun k hk => ⟨hk.2, fun hn => by have := (hx.1 k hn).2; omega⟩)⟩⟩
   | 4, _ =>
    cases ho
    have t4 := Zd ((hI.base 4 (fun i hi => by show 4 ≠ 48 + i; omega) (by show 4 ≠ 11; decide) (by show 4 ≠ 12; decide)).trans rfl)
    have hz := zd X0.out hbw
    have z0 : W.cell? ⟨w.heap.size, 0, none⟩ = some (.int .i64 a0) := (za hz 0).trans rfl
    have z1 : W.cell? ⟨w.heap.size, 1, none⟩ = some (.slice A1 l1.length c1) := (za hz 1).trans rfl
    have z2 : W.cell? ⟨w.heap.size, 2, none⟩ = some (.slice A2 l2.length c2) := (za hz 2).trans rfl
    refine ZI (v := .agg (Vf a0 A1 l1 c1 A2 l2 c2)) (W1 := W) rfl rfl (by go_simp; done) ?_
    exact hI.put hx (i := 4) (by omega) hl (jc _ _) rfl
   | 5, _ =>
    cases ho
    have t1 := Zd ((hI.base 1 (fun i hi => by show 1 ≠ 48 + i; omega) (by show 1 ≠ 11; decide) (by show 1 ≠ 12; decide)).trans rfl)
    refine ZI (v := .int .i64 fuel) (W1 := W) rfl rfl (by go_simp; done) ?_
    exact hI.put hx (i := 5) (by omega) hl (jc _ _) rfl
   | 6, _ =>
    cases ho
    have t7 := Zd ((hI.base 7 (fun i hi => by show 7 ≠ 48 + i; omega) (by show 7 ≠ 11; decide) (by show 7 ≠ 12; decide)).trans rfl)
    have hz := zd X2.out hbw
    have z0 : W.cell? ⟨w.heap.size + 2, 0, none⟩ = some (.slice Bs sb.length ms) := (za hz 0).trans rfl
    have z1 : W.cell? ⟨w.heap.size + 2, 1, none⟩ = some (.slice Bp pb.length mp) := (za hz 1).trans rfl
    refine ZI (v := .agg (Vn Bs sb ms Bp pb mp)) (W1 := W) rfl rfl (by go_simp; done) ?_
    exact hI.put hx (i := 6) (by omega) hl (jc _ _) rfl
   | 7, _ =>
    cases ho
    have g0 := Zd (show a.tmps.getD 52 undef = _ from hx.2.1 4 (by omega) (hall ⟨4, .data⟩ (by simp) rfl))
    have g1 := Zd (show a.tmps.getD 53 undef = _ from hx.2.1 5 (by omega) (hall ⟨5, .data⟩ (by simp) rfl))
    have g2 := Zd (show a.tmps.getD 54 undef = _ from hx.2.1 6 (by omega) (hall ⟨6, .data⟩ (by simp) rfl))
    have BX := BD.out.trans (hbw.mono BD.out.size)
    obtain ⟨cn, nd, ev, va, r, h1, h2, h3, h4⟩ := HRB.out
    refine z1I (f := 14) (args := #[.agg (Vf a0 A1 l1 c1 A2 l2 c2), .int .i64 fuel, .agg (Vn Bs sb ms Bp pb mp)]) (W1 := W) rfl rfl (by go_simp; done) ?_
    refine (z5P.callsE cn nd ev va r W k a0 A1 c1 l1 A2 c2 l2 fuel Bs ms sb Bp mp pb d' (ji HR1.out BX) HC1.out (ji HR2.out BX) HC2.out h1 (ji HSB.out BX) HMS.out h2 (ji HPB.out BX) HMP.out h3 h4).mono ?_
    rintro e w' ⟨E1, e1, E2, e2, E3, e3, rfl, l3, hf, hb⟩
    exact ⟨_, rfl, hI.put hx (i := 7) (by omega) hl hb ⟨E1, e1, E2, e2, E3, e3, rfl, l3, Kd.F_mono hf (fun k hk => ⟨hk.2, fun hn => by have := (hx.1 k hn).2; omega⟩)⟩⟩
   | 8, _ =>
    cases ho
    refine ZI (v := .pointer (some ⟨W.heap.size, 0, none⟩)) (W1 := W.alloc (.cells z3k 44 (0, 0))) rfl rfl (by unfold z3k; go_simp; done) ?_
    exact hI.new8 hl
   | 9, _ =>
    cases ho
    refine ZI (v := .pointer (some ⟨W.heap.size, 0, none⟩)) (W1 := W.alloc (.cells z3k 44 (0, 0))) rfl rfl (by unfold z3k; go_simp; done) ?_
    exact hI.new9 hl
   | 10, _ =>
    cases ho
    obtain ⟨g, cs, y1, y2, y3, _, y5⟩ := hx.2.2.1 (hall ⟨8, .data⟩ (by simp) rfl)
    obtain ⟨E1, e1, E2, e2, E3, e3, y6, _⟩ := hx.2.1 3 (by omega) (hall ⟨3, .data⟩ (by simp) rfl)
    rw [y5 (tf hl)] at y3
    have g0 := Zd (n := 11) y1
    have g1 := Zd (n := 51) y6
    obtain ⟨z0, z1, z2, z3, z4, z5, z6⟩ := row7 (show W.heap[g]? = some (.cells Vhq 44 (0, 0)) from y3)
    obtain ⟨f0, f1, f2, f3, f4, f5, f6, _, _, _⟩ := z12 y3
    refine z2y (W1 := W.setCells g 0 (Vlq c'.ed E1 c'.st e1 E2 c'.ou e2 E3 c'.tr e3 c'.co c'.us c'.wh)) rfl rfl (by go_simp; rfl) ?_
    exact hI.fill10 hl (hall ⟨3, .data⟩ (by simp) rfl) (hall ⟨8, .data⟩ (by simp) rfl) y1 y6 rfl
   | 11, _ =>
    cases ho
    obtain ⟨g, cs, y1, y2, y3, _, y5⟩ := hx.2.2.2.1 (hall ⟨9, .data⟩ (by simp) rfl)
    obtain ⟨E1, e1, E2, e2, E3, e3, y6, _⟩ := hx.2.1 7 (by omega) (hall ⟨7, .data⟩ (by simp) rfl)
    rw [y5 (tf hl)] at y3
    have g0 := Zd (n := 12) y1
    have g1 := Zd (n := 55) y6
    obtain ⟨z0, z1, z2, z3, z4, z5, z6⟩ := row7 (show W.heap[g]? = some (.cells Vhq 44 (0, 0)) from y3)
    obtain ⟨f0, f1, f2, f3, f4, f5, f6, _, _, _⟩ := z12 y3
    refine z2y (W1 := W.setCells g 0 (Vlq d'.ed E1 d'.st e1 E2 d'.ou e2 E3 d'.tr e3 d'.co d'.us d'.wh)) rfl rfl (by go_simp; rfl) ?_
    exact hI.fill11 hl (hall ⟨7, .data⟩ (by simp) rfl) (hall ⟨9, .data⟩ (by simp) rfl) y1 y6 rfl
  case hend =>
   intro L a W7 hI hL
   have ht := hI.tmps
   have hdf := hI.defers
   obtain ⟨N, hx⟩ := hI.ex
   have hb := hI.below
   have g0 := hx.2.1 0 (by omega) (hL 0 (by omega))
   have g1 := hx.2.1 1 (by omega) (hL 1 (by omega))
   have g2 := hx.2.1 2 (by omega) (hL 2 (by omega))
   have g3 := hx.2.1 3 (by omega) (hL 3 (by omega))
   have g4 := hx.2.1 4 (by omega) (hL 4 (by omega))
   have g5 := hx.2.1 5 (by omega) (hL 5 (by omega))
   have g6 := hx.2.1 6 (by omega) (hL 6 (by omega))
   have g7 := hx.2.1 7 (by omega) (hL 7 (by omega))
   obtain ⟨ga, csa, y1, _, y3, y4, _⟩ := hx.2.2.1 (hL 8 (by omega))
   obtain ⟨gb, csb, z1, _, z3, z4, _⟩ := hx.2.2.2.1 (hL 9 (by omega))
   have y5 := y4 (hL 10 (by omega))
   have z5 := z4 (hL 11 (by omega))
   obtain ⟨E1, e1, E2, e2, E3, e3, ea, la, fa⟩ := g3
   obtain ⟨F1, f1, F2, f2, F3, f3, eb, lb, fb⟩ := g7
   rw [ea] at y5
   rw [eb] at z5
   injection y5 with y5
   injection z5 with z5
   subst y5 z5
   rw [g0, g1, g2, ea, g4, g5, g6, eb, y1, z1] at ht
   have ha := z7P ht hdf
   have B7 := am (BD.out.trans (hb.mono BD.out.size))
   have X0 := am (zd X0.out hb)
   have X1 := am (zd X1.out hb)
   have X2 := am (zd X2.out hb)
   have XC := am (zd XC.out hb)
   have R1 := am (ji R1.out hb)
   have R2 := am (ji R2.out hb)
   have FA := am (Kd.F_now fa)
   have FB := am (Kd.F_now fb)
   have LA := am la
   have LB := am lb
   have YA := am y3
   have YB := am z3
   clear hI hx hL hb ea eb y1 z1 y3 z3 y4 z4 fa fb la lb g0 g1 g2 g4 g5 g6 BD B6 ht hdf
   subst ha
   skip
   simp only [z3O, List.setIfInBounds_toArray, List.set_cons_zero, List.set_cons_succ, Nat.reduceAdd]
   have z0 : W7.cell? ⟨ga, 0, none⟩ = some (.int .i64 c'.ed) := (za YA.out 0).trans rfl
   have y0 : W7.cell? ⟨gb, 0, none⟩ = some (.int .i64 d'.ed) := (za YB.out 0).trans rfl
   by_cases e0 : c'.ed = 0
   case neg =>
    have ec0 : (c'.ed == 0) = false := bF e0
    have ec1 : (c'.ed != 0) = true := bN e0
    go_wp2_with (first | (go_at_call 8; refine (z3e.calls _).mono ?_; rintro e W9 ⟨rfl, hb⟩; have B9 := am (B7.out.trans (hb.mono B7.out.size)); clear hb))
    go_ret
    exact ⟨rfl, B9.out⟩
   have ec0 : (c'.ed == 0) = true := bT e0
   have ec1 : (c'.ed != 0) = false := bQ e0
   have E0 := am e0
   clear e0
   by_cases e0 : d'.ed = 0
   case neg =>
    have ed0 : (d'.ed == 0) = false := bF e0
    have ed1 : (d'.ed != 0) = true := bN e0
    go_wp2_with (first | (go_at_call 8; refine (z3e.calls _).mono ?_; rintro e W9 ⟨rfl, hb⟩; have B9 := am (B7.out.trans (hb.mono B7.out.size)); clear hb))
    go_ret
    exact ⟨rfl, B9.out⟩
   have ed0 : (d'.ed == 0) = true := bT e0
   have ed1 : (d'.ed != 0) = false := bQ e0
   obtain ⟨v', u', same, hva, hvb, ht1, ht2, hcst⟩ := HEND.out E0.out e0
   have HVA := am hva
   have HVB := am hvb
   have HT1 := am ht1
   have HT2 := am ht2
   have HCST := am hcst
   clear e0 E0 hva hvb ht1 ht2 hcst HEND
   go_upto_region 9 with (fail)
   clear z0 y0 ec0 ec1 ed0 ed1
   have BD := am (B7.out.trans ((zj (jc _ _)).mono B7.out.size))
   have X0 := am (kdr X0.out)
   have X1 := am (kdr X1.out)
   have X2 := am (kdr X2.out)
   have XC := am (kdr XC.out)
   have YA := am (kdr YA.out)
   have YB := am (kdr YB.out)
   have R1 := am (Kd.C_drew R1.out)
   have R2 := am (Kd.C_drew R2.out)
   have FA := am (Kd.C_drew FA.out)
   have FB := am (Kd.C_drew FB.out)
   refine z2I (z3N (.agg (Vf a0 D1 l1 d1 D2 (zG l2) d2)) (.agg (Vn As sa ns Ap pa np)) (.agg (Vn Bs sb ms Bp pb mp)) v' u') (by kernel_rfl) (by kernel_rfl) rfl rfl ⟨fun i hi => by show 65 + i < _; simp; omega, by simp [z3N], by simp [z3N]⟩ ?hend ?hstep
   case hstep =>
    intro L a W i o hI ho hi hl hall
    obtain ⟨N, hx⟩ := hI.ex
    have hbw := hI.below
    match i, hi with
    | 0, _ =>
     cases ho
     have t9 := Zd ((hI.base 9 (fun i hi => by show 9 ≠ 65 + i; omega) (by show 9 ≠ 13; decide) (by show 9 ≠ 14; decide)).trans rfl)
     have hz := zd XC.out hbw
     have z0 : W.cell? ⟨W4.heap.size, 0, none⟩ = some (.int .i64 a0) := (za hz 0).trans rfl
     have z1 : W.cell? ⟨W4.heap.size, 1, none⟩ = some (.slice D1 l1.length d1) := (za hz 1).trans rfl
     have z2 : W.cell? ⟨W4.heap.size, 2, none⟩ = some (.slice D2 (zG l2).length d2) := (za hz 2).trans rfl
     refine ZI (v := .agg (Vf a0 D1 l1 d1 D2 (zG l2) d2)) (W1 := W) rfl rfl (by go_simp; done) ?_
     exact hI.put hx (i := 0) (by omega) hl (jc _ _) rfl
    | 1, _ =>
     cases ho
     have t6 := Zd ((hI.base 6 (fun i hi => by show 6 ≠ 65 + i; omega) (by show 6 ≠ 13; decide) (by show 6 ≠ 14; decide)).trans rfl)
     have hz := zd X1.out hbw
     have z0 : W.cell? ⟨w.heap.size + 1, 0, none⟩ = some (.slice As sa.length ns) := (za hz 0).trans rfl
     have z1 : W.cell? ⟨w.heap.size + 1, 1, none⟩ = some (.slice Ap pa.length np) := (za hz 1).trans rfl
     refine ZI (v := .agg (Vn As sa ns Ap pa np)) (W1 := W) rfl rfl (by go_simp; done) ?_
     exact hI.put hx (i := 1) (by omega) hl (jc _ _) rfl
    | 2, _ =>
     cases ho
     have g0 := Zd (show a.tmps.getD 65 undef = _ from hx.2.1 0 (by omega) (hall ⟨0, .data⟩ (by simp) rfl))
     have g1 := Zd (show a.tmps.getD 66 undef = _ from hx.2.1 1 (by omega) (hall ⟨1, .data⟩ (by simp) rfl))
     have BX := BD.out.trans (hbw.mono BD.out.size)
     have r1 := ji R1.out hbw
     have r2 := ji R2.out hbw
     obtain ⟨h2, M, h3, h4⟩ := HVA.out
     refine z1I (f := 16) (args := #[.agg (Vf a0 D1 l1 d1 D2 (zG l2) d2), .int .i64 4194304, .agg (Vn As sa ns Ap pa np)]) (W1 := W) rfl rfl (by go_simp; done) ?_
     refine (z4Y.calls k M W a0 D1 d1 l1 D2 d2 (zG l2) 4194304 As ns sa Ap np pa sa v' r1 N1.out r2 N2.out (ji HSA.out BX) HNS.out (ji HPA.out BX) HNP.out h2 h3 h4).mono ?_
     rintro e w' ⟨cs, rfl, hv, hb⟩
     obtain ⟨V1, x1, V2, x2, V3, x3, V7, x7, V8, x8, rfl, _, _, o3, _⟩ := hv
     have f0 : Kd.F Ye w' (fun k => W.heap.size <= k /\ k < w'.heap.size) V3 v'.tr.length v'.tr := Kd.R_F (jr (Kd.R_bound o3) (fun k hk => ⟨hk.2.1, hk.2.2.1⟩))
     have hf : Kd.F Ye w' (fun k => k < w'.heap.size /\ ¬ N k) V3 v'.tr.length v'.tr := Kd.F_mono f0 (fun k hk => ⟨hk.2, fun hn => Nat.lt_irrefl _ (ltl (hx.1 k hn).2 hk.1)⟩)
     have l3 := (Kd.R_reads' o3).2.1
     have hcv : CVV v' _ N w' := ⟨V1, x1, V2, x2, V3, x3, V7, x7, V8, x8, rfl, V1, x1, V2, x2, V3, x3, rfl, l3, hf⟩
     exact ⟨_, rfl, hI.put hx (i := 2) (by omega) hl hb hcv⟩
    | 3, _ =>
     cases ho
     obtain ⟨V1, x1, V2, x2, V3, x3, V7, x7, V8, x8, y6, hr⟩ := hx.2.1 2 (by omega) (hall ⟨2, .data⟩ (by simp) rfl)
     have g0 := Zd (n := 67) y6
     refine ZI (v := .agg (Vk v'.ed V1 v'.st x1 V2 v'.ou x2 V3 v'.tr x3 v'.co v'.us v'.wh)) (W1 := W) rfl rfl (by go_simp; done) ?_
     exact hI.put hx (i := 3) (by omega) hl (jc _ _) hr
    | 4, _ =>
     cases ho
     have t9 := Zd ((hI.base 9 (fun i hi => by show 9 ≠ 65 + i; omega) (by show 9 ≠ 13; decide) (by show 9 ≠ 14; decide)).trans rfl)
     have hz := zd XC.out hbw
     have z0 : W.cell? ⟨W4.heap.size, 0, none⟩ = some (.int .i64 a0) := (za hz 0).trans rfl
     have z1 : W.cell? ⟨W4.heap.size, 1, none⟩ = some (.slice D1 l1.length d1) := (za hz 1).trans rfl
     have z2 : W.cell? ⟨W4.heap.size, 2, none⟩ = some (.slice D2 (zG l2).length d2) := (za hz 2).trans rfl
     refine ZI (v := .agg (Vf a0 D1 l1 d1 D2 (zG l2) d2)) (W1 := W) rfl rfl (by go_simp; done) ?_
     exact hI.put hx (i := 4) (by omega) hl (jc _ _) rfl
    | 5, _ =>
     cases ho
     have t7 := Zd ((hI.base 7 (fun i hi => by show 7 ≠ 65 + i; omega) (by show 7 ≠ 13; decide) (by show 7 ≠ 14; decide)).trans rfl)
     have hz := zd X2.out hbw
     have z0 : W.cell? ⟨w.heap.size + 2, 0, none⟩ = some (.slice Bs sb.length ms) := (za hz 0).trans rfl
     have z1 : W.cell? ⟨w.heap.size + 2, 1, none⟩ = some (.slice Bp pb.length mp) := (za hz 1).trans rfl
     refine ZI (v := .agg (Vn Bs sb ms Bp pb mp)) (W1 := W) rfl rfl (by go_simp; done) ?_
     exact hI.put hx (i := 5) (by omega) hl (jc _ _) rfl
    | 6, _ =>
     cases ho
     have g0 := Zd (show a.tmps.getD 69 undef = _ from hx.2.1 4 (by omega) (hall ⟨4, .data⟩ (by simp) rfl))
     have g1 := Zd (show a.tmps.getD 70 undef = _ from hx.2.1 5 (by omega) (hall ⟨5, .data⟩ (by simp) rfl))
     have BX := BD.out.trans (hbw.mono BD.out.size)
     have r1 := ji R1.out hbw
     have r2 := ji R2.out hbw
     obtain ⟨h2, M, h3, h4⟩ := HVB.out
     refine z1I (f := 16) (args := #[.agg (Vf a0 D1 l1 d1 D2 (zG l2) d2), .int .i64 4194304, .agg (Vn Bs sb ms Bp pb mp)]) (W1 := W) rfl rfl (by go_simp; done) ?_
     refine (z4Y.calls k M W a0 D1 d1 l1 D2 d2 (zG l2) 4194304 Bs ms sb Bp mp pb sb u' r1 N1.out r2 N2.out (ji HSB.out BX) HMS.out (ji HPB.out BX) HMP.out h2 h3 h4).mono ?_
     rintro e w' ⟨cs, rfl, hv, hb⟩
     obtain ⟨V1, x1, V2, x2, V3, x3, V7, x7, V8, x8, rfl, _, _, o3, _⟩ := hv
     have f0 : Kd.F Ye w' (fun k => W.heap.size <= k /\ k < w'.heap.size) V3 u'.tr.length u'.tr := Kd.R_F (jr (Kd.R_bound o3) (fun k hk => ⟨hk.2.1, hk.2.2.1⟩))
     have hf : Kd.F Ye w' (fun k => k < w'.heap.size /\ ¬ N k) V3 u'.tr.length u'.tr := Kd.F_mono f0 (fun k hk => ⟨hk.2, fun hn => Nat.lt_irrefl _ (ltl (hx.1 k hn).2 hk.1)⟩)
     have l3 := (Kd.R_reads' o3).2.1
     have hcv : CVV u' _ N w' := ⟨V1, x1, V2, x2, V3, x3, V7, x7, V8, x8, rfl, V1, x1, V2, x2, V3, x3, rfl, l3, hf⟩
     exact ⟨_, rfl, hI.put hx (i := 6) (by omega) hl hb hcv⟩
    | 7, _ =>
     cases ho
     obtain ⟨V1, x1, V2, x2, V3, x3, V7, x7, V8, x8, y6, hr⟩ := hx.2.1 6 (by omega) (hall ⟨6, .data⟩ (by simp) rfl)
     have g0 := Zd (n := 71) y6
     refine ZI (v := .agg (Vk u'.ed V1 u'.st x1 V2 u'.ou x2 V3 u'.tr x3 u'.co u'.us u'.wh)) (W1 := W) rfl rfl (by go_simp; done) ?_
     exact hI.put hx (i := 7) (by omega) hl (jc _ _) hr
    | 8, _ =>
     cases ho
     refine ZI (v := .pointer (some ⟨W.heap.size, 0, none⟩)) (W1 := W.alloc (.cells z3k 44 (0, 0))) rfl rfl (by unfold z3k; go_simp; done) ?_
     exact hI.new8 hl
    | 9, _ =>
     cases ho
     refine ZI (v := .pointer (some ⟨W.heap.size, 0, none⟩)) (W1 := W.alloc (.cells z3k 44 (0, 0))) rfl rfl (by unfold z3k; go_simp; done) ?_
     exact hI.new9 hl
    | 10, _ =>
     cases ho
     obtain ⟨g, cs, y1, y2, y3, _, y5⟩ := hx.2.2.1 (hall ⟨8, .data⟩ (by simp) rfl)
     obtain ⟨E1, e1, E2, e2, E3, e3, y6, _⟩ := hx.2.1 3 (by omega) (hall ⟨3, .data⟩ (by simp) rfl)
     rw [y5 (tf hl)] at y3
     have g0 := Zd (n := 13) y1
     have g1 := Zd (n := 68) y6
     obtain ⟨z0, z1, z2, z3, z4, z5, z6⟩ := row7 (show W.heap[g]? = some (.cells Vhq 44 (0, 0)) from y3)
     obtain ⟨f0, f1, f2, f3, f4, f5, f6, _, _, _⟩ := z12 y3
     refine z2y (W1 := W.setCells g 0 (Vlq v'.ed E1 v'.st e1 E2 v'.ou e2 E3 v'.tr e3 v'.co v'.us v'.wh)) rfl rfl (by go_simp; rfl) ?_
     exact hI.fill10 hl (hall ⟨3, .data⟩ (by simp) rfl) (hall ⟨8, .data⟩ (by simp) rfl) y1 y6 rfl
    | 11, _ =>
     cases ho
     obtain ⟨g, cs, y1, y2, y3, _, y5⟩ := hx.2.2.2.1 (hall ⟨9, .data⟩ (by simp) rfl)
     obtain ⟨E1, e1, E2, e2, E3, e3, y6, _⟩ := hx.2.1 7 (by omega) (hall ⟨7, .data⟩ (by simp) rfl)
     rw [y5 (tf hl)] at y3
     have g0 := Zd (n := 14) y1
     have g1 := Zd (n := 72) y6
     obtain ⟨z0, z1, z2, z3, z4, z5, z6⟩ := row7 (show W.heap[g]? = some (.cells Vhq 44 (0, 0)) from y3)
     obtain ⟨f0, f1, f2, f3, f4, f5, f6, _, _, _⟩ := z12 y3
     refine z2y (W1 := W.setCells g 0 (Vlq u'.ed E1 u'.st e1 E2 u'.ou e2 E3 u'.tr e3 u'.co u'.us u'.wh)) rfl rfl (by go_simp; rfl) ?_
     exact hI.fill11 hl (hall ⟨7, .data⟩ (by simp) rfl) (hall ⟨9, .data⟩ (by simp) rfl) y1 y6 rfl
   case hend =>
    intro L a W8 hI hL
    have ht := hI.tmps
    have hdf := hI.defers
    obtain ⟨N, hx⟩ := hI.ex
    have hb := hI.below
    have g0 := hx.2.1 0 (by omega) (hL 0 (by omega))
    have g1 := hx.2.1 1 (by omega) (hL 1 (by omega))
    have g2 := hx.2.1 2 (by omega) (hL 2 (by omega))
    have g3 := hx.2.1 3 (by omega) (hL 3 (by omega))
    have g4 := hx.2.1 4 (by omega) (hL 4 (by omega))
    have g5 := hx.2.1 5 (by omega) (hL 5 (by omega))
    have g6 := hx.2.1 6 (by omega) (hL 6 (by omega))
    have g7 := hx.2.1 7 (by omega) (hL 7 (by omega))
    obtain ⟨ga, csa, y1, _, y3, y4, _⟩ := hx.2.2.1 (hL 8 (by omega))
    obtain ⟨gb, csb, z1, _, z3, z4, _⟩ := hx.2.2.2.1 (hL 9 (by omega))
    have y5 := y4 (hL 10 (by omega))
    have z5 := z4 (hL 11 (by omega))
    obtain ⟨M1, m1, M2, m2, M3, m3, ea, la, fa⟩ := g3
    obtain ⟨Q1, q1, Q2, q2, Q3, q3, eb, lb, fb⟩ := g7
    rw [ea] at y5
    rw [eb] at z5
    injection y5 with y5
    injection z5 with z5
    subst y5 z5
    obtain ⟨_, _, _, _, _, _, _, _, _, _, e2, _⟩ := g2
    obtain ⟨_, _, _, _, _, _, _, _, _, _, e6, _⟩ := g6
    rw [g0, g1, e2, ea, g4, g5, e6, eb, y1, z1] at ht
    have ha := z7P ht hdf
    have B8 := am (BD.out.trans (hb.mono BD.out.size))
    have YA := am (zd YA.out hb)
    have YB := am (zd YB.out hb)
    have FA := am (ji FA.out hb)
    have FB := am (ji FB.out hb)
    have GA := am (Kd.F_now fa)
    have GB := am (Kd.F_now fb)
    have MA := am la
    have MB := am lb
    have ZA := am y3
    have ZB := am z3
    clear hI hx hL hb ea eb y1 z1 y3 z3 y4 z4 fa fb la lb g0 g1 e2 g4 g5 e6 BD B7 X0 X1 X2 XC R1 R2 ht hdf
    subst ha
    simp only [z3N, List.setIfInBounds_toArray, List.set_cons_zero, List.set_cons_succ, Nat.reduceAdd]
    skip
    have a3 := za YA.out 3
    have b3 := za YB.out 3
    simp only [List.getElem?_toArray, List.getElem?_cons_succ, List.getElem?_cons_zero] at a3 b3
    cases same with
    | false =>
     go_wp2_with (first | (go_at_call 23; (with_reducible refine (yw.calls k E3 e3 c'.tr F3 f3 d'.tr _ W8 FA.out LA.out FB.out LB.out HT1.out).mono ?_); rintro e W9 ⟨rfl, hb⟩; have hb := Z8 hb; have B9_ := am (B8.out.trans (hb.mono B8.out.size)); have GA := am (ji GA.out hb); have GB := am (ji GB.out hb); have ZA := am (zd ZA.out hb); have ZB := am (zd ZB.out hb); clear hb; have v3 := (za ZA.out 3); have v4 := (za ZA.out 4); have w3 := (za ZB.out 3); have w4 := (za ZB.out 4)) | (go_at_call 23; (with_reducible refine (yw.calls k M3 m3 v'.tr Q3 q3 u'.tr _ W9 GA.out MA.out GB.out MB.out HT2.out).mono ?_); rintro e W10 ⟨rfl, hb⟩; have hb := Z8 hb; have B10 := am (B9_.out.trans (hb.mono B9_.out.size)); have ZA := am (zd ZA.out hb); have ZB := am (zd ZB.out hb); clear hb; have v4 := (za ZA.out 4); have w4 := (za ZB.out 4)) | (go_at_call 8; refine (z3e.calls _).mono ?_; rintro e W11 ⟨rfl, hb⟩; have B9 := am (B10.out.trans (hb.mono B10.out.size)); clear hb))
     go_ret
     exact ⟨rfl, B9.out⟩
    | true =>
     have hce := HCST.out rfl
     go_wp2_with (first | (go_at_call 23; (with_reducible refine (yw.calls k E3 e3 c'.tr F3 f3 d'.tr _ W8 FA.out LA.out FB.out LB.out HT1.out).mono ?_); rintro e W9 ⟨rfl, hb⟩; have hb := Z8 hb; have B9_ := am (B8.out.trans (hb.mono B8.out.size)); have GA := am (ji GA.out hb); have GB := am (ji GB.out hb); have ZA := am (zd ZA.out hb); have ZB := am (zd ZB.out hb); clear hb; have v3 := (za ZA.out 3); have v4 := (za ZA.out 4); have w3 := (za ZB.out 3); have w4 := (za ZB.out 4)) | (go_at_call 23; (with_reducible refine (yw.calls k M3 m3 v'.tr Q3 q3 u'.tr _ W9 GA.out MA.out GB.out MB.out HT2.out).mono ?_); rintro e W10 ⟨rfl, hb⟩; have hb := Z8 hb; have B10 := am (B9_.out.trans (hb.mono B9_.out.size)); have ZA := am (zd ZA.out hb); have ZB := am (zd ZB.out hb); clear hb; have v4 := (za ZA.out 4); have w4 := (za ZB.out 4)) | (go_at_call 8; refine (z3e.calls _).mono ?_; rintro e W11 ⟨rfl, hb⟩; have B9 := am (B10.out.trans (hb.mono B10.out.size)); clear hb))
     go_ret
     exact ⟨rfl, B9.out⟩
end
theorem z56 (a0 : Int) (A1 : Option Addr) (c1 : Nat) (l1 : List S76) (A2 : Option Addr) (c2 : Nat) (l2 : List S81) (fuel : Int) (As : Option Addr) (ns : Nat) (sa : List Int) (Ap : Option Addr) (np : Nat) (pa : List Int) (Bs : Option Addr) (ms : Nat) (sb : List Int) (Bp : Option Addr) (mp : Nat) (pb : List Int) (w : World) (hr1 : Kd.C k76 w A1 l1.length l1) (hc1 : l1.length <= c1) (hr2 : Kd.C k81 w A2 l2.length l2) (hc2 : l2.length <= c2)
  (hsa : Kd.C (Kd.int .i64) w As sa.length sa) (hns : sa.length <= ns) (hpa : Kd.C (Kd.int .i64) w Ap pa.length pa) (hnp : pa.length <= np) (hsb : Kd.C (Kd.int .i64) w Bs sb.length sb) (hms : sb.length <= ms) (hpb : Kd.C (Kd.int .i64) w Bp pb.length pb) (hmp : pb.length <= mp) (hl : l2.length <= 9223372036854775807) (hg : ZM l2) (h1 : sa.length <= 9223372036854775807) (h2 : pa.length <= 9223372036854775807) (h3 : sb.length <= 9223372036854775807) (h4 : pb.length <= 9223372036854775807) :
  Calls Tryz.prog 5 #[.agg (Vf a0 A1 l1 c1 A2 l2 c2), .int .i64 fuel, .agg (Vn As sa ns Ap pa np), .agg (Vn Bs sb ms Bp pb mp)] w fun e w' => e = .returned (.bool true) /\ Below w.heap.size w w' := by
 obtain ⟨k, bf, ra, rb, h⟩ := z55 a0 l1 l2 fuel sa pa sb pb hl hg h1 h2 h3 h4
 exact compSeen.walk k a0 A1 c1 l1 A2 c2 l2 fuel As ns sa Ap np pa Bs ms sb Bp mp pb bf ra rb w hr1 hc1 hr2 hc2 hsa hns hpa hnp hsb hms hpb hmp h
end Go.Proofs.YtnlekgadadifdaaGreat.Print
