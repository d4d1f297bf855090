/- CompPlaces: for every program, Places gives one code address a statement, not falling, or the error; and if a run is Blocked, Failed or NoPick at a statement, the run of the code ends so within that statement's addresses. Conditions: the guards of the statement alone. -/
import Derived.Test.YtnlekgadadifdaaGreatL5
import Derived.Test.YtnlekgadadifdaaGreatProg
set_option maxRecDepth 100000
set_option maxHeartbeats 16000000
namespace Go.Proofs.YtnlekgadadifdaaGreat.Print
open Go.RowKit Go.Proofs.YtnlekgadadifdaaGreatW.PrintWords Go.Proofs.YtnlekgadadifdaaGreatW.PrintLast Go.Proofs.YtnlekgadadifdaaGreatW.PrintMore
attribute [local go_sem] zo zm zr zq zi zh zn zl 
set_option linter.unusedVariables false
set_option linter.unusedSimpArgs false
theorem z7i : (Tryz.prog.info? 3).map (fun i => (i.zero, i.size, i.bytes)) = some (some (.int .i64 0), 1, 8) := by kernel_rfl
def yZ (nd : S62 -> Int) (ev : S62 -> List Z9) (c : MC) (a : List S62) (rest : List ZQ) : MC := { c with td := rest, fu := c.fu - 1, co := c.co + 1 + (a.map nd).sum, tr := c.tr ++ a.flatMap ev }
def yT (cn : List S81 -> Int) (l1 : List S76) (pk : List Int) (nd : S62 -> Int) (ev : List Int -> S62 -> List Z9) (va : List Int -> S62 -> Int) (c : MC) : MC :=
 match c.td with
 | [] => c
 | x :: rest => if c.fu = 0 then YL 3 x.f0 c else yF cn l1 pk (yZ nd (ev c.st) c x.f1.f2 rest) x.f0 x.f1.f0 x.f1.f1 x.f1.f3 x.f1.f4 x (x.f1.f2.map (va c.st)) rest
def EFit (wd : Int) (l1 : List S76) (nd : S62 -> Int) (ev : S62 -> List Z9) (va : S62 -> Int) (st : List Int) (x : S62) : Prop :=
 (∃ k, zT.f k wd l1 [st] x.f0 x.f1 x.f2 x.f3 = some (va x)) /\ (∃ k, Zw.f k x.f0 x.f1 x.f2 x.f3 = some (nd x)) /\ 0 <= nd x /\ nd x <= 1000000 /\ (∃ k, zK.f k wd l1 st x.f0 x.f1 x.f2 x.f3 = some (ev x)) /\ (ev x).length <= 1000000
def TFit (cn : List S81 -> Int) (wd : Int) (l1 : List S76) (pk : List Int) (nd : S62 -> Int) (ev : List Int -> S62 -> List Z9) (va : List Int -> S62 -> Int) (c : MC) : Prop :=
 ∀ x rest, c.td = x :: rest -> rest.length < 1000000000 /\ (c.fu ≠ 0 -> 0 < c.fu /\ c.fu < 1000000000 /\ 0 <= c.co /\ c.co < 900000000 /\ c.tr.length < 900000000 /\ x.f1.f2.length <= 10 /\ (∀ y ∈ x.f1.f2, EFit wd l1 nd (ev c.st) (va c.st) c.st y) /\
  AFit cn l1 pk (yZ nd (ev c.st) c x.f1.f2 rest) x.f0 x.f1.f0 x.f1.f1 x.f1.f3 x.f1.f4 (x.f1.f2.map (va c.st)) rest)
theorem MR.todo {w0 W : World} {Q : Nat -> Prop} {c : MC} {ed co us wh fu : Int} {A1 A2 A3 A8 : Option Addr} {n1 n2 n3 n8 m1 m2 m3 m8 : Nat} {ov : Bool} (h : MR w0 W Q (Vu ed A1 m1 n1 A2 m2 n2 A3 m3 n3 co us wh fu A8 m8 n8 ov) c) :
  c.td.length <= n8 /\ Kd.F (YN yU w0) W (fun k => Q k /\ ¬ MT (Vu ed A1 m1 n1 A2 m2 n2 A3 m3 n3 co us wh fu A8 m8 n8 ov) k) A8 c.td.length c.td := by
 obtain ⟨B1, k1, B2, k2, B3, k3, B8, k8, e, h2, h3, l1, f1, l8, f8⟩ := h
 have e' := e
 simp only [Array.mk.injEq, List.cons.injEq, Value.slice.injEq] at e
 obtain ⟨_, _, _, _, _, _, _, _, ⟨rfl, _, rfl⟩, _⟩ := e
 exact ⟨l8, f8⟩
theorem MR.storeF {w0 W : World} {Q : Nat -> Prop} {c : MC} {ed co us wh fu : Int} {A1 A2 A3 A8 : Option Addr} {n1 n2 n3 n8 m1 m2 m3 m8 : Nat} {ov : Bool} (h : MR w0 W Q (Vu ed A1 m1 n1 A2 m2 n2 A3 m3 n3 co us wh fu A8 m8 n8 ov) c) :
  c.st.length <= n1 /\ Kd.F (Kd.int .i64) W (fun k => Q k /\ ¬ MT (Vu ed A1 m1 n1 A2 m2 n2 A3 m3 n3 co us wh fu A8 m8 n8 ov) k) A1 c.st.length c.st := by
 obtain ⟨B1, k1, B2, k2, B3, k3, B8, k8, e, h2, h3, l1, f1, l8, f8⟩ := h
 simp only [Array.mk.injEq, List.cons.injEq, Value.slice.injEq] at e
 obtain ⟨_, ⟨rfl, _, rfl⟩, _⟩ := e
 exact ⟨l1, f1⟩
theorem z74 {W : World} {b : Nat} {A : Option Addr} {n : Nat} {xs : List Int} (h : W.heap[b]? = some (.cells #[.slice A xs.length n] 26 (0, 0))) (hc : Kd.C (Kd.int .i64) W A xs.length xs) (hl : xs.length <= n) : Kd.C (Kd.slice 3 (Kd.int .i64)) W (some ⟨b, 0, none⟩) [xs].length [xs] := by
 refine ⟨rfl, by simp, fun _ => ⟨_, rfl, fun j y hj => ?_⟩⟩
 match j with
 | 0 =>
  obtain rfl : xs = y := by simpa using hj
  refine ⟨[.slice A xs.length n], rfl, ⟨A, n, rfl, hl, hc⟩, fun i u hu => ?_⟩
  rw [z7A, za h]
  simpa using hu
 | j + 1 => simp at hj
theorem row4 {w : World} {g : Nat} {a0 a1 a2 a3 : Value} {t : TypeId} (h : w.heap[g]? = some (.cells #[a0, a1, a2, a3] t (0, 0))) : w.cell? ⟨g, 0, none⟩ = some a0 /\ w.cell? ⟨g, 1, none⟩ = some a1 /\ w.cell? ⟨g, 2, none⟩ = some a2 /\ w.cell? ⟨g, 3, none⟩ = some a3 :=
 ⟨(za h 0).trans rfl, (za h 1).trans rfl, (za h 2).trans rfl, (za h 3).trans rfl⟩
theorem sums_le {α β : Type} (a : List α) (f : α -> Int) (g : α -> List β) (hl : a.length <= 10) (h : ∀ y ∈ a, 0 <= f y /\ f y <= 1000000 /\ (g y).length <= 1000000) (j : Nat) : 0 <= ((a.take j).map f).sum /\ ((a.take j).map f).sum <= 10000000 /\ ((a.take j).flatMap g).length <= 10000000 := by
 have key : ∀ l : List α, (∀ y ∈ l, 0 <= f y /\ f y <= 1000000 /\ (g y).length <= 1000000) -> 0 <= (l.map f).sum /\ (l.map f).sum <= l.length * 1000000 /\ (l.flatMap g).length <= l.length * 1000000 := by
  intro l
  induction l with
  | nil => intro _; simp
  | cons x r ih =>
   intro h
   obtain ⟨h1, h2, h3⟩ := ih (fun y hy => h y (List.mem_cons_of_mem _ hy))
   obtain ⟨g1, g2, g3⟩ := h x (List.mem_cons_self ..)
   simp only [List.map_cons, List.sum_cons, List.length_cons, List.flatMap_cons, List.length_append]
   omega
 obtain ⟨h1, h2, h3⟩ := key (a.take j) (fun y hy => h y (List.mem_of_mem_take hy))
 have : (a.take j).length <= 10 := by rw [List.length_take]; omega
 omega
theorem MR.after {w0 W W1 : World} {Q : Nat -> Prop} {cs : Array Value} {c : MC} {v v1 : Value} (h : MR w0 W (fun k => Q k /\ some k ≠ v.ownBlock) cs c) (hg : W.grownBy W1 v.ownBlock) (hat : v1.ownBlock = v.ownBlock \/ ∃ b, v1.ownBlock = some b /\ W.heap.size <= b) : MR w0 W1 (fun k => Q k /\ some k ≠ v1.ownBlock) cs c := by
 refine (h.bound.step (fun k hk hlt => hg.block k hlt hk.1.2)).mono (fun k hk _ => ⟨hk.1.1, ?_⟩)
 rcases hat with hat | ⟨b, hat, hb⟩
 ·rw [hat]; exact hk.1.2
 ·rw [hat]; intro e; injection e with e; have := hk.2; omega
theorem m_step.calls (w0 w : World) (Q : Nat -> Prop) (cs : Array Value) (c : MC) (cn : List S81 -> Int) (nd : S62 -> Int) (ev : List Int -> S62 -> List Z9) (va : List Int -> S62 -> Int) (wd : Int) (Av : Option Addr) (cv : Nat) (l1 : List S76) (Ab : Option Addr) (lb cb : Nat) (Ap_ : Option Addr) (np : Nat) (pk : List Int) (hB : Below w0.heap.size w0 w) (hV : MR w0 w Q cs c) (hQ : ∀ k, Q k -> k < w.heap.size) (hr1 : Kd.C k76 w0 Av l1.length l1) (hc1 : l1.length <= cv) (hpk : Kd.C (Kd.int .i64) w0 Ap_ pk.length pk) (hpn : pk.length <= np) (he : yv c = false) (hf : TFit cn wd l1 pk nd ev va c) :
  Calls Tryz.prog 42 #[.agg (Vo wd Av l1 cv Ab lb cb), .slice Ap_ pk.length np, .agg cs] w (MP w0 w Q cs (yT cn l1 pk nd ev va c)) := by
 obtain ⟨x, rest, htd⟩ : ∃ x rest, c.td = x :: rest := by
  cases h : c.td with
  | nil => rw [yv, h] at he; simp at he
  | cons x r => exact ⟨x, r, rfl⟩
 have HV := am hV
 obtain ⟨A1, n1, A2, n2, A3, n3, A8, n8, rfl, hh⟩ := id hV
 clear hh hV
 obtain ⟨b_, hsz_, x0_, x1_, x2_⟩ := box3 w (.cells (Vo wd Av l1 cv Ab lb cb) 25) (.cells (Va c.ed A1 c.st n1 A2 c.ou n2 A3 c.tr n3 c.co c.us c.wh c.fu A8 c.td n8 c.ov) 98) (.cells (Vi false) 98)
 have HV0 := am (HV.out.below b_)
 have HB0 := am (hB.trans (b_.mono hB.size))
 have HK0 := am (zL.of_below b_ (MT (Va c.ed A1 c.st n1 A2 c.ou n2 A3 c.tr n3 c.co c.us c.wh c.fu A8 c.td n8 c.ov)))
 have HSZ := am hsz_
 have X0 := am x0_
 have X1 := am x1_
 have X2 := am x2_
 have HQ := am hQ
 have hBs := hB.size
 have HBW0 := am b_
 clear hsz_ hQ hB b_ x0_ x1_ x2_
 have hu := Tryz.underlying98
 have huR := Tryz.underlying44
 have huP := Tryz.underlying25
 have huS := Tryz.underlying81
 have huI := Tryz.underlying128
 have huL := Tryz.underlying96
 have huN := Tryz.underlying26
 have huX := Tryz.underlying62
 have huE := Tryz.underlying42
 obtain ⟨hrl, hfit⟩ := hf x rest htd
 have hlt : c.td.length = rest.length + 1 := by rw [htd]; rfl
 have hltI : (0 : Int) < (c.td.length : Int) := by omega
 have HFIT := am hfit
 have HTD := am htd
 have HR1 := am hr1
 have HC1 := am hc1
 have HPK := am hpk
 have HE := am he
 have HLT := am hlt
 obtain ⟨f8l, f8⟩ := MR.todo HV.out
 have HF8 := am f8
 have hn8 := f8l
 obtain ⟨itI, hitI, hitz⟩ := Option.map_eq_some_iff.1 z09
 have hcut := z7n (P := Tryz.prog) 96 128 .i64 huL hitI 6 (by simp only [Prod.mk.injEq] at hitz; exact hitz.2.1) A8 c.td.length n8 1 (by decide) (by omega)
 obtain ⟨An, hAn⟩ : ∃ An, (if n8 = (1 : Int).toNat then A8 else A8.map (·.add ((1 : Int).toNat * 6))) = An := ⟨_, rfl⟩
 rw [hAn] at hcut
 have hnf : Kd.F (YN yU w0) w (fun k => (Q k /\ ¬ MT (Va c.ed A1 c.st n1 A2 c.ou n2 A3 c.tr n3 c.co c.us c.wh c.fu A8 c.td n8 c.ov) k) /\ k < w.heap.size) An rest.length rest := by
  have := Kd.F_cut (m := 1) (c := n8) f8 (by omega) f8l
  rw [show c.td.drop 1 = rest by rw [htd]; rfl] at this
  rw [<- hAn]
  exact Kd.F_bound this
 have HNF := am hnf
 clear hf hfit htd hr1 hc1 hpk he f8 hitI hitz hAn hnf hlt
 go_enter Tryz.func42, Tryz.ntmps42
 go_upto_region 1 with (fail)
 generalize ((w.alloc (.cells (Vo wd Av l1 cv Ab lb cb) 25)).alloc (.cells (Va c.ed A1 c.st n1 A2 c.ou n2 A3 c.tr n3 c.co c.us c.wh c.fu A8 c.td n8 c.ov) 98)).alloc (.cells (Vi false) 98) = W0 at HV0 HB0 HK0 HSZ HBW0 X0 X1 X2 ⊢
 obtain ⟨c0, c1, c2, c3, c4, c5, c6, c7, c8, c9⟩ := yd X1.out
 go_upto_region 3 with (first | (go_at_call 41; refine (z3O.calls W0 c A1 n1 A2 n2 A3 n3 A8 n8).mono ?_; rintro en W1 ⟨rfl, hb⟩; rw [HE.out]; have HBE := am hb; clear hb))
 clear c0 c1 c2 c3 c4 c5 c6 c7 c8 c9
 have X0 := am (zd X0.out HBE.out)
 have X1 := am (zd X1.out HBE.out)
 have X2 := am (zd X2.out HBE.out)
 have HV1 := am (HV0.out.below HBE.out)
 have HB1 := am (HB0.out.trans (HBE.out.mono HB0.out.size))
 have HK1 := am (HK0.out.below HBE.out)
 have HBW := am (HBW0.out.trans (HBE.out.mono HBW0.out.size))
 have hsz1 : w.heap.size + 3 <= W1.heap.size := by have := HSZ.out; have := HBE.out.size; omega
 clear HV0 HB0 HK0 HBE HBW0
 obtain ⟨m, ⟨op, n, a, t, e⟩⟩ := x
 obtain ⟨f8l_, f81⟩ := MR.todo HV1.out
 obtain ⟨ad8, ci, e8, hcl, hK8, hcell⟩ := Kd.C_get (Kd.F_now f81) (⟨m, ⟨op, n, a, t, e⟩⟩ : ZQ) (0 : Int) (Int.le_refl _) hltI
 subst e8
 rw [show c.td.getD (0 : Int).toNat (⟨m, ⟨op, n, a, t, e⟩⟩ : ZQ) = ⟨m, ⟨op, n, a, t, e⟩⟩ by rw [HTD.out]; rfl] at hK8
 obtain ⟨B3, d3, B4, d4, B5, d5, rfl, l3, g3, l4, g4, l5, g5⟩ := z6e (show yU.K w0 _ _ from hK8)
 have q0 := hcell 0 _ rfl
 have q1 := hcell 1 _ rfl
 have q2 := hcell 2 _ rfl
 have q3 := hcell 3 _ rfl
 have q4 := hcell 4 _ rfl
 have q5 := hcell 5 _ rfl
 simp only [show (0 : Int).toNat * (YN yU w0).sz = 0 from rfl, Nat.zero_add, Addr.add_zero', Addr.add_succ'] at q0 q1 q2 q3 q4 q5
 dsimp only at q0 q1 q2 q3 q4 q5 l3 g3 l4 g4 l5 g5
 have L3 := am l3
 have G3 := am g3
 have L4 := am l4
 have G4 := am g4
 have L5 := am l5
 have G5 := am g5
 have c8 : W1.cell? ⟨w.heap.size + 1, 8, none⟩ = some (.slice (some ad8) c.td.length n8) := (za X1.out 8).trans rfl
 clear f8l_ f81 hcl hK8 hcell l3 g3 l4 g4 l5 g5
 go_upto_region 4 with (fail)
 have ba := bal (Below.refl W1.heap.size W1) (.cells (Vj m op n B3 a d3 B4 t d4 B5 e d5) 128)
 have XI := am (zH W1 (.cells (Vj m op n B3 a d3 B4 t d4 B5 e d5) 128))
 have X0 := am (zd X0.out ba)
 have X1 := am (zd X1.out ba)
 have X2 := am (zd X2.out ba)
 have HV2 := am (HV1.out.below ba)
 have HB2 := am (HB1.out.trans (ba.mono HB1.out.size))
 have HK2 := am (HK1.out.below ba)
 have HBW := am (HBW.out.trans (ba.mono HBW.out.size))
 have hsz2 : (W1.alloc (.cells (Vj m op n B3 a d3 B4 t d4 B5 e d5) 128)).heap.size = W1.heap.size + 1 := by simp
 have hsz2a := Nat.le_of_eq hsz2
 have hsz2b := Nat.le_of_eq hsz2.symm
 clear hsz2
 clear ba HV1 HB1 HK1 c8 q0 q1 q2 q3 q4 q5
 generalize W1.alloc (.cells (Vj m op n B3 a d3 B4 t d4 B5 e d5) 128) = W2 at XI X0 X1 X2 HV2 HB2 HK2 HBW hsz2a hsz2b ⊢
 have hms : yT cn l1 pk nd ev va c = if c.fu = 0 then YL 3 m c else yF cn l1 pk (yZ nd (ev c.st) c a rest) m op n t e ⟨m, ⟨op, n, a, t, e⟩⟩ (a.map (va c.st)) rest := by unfold yT; rw [HTD.out]
 have HMS := am hms
 have MRQ := am (show ∀ k, MT (Va c.ed A1 c.st n1 A2 c.ou n2 A3 c.tr n3 c.co c.us c.wh c.fu (some ad8) c.td n8 c.ov) k -> Q k from fun k hk => (HV2.out.mt hk).1)
 clear hms
 by_cases hfu : c.fu = 0
 ·have hfb : (c.fu == 0) = true := bT hfu
  have HFU := am hfu
  clear hfu
  obtain ⟨c0, c1, c2, c3, c4, c5, c6, c7, c8, c9⟩ := yd X1.out
  have i0 : W2.cell? ⟨W1.heap.size, 0, none⟩ = some (.int .i64 m) := (za XI.out 0).trans rfl
  go_wp2_with (first | (go_at_call 70; refine (z3M.calls w0 W2 Q _ c 3 m HB2.out HV2.out (fun k hk => by have := HQ.out k hk; omega)).mono ?_; rintro en W3 ⟨cs2, rfl, hv2, hm2, hb2, hk2⟩; have X3 := am ((hk2.2 (w.heap.size + 2) (by omega) (fun h => absurd (HQ.out _ (MRQ.out _ h)) (by omega))).trans X2.out); obtain ⟨c2, hc2⟩ : ∃ c2 : MC, c2 = YL 3 m c := ⟨_, rfl⟩; have HV3 := am (show MR w0 W3 (fun k => Q k \/ W2.heap.size <= k) cs2 c2 by rw [hc2]; exact hv2); have HM3 := am hm2; have HC3 := am hc2; obtain ⟨A1', n1', A2', n2', A3', n3', A8', n8', rfl, hh2⟩ := id HV3.out; clear hh2; have HB3 := am hb2; have HK3 := am (HK2.out.then_ hk2 (fun k hk => .inl hk)); clear hv2 hm2 hb2 hk2 hc2; obtain ⟨z0, z1, z2, z3, z4, z5, z6, z7, z8, z9⟩ := yd X3.out; obtain ⟨g0, g1, g2, g3, g4, g5, g6, g7, g8, g9⟩ := z3R X3.out))
  exact yH (g := w.heap.size + 2) HV3.out (by rw [HC3.out, HMS.out, if_pos HFU.out]) (fun k h => (HM3.out k h).imp id (fun h => by omega)) X3.out rfl HB3.out HK3.out (by omega) (by omega) (fun h => by rcases h with h | h; exact absurd (HQ.out _ h) (by omega); omega) (fun k hk => by rcases hk with hk | hk; exact .inl hk; exact .inr (by omega)) rfl rfl rfl rfl
 ·have hfb : (c.fu == 0) = false := bF hfu
  obtain ⟨hf0, hf1, hco0, hco1, htr, hal, hargs, hact⟩ := HFIT.out hfu
  have HFU := am hfu
  have HARG := am hargs
  have HACT := am hact
  dsimp only at hal
  clear hfu hargs hact
  have o1 : (YN yU w0).R 128 (W2.alloc (.cells #[] 128)) W2.heap.size (fun _ => True) (.slice (some ⟨W2.heap.size, 0, none⟩) 0 0) [] := ⟨fun _ _ => trivial, [], World.ownsRow_lit W2 #[] 0 (Nat.le_refl _) (by decide) rfl, ⟨rfl, fun j x hj => by simp at hj⟩⟩
  have O1 := am o1
  clear o1
  have c7 : W2.cell? ⟨w.heap.size + 1, 7, none⟩ = some (.int .i64 c.fu) := (za X1.out 7).trans rfl
  have c8 : W2.cell? ⟨w.heap.size + 1, 8, none⟩ = some (.slice (some ad8) c.td.length n8) := (za X1.out 8).trans rfl
  have hl1 : (c.td.length : Int) - 1 = (rest.length : Int) := by have := HLT.out; omega
  have hl2 : c.td.length - (1 : Int).toNat = rest.length := by have := HLT.out; show c.td.length - 1 = _; omega
  rw [hl2] at hcut
  have hle1 : (1 : Int) <= (c.td.length : Int) := by have := HLT.out; omega
  have HL2 := am hl2
  clear hl2 hl1
  go_upto_region 8 with (first | ((with_reducible refine Zn (b := .append) (xs := #[.tmp 29, .tmp 30]) rfl ?_); at_builtin; go_loud (refine Kd.R_append_rows (YN yU w0) (w0 := W2) W2.heap.size rfl (.tmp 29) (.tmp 30) 96 128 (.agg Vq) 96 rfl huL z09 rfl (show 0 < 6 by decide) (by omega) _ [] rest _ _ _ (fun _ => True) (fun _ => False) rfl rfl O1.out (Kd.F_now (Kd.F_below HNF.out (HBW.out.trans ((bal (Below.refl W2.heap.size W2) (.cells #[] 128)).mono HBW.out.size)))) (fun _ _ h => h) (fun _ h => h.elim) (fun _ _ => trivial) (bal (Below.refl _ _) _) (by simp) (by simp only [List.length_nil]; omega) ?_); intro v1 W3 ho hb hg hat; rw [List.nil_append] at ho; obtain ⟨D7, d7, ev⟩ := Kd.R_slice ho; subst ev; have HO3 := am ho; have HB3 := am hb; have Y1 := am (zd X1.out hb); clear ho hb hg hat c7 c8; have y8 := zf Y1.out 8; have y9 : W3.cell? ⟨w.heap.size + 1, 8, none⟩ = some (.slice (some ad8) c.td.length n8) := (za Y1.out 8).trans rfl; have y7 : W3.cell? ⟨w.heap.size + 1, 7, none⟩ = some (.int .i64 c.fu) := (za Y1.out 7).trans rfl; have y4 : W3.cell? ⟨w.heap.size + 1, 4, none⟩ = some (.int .i64 c.co) := (za Y1.out 4).trans rfl; have f7 := zf Y1.out 7; have f4 := zf Y1.out 4))
  have hw1 : IntKind.i64.wrap (c.fu - 1) = c.fu - 1 := by rw [zP]; unfold wrap64; omega
  have hw2 : IntKind.i64.wrap (c.co + 1) = c.co + 1 := by rw [zP]; unfold wrap64; omega
  have hw3 : wrap64 (c.fu - 1) = c.fu - 1 := by unfold wrap64; omega
  have hw4 : wrap64 (c.co + 1) = c.co + 1 := by unfold wrap64; omega
  go_upto_region 10 with (fail)
  clear y8 y9 y7 y4 f7 f4
  have hfar : ∀ k, k ≠ w.heap.size + 1 -> (((W3.setCell ⟨w.heap.size + 1, 8, none⟩ (.slice D7 rest.length d7)).setCell ⟨w.heap.size + 1, 7, none⟩ (.int .i64 (c.fu - 1))).setCell ⟨w.heap.size + 1, 4, none⟩ (.int .i64 (c.co + 1))).heap[k]? = W3.heap[k]? := fun k hk => (Below.heap_setCell _ _ _ _ hk).trans ((Below.heap_setCell _ _ _ _ hk).trans (Below.heap_setCell _ _ _ _ hk))
  have hs3 := HB3.out.size
  have nq1 : ¬ (Q (w.heap.size + 1) \/ W1.heap.size < w.heap.size + 1) := fun h => by rcases h with h | h; (have := HQ.out _ h; omega); omega
  have p1 := zI (zI (zI Y1.out 8 (.slice D7 rest.length d7) (cs' := (Va c.ed A1 c.st n1 A2 c.ou n2 A3 c.tr n3 c.co c.us c.wh c.fu D7 rest d7 c.ov)) rfl) 7 (.int .i64 (c.fu - 1)) (cs' := (Va c.ed A1 c.st n1 A2 c.ou n2 A3 c.tr n3 c.co c.us c.wh (c.fu - 1) D7 rest d7 c.ov)) rfl) 4 (.int .i64 (c.co + 1)) (cs' := (Va c.ed A1 c.st n1 A2 c.ou n2 A3 c.tr n3 (c.co + 1) c.us c.wh (c.fu - 1) D7 rest d7 c.ov)) rfl
  have p0 := (hfar w.heap.size (by omega)).trans (zd X0.out HB3.out)
  have p2 := (hfar (w.heap.size + 2) (by omega)).trans (zd X2.out HB3.out)
  have pI := (hfar W1.heap.size (by omega)).trans (zd XI.out HB3.out)
  have pv0 := (HV2.out.newtd HB3.out HO3.out).mono (Q' := (fun k => Q k \/ W1.heap.size < k)) (fun k hk _ => by rcases hk with hk | hk; exact .inl hk; exact .inr (by omega))
  have pv := ((((pv0.set (p := ⟨w.heap.size + 1, 8, none⟩) nq1 (.slice D7 rest.length d7)).set (p := ⟨w.heap.size + 1, 7, none⟩) nq1 (.int .i64 (c.fu - 1))).fu' (c.fu - 1)).set (p := ⟨w.heap.size + 1, 4, none⟩) nq1 (.int .i64 (c.co + 1))).co' (c.co + 1)
  have pb := (((HB2.out.trans (HB3.out.mono HB2.out.size)).setCell (p := ⟨w.heap.size + 1, 8, none⟩) (by show w0.heap.size <= w.heap.size + 1; omega) (.slice D7 rest.length d7)).setCell (p := ⟨w.heap.size + 1, 7, none⟩) (by show w0.heap.size <= w.heap.size + 1; omega) (.int .i64 (c.fu - 1))).setCell (p := ⟨w.heap.size + 1, 4, none⟩) (by show w0.heap.size <= w.heap.size + 1; omega) (.int .i64 (c.co + 1))
  have pk_ := (((HK2.out.below HB3.out).setCell (p := ⟨w.heap.size + 1, 8, none⟩) (.inr (Nat.le_succ _)) (.slice D7 rest.length d7)).setCell (p := ⟨w.heap.size + 1, 7, none⟩) (.inr (Nat.le_succ _)) (.int .i64 (c.fu - 1))).setCell (p := ⟨w.heap.size + 1, 4, none⟩) (.inr (Nat.le_succ _)) (.int .i64 (c.co + 1))
  have ps : W1.heap.size < (((W3.setCell ⟨w.heap.size + 1, 8, none⟩ (.slice D7 rest.length d7)).setCell ⟨w.heap.size + 1, 7, none⟩ (.int .i64 (c.fu - 1))).setCell ⟨w.heap.size + 1, 4, none⟩ (.int .i64 (c.co + 1))).heap.size := by simp; omega
  generalize ((W3.setCell ⟨w.heap.size + 1, 8, none⟩ (.slice D7 rest.length d7)).setCell ⟨w.heap.size + 1, 7, none⟩ (.int .i64 (c.fu - 1))).setCell ⟨w.heap.size + 1, 4, none⟩ (.int .i64 (c.co + 1)) = W4 at hfar p1 p0 p2 pI pv pb pk_ ps ⊢
  have START := am (show ∃ cs, MR w0 W4 (fun k => (Q k \/ W1.heap.size < k) /\ some k ≠ (Value.slice none 0 0).ownBlock) cs ({ c with td := rest, fu := c.fu - 1, co := c.co + 1 + ((a.take 0).map nd).sum, tr := c.tr ++ (a.take 0).flatMap (ev c.st) }) /\ W4.heap[w.heap.size + 1]? = some (.cells cs 98 (0, 0)) /\ ∀ k, MT cs k -> MT (Va c.ed A1 c.st n1 A2 c.ou n2 A3 c.tr n3 c.co c.us c.wh c.fu (some ad8) c.td n8 c.ov) k \/ w.heap.size <= k from ⟨_, by simpa using pv.mono (fun k hk _ => ⟨hk, by simp [Value.ownBlock]⟩), p1, fun k h => .inl h⟩)
  have P0 := am p0
  have P2 := am p2
  have PI := am pI
  have PB := am pb
  have PK := am pk_
  have PS := am ps
  clear hfar p1 p0 p2 pI pv pv0 pb pk_ ps nq1 hs3 O1 HO3 HB3 Y1 HV2 X0 X1 X2 XI
  go_wp2
  go_loopw [9, 10] (fun v9 v10 X => ∃ j : Nat, v10 = .int .i64 j /\ j <= a.length /\ Aside0 (∃ cs, MR w0 X (fun k => (Q k \/ W1.heap.size < k) /\ some k ≠ v9.ownBlock) cs ({ c with td := rest, fu := c.fu - 1, co := c.co + 1 + ((a.take j).map nd).sum, tr := c.tr ++ (a.take j).flatMap (ev c.st) }) /\ X.heap[w.heap.size + 1]? = some (.cells cs 98 (0, 0)) /\ ∀ k, MT cs k -> MT (Va c.ed A1 c.st n1 A2 c.ou n2 A3 c.tr n3 c.co c.us c.wh c.fu (some ad8) c.td n8 c.ov) k \/ w.heap.size <= k) /\ Aside0 (Kd.R (Kd.int .i64) 3 X w0.heap.size (fun k => W1.heap.size < k) v9 ((a.take j).map (va c.st))) /\ Aside0 (X.heap[w.heap.size]? = some (.cells (Vo wd Av l1 cv Ab lb cb) 25 (0, 0))) /\ Aside0 (X.heap[w.heap.size + 2]? = some (.cells (Vi false) 98 (0, 0))) /\ Aside0 (X.heap[W1.heap.size]? = some (.cells (Vj m op n B3 a d3 B4 t d4 B5 e d5) 128 (0, 0))) /\ Aside0 (Below w0.heap.size w0 X) /\ Aside0 (zL w X (MT (Va c.ed A1 c.st n1 A2 c.ou n2 A3 c.tr n3 c.co c.us c.wh c.fu (some ad8) c.td n8 c.ov))) /\ Aside0 (W1.heap.size < X.heap.size)) (fun _ v10 _ => a.length - (intOf v10).toNat)
  case atStart => exact ⟨0, rfl, Nat.zero_le _, START, ⟨Kd.R_nil _ _ _ _ _⟩, P0, P2, PI, PB, PK, PS⟩
  case round =>
   clear START P0 P2 PI PB PK PS
   obtain ⟨j, rfl, hj, HC, HO, X0, X2, XI, HB, HK, HS⟩ := hrel
   obtain ⟨cc, hcj, x1, hmt⟩ := HC.out
   have hs := HS.out
   generalize hcc : ({ c with td := rest, fu := c.fu - 1, co := c.co + 1 + ((a.take j).map nd).sum, tr := c.tr ++ (a.take j).flatMap (ev c.st) } : MC) = cj at hcj
   have HCC := am hcc
   have hcst : cj.st = c.st := by rw [<- hcc]
   have HCST := am hcst
   have HV := am hcj
   obtain ⟨A1', n1', A2', n2', A3', n3', A8', n8', rfl, hh⟩ := id hcj
   have X1 := am x1
   have HMT := am hmt
   clear hh hcj x1 hmt hcc hcst HC
   have i3 : wr.cell? ⟨W1.heap.size, 3, none⟩ = some (.slice B3 a.length d3) := (za XI.out 3).trans rfl
   by_cases hlt : j < a.length
   ·skip
    have hlt' : ((j : Nat) : Int) < (a.length : Int) := by omega
    obtain ⟨y, hy⟩ : ∃ y, a[j]? = some y := ⟨a[j], List.getElem?_eq_getElem hlt⟩
    obtain ⟨⟨kv, hkv⟩, ⟨kn, hkn⟩, hn0, hn1, ⟨ke, hke⟩, hel⟩ := HARG.out y (List.mem_of_getElem? hy)
    obtain ⟨ad, E3, e3, rfl, q0, q1, q2, q3, l3, g3⟩ := Zf G3.out (j : Int) (by omega) hlt'
    have hrd : zg a (j : Int) = y := by unfold zg; rw [Int.toNat_natCast, List.getD_eq_getElem?_getD, hy]; rfl
    rw [hrd] at q0 q1 q2 q3 l3 g3
    rw [Int.toNat_natCast] at q0 q1 q2 q3
    replace q0 := (HB.out.cell (World.block_lt_of_cell? w0 _ q0)).trans q0
    replace q1 := (HB.out.cell (World.block_lt_of_cell? w0 _ q1)).trans q1
    replace q2 := (HB.out.cell (World.block_lt_of_cell? w0 _ q2)).trans q2
    replace q3 := (HB.out.cell (World.block_lt_of_cell? w0 _ q3)).trans q3
    have hmap : (a.take (j + 1)).map (va c.st) = (a.take j).map (va c.st) ++ [va c.st y] := by rw [List.take_add_one, hy]; simp
    have hsum : ((a.take (j + 1)).map nd).sum = ((a.take j).map nd).sum + nd y := by rw [List.take_add_one, hy]; simp
    have hflat : (a.take (j + 1)).flatMap (ev c.st) = (a.take j).flatMap (ev c.st) ++ ev c.st y := by rw [List.take_add_one, hy]; simp
    obtain ⟨hb1, hb2, hb3⟩ : 0 <= ((a.take j).map nd).sum /\ ((a.take j).map nd).sum <= 10000000 /\ ((a.take j).flatMap (ev c.st)).length <= 10000000 := sums_le a _ _ hal (fun y hy => ⟨(HARG.out y hy).2.2.1, (HARG.out y hy).2.2.2.1, (HARG.out y hy).2.2.2.2.2⟩) j
    have hcjc : cj.co = c.co + 1 + ((a.take j).map nd).sum /\ cj.tr.length = c.tr.length + ((a.take j).flatMap (ev c.st)).length := by rw [<- HCC.out]; exact ⟨rfl, by simp⟩
    obtain ⟨hcjc1, hcjc2⟩ := hcjc
    have hco2 : 0 <= cj.co /\ cj.co < 920000000 := by omega
    have htr2 : cj.tr.length < 920000000 := by omega
    obtain ⟨hco20, hco21⟩ := hco2
    have HMAP := am hmap
    have HSUM := am hsum
    have HFLAT := am hflat
    have HKV := am hkv
    have HKN := am hkn
    have HKE := am hke
    have L3' := am l3
    have G3' := am g3
    clear hmap hsum hflat hkv hkn hke l3 g3 hrd hy hb1 hb2 hb3 hcjc1 hcjc2
    go_upto_region 15 with (fail)
    have ba := bal (Below.refl wr.heap.size wr) (.cells (Ve y.f0 y.f1 y.f2 E3 y.f3 e3) 62)
    have XA := am (zH wr (.cells (Ve y.f0 y.f1 y.f2 E3 y.f3 e3) 62))
    have X0 := am (zd X0.out ba)
    have X1 := am (zd X1.out ba)
    have X2 := am (zd X2.out ba)
    have XI := am (zd XI.out ba)
    have HV := am (HV.out.below ba)
    have HB := am (HB.out.trans (ba.mono HB.out.size))
    have HK := am (HK.out.below ba)
    have HO := am (Kd.R_below HO.out ba)
    have hsa : (wr.alloc (.cells (Ve y.f0 y.f1 y.f2 E3 y.f3 e3) 62)).heap.size = wr.heap.size + 1 := by simp
    have hsa1 := Nat.le_of_eq hsa.symm
    clear ba hsa q0 q1 q2 q3 i3
    obtain ⟨ga, hga⟩ : ∃ x, wr.heap.size = x := ⟨_, rfl⟩
    rw [hga] at XA hsa1 hs
    simp only [hga]
    generalize wr.alloc (.cells (Ve y.f0 y.f1 y.f2 E3 y.f3 e3) 62) = Wa at XA X0 X1 X2 XI HV HB HK HO hsa1 ⊢
    clear hga
    have p0 : Wa.cell? ⟨w.heap.size, 0, none⟩ = some (.int .i64 wd) := (za X0.out 0).trans rfl
    have p1 : Wa.cell? ⟨w.heap.size, 1, none⟩ = some (.slice Av l1.length cv) := (za X0.out 1).trans rfl
    have c1 : Wa.cell? ⟨w.heap.size + 1, 1, none⟩ = some (.slice A1' cj.st.length n1') := (za X1.out 1).trans rfl
    obtain ⟨y0, y1, y2, y3⟩ := row4 XA.out
    have hga1 : ga < Wa.heap.size := by omega
    obtain ⟨hst1, hst2⟩ := MR.store HV.out
    have HST1 := am hst1
    have HST2 := am hst2
    clear hst1 hst2
    go_upto_region 16 with (first | (go_at_call 54; go_loud (refine (zT.calls kv wd Av cv l1 (some ⟨Wa.heap.size, 0, none⟩) 1 [cj.st] y.f0 y.f1 y.f2 E3 e3 y.f3 (va c.st y) (Wa.alloc (.cells #[.slice A1' cj.st.length n1'] 26)) (Kd.C_below HR1.out (HB.out.trans ((bal (Below.refl Wa.heap.size Wa) (.cells #[.slice A1' cj.st.length n1'] 26)).mono HB.out.size))) HC1.out (z74 (zH Wa (.cells #[.slice A1' cj.st.length n1'] 26)) (Kd.C_below HST1.out (bal (Below.refl Wa.heap.size Wa) (.cells #[.slice A1' cj.st.length n1'] 26))) HST2.out) (Nat.le_refl _) (Kd.C_below G3'.out (HB.out.trans ((bal (Below.refl Wa.heap.size Wa) (.cells #[.slice A1' cj.st.length n1'] 26)).mono HB.out.size))) L3'.out (HCST.out ▸ HKV.out)).mono ?_); rintro en Wv ⟨rfl, hb⟩; have BV := am ((bal (Below.refl Wa.heap.size Wa) (.cells #[.slice A1' cj.st.length n1'] 26)).trans (hb.mono (by simp))); clear hb p0 p1 c1 y0 y1 y2 y3) | ((with_reducible refine Zn (b := .append) (xs := #[.tmp 57, .tmp 68]) rfl ?_); at_builtin; go_loud (refine Kd.R_append (Kd.int .i64) (w0 := w0) w0.heap.size rfl (.tmp 57) (.tmp 68) 26 3 (.int .i64 0) 8 rfl huN z7i rfl (by decide) (by omega) _ ((a.take j).map (va c.st)) (va c.st y) [.int .i64 (va c.st y)] (fun k => W1.heap.size < k) (fun _ => False) rfl rfl ?aP (fun _ hk => hk.elim) ?aF ?aO ?aB ?aS ?aL ?_); (case aP => rfl); (case aF => exact fun k hk => by have := BV.out.size; omega); (case aO => exact Kd.R_below HO.out BV.out); (case aB => exact HB.out.trans (BV.out.mono HB.out.size)); (case aS => exact (HB.out.trans (BV.out.mono HB.out.size)).size); (case aL => have : ((a.take j).map (va c.st)).length <= 10 := (by rw [List.length_map, List.length_take]; omega); omega); intro v1 Wb ho hb hg hat; have HG := am hg; have HOb := am (HMAP.out ▸ ho); have HBb := am hb; have HAT := am hat; clear ho hb hg hat))
    have ho9 := Kd.R_below HO.out BV.out
    have X0 := am (zN (zd X0.out BV.out) HG.out (Kd.R_ne ho9 (zd X0.out BV.out) (by decide)))
    have X1 := am (zN (zd X1.out BV.out) HG.out (Kd.R_ne ho9 (zd X1.out BV.out) (by decide)))
    have X2 := am (zN (zd X2.out BV.out) HG.out (Kd.R_ne ho9 (zd X2.out BV.out) (by decide)))
    have XI := am (zN (zd XI.out BV.out) HG.out (Kd.R_ne ho9 (zd XI.out BV.out) (by decide)))
    have XA := am (zN (zd XA.out BV.out) HG.out (Kd.R_ne ho9 (zd XA.out BV.out) (by decide)))
    have HV := am (MR.after (HV.out.below BV.out) HG.out HAT.out)
    have HK := am (zL.of_grown HG.out (HK.out.below BV.out) (fun k e => .inr (by have := HO.out.1 k e; omega)))
    have hsb : ga < Wb.heap.size := by have := HG.out.size; have := BV.out.size; omega
    clear ho9 HG HAT BV HO HB HST1 HST2
    have XD := zj (Below.refl Wb.heap.size Wb)
    have X0 := am (kdr X0.out)
    have X1 := am (kdr X1.out)
    have X2 := am (kdr X2.out)
    have XI := am (kdr XI.out)
    have XA := am (kdr XA.out)
    have HV := am (HV.out.below XD)
    have HB := am (HBb.out.trans (XD.mono HBb.out.size))
    have HK := am (HK.out.below XD)
    have HO := am (Kd.R_below HOb.out XD)
    replace hsb : ga < Wb.drew.heap.size := hsb
    have hwc : IntKind.i64.wrap (cj.co + nd y) = cj.co + nd y := by rw [zP]; unfold wrap64; omega
    have hwd : wrap64 (cj.co + nd y) = cj.co + nd y := by unfold wrap64; omega
    obtain ⟨ys, hys⟩ : ∃ ys, cj.tr ++ ev c.st y = ys := ⟨_, rfl⟩
    have HYS := am hys
    clear hys
    clear XD HBb HOb
    go_wp2
    refine sT 9 [0, 1, 2, 3, 4, 5, 6, 7, 8] [8] fun hHeld => ?_
    generalize Wb.drew = Y at X0 X1 X2 XI XA HV HB HK HO hsb hHeld ⊢
    have hq0_0 := bq X1.out
    have hq0_1 := bq XA.out
    repeat first | refine nx ?_ | refine ldT hHeld ?_ | refine un ?_
    refine on fun K hK => ?_
    refine gC Tryz.func71 ?_
    refine (Zw.calls kn y.f0 y.f1 y.f2 E3 e3 y.f3 (nd y) Y (Kd.C_below G3'.out HB.out) L3'.out HKN.out).mono ?_
    rintro en Y1 ⟨rfl, hb⟩
    have X0 := am (zd X0.out hb)
    have X1 := am (zd X1.out hb)
    have X2 := am (zd X2.out hb)
    have XI := am (zd XI.out hb)
    have XA := am (zd XA.out hb)
    have HV := am (HV.out.below hb)
    have HB := am (HB.out.trans (hb.mono HB.out.size))
    have HK := am (HK.out.below hb)
    have HO := am (Kd.R_below HO.out hb)
    replace hsb := ltl hsb hb.size
    refine ⟨_, rfl, ?_⟩
    refine hK.out _ _ (kp hHeld) fun hHeld => ?_
    clear hK K
    refine nM ?_
    repeat first | refine nx ?_ | refine ldT hHeld ?_ | refine un ?_
    refine la fun K hK => ?_
    have z4 : Y1.cell? ⟨w.heap.size + 1, 4, none⟩ = some (.int .i64 cj.co) := (za X1.out 4).trans rfl
    have f4 := zf X1.out 4
    refine ZT (w1 := ?_) (by rfl) rfl ?_ ?_
    rotate_left
    ·go_simp
     rfl
    refine hK.out _ _ ?_
    clear hK K
    refine dn ?_
    have x0 := (Below.heap_setCell Y1 ⟨w.heap.size + 1, 4, none⟩ (.int .i64 (cj.co + nd y)) (w.heap.size) (by show w.heap.size ≠ w.heap.size + 1; omega)).trans X0.out
    have x2 := (Below.heap_setCell Y1 ⟨w.heap.size + 1, 4, none⟩ (.int .i64 (cj.co + nd y)) ((w.heap.size + 2)) (by show (w.heap.size + 2) ≠ w.heap.size + 1; omega)).trans X2.out
    have xI := (Below.heap_setCell Y1 ⟨w.heap.size + 1, 4, none⟩ (.int .i64 (cj.co + nd y)) (W1.heap.size) (by show W1.heap.size ≠ w.heap.size + 1; omega)).trans XI.out
    have xA := (Below.heap_setCell Y1 ⟨w.heap.size + 1, 4, none⟩ (.int .i64 (cj.co + nd y)) (ga) (by show ga ≠ w.heap.size + 1; omega)).trans XA.out
    have x1 := zI X1.out 4 (.int .i64 (cj.co + nd y)) (cs' := (Va cj.ed A1' cj.st n1' A2' cj.ou n2' A3' cj.tr n3' (cj.co + nd y) cj.us cj.wh cj.fu A8' cj.td n8' cj.ov)) rfl
    have nqs : ¬ ((Q (w.heap.size + 1) \/ W1.heap.size < w.heap.size + 1) /\ some (w.heap.size + 1) ≠ v1.ownBlock) := fun h => by rcases h with ⟨h | h, _⟩; (have := HQ.out _ h; omega); omega
    have hv := (HV.out.set (p := ⟨w.heap.size + 1, 4, none⟩) nqs (.int .i64 (cj.co + nd y))).co' (cj.co + nd y)
    have hb := HB.out.setCell (p := ⟨w.heap.size + 1, 4, none⟩) (by show w0.heap.size <= w.heap.size + 1; omega) (.int .i64 (cj.co + nd y))
    have hk := HK.out.setCell (p := ⟨w.heap.size + 1, 4, none⟩) (.inr (Nat.le_succ _)) (.int .i64 (cj.co + nd y))
    have ho := Kd.R_far (p := ⟨w.heap.size + 1, 4, none⟩) (Kd.R_bound HO.out) (fun k hk => by show k ≠ w.heap.size + 1; have := hk.1; omega) (.int .i64 (cj.co + nd y))
    replace ho := Kd.R_mono ho (ok' := fun k => W1.heap.size < k) (fun k hk => hk.1)
    have hs := hsb
    replace hs : ga < (Y1.setCell ⟨w.heap.size + 1, 4, none⟩ (.int .i64 (cj.co + nd y))).heap.size := by simpa using hs
    clear z4 f4 nqs hsb X0 X1 X2 XI XA HV HB HK HO
    generalize Y1.setCell ⟨w.heap.size + 1, 4, none⟩ (.int .i64 (cj.co + nd y)) = Wc at x0 x1 x2 xI xA hv hb hk ho hs ⊢
    have XD := zj (Below.refl Wc.heap.size Wc)
    have X0 := am (kdr x0)
    have X1 := am (kdr x1)
    have X2 := am (kdr x2)
    have XI := am (kdr xI)
    have XA := am (kdr xA)
    have HV := am (hv.below XD)
    have HB := am (hb.trans (XD.mono hb.size))
    have HK := am (hk.below XD)
    have HO := am (Kd.R_below ho XD)
    have hsb : ga < Wc.drew.heap.size := hs
    clear x0 x1 x2 xI xA hv hb hk ho hs XD
    go_wp2
    refine sT 16 [0, 1, 2, 3, 4, 5, 6, 7, 8, 9, 10, 11, 12, 13, 14, 15] [12, 15] fun hHeld => ?_
    generalize Wc.drew = Y at X0 X1 X2 XI XA HV HB HK HO hsb hHeld ⊢
    have hq1_0 := bq X0.out
    have hq1_1 := bq X1.out
    have hq1_2 := bq XA.out
    repeat first | refine nx ?_ | refine ldT hHeld ?_ | refine un ?_
    refine on fun K hK => ?_
    obtain ⟨hs1, hs2⟩ := MR.storeF HV.out
    refine gC Tryz.func72 ?_
    refine (zK.calls ke wd Av cv l1 _ A1' n1' cj.st y.f0 y.f1 y.f2 E3 e3 y.f3 (ev c.st y) Y (Kd.C_below HR1.out HB.out) HC1.out (Kd.V_mk hs1 hs2) (Kd.C_below G3'.out HB.out) L3'.out (HCST.out ▸ HKE.out)).mono ?_
    rintro en Y1 ⟨ve, rfl, hoe, hb⟩
    obtain ⟨DE, de, rfl⟩ := Kd.R_slice hoe
    have HOE := am (Kd.R_reads' hoe).2.2
    have X0 := am (zd X0.out hb)
    have X1 := am (zd X1.out hb)
    have X2 := am (zd X2.out hb)
    have XI := am (zd XI.out hb)
    have XA := am (zd XA.out hb)
    have HV := am (HV.out.below hb)
    have HB := am (HB.out.trans (hb.mono HB.out.size))
    have HK := am (HK.out.below hb)
    have HO := am (Kd.R_below HO.out hb)
    replace hsb := ltl hsb hb.size
    clear hoe hs1 hs2
    refine ⟨_, rfl, ?_⟩
    refine hK.out _ _ (kp hHeld) fun hHeld => ?_
    clear hK K
    refine nM ?_
    refine la fun K hK => ?_
    obtain ⟨A3g, n3g, e3g, h3g, hgr⟩ := HV.out.grow_tr
    obtain ⟨rfl, rfl⟩ : A3' = A3g /\ n3' = n3g := by
     have := sj e3g
     injection this with h1 h2 h3
     exact ⟨h1, h3⟩
    clear e3g
    have hv1l : ∀ k, v1.ownBlock = some k -> k < Y1.heap.size := Kd.R_lt HO.out
    refine Kd.R_append_rows_step z0F (w0 := w0) w0.heap.size (by rfl) (.tmp 80) (.tmp 89) 42 144 (.agg #[.int .i64 0, .int .i64 0, .int .i64 0]) 24 rfl huE z5D rfl (by decide) (by omega) (.slice A3' cj.tr.length n3') cj.tr (ev c.st y) DE (ev c.st y).length de (fun k => (Q k \/ W1.heap.size < k) /\ some k ≠ v1.ownBlock) (fun _ => False) rfl rfl h3g HOE.out (fun x cs hk => by obtain rfl := z6d hk; exact z1D _ _ _ _) (fun _ hk => hk.elim) (fun k hk => ⟨.inr (by omega), fun e => by have := hv1l k e.symm; omega⟩) HB.out HB.out.size (by omega) ?_
    intro vt Wd ho hb hg hat
    rw [HYS.out] at ho
    obtain ⟨V2, M2⟩ := hgr Wd vt _ _ (fun k hk => hk) ho hg hat
    obtain ⟨AT, nt, rfl⟩ := Kd.R_slice ho
    have X0 := am (zN X0.out hg (Kd.R_ne h3g X0.out (by decide)))
    have X1 := am (zN X1.out hg (Kd.R_ne h3g X1.out (by decide)))
    have X2 := am (zN X2.out hg (Kd.R_ne h3g X2.out (by decide)))
    have XI := am (zN XI.out hg (Kd.R_ne h3g XI.out (by decide)))
    have XA := am (zN XA.out hg (Kd.R_ne h3g XA.out (by decide)))
    have HV := am V2
    have hwY : w.heap.size <= Y1.heap.size := by omega
    have HM3 := am (fun k h => (M2 k h).imp id (fun h => Nat.le_trans hwY h))
    have HK := am (zL.of_grown hg HK.out (fun k e => HMT.out k (.inr e)))
    have HO := am (Kd.R_over' HO.out (Kd.R_typed h3g) (by decide) hg)
    have HB := am hb
    replace hsb := ltl hsb hg.size
    have hszg := hg.size
    clear ho hat h3g hgr V2 M2 hv1l HOE
    refine hK.out _ _ ?_
    clear hK K
    refine nM ?_
    repeat first | refine nx ?_ | refine ldT hHeld ?_ | refine un ?_
    refine la fun K hK => ?_
    have z3 : Wd.cell? ⟨w.heap.size + 1, 3, none⟩ = some (.slice A3' cj.tr.length n3') := (za X1.out 3).trans rfl
    have f3 := zf X1.out 3
    refine ZT (w1 := ?_) (by rfl) rfl ?_ ?_
    rotate_left
    ·go_simp
     rfl
    refine hK.out _ _ ?_
    clear hK K
    refine dn ?_
    have x0 := (Below.heap_setCell Wd ⟨w.heap.size + 1, 3, none⟩ (.slice AT ys.length nt) (w.heap.size) (by show w.heap.size ≠ w.heap.size + 1; omega)).trans X0.out
    have x2 := (Below.heap_setCell Wd ⟨w.heap.size + 1, 3, none⟩ (.slice AT ys.length nt) ((w.heap.size + 2)) (by show (w.heap.size + 2) ≠ w.heap.size + 1; omega)).trans X2.out
    have xI := (Below.heap_setCell Wd ⟨w.heap.size + 1, 3, none⟩ (.slice AT ys.length nt) (W1.heap.size) (by show W1.heap.size ≠ w.heap.size + 1; omega)).trans XI.out
    have xA := (Below.heap_setCell Wd ⟨w.heap.size + 1, 3, none⟩ (.slice AT ys.length nt) (ga) (by show ga ≠ w.heap.size + 1; omega)).trans XA.out
    have x1 := zI X1.out 3 (.slice AT ys.length nt) (cs' := (Va cj.ed A1' cj.st n1' A2' cj.ou n2' AT ys nt (cj.co + nd y) cj.us cj.wh cj.fu A8' cj.td n8' cj.ov)) rfl
    have nqs : ¬ ((Q (w.heap.size + 1) \/ W1.heap.size < w.heap.size + 1) /\ some (w.heap.size + 1) ≠ v1.ownBlock) := fun h => by rcases h with ⟨h | h, _⟩; (have := HQ.out _ h; omega); omega
    have hv := (HV.out.set (p := ⟨w.heap.size + 1, 3, none⟩) nqs (.slice AT ys.length nt))
    have hb := HB.out.setCell (p := ⟨w.heap.size + 1, 3, none⟩) (by show w0.heap.size <= w.heap.size + 1; omega) (.slice AT ys.length nt)
    have hk := HK.out.setCell (p := ⟨w.heap.size + 1, 3, none⟩) (.inr (Nat.le_succ _)) (.slice AT ys.length nt)
    have ho := Kd.R_far (p := ⟨w.heap.size + 1, 3, none⟩) (Kd.R_bound HO.out) (fun k hk => by show k ≠ w.heap.size + 1; have := hk.1; omega) (.slice AT ys.length nt)
    replace ho := Kd.R_mono ho (ok' := fun k => W1.heap.size < k) (fun k hk => hk.1)
    have hs := hsb
    replace hs : ga < (Wd.setCell ⟨w.heap.size + 1, 3, none⟩ (.slice AT ys.length nt)).heap.size := by simpa using hs
    clear z3 f3 nqs hsb X0 X1 X2 XI XA HV HB HK HO
    generalize Wd.setCell ⟨w.heap.size + 1, 3, none⟩ (.slice AT ys.length nt) = We at x0 x1 x2 xI xA hv hb hk ho hs ⊢
    have hnext : ({ cj with co := cj.co + nd y, tr := ys } : MC) = { c with td := rest, fu := c.fu - 1, co := c.co + 1 + ((a.take (j + 1)).map nd).sum, tr := c.tr ++ (a.take (j + 1)).flatMap (ev c.st) } := by rw [<- HYS.out, <- HCC.out, HSUM.out, HFLAT.out]; simp [Int.add_assoc]
    rw [hnext] at hv
    have HVN := am hv
    clear hnext hv xA
    go_wp2
    exact ⟨⟨j + 1, by go_num, by omega, ⟨_, HVN.out, x1, fun k h => by rcases HM3.out k h with h | h; exact HMT.out k h; exact .inr h⟩, ⟨ho⟩, ⟨x0⟩, ⟨x2⟩, ⟨xI⟩, ⟨hb⟩, ⟨hk⟩, ⟨by omega⟩⟩, by simp [intOf]; omega⟩
   ·skip
    obtain rfl : j = a.length := by omega
    rw [List.take_length] at HO
    have hct : cj = yZ nd (ev c.st) c a rest := by rw [<- HCC.out, List.take_length]; rfl
    have HCT := am hct
    obtain ⟨vs, hvs⟩ : ∃ vs, a.map (va c.st) = vs := ⟨_, rfl⟩
    rw [hvs] at HO
    have HVS := am hvs
    clear hct hj hlt hvs
    obtain ⟨Dv, dv, rfl⟩ := Kd.R_slice HO.out
    have MQ := am (show ∀ k, MT (Va cj.ed A1' cj.st n1' A2' cj.ou n2' A3' cj.tr n3' cj.co cj.us cj.wh cj.fu A8' cj.td n8' cj.ov) k -> (Q k \/ W1.heap.size < k) /\ some k ≠ (Value.slice Dv vs.length dv).ownBlock from fun k hk => (HV.out.mt hk).1)
    have HVF := am (show Kd.F (Kd.int .i64) wr (fun k => ¬ MT (Va cj.ed A1' cj.st n1' A2' cj.ou n2' A3' cj.tr n3' cj.co cj.us cj.wh cj.fu A8' cj.td n8' cj.ov) k) Dv vs.length vs from Kd.R_F (Kd.R_mono (Kd.R_tight rfl HO.out) (fun k hk hm => (MQ.out k hm).2 hk)))
    have HNX := am (show Kd.F (YN yU w0) wr (fun k => ¬ MT (Va cj.ed A1' cj.st n1' A2' cj.ou n2' A3' cj.tr n3' cj.co cj.us cj.wh cj.fu A8' cj.td n8' cj.ov) k) An rest.length rest from Kd.F_mono (Kd.F_kept HNF.out HK.out (fun k hk => hk.1.2)) (fun k hk hm => by rcases HMT.out k hm with h | h; exact hk.1.2 h; have := hk.2; omega))
    have hnn : rest.length <= n8 - 1 := by have := HLT.out; omega
    have hvn := (Kd.R_reads' HO.out).2.1
    have hws : w.heap.size + 2 < wr.heap.size := by omega
    obtain ⟨p0, p1, p2⟩ := row3 X0.out
    obtain ⟨c0, c1, c2, c3, c4, c5, c6, c7, c8, c9⟩ := yd X1.out
    clear i3
    obtain ⟨i0, i1, i2, i3, i4, i5⟩ := z6R XI.out
    go_wp2_with (first | (go_at_call 73; go_loud (refine (m_act.calls w0 wr _ _ cj cn wd Av cv l1 Ab lb cb Ap_ np pk m op n B3 d3 a B4 d4 t B5 d5 e Dv dv vs An (n8 - 1) rest HB.out HV.out.bound (fun k hk => hk.2) HR1.out HC1.out HPK.out hpn G3.out L3.out G4.out L4.out G5.out L5.out HVF.out hvn HNX.out hnn (HVS.out ▸ HCT.out ▸ HACT.out)).mono ?_); rintro en W9 ⟨cs2, rfl, hv2, hm2, hb2, hk2⟩; have X3 := am ((hk2.2 (w.heap.size + 2) hws (fun h => by rcases (MQ.out _ h).1 with h | h; exact absurd (HQ.out _ h) (by omega); omega)).trans X2.out); obtain ⟨c2, hc2⟩ : ∃ c2 : MC, c2 = yF cn l1 pk cj m op n t e ⟨m, ⟨op, n, a, t, e⟩⟩ vs rest := ⟨_, rfl⟩; have HV3 := am (show MR w0 W9 (fun k => (((Q k \/ W1.heap.size < k) /\ some k ≠ (Value.slice Dv vs.length dv).ownBlock) /\ k < wr.heap.size) \/ wr.heap.size <= k) cs2 c2 by rw [hc2]; exact hv2); have HM3 := am hm2; have HC3 := am hc2; obtain ⟨A1_, n1_, A2_, n2_, A3_, n3_, A8_, n8_, rfl, hh2⟩ := id HV3.out; clear hh2; have HB3 := am hb2; have HK3 := am (HK.out.then_ hk2 (fun k hk => HMT.out k hk)); clear hv2 hm2 hb2 hk2 hc2; obtain ⟨z0, z1, z2, z3, z4, z5, z6, z7, z8, z9⟩ := yd X3.out; obtain ⟨g0, g1, g2, g3, g4, g5, g6, g7, g8, g9⟩ := z3R X3.out))
    exact yH (g := w.heap.size + 2) HV3.out (by rw [HC3.out, HMS.out, if_neg HFU.out, <- HCT.out, HVS.out]) (fun k h => by rcases HM3.out k h with h | h; exact HMT.out k h; exact .inr (by omega)) X3.out rfl HB3.out HK3.out (by omega) (by omega) (fun h => by rcases h with ⟨⟨h | h, _⟩, _⟩ | h; exact absurd (HQ.out _ h) (by omega); omega; omega) (fun k hk => by rcases hk with ⟨⟨h | h, _⟩, _⟩ | h; exact .inl h; exact .inr (by omega); exact .inr (by omega)) rfl rfl rfl rfl
theorem row7 {w : World} {g : Nat} {a0 a1 a2 a3 a4 a5 a6 : Value} {t : TypeId} (h : w.heap[g]? = some (.cells #[a0, a1, a2, a3, a4, a5, a6] t (0, 0))) : w.cell? ⟨g, 0, none⟩ = some a0 /\ w.cell? ⟨g, 1, none⟩ = some a1 /\ w.cell? ⟨g, 2, none⟩ = some a2 /\ w.cell? ⟨g, 3, none⟩ = some a3 /\ w.cell? ⟨g, 4, none⟩ = some a4 /\ w.cell? ⟨g, 5, none⟩ = some a5 /\ w.cell? ⟨g, 6, none⟩ = some a6 :=
 ⟨(za h 0).trans rfl, (za h 1).trans rfl, (za h 2).trans rfl, (za h 3).trans rfl, (za h 4).trans rfl, (za h 5).trans rfl, (za h 6).trans rfl⟩
theorem MR.outs {w0 W : World} {Q : Nat -> Prop} {c : MC} {ed co us wh fu : Int} {A1 A2 A3 A8 : Option Addr} {n1 n2 n3 n8 m1 m2 m3 m8 : Nat} {ov : Bool} (h : MR w0 W Q (Vu ed A1 m1 n1 A2 m2 n2 A3 m3 n3 co us wh fu A8 m8 n8 ov) c) :
  (c.ou.length <= n2 /\ Kd.C z2h W A2 c.ou.length c.ou) /\ c.tr.length <= n3 /\ Kd.C z0F W A3 c.tr.length c.tr := by
 obtain ⟨B1, k1, B2, k2, B3, k3, B8, k8, e, h2, h3, l1, f1, l8, f8⟩ := h
 simp only [Array.mk.injEq, List.cons.injEq, Value.slice.injEq] at e
 obtain ⟨_, _, ⟨rfl, _, rfl⟩, ⟨rfl, _, rfl⟩, _⟩ := e
 exact ⟨⟨(Kd.R_reads' h2).2.1, (Kd.R_reads' h2).2.2⟩, (Kd.R_reads' h3).2.1, (Kd.R_reads' h3).2.2⟩
def Yx (cn : List S81 -> Int) (fuel : Int) (st : List Int) (body : List S81) : MC := ⟨0, st, [], [], 0, 0, 0, fuel, Zs cn 0 body, false⟩
theorem m_begin.calls (cn : List S81 -> Int) (w0 w : World) (kc : Nat) (wd : Int) (Av : Option Addr) (cv : Nat) (l1 : List S76) (Ab : Option Addr) (cb : Nat) (body : List S81) (fuel : Int) (As : Option Addr) (ns : Nat) (st : List Int) (Ap_ : Option Addr) (np : Nat) (pk : List Int) (hB : Below w0.heap.size w0 w) (hb : Kd.C k81 w0 Ab body.length body) (hbn : body.length <= cb) (hg : GI cn 0 body) (hs : Kd.C (Kd.int .i64) w0 As st.length st) (hsn : st.length <= ns) (hc : Zk.f kc st = some st) :
  Calls Tryz.prog 40 #[.agg (Vf wd Av l1 cv Ab body cb), .int .i64 fuel, .agg (Vn As st ns Ap_ pk np)] w fun e w' => ∃ cs, e = .returned (.agg cs) /\ MR w0 w' (fun k => w.heap.size <= k) cs (Yx cn fuel st body) /\ (∀ k, ¬ MT cs k) /\ Below w.heap.size w w' := by
 obtain ⟨b_, hsz_, x0_, x1_, x2_⟩ := box3 w (.cells (Vf wd Av l1 cv Ab body cb) 25) (.cells (Vn As st ns Ap_ pk np) 28) (.cells (Vi false) 98)
 have HB0 := am b_
 have X0 := am x0_
 have X1 := am x1_
 have X2 := am x2_
 have HS := am hs
 have HSN := am hsn
 have HBB := am hb
 have HBN := am hbn
 have HG := am hg
 have HC := am hc
 have HW := am hB
 have hsz1 := Nat.le_of_eq hsz_.symm
 have hsz2 := Nat.le_of_eq hsz_
 have hu := Tryz.underlying98
 have huR := Tryz.underlying44
 have huP := Tryz.underlying25
 have huT := Tryz.underlying28
 clear b_ hsz_ x0_ x1_ x2_ hs hsn hb hbn hg hc hB
 go_enter Tryz.func40, Tryz.ntmps40
 go_upto_region 1 with (fail)
 generalize ((w.alloc (.cells (Vf wd Av l1 cv Ab body cb) 25)).alloc (.cells (Vn As st ns Ap_ pk np) 28)).alloc (.cells (Vi false) 98) = W0 at HB0 X0 X1 X2 hsz1 hsz2 ⊢
 have XD := zj (Below.refl W0.heap.size W0)
 have HB0 := am (HB0.out.trans (XD.mono HB0.out.size))
 have X0 := am (kdr X0.out)
 have X1 := am (kdr X1.out)
 have X2 := am (kdr X2.out)
 replace hsz1 : w.heap.size + 3 <= W0.drew.heap.size := hsz1
 clear XD hsz2
 go_wp2
 refine sT 10 [0, 1, 4, 5, 6, 2, 3, 7, 8, 9] [7, 9] fun hHeld => ?_
 generalize W0.drew = Y at HB0 X0 X1 X2 hsz1 hHeld ⊢
 have hq0_0 := bq X1.out
 have hq0_1 := bq X0.out
 repeat first | refine nx ?_ | refine ldT hHeld ?_ | refine un ?_
 refine on fun K hK => ?_
 refine gC Tryz.func68 ?_
 refine (Zk.calls kc As ns st st Y (Kd.C_below HS.out (HW.out.trans (HB0.out.mono HW.out.size))) HSN.out HC.out).mono ?_
 rintro en Y1 ⟨v, rfl, ho, hb⟩
 obtain ⟨D, d, rfl⟩ := Kd.R_slice ho
 have HO := am (Kd.R_lower ho hsz1)
 have X0 := am (zd X0.out hb)
 have X1 := am (zd X1.out hb)
 have X2 := am (zd X2.out hb)
 have HB0 := am (HB0.out.trans (hb.mono HB0.out.size))
 replace hsz1 := Nat.le_trans hsz1 hb.size
 clear ho
 refine ⟨_, rfl, ?_⟩
 refine hK.out _ _ (kp hHeld) fun hHeld => ?_
 clear hK K
 refine nM ?_
 repeat first | refine nx ?_ | refine ldT hHeld ?_ | refine un ?_
 refine la fun K hK => ?_
 refine gC Tryz.func69 ?_
 refine (z3N.calls cn w0 Y1 Ab cb body 0 (HW.out.trans (HB0.out.mono HW.out.size)) HBB.out HBN.out HG.out).mono ?_
 rintro en Y2 ⟨D8, d8, rfl, ho, hb⟩
 have HO8 := am (Kd.R_lower ho hsz1)
 have HO := am (Kd.R_below HO.out hb)
 have X2 := am (zd X2.out hb)
 have HB0 := am (HB0.out.trans (hb.mono HB0.out.size))
 replace hsz1 := Nat.le_trans hsz1 hb.size
 clear ho X0 X1
 refine ⟨_, rfl, ?_⟩
 refine hK.out _ _ ?_
 clear hK K
 refine nM ?_
 repeat first | refine nx ?_ | refine ldT hHeld ?_ | refine un ?_
 refine la fun K hK => ?_
 have z_q := bq X2.out
 have g_q := bq X2.out
 refine ZT (w1 := ?_) (by rfl) rfl ?_ ?_
 rotate_left
 ·go_simp
  rfl
 refine hK.out _ _ ?_
 clear hK K
 refine dn ?_
 go_wp2
 have hmt : ∀ k, ¬ MT (Vz D st d fuel D8 (Zs cn 0 body) d8 false) k := fun k h => by rcases h with h | h <;> simp [Value.ownBlock] at h
 have HV : MR w0 Y2 (fun k => w.heap.size + 3 <= k) (Vz D st d fuel D8 (Zs cn 0 body) d8 false) (Yx cn fuel st body) := ⟨D, d, none, 0, none, 0, D8, d8, rfl, Kd.R_nil _ _ _ _ _, Kd.R_nil _ _ _ _ _, (Kd.R_reads' HO.out).2.1, Kd.R_F (Kd.R_mono (Kd.R_bound HO.out) (fun k hk => ⟨hk.2.1, hmt k⟩)), (Kd.R_reads' HO8.out).2.1, Kd.R_F (Kd.R_mono (Kd.R_bound HO8.out) (fun k hk => ⟨hk.2.1, hmt k⟩))⟩
 change bodyPost _ _ _ _ _ (Y2.setCells (w.heap.size + 2) 0 [.int .i64 0, .slice D st.length d, .slice none 0 0, .slice none 0 0, .int .i64 0, .int .i64 0, .int .i64 0, .int .i64 fuel, .slice D8 (Zs cn 0 body).length d8, .bool false])
 have hf := Zi (vs := [.int .i64 0, .slice D st.length d, .slice none 0 0, .slice none 0 0, .int .i64 0, .int .i64 0, .int .i64 0, .int .i64 fuel, .slice D8 (Zs cn 0 body).length d8, .bool false]) X2.out rfl
 refine bodyPost_ret (results_cell_row rfl _ _ (w.heap.size + 2) 98 (Vz D st d fuel D8 (Zs cn 0 body) d8 false) (0, 0) _ rfl hf hu rfl (by kernel_rfl)) rfl ?_
 exact ⟨_, rfl, (HV.fill (by omega) _).mono (fun k hk _ => by omega), hmt, Zj HB0.out (by omega)⟩
def Yz (cn : List S81 -> Int) (l1 : List S76) (pk : List Int) (nd : S62 -> Int) (ev : List Int -> S62 -> List Z9) (va : List Int -> S62 -> Int) : Nat -> MC -> Option MC
 | 0, _ => none
 | n + 1, c => if yv c = true then some c else Yz cn l1 pk nd ev va n (yT cn l1 pk nd ev va c)
def z6b (cn : List S81 -> Int) (wd : Int) (l1 : List S76) (pk : List Int) (nd : S62 -> Int) (ev : List Int -> S62 -> List Z9) (va : List Int -> S62 -> Int) : Nat -> MC -> Prop
 | 0, _ => True
 | n + 1, c => yv c = false -> TFit cn wd l1 pk nd ev va c /\ z6b cn wd l1 pk nd ev va n (yT cn l1 pk nd ev va c)
theorem m_run.calls (cn : List S81 -> Int) (nd : S62 -> Int) (ev : List Int -> S62 -> List Z9) (va : List Int -> S62 -> Int) (r : Nat) (w : World) (kc : Nat) (wd : Int) (Av : Option Addr) (cv : Nat) (l1 : List S76) (Ab : Option Addr) (cb : Nat) (body : List S81) (fuel : Int) (As : Option Addr) (ns : Nat) (st : List Int) (Ap_ : Option Addr) (np : Nat) (pk : List Int) (c' : MC) (hr1 : Kd.C k76 w Av l1.length l1) (hc1 : l1.length <= cv) (hb : Kd.C k81 w Ab body.length body) (hbn : body.length <= cb) (hg : GI cn 0 body) (hs : Kd.C (Kd.int .i64) w As st.length st) (hsn : st.length <= ns) (hc : Zk.f kc st = some st) (hpk : Kd.C (Kd.int .i64) w Ap_ pk.length pk) (hpn : pk.length <= np)
  (hL : Yz cn l1 pk nd ev va r (Yx cn fuel st body) = some c') (hA : z6b cn wd l1 pk nd ev va r (Yx cn fuel st body)) :
  Calls Tryz.prog 14 #[.agg (Vf wd Av l1 cv Ab body cb), .int .i64 fuel, .agg (Vn As st ns Ap_ pk np)] w fun e w' => ∃ A1 n1 A2 n2 A3 n3, e = .returned (.agg (Vk c'.ed A1 c'.st n1 A2 c'.ou n2 A3 c'.tr n3 c'.co c'.us c'.wh)) /\ Kd.C (Kd.int .i64) w' A1 c'.st.length c'.st /\ c'.st.length <= n1 /\ Kd.C z2h w' A2 c'.ou.length c'.ou /\ c'.ou.length <= n2 /\ Kd.C z0F w' A3 c'.tr.length c'.tr /\ c'.tr.length <= n3 /\ Below w.heap.size w w' := by
 obtain ⟨b_, hsz_, x0_, x1_, x2_⟩ := box3 w (.cells (Vf wd Av l1 cv Ab body cb) 25) (.cells (Vn As st ns Ap_ pk np) 28) (.cells Vhq 44)
 have HB0 := am b_
 have X0 := am x0_
 have X1 := am x1_
 have X2 := am x2_
 have HR1 := am hr1
 have HC1 := am hc1
 have HBB := am hb
 have HBN := am hbn
 have HG := am hg
 have HS := am hs
 have HSN := am hsn
 have HC := am hc
 have HPK := am hpk
 have HPN := am hpn
 obtain ⟨c0, hc0⟩ : ∃ c0, c0 = Yx cn fuel st body := ⟨_, rfl⟩
 rw [<- hc0] at hL hA
 have HC0 := am hc0
 have HL := am hL
 have HA := am hA
 have hsz1 := Nat.le_of_eq hsz_.symm
 have hu := Tryz.underlying98
 have huR := Tryz.underlying44
 have huP := Tryz.underlying25
 have huT := Tryz.underlying28
 clear b_ hsz_ x0_ x1_ x2_ hr1 hc1 hb hbn hg hs hsn hc hpk hpn hL hA hc0
 go_enter Tryz.func14, Tryz.ntmps14
 go_upto_region 1 with (fail)
 generalize ((w.alloc (.cells (Vf wd Av l1 cv Ab body cb) 25)).alloc (.cells (Vn As st ns Ap_ pk np) 28)).alloc (.cells Vhq 44) = W0 at HB0 X0 X1 X2 hsz1 ⊢
 have p_q := bq X0.out
 have s0 : W0.cell? ⟨w.heap.size + 1, 0, none⟩ = some (.slice As st.length ns) := (za X1.out 0).trans rfl
 have s1 : W0.cell? ⟨w.heap.size + 1, 1, none⟩ = some (.slice Ap_ pk.length np) := (za X1.out 1).trans rfl
 go_upto_region 2 with (first | (go_at_call 40; refine (m_begin.calls cn w W0 kc wd Av cv l1 Ab cb body fuel As ns st Ap_ np pk HB0.out HBB.out HBN.out HG.out HS.out HSN.out HC.out).mono ?_; rintro en W1 ⟨cs, rfl, hv, hm, hb⟩; rw [<- HC0.out] at hv; obtain ⟨A1, n1, A2, n2, A3, n3, A8, n8, rfl, hh⟩ := id hv; clear hh; have HV := am hv; have HB1 := am hb; clear hv hb hm; clear p_q s0 s1))
 have hs01 := HB1.out.size
 have ba := bal HB1.out (.cells (Va c0.ed A1 c0.st n1 A2 c0.ou n2 A3 c0.tr n3 c0.co c0.us c0.wh c0.fu A8 c0.td n8 c0.ov) 98)
 have x3 := zH W1 (.cells (Va c0.ed A1 c0.st n1 A2 c0.ou n2 A3 c0.tr n3 c0.co c0.us c0.wh c0.fu A8 c0.td n8 c0.ov) 98)
 have b1 := bal (Below.refl W1.heap.size W1) (.cells (Va c0.ed A1 c0.st n1 A2 c0.ou n2 A3 c0.tr n3 c0.co c0.us c0.wh c0.fu A8 c0.td n8 c0.ov) 98)
 have X0 := am (zd X0.out ba)
 have X1 := am (zd X1.out ba)
 have X2 := am (zd X2.out ba)
 have X3 := am x3
 have BB := am (HB0.out.trans (ba.mono HB0.out.size))
 have VV := am ((HV.out.bound.below b1).mono (Q' := (fun k => w.heap.size + 3 <= k /\ k ≠ W1.heap.size)) (fun k hk _ => ⟨by omega, by omega⟩))
 have hs3 : W1.heap.size < (W1.alloc (.cells (Va c0.ed A1 c0.st n1 A2 c0.ou n2 A3 c0.tr n3 c0.co c0.us c0.wh c0.fu A8 c0.td n8 c0.ov) 98)).heap.size := by simp
 clear ba x3 b1 HV HB1 HB0
 generalize W1.alloc (.cells (Va c0.ed A1 c0.st n1 A2 c0.ou n2 A3 c0.tr n3 c0.co c0.us c0.wh c0.fu A8 c0.td n8 c0.ov) 98) = W2 at X0 X1 X2 X3 BB VV hs3 ⊢
 have SS := am hs3
 clear hs3
 go_loopg [] r (fun kq X => Aside0 (∃ c cs, Yz cn l1 pk nd ev va kq c = some c' /\ z6b cn wd l1 pk nd ev va kq c /\ MR w X (fun k => w.heap.size + 3 <= k /\ k ≠ W1.heap.size) cs c /\ X.heap[W1.heap.size]? = some (.cells cs 98 (0, 0))) /\ Aside0 (X.heap[w.heap.size]? = some (.cells (Vf wd Av l1 cv Ab body cb) 25 (0, 0))) /\ Aside0 (X.heap[w.heap.size + 1]? = some (.cells (Vn As st ns Ap_ pk np) 28 (0, 0))) /\ Aside0 (X.heap[w.heap.size + 2]? = some (.cells Vhq 44 (0, 0))) /\ Aside0 (Below w.heap.size w X) /\ Aside0 (W1.heap.size < X.heap.size))
 case atStart => exact ⟨⟨_, _, HL.out, HA.out, VV.out, X3.out⟩, X0, X1, X2, BB, SS⟩
 case round =>
  clear X0 X1 X2 X3 BB VV HL HA SS
  obtain ⟨HC_, X0, X1, X2, BB, SS⟩ := hrel
  obtain ⟨c, cs, hl, ha, hv, x3⟩ := HC_.out
  obtain ⟨A1', n1', A2', n2', A3', n3', A8', n8', rfl, hh⟩ := id hv
  clear hh HC_
  have HL := am hl
  have HA := am ha
  have HV := am hv
  have X3 := am x3
  have hss := SS.out
  clear hl ha hv x3
  cases gk with
  | zero => exact absurd HL.out (by simp [Yz])
  | succ gn =>
  obtain ⟨c0, c1, c2, c3, c4, c5, c6, c7, c8, c9⟩ := yd X3.out
  by_cases he : yv c = true
  ·skip
   have HE := am he
   have hcc : c = c' := by have := HL.out; rw [Yz, if_pos he] at this; exact sj this
   have HCC := am hcc
   clear he hcc
   go_upto_region 4 with (first | (go_at_call 41; refine (z3O.calls wr c A1' n1' A2' n2' A3' n3' A8' n8').mono ?_; rintro en W3 ⟨rfl, hb⟩; rw [HE.out]; have B3 := am hb; clear hb))
   clear c0 c1 c2 c3 c4 c5 c6 c7 c8 c9
   have X2 := am (zd X2.out B3.out)
   have X3 := am (zd X3.out B3.out)
   have HV := am (HV.out.below B3.out)
   have BB := am (BB.out.trans (B3.out.mono BB.out.size))
   obtain ⟨c0, c1, c2, c3, c4, c5, c6, c7, c8, c9⟩ := yd X3.out
   have z_q := bq X2.out
   obtain ⟨g0, g1, g2, g3, g4, g5, g6, _, _, _⟩ := z3R X2.out
   go_wp2
   change bodyPost _ _ _ _ _ (W3.setCells (w.heap.size + 2) 0 (Vlq c.ed A1' c.st n1' A2' c.ou n2' A3' c.tr n3' c.co c.us c.wh))
   have hf := Zi (vs := (Vlq c.ed A1' c.st n1' A2' c.ou n2' A3' c.tr n3' c.co c.us c.wh)) X2.out rfl
   refine bodyPost_ret (results_cell_row rfl _ _ (w.heap.size + 2) 44 (Vk c.ed A1' c.st n1' A2' c.ou n2' A3' c.tr n3' c.co c.us c.wh) (0, 0) _ rfl hf huR rfl (by kernel_rfl)) rfl ?_
   have hv := HV.out.fill (g := w.heap.size + 2) (by omega) (Vlq c.ed A1' c.st n1' A2' c.ou n2' A3' c.tr n3' c.co c.us c.wh)
   rw [<- HCC.out]
   obtain ⟨o1, o2⟩ := MR.outs hv
   obtain ⟨s1, s2⟩ := MR.store hv
   exact ⟨_, _, _, _, _, _, rfl, s1, s2, o1.2, o1.1, o2.2, o2.1, Zj BB.out (by omega)⟩
  ·skip
   have he' : yv c = false := by simpa using he
   have HE := am he'
   obtain ⟨hft, hnx⟩ := HA.out he'
   have hl : Yz cn l1 pk nd ev va gn (yT cn l1 pk nd ev va c) = some c' := by have := HL.out; rw [Yz, if_neg he] at this; exact this
   have HFT := am hft
   have HNX := am hnx
   have HL1 := am hl
   clear he he' hft hnx hl
   go_upto_region 3 with (first | (go_at_call 41; refine (z3O.calls wr c A1' n1' A2' n2' A3' n3' A8' n8').mono ?_; rintro en W3 ⟨rfl, hb⟩; rw [HE.out]; have B3 := am hb; clear hb))
   clear c0 c1 c2 c3 c4 c5 c6 c7 c8 c9
   have hs34 := B3.out.size
   have Z0 := am (zd X0.out B3.out)
   have Z1 := am (zd X1.out B3.out)
   have Z2 := am (zd X2.out B3.out)
   have Z3 := am (zd X3.out B3.out)
   have HV3 := am (HV.out.below B3.out)
   have BB3 := am (BB.out.trans (B3.out.mono BB.out.size))
   clear X0 X1 X2 X3 HV BB B3
   have p_q := bq Z0.out
   obtain ⟨c0, c1, c2, c3, c4, c5, c6, c7, c8, c9⟩ := yd Z3.out
   have s1 : W3.cell? ⟨w.heap.size + 1, 1, none⟩ = some (.slice Ap_ pk.length np) := (za Z1.out 1).trans rfl
   go_wp2_with (first | (go_at_call 42; go_loud (refine (m_step.calls w W3 _ _ c cn nd ev va wd Av cv l1 Ab body.length cb Ap_ np pk BB3.out HV3.out.bound (fun k hk => hk.2) HR1.out HC1.out HPK.out HPN.out HE.out HFT.out).mono ?_); rintro en W4 ⟨cs2, rfl, hv2, hm2, hb2, hk2⟩; have nmt := fun k (hk : MT (Va c.ed A1' c.st n1' A2' c.ou n2' A3' c.tr n3' c.co c.us c.wh c.fu A8' c.td n8' c.ov) k) => (HV3.out.mt hk).1; have Y0 := am ((hk2.2 w.heap.size (by omega) (fun h => by have := nmt _ h; omega)).trans Z0.out); have Y1 := am ((hk2.2 (w.heap.size + 1) (by omega) (fun h => by have := nmt _ h; omega)).trans Z1.out); have Y2 := am ((hk2.2 (w.heap.size + 2) (by omega) (fun h => by have := nmt _ h; omega)).trans Z2.out); have Y3 := am ((hk2.2 W1.heap.size (by omega) (fun h => by have := nmt _ h; omega)).trans Z3.out); have HV4 := am hv2; have HB4 := am hb2; have hs4 := hk2.1; obtain ⟨cn_, hcn⟩ : ∃ cn_, cn_ = yT cn l1 pk nd ev va c := ⟨_, rfl⟩; rw [<- hcn] at hv2; have HV4 := am hv2; have HCN := am hcn; obtain ⟨A1_, n1_, A2_, n2_, A3_, n3_, A8_, n8_, rfl, hh2⟩ := id hv2; clear hh2 hv2 hm2 hb2 hk2 nmt hcn p_q c0 c1 c2 c3 c4 c5 c6 c7 c8 c9; have y_q := bq Y3.out; obtain ⟨g0, g1, g2, g3, g4, g5, g6, g7, g8, g9⟩ := z3R Y3.out))
   have F3 := am (Zi (vs := (Vb cn_.ed A1_ cn_.st n1_ A2_ cn_.ou n2_ A3_ cn_.tr n3_ cn_.co cn_.us cn_.wh cn_.fu A8_ cn_.td n8_ cn_.ov)) Y3.out rfl)
   have F0 := am ((Zl (vs := (Vb cn_.ed A1_ cn_.st n1_ A2_ cn_.ou n2_ A3_ cn_.tr n3_ cn_.co cn_.us cn_.wh cn_.fu A8_ cn_.td n8_ cn_.ov)) (g := W1.heap.size) (w := W4) (k := w.heap.size) (by omega)).trans Y0.out)
   have F1 := am ((Zl (vs := (Vb cn_.ed A1_ cn_.st n1_ A2_ cn_.ou n2_ A3_ cn_.tr n3_ cn_.co cn_.us cn_.wh cn_.fu A8_ cn_.td n8_ cn_.ov)) (g := W1.heap.size) (w := W4) (k := w.heap.size + 1) (by omega)).trans Y1.out)
   have F2 := am ((Zl (vs := (Vb cn_.ed A1_ cn_.st n1_ A2_ cn_.ou n2_ A3_ cn_.tr n3_ cn_.co cn_.us cn_.wh cn_.fu A8_ cn_.td n8_ cn_.ov)) (g := W1.heap.size) (w := W4) (k := w.heap.size + 2) (by omega)).trans Y2.out)
   have GV := am ((HV4.out.fill (g := W1.heap.size) (fun h => by rcases h with h | h; exact h.1.2 rfl; omega) (Vb cn_.ed A1_ cn_.st n1_ A2_ cn_.ou n2_ A3_ cn_.tr n3_ cn_.co cn_.us cn_.wh cn_.fu A8_ cn_.td n8_ cn_.ov)).mono (Q' := (fun k => w.heap.size + 3 <= k /\ k ≠ W1.heap.size)) (fun k hk _ => by rcases hk with hk | hk; exact hk.1; exact ⟨by omega, by omega⟩))
   have GB := am (Zj (vs := (Vb cn_.ed A1_ cn_.st n1_ A2_ cn_.ou n2_ A3_ cn_.tr n3_ cn_.co cn_.us cn_.wh cn_.fu A8_ cn_.td n8_ cn_.ov)) (g := W1.heap.size) HB4.out (by omega))
   have GS := am (show W1.heap.size < (W4.setCells W1.heap.size 0 (Vb cn_.ed A1_ cn_.st n1_ A2_ cn_.ou n2_ A3_ cn_.tr n3_ cn_.co cn_.us cn_.wh cn_.fu A8_ cn_.td n8_ cn_.ov)).heap.size by rw [YI]; omega)
   go_roundg gn
   case measure => omega
   case rel =>
    exact ⟨⟨cn_, (Va cn_.ed A1_ cn_.st n1_ A2_ cn_.ou n2_ A3_ cn_.tr n3_ cn_.co cn_.us cn_.wh cn_.fu A8_ cn_.td n8_ cn_.ov), by rw [HCN.out]; exact HL1.out, by rw [HCN.out]; exact HNX.out, GV.out, F3.out⟩, F0, F1, F2, GB, GS⟩
end Go.Proofs.YtnlekgadadifdaaGreat.Print
namespace Go.Proofs.YtnlekgadadifdaaGreat.Print
open Go.RowKit Go.Proofs.YtnlekgadadifdaaGreatW.PrintWords Go.Proofs.YtnlekgadadifdaaGreatW.PrintLast Go.Proofs.YtnlekgadadifdaaGreatW.PrintMore
attribute [local go_sem] zo zm zr zq zi zh zn zl
set_option linter.unusedVariables false
set_option linter.unusedSimpArgs false
section
variable {wd : Int} {l1 : List S76} {pk : List Int} {ins : List S93}
theorem z5Z {c : VC} {r N : Nat} {fst : Int} (ho : c.ov = false) (hp : 0 <= c.pc) (hl : c.re.length = 64) (hr : r < 64) (hN : N < l1.length) (hF : zc (fun k => zV.f k l1 (N : Int)) fst) (h0 : 0 <= fst + yK l1 c.re N 0) (h1 : fst + yK l1 c.re N 0 < c.st.length)
  (hi : ins[c.pc.toNat]? = some ⟨4, N, 0, r, 0⟩) : stp wd l1 pk ins c (Ys l1 fst N 0 r (zY c)) := by
 refine ⟨ho, hp, _, hi, ?_, fun hb => ?_⟩
 ·obtain ⟨k0, hk⟩ := hF
  refine ⟨k0, fun k h => ?_⟩
  have := hk k h
  dsimp only at this
  simp only [vDo, if_true, show ¬ ((4 : Int) = 0) by decide, show ¬ ((4 : Int) = 1) by decide, show ¬ ((4 : Int) = 2) by decide, show ¬ ((4 : Int) = 3) by decide, if_false]
  rw [this]
  simp
 ·obtain ⟨k0, hk⟩ := hF
  refine ⟨k0, fun k h => ⟨hb, ?_⟩⟩
  have hf := hk k h
  dsimp only at hf
  simp only [show ¬ ((4 : Int) = 0) by decide, show ¬ ((4 : Int) = 1) by decide, show ¬ ((4 : Int) = 2) by decide, show ¬ ((4 : Int) = 3) by decide, show ¬ ((4 : Int) = 6) by decide, show ¬ ((4 : Int) = 7) by decide, show ¬ ((4 : Int) = 8) by decide, show ¬ ((4 : Int) = 9) by decide, show ¬ ((4 : Int) = 10) by decide, false_implies, true_and, and_true, forall_const]
  refine ⟨yl hl hr, fun f' e' => ?_⟩
  rw [hf] at e'
  obtain rfl := sj e'
  exact ⟨by omega, by omega, fun _ => yl (r := 0) hl (by omega), by rw [Int.toNat_natCast]; exact h0, by rw [Int.toNat_natCast]; exact h1⟩
theorem z6N {c : VC} {q : Int} (ho : c.ov = false) (hp : 0 <= c.pc) (hi : ins[c.pc.toNat]? = some ⟨5, q, 0, 0, 0⟩) : stp wd l1 pk ins c { zY c with pc := q } := by
 refine ⟨ho, hp, _, hi, ?_, fun hb => ⟨0, fun k _ => ⟨hb, by simp⟩⟩⟩
 simp [vDo]
 exact zc.pure _
theorem z6I {c : VC} {q : Int} (ho : c.ov = false) (hp : 0 <= c.pc) (hl : c.re.length = 64) (hi : ins[c.pc.toNat]? = some ⟨6, 0, q, 0, 0⟩) : stp wd l1 pk ins c { zY c with tr := c.tr ++ [⟨0, c.pc, if rg c.re 0 = 0 then 1 else 0⟩], pc := if rg c.re 0 = 0 then q else c.pc + 1 } := by
 refine ⟨ho, hp, _, hi, ?_, fun hb => ⟨0, fun k _ => ⟨hb, by simp; exact yl (r := 0) hl (by omega)⟩⟩⟩
 simp [vDo]
 exact zc.pure _
theorem stp_out {c : VC} {lv : Int} (ho : c.ov = false) (hp : 0 <= c.pc) (hl : c.re.length = 64) (hi : ins[c.pc.toNat]? = some ⟨7, lv, 0, 0, 0⟩) : stp wd l1 pk ins c { zY c with ou := c.ou ++ [⟨lv, rg c.re 0⟩], pc := c.pc + 1 } := by
 refine ⟨ho, hp, _, hi, ?_, fun hb => ⟨0, fun k _ => ⟨hb, by simp; exact yl (r := 0) hl (by omega)⟩⟩⟩
 simp [vDo]
 exact zc.pure _
theorem z6K {c : VC} {r : Nat} (ho : c.ov = false) (hp : 0 <= c.pc) (hl : c.re.length = 64) (hr : r < 64) (hi : ins[c.pc.toNat]? = some ⟨8, r, 0, 0, 0⟩) : stp wd l1 pk ins c (if (pk.length : Int) <= c.us then Yj 4 (zY c) else ZI r (rg pk c.us) { zY c with us := c.us + 1 }) := by
 refine ⟨ho, hp, _, hi, ?_, fun hb => ⟨0, fun k _ => ⟨hb, by simp; exact yl hl hr⟩⟩⟩
 have hu : (zY c).us = c.us := rfl
 simp only [vDo, if_true, show ¬ ((8 : Int) = 0) by decide, show ¬ ((8 : Int) = 1) by decide, show ¬ ((8 : Int) = 2) by decide, show ¬ ((8 : Int) = 3) by decide, show ¬ ((8 : Int) = 4) by decide, show ¬ ((8 : Int) = 5) by decide, show ¬ ((8 : Int) = 6) by decide, show ¬ ((8 : Int) = 7) by decide, if_false, hu]
 split <;> exact zc.pure _
theorem z6L {c : VC} (ho : c.ov = false) (hp : 0 <= c.pc) (hl : c.re.length = 64) (hi : ins[c.pc.toNat]? = some ⟨9, 0, 0, 0, 0⟩) : stp wd l1 pk ins c (if rg c.re 0 = 0 then Yj 1 (zY c) else { zY c with pc := c.pc + 1 }) := by
 refine ⟨ho, hp, _, hi, ?_, fun hb => ⟨0, fun k _ => ⟨hb, by simp; exact yl (r := 0) hl (by omega)⟩⟩⟩
 have hu : rg (zY c).re 0 = rg c.re 0 := rfl
 simp only [vDo, if_true, show ¬ ((9 : Int) = 0) by decide, show ¬ ((9 : Int) = 1) by decide, show ¬ ((9 : Int) = 2) by decide, show ¬ ((9 : Int) = 3) by decide, show ¬ ((9 : Int) = 4) by decide, show ¬ ((9 : Int) = 5) by decide, show ¬ ((9 : Int) = 6) by decide, show ¬ ((9 : Int) = 7) by decide, show ¬ ((9 : Int) = 8) by decide, if_false, hu]
 split <;> exact zc.pure _
theorem z6M {c : VC} (ho : c.ov = false) (hp : 0 <= c.pc) (hl : c.re.length = 64) (hi : ins[c.pc.toNat]? = some ⟨10, 0, 0, 0, 0⟩) : stp wd l1 pk ins c (if rg c.re 0 = 0 then Yj 2 (zY c) else { zY c with pc := c.pc + 1 }) := by
 refine ⟨ho, hp, _, hi, ?_, fun hb => ⟨0, fun k _ => ⟨hb, by simp; exact yl (r := 0) hl (by omega)⟩⟩⟩
 have hu : rg (zY c).re 0 = rg c.re 0 := rfl
 simp only [vDo, if_true, show ¬ ((10 : Int) = 0) by decide, show ¬ ((10 : Int) = 1) by decide, show ¬ ((10 : Int) = 2) by decide, show ¬ ((10 : Int) = 3) by decide, show ¬ ((10 : Int) = 4) by decide, show ¬ ((10 : Int) = 5) by decide, show ¬ ((10 : Int) = 6) by decide, show ¬ ((10 : Int) = 7) by decide, show ¬ ((10 : Int) = 8) by decide, show ¬ ((10 : Int) = 9) by decide, if_false, hu]
 split <;> exact zc.pure _
theorem z6J {c : VC} (ho : c.ov = false) (hp : 0 <= c.pc) (hi : ins[c.pc.toNat]? = some ⟨11, 0, 0, 0, 0⟩) : stp wd l1 pk ins c (Yj 0 (zY c)) := by
 refine ⟨ho, hp, _, hi, ?_, fun hb => ⟨0, fun k _ => ⟨hb, by simp⟩⟩⟩
 simp [vDo]
 exact zc.pure _
end
section
variable (n : Nat) (l1 : List S76) (pk : List Int) (ins : List S93)
open Classical in
noncomputable def vxs (st : List Int) (x : S62) : Int × List Z9 := if h : ∃ q : Int × List Z9, SimX n l1 pk ins st x q.1 q.2 then h.choose else (0, [])
noncomputable def vaX (st : List Int) (x : S62) : Int := (vxs n l1 pk ins st x).1
noncomputable def evX (st : List Int) (x : S62) : List Z9 := (vxs n l1 pk ins st x).2
end
def z0b (n : Nat) (l1 : List S76) : Prop := 1 <= n /\ n <= 8 /\ l1.length <= 18 /\ ∀ v ∈ l1, 1 <= v.f2 /\ v.f2 <= 8
def z2i (n : Nat) (l1 : List S76) (st : List Int) : Prop := (st.length : Int) = cs l1 /\ ∀ a ∈ st, WW n a
section
variable {n : Nat} {l1 : List S76} {pk : List Int} {ins : List S93}
theorem z0m (hh : z0b n l1) {st : List Int} (hs : z2i n l1 st) {x : S62} (hx : eOK (n : Int) l1 1 x = true) (hn : eN x <= 1000) : SimX n l1 pk ins st x (vaX n l1 pk ins st x) (evX n l1 pk ins st x) := by
 obtain ⟨h1, h8, hl, hv⟩ := hh
 obtain ⟨v, es, h⟩ := (sim_all n h1 h8 l1 hl hv pk ins st hs.1 hs.2).1 x hx hn
 have : ∃ q : Int × List Z9, SimX n l1 pk ins st x q.1 q.2 := ⟨(v, es), h⟩
 unfold vaX evX vxs
 rw [dif_pos this]
 exact this.choose_spec
theorem z41 (hh : z0b n l1) {st : List Int} (hs : z2i n l1 st) : ∀ (l : List S62), (∀ x ∈ l, eOK (n : Int) l1 1 x = true /\ eN x <= 1000) -> XsM n l1 pk ins st l (l.map (vaX n l1 pk ins st)) (l.flatMap (evX n l1 pk ins st))
 | [], _ => z5R
 | x :: r, h => by
  obtain ⟨h1, h2⟩ := h x (List.mem_cons_self ..)
  exact z4C (z0m hh hs h1 h2).2.2.2.2.2 (z41 hh hs r (fun y hy => h y (List.mem_cons_of_mem _ hy)))
end
end Go.Proofs.YtnlekgadadifdaaGreat.Print
namespace Go.Proofs.YtnlekgadadifdaaGreat.Print
open Go.RowKit Go.Proofs.YtnlekgadadifdaaGreatW.PrintWords Go.Proofs.YtnlekgadadifdaaGreatW.PrintLast Go.Proofs.YtnlekgadadifdaaGreatW.PrintMore
attribute [local go_sem] zo zm zr zq zi zh zn zl
set_option linter.unusedVariables false
set_option linter.unusedSimpArgs false
theorem z0s : (∀ x, YM x -> sN x <= 1000000 -> zc (fun k => zR.f k x.f3) (sCs x.f3 : Int) /\ zc (fun k => zR.f k x.f4) (sCs x.f4 : Int)) /\
  (∀ suf, ∀ (pre : List S81) (n : Nat), ZC suf -> (pre ++ suf).length <= 9223372036854775807 -> n + sNs suf <= 1000000 -> zc (fun k => zR.l0 k (pre ++ suf) (n : Int) (pre.length : Int)) ((n + sCs suf : Nat) : Int)) := by
 refine z1f (fun a b l t e h1 h2 => ?_) ?_ (fun x r ih1 ih2 => ?_)
 ·intro hg hn
  rw [z0g] at hg
  rw [z0c] at hn
  simp only at hn
  constructor
  ·refine zc.succ ?_
   simp only [zR.f]
   have := h1 [] 0 hg.2.1.2 hg.2.1.1 (by omega)
   rw [Nat.zero_add] at this
   exact this
  ·refine zc.succ ?_
   simp only [zR.f]
   have := h2 [] 0 hg.2.2.2 hg.2.2.1 (by omega)
   rw [Nat.zero_add] at this
   exact this
 ·intro pre n _ _ _
  refine zc.succ ?_
  simp only [zR.l0, ZE, if_false]
  rw [z0q, Nat.add_zero]
  exact zc.pure _
 ·intro pre n hg hl hn
  rw [Yp] at hg
  rw [yz] at hn
  have hle := (z6Q.1 x).1
  rw [z0M] at hle
  refine zc.succ ?_
  simp only [zR.l0, Zc, Z5, if_true, ya]
  obtain ⟨t1, t2⟩ := ih1 hg.1 (by omega)
  refine zc.bind t1 (zc.bind t2 ?_)
  have t3 := ih2 (pre ++ [x]) (n + (1 + sCs x.f3 + sCs x.f4)) hg.2 (by rw [<- zM]; exact hl) (by omega)
  rw [<- zM] at t3
  rw [Z6 pre x r hl, w64 (n := (n : Int) + 1) (by omega) (by omega), w64 (n := (n : Int) + 1 + (sCs x.f3 : Int)) (by omega) (by omega), w64 (n := (n : Int) + 1 + (sCs x.f3 : Int) + (sCs x.f4 : Int)) (by omega) (by omega),
   show (n : Int) + 1 + (sCs x.f3 : Int) + (sCs x.f4 : Int) = ((n + (1 + sCs x.f3 + sCs x.f4) : Nat) : Int) by omega]
  rw [Yk, z0M, show n + (1 + sCs x.f3 + sCs x.f4 + sCs r) = n + (1 + sCs x.f3 + sCs x.f4) + sCs r by omega]
  exact t3
theorem z4H (l : List S81) (hl : l.length <= 9223372036854775807) (hg : ZC l) (hn : sNs l <= 1000000) : zc (fun k => zR.f k l) (sCs l : Int) := by
 refine zc.succ ?_
 simp only [zR.f]
 have := z0s.2 l [] 0 hg hl (by omega)
 rw [Nat.zero_add] at this
 exact this
def cnS (l : List S81) : Int := (sCs l : Int)
def ndX (x : S62) : Int := (eN x : Int)
def IV (n : Nat) (l1 : List S76) (m : Int) (s : S81) : Prop := 0 <= m /\ m + sC s <= 1000 /\ sOK (n : Int) l1 s = true /\ sN s <= 400 /\ YM s
def IVs (n : Nat) (l1 : List S76) (m : Int) (l : List S81) : Prop := 0 <= m /\ m + sCs l <= 1000 /\ Yt (n : Int) l1 l = true /\ sNs l <= 400 /\ ZC l
section
variable {n : Nat} {l1 : List S76} {pk : List Int} {ins : List S93}
theorem IVs.cons {m : Int} {x : S81} {r : List S81} (h : IVs n l1 m (x :: r)) : IV n l1 m x /\ IVs n l1 (m + 1 + cnS x.f3 + cnS x.f4) r := by
 obtain ⟨h0, h1, h2, h3, h4⟩ := h
 rw [Yk] at h1
 rw [yz] at h3
 rw [yR, Bool.and_eq_true] at h2
 have hc := z0M x
 push_cast at h1
 refine ⟨⟨h0, by omega, h2.1, by omega, h4.1⟩, ?_, ?_, h2.2, by omega, h4.2⟩ <;> (unfold cnS; omega)
theorem IVs.items : ∀ {l : List S81} {m : Int}, IVs n l1 m l -> ∀ x ∈ Zs cnS m l, IV n l1 x.f0 x.f1
 | [], _, _, x, hx => by simp [Zs] at hx
 | y :: r, m, h, x, hx => by
  obtain ⟨h1, h2⟩ := h.cons
  rw [Zs] at hx
  rcases List.mem_cons.1 hx with rfl | hx
  ·exact h1
  ·exact IVs.items h2 x hx
theorem IV.then_ {m : Int} {s : S81} (h : IV n l1 m s) : IVs n l1 (m + 1) s.f3 /\ IVs n l1 (m + 1 + cnS s.f3) s.f4 := by
 obtain ⟨h0, h1, h2, h3, h4⟩ := h
 rw [z0p, Bool.and_eq_true, Bool.and_eq_true, Bool.and_eq_true] at h2
 rw [z1F] at h4
 have hc := z0M s
 have hn := z0c s
 unfold cnS
 exact ⟨⟨by omega, by omega, h2.2.1, by omega, h4.2.1.2⟩, ⟨by omega, by omega, h2.2.2.1, by omega, h4.2.2.2⟩⟩
theorem z5v : ∀ (l : List S81) (m : Int), z2E cnS m l = m + sCs l
 | [], m => by simp [z2E, z0q]
 | x :: r, m => by
  rw [z2E, z5v r, Yk]
  have := z0M x
  unfold cnS
  omega
theorem z4c : ∀ (l : List S81) (j : Nat), sCs (l.take j) <= sCs l
 | [], j => by simp
 | x :: r, 0 => by simp [z0q]
 | x :: r, j + 1 => by
  rw [List.take_succ_cons, Yk, Yk]
  have := z4c r j
  omega
theorem IVs.mem : ∀ {l : List S81} {m : Int}, IVs n l1 m l -> ∀ x ∈ l, YM x /\ sN x <= 400 /\ sC x <= 1000
 | [], _, _, x, hx => by simp at hx
 | y :: r, m, h, x, hx => by
  obtain ⟨h1, h2⟩ := h.cons
  rcases List.mem_cons.1 hx with rfl | hx
  ·exact ⟨h1.2.2.2.2, h1.2.2.2.1, by have := h1.1; have := h1.2.1; omega⟩
  ·exact IVs.mem h2 x hx
theorem ym {α : Type} {g : Nat -> Option α} {v : α} (h : zc g v) : ∃ k, g k = some v := ⟨h.choose, h.choose_spec _ (Nat.le_refl _)⟩
theorem z1C : ∀ l : List S81, l.length <= sNs l
 | [] => Nat.zero_le _
 | x :: r => by
  rw [List.length_cons, yz]
  have := z1C r
  have := z0c x
  omega
theorem IVs.gi {l : List S81} {m : Int} (h : IVs n l1 m l) : GI cnS m l := by
 have hl := z1C l
 obtain ⟨h0, h1, h2, h3, h4⟩ := id h
 refine ⟨by omega, fun x hx => ?_, fun j _ => ?_⟩
 ·obtain ⟨g1, g2, g3⟩ := h.mem x hx
  obtain ⟨t1, t2⟩ := z0s.1 x g1 (by omega)
  have := z0M x
  unfold cnS
  exact ⟨ym t1, ym t2, by omega, by omega, by omega, by omega⟩
 ·have := z4c l j
  rw [z5v]
  omega
end
def z30 (n : Nat) (l1 : List S76) (c : MC) : Prop :=
 0 <= c.fu /\ c.fu <= 4096 /\ z2i n l1 c.st /\ (∀ x ∈ c.td, IV n l1 x.f0 x.f1) /\ 0 <= c.us /\ c.us <= 4096 - c.fu /\ 0 <= c.co /\ c.co <= 401 * (4096 - c.fu) /\ (c.tr.length : Int) <= 402 * (4096 - c.fu) /\ (c.ou.length : Int) <= 4096 - c.fu /\ (c.td.length : Int) <= 401 * (4097 - c.fu)
end Go.Proofs.YtnlekgadadifdaaGreat.Print
namespace Go.Proofs.YtnlekgadadifdaaGreat.Print
open Go.RowKit Go.Proofs.YtnlekgadadifdaaGreatW.PrintWords Go.Proofs.YtnlekgadadifdaaGreatW.PrintLast Go.Proofs.YtnlekgadadifdaaGreatW.PrintMore
attribute [local go_sem] zo zm zr zq zi zh zn zl
set_option linter.unusedVariables false
set_option linter.unusedSimpArgs false
theorem z2w : ∀ (suf pre acc : List Int), (pre ++ suf).length <= 1000 -> acc.length + suf.length <= 1000 -> zc (fun k => Zk.l0 k (pre ++ suf) acc (pre.length : Int)) (acc ++ suf)
 | [], pre, acc, _, _ => by
  refine zc.succ ?_
  simp only [Zk.l0, ZE, if_false]
  rw [List.append_nil]
  exact zc.pure _
 | s :: r, pre, acc, hl, ha => by
  refine zc.succ ?_
  rw [List.length_cons] at ha
  simp only [Zk.l0, Zc, Z5, if_true, z3A]
  refine zc.ifT (by omega) ?_
  rw [Z6 pre s r (by omega)]
  have ih := z2w r (pre ++ [s]) (acc ++ [s]) (by rw [<- zM]; exact hl) (by rw [List.length_append]; simp only [List.length_cons, List.length_nil]; omega)
  rw [<- zM, List.append_assoc, List.singleton_append] at ih
  exact ih
theorem z24 (l : List Int) (h : l.length <= 1000) : zc (fun k => Zk.f k l) l := by
 unfold Zk.f
 exact z2w l [] [] h (by simp only [List.length_nil]; omega)
section
variable {n : Nat} {l1 : List S76} {pk : List Int} {ins : List S93}
theorem z0b.cs_le (hh : z0b n l1) : 0 <= cs l1 /\ cs l1 <= 144 := by
 have := z1G l1 hh.2.2.2
 have := hh.2.2.1
 omega
theorem z7z (hh : z0b n l1) {N i : Int} (h0 : 0 <= N) (h1 : N < (l1.length : Int)) (i0 : 0 <= i) : atP l1 N i = cs (l1.take N.toNat) + i % (zp l1 N).f2 /\ 0 <= atP l1 N i /\ atP l1 N i < cs l1 /\ 1 <= (zp l1 N).f2 /\ zc (fun k => z01.f k l1 N i) (atP l1 N i) := by
 obtain ⟨ta, p1, p8, q0, q1⟩ := z7y l1 hh.2.2.1 hh.2.2.2 N i h0 h1 i0
 have e : atP l1 N i = cs (l1.take N.toNat) + i % (zp l1 N).f2 := by unfold atP cs; rw [z45 i0]
 have hm0 : 0 <= i % (zp l1 N).f2 := Int.emod_nonneg _ (by omega)
 have hm1 : i % (zp l1 N).f2 < (zp l1 N).f2 := Int.emod_lt_of_pos _ (by omega)
 rw [e]
 exact ⟨rfl, by omega, by omega, p1, ta⟩
theorem sfit (hh : z0b n l1) {st : List Int} (hs : (st.length : Int) = cs l1) {N i : Int} (a : Int) (h0 : 0 <= N) (h1 : N < (l1.length : Int)) (i0 : 0 <= i) : SFit l1 st N i a := by
 obtain ⟨_, p0, p1, c1, ta⟩ := z7z hh h0 h1 i0
 have hc := hh.cs_le
 refine ⟨h0, h1, by omega, ym ta, ym ?_⟩
 unfold z1R.f
 exact zc.bind (z24 st (by omega)) (zc.ifT p0 (zc.ifT (by omega) (zc.pure _)))
theorem z0k {m : Int} {op N : Int} {a : List S62} {t e : List S81} (h : IV n l1 m ⟨op, N, a, t, e⟩) :
  (∀ y ∈ a, eOK (n : Int) l1 1 y = true /\ eN y <= 400 /\ eD y <= 16 /\ Y8 y) /\ eNs a <= 400 /\ a.length <= 2 /\
  ((op = 0 /\ 0 <= N /\ N < (l1.length : Int) /\ a.length = if (zp l1 N).f2 > 1 then 2 else 1) \/ ((op = 1 \/ op = 2) /\ a.length = 1) \/ (op = 3 /\ a.length = 1 /\ 0 <= N /\ N <= 47) \/ (op = 4 /\ 0 <= N /\ N < (l1.length : Int) /\ a.length = if (zp l1 N).f2 > 1 then 1 else 0) \/ ((op = 5 \/ op = 6) /\ a.length = 1)) /\
  (¬ (op = 1 \/ op = 2) -> t = [] /\ e = []) /\ (op = 2 -> e = []) := by
 obtain ⟨h0, h1, h2, h3, h4⟩ := h
 rw [z0p, Bool.and_eq_true, Bool.and_eq_true, Bool.and_eq_true] at h2
 obtain ⟨hh, _, _, hall⟩ := h2
 rw [z0g] at h4
 rw [z0c] at h3
 dsimp only at hh hall h3
 unfold z04 at hh
 rw [Bool.and_eq_true, decide_eq_true_iff] at hh
 obtain ⟨har, hne⟩ := hh
 have hal := z3s l1 op N
 refine ⟨fun y hy => ?_, by omega, by omega, ?_, ?_, ?_⟩
 ·have := List.all_eq_true.1 hall y hy
  unfold eIs at this
  rw [Bool.and_eq_true, Bool.and_eq_true, decide_eq_true_iff, decide_eq_true_iff] at this
  exact ⟨this.2.2, this.1, this.2.1, z2N h4.1.2 y hy⟩
 ·unfold YR at har
  by_cases o0 : op = 0
  ·rw [if_pos o0] at har
   split at har
   ·rename_i hb
    refine .inl ⟨o0, hb.1, hb.2, ?_⟩
    split at har <;> rename_i hc <;> simp only [hc, if_true, if_false] <;> omega
   ·omega
  rw [if_neg o0] at har
  by_cases o4 : op = 4
  ·rw [if_pos o4] at har
   split at har
   ·rename_i hb
    refine .inr (.inr (.inr (.inl ⟨o4, hb.1, hb.2, ?_⟩)))
    split at har <;> rename_i hc <;> simp only [hc, if_true, if_false] <;> omega
   ·omega
  rw [if_neg o4] at har
  by_cases o3 : op = 3
  ·rw [if_pos o3] at har
   split at har
   ·rename_i hb
    exact .inr (.inr (.inl ⟨o3, by omega, hb.1, hb.2⟩))
   ·omega
  rw [if_neg o3] at har
  split at har
  ·rename_i hb
   split at har
   ·rcases hb with hb | hb | hb | hb
    ·exact .inr (.inl ⟨.inl hb, by omega⟩)
    ·exact .inr (.inl ⟨.inr hb, by omega⟩)
    ·exact .inr (.inr (.inr (.inr ⟨.inl hb, by omega⟩)))
    ·exact .inr (.inr (.inr (.inr ⟨.inr hb, by omega⟩)))
   ·omega
  ·omega
 ·intro ho
  unfold z08 at hne
  simp only [Bool.and_eq_true, Bool.or_eq_true, beq_iff_eq] at hne
  refine ⟨List.eq_nil_of_length_eq_zero ?_, List.eq_nil_of_length_eq_zero ?_⟩
  ·rcases hne.1 with (h | h) | h
   ·exact h
   ·exact absurd (.inl h) ho
   ·exact absurd (.inr h) ho
  ·rcases hne.2 with h | h
   ·exact h
   ·exact absurd (.inl h) ho
 ·intro ho
  unfold z08 at hne
  simp only [Bool.and_eq_true, Bool.or_eq_true, beq_iff_eq] at hne
  refine List.eq_nil_of_length_eq_zero ?_
  rcases hne.2 with h | h
  ·exact h
  ·omega
theorem z2P (hh : z0b n l1) {st : List Int} (hs : z2i n l1 st) : ∀ (l : List S62), (∀ y ∈ l, eOK (n : Int) l1 1 y = true /\ eN y <= 1000) -> (l.flatMap (evX n l1 pk ins st)).length <= eNs l /\ (l.map ndX).sum = (eNs l : Int)
 | [], _ => by simp [eNs]
 | x :: r, h => by
  obtain ⟨h1, h2⟩ := h x (List.mem_cons_self ..)
  obtain ⟨g1, g2⟩ := z2P hh hs r (fun y hy => h y (List.mem_cons_of_mem _ hy))
  have := (z0m (pk := pk) (ins := ins) hh hs h1 h2).2.2.2.1
  simp only [List.flatMap_cons, List.length_append, List.map_cons, List.sum_cons, eNs, ndX] at g2 ⊢
  rw [g2]
  exact ⟨by omega, by push_cast; rfl⟩
theorem efit (hh : z0b n l1) {st : List Int} (hs : z2i n l1 st) {y : S62} (h1 : eOK (n : Int) l1 1 y = true) (h2 : eN y <= 400) (hg : Y8 y) : EFit (n : Int) l1 ndX (evX n l1 pk ins st) (vaX n l1 pk ins st) st y := by
 obtain ⟨_, t1, t2, t3, _⟩ := z0m (pk := pk) (ins := ins) hh hs h1 (by omega)
 have tn := nodesE.1 y hg (by omega)
 exact ⟨ym t1, ym tn, by unfold ndX; omega, by unfold ndX; omega, ym t2, by omega⟩
theorem z3L {a : List S62} {f : S62 -> Int} {P : Int -> Prop} (h : ∀ y ∈ a, P (f y)) {i : Int} (h0 : 0 <= i) (h1 : i < ((a.map f).length : Int)) : P (rd (a.map f) i) := by
 obtain ⟨hl, e⟩ := z3z (a.map f) i h0 h1
 rw [e, List.getElem_map]
 exact h _ (List.getElem_mem _)
theorem tfit (hh : z0b n l1) (hpk : ∀ a ∈ pk, WW n a) {c : MC} (h : z30 n l1 c) : TFit cnS (n : Int) l1 pk ndX (evX n l1 pk ins) (vaX n l1 pk ins) c := by
 obtain ⟨f0, f1, hs, htd, u0, u1, o0, o1, t1, t2, t3⟩ := h
 intro x rest he
 have hx := htd x (by rw [he]; exact List.mem_cons_self ..)
 obtain ⟨m, ⟨op, N, a, t, e⟩⟩ := x
 dsimp only at hx ⊢
 obtain ⟨ha, hn, hl, hop, hn1, hn2⟩ := z0k hx
 obtain ⟨e1, e2⟩ := z2P (pk := pk) (ins := ins) hh hs a (fun y hy => ⟨(ha y hy).1, by have := (ha y hy).2.1; omega⟩)
 rw [he, List.length_cons] at t3
 push_cast at t3
 obtain ⟨m0, m1, _, _, _⟩ := id hx
 obtain ⟨ht, hE⟩ := hx.then_
 dsimp only at ht hE
 have hw : ∀ y ∈ a, 0 <= vaX n l1 pk ins c.st y := fun y hy => (z0m (pk := pk) (ins := ins) hh hs (ha y hy).1 (by have := (ha y hy).2.1; omega)).1.1
 have hml : (a.map (vaX n l1 pk ins c.st)).length = a.length := List.length_map ..
 refine ⟨by omega, fun hfu => ⟨by omega, by omega, by omega, by omega, by omega, by omega, fun y hy => efit hh hs (ha y hy).1 (ha y hy).2.1 (ha y hy).2.2.2, ?_⟩⟩
 unfold AFit yZ
 dsimp only
 refine ⟨⟨m0, by omega, by rw [List.length_append]; omega, by omega, u0, by omega, by omega⟩, fun o => ?_, fun o => ?_, fun o => ?_, fun o => ?_⟩
 ·subst o
  rcases hop with ⟨_, b0, b1, b2⟩ | ⟨b, _⟩ | ⟨b, _⟩ | ⟨b, _⟩ | ⟨b, _⟩
  ·have hlp : 0 < a.length := by split at b2 <;> omega
   refine ⟨by omega, sfit hh hs.1 _ b0 b1 ?_⟩
   split
   ·exact z3L hw (Int.le_refl _) (by omega)
   ·exact Int.le_refl _
  all_goals omega
 ·have hla : a.length = 1 := by
   rcases hop with ⟨b, _⟩ | ⟨_, b⟩ | ⟨b, _⟩ | ⟨b, _⟩ | ⟨b, _⟩
   all_goals omega
  have hx' := z0M ⟨op, N, a, t, e⟩
  dsimp only at hx'
  refine ⟨by omega, ht.gi, hE.gi, ?_, by unfold cnS; omega, by unfold cnS; omega⟩
  exact ym (z0s.1 ⟨op, N, a, t, e⟩ hx.2.2.2.2 (by have := hx.2.2.2.1; omega)).1
 ·have hla : a.length = 1 := by
   rcases hop with ⟨b, _⟩ | ⟨b, _⟩ | ⟨_, b, _⟩ | ⟨b, _⟩ | ⟨_, b⟩
   all_goals omega
  omega
 ·subst o
  rcases hop with ⟨b, _⟩ | ⟨b, _⟩ | ⟨b, _⟩ | ⟨_, b0, b1, b2⟩ | ⟨b, _⟩
  rotate_right
  all_goals first | omega | skip
  refine sfit hh hs.1 _ b0 b1 ?_
  split
  ·exact z3L hw (Int.le_refl _) (by omega)
  ·exact Int.le_refl _
end
end Go.Proofs.YtnlekgadadifdaaGreat.Print
namespace Go.Proofs.YtnlekgadadifdaaGreat.Print
open Go.RowKit Go.Proofs.YtnlekgadadifdaaGreatW.PrintWords Go.Proofs.YtnlekgadadifdaaGreatW.PrintLast Go.Proofs.YtnlekgadadifdaaGreatW.PrintMore
attribute [local go_sem] zo zm zr zq zi zh zn zl 
set_option linter.unusedVariables false
set_option linter.unusedSimpArgs false
def Bal (c : VC) : Prop := 0 <= c.co /\ c.fu + c.co = 4194304 /\ (c.tl.length : Int) = c.co /\ (c.tr.length : Int) <= c.co /\ (c.ou.length : Int) <= c.co /\ 0 <= c.us /\ c.us <= c.co
def z21 (c c' : VC) : Prop := c'.co = c.co /\ c'.fu = c.fu /\ c'.tl = c.tl /\ c'.tr.length <= c.tr.length + 1 /\ c'.ou.length <= c.ou.length + 1 /\ c.us <= c'.us /\ c'.us <= c.us + 1
theorem z6D {k : Nat} {wd : Int} {l1 : List S76} {pk : List Int} {c c' : VC} {i : S93} (h : vDo k wd l1 pk c i = some c') : z21 c c' := by
 unfold vDo at h
 have gw : ∀ r a, z21 c (ZI r a c) := fun r a => by unfold z21 ZI; refine ⟨rfl, rfl, rfl, ?_, ?_, ?_, ?_⟩ <;> simp <;> omega
 have gs : ∀ x, z21 c (Yj x c) := fun x => by unfold z21 Yj; refine ⟨rfl, rfl, rfl, ?_, ?_, ?_, ?_⟩ <;> simp <;> omega
 by_cases o0 : i.f0 = 0
 ·rw [if_pos o0] at h
  obtain rfl := sj h
  exact gw _ _
 rw [if_neg o0] at h
 by_cases o1 : i.f0 = 1
 ·rw [if_pos o1] at h
  obtain ⟨_, _, rfl⟩ := Option.map_eq_some_iff.1 h
  exact gw _ _
 rw [if_neg o1] at h
 by_cases o2 : i.f0 = 2
 ·rw [if_pos o2] at h
  obtain rfl := sj h
  exact gw _ _
 rw [if_neg o2] at h
 by_cases o3 : i.f0 = 3
 ·rw [if_pos o3] at h
  obtain ⟨f, _, rfl⟩ := Option.map_eq_some_iff.1 h
  unfold z21 z0A vEv
  split <;> (refine ⟨rfl, rfl, rfl, ?_, ?_, ?_, ?_⟩ <;> simp <;> omega)
 rw [if_neg o3] at h
 by_cases o4 : i.f0 = 4
 ·rw [if_pos o4] at h
  obtain ⟨f, _, rfl⟩ := Option.map_eq_some_iff.1 h
  unfold z21 Ys vEv
  split <;> (refine ⟨rfl, rfl, rfl, ?_, ?_, ?_, ?_⟩ <;> simp <;> omega)
 rw [if_neg o4] at h
 by_cases o5 : i.f0 = 5
 ·rw [if_pos o5] at h
  obtain rfl := sj h
  unfold z21
  refine ⟨rfl, rfl, rfl, ?_, ?_, ?_, ?_⟩ <;> simp <;> omega
 rw [if_neg o5] at h
 by_cases o6 : i.f0 = 6
 ·rw [if_pos o6] at h
  obtain rfl := sj h
  unfold z21
  refine ⟨rfl, rfl, rfl, ?_, ?_, ?_, ?_⟩ <;> simp <;> omega
 rw [if_neg o6] at h
 by_cases o7 : i.f0 = 7
 ·rw [if_pos o7] at h
  obtain rfl := sj h
  unfold z21
  refine ⟨rfl, rfl, rfl, ?_, ?_, ?_, ?_⟩ <;> simp <;> omega
 rw [if_neg o7] at h
 by_cases o8 : i.f0 = 8
 ·rw [if_pos o8] at h
  split at h
  ·obtain rfl := sj h
   exact gs _
  ·obtain rfl := sj h
   unfold z21 ZI
   refine ⟨rfl, rfl, rfl, ?_, ?_, ?_, ?_⟩ <;> simp <;> omega
 rw [if_neg o8] at h
 by_cases o9 : i.f0 = 9
 ·rw [if_pos o9] at h
  split at h
  ·obtain rfl := sj h
   exact gs _
  ·obtain rfl := sj h
   unfold z21
   refine ⟨rfl, rfl, rfl, ?_, ?_, ?_, ?_⟩ <;> simp <;> omega
 rw [if_neg o9] at h
 by_cases o10 : i.f0 = 10
 ·rw [if_pos o10] at h
  split at h
  ·obtain rfl := sj h
   exact gs _
  ·obtain rfl := sj h
   unfold z21
   refine ⟨rfl, rfl, rfl, ?_, ?_, ?_, ?_⟩ <;> simp <;> omega
 rw [if_neg o10] at h
 obtain rfl := sj h
 exact gs _
theorem Bal.stp {wd : Int} {l1 : List S76} {pk : List Int} {ins : List S93} {c c' : VC} (h : Bal c) (hs : stp wd l1 pk ins c c') : Bal c' /\ c'.co = c.co + 1 := by
 obtain ⟨_, _, i, _, ht, _⟩ := hs
 obtain ⟨k, hk⟩ := ym ht
 obtain ⟨g1, g2, g3, g4, g5, g6, g7⟩ := z6D hk
 obtain ⟨b1, b2, b3, b4, b5, b6, b7⟩ := h
 simp only [zY, List.length_append, List.length_singleton] at g1 g2 g3 g4 g5 g6 g7
 have g3' := congrArg List.length g3
 rw [List.length_append, List.length_singleton] at g3'
 refine ⟨⟨by omega, by omega, by omega, by omega, by omega, by omega, by omega⟩, by omega⟩
theorem Bal.steps {wd : Int} {l1 : List S76} {pk : List Int} {ins : List S93} {n : Nat} {c c' : VC} (h : Bal c) (hs : yN wd l1 pk ins n c c') : Bal c' /\ c'.co = c.co + n := by
 induction hs with
 | refl c => exact ⟨h, by omega⟩
 | step h1 _ ih =>
  obtain ⟨b1, e1⟩ := h.stp h1
  obtain ⟨b2, e2⟩ := ih b1
  exact ⟨b2, by omega⟩
def Asc (p q : Int) (l : List Int) : Prop := l.Pairwise (· < ·) /\ ∀ x ∈ l, p <= x /\ x < q
theorem Asc.nil {p q : Int} : Asc p q [] := ⟨List.Pairwise.nil, fun x h => by simp at h⟩
theorem Asc.wide {p q p' q' : Int} {l : List Int} (h : Asc p q l) (h1 : p' <= p) (h2 : q <= q') : Asc p' q' l := ⟨h.1, fun x hx => by have := h.2 x hx; omega⟩
theorem Asc.app {p q r s : Int} {a b : List Int} (h1 : Asc p q a) (h2 : Asc r s b) (hq : q <= r) : Asc p s (a ++ b) \/ a = [] \/ b = [] := by
 by_cases ha : a = []
 ·exact .inr (.inl ha)
 by_cases hb : b = []
 ·exact .inr (.inr hb)
 obtain ⟨x, hx⟩ := List.exists_mem_of_ne_nil a ha
 obtain ⟨y, hy⟩ := List.exists_mem_of_ne_nil b hb
 have h3 := h1.2 x hx
 have h4 := h2.2 y hy
 refine .inl ⟨List.pairwise_append.2 ⟨h1.1, h2.1, fun u hu v hv => ?_⟩, fun u hu => ?_⟩
 ·have := h1.2 u hu
  have := h2.2 v hv
  omega
 ·rcases List.mem_append.1 hu with hu | hu
  ·have := h1.2 u hu
   omega
  ·have := h2.2 u hu
   omega
theorem Asc.append {p q r s : Int} {a b : List Int} (h1 : Asc p q a) (h2 : Asc r s b) (hq : q <= r) (hp : p <= r) (hs : q <= s) : Asc p s (a ++ b) := by
 rcases h1.app h2 hq with h | rfl | rfl
 ·exact h
 ·exact h2.wide hp (Int.le_refl _)
 ·rw [List.append_nil]
  exact h1.wide (Int.le_refl _) hs
theorem Asc.cons {p q s x : Int} {l : List Int} (h : Asc q s l) (hx : p <= x) (hq : x < q) (hs : x < s) : Asc p s (x :: l) :=
 Asc.append (a := [x]) (q := x + 1) ⟨List.pairwise_singleton _ _, fun y hy => by rw [List.mem_singleton.1 hy]; omega⟩ h (by omega) (by omega) (by omega)
mutual
def zS : S81 -> Nat -> List Int
 | ⟨op, _, a, t, e⟩, p => if op = 1 \/ op = 2 then ((p + nE (hdE a) : Nat) : Int) :: (zSs t (p + nE (hdE a) + 1) ++ zSs e (p + nE (hdE a) + 1 + nSs t + 1)) else [(p : Int)]
def zSs : List S81 -> Nat -> List Int
 | [], _ => []
 | x :: r, p => zS x p ++ zSs r (p + nS x)
end
theorem plS_len (x : S81) (p : Nat) : (plS x p).length + 1 = kS x := by
 have := Yn [x] p
 simp only [ZA, kSs, List.append_nil, List.length_cons] at this
 omega
theorem z1I (w : Int) (l1 : List S76) : (∀ x : S81, sOK w l1 x = true -> kS x = sC x /\ 1 <= nS x /\ ∀ p : Nat, Asc p (p + nS x) ((p : Int) :: plS x p) /\ Asc p (p + nS x) (zS x p) /\ (zS x p).length = kS x) /\
  (∀ l : List S81, Yt w l1 l = true -> kSs l = sCs l /\ ∀ p : Nat, Asc p (p + nSs l) (ZA l p) /\ Asc p (p + nSs l) (zSs l p) /\ (zSs l p).length = kSs l) := by
 refine z1f (fun op b a t e h1 h2 => ?_) (fun _ => ⟨by simp [kSs, z0q], fun p => ⟨Asc.nil, Asc.nil, rfl⟩⟩) (fun x r h1 h2 => ?_)
 ·intro ho
  rw [z0p, Bool.and_eq_true, Bool.and_eq_true, Bool.and_eq_true] at ho
  obtain ⟨hh, ht, he, _⟩ := ho
  dsimp only at hh ht he
  obtain ⟨k1, a1⟩ := h1 ht
  obtain ⟨k2, a2⟩ := h2 he
  rw [z0M]
  by_cases hb : op = 1 \/ op = 2
  ·have hns : nS ⟨op, b, a, t, e⟩ = nE (hdE a) + 1 + nSs t + (if e.length = 0 then (if op = 2 then 1 else 0) else 1 + nSs e) := by simp only [nS, if_pos hb]
   have hks : kS ⟨op, b, a, t, e⟩ = kSs t + kSs e + 1 := by simp only [kS, if_pos hb]
   refine ⟨by rw [hks]; dsimp only; omega, by omega, fun p => ?_⟩
   simp only [plS, zS, if_pos hb]
   obtain ⟨b1, c1, d1⟩ := a1 (p + nE (hdE a) + 1)
   obtain ⟨b2, c2, d2⟩ := a2 (p + nE (hdE a) + 1 + nSs t + 1)
   by_cases h0 : e.length = 0
   ·obtain rfl := List.eq_nil_of_length_eq_zero h0
    rw [if_pos h0] at hns
    simp only [ZA, zSs, List.append_nil]
    refine ⟨b1.cons (Int.le_refl _) (by push_cast; omega) (by omega) |>.wide (Int.le_refl _) ?_, c1.cons (by push_cast; omega) (by push_cast; omega) (by push_cast; omega) |>.wide (Int.le_refl _) ?_, ?_⟩
    ·rw [hns]; push_cast; split <;> omega
    ·rw [hns]; push_cast; split <;> omega
    ·rw [List.length_cons, d1, hks]; simp [kSs]
   ·rw [if_neg h0] at hns
    have x1 := b1.append b2 (by push_cast; omega) (by push_cast; omega) (by push_cast; omega)
    have x2 := c1.append c2 (by push_cast; omega) (by push_cast; omega) (by push_cast; omega)
    refine ⟨x1.cons (Int.le_refl _) (by push_cast; omega) (by omega) |>.wide (Int.le_refl _) ?_, x2.cons (by push_cast; omega) (by push_cast; omega) (by push_cast; omega) |>.wide (Int.le_refl _) ?_, ?_⟩
    ·rw [hns]; push_cast; omega
    ·rw [hns]; push_cast; omega
    ·rw [List.length_cons, List.length_append, d1, d2, hks]
  ·obtain ⟨rfl, rfl⟩ : t = [] /\ e = [] := by
    unfold z04 at hh
    rw [Bool.and_eq_true] at hh
    have hne := hh.2
    unfold z08 at hne
    simp only [Bool.and_eq_true, Bool.or_eq_true, beq_iff_eq] at hne
    refine ⟨List.eq_nil_of_length_eq_zero ?_, List.eq_nil_of_length_eq_zero ?_⟩
    ·rcases hne.1 with (h | h) | h
     ·exact h
     ·exact absurd (.inl h) hb
     ·exact absurd (.inr h) hb
    ·rcases hne.2 with h | h
     ·exact h
     ·exact absurd (.inl h) hb
   have hns : nS ⟨op, b, a, [], []⟩ = nAs a + (cT op b a.length).length := by simp only [nS, if_neg hb]
   have hks : kS ⟨op, b, a, [], []⟩ = 1 := by simp only [kS, if_neg hb]
   have hct : 1 <= (cT op b a.length).length := by
    unfold z04 at hh
    rw [Bool.and_eq_true, decide_eq_true_iff] at hh
    have har := hh.1
    unfold YR at har
    unfold cT
    by_cases o0 : op = 0
    ·simp [o0]
    by_cases o3 : op = 3
    ·simp [o3]
    by_cases o4 : op = 4
    ·simp [o4]
    by_cases o5 : op = 5
    ·simp [o5]
    by_cases o6 : op = 6
    ·simp [o6]
    exfalso
    rw [if_neg o0, if_neg o4, if_neg o3] at har
    split at har
    ·omega
    ·omega
   refine ⟨by rw [hks]; simp [z0q], by omega, fun p => ?_⟩
   simp only [plS, zS, if_neg hb]
   have : Asc (p : Int) ((p : Int) + nS ⟨op, b, a, [], []⟩) [(p : Int)] := (Asc.nil (p := (p : Int) + 1) (q := (p : Int) + nS ⟨op, b, a, [], []⟩)).cons (Int.le_refl _) (by omega) (by omega)
   exact ⟨this, this, by rw [hks]; rfl⟩
 ·intro ho
  rw [yR, Bool.and_eq_true] at ho
  obtain ⟨k1, n1, a1⟩ := h1 ho.1
  obtain ⟨k2, a2⟩ := h2 ho.2
  refine ⟨by rw [Yk]; simp only [kSs]; omega, fun p => ?_⟩
  obtain ⟨b1, c1, d1⟩ := a1 p
  obtain ⟨b2, c2, d2⟩ := a2 (p + nS x)
  simp only [ZA, zSs, nSs, kSs]
  have e1 := b1.append b2 (by push_cast; omega) (by push_cast; omega) (by push_cast; omega)
  have e2 := c1.append c2 (by push_cast; omega) (by push_cast; omega) (by push_cast; omega)
  refine ⟨e1.wide (Int.le_refl _) (by push_cast; omega), e2.wide (Int.le_refl _) (by push_cast; omega), by rw [List.length_append, d1, d2]⟩
end Go.Proofs.YtnlekgadadifdaaGreat.Print
namespace Go.Proofs.YtnlekgadadifdaaGreat.Print
open Go.RowKit Go.Proofs.YtnlekgadadifdaaGreatW.PrintWords Go.Proofs.YtnlekgadadifdaaGreatW.PrintLast Go.Proofs.YtnlekgadadifdaaGreatW.PrintMore
attribute [local go_sem] zo zm zr zq zi zh zn zl
set_option linter.unusedVariables false
set_option linter.unusedSimpArgs false
def z1J (L : List Int) (p : Nat) (c : List Int) : Prop := ∀ i x, c[i]? = some x -> L[p + i]? = some x
theorem z1J.left {L : List Int} {p : Nat} {a b : List Int} (h : z1J L p (a ++ b)) : z1J L p a := fun i x hx => h i x (by rw [List.getElem?_append_left (by exact (List.getElem?_eq_some_iff.1 hx).1)]; exact hx)
theorem z1J.right {L : List Int} {p : Nat} {a b : List Int} (h : z1J L p (a ++ b)) : z1J L (p + a.length) b := fun i x hx => by
 rw [Nat.add_assoc]
 exact h (a.length + i) x (by rw [List.getElem?_append_right (by omega), Nat.add_sub_cancel_left]; exact hx)
theorem z1J.head {L : List Int} {p : Nat} {x : Int} {r : List Int} (h : z1J L p (x :: r)) : L[p]? = some x /\ z1J L (p + 1) r :=
 ⟨h 0 x rfl, fun i y hy => by rw [show p + 1 + i = p + (i + 1) by omega]; exact h (i + 1) y (by simpa using hy)⟩
def Far (L : List Int) (m q : Nat) : Prop := ∀ (i : Nat) x, m <= i -> L[i]? = some x -> (q : Int) <= x
theorem Far.low {L : List Int} {m k p q : Nat} {l : List Int} (h : Far L (m + k) q) (hk : l.length = k) (hs : z1J L m l) (ha : Asc p q l) (hpq : p <= q) : Far L m p := fun i x hi hx => by
 by_cases hik : i < m + k
 ·have hl : i - m < l.length := by omega
  have := hs (i - m) l[i - m] (List.getElem?_eq_getElem hl)
  rw [show m + (i - m) = i by omega, hx] at this
  obtain rfl := sj this
  exact (ha.2 _ (List.getElem_mem hl)).1
 ·have := h i x (by omega) hx
  omega
def At (ins : List S93) (L Z : List Int) (m : Int) (p : Nat) (s : S81) : Prop :=
 Seg ins p (cS s p) /\ z1J L m.toNat ((p : Int) :: plS s p) /\ z1J Z m.toNat (zS s p) /\ Far L (m.toNat + kS s) (p + nS s)
inductive Y6 (ins : List S93) (L Z : List Int) : Nat -> List ZQ -> Nat -> Prop
 | stop {p : Nat} : ins[p]? = some ⟨11, 0, 0, 0, 0⟩ -> Y6 ins L Z p [] 0
 | item {p : Nat} {m : Int} {s : S81} {rest : List ZQ} {j : Nat} : At ins L Z m p s -> Y6 ins L Z (p + nS s) rest j -> Y6 ins L Z p (⟨m, s⟩ :: rest) j
 | jump {p q : Nat} {td : List ZQ} {j : Nat} : ins[p]? = some ⟨5, (q : Int), 0, 0, 0⟩ -> Y6 ins L Z q td j -> Y6 ins L Z p td (j + 1)
section
variable {n : Nat} {l1 : List S76} {ins : List S93} {L Z : List Int}
theorem Yg : ∀ (l : List S81) (m : Int) (p : Nat) (rest : List ZQ) (j : Nat), IVs n l1 m l -> Seg ins p (cSs l p) -> z1J L m.toNat (ZA l p) -> z1J Z m.toNat (zSs l p) -> Far L (m.toNat + kSs l) (p + nSs l) -> Y6 ins L Z (p + nSs l) rest j -> Y6 ins L Z p (Zs cnS m l ++ rest) j
 | [], m, p, rest, j, _, _, _, _, _, h => by
  simpa [Zs, nSs] using h
 | x :: r, m, p, rest, j, hv, h1, h2, h3, hf, h => by
  obtain ⟨v1, v2⟩ := hv.cons
  obtain ⟨k1, n1, a1⟩ := (z1I (n : Int) l1).1 x v1.2.2.1
  obtain ⟨k2, a2⟩ := (z1I (n : Int) l1).2 r v2.2.2.1
  have hm := v1.1
  have e : (m + 1 + cnS x.f3 + cnS x.f4).toNat = m.toNat + kS x := by
   rw [k1, z0M]
   unfold cnS
   omega
  rw [cSs] at h1
  rw [ZA] at h2
  rw [zSs] at h3
  simp only [nSs, kSs] at h hf
  have h1r := h1.right
  have h2r := h2.right
  have h3r := h3.right
  rw [cS_len] at h1r
  rw [List.length_cons, plS_len] at h2r
  rw [(a1 p).2.2] at h3r
  rw [<- Nat.add_assoc] at h
  rw [<- Nat.add_assoc, <- Nat.add_assoc] at hf
  have ih := Yg r (m + 1 + cnS x.f3 + cnS x.f4) (p + nS x) rest j v2 h1r (by rw [e]; exact h2r) (by rw [e]; exact h3r) (by rw [e]; exact hf) h
  rw [Zs, List.cons_append]
  refine .item ⟨h1.left, h2.left, h3.left, ?_⟩ ih
  exact hf.low (by rw [Yn]) h2r (by have := (a2 (p + nS x)).1; push_cast at this ⊢; exact this) (by omega)
theorem At.br {m : Int} {p : Nat} {op N : Int} {x : S62} {t e : List S81} (h : At ins L Z m p ⟨op, N, [x], t, e⟩) (hb : op = 1 \/ op = 2) (h2 : op = 2 -> e = []) (hv : IV n l1 m ⟨op, N, [x], t, e⟩) {rest : List ZQ} {j : Nat} (hc : Y6 ins L Z (p + nS ⟨op, N, [x], t, e⟩) rest j) :
  Seg ins p (cE x 0) /\ Z[m.toNat]? = some ((p + nE x : Nat) : Int) /\ ∃ q : Nat, ins[p + nE x]? = some ⟨6, 0, q, 0, 0⟩ /\
   (op = 1 -> Y6 ins L Z q (Zs cnS (m + 1 + cnS t) e ++ rest) j /\ ∃ j', j' <= j + 1 /\ Y6 ins L Z (p + nE x + 1) (Zs cnS (m + 1) t ++ rest) j') /\
   (op = 2 -> Y6 ins L Z q rest j /\ Y6 ins L Z (p + nE x + 1) ((Zs cnS (m + 1) t ++ [⟨m, ⟨op, N, [x], t, e⟩⟩]) ++ rest) (j + 1)) := by
 have hAt := h
 obtain ⟨g1, g2, g3, g4⟩ := h
 obtain ⟨vt, ve⟩ := hv.then_
 dsimp only at vt ve
 obtain ⟨kt, at_⟩ := (z1I (n : Int) l1).2 t vt.2.2.1
 obtain ⟨ke, ae⟩ := (z1I (n : Int) l1).2 e ve.2.2.1
 have hm := hv.1
 simp only [cS, if_pos hb, hdE, List.headD_cons] at g1
 simp only [plS, if_pos hb, hdE, List.headD_cons] at g2
 simp only [zS, if_pos hb, hdE, List.headD_cons] at g3
 have hks : kS ⟨op, N, [x], t, e⟩ = kSs t + kSs e + 1 := by simp only [kS, if_pos hb]
 have hns : nS ⟨op, N, [x], t, e⟩ = nE x + 1 + nSs t + (if e.length = 0 then (if op = 2 then 1 else 0) else 1 + nSs e) := by simp only [nS, if_pos hb, hdE, List.headD_cons]
 have hm1 : (m + 1).toNat = m.toNat + 1 := by omega
 have hm2 : (m + 1 + cnS t).toNat = m.toNat + 1 + kSs t := by rw [kt]; unfold cnS; omega
 have p2 := g2.head.2
 have z2 := g3.head.2
 have pt := p2.left
 have pe := p2.right
 have zt := z2.left
 have ze := z2.right
 rw [Yn] at pe
 rw [(at_ _).2.2] at ze
 by_cases h0 : e.length = 0
 ·obtain rfl := List.eq_nil_of_length_eq_zero h0
  rw [if_pos h0] at hns
  rw [show decide (0 < ([] : List S81).length) = false from rfl] at g1
  unfold brC at g1
  rw [if_neg (by simp)] at g1
  rw [hks, hns] at g4
  simp only [kSs, Nat.add_zero] at g4
  have c1 := g1.left.left
  have c2 := g1.left.right.head
  have c3 := g1.right
  rw [YQ] at c2
  rw [List.length_append, List.length_cons, YQ, ZX] at c3
  rw [ZX] at c2
  rw [hns] at hc
  refine ⟨c1, g3.head.1, _, c2.1, fun o => ?_, fun o => ?_⟩
  ·rw [if_neg (by omega)] at hc g4 ⊢
   refine ⟨?_, j, by omega, ?_⟩
   ·simpa [Zs, Nat.add_assoc] using hc
   ·refine Yg t (m + 1) (p + nE x + 1) rest j vt c2.2 (by rw [hm1]; exact pt) (by rw [hm1]; exact zt) ?_ ?_
    ·rw [hm1]
     intro i y hi hy
     have := g4 i y (by omega) hy
     omega
    ·simpa [Nat.add_assoc] using hc
  ·rw [if_pos o] at hc g4 c3 ⊢
   have c4 := c3.head.1
   refine ⟨?_, ?_⟩
   ·simpa [Nat.add_assoc] using hc
   ·rw [List.append_assoc]
    refine Yg t (m + 1) (p + nE x + 1) _ (j + 1) vt c2.2 (by rw [hm1]; exact pt) (by rw [hm1]; exact zt) ?_ ?_
    ·rw [hm1]
     intro i y hi hy
     have := g4 i y (by omega) hy
     omega
    ·refine .jump (q := p) (by rw [<- c4]; congr 1; omega) ?_
     exact .item hAt (by rw [hns, if_pos o]; exact hc)
 ·have ho : op = 1 := by
   rcases hb with h | h
   ·exact h
   ·exact absurd (congrArg List.length (h2 h)) h0
  rw [if_neg h0] at hns
  rw [decide_eq_true (by omega : 0 < e.length)] at g1
  unfold brC at g1
  rw [if_pos rfl] at g1
  rw [hks, hns] at g4
  have c1 := g1.left.left
  have c2 := g1.left.right.head
  have c3 := g1.right.head
  rw [YQ] at c2
  rw [List.length_append, List.length_cons, YQ, ZX] at c3
  rw [ZX] at c2
  rw [ZX] at c3
  rw [hns] at hc
  have fe : Far L (m.toNat + 1 + kSs t) (p + nE x + 1 + nSs t + 1) := by
   refine Far.low (k := kSs e) (q := p + nE x + 1 + nSs t + 1 + nSs e) ?_ (Yn _ _) pe (by have := (ae (p + nE x + 1 + nSs t + 1)).1; push_cast at this ⊢; exact this) (by omega)
   intro i y hi hy
   have := g4 i y (by omega) hy
   omega
  refine ⟨c1, g3.head.1, _, c2.1, fun o => ⟨?_, j + 1, by omega, ?_⟩, fun o => by omega⟩
  ·refine Yg e _ _ rest j ve ?_ ?_ ?_ ?_ ?_
   ·have := c3.2
    rw [show p + (nE x + (nSs t + 1)) + 1 = p + nE x + 1 + nSs t + 1 by omega] at this
    exact this
   ·rw [hm2]; exact pe
   ·rw [hm2]; exact ze
   ·rw [hm2]
    intro i y hi hy
    have := g4 i y (by omega) hy
    omega
   ·rw [show p + nE x + 1 + nSs t + 1 + nSs e = p + (nE x + 1 + nSs t + (1 + nSs e)) by omega]
    exact hc
  ·refine Yg t (m + 1) (p + nE x + 1) rest (j + 1) vt c2.2 (by rw [hm1]; exact pt) (by rw [hm1]; exact zt) ?_ ?_
   ·rw [hm1]
    intro i y hi hy
    have := fe i y (by omega) hy
    omega
   ·refine .jump (q := p + nE x + 1 + nSs t + 1 + nSs e) ?_ ?_
    ·have := c3.1
     rw [show p + (nE x + (nSs t + 1)) = p + nE x + 1 + nSs t by omega] at this
     exact this
    ·rw [show p + nE x + 1 + nSs t + 1 + nSs e = p + (nE x + 1 + nSs t + (1 + nSs e)) by omega]
     exact hc
end
end Go.Proofs.YtnlekgadadifdaaGreat.Print
namespace Go.Proofs.YtnlekgadadifdaaGreat.Print
open Go.RowKit Go.Proofs.YtnlekgadadifdaaGreatW.PrintWords Go.Proofs.YtnlekgadadifdaaGreatW.PrintLast Go.Proofs.YtnlekgadadifdaaGreatW.PrintMore
attribute [local go_sem] zo zm zr zq zi zh zn zl
set_option linter.unusedVariables false
set_option linter.unusedSimpArgs false
def z6F (Z : List Int) (e : Z9) : Z9 := if e.f0 = 0 then ⟨0, rg Z e.f1, 1 - e.f2⟩ else e
def z4D (Z : List Int) (es : List Z9) : Prop := ∀ e ∈ es, e.f0 = 0 -> 0 <= e.f1 /\ e.f1.toNat < Z.length
theorem z4D.app {Z : List Int} {a b : List Z9} (h1 : z4D Z a) (h2 : z4D Z b) : z4D Z (a ++ b) := fun e he => by
 rcases List.mem_append.1 he with h | h
 ·exact h1 e h
 ·exact h2 e h
theorem z4D.nb {Z : List Int} {b : List Z9} (h : NB b) : z4D Z b := fun e he h0 => absurd h0 (h e he)
structure z1L (n : Nat) (Z : List Int) (c : MC) (v : VC) : Prop where
 st : v.st = c.st
 ou : v.ou = c.ou
 us : v.us = c.us
 tr : v.tr = c.tr.map (z6F Z) /\ z4D Z c.tr
 ov : v.ov = false
 ovc : c.ov = false
 ed : v.ed = 0
 edc : c.ed = 0
 rl : v.re.length = 64
 rw_ : ∀ a ∈ v.re, WW n a
 pc : 0 <= v.pc
def Rel (n : Nat) (ins : List S93) (L Z : List Int) (c : MC) (v : VC) (j : Nat) : Prop := z1L n Z c v /\ Y6 ins L Z v.pc.toNat c.td j /\ v.co + j <= 2 * c.co
structure Fin (L Z : List Int) (c : MC) (v : VC) : Prop where
 st : v.st = c.st
 ou : v.ou = c.ou
 us : v.us = c.us
 tr : v.tr = c.tr.map (z6F Z) /\ z4D Z c.tr
 ov : v.ov = true
 ed : v.ed = c.ed
 co : v.co <= 2 * c.co + 1
 at_ : c.ed ≠ 0 -> 0 <= c.wh /\ ∃ p q : Nat, L[c.wh.toNat]? = some (p : Int) /\ (p : Int) <= v.wh /\ v.wh < q /\ Far L (c.wh.toNat + 1) q
theorem tmap_nb {Z : List Int} {es : List Z9} (h : NB es) : es.map (z6F Z) = es := by
 induction es with
 | nil => rfl
 | cons e r ih =>
  rw [List.map_cons, ih (fun x hx => h x (List.mem_cons_of_mem _ hx))]
  unfold z6F
  rw [if_neg (h e (List.mem_cons_self ..))]
theorem NB_flat {l : List S62} {f : S62 -> List Z9} (h : ∀ x ∈ l, NB (f x)) : NB (l.flatMap f) := fun e he => by
 obtain ⟨x, hx, hm⟩ := List.mem_flatMap.1 he
 exact h x hx e hm
theorem z77 : (∀ x : S62, nE x = eN x) /\ (∀ l : List S62, nAs l = eNs l) := by
 refine z0Z (fun a b c l ih => ?_) ?_ (fun x r h1 h2 => ?_)
 ·rw [nE, ih]
  simp only [eN]
  omega
 ·simp only [nAs, eNs]
 ·simp only [nAs, eNs, h1, h2]
theorem z7m {l : List S62} {d : Nat} (h : ∀ x ∈ l, eD x <= d) : eDs l <= d := by
 induction l with
 | nil => simp [eDs]
 | cons x r ih =>
  simp only [eDs]
  have := h x (List.mem_cons_self ..)
  have := ih (fun y hy => h y (List.mem_cons_of_mem _ hy))
  omega
def hop (v : VC) (p N : Nat) (tl : List Int) : VC := { v with pc := p, fu := v.fu - N, co := v.co + N, tl := tl }
section
variable {n : Nat} {l1 : List S76} {pk : List Int} {ins : List S93} {L Z : List Int}
theorem Y6.run {wd : Int} {p : Nat} {td : List ZQ} {j : Nat} (h : Y6 ins L Z p td j) : ∀ v : VC, v.pc = p -> v.ov = false -> ∃ (N q j' : Nat) (tl : List Int), yN wd l1 pk ins N v (hop v q N tl) /\ N + j' = j /\ ((td = [] /\ j' = 0 /\ ins[q]? = some ⟨11, 0, 0, 0, 0⟩) \/ ∃ m s rest, td = ⟨m, s⟩ :: rest /\ At ins L Z m q s /\ Y6 ins L Z (q + nS s) rest j') := by
 have h0 : ∀ v : VC, ∀ p : Nat, v.pc = p -> hop v p 0 v.tl = v := fun v p hp => by
  unfold hop
  rw [<- hp]
  simp
 induction h with
 | @stop p hi => exact fun v hp _ => ⟨0, p, 0, v.tl, by rw [h0 v p hp]; exact .refl _, rfl, .inl ⟨rfl, rfl, hi⟩⟩
 | @item p m s rest j ha hc _ => exact fun v hp _ => ⟨0, p, j, v.tl, by rw [h0 v p hp]; exact .refl _, by omega, .inr ⟨m, s, rest, rfl, ha, hc⟩⟩
 | @jump p q td j hi _ ih =>
  intro v hp ho
  have h1 := z6N (wd := wd) (l1 := l1) (pk := pk) (c := v) (q := (q : Int)) ho (by omega) (by rw [hp, Int.toNat_natCast]; exact hi)
  obtain ⟨N, q', j', tl, a1, a2, a3⟩ := ih { zY v with pc := (q : Int) } rfl ho
  refine ⟨N + 1, q', j', tl, ?_, by omega, a3⟩
  have e : hop { zY v with pc := (q : Int) } q' N tl = hop v q' (N + 1) tl := by
   unfold hop zY
   simp only [VC.mk.injEq, true_and, and_true]
   refine ⟨?_, ?_⟩ <;> (push_cast; omega)
  rw [<- e]
  exact .step h1 a1
theorem z1L.hop {c : MC} {v : VC} (h : z1L n Z c v) (p N : Nat) (tl : List Int) : z1L n Z c (hop v p N tl) := ⟨h.st, h.ou, h.us, h.tr, h.ov, h.ovc, h.ed, h.edc, h.rl, h.rw_, by show (0 : Int) <= p; omega⟩
theorem Rel.done {c : MC} {v : VC} {j : Nat} (h : Rel n ins L Z c v j) (ht : c.td = []) : ∃ N v', yN (n : Int) l1 pk ins N v v' /\ Fin L Z c v' := by
 obtain ⟨hc, hk, hco⟩ := h
 rw [ht] at hk
 obtain ⟨N, q, j', tl, h1, h2, h3⟩ := hk.run (wd := (n : Int)) (l1 := l1) (pk := pk) v (by have := hc.pc; omega) hc.ov
 rcases h3 with ⟨_, _, hi⟩ | ⟨m, s, rest, e, _⟩
 ·have h4 := z6J (wd := (n : Int)) (l1 := l1) (pk := pk) (c := hop v q N tl) hc.ov (by show (0 : Int) <= q; omega) (by show ins[((q : Int)).toNat]? = _; rw [Int.toNat_natCast]; exact hi)
  refine ⟨_, _, h1.trans (.one h4), hc.st, hc.ou, hc.us, hc.tr, rfl, hc.edc.symm, ?_, fun h => absurd hc.edc h⟩
  show v.co + N + 1 <= 2 * c.co + 1
  omega
 ·exact absurd e (by simp)
theorem z2j (hh : z0b n l1) {c : MC} {v : VC} {j r : Nat} {N i a : Int} (hc : z1L n Z c v) (hs : z2i n l1 c.st) (hr : r < 64) (N0 : 0 <= N) (N1 : N < (l1.length : Int)) (ha : rg v.re r = a) (i0 : 0 <= i) (h1 : 1 < (zp l1 N).f2 -> rg v.re 0 = i) (h2 : ¬ 1 < (zp l1 N).f2 -> i = 0)
  (hi : ins[v.pc.toNat]? = some ⟨4, N, 0, r, 0⟩) (hk : Y6 ins L Z (v.pc.toNat + 1) c.td j) (hco : v.co + 1 + j <= 2 * c.co) (arr : Bool) (harr : arr = decide (1 < (zp l1 N).f2)) :
  ∃ v', stp (n : Int) l1 pk ins v v' /\ Rel n ins L Z (z0f l1 N i a (atP l1 N i) arr c) v' j := by
 obtain ⟨B, rfl⟩ : ∃ B : Nat, N = B := ⟨N.toNat, by omega⟩
 obtain ⟨pe, p0, p1, c1, _⟩ := z7z hh N0 N1 i0
 have hF := z05 l1 (B : Int) (by omega) (by omega) hh.2.2.2 hh.2.2.1
 have hst := hs.1
 have hpc := hc.pc
 have hidx : yK l1 v.re B 0 = i % (zp l1 (B : Int)).f2 := by
  unfold yK
  by_cases h : 1 < (zp l1 (B : Int)).f2
  ·rw [if_neg (by omega), h1 h, z45 i0]
  ·rw [if_pos (by omega), h2 h, Int.zero_emod]
 have hp := z5Z (wd := (n : Int)) (pk := pk) (c := v) (r := r) (N := B) hc.ov hpc hc.rl hr (by omega) hF (by rw [hidx]; omega) (by rw [hidx, hc.st]; omega) hi
 refine ⟨_, hp, ?_⟩
 have hidx' : yK l1 (zY v).re B 0 = Int.tmod i (zp l1 (B : Int)).f2 := by rw [z45 i0]; exact hidx
 have hset : (cs (l1.take (B : Int).toNat) + yK l1 (zY v).re B 0).toNat = (atP l1 B i).toNat := by
  rw [pe]
  show (cs (l1.take (B : Int).toNat) + yK l1 v.re B 0).toNat = _
  rw [hidx]
 have e1 : (v.pc + 1).toNat = v.pc.toNat + 1 := by omega
 by_cases h : 1 < (zp l1 (B : Int)).f2
 ·have e : Ys l1 (cs (l1.take (B : Int).toNat)) B 0 r (zY v) = ({ zY v with st := v.st.set (atP l1 B i).toNat a, tr := v.tr ++ [⟨2, B, Int.tmod i (zp l1 (B : Int)).f2⟩], pc := v.pc + 1 } : VC) := by
   unfold Ys vEv
   rw [if_pos h, hset, hidx']
   show _ = ({ zY v with st := v.st.set (atP l1 B i).toNat a, tr := v.tr ++ [⟨2, B, Int.tmod i (zp l1 (B : Int)).f2⟩], pc := v.pc + 1 } : VC)
   rw [show rg (zY v).re r = a from ha]
   rfl
  rw [e, harr, decide_eq_true h]
  unfold z0f mEv
  rw [if_pos rfl]
  refine ⟨⟨?_, hc.ou, hc.us, ?_, hc.ov, hc.ovc, hc.ed, hc.edc, hc.rl, hc.rw_, by show 0 <= v.pc + 1; omega⟩, ?_, hco⟩
  ·show v.st.set _ a = c.st.set _ a
   rw [hc.st]
  ·refine ⟨?_, hc.tr.2.app (fun e he h0 => ?_)⟩
   ·show v.tr ++ _ = List.map _ (c.tr ++ _)
    rw [List.map_append, <- hc.tr.1]
    rfl
   ·rw [List.mem_singleton.1 he] at h0
    exact absurd h0 (show ¬ ((2 : Int) = 0) by decide)
  ·show Y6 ins L Z (v.pc + 1).toNat c.td j
   rw [e1]
   exact hk
 ·have e : Ys l1 (cs (l1.take (B : Int).toNat)) B 0 r (zY v) = ({ zY v with st := v.st.set (atP l1 B i).toNat a, pc := v.pc + 1 } : VC) := by
   unfold Ys vEv
   rw [if_neg h, hset]
   show ({ zY v with st := v.st.set (atP l1 B i).toNat (rg (zY v).re r), pc := v.pc + 1 } : VC) = _
   rw [show rg (zY v).re r = a from ha]
  rw [e, harr, decide_eq_false h]
  unfold z0f
  rw [if_neg (by simp)]
  refine ⟨⟨?_, hc.ou, hc.us, hc.tr, hc.ov, hc.ovc, hc.ed, hc.edc, hc.rl, hc.rw_, by show 0 <= v.pc + 1; omega⟩, ?_, hco⟩
  ·show v.st.set _ a = c.st.set _ a
   rw [hc.st]
  ·show Y6 ins L Z (v.pc + 1).toNat c.td j
   rw [e1]
   exact hk
end
end Go.Proofs.YtnlekgadadifdaaGreat.Print
namespace Go.Proofs.YtnlekgadadifdaaGreat.Print
open Go.RowKit Go.Proofs.YtnlekgadadifdaaGreatW.PrintWords Go.Proofs.YtnlekgadadifdaaGreatW.PrintLast Go.Proofs.YtnlekgadadifdaaGreatW.PrintMore
attribute [local go_sem] zo zm zr zq zi zh zn zl
set_option linter.unusedVariables false
set_option linter.unusedSimpArgs false
section
variable {n : Nat} {l1 : List S76} {pk : List Int} {ins : List S93} {L Z : List Int}
theorem z4B (hh : z0b n l1) {c : MC} {v : VC} (hs : z2i n l1 c.st) (hc : z1L n Z c v) {a : List S62} (ha : ∀ y ∈ a, eOK (n : Int) l1 1 y = true /\ eN y <= 400 /\ eD y <= 16 /\ Y8 y) (hl : a.length <= 2) (hseg : Seg ins v.pc.toNat (cAs a 0)) (rest : List ZQ) :
  ∃ re tl, yN (n : Int) l1 pk ins (nAs a) v (adv v (nAs a) re (a.flatMap (evX n l1 pk ins c.st)) tl) /\ z1L n Z (yZ ndX (evX n l1 pk ins c.st) c a rest) (adv v (nAs a) re (a.flatMap (evX n l1 pk ins c.st)) tl) /\ (∀ (i : Nat) y, a[i]? = some y -> rg re (i : Int) = vaX n l1 pk ins c.st y) /\ (yZ ndX (evX n l1 pk ins c.st) c a rest).co = c.co + 1 + nAs a := by
 have h1 : ∀ y ∈ a, eOK (n : Int) l1 1 y = true /\ eN y <= 1000 := fun y hy => ⟨(ha y hy).1, by have := (ha y hy).2.1; omega⟩
 have hD : eDs a <= 16 := z7m (fun y hy => (ha y hy).2.2.1)
 obtain ⟨re, tl, a1, a2, a3, _, a5⟩ := z41 (pk := pk) (ins := ins) hh hs a h1 0 v hc.st hc.rl hc.rw_ hc.ov hc.pc (by omega) hseg
 have hnb : NB (a.flatMap (evX n l1 pk ins c.st)) := NB_flat (fun y hy => (z0m (pk := pk) (ins := ins) hh hs (h1 y hy).1 (h1 y hy).2).2.2.2.2.1)
 refine ⟨re, tl, a5, ⟨hc.st, hc.ou, hc.us, ?_, hc.ov, hc.ovc, hc.ed, hc.edc, a1, a2, ?_⟩, fun i y hy => ?_, ?_⟩
 ·refine ⟨?_, hc.tr.2.app (.nb hnb)⟩
  show v.tr ++ _ = List.map _ (c.tr ++ _)
  rw [List.map_append, tmap_nb hnb, hc.tr.1]
 ·show 0 <= v.pc + (nAs a : Int)
  have := hc.pc
  omega
 ·have := a3 i (vaX n l1 pk ins c.st y) (by rw [List.getElem?_map, hy]; rfl)
  rw [Nat.zero_add] at this
  exact this
 ·show c.co + 1 + (a.map ndX).sum = _
  rw [(z2P (pk := pk) (ins := ins) hh hs a h1).2, z77.2]
theorem z1L.tick {c : MC} {v : VC} (h : z1L n Z c v) {p : Int} (hp : 0 <= p) : z1L n Z c { zY v with pc := p } := ⟨h.st, h.ou, h.us, h.tr, h.ov, h.ovc, h.ed, h.edc, h.rl, h.rw_, hp⟩
def yJ (n : Nat) (l1 : List S76) (pk : List Int) (ins : List S93) (L Z : List Int) (v : VC) (c' : MC) : Prop :=
 (c'.ov = false /\ ∃ N v' j', yN (n : Int) l1 pk ins N v v' /\ Rel n ins L Z c' v' j') \/ (c'.ov = true /\ ∃ N v', yN (n : Int) l1 pk ins N v v' /\ Fin L Z c' v')
theorem yJ.rel {v v1 v' : VC} {c' : MC} {N j : Nat} (h : yN (n : Int) l1 pk ins N v v1) (hs : stp (n : Int) l1 pk ins v1 v') (hr : Rel n ins L Z c' v' j) : yJ n l1 pk ins L Z v c' :=
 .inl ⟨hr.1.ovc, _, v', j, h.trans (.one hs), hr⟩
theorem z7j {m : Int} {p : Nat} {s : S81} (h : At ins L Z m p s) (hk : kS s = 1) : L[m.toNat]? = some (p : Int) /\ Far L (m.toNat + 1) (p + nS s) := by
 obtain ⟨_, h2, _, h4⟩ := h
 rw [hk] at h4
 exact ⟨h2.head.1, h4⟩
theorem z2v {c : MC} {v v0 : VC} {N : Nat} {x m : Int} {p q : Nat} (h0 : yN (n : Int) l1 pk ins N v0 v) (hc : z1L n Z c v) (hs : stp (n : Int) l1 pk ins v (Yj x (zY v))) (hx : x ≠ 0) (hm : 0 <= m) (hL : L[m.toNat]? = some (p : Int)) (hp : (p : Int) <= v.pc) (hq : v.pc < q) (hF : Far L (m.toNat + 1) q) (hco : v.co + 1 <= 2 * c.co + 1) : yJ n l1 pk ins L Z v0 (YL x m c) := by
 refine .inr ⟨rfl, _, _, h0.trans (.one hs), hc.st, hc.ou, hc.us, hc.tr, rfl, rfl, hco, fun _ => ⟨hm, p, q, hL, ?_, ?_, hF⟩⟩
 ·show (p : Int) <= if x = 0 then _ else v.pc
  rw [if_neg hx]
  exact hp
 ·show (if x = 0 then _ else v.pc) < (q : Int)
  rw [if_neg hx]
  exact hq
theorem z6P {p : Nat} {op N : Int} {a : List S62} {t e : List S81} {m : Int} (h : At ins L Z m p ⟨op, N, a, t, e⟩) (hb : ¬ (op = 1 \/ op = 2)) : Seg ins p (cAs a 0) /\ Seg ins (p + nAs a) (cT op N a.length) /\ nS ⟨op, N, a, t, e⟩ = nAs a + (cT op N a.length).length /\ kS ⟨op, N, a, t, e⟩ = 1 := by
 have g := h.1
 simp only [cS, if_neg hb] at g
 have g2 := g.right
 rw [z06] at g2
 exact ⟨g.left, g2, by simp only [nS, if_neg hb], by simp only [kS, if_neg hb]⟩
theorem act_sim (hh : z0b n l1) (hpk : ∀ a ∈ pk, WW n a) {c : MC} {v : VC} {m op N : Int} {a : List S62} {t e : List S81} {rest : List ZQ} {j p : Nat} (hs : z2i n l1 c.st) (hu : 0 <= c.us) (hx : IV n l1 m ⟨op, N, a, t, e⟩) (hc : z1L n Z c v) (hp : v.pc = p) (hA : At ins L Z m p ⟨op, N, a, t, e⟩) (hk : Y6 ins L Z (p + nS ⟨op, N, a, t, e⟩) rest j) (hco : v.co + j <= 2 * c.co) :
  yJ n l1 pk ins L Z v (yF cnS l1 pk (yZ ndX (evX n l1 pk ins c.st) c a rest) m op N t e ⟨m, ⟨op, N, a, t, e⟩⟩ (a.map (vaX n l1 pk ins c.st)) rest) := by
 obtain ⟨ha, _, hl, hop, hn1, hn2⟩ := z0k hx
 have hm := hx.1
 have hpn : v.pc.toNat = p := by omega
 by_cases hb : op = 1 \/ op = 2
 ·have hla : a.length = 1 := by
   rcases hop with ⟨b, _⟩ | ⟨_, b⟩ | ⟨b, _⟩ | ⟨b, _⟩ | ⟨b, _⟩
   all_goals omega
  obtain ⟨x, rfl⟩ := List.length_eq_one_iff.1 hla
  obtain ⟨s1, z1, q, i1, b1, b2⟩ := hA.br hb hn2 hx hk
  obtain ⟨re, tl, st1, co1, rg1, ec⟩ := z4B (pk := pk) hh hs hc ha hl (by rw [hpn]; simp only [cAs, List.append_nil]; exact s1) rest
  have hnx : nAs [x] = nE x := by simp [nAs]
  have hwp : (adv v (nAs [x]) re ([x].flatMap (evX n l1 pk ins c.st)) tl).pc = ((p + nE x : Nat) : Int) := by show v.pc + (nAs [x] : Int) = _; rw [hnx]; omega
  have hwc : (adv v (nAs [x]) re ([x].flatMap (evX n l1 pk ins c.st)) tl).co = v.co + nAs [x] := rfl
  have hr0 : rg re 0 = vaX n l1 pk ins c.st x := rg1 0 x rfl
  have hre : (adv v (nAs [x]) re ([x].flatMap (evX n l1 pk ins c.st)) tl).re = re := rfl
  have etd : (yZ ndX (evX n l1 pk ins c.st) c [x] rest).td = rest := rfl
  generalize (adv v (nAs [x]) re ([x].flatMap (evX n l1 pk ins c.st)) tl) = w at st1 co1 hwp hwc hre
  generalize yZ ndX (evX n l1 pk ins c.st) c [x] rest = c1 at co1 ec etd ⊢
  have hz := z6I (wd := (n : Int)) (l1 := l1) (pk := pk) co1.ov co1.pc co1.rl (by rw [hwp, Int.toNat_natCast]; exact i1)
  rw [hre, hr0] at hz
  have hZ : rg Z m = ((p + nE x : Nat) : Int) := by
   unfold rg
   rw [List.getD_eq_getElem?_getD, z1]
   rfl
  have hrd : rd ([x].map (vaX n l1 pk ins c.st)) 0 = vaX n l1 pk ins c.st x := rfl
  generalize [x].map (vaX n l1 pk ins c.st) = vs at hrd
  generalize vaX n l1 pk ins c.st x = u at hz hr0 hrd
  have ctr : ∀ {b : Int} {td : List ZQ} {pc : Int}, b = 1 - (if u = 0 then 1 else 0) -> 0 <= pc -> z1L n Z { mEv 0 m b c1 with td := td } { zY w with tr := w.tr ++ [⟨0, w.pc, if u = 0 then 1 else 0⟩], pc := pc } := fun {b td pc} hb hp => ⟨co1.st, co1.ou, co1.us, ⟨by
    show w.tr ++ _ = List.map _ (c1.tr ++ _)
    rw [List.map_append, <- co1.tr.1, hwp]
    unfold z6F
    simp only [List.map_cons, List.map_nil, if_true, hZ]
    rw [show (if u = 0 then (1 : Int) else 0) = 1 - b by rw [hb]; split <;> rfl], co1.tr.2.app (fun e he _ => by
    rw [List.mem_singleton.1 he]
    exact ⟨hm, (List.getElem?_eq_some_iff.1 z1).1⟩)⟩, co1.ov, co1.ovc, co1.ed, co1.edc, co1.rl, co1.rw_, hp⟩
  rcases hb with o | o
  ·obtain ⟨k1, j', hj, k2⟩ := b1 o
   subst o
   unfold yF
   rw [if_neg (by decide), if_pos rfl, hrd]
   by_cases hu0 : u = 0
   ·rw [if_pos hu0, if_pos hu0]
    rw [if_pos hu0, if_pos hu0] at hz
    refine yJ.rel (j := j) st1 hz ⟨?_, ?_, ?_⟩
    ·have := ctr (b := 0) (td := Zs cnS (m + 1 + cnS t) e ++ rest) (pc := (q : Int)) (by rw [if_pos hu0]; rfl) (by omega)
     rwa [if_pos hu0] at this
    ·show Y6 ins L Z ((q : Int)).toNat _ j
     rw [Int.toNat_natCast]
     exact k1
    ·show w.co + 1 + j <= 2 * c1.co
     omega
   ·rw [if_neg hu0, if_neg hu0]
    rw [if_neg hu0, if_neg hu0] at hz
    refine yJ.rel (j := j') st1 hz ⟨?_, ?_, ?_⟩
    ·have := ctr (b := 1) (td := Zs cnS (m + 1) t ++ rest) (pc := w.pc + 1) (by rw [if_neg hu0]; rfl) (by omega)
     rwa [if_neg hu0] at this
    ·show Y6 ins L Z (w.pc + 1).toNat _ j'
     rw [hwp, show (((p + nE x : Nat) : Int) + 1).toNat = p + nE x + 1 by omega]
     exact k2
    ·show w.co + 1 + j' <= 2 * c1.co
     omega
  ·obtain ⟨k1, k2⟩ := b2 o
   subst o
   unfold yF
   rw [if_neg (by decide), if_neg (by decide), if_pos rfl, hrd]
   by_cases hu0 : u = 0
   ·rw [if_pos hu0]
    rw [if_pos hu0, if_pos hu0] at hz
    refine yJ.rel (j := j) st1 hz ⟨?_, ?_, ?_⟩
    ·have := ctr (b := 0) (td := c1.td) (pc := (q : Int)) (by rw [if_pos hu0]; rfl) (by omega)
     rwa [if_pos hu0] at this
    ·show Y6 ins L Z ((q : Int)).toNat c1.td j
     rw [Int.toNat_natCast, etd]
     exact k1
    ·show w.co + 1 + j <= 2 * c1.co
     omega
   ·rw [if_neg hu0]
    rw [if_neg hu0, if_neg hu0] at hz
    refine yJ.rel (j := j + 1) st1 hz ⟨?_, ?_, ?_⟩
    ·have := ctr (b := 1) (td := (Zs cnS (m + 1) t ++ [⟨m, ⟨2, N, [x], t, e⟩⟩]) ++ rest) (pc := w.pc + 1) (by rw [if_neg hu0]; rfl) (by omega)
     rwa [if_neg hu0] at this
    ·show Y6 ins L Z (w.pc + 1).toNat _ (j + 1)
     rw [hwp, show (((p + nE x : Nat) : Int) + 1).toNat = p + nE x + 1 by omega]
     exact k2
    ·show w.co + 1 + ((j + 1 : Nat) : Int) <= 2 * c1.co
     push_cast
     omega
 ·obtain ⟨s1, s2, hns, hks⟩ := z6P hA hb
  obtain ⟨re, tl, st1, co1, rg1, ec⟩ := z4B (pk := pk) hh hs hc ha hl (by rw [hpn]; exact s1) rest
  obtain ⟨hL, hF⟩ := z7j hA hks
  have hwp : (adv v (nAs a) re (a.flatMap (evX n l1 pk ins c.st)) tl).pc = ((p + nAs a : Nat) : Int) := by show v.pc + (nAs a : Int) = _; omega
  have hwc : (adv v (nAs a) re (a.flatMap (evX n l1 pk ins c.st)) tl).co = v.co + nAs a := rfl
  have hre : (adv v (nAs a) re (a.flatMap (evX n l1 pk ins c.st)) tl).re = re := rfl
  have etd : (yZ ndX (evX n l1 pk ins c.st) c a rest).td = rest := rfl
  have est : (yZ ndX (evX n l1 pk ins c.st) c a rest).st = c.st := rfl
  have eus : (yZ ndX (evX n l1 pk ins c.st) c a rest).us = c.us := rfl
  have hw : ∀ y ∈ a, WW n (vaX n l1 pk ins c.st y) := fun y hy => (z0m (pk := pk) (ins := ins) hh hs (ha y hy).1 (by have := (ha y hy).2.1; omega)).1
  generalize (adv v (nAs a) re (a.flatMap (evX n l1 pk ins c.st)) tl) = w at st1 co1 hwp hwc hre
  generalize yZ ndX (evX n l1 pk ins c.st) c a rest = c1 at co1 ec etd est eus ⊢
  rw [<- est] at hs
  rw [<- hre] at rg1
  rw [hns] at hk hF
  generalize vaX n l1 pk ins c.st = f at rg1 hw ⊢
  rcases hop with ⟨rfl, b0, b1, b2⟩ | ⟨b, _⟩ | ⟨rfl, hla, b0, b1⟩ | ⟨rfl, b0, b1, b2⟩ | ⟨b, hla⟩
  ·unfold cT at hk s2
   rw [if_pos rfl] at hk s2
   unfold yF
   rw [if_pos rfl]
   by_cases hf : (zp l1 N).f2 > 1
   ·rw [if_pos hf] at b2
    obtain ⟨x, y, rfl⟩ := len2 (l := a) (by omega)
    obtain ⟨v', h1, h2⟩ := z2j (pk := pk) (a := f y) (i := f x) (r := 1) hh co1 hs (by omega) b0 b1 (rg1 1 y rfl) (hw x (by simp)).1 (fun _ => rg1 0 x rfl) (fun h => absurd hf h) (by rw [hwp, Int.toNat_natCast]; exact s2.head.1) (by rw [hwp, Int.toNat_natCast, etd]; exact hk) (by omega) true (dT hf).symm
    exact yJ.rel st1 h1 h2
   ·rw [if_neg hf] at b2
    obtain ⟨x, rfl⟩ := len1 (l := a) (by omega)
    obtain ⟨v', h1, h2⟩ := z2j (pk := pk) (a := f x) (i := 0) (r := 0) hh co1 hs (by omega) b0 b1 (rg1 0 x rfl) (Int.le_refl _) (fun h => absurd h hf) (fun _ => rfl) (by rw [hwp, Int.toNat_natCast]; exact s2.head.1) (by rw [hwp, Int.toNat_natCast, etd]; exact hk) (by omega) false (dF hf).symm
    exact yJ.rel st1 h1 h2
  ·exact absurd b hb
  ·obtain ⟨x, rfl⟩ := List.length_eq_one_iff.1 hla
   unfold cT at hk s2
   rw [if_neg (by decide), if_pos rfl] at hk s2
   unfold yF
   rw [if_neg (by decide), if_neg (by decide), if_neg (by decide), if_pos rfl]
   have h1 := stp_out (wd := (n : Int)) (l1 := l1) (pk := pk) (lv := N) co1.ov co1.pc co1.rl (by rw [hwp, Int.toNat_natCast]; exact s2.head.1)
   have h0 : rg w.re 0 = f x := rg1 0 x rfl
   rw [h0] at h1
   refine yJ.rel (j := j) st1 h1 ⟨⟨co1.st, ?_, co1.us, co1.tr, co1.ov, co1.ovc, co1.ed, co1.edc, co1.rl, co1.rw_, ?_⟩, ?_, ?_⟩
   ·show w.ou ++ _ = c1.ou ++ _
    rw [co1.ou]
    rfl
   ·show 0 <= w.pc + 1
    omega
   ·show Y6 ins L Z (w.pc + 1).toNat c1.td j
    rw [hwp, show (((p + nAs [x] : Nat) : Int) + 1).toNat = p + nAs [x] + 1 by omega, etd]
    exact hk
   ·show w.co + 1 + j <= 2 * c1.co
    omega
  ·unfold cT at hk s2 hF
   rw [if_neg (by decide), if_neg (by decide), if_pos rfl] at hk s2 hF
   unfold yF
   rw [if_neg (by decide), if_neg (by decide), if_neg (by decide), if_neg (by decide), if_pos rfl]
   have hla : a.length <= 1 := by
    split at b2 <;> omega
   have hpick := z6K (wd := (n : Int)) (l1 := l1) (pk := pk) (r := a.length) co1.ov co1.pc co1.rl (by omega) (by rw [hwp, Int.toNat_natCast]; exact s2.head.1)
   rw [co1.us] at hpick
   by_cases hus : (pk.length : Int) <= c1.us
   ·rw [if_pos hus]
    rw [if_pos hus] at hpick
    have hF' : Far L (m.toNat + 1) (p + (nAs a + 2)) := hF
    exact z2v st1 co1 hpick (by decide) hm hL (by omega) (q := p + (nAs a + 2)) (by omega) hF' (by omega)
   ·rw [if_neg hus]
    rw [if_neg hus] at hpick
    have hpw : WW n (rg pk c1.us) := by
     obtain ⟨hl', e⟩ := z3z pk c1.us (by omega) (by omega)
     rw [show rg pk c1.us = rd pk c1.us from rfl, e]
     exact hpk _ (List.getElem_mem _)
    have co2 : z1L n Z { c1 with us := c1.us + 1 } (ZI a.length (rg pk c1.us) { zY w with us := c1.us + 1 }) := ⟨co1.st, co1.ou, rfl, co1.tr, co1.ov, co1.ovc, co1.ed, co1.edc, by show (w.re.set _ _).length = 64; rw [List.length_set]; exact co1.rl, z3J co1.rw_ hpw, by show 0 <= w.pc + 1; omega⟩
    have st2 := st1.trans (.one hpick)
    have hp2 : (ZI a.length (rg pk c1.us) { zY w with us := c1.us + 1 }).pc.toNat = p + nAs a + 1 := by show (w.pc + 1).toNat = _; omega
    have hr2 : rg (ZI a.length (rg pk c1.us) { zY w with us := c1.us + 1 }).re (a.length : Int) = rg pk c1.us := by
     show rg (w.re.set ((a.length : Int)).toNat _) _ = _
     rw [Int.toNat_natCast]
     exact z6S (by rw [co1.rl]; omega)
    have i2 := s2.head.2.head.1
    by_cases hf : (zp l1 N).f2 > 1
    ·rw [if_pos hf] at b2
     obtain ⟨x, rfl⟩ := len1 (l := a) (by omega)
     have hr0 : rg (ZI ([x].length : Int) (rg pk c1.us) { zY w with us := c1.us + 1 }).re 0 = f x := by
      rw [<- rg1 0 x rfl]
      refine rg_of (j := 0) ?_
      show (w.re.set 1 _)[0]? = w.re[0]?
      rw [List.getElem?_set_ne (by omega)]
     obtain ⟨v', h1, h2⟩ := z2j (pk := pk) (a := rg pk c1.us) (i := f x) (r := [x].length) hh co2 hs (by omega) b0 b1 hr2 (hw x (by simp)).1 (fun _ => hr0) (fun h => absurd hf h) (by rw [hp2]; exact i2) (by rw [hp2]; show Y6 ins L Z _ c1.td j; rw [etd]; exact hk) (by show w.co + 1 + 1 + (j : Int) <= 2 * c1.co; omega) true (dT hf).symm
     exact yJ.rel st2 h1 h2
    ·rw [if_neg hf] at b2
     obtain rfl := List.eq_nil_of_length_eq_zero (by omega : a.length = 0)
     obtain ⟨v', h1, h2⟩ := z2j (pk := pk) (a := rg pk c1.us) (i := 0) (r := 0) hh co2 hs (by omega) b0 b1 hr2 (Int.le_refl _) (fun h => absurd h hf) (fun _ => rfl) (by rw [hp2]; exact i2) (by rw [hp2]; show Y6 ins L Z _ c1.td j; rw [etd]; exact hk) (by show w.co + 1 + 1 + (j : Int) <= 2 * c1.co; omega) false (dF hf).symm
     exact yJ.rel st2 h1 h2
  ·obtain ⟨x, rfl⟩ := List.length_eq_one_iff.1 hla
   have h0 : rg w.re 0 = f x := rg1 0 x rfl
   have k0 : rd ([x].map f) 0 = f x := rfl
   have hgo : ∀ {v' : VC}, v' = { zY w with pc := w.pc + 1 } -> nAs [x] + (cT op N [x].length).length = nAs [x] + 1 -> Rel n ins L Z c1 v' j := fun {v'} e e2 => by
    subst e
    refine ⟨co1.tick (by omega), ?_, ?_⟩
    ·show Y6 ins L Z (w.pc + 1).toNat c1.td j
     rw [hwp, show (((p + nAs [x] : Nat) : Int) + 1).toNat = p + (nAs [x] + 1) by omega, etd, <- e2]
     exact hk
    ·show w.co + 1 + j <= 2 * c1.co
     omega
   rcases b with rfl | rfl
   ·unfold cT at s2 hF
    rw [if_neg (by decide), if_neg (by decide), if_neg (by decide), if_pos rfl] at s2 hF
    unfold yF
    rw [if_neg (by decide), if_neg (by decide), if_neg (by decide), if_neg (by decide), if_neg (by decide), if_pos rfl, k0]
    have h1 := z6L (wd := (n : Int)) (l1 := l1) (pk := pk) co1.ov co1.pc co1.rl (by rw [hwp, Int.toNat_natCast]; exact s2.head.1)
    rw [h0] at h1
    by_cases hz : f x = 0
    ·rw [if_pos hz]
     rw [if_pos hz] at h1
     have hF' : Far L (m.toNat + 1) (p + (nAs [x] + 1)) := hF
     exact z2v st1 co1 h1 (by decide) hm hL (by omega) (q := p + (nAs [x] + 1)) (by omega) hF' (by omega)
    ·rw [if_neg hz]
     rw [if_neg hz] at h1
     exact yJ.rel st1 h1 (hgo rfl rfl)
   ·unfold cT at s2 hF
    rw [if_neg (by decide), if_neg (by decide), if_neg (by decide), if_neg (by decide), if_pos rfl] at s2 hF
    unfold yF
    rw [if_neg (by decide), if_neg (by decide), if_neg (by decide), if_neg (by decide), if_neg (by decide), if_neg (by decide), if_pos rfl, k0]
    have h1 := z6M (wd := (n : Int)) (l1 := l1) (pk := pk) co1.ov co1.pc co1.rl (by rw [hwp, Int.toNat_natCast]; exact s2.head.1)
    rw [h0] at h1
    by_cases hz : f x = 0
    ·rw [if_pos hz]
     rw [if_pos hz] at h1
     have hF' : Far L (m.toNat + 1) (p + (nAs [x] + 1)) := hF
     exact z2v st1 co1 h1 (by decide) hm hL (by omega) (q := p + (nAs [x] + 1)) (by omega) hF' (by omega)
    ·rw [if_neg hz]
     rw [if_neg hz] at h1
     exact yJ.rel st1 h1 (hgo rfl rfl)
end
end Go.Proofs.YtnlekgadadifdaaGreat.Print
namespace Go.Proofs.YtnlekgadadifdaaGreat.Print
open Go.RowKit Go.Proofs.YtnlekgadadifdaaGreatW.PrintWords Go.Proofs.YtnlekgadadifdaaGreatW.PrintLast Go.Proofs.YtnlekgadadifdaaGreatW.PrintMore
attribute [local go_sem] zo zm zr zq zi zh zn zl
set_option linter.unusedVariables false
set_option linter.unusedSimpArgs false
section
variable {n : Nat} {l1 : List S76} {pk : List Int} {ins : List S93} {L Z : List Int}
def MSl (n : Nat) (l1 : List S76) (c : MC) : Prop :=
 0 <= c.fu /\ c.fu <= 4096 /\ z2i n l1 c.st /\ (∀ x ∈ c.td, IV n l1 x.f0 x.f1) /\ 0 <= c.us /\ c.us + 1 <= 4096 - c.fu /\ 0 <= c.co /\ c.co <= 401 * (4096 - c.fu) /\ (c.tr.length : Int) + 1 <= 402 * (4096 - c.fu) /\ (c.ou.length : Int) + 1 <= 4096 - c.fu /\ (c.td.length : Int) + 401 <= 401 * (4097 - c.fu)
theorem z5l {c : MC} (h : MSl n l1 c) {N i a p : Int} {arr : Bool} (ha : WW n a) {u : Int} (hu : u = c.us \/ u = c.us + 1) : z30 n l1 (z0f l1 N i a p arr { c with us := u }) := by
 obtain ⟨f0, f1, hs, htd, u0, u1, o0, o1, t1, t2, t3⟩ := h
 have hs' : z2i n l1 (c.st.set p.toNat a) := ⟨by rw [List.length_set]; exact hs.1, z3J hs.2 ha⟩
 unfold z0f
 split
 ·exact ⟨f0, f1, hs', htd, by show 0 <= u; omega, by show u <= 4096 - c.fu; omega, o0, o1, by show ((c.tr ++ [_]).length : Int) <= 402 * (4096 - c.fu); rw [List.length_append, List.length_singleton]; push_cast; omega, by show (c.ou.length : Int) <= 4096 - c.fu; omega, by show (c.td.length : Int) <= 401 * (4097 - c.fu); omega⟩
 ·exact ⟨f0, f1, hs', htd, by show 0 <= u; omega, by show u <= 4096 - c.fu; omega, o0, o1, by show (c.tr.length : Int) <= 402 * (4096 - c.fu); omega, by show (c.ou.length : Int) <= 4096 - c.fu; omega, by show (c.td.length : Int) <= 401 * (4097 - c.fu); omega⟩
theorem z0K {c c' : MC} (h : MSl n l1 c) (h1 : c'.fu = c.fu) (h2 : c'.st = c.st) (h3 : ∀ x ∈ c'.td, IV n l1 x.f0 x.f1) (h4 : c'.us = c.us) (h5 : c'.co = c.co) (h6 : c'.tr.length <= c.tr.length + 1) (h7 : c'.ou.length <= c.ou.length + 1) (h8 : c'.td.length <= c.td.length + 401) : z30 n l1 c' := by
 obtain ⟨f0, f1, hs, htd, u0, u1, o0, o1, t1, t2, t3⟩ := h
 unfold z30
 rw [h1, h2, h4, h5]
 exact ⟨f0, f1, hs, h3, u0, by omega, o0, o1, by omega, by omega, by omega⟩
theorem z69 (hh : z0b n l1) (hpk : ∀ a ∈ pk, WW n a) {c : MC} (h : z30 n l1 c) {x : ZQ} {rest : List ZQ} (ht : c.td = x :: rest) (hf : c.fu ≠ 0) :
  (yT cnS l1 pk ndX (evX n l1 pk ins) (vaX n l1 pk ins) c).ov = true \/ (z30 n l1 (yT cnS l1 pk ndX (evX n l1 pk ins) (vaX n l1 pk ins) c) /\ (yT cnS l1 pk ndX (evX n l1 pk ins) (vaX n l1 pk ins) c).fu = c.fu - 1) := by
 obtain ⟨f0, f1, hs, htd, u0, u1, o0, o1, t1, t2, t3⟩ := h
 have hx := htd x (by rw [ht]; exact List.mem_cons_self ..)
 obtain ⟨m, ⟨op, N, a, t, e⟩⟩ := x
 dsimp only at hx
 obtain ⟨ha, hn, hl, hop, hn1, hn2⟩ := z0k hx
 have h1 : ∀ y ∈ a, eOK (n : Int) l1 1 y = true /\ eN y <= 1000 := fun y hy => ⟨(ha y hy).1, by have := (ha y hy).2.1; omega⟩
 obtain ⟨e1, e2⟩ := z2P (pk := pk) (ins := ins) hh hs a h1
 have hw : ∀ y ∈ a, WW n (vaX n l1 pk ins c.st y) := fun y hy => (z0m (pk := pk) (ins := ins) hh hs (h1 y hy).1 (h1 y hy).2).1
 have hsn := hx.2.2.2.1
 rw [z0c] at hsn
 dsimp only at hsn
 have hlt := z1C t
 have hle := z1C e
 obtain ⟨vt, ve⟩ := hx.then_
 dsimp only at vt ve
 have htd' : ∀ y ∈ rest, IV n l1 y.f0 y.f1 := fun y hy => htd y (by rw [ht]; exact List.mem_cons_of_mem _ hy)
 rw [ht, List.length_cons] at t3
 unfold yT
 rw [ht]
 dsimp only
 rw [if_neg hf]
 have hM : MSl n l1 (yZ ndX (evX n l1 pk ins c.st) c a rest) := by
  unfold yZ
  refine ⟨by show 0 <= c.fu - 1; omega, by show c.fu - 1 <= 4096; omega, hs, htd', u0, by show c.us + 1 <= 4096 - (c.fu - 1); omega, by show 0 <= c.co + 1 + (a.map ndX).sum; omega, by show c.co + 1 + (a.map ndX).sum <= 401 * (4096 - (c.fu - 1)); omega, ?_, ?_, ?_⟩
  ·show ((c.tr ++ a.flatMap (evX n l1 pk ins c.st)).length : Int) + 1 <= 402 * (4096 - (c.fu - 1))
   rw [List.length_append]
   push_cast
   omega
  ·show (c.ou.length : Int) + 1 <= 4096 - (c.fu - 1)
   omega
  ·show (rest.length : Int) + 401 <= 401 * (4097 - (c.fu - 1))
   push_cast at t3
   omega
 have hfu : (yZ ndX (evX n l1 pk ins c.st) c a rest).fu = c.fu - 1 := rfl
 have etd : (yZ ndX (evX n l1 pk ins c.st) c a rest).td = rest := rfl
 generalize yZ ndX (evX n l1 pk ins c.st) c a rest = c1 at hM hfu etd ⊢
 rw [<- hfu]
 generalize hV : a.map (vaX n l1 pk ins c.st) = vs
 have hvs : ∀ i : Int, 0 <= i -> i < (vs.length : Int) -> WW n (rd vs i) := fun i i0 i1 => by
  subst hV
  exact z3L hw i0 i1
 have hvl : vs.length = a.length := by rw [<- hV, List.length_map]
 have htm : ∀ y ∈ c1.td, IV n l1 y.f0 y.f1 := by rw [etd]; exact htd'
 have hsfu : ∀ {N i a p : Int} {arr : Bool} {c : MC}, (z0f l1 N i a p arr c).fu = c.fu := fun {N i a p arr c} => by
  unfold z0f
  split <;> rfl
 unfold yF
 by_cases p0 : op = 0
 ·rw [if_pos p0]
  refine .inr ⟨?_, hsfu⟩
  have hla : 0 < a.length := by
   rcases hop with ⟨_, _, _, b⟩ | ⟨b, _⟩ | ⟨b, _⟩ | ⟨b, _⟩ | ⟨b, _⟩
   ·split at b <;> omega
   all_goals omega
  have := z5l hM (N := N) (i := if 1 < vs.length then rd vs 0 else 0) (p := atP l1 N (if 1 < vs.length then rd vs 0 else 0)) (arr := decide (1 < vs.length)) (hvs ((vs.length : Int) - 1) (by omega) (by omega)) (.inl rfl)
  exact this
 rw [if_neg p0]
 by_cases p1 : op = 1
 ·rw [if_pos p1]
  refine .inr ⟨z0K hM rfl rfl ?_ rfl rfl (by show (c1.tr ++ [_]).length <= _; simp) (Nat.le_succ _) ?_, rfl⟩
  ·intro y hy
   rcases List.mem_append.1 hy with hy | hy
   ·split at hy
    ·exact ve.items y hy
    ·exact vt.items y hy
   ·exact htd' y hy
  ·show ((if _ then _ else _) ++ rest).length <= _
   rw [List.length_append, etd]
   split
   ·rw [yh]; omega
   ·rw [yh]; omega
 rw [if_neg p1]
 by_cases p2 : op = 2
 ·rw [if_pos p2]
  split
  ·exact .inr ⟨z0K hM rfl rfl htm rfl rfl (by show (c1.tr ++ [_]).length <= _; simp) (Nat.le_succ _) (by show c1.td.length <= _; omega), rfl⟩
  ·refine .inr ⟨z0K hM rfl rfl ?_ rfl rfl (by show (c1.tr ++ [_]).length <= _; simp) (Nat.le_succ _) ?_, rfl⟩
   ·intro y hy
    rcases List.mem_append.1 hy with hy | hy
    ·rcases List.mem_append.1 hy with hy | hy
     ·exact vt.items y hy
     ·rw [List.mem_singleton.1 hy]
      exact hx
    ·exact htd' y hy
   ·show ((Zs cnS (m + 1) t ++ [_]) ++ rest).length <= _
    rw [List.length_append, List.length_append, yh, etd, List.length_singleton]
    omega
 rw [if_neg p2]
 by_cases p3 : op = 3
 ·rw [if_pos p3]
  exact .inr ⟨z0K hM rfl rfl htm rfl rfl (Nat.le_succ _) (by show (c1.ou ++ [_]).length <= _; simp) (by show c1.td.length <= _; omega), rfl⟩
 rw [if_neg p3]
 have hM' : z30 n l1 c1 := z0K hM rfl rfl htm rfl rfl (Nat.le_succ _) (Nat.le_succ _) (by omega)
 by_cases p4 : op = 4
 ·rw [if_pos p4]
  split
  ·exact .inl rfl
  ·rename_i hus
   refine .inr ⟨?_, hsfu⟩
   have hpw : WW n (rd pk c1.us) := by
    obtain ⟨hl', e⟩ := z3z pk c1.us hM.2.2.2.2.1 (by omega)
    rw [e]
    exact hpk _ (List.getElem_mem _)
   exact z5l hM hpw (.inr rfl)
 rw [if_neg p4]
 by_cases p5 : op = 5
 ·rw [if_pos p5]
  split
  ·exact .inl rfl
  ·exact .inr ⟨hM', rfl⟩
 rw [if_neg p5]
 by_cases p6 : op = 6
 ·rw [if_pos p6]
  split
  ·exact .inl rfl
  ·exact .inr ⟨hM', rfl⟩
 rw [if_neg p6]
 exact .inr ⟨hM', rfl⟩
theorem mAct_co {c : MC} {m op N : Int} {t e : List S81} {self : ZQ} {vs : List Int} {rest : List ZQ} : (yF cnS l1 pk c m op N t e self vs rest).co = c.co := by
 have hs : ∀ {N i a p : Int} {arr : Bool} {c : MC}, (z0f l1 N i a p arr c).co = c.co := fun {N i a p arr c} => by
  unfold z0f
  split <;> rfl
 unfold yF
 repeat' split
 all_goals first | rfl | exact hs
theorem z7a {c : MC} {m op N : Int} {t e : List S81} {self : ZQ} {vs : List Int} {rest : List ZQ} : (yF cnS l1 pk c m op N t e self vs rest).st.length = c.st.length := by
 have hs : ∀ {N i a p : Int} {arr : Bool} {c : MC}, (z0f l1 N i a p arr c).st.length = c.st.length := fun {N i a p arr c} => by
  unfold z0f
  split <;> exact List.length_set
 unfold yF
 repeat' split
 all_goals first | rfl | exact hs
theorem z68 {c : MC} {nd : S62 -> Int} {ev : List Int -> S62 -> List Z9} {va : List Int -> S62 -> Int} : (yT cnS l1 pk nd ev va c).st.length = c.st.length := by
 unfold yT
 split
 ·rfl
 ·split
  ·rfl
  ·rw [z7a]
   rfl
theorem z78 (hh : z0b n l1) {c : MC} (h : z30 n l1 c) {x : ZQ} {rest : List ZQ} (ht : c.td = x :: rest) (hf : c.fu ≠ 0) : (yT cnS l1 pk ndX (evX n l1 pk ins) (vaX n l1 pk ins) c).co <= 401 * 4096 := by
 obtain ⟨f0, f1, hs, htd, u0, u1, o0, o1, t1, t2, t3⟩ := h
 have hx := htd x (by rw [ht]; exact List.mem_cons_self ..)
 obtain ⟨m, ⟨op, N, a, t, e⟩⟩ := x
 dsimp only at hx
 obtain ⟨ha, hn, _⟩ := z0k hx
 obtain ⟨_, e2⟩ := z2P (pk := pk) (ins := ins) hh hs a (fun y hy => ⟨(ha y hy).1, by have := (ha y hy).2.1; omega⟩)
 unfold yT
 rw [ht]
 dsimp only
 rw [if_neg hf, mAct_co]
 show c.co + 1 + (a.map ndX).sum <= _
 omega
theorem run_sim (hh : z0b n l1) (hpk : ∀ a ∈ pk, WW n a) : ∀ (f : Nat) (c : MC) (v : VC) (j : Nat), c.fu = f -> z30 n l1 c -> Rel n ins L Z c v j ->
  ∃ c', Yz cnS l1 pk ndX (evX n l1 pk ins) (vaX n l1 pk ins) (f + 2) c = some c' /\ z6b cnS (n : Int) l1 pk ndX (evX n l1 pk ins) (vaX n l1 pk ins) (f + 2) c /\ c'.co <= 401 * 4096 /\ c'.st.length = c.st.length /\ (c'.ed = 3 \/ ∃ N v', yN (n : Int) l1 pk ins N v v' /\ Fin L Z c' v') := by
 intro f
 have td_ne : ∀ {c : MC}, c.ov = false -> ∀ x rest, c.td = x :: rest -> yv c = false := fun ho x rest he => by
  unfold yv
  rw [ho, he]
  rfl
 have hex : ∀ (c c1 : MC) (v : VC) (j : Nat), z30 n l1 c -> Rel n ins L Z c v j -> c.fu ≠ 0 -> ∀ x rest, c.td = x :: rest -> yJ n l1 pk ins L Z v (yT cnS l1 pk ndX (evX n l1 pk ins) (vaX n l1 pk ins) c) := fun c c1 v j hi hr hf x rest he => by
  obtain ⟨hc, hk, hco⟩ := hr
  obtain ⟨N, q, j', tl, a1, a2, a3⟩ := hk.run (wd := (n : Int)) (l1 := l1) (pk := pk) v (by have := hc.pc; omega) hc.ov
  rcases a3 with ⟨e, _⟩ | ⟨m, s, rest', e, ha, hk'⟩
  ·rw [he] at e
   exact absurd e (by simp)
  ·rw [he] at e
   obtain ⟨rfl, rfl⟩ := List.cons.inj e
   obtain ⟨op, b, a, t, u⟩ := s
   have hx := hi.2.2.2.1 ⟨m, ⟨op, b, a, t, u⟩⟩ (by rw [he]; exact List.mem_cons_self ..)
   have := act_sim (pk := pk) (c := c) hh hpk hi.2.2.1 hi.2.2.2.2.1 hx (hc.hop q N tl) rfl ha hk' (by show v.co + (N : Int) + j' <= _; omega)
   unfold yT
   rw [he]
   dsimp only
   rw [if_neg hf]
   rcases this with ⟨o, N2, v2, j2, st2, r2⟩ | ⟨o, N2, v2, st2, r2⟩
   ·exact .inl ⟨o, _, v2, j2, a1.trans st2, r2⟩
   ·exact .inr ⟨o, _, v2, a1.trans st2, r2⟩
 induction f with
 | zero =>
  intro c v j hf hi hr
  have hco : c.co <= 401 * 4096 := by have := hi.2.2.2.2.2.2.2.1; omega
  rcases htd : c.td with _ | ⟨x, rest⟩
  ·have he : yv c = true := by unfold yv; rw [htd]; simp
   obtain ⟨N, v', h1, h2⟩ := hr.done (pk := pk) (l1 := l1) htd
   exact ⟨c, by simp only [Yz, he, if_true], by intro h; rw [he] at h; exact absurd h (by simp), hco, rfl, .inr ⟨N, v', h1, h2⟩⟩
  ·have he := td_ne hr.1.ovc x rest htd
   have hs : yT cnS l1 pk ndX (evX n l1 pk ins) (vaX n l1 pk ins) c = YL 3 x.f0 c := by
    unfold yT
    rw [htd]
    dsimp only
    rw [if_pos (by omega)]
   have he2 : yv (YL 3 x.f0 c) = true := rfl
   refine ⟨YL 3 x.f0 c, ?_, ?_, hco, rfl, .inl rfl⟩
   ·simp only [Yz, he, hs, he2, if_true, Bool.false_eq_true, if_false]
   ·intro _
    refine ⟨tfit hh hpk hi, ?_⟩
    intro h
    rw [hs, he2] at h
    exact absurd h (by simp)
 | succ f ih =>
  intro c v j hf hi hr
  have hco : c.co <= 401 * 4096 := by have := hi.2.2.2.2.2.2.2.1; have := hi.1; omega
  rcases htd : c.td with _ | ⟨x, rest⟩
  ·have he : yv c = true := by unfold yv; rw [htd]; simp
   obtain ⟨N, v', h1, h2⟩ := hr.done (pk := pk) (l1 := l1) htd
   refine ⟨c, ?_, ?_, hco, rfl, .inr ⟨N, v', h1, h2⟩⟩
   ·rw [Yz, if_pos he]
   ·intro h
    rw [he] at h
    exact absurd h (by simp)
  ·have he := td_ne hr.1.ovc x rest htd
   have hf0 : c.fu ≠ 0 := by omega
   have hst := hex c c v j hi hr hf0 x rest htd
   have hin := z69 (ins := ins) hh hpk hi htd hf0
   have hcs := z78 (pk := pk) (ins := ins) hh hi htd hf0
   have hln := z68 (l1 := l1) (pk := pk) (nd := ndX) (ev := evX n l1 pk ins) (va := vaX n l1 pk ins) (c := c)
   generalize hc1 : yT cnS l1 pk ndX (evX n l1 pk ins) (vaX n l1 pk ins) c = c1 at hst hin hcs hln
   rcases hst with ⟨o, N, v1, j1, s1, r1⟩ | ⟨o, N, v1, s1, r1⟩
   ·rcases hin with hin | ⟨hin, hfu⟩
    ·rw [o] at hin
     exact absurd hin (by simp)
    obtain ⟨c', h1, h2, h3, h5, h4⟩ := ih c1 v1 j1 (by omega) hin r1
    refine ⟨c', ?_, ?_, h3, h5.trans hln, ?_⟩
    ·rw [Yz, if_neg (by rw [he]; simp), hc1]
     exact h1
    ·intro _
     refine ⟨tfit hh hpk hi, ?_⟩
     rw [hc1]
     exact h2
    ·rcases h4 with h4 | ⟨N', v', s', f'⟩
     ·exact .inl h4
     ·exact .inr ⟨_, v', s1.trans s', f'⟩
   ·have he1 : yv c1 = true := by unfold yv; rw [o]; rfl
    refine ⟨c1, ?_, ?_, hcs, hln, .inr ⟨N, v1, s1, r1⟩⟩
    ·rw [Yz, if_neg (by rw [he]; simp), hc1, Yz, if_pos he1]
    ·intro _
     refine ⟨tfit hh hpk hi, ?_⟩
     rw [hc1]
     intro h
     rw [he1] at h
     exact absurd h (by simp)
end
end Go.Proofs.YtnlekgadadifdaaGreat.Print
namespace Go.Proofs.YtnlekgadadifdaaGreat.Print
open Go.RowKit Go.Proofs.YtnlekgadadifdaaGreatW.PrintWords Go.Proofs.YtnlekgadadifdaaGreatW.PrintLast Go.Proofs.YtnlekgadadifdaaGreatW.PrintMore
attribute [local go_sem] zo zm zr zq zi zh zn zl
set_option linter.unusedVariables false
set_option linter.unusedSimpArgs false
section
variable {n : Nat} {l1 : List S76} {pk : List Int} {ins : List S93} {L Z : List Int}
theorem z4T {i : S93} {pc : Int} (h : ins[pc.toNat]? = some i) : ZY ins pc = i := by
 show ins.getD pc.toNat _ = i
 rw [List.getD_eq_getElem?_getD, h]
 rfl
theorem z4O {wd : Int} {N : Nat} {c c' : VC} (h : yN wd l1 pk ins N c c') : Bal c -> ins.length <= 100000 -> c.co + N <= 4000000 -> c'.ov = true -> ∃ k0, ∀ k, k0 <= k -> z0z k wd l1 pk ins (N + 1) c = some c' /\ z4K k wd l1 pk ins (N + 1) c := by
 induction h with
 | refl c =>
  intro _ _ _ ho
  refine ⟨0, fun k _ => ⟨by rw [z0z, if_pos ho], ?_⟩⟩
  intro h
  rw [ho] at h
  exact absurd h (by simp)
 | @step N c c1 c2 h1 h2 ih =>
  intro hb hl hco ho
  obtain ⟨b1, e1⟩ := hb.stp h1
  obtain ⟨k1, hk1⟩ := ih b1 hl (by push_cast at hco; omega) ho
  obtain ⟨o1, p0, i, hi, ⟨k2, hk2⟩, hf⟩ := h1
  obtain ⟨g1, g2, g3, g4, g5, g6, g7⟩ := hb
  have hil := (List.getElem?_eq_some_iff.1 hi).1
  push_cast at hco
  obtain ⟨k3, hk3⟩ := hf ⟨p0, by show c.pc < _; omega, by show c.tr.length < _; omega, by show c.ou.length < _; omega, g6, by show c.us < _; omega⟩
  have hr := z4T hi
  refine ⟨k1 + k2 + k3, fun k hk => ?_⟩
  obtain ⟨a1, a2⟩ := hk1 k (by omega)
  have a3 := hk2 k (by omega)
  have a4 := hk3 k (by omega)
  dsimp only at a3
  constructor
  ·rw [z0z, if_neg (by rw [o1]; simp), if_neg (by omega), hr, a3, Option.bind_some]
   exact a1
  ·intro _ _
   rw [hr]
   refine ⟨⟨p0, by omega, by omega, by omega, g1, by omega, by omega, a4⟩, fun c' e => ?_⟩
   rw [a3] at e
   obtain rfl := sj e
   exact a2
theorem z6O (a b : List S93) : Seg (a ++ b) 0 a /\ Seg (a ++ b) a.length b := by
 have h : Seg (a ++ b) 0 (a ++ b) := fun i x hx => by rw [Nat.zero_add]; exact hx
 refine ⟨h.left, ?_⟩
 have := h.right
 rw [Nat.zero_add] at this
 exact this
theorem z6h {body : List S81} (hv : IVs n l1 0 body) : Y6 (zQ body) (ZA body 0) (zSs body 0) 0 (Zs cnS 0 body) 0 := by
 obtain ⟨s1, s2⟩ := z6O (cSs body 0) [⟨11, 0, 0, 0, 0⟩]
 have := Yg (n := n) (l1 := l1) (ins := zQ body) (L := ZA body 0) (Z := zSs body 0) body 0 0 [] 0 hv s1 (fun i x hx => by rw [show (0 : Int).toNat + i = i by simp]; exact hx) (fun i x hx => by rw [show (0 : Int).toNat + i = i by simp]; exact hx) (fun i x hi hx => by
  have := (List.getElem?_eq_some_iff.1 hx).1
  rw [Yn] at this
  rw [show (0 : Int).toNat = 0 from rfl] at hi
  omega) (.stop (by
  have := s2.head.1
  rw [ZX] at this
  rw [Nat.zero_add]
  exact this))
 rwa [List.append_nil] at this
theorem cT_le (op b : Int) (m : Nat) : (cT op b m).length <= 2 := by
 unfold cT
 repeat' split
 all_goals simp
theorem hdE_le (a : List S62) : nE (hdE a) <= eNs a + 1 := by
 cases a with
 | nil => simp [hdE, nE, nAs]
 | cons x r =>
  simp only [hdE, List.headD_cons, eNs]
  rw [z77.1]
  omega
theorem z75 : (∀ x : S81, nS x <= 4 * sN x /\ kS x <= sN x) /\ (∀ l : List S81, nSs l <= 4 * sNs l /\ kSs l <= sNs l) := by
 refine z1f (fun a b l t e h1 h2 => ?_) ?_ (fun x r h1 h2 => ?_)
 ·have hh := hdE_le l
  have hc := cT_le a b l.length
  rw [nS, kS, z0c, z77.2]
  simp only
  constructor
  ·split
   ·split
    ·split <;> omega
    ·omega
   ·omega
  ·split <;> omega
 ·rw [nSs, kSs, z2k]
  omega
 ·rw [nSs, kSs, yz]
  omega
theorem Ye (body : List S81) : (zQ body).length = nSs body + 1 := by
 unfold zQ
 rw [List.length_append, ZX]
 rfl
theorem both (hh : z0b n l1) (hpk : ∀ a ∈ pk, WW n a) {st : List Int} (hs : z2i n l1 st) {body : List S81} (hv : IVs n l1 0 body) {fuel : Int} (f0 : 0 <= fuel) (f1 : fuel <= 4096) :
  ∃ c', Yz cnS l1 pk ndX (evX n l1 pk (zQ body)) (vaX n l1 pk (zQ body)) (fuel.toNat + 2) (Yx cnS fuel st body) = some c' /\ z6b cnS (n : Int) l1 pk ndX (evX n l1 pk (zQ body)) (vaX n l1 pk (zQ body)) (fuel.toNat + 2) (Yx cnS fuel st body) /\ c'.st.length = st.length /\
   (c'.ed = 3 \/ ∃ v' N, Fin (ZA body 0) (zSs body 0) c' v' /\ Bal v' /\ c'.co <= 401 * 4096 /\ ∃ k0, ∀ k, k0 <= k -> z0z k (n : Int) l1 pk (zQ body) N (zD 4194304 st) = some v' /\ z4K k (n : Int) l1 pk (zQ body) N (zD 4194304 st)) := by
 have hb := z1C body
 have hnb := hv.2.2.2.1
 have hi : z30 n l1 (Yx cnS fuel st body) := ⟨f0, f1, hs, hv.items, Int.le_refl _, by show (0 : Int) <= 4096 - fuel; omega, Int.le_refl _, by show (0 : Int) <= 401 * (4096 - fuel); omega, by show (0 : Int) <= 402 * (4096 - fuel); omega, by show (0 : Int) <= 4096 - fuel; omega, by
  show ((Zs cnS 0 body).length : Int) <= 401 * (4097 - fuel)
  rw [yh]
  omega⟩
 have hp := YW n
 have hr : Rel n (zQ body) (ZA body 0) (zSs body 0) (Yx cnS fuel st body) (zD 4194304 st) 0 := ⟨⟨rfl, rfl, rfl, ⟨rfl, fun e he => absurd he (by simp [Yx])⟩, rfl, rfl, rfl, rfl, by simp [zD], fun a ha => by
  rw [(List.mem_replicate.1 ha).2]
  exact ⟨Int.le_refl _, by omega⟩, Int.le_refl _⟩, z6h hv, Int.le_refl _⟩
 obtain ⟨c', h1, h2, h3, hle, h4⟩ := run_sim hh hpk fuel.toNat _ _ 0 (by show fuel = _; omega) hi hr
 refine ⟨c', h1, h2, hle, ?_⟩
 rcases h4 with h4 | ⟨N, v', h4, h5⟩
 ·exact .inl h4
 ·have hB : Bal (zD 4194304 st) := ⟨Int.le_refl _, rfl, rfl, Int.le_refl _, Int.le_refl _, Int.le_refl _, Int.le_refl _⟩
  have hN := (hB.steps h4).2
  have hco := h5.co
  have h0 : (zD 4194304 st).co = 0 := rfl
  obtain ⟨k0, hk⟩ := z4O h4 hB (by rw [Ye]; have := (z75.2 body).1; omega) (by omega) h5.ov
  exact .inr ⟨v', N + 1, h5, (hB.steps h4).1, h3, k0, hk⟩
end
end Go.Proofs.YtnlekgadadifdaaGreat.Print
namespace Go.Proofs.YtnlekgadadifdaaGreat.Print
open Go.RowKit Go.Proofs.YtnlekgadadifdaaGreatW.PrintWords Go.Proofs.YtnlekgadadifdaaGreatW.PrintLast Go.Proofs.YtnlekgadadifdaaGreatW.PrintMore
attribute [local go_sem] zo zm zr zq zi zh zn zl
set_option linter.unusedVariables false
set_option linter.unusedSimpArgs false
def RP (n : Nat) (l1 : List S76) (ins : List S93) (i : S93) : Prop := ∃ k0, ∀ k, k0 <= k -> z0r k (n : Int) l1 ins i
section
variable {n : Nat} {l1 : List S76} {ins : List S93}
theorem z4A {N s : Int} (h0 : 0 <= N) (h1 : N < (l1.length : Int)) (hs : if (zp l1 N).f2 > 1 then Ya s else s = 0) : zc (fun k => Yl.f k (n : Int) l1 ins N s) true := by
 unfold Yl.f
 refine zc.ifF (by omega) (zc.succ ?_)
 simp only [Yl.j0]
 rw [decide_eq_false (by omega)]
 refine zc.ifF (by simp) (zc.ifT h0 (zc.ifT h1 ?_))
 by_cases h : (zp l1 N).f2 > 1
 ·rw [if_pos h] at hs
  refine zc.ifT h ?_
  rw [ZG hs]
  exact zc.pure _
 ·rw [if_neg h] at hs
  refine zc.ifF h ?_
  rw [hs]
  exact zc.pure _
theorem RP.of {i : S93} (h : ∀ k, z0r k (n : Int) l1 ins i) : RP n l1 ins i := ⟨0, fun k _ => h k⟩
theorem z7r (h1 : 1 <= n) (h8 : n <= 8) : (∀ x : S62, eOK (n : Int) l1 1 x = true -> ∀ r : Nat, r + 3 * eD x <= 60 -> ∀ i ∈ cE x r, RP n l1 ins i) /\ (∀ l : List S62, z0G (n : Int) l1 1 l = true -> ∀ r : Nat, r + l.length + 3 * eDs l <= 60 -> ∀ i ∈ cAs l r, RP n l1 ins i) := by
 refine z0Z (fun a b c l ih => ?_) (fun _ r _ i hi => by simp [cAs] at hi) (fun x r ih1 ih2 => ?_)
 ·intro ho r hd i hi
  simp only [eOK, Bool.and_eq_true] at ho
  obtain ⟨hno, ho⟩ := ho
  obtain ⟨har, hok⟩ := z2F hno
  simp only [eD] at hd
  have hlen : l.length <= 3 := by
   unfold YC at har
   repeat' split at har
   all_goals omega
  rw [cE, List.mem_append, List.mem_singleton] at hi
  rcases hi with hi | rfl
  ·exact ih ho r (by omega) i hi
  have r0 : Ya (r : Int) := ⟨by omega, by omega⟩
  have r1 : Ya ((r : Int) + 1) := ⟨by omega, by omega⟩
  have r2 : Ya ((r : Int) + 2) := ⟨by omega, by omega⟩
  unfold YC at har
  unfold cI
  by_cases a0 : a = 0
  ·subst a0
   obtain ⟨b0, b1⟩ := z1A h8 hok
   obtain ⟨k0, hk⟩ := z1p (n : Int) b (by omega) (by omega)
   refine ⟨k0, fun k h => .inl ⟨rfl, r0, ?_, rfl, rfl⟩⟩
   have := hk k h
   rw [decide_eq_true ⟨b0, by rw [Int.toNat_natCast]; exact b1⟩] at this
   exact this
  rw [if_neg a0] at har ⊢
  by_cases a1 : a = 1
  ·subst a1
   rw [if_pos rfl] at har ⊢
   by_cases hb : 0 <= b /\ b < (l1.length : Int)
   ·rw [if_pos hb] at har
    have hat : zc (fun k => Yl.f k (n : Int) l1 ins b (if 0 < l.length then (r : Int) else 0)) true := by
     refine z4A hb.1 hb.2 ?_
     by_cases hf : (zp l1 b).f2 > 1
     ·rw [if_pos hf] at har ⊢
      rw [if_pos (by omega)]
      exact r0
     ·rw [if_neg hf] at har ⊢
      rw [if_neg (by omega)]
    obtain ⟨k0, hk⟩ := hat
    exact ⟨k0, fun k h => .inr (.inr (.inr (.inr (.inl ⟨rfl, r0, hk k h, rfl⟩))))⟩
   ·rw [if_neg hb] at har
    omega
  rw [if_neg a1] at har ⊢
  by_cases a12 : a = 12
  ·rw [if_pos a12]
   exact RP.of fun k => .inr (.inr (.inl ⟨rfl, r0, r0, rfl, rfl⟩))
  rw [if_neg a12]
  by_cases a15 : a = 15
  ·rw [if_pos a15]
   exact RP.of fun k => .inr (.inr (.inr (.inl ⟨rfl, r0, r0, r1, r2⟩)))
  rw [if_neg a15]
  by_cases a2 : (2 <= a /\ a <= 11) \/ a = 13 \/ a = 14
  ·refine RP.of fun k => .inr (.inl ⟨rfl, r0, r0, ?_, r1⟩)
   show Yu.f a = some true
   unfold Yu.f
   by_cases g2 : a >= 2
   ·rw [if_pos g2]
    by_cases g3 : a <= 11
    ·rw [if_pos g3]
    ·rw [if_neg g3]
     by_cases g4 : a = 13
     ·rw [if_pos g4]
     ·rw [if_neg g4]
      have : a = 14 := by omega
      rw [this]
      rfl
   ·omega
  ·rw [if_neg a2, if_neg a12, if_neg a15] at har
   omega
 ·intro ho q hd i hi
  simp only [z0G, Bool.and_eq_true] at ho
  simp only [eDs, List.length_cons] at hd
  rw [cAs, List.mem_append] at hi
  rcases hi with hi | hi
  ·exact ih1 ho.1 q (by omega) i hi
  ·exact ih2 ho.2 (q + 1) (by omega) i (by push_cast; exact hi)
theorem eOKs_of {l : List S62} (h : ∀ y ∈ l, eOK (n : Int) l1 1 y = true) : z0G (n : Int) l1 1 l = true := by
 induction l with
 | nil => rfl
 | cons x r ih =>
  simp only [z0G, Bool.and_eq_true]
  exact ⟨h x (List.mem_cons_self ..), ih (fun y hy => h y (List.mem_cons_of_mem _ hy))⟩
theorem z7q (h1 : 1 <= n) (h8 : n <= 8) : (∀ x : S81, ∀ (m : Int) (p : Nat), IV n l1 m x -> p + nS x < ins.length -> ∀ i ∈ cS x p, RP n l1 ins i) /\ (∀ l : List S81, ∀ (m : Int) (p : Nat), IVs n l1 m l -> p + nSs l < ins.length -> ∀ i ∈ cSs l p, RP n l1 ins i) := by
 refine z1f (fun op b a t e h1' h2' => ?_) (fun m p _ _ i hi => by simp [cSs] at hi) (fun x r ih1 ih2 => ?_)
 ·intro m p hv hp i hi
  obtain ⟨ha, _, hl, hop, hn1, hn2⟩ := z0k hv
  obtain ⟨vt, ve⟩ := hv.then_
  dsimp only at vt ve
  have hD : eDs a <= 16 := z7m (fun y hy => (ha y hy).2.2.1)
  have hA : ∀ i ∈ cAs a ((0 : Nat) : Int), RP n l1 ins i := (z7r h1 h8).2 a (eOKs_of fun y hy => (ha y hy).1) 0 (by omega)
  have r0 : Ya 0 := ⟨by decide, by decide⟩
  by_cases hb : op = 1 \/ op = 2
  ·have hla : a.length = 1 := by
    rcases hop with ⟨b, _⟩ | ⟨_, b⟩ | ⟨b, _⟩ | ⟨b, _⟩ | ⟨b, _⟩
    all_goals omega
   obtain ⟨x, rfl⟩ := List.length_eq_one_iff.1 hla
   have hx : ∀ i ∈ cE x 0, RP n l1 ins i := fun i hi => hA i (by simp only [cAs, List.append_nil]; exact hi)
   have hns : nS ⟨op, b, [x], t, e⟩ = nE x + 1 + nSs t + (if e.length = 0 then (if op = 2 then 1 else 0) else 1 + nSs e) := by simp only [nS, if_pos hb, hdE, List.headD_cons]
   rw [hns] at hp
   simp only [cS, if_pos hb, hdE, List.headD_cons] at hi
   have jz : ∀ q : Nat, q < ins.length -> RP n l1 ins ⟨6, 0, (q : Int), 0, 0⟩ := fun q hq => RP.of fun k => .inr (.inr (.inr (.inr (.inr (.inr (.inr (.inl ⟨rfl, r0, by show (0 : Int) <= q; omega, by show (q : Int) < _; omega, rfl, rfl⟩)))))))
   have jj : ∀ q : Nat, q < ins.length -> RP n l1 ins ⟨5, (q : Int), 0, 0, 0⟩ := fun q hq => RP.of fun k => .inr (.inr (.inr (.inr (.inr (.inr (.inl ⟨rfl, by show (0 : Int) <= q; omega, by show (q : Int) < _; omega, rfl, rfl, rfl⟩))))))
   by_cases h0 : e.length = 0
   ·rw [if_pos h0] at hp
    rw [decide_eq_false (by omega : ¬ 0 < e.length)] at hi
    unfold brC at hi
    rw [if_neg (by simp), YQ, ZX] at hi
    have hb1 : (if op = 2 then [(⟨5, (p : Int), 0, 0, 0⟩ : S93)] else []).length = if op = 2 then 1 else 0 := by split <;> rfl
    rw [hb1] at hi
    rcases List.mem_append.1 hi with hi | hi
    ·rcases List.mem_append.1 hi with hi | hi
     ·exact hx i hi
     ·rcases List.mem_cons.1 hi with rfl | hi
      ·exact jz _ (by omega)
      ·exact h1' _ _ vt (by omega) i hi
    ·split at hi
     ·rw [List.mem_singleton.1 hi]
      exact jj p (by omega)
     ·simp at hi
   ·rw [if_neg h0] at hp
    rw [decide_eq_true (by omega : 0 < e.length)] at hi
    unfold brC at hi
    rw [if_pos rfl, YQ, ZX, ZX] at hi
    rcases List.mem_append.1 hi with hi | hi
    ·rcases List.mem_append.1 hi with hi | hi
     ·exact hx i hi
     ·rcases List.mem_cons.1 hi with rfl | hi
      ·exact jz _ (by omega)
      ·exact h1' _ _ vt (by omega) i hi
    ·rcases List.mem_cons.1 hi with rfl | hi
     ·exact jj _ (by omega)
     ·exact h2' _ _ ve (by omega) i hi
  ·simp only [cS, if_neg hb] at hi
   rcases List.mem_append.1 hi with hi | hi
   ·exact hA i hi
   unfold cT at hi
   have hst : ∀ s : Int, Ya s -> 0 <= b -> b < (l1.length : Int) -> RP n l1 ins ⟨4, b, 0, s, 0⟩ := fun s hs b0 b1 => by
    obtain ⟨k0, hk⟩ := z4A (n := n) (ins := ins) (s := 0) b0 b1 (by split; exact r0; rfl)
    exact ⟨k0, fun k h => .inr (.inr (.inr (.inr (.inr (.inl ⟨rfl, hk k h, hs, rfl⟩)))))⟩
   rcases hop with ⟨rfl, b0, b1, b2⟩ | ⟨b, _⟩ | ⟨rfl, hla, b0, b1⟩ | ⟨rfl, b0, b1, b2⟩ | ⟨b, hla⟩
   ·rw [if_pos rfl] at hi
    rw [List.mem_singleton.1 hi]
    have hla : 1 <= a.length := by split at b2 <;> omega
    exact hst _ ⟨by omega, by omega⟩ b0 b1
   ·exact absurd b hb
   ·rw [if_neg (by decide), if_pos rfl] at hi
    rw [List.mem_singleton.1 hi]
    exact RP.of fun k => .inr (.inr (.inr (.inr (.inr (.inr (.inr (.inr (.inl ⟨rfl, b0, b1, r0, rfl, rfl⟩))))))))
   ·rw [if_neg (by decide), if_neg (by decide), if_pos rfl] at hi
    have hr : Ya (a.length : Int) := ⟨by omega, by omega⟩
    rcases List.mem_cons.1 hi with rfl | hi
    ·exact RP.of fun k => .inr (.inr (.inr (.inr (.inr (.inr (.inr (.inr (.inr (.inl ⟨.inl rfl, hr, rfl, rfl, rfl⟩)))))))))
    ·rw [List.mem_singleton.1 hi]
     exact hst _ hr b0 b1
   ·rcases b with rfl | rfl
    ·rw [if_neg (by decide), if_neg (by decide), if_neg (by decide), if_pos rfl] at hi
     rw [List.mem_singleton.1 hi]
     exact RP.of fun k => .inr (.inr (.inr (.inr (.inr (.inr (.inr (.inr (.inr (.inl ⟨.inr (.inl rfl), r0, rfl, rfl, rfl⟩)))))))))
    ·rw [if_neg (by decide), if_neg (by decide), if_neg (by decide), if_neg (by decide), if_pos rfl] at hi
     rw [List.mem_singleton.1 hi]
     exact RP.of fun k => .inr (.inr (.inr (.inr (.inr (.inr (.inr (.inr (.inr (.inl ⟨.inr (.inr rfl), r0, rfl, rfl, rfl⟩)))))))))
 ·intro m p hv hp i hi
  obtain ⟨v1, v2⟩ := hv.cons
  simp only [nSs] at hp
  rw [cSs, List.mem_append] at hi
  rcases hi with hi | hi
  ·exact ih1 m p v1 (by omega) i hi
  ·exact ih2 _ (p + nS x) v2 (by omega) i hi
theorem RP_all {l : List S93} (h : ∀ i ∈ l, RP n l1 ins i) : ∃ k0, ∀ k, k0 <= k -> ∀ i ∈ l, z0r k (n : Int) l1 ins i := by
 induction l with
 | nil => exact ⟨0, fun k _ i hi => by simp at hi⟩
 | cons x r ih =>
  obtain ⟨k1, h1⟩ := h x (List.mem_cons_self ..)
  obtain ⟨k2, h2⟩ := ih (fun y hy => h y (List.mem_cons_of_mem _ hy))
  refine ⟨k1 + k2, fun k hk i hi => ?_⟩
  rcases List.mem_cons.1 hi with rfl | hi
  ·exact h1 k (by omega)
  ·exact h2 k (by omega) i hi
theorem code_ok (h1 : 1 <= n) (h8 : n <= 8) {body : List S81} (hv : IVs n l1 0 body) : ∃ k0, ∀ k, k0 <= k -> ∀ j : Nat, j < (zQ body).length -> z0r k (n : Int) l1 (zQ body) (ZY (zQ body) j) := by
 have hl := Ye body
 obtain ⟨k0, hk⟩ := RP_all (n := n) (l1 := l1) (ins := zQ body) (l := zQ body) (fun i hi => by
  unfold zQ at hi
  rcases List.mem_append.1 hi with hi | hi
  ·exact (z7q h1 h8).2 body 0 0 hv (by omega) i hi
  ·rw [List.mem_singleton.1 hi]
   exact RP.of fun k => .inr (.inr (.inr (.inr (.inr (.inr (.inr (.inr (.inr (.inr rfl))))))))))
 refine ⟨k0, fun k h j hj => hk k h _ ?_⟩
 have e := z4T (ins := zQ body) (pc := (j : Int)) (i := (zQ body)[j]) (by rw [Int.toNat_natCast]; exact List.getElem?_eq_getElem hj)
 rw [e]
 exact List.getElem_mem _
theorem z6k (body : List S81) : (ZY (zQ body) (((zQ body).length : Int) - 1)).f0 = 11 := by
 have e := z4T (ins := zQ body) (pc := ((zQ body).length : Int) - 1) (i := ⟨11, 0, 0, 0, 0⟩) (by
  rw [Ye, show (((nSs body + 1 : Nat) : Int) - 1).toNat = nSs body by omega]
  unfold zQ
  rw [List.getElem?_append_right (Nat.le_of_eq (ZX body 0)), ZX, Nat.sub_self]
  rfl)
 rw [e]
end
end Go.Proofs.YtnlekgadadifdaaGreat.Print
namespace Go.Proofs.YtnlekgadadifdaaGreat.Print
open Go.RowKit Go.Proofs.YtnlekgadadifdaaGreatW.PrintWords Go.Proofs.YtnlekgadadifdaaGreatW.PrintLast Go.Proofs.YtnlekgadadifdaaGreatW.PrintMore
attribute [local go_sem] zo zm zr zq zi zh zn zl 
set_option linter.unusedVariables false
set_option linter.unusedSimpArgs false
def yL.f (k : Nat) (a0_0 : Int) (l0_1 : List (S76)) (l0_2 : List (S81)) (l1_0 : List Int) (l1_1 : List Int) : Option (Bool) := (yA.f k a0_0 l0_1 l1_0).bind fun t892 => (if t892 = true then (if (l1_1.length : Int) <= 16 then ((Zz.f k a0_0 l1_1).bind fun t893 => (some t893)) else (some false)) else (some false))
theorem yL.calls (k : Nat) (a0_0 : Int) (A0_1 : Option Addr) (c0_1 : Nat) (l0_1 : List (S76)) (A0_2 : Option Addr) (c0_2 : Nat) (l0_2 : List (S81)) (A1_0 : Option Addr) (c1_0 : Nat) (l1_0 : List Int) (A1_1 : Option Addr) (c1_1 : Nat) (l1_1 : List Int) (r : Bool) (w : World) (hr0_1 : Kd.C k76 w A0_1 l0_1.length l0_1) (hc0_1 : l0_1.length <= c0_1) (hr0_2 : Kd.C k81 w A0_2 l0_2.length l0_2) (hc0_2 : l0_2.length <= c0_2) (hr1_0 : Kd.C (Kd.int .i64) w A1_0 l1_0.length l1_0) (hc1_0 : l1_0.length <= c1_0) (hr1_1 : Kd.C (Kd.int .i64) w A1_1 l1_1.length l1_1) (hc1_1 : l1_1.length <= c1_1) (h : yL.f k a0_0 l0_1 l0_2 l1_0 l1_1 = some r) :
  Calls Tryz.prog 39 #[.agg (Vf a0_0 A0_1 l0_1 c0_1 A0_2 l0_2 c0_2), .agg (Vn A1_0 l1_0 c1_0 A1_1 l1_1 c1_1)] w fun e w' => e = .returned (.bool r) /\ Below w.heap.size w w' := by
 have hu25 := Tryz.underlying25
 have hu28 := Tryz.underlying28
 have HR0_1 := am hr0_1
 have HC0_1 := am hc0_1
 clear hr0_1 hc0_1
 have HR0_2 := am hr0_2
 have HC0_2 := am hc0_2
 clear hr0_2 hc0_2
 have HR1_0 := am hr1_0
 have HC1_0 := am hc1_0
 clear hr1_0 hc1_0
 have HR1_1 := am hr1_1
 have HC1_1 := am hc1_1
 clear hr1_1 hc1_1
 have HB := am (Below.refl w.heap.size w)
 have H := h
 clear h
 obtain ⟨t892, A3, H⟩ := be H
 replace H := ob H
 obtain ⟨rfl, H⟩ | ⟨rfl, H⟩ := H
 ·obtain rfl := sj H
  go_enter Tryz.func39, Tryz.ntmps39
  go_wp2_with (first | ((with_reducible refine zw (N := 2) rfl ?_); (try (refine zB (by rfl) ?_; dsimp only)); refine bx 2 rfl rfl (Vf a0_0 A0_1 l0_1 c0_1 A0_2 l0_2 c0_2) 25 ?_; intro gb890 hg w17 hbox hb; have BK890 := am (hbox); have GE890 := ge HB hg; replace HB := sb HB hb; clear hb hbox hg) | ((with_reducible refine zw (N := 3) rfl ?_); (try (refine zB (by rfl) ?_; dsimp only)); refine bx 3 rfl rfl (Vn A1_0 l1_0 c1_0 A1_1 l1_1 c1_1) 28 ?_; intro gb891 hg w18 hbox hb; have BK891 := am (hbox); have GE891 := ge HB hg; have NB890_891 := nl BK890 hg; have NB891_890 := ng BK890 hg; replace BK890 := kb BK890 hb; replace HB := sb HB hb; clear hb hbox hg; have hnb19 := NB890_891.out; have hnc19 := NB891_890.out; have hz20 := cf3 BK890.out; have hz21 := cf2 BK891.out) | ((with_reducible refine zA (f := 21) rfl ?_); refine gL (some 11) rfl rfl Tryz.func21 (Vf a0_0 A0_1 l0_1 c0_1 A1_0 l1_0 c1_0) rfl ?_; (with_reducible refine (yA.calls k a0_0 _ _ l0_1 _ _ l1_0 false _ (cb HR0_1 HB) HC0_1.out (cb HR1_0 HB) HC1_0.out A3.out).mono ?_); rintro e w' ⟨rfl, ⟨nd, rfl⟩⟩; refine ⟨_, rfl, ?_⟩))
  go_ret
  exact ⟨rr, bb HB⟩
 obtain ⟨c5b0, H⟩ | ⟨c5b0, H⟩ := ei H
 ·have c5 := of_decide_eq_false c5b0
  have c5b1 : decide (l1_1.length <= 16) = false := dF (by omega)
  clear c5
  obtain rfl := sj H
  go_enter Tryz.func39, Tryz.ntmps39
  go_wp2_with (first | ((with_reducible refine zw (N := 2) rfl ?_); (try (refine zB (by rfl) ?_; dsimp only)); refine bx 2 rfl rfl (Vf a0_0 A0_1 l0_1 c0_1 A0_2 l0_2 c0_2) 25 ?_; intro gb890 hg w12 hbox hb; have BK890 := am (hbox); have GE890 := ge HB hg; replace HB := sb HB hb; clear hb hbox hg) | ((with_reducible refine zw (N := 3) rfl ?_); (try (refine zB (by rfl) ?_; dsimp only)); refine bx 3 rfl rfl (Vn A1_0 l1_0 c1_0 A1_1 l1_1 c1_1) 28 ?_; intro gb891 hg w13 hbox hb; have BK891 := am (hbox); have GE891 := ge HB hg; have NB890_891 := nl BK890 hg; have NB891_890 := ng BK890 hg; replace BK890 := kb BK890 hb; replace HB := sb HB hb; clear hb hbox hg; have hnb14 := NB890_891.out; have hnc14 := NB891_890.out; have hz15 := cf3 BK890.out; have hz16 := cf2 BK891.out) | ((with_reducible refine zA (f := 21) rfl ?_); refine gL (some 11) rfl rfl Tryz.func21 (Vf a0_0 A0_1 l0_1 c0_1 A1_0 l1_0 c1_0) rfl ?_; (with_reducible refine (yA.calls k a0_0 _ _ l0_1 _ _ l1_0 true _ (cb HR0_1 HB) HC0_1.out (cb HR1_0 HB) HC1_0.out A3.out).mono ?_); rintro e w' ⟨rfl, ⟨nd, rfl⟩⟩; refine ⟨_, rfl, ?_⟩))
  go_ret
  exact ⟨rr, bb HB⟩
 have c5 := of_decide_eq_true c5b0
 have c5b1 : decide (l1_1.length <= 16) = true := dT (by omega)
 clear c5
 obtain ⟨t893, A6, H⟩ := be H
 obtain rfl := sj H
 go_enter Tryz.func39, Tryz.ntmps39
 go_wp2_with (first | ((with_reducible refine zw (N := 2) rfl ?_); (try (refine zB (by rfl) ?_; dsimp only)); refine bx 2 rfl rfl (Vf a0_0 A0_1 l0_1 c0_1 A0_2 l0_2 c0_2) 25 ?_; intro gb890 hg w7 hbox hb; have BK890 := am (hbox); have GE890 := ge HB hg; replace HB := sb HB hb; clear hb hbox hg) | ((with_reducible refine zw (N := 3) rfl ?_); (try (refine zB (by rfl) ?_; dsimp only)); refine bx 3 rfl rfl (Vn A1_0 l1_0 c1_0 A1_1 l1_1 c1_1) 28 ?_; intro gb891 hg w8 hbox hb; have BK891 := am (hbox); have GE891 := ge HB hg; have NB890_891 := nl BK890 hg; have NB891_890 := ng BK890 hg; replace BK890 := kb BK890 hb; replace HB := sb HB hb; clear hb hbox hg; have hnb9 := NB890_891.out; have hnc9 := NB891_890.out; have hz10 := cf3 BK890.out; have hz11 := cf2 BK891.out) | ((with_reducible refine zA (f := 21) rfl ?_); refine gL (some 11) rfl rfl Tryz.func21 (Vf a0_0 A0_1 l0_1 c0_1 A1_0 l1_0 c1_0) rfl ?_; (with_reducible refine (yA.calls k a0_0 _ _ l0_1 _ _ l1_0 true _ (cb HR0_1 HB) HC0_1.out (cb HR1_0 HB) HC1_0.out A3.out).mono ?_); rintro e w' ⟨rfl, ⟨nd, rfl⟩⟩; refine ⟨_, rfl, ?_⟩) | (go_at_call 49; (with_reducible refine (Zz.calls k a0_0 _ _ l1_1 t893 _ ?side1 HC1_1.out A6.out).mono ?_); (case side1 => repeat (first | exact (Kd.C_below HR1_1.out (bb HB)) | with_reducible first | apply Kd.C_alloc | apply Kd.C_drewN | apply Kd.C_drew)); rintro e w' ⟨rfl, ⟨nd, rfl⟩⟩))
 go_ret
 exact ⟨rr, bb HB⟩
def Zv.j0 : Nat -> Bool -> Int -> List (S76) -> List (S81) -> List Int -> List Int -> Option (Int)
 | 0, _, _, _, _, _, _ => none
 | k + 1, x15, x895000, x895001, x895002, x896000, x896001 => if x15 = true then (some 1) else ((yL.f k x895000 x895001 x895002 x896000 x896001).bind fun t897 => (if t897 = true then (some 0) else (some 50)))
def Zv.f (k : Nat) (a0_0 : Int) (l0_1 : List (S76)) (l0_2 : List (S81)) (a1 : Int) (l2_0 : List Int) (l2_1 : List Int) : Option (Int) := (z0Q.f k a0_0 l0_1 l0_2).bind fun t896 => (if t896 = true then (if a1 < 0 then (Zv.j0 k true a0_0 l0_1 l0_2 l2_0 l2_1) else (Zv.j0 k (decide (a1 > 4096)) a0_0 l0_1 l0_2 l2_0 l2_1)) else (some 30))
theorem Zv.calls (k : Nat) (a0_0 : Int) (A0_1 : Option Addr) (c0_1 : Nat) (l0_1 : List (S76)) (A0_2 : Option Addr) (c0_2 : Nat) (l0_2 : List (S81)) (a1 : Int) (A2_0 : Option Addr) (c2_0 : Nat) (l2_0 : List Int) (A2_1 : Option Addr) (c2_1 : Nat) (l2_1 : List Int) (r : Int) (w : World) (hr0_1 : Kd.C k76 w A0_1 l0_1.length l0_1) (hc0_1 : l0_1.length <= c0_1) (hr0_2 : Kd.C k81 w A0_2 l0_2.length l0_2) (hc0_2 : l0_2.length <= c0_2) (hr2_0 : Kd.C (Kd.int .i64) w A2_0 l2_0.length l2_0) (hc2_0 : l2_0.length <= c2_0) (hr2_1 : Kd.C (Kd.int .i64) w A2_1 l2_1.length l2_1) (hc2_1 : l2_1.length <= c2_1) (h : Zv.f k a0_0 l0_1 l0_2 a1 l2_0 l2_1 = some r) :
  Calls Tryz.prog 13 #[.agg (Vf a0_0 A0_1 l0_1 c0_1 A0_2 l0_2 c0_2), .int .i64 a1, .agg (Vn A2_0 l2_0 c2_0 A2_1 l2_1 c2_1)] w fun e w' => e = .returned (.int .i64 r) /\ Below w.heap.size w w' := by
 have hu25 := Tryz.underlying25
 have hu28 := Tryz.underlying28
 have HR0_1 := am hr0_1
 have HC0_1 := am hc0_1
 clear hr0_1 hc0_1
 have HR0_2 := am hr0_2
 have HC0_2 := am hc0_2
 clear hr0_2 hc0_2
 have HR2_0 := am hr2_0
 have HC2_0 := am hc2_0
 clear hr2_0 hc2_0
 have HR2_1 := am hr2_1
 have HC2_1 := am hc2_1
 clear hr2_1 hc2_1
 have HB := am (Below.refl w.heap.size w)
 have H := h
 clear h
 obtain ⟨t896, A4, H⟩ := be H
 replace H := ob H
 obtain ⟨rfl, H⟩ | ⟨rfl, H⟩ := H
 ·obtain rfl := sj H
  go_enter Tryz.func13, Tryz.ntmps13
  go_wp2_with (first | ((with_reducible refine zw (N := 3) rfl ?_); refine bz HB 3 rfl rfl (Vf a0_0 A0_1 l0_1 c0_1 A0_2 l0_2 c0_2) 25 ?_; intro gb894 w24 BK894 GE894 HB) | ((with_reducible refine zw (N := 5) rfl ?_); refine bx 5 rfl rfl (Vn A2_0 l2_0 c2_0 A2_1 l2_1 c2_1) 28 ?_; intro gb895 hg w25 hbox hb; have BK895 := am (hbox); have GE895 := ge HB hg; have NB894_895 := nl BK894 hg; have NB895_894 := ng BK894 hg; replace BK894 := kb BK894 hb; replace HB := sb HB hb; clear hb hbox hg; have hnb26 := NB894_895.out; have hnc26 := NB895_894.out; have hz27 := cf3 BK894.out) | (go_at_call 10; (with_reducible refine (z0Q.calls k a0_0 _ _ l0_1 _ _ l0_2 false _ (cb HR0_1 HB) HC0_1.out (cb HR0_2 HB) HC0_2.out A4.out).mono ?_); rintro e w28 ⟨rfl, hb⟩; replace BK894 := kb BK894 hb; replace BK895 := kb BK895 hb; replace HB := sb HB hb))
  go_ret
  exact ⟨rr, bb HB⟩
 have HC6 := am H
 clear H
 go_enter Tryz.func13, Tryz.ntmps13
 go_upto_region 3 with (first | ((with_reducible refine zw (N := 3) rfl ?_); refine bz HB 3 rfl rfl (Vf a0_0 A0_1 l0_1 c0_1 A0_2 l0_2 c0_2) 25 ?_; intro gb894 w7 BK894 GE894 HB) | ((with_reducible refine zw (N := 5) rfl ?_); refine bx 5 rfl rfl (Vn A2_0 l2_0 c2_0 A2_1 l2_1 c2_1) 28 ?_; intro gb895 hg w8 hbox hb; have BK895 := am (hbox); have GE895 := ge HB hg; have NB894_895 := nl BK894 hg; have NB895_894 := ng BK894 hg; replace BK894 := kb BK894 hb; replace HB := sb HB hb; clear hb hbox hg; have hnb9 := NB894_895.out; have hnc9 := NB895_894.out; have hz10 := cf3 BK894.out) | (go_at_call 10; (with_reducible refine (z0Q.calls k a0_0 _ _ l0_1 _ _ l0_2 true _ (cb HR0_1 HB) HC0_1.out (cb HR0_2 HB) HC0_2.out A4.out).mono ?_); rintro e w11 ⟨rfl, hb⟩; replace BK894 := kb BK894 hb; replace BK895 := kb BK895 hb; replace HB := sb HB hb))
 (try simp only [Act.put, List.setIfInBounds_toArray, List.set_cons_zero, List.set_cons_succ])
 go_cut [15] (fun v15 wc => ∃ (kq : Nat) (x15_5 : Bool), v15 = .bool x15_5 /\ Aside0 (Zv.j0 kq x15_5 a0_0 l0_1 l0_2 l2_0 l2_1 = some r) /\ Aside0 (kq <= k) /\ Aside0 (wc.heap[gb894]? = some (.cells #[.int .i64 a0_0, (.slice A0_1 l0_1.length c0_1), (.slice A0_2 l0_2.length c0_2)] 25 (0, 0))) /\ Aside0 (wc.heap[gb895]? = some (.cells #[(.slice A2_0 l2_0.length c2_0), (.slice A2_1 l2_1.length c2_1)] 28 (0, 0))) /\ Aside0 (Below w.heap.size w wc))
 case first =>
  have H := HC6.out
  clear HC6
  obtain ⟨c12b0, H⟩ | ⟨c12b0, H⟩ := iE H
  ·(first | rw [c12b0] | (simp only [zP, Zo]; rw [c12b0]) | skip)
   have H' := am H
   clear H
   go_wp2
   go_meet
   case rel => exact ⟨_, (true), rs, H', ⟨by first | omega | exact Nat.le_refl _⟩, ⟨kk BK894⟩, ⟨kk BK895⟩, ⟨bb HB⟩⟩
  (first | rw [c12b0] | (simp only [zP, Zo]; rw [c12b0]) | skip)
  have H' := am H
  clear H
  go_wp2
  go_meet
  case rel => exact ⟨_, (decide (a1 > 4096)), rs, H', ⟨by first | omega | exact Nat.le_refl _⟩, ⟨kk BK894⟩, ⟨kk BK895⟩, ⟨bb HB⟩⟩
 case rest =>
  clear HC6
  obtain ⟨kq, x15_5, rfl, HA, HJ5, BK894, BK895, HB⟩ := hcut
  cases kq with
  | zero => exact absurd HA.out (by simp [Zv.j0])
  | succ kj5 =>
   have H := HA.out
   clear HA
   simp only [Zv.j0] at H
   replace H := bo H
   obtain ⟨rfl, H⟩ | ⟨rfl, H⟩ := H
   ·obtain rfl := sj H
    go_wp2
    go_ret
    exact ⟨rr, bb HB⟩
   obtain ⟨t897, A14, H⟩ := be H
   replace H := bo H
   obtain ⟨rfl, H⟩ | ⟨rfl, H⟩ := H
   ·obtain rfl := sj H
    have hnb16 := NB894_895.out
    have hnc16 := NB895_894.out
    have hz17 := cf3 BK894.out
    have hz18 := cf2 BK895.out
    go_wp2_with (first | (go_at_call 39; (with_reducible refine (yL.calls kj5 a0_0 _ _ l0_1 _ _ l0_2 _ _ l2_0 _ _ l2_1 true _ (cb HR0_1 HB) HC0_1.out (cb HR0_2 HB) HC0_2.out (cb HR2_0 HB) HC2_0.out (cb HR2_1 HB) HC2_1.out A14.out).mono ?_); rintro e w19 ⟨rfl, hb⟩; replace BK894 := kb BK894 hb; replace BK895 := kb BK895 hb; replace HB := sb HB hb))
    go_ret
    exact ⟨rr, bb HB⟩
   obtain rfl := sj H
   have hnb20 := NB894_895.out
   have hnc20 := NB895_894.out
   have hz21 := cf3 BK894.out
   have hz22 := cf2 BK895.out
   go_wp2_with (first | (go_at_call 39; (with_reducible refine (yL.calls kj5 a0_0 _ _ l0_1 _ _ l0_2 _ _ l2_0 _ _ l2_1 false _ (cb HR0_1 HB) HC0_1.out (cb HR0_2 HB) HC0_2.out (cb HR2_0 HB) HC2_0.out (cb HR2_1 HB) HC2_1.out A14.out).mono ?_); rintro e w23 ⟨rfl, hb⟩; replace BK894 := kb BK894 hb; replace BK895 := kb BK895 hb; replace HB := sb HB hb))
   go_ret
   exact ⟨rr, bb HB⟩
theorem eqA76 (d : Nat) (w : World) (x0 y0 : ByteArray) (x1 y1 : Int) (x2 y2 : Int) :
  (Op.equalIn (d + 2) 76 (.agg #[.string x0, .int .i64 x1, .int .i64 x2]) (.agg #[.string y0, .int .i64 y1, .int .i64 y2])).run Tryz.prog w = .ok (x0.toList == y0.toList && (x1 == y1 && (x2 == y2))) w := by
 refine z56 Tryz.underlying76 (by kernel_rfl) ?_
 refine YP (by rfl) (by go_simp; rfl) (by go_simp; rfl) (by go_simp) ?_
 refine YP (by rfl) (by go_simp; rfl) (by go_simp; rfl) (by go_simp) ?_
 exact z2Q (by rfl) (by go_simp; rfl) (by go_simp; rfl) (by go_simp)
end Go.Proofs.YtnlekgadadifdaaGreat.Print
namespace Go.Proofs.YtnlekgadadifdaaGreat.Print
open Go.RowKit Go.Proofs.YtnlekgadadifdaaGreatW.PrintWords Go.Proofs.YtnlekgadadifdaaGreatW.PrintLast Go.Proofs.YtnlekgadadifdaaGreatW.PrintMore
attribute [local go_sem] zo zm zr zq zi zh zn zl
set_option linter.unusedVariables false
set_option linter.unusedSimpArgs false
attribute [local go_sem high] eqA76
def ZU.l0 : Nat -> List (S76) -> List (S76) -> Int -> Option (Bool)
 | 0, _, _, _ => none
 | k + 1, x0, x1, x5 => if x5 < (x0.length : Int) then (if 0 <= x5 then (if x5 < (x1.length : Int) then (if (!((((zp x0 x5).f0).toList) == (((zp x1 x5).f0).toList)) || (!(((zp x0 x5).f1) == ((zp x1 x5).f1)) || (!(((zp x0 x5).f2) == ((zp x1 x5).f2))))) = true then (some false) else (ZU.l0 k x0 x1 (wrap64 (x5 + 1)))) else (none)) else (none)) else (some true)
def ZU.f (k : Nat) (l0 : List (S76)) (l1 : List (S76)) : Option (Bool) := if (l0.length : Int) = (l1.length : Int) then (ZU.l0 k l0 l1 0) else (some false)
end Go.Proofs.YtnlekgadadifdaaGreat.Print
namespace Go.Proofs.YtnlekgadadifdaaGreat.Print
open Go.RowKit Go.Proofs.YtnlekgadadifdaaGreatW.PrintWords Go.Proofs.YtnlekgadadifdaaGreatW.PrintLast Go.Proofs.YtnlekgadadifdaaGreatW.PrintMore
attribute [local go_sem] zo zm zr zq zi zh zn zl 
set_option linter.unusedVariables false
set_option linter.unusedSimpArgs false
theorem eqA134 (d : Nat) (w : World) (x0 y0 : Int) (x1 y1 : Int) :
  (Op.equalIn (d + 2) 134 (.agg (Veq x0 x1)) (.agg (Veq y0 y1))).run Tryz.prog w = .ok (x0 == y0 && (x1 == y1)) w := by
 refine z56 Tryz.underlying134 (by kernel_rfl) ?_
 refine YP (by rfl) (by go_simp; rfl) (by go_simp; rfl) (by go_simp) ?_
 exact z2Q (by rfl) (by go_simp; rfl) (by go_simp; rfl) (by go_simp)
end Go.Proofs.YtnlekgadadifdaaGreat.Print
namespace Go.Proofs.YtnlekgadadifdaaGreat.Print
open Go.RowKit Go.Proofs.YtnlekgadadifdaaGreatW.PrintWords Go.Proofs.YtnlekgadadifdaaGreatW.PrintLast Go.Proofs.YtnlekgadadifdaaGreatW.PrintMore
attribute [local go_sem] zo zm zr zq zi zh zn zl
set_option linter.unusedVariables false
set_option linter.unusedSimpArgs false
attribute [local go_sem high] eqA134
def YE.l0 : Nat -> List (Y5) -> List (Y5) -> Int -> Option (Bool)
 | 0, _, _, _ => none
 | k + 1, x0, x1, x5 => if x5 < (x0.length : Int) then (if 0 <= x5 then (if x5 < (x1.length : Int) then (if (!(((z1w x0 x5).f0) == ((z1w x1 x5).f0)) || (!(((z1w x0 x5).f1) == ((z1w x1 x5).f1)))) = true then (some false) else (YE.l0 k x0 x1 (wrap64 (x5 + 1)))) else (none)) else (none)) else (some true)
def YE.f (k : Nat) (l0 : List (Y5)) (l1 : List (Y5)) : Option (Bool) := if (l0.length : Int) = (l1.length : Int) then (YE.l0 k l0 l1 0) else (some false)
end Go.Proofs.YtnlekgadadifdaaGreat.Print
namespace Go.Proofs.YtnlekgadadifdaaGreat.Print
open Go.RowKit Go.Proofs.YtnlekgadadifdaaGreatW.PrintWords Go.Proofs.YtnlekgadadifdaaGreatW.PrintLast Go.Proofs.YtnlekgadadifdaaGreatW.PrintMore
attribute [local go_sem] zo zm zr zq zi zh zn zl 
set_option linter.unusedVariables false
set_option linter.unusedSimpArgs false
def z2z.f (k : Nat) (a0_0 : Int) (l0_1 : List Int) (l0_2 : List (Y5)) (l0_3 : List (Z9)) (a0_4 : Int) (a0_5 : Int) (a0_6 : Int) (a1_0 : Int) (l1_1 : List Int) (l1_2 : List (Y5)) (l1_3 : List (Z9)) (a1_4 : Int) (a1_5 : Int) (a1_6 : Int) : Option (Bool) := if a0_0 = a1_0 then ((yo.f k l0_1 l1_1).bind fun t1281 => (if t1281 = true then ((YE.f k l0_2 l1_2).bind fun t1282 => (if t1282 = true then (if a0_5 = a1_5 then (some (decide (a1_4 <= (wrap64 ((wrap64 (2 * a0_4)) + 1))))) else (some false)) else (some false))) else (some false))) else (some false)
theorem eqA93 (d : Nat) (w : World) (x0 y0 : Int) (x1 y1 : Int) (x2 y2 : Int) (x3 y3 : Int) (x4 y4 : Int) :
  (Op.equalIn (d + 2) 93 (.agg (Vl x0 x1 x2 x3 x4)) (.agg (Vl y0 y1 y2 y3 y4))).run Tryz.prog w = .ok (x0 == y0 && (x1 == y1 && (x2 == y2 && (x3 == y3 && (x4 == y4))))) w := by
 refine z56 Tryz.underlying93 (by kernel_rfl) ?_
 refine YP (by rfl) (by go_simp; rfl) (by go_simp; rfl) (by go_simp) ?_
 refine YP (by rfl) (by go_simp; rfl) (by go_simp; rfl) (by go_simp) ?_
 refine YP (by rfl) (by go_simp; rfl) (by go_simp; rfl) (by go_simp) ?_
 refine YP (by rfl) (by go_simp; rfl) (by go_simp; rfl) (by go_simp) ?_
 exact z2Q (by rfl) (by go_simp; rfl) (by go_simp; rfl) (by go_simp)
theorem rdO_mid (pre : List Y5) (x : Y5) (r : List Y5) : z1w (pre ++ x :: r) (pre.length : Int) = x := z0V pre x _ r
theorem z3h : ∀ (suf pre : List Y5), (pre ++ suf).length <= 9223372036854775807 -> zc (fun k => YE.l0 k (pre ++ suf) (pre ++ suf) (pre.length : Int)) true
 | [], pre, _ => by
  refine zc.succ ?_
  simp only [YE.l0, ZE, if_false]
  exact zc.pure _
 | v :: r, pre, hl => by
  refine zc.succ ?_
  simp only [YE.l0, Zc, Z5, if_true, rdO_mid, beq_self_eq_true, Bool.not_true, Bool.or_self, Bool.false_eq_true, if_false]
  rw [Z6 pre v r hl]
  have ih := z3h r (pre ++ [v]) (by rw [<- zM]; exact hl)
  rw [<- zM] at ih
  exact ih
theorem z4U (l : List Y5) (hl : l.length <= 9223372036854775807) : zc (fun k => YE.f k l l) true := by
 unfold YE.f
 exact zc.ifT rfl (z3h l [] hl)
theorem z2u : ∀ (suf pre : List S76), (pre ++ suf).length <= 9223372036854775807 -> zc (fun k => ZU.l0 k (pre ++ suf) (pre ++ suf) (pre.length : Int)) true
 | [], pre, _ => by
  refine zc.succ ?_
  simp only [ZU.l0, ZE, if_false]
  exact zc.pure _
 | v :: r, pre, hl => by
  refine zc.succ ?_
  simp only [ZU.l0, Zc, Z5, if_true, YD, beq_self_eq_true, Bool.not_true, Bool.or_self, Bool.false_eq_true, if_false]
  rw [Z6 pre v r hl]
  have ih := z2u r (pre ++ [v]) (by rw [<- zM]; exact hl)
  rw [<- zM] at ih
  exact ih
theorem z47 (l : List S76) (hl : l.length <= 9223372036854775807) : zc (fun k => ZU.f k l l) true := by
 unfold ZU.f
 exact zc.ifT rfl (z2u l [] hl)
def z5j (n : Nat) (l1 : List S76) (fuel : Int) (st pk : List Int) : Prop := 0 <= fuel /\ fuel <= 4096 /\ z2i n l1 st /\ ∀ a ∈ pk, WW n a
theorem z3K {n : Nat} {l1 : List S76} {body : List S81} (hp : pIs (n : Int) l1 body = true) (hl : body.length <= 9223372036854775807) (hg : ZC body) (hh : z0b n l1) (fuel : Int) (st pk : List Int) (h1 : st.length <= 9223372036854775807) (h2 : pk.length <= 9223372036854775807) :
  ∃ r, zc (fun k => Zv.f k (n : Int) l1 body fuel st pk) r /\ (r = 0 -> z5j n l1 fuel st pk) := by
 have hI := z3g (n : Int) l1 body hl hg
 rw [hp] at hI
 have hn1 := hh.1
 have hn8 := hh.2.1
 unfold Zv.f
 by_cases hf : fuel < 0
 ·refine ⟨1, zc.bind hI (zc.ifT rfl (zc.ifT hf (zc.succ ?_))), fun h => absurd h (by decide)⟩
  simp only [Zv.j0, if_true]
  exact zc.pure _
 by_cases hf2 : fuel > 4096
 ·refine ⟨1, zc.bind hI (zc.ifT rfl (zc.ifF hf (zc.succ ?_))), fun h => absurd h (by decide)⟩
  simp only [Zv.j0, decide_eq_true hf2, if_true]
  exact zc.pure _
 have hS := z4E (n : Int) l1 st (by omega) (by omega) hh.2.2.2 hh.2.2.1 h1
 have hW := z1g (n : Int) (by omega) (by omega) pk [] h2
 have fin : ∀ b : Bool, zc (fun k => yL.f k (n : Int) l1 body st pk) b -> zc (fun k => (z0Q.f k (n : Int) l1 body).bind fun t896 => (if t896 = true then (if fuel < 0 then (Zv.j0 k true (n : Int) l1 body st pk) else (Zv.j0 k (decide (fuel > 4096)) (n : Int) l1 body st pk)) else (some 30))) (if b = true then 0 else 50) := fun b hb => by
  refine zc.bind hI (zc.ifT rfl (zc.ifF hf (zc.succ ?_)))
  simp only [Zv.j0, decide_eq_false hf2, Bool.false_eq_true, if_false]
  refine zc.bind hb ?_
  cases b
  ·exact zc.ifF (by simp) (zc.pure _)
  ·exact zc.ifT rfl (zc.pure _)
 by_cases c1 : (st.length : Int) = cs l1
 case neg =>
  rw [decide_eq_false c1, Bool.false_and] at hS
  refine ⟨_, fin false (by unfold yL.f; exact zc.bind hS (zc.ifF (by simp) (zc.pure _))), fun h => absurd h (by simp)⟩
 rw [decide_eq_true c1, Bool.true_and, Int.toNat_natCast] at hS
 cases c2 : z0I (2 ^ n) st
 ·rw [c2] at hS
  exact ⟨_, fin false (by unfold yL.f; exact zc.bind hS (zc.ifF (by simp) (zc.pure _))), fun h => absurd h (by simp)⟩
 rw [c2] at hS
 by_cases c3 : (pk.length : Int) <= 16
 case neg => exact ⟨_, fin false (by unfold yL.f; exact zc.bind hS (zc.ifT rfl (zc.ifF c3 (zc.pure _)))), fun h => absurd h (by simp)⟩
 rw [Int.toNat_natCast] at hW
 refine ⟨_, fin (z0I (2 ^ n) pk) (by unfold yL.f Zz.f; exact zc.bind hS (zc.ifT rfl (zc.ifT c3 (zc.bind hW (zc.pure _))))), fun h => ?_⟩
 have c4 : z0I (2 ^ n) pk = true := by
  by_cases h4 : z0I (2 ^ n) pk = true
  ·exact h4
  ·rw [if_neg h4] at h
   exact absurd h (by decide)
 exact ⟨by omega, by omega, ⟨c1, fun a ha => z1M.1 c2 a ha⟩, fun a ha => z1M.1 c4 a ha⟩
theorem prog_ok {w : Int} {l1 : List S76} {body : List S81} (hp : pIs w l1 body = true) (hg : ZC body) : ∃ n : Nat, w = n /\ z0b n l1 /\ IVs n l1 0 body := by
 obtain ⟨hh, hn⟩ := z5o hp
 obtain ⟨w1, w8, _, h18, hv, _⟩ := z3Q hh
 refine ⟨w.toNat, by omega, ⟨by omega, by omega, h18, fun v hm => (hv v hm).2.2⟩, Int.le_refl _, ?_, ?_, hn, hg⟩
 ·have := (z6Q.2 body).1
  omega
 ·unfold pIs at hp
  rw [Bool.and_eq_true, Bool.and_eq_true, Bool.and_eq_true] at hp
  rw [show ((w.toNat : Nat) : Int) = w by omega]
  exact hp.2.2.2
theorem okS_of (w : Int) (vars : List S76) : (∀ x : S81, sOK w vars x = true -> okS x) /\ (∀ l : List S81, Yt w vars l = true -> z1z l) := by
 refine z1f (fun a b l t e h1 h2 h => ?_) (fun _ => trivial) (fun x r h1 h2 h => ?_)
 ·rw [z0p, Bool.and_eq_true, Bool.and_eq_true, Bool.and_eq_true] at h
  obtain ⟨hh, ht, he, _⟩ := h
  refine ⟨fun ho hl => ?_, h1 ht, h2 he⟩
  simp only at hh
  subst hl
  unfold z04 YR at hh
  rw [Bool.and_eq_true, decide_eq_true_iff] at hh
  have := hh.1
  rcases ho with rfl | rfl
  ·simp at this
   split at this <;> omega
  ·simp at this
   split at this <;> omega
 ·rw [yR, Bool.and_eq_true] at h
  exact ⟨h1 h.1, h2 h.2⟩
theorem tlk {α : Type} {g : Nat -> Option α} {v : α} (h : zc g v) : ∃ k0, ∀ k, k0 <= k -> g k = some v := h
def z40 (k : Nat) (w : Int) (l1 : List S76) (body : List S81) : Prop := (z1z body /\ nSs body < 900000 /\ kSs body < 900000) /\ l1.length < 1000000 /\ zJ.f k w l1 = some true /\ (zQ body).length <= 4000 /\ (∀ j : Nat, j < (zQ body).length -> z0r k w l1 (zQ body) (ZY (zQ body) j)) /\ ZU.f k l1 l1 = some true
def RunOk (k : Nat) (w : Int) (l1 : List S76) (body : List S81) (fuel : Int) (st pk : List Int) : Prop := ∃ (cn : List S81 -> Int) (nd : S62 -> Int) (ev : List Int -> S62 -> List Z9) (va : List Int -> S62 -> Int) (r : Nat) (c' : MC), GI cn 0 body /\ Zk.f k st = some st /\ Yz cn l1 pk nd ev va r (Yx cn fuel st body) = some c' /\ z6b cn w l1 pk nd ev va r (Yx cn fuel st body) /\
 (c'.ed = 3 \/ ∃ (v' : VC) (N : Nat), Fin (ZA body 0) (zSs body 0) c' v' /\ z0z k w l1 pk (zQ body) N (zD 4194304 st) = some v' /\ z4K k w l1 pk (zQ body) N (zD 4194304 st) /\ z2z.f k c'.ed c'.st c'.ou c'.tr c'.co c'.us c'.wh v'.ed v'.st v'.ou v'.tr v'.co v'.us v'.wh = some true)
theorem z57 {n : Nat} {l1 : List S76} {body : List S81} (hp : pIs (n : Int) l1 body = true) (hh : z0b n l1) (hv : IVs n l1 0 body) : ∃ k0, ∀ k, k0 <= k -> z40 k (n : Int) l1 body := by
 obtain ⟨hI, _⟩ := z5o hp
 have hH := z0Y (n : Int) l1
 rw [hI] at hH
 obtain ⟨k1, h1⟩ := tlk hH
 obtain ⟨k2, h2⟩ := code_ok (l1 := l1) hh.1 hh.2.1 hv
 obtain ⟨k3, h3⟩ := tlk (z47 l1 (by have := hh.2.2.1; omega))
 have hb := z75.2 body
 have hn := hv.2.2.2.1
 have h18 := hh.2.2.1
 refine ⟨k1 + k2 + k3, fun k hk => ⟨⟨(okS_of (n : Int) l1).2 body hv.2.2.1, by omega, by omega⟩, by omega, h1 k (by omega), by rw [Ye]; omega, h2 k (by omega), h3 k (by omega)⟩⟩
theorem z60 {n : Nat} {l1 : List S76} {body : List S81} (hh : z0b n l1) (hv : IVs n l1 0 body) {fuel : Int} {st pk : List Int} (h : z5j n l1 fuel st pk) : ∃ k0, ∀ k, k0 <= k -> RunOk k (n : Int) l1 body fuel st pk := by
 obtain ⟨f0, f1, hs, hpk⟩ := h
 have hc := hh.cs_le
 obtain ⟨k1, h1⟩ := tlk (z24 st (by have := hs.1; omega))
 obtain ⟨c', g1, g2, g3, g4⟩ := both hh hpk hs hv f0 f1
 rcases g4 with g4 | ⟨v', N, g4, g5, g6, k2, h2⟩
 ·exact ⟨k1, fun k hk => ⟨_, _, _, _, _, c', hv.gi, h1 k hk, g1, g2, .inl g4⟩⟩
 ·have hsl : c'.st.length <= 9223372036854775807 := by have := hs.1; omega
  obtain ⟨b1, b2, b3, b4, b5, b6, b7⟩ := g5
  have hol : c'.ou.length <= 9223372036854775807 := by rw [<- g4.ou]; have := g4.co; omega
  obtain ⟨k3, h3⟩ : ∃ k0, ∀ k, k0 <= k -> z2z.f k c'.ed c'.st c'.ou c'.tr c'.co c'.us c'.wh v'.ed v'.st v'.ou v'.tr v'.co v'.us v'.wh = some true := by
   rw [g4.ed, g4.st, g4.ou, g4.us]
   refine tlk ?_
   unfold z2z.f
   have hco := g4.co
   refine zc.ifT rfl (zc.bind (z4P c'.st hsl) (zc.ifT rfl (zc.bind (z4U c'.ou hol) (zc.ifT rfl (zc.ifT rfl ?_)))))
   rw [w64 (n := 2 * c'.co) (by omega) (by omega), w64 (n := 2 * c'.co + 1) (by omega) (by omega), decide_eq_true hco]
   exact zc.pure _
  exact ⟨k1 + k2 + k3, fun k hk => ⟨_, _, _, _, _, c', hv.gi, h1 k (by omega), g1, g2, .inr ⟨v', N, g4, (h2 k (by omega)).1, (h2 k (by omega)).2, h3 k (by omega)⟩⟩⟩
def Zp.l0 : Nat -> List Int -> Int -> Int -> List (S76) -> List (S93) -> Option (Bool)
 | 0, _, _, _, _, _ => none
 | k + 1, x0, x5, x1303000, x1303001, x1303002 => if x5 < (x0.length : Int) then (if 0 <= x5 then (if (rd x0 x5) < 0 then (some false) else (if (rd x0 x5) >= (x1303002.length : Int) then (some false) else (if x5 > 0 then (if 0 <= (wrap64 (x5 - 1)) then (if (wrap64 (x5 - 1)) < (x0.length : Int) then (if (rd x0 x5) < (rd x0 (wrap64 (x5 - 1))) then (some false) else (Zp.l0 k x0 (wrap64 (x5 + 1)) x1303000 x1303001 x1303002)) else (none)) else (none)) else (Zp.l0 k x0 (wrap64 (x5 + 1)) x1303000 x1303001 x1303002)))) else (none)) else (some true)
def Zp.f (k : Nat) (l0 : List Int) (a1_0 : Int) (l1_1 : List (S76)) (l1_2 : List (S93)) : Option (Bool) := Zp.l0 k l0 0 a1_0 l1_1 l1_2
theorem Zp.calls (k : Nat) (A0 : Option Addr) (c0 : Nat) (l0 : List Int) (a1_0 : Int) (A1_1 : Option Addr) (c1_1 : Nat) (l1_1 : List (S76)) (A1_2 : Option Addr) (c1_2 : Nat) (l1_2 : List (S93)) (r : Bool) (w : World) (hr0 : Kd.C (Kd.int .i64) w A0 l0.length l0) (hc0 : l0.length <= c0) (hr1_1 : Kd.C k76 w A1_1 l1_1.length l1_1) (hc1_1 : l1_1.length <= c1_1) (hr1_2 : Kd.C k93 w A1_2 l1_2.length l1_2) (hc1_2 : l1_2.length <= c1_2) (h : Zp.f k l0 a1_0 l1_1 l1_2 = some r) :
  Calls Tryz.prog 20 #[.slice A0 l0.length c0, .agg (Vf a1_0 A1_1 l1_1 c1_1 A1_2 l1_2 c1_2)] w fun e w' => e = .returned (.bool r) /\ Below w.heap.size w w' := by
 have hu33 := Tryz.underlying33
 have HR0 := am hr0
 have HC0 := am hc0
 clear hr0 hc0
 have HR1_1 := am hr1_1
 have HC1_1 := am hc1_1
 clear hr1_1 hc1_1
 have HR1_2 := am hr1_2
 have HC1_2 := am hc1_2
 clear hr1_2 hc1_2
 have HB := am (Below.refl w.heap.size w)
 have H := h
 clear h
 have H' := am H
 clear H
 go_enter Tryz.func20, Tryz.ntmps20
 go_wp2_with (first | ((with_reducible refine zw (N := 3) rfl ?_); (try (refine zB (by rfl) ?_; dsimp only)); refine bx 3 rfl rfl (Vf a1_0 A1_1 l1_1 c1_1 A1_2 l1_2 c1_2) 33 ?_; intro gb1302 hg w3 hbox hb; have BK1302 := am (hbox); have GE1302 := ge HB hg; replace HB := sb HB hb; clear hb hbox hg))
 go_loopg [5] k (fun kq v5 w' => ∃ (x5_1 : Int), v5 = .int .i64 x5_1 /\ Aside0 (Zp.l0 kq l0 x5_1 a1_0 l1_1 l1_2 = some r) /\ Aside0 (kq <= k) /\ Aside0 (w'.heap[gb1302]? = some (.cells #[.int .i64 a1_0, (.slice A1_1 l1_1.length c1_1), (.slice A1_2 l1_2.length c1_2)] 33 (0, 0))) /\ Aside0 (Below w.heap.size w w'))
 case atStart => exact ⟨(0), rs, H', ⟨Nat.le_refl _⟩, ⟨kk BK1302⟩, ⟨bb HB⟩⟩
 case round =>
  clear H'
  obtain ⟨x5_1, rfl, HA, HK1, BK1302, HB⟩ := hrel
  cases gk with
  | zero => exact absurd HA.out (by simp [Zp.l0])
  | succ k1 =>
   have H := HA.out
   clear HA
   simp only [Zp.l0] at H
   obtain ⟨c4b0, H⟩ | ⟨c4b0, H⟩ := ei H
   ·obtain rfl := sj H
    go_wp2
    repeat (go_quiet (fail); try go_wp2)
    go_ret
    exact ⟨rr, bb HB⟩
   obtain ⟨c5b0, H⟩ := pd H
   obtain ⟨c6b0, H⟩ | ⟨c6b0, H⟩ := iE H
   ·obtain rfl := sj H
    have p1303 : 0 <= (x5_1 : Int) := od
    have q1303 : x5_1 < (l0.length : Int) := od
    obtain ⟨ad1303, e1303, hx1303_0⟩ := Kd.at_int HR0.out x5_1 p1303 q1303
    cases e1303
    replace hx1303_0 := zk HB.out hx1303_0
    replace p1303 := eT p1303
    replace q1303 := eT q1303
    go_wp2
    repeat (go_quiet (fail); try go_wp2)
    go_ret
    exact ⟨rr, bb HB⟩
   obtain ⟨c7b0, H⟩ | ⟨c7b0, H⟩ := iE H
   ·obtain rfl := sj H
    have p1303 : 0 <= (x5_1 : Int) := od
    have q1303 : x5_1 < (l0.length : Int) := od
    obtain ⟨ad1303, e1303, hx1303_0⟩ := Kd.at_int HR0.out x5_1 p1303 q1303
    cases e1303
    replace hx1303_0 := zk HB.out hx1303_0
    replace p1303 := eT p1303
    replace q1303 := eT q1303
    have p1304 : 0 <= (x5_1 : Int) := od
    have q1304 : x5_1 < (l0.length : Int) := od
    obtain ⟨ad1304, e1304, hx1304_0⟩ := Kd.at_int HR0.out x5_1 p1304 q1304
    obtain rfl : ad1303 = ad1304 := (by injection e1304)
    replace hx1304_0 := zk HB.out hx1304_0
    replace p1304 := eT p1304
    replace q1304 := eT q1304
    have hz8 := cf3 BK1302.out
    go_wp2
    repeat (go_quiet (fail); try go_wp2)
    go_ret
    exact ⟨rr, bb HB⟩
   obtain ⟨c9b0, H⟩ | ⟨c9b0, H⟩ := ei H
   ·have H' := am H
    clear H
    have p1303 : 0 <= (x5_1 : Int) := od
    have q1303 : x5_1 < (l0.length : Int) := od
    obtain ⟨ad1303, e1303, hx1303_0⟩ := Kd.at_int HR0.out x5_1 p1303 q1303
    cases e1303
    replace hx1303_0 := zk HB.out hx1303_0
    replace p1303 := eT p1303
    replace q1303 := eT q1303
    have p1304 : 0 <= (x5_1 : Int) := od
    have q1304 : x5_1 < (l0.length : Int) := od
    obtain ⟨ad1304, e1304, hx1304_0⟩ := Kd.at_int HR0.out x5_1 p1304 q1304
    obtain rfl : ad1303 = ad1304 := (by injection e1304)
    replace hx1304_0 := zk HB.out hx1304_0
    replace p1304 := eT p1304
    replace q1304 := eT q1304
    have hz16 := cf3 BK1302.out
    go_wp2
    repeat (go_quiet (fail); try go_wp2)
    go_roundg k1
    case measure => have := HK1.out; omega
    case rel => exact ⟨(wrap64 (x5_1 + 1)), rs, H', ⟨by have := HK1.out; omega⟩, ⟨kk BK1302⟩, ⟨bb HB⟩⟩
   obtain ⟨ji10, hji10⟩ : ∃ j_ : Int, (wrap64 (x5_1 - 1)) = j_ := ⟨_, rfl⟩
   replace H : (if 0 <= (ji10) then (if (ji10) < (l0.length : Int) then (if (rd l0 x5_1) < (rd l0 (ji10)) then (some false) else (Zp.l0 k1 l0 (wrap64 (x5_1 + 1)) a1_0 l1_1 l1_2)) else (none)) else (none)) = some r := by first | (rw [hji10] at H; exact H) | (simp only [hji10] at H ⊢; exact H)
   have hji10w : (IntKind.i64.wrap (x5_1 - 1)) = ji10 := (zP _).trans hji10
   obtain ⟨c11b0, H⟩ := pd H
   obtain ⟨c12b0, H⟩ := pd H
   obtain ⟨c13b0, H⟩ | ⟨c13b0, H⟩ := ei H
   ·have H' := am H
    clear H
    have p1303 : 0 <= (x5_1 : Int) := od
    have q1303 : x5_1 < (l0.length : Int) := od
    obtain ⟨ad1303, e1303, hx1303_0⟩ := Kd.at_int HR0.out x5_1 p1303 q1303
    cases e1303
    replace hx1303_0 := zk HB.out hx1303_0
    replace p1303 := eT p1303
    replace q1303 := eT q1303
    have p1304 : 0 <= (x5_1 : Int) := od
    have q1304 : x5_1 < (l0.length : Int) := od
    obtain ⟨ad1304, e1304, hx1304_0⟩ := Kd.at_int HR0.out x5_1 p1304 q1304
    obtain rfl : ad1303 = ad1304 := (by injection e1304)
    replace hx1304_0 := zk HB.out hx1304_0
    replace p1304 := eT p1304
    replace q1304 := eT q1304
    have hz15 := cf3 BK1302.out
    have p1305 : 0 <= (x5_1 : Int) := od
    have q1305 : x5_1 < (l0.length : Int) := od
    obtain ⟨ad1305, e1305, hx1305_0⟩ := Kd.at_int HR0.out x5_1 p1305 q1305
    obtain rfl : ad1303 = ad1305 := (by injection e1305)
    replace hx1305_0 := zk HB.out hx1305_0
    replace p1305 := eT p1305
    replace q1305 := eT q1305
    have p1306 : 0 <= ((ji10) : Int) := od
    have q1306 : (ji10) < (l0.length : Int) := od
    obtain ⟨ad1306, e1306, hx1306_0⟩ := Kd.at_int HR0.out (ji10) p1306 q1306
    obtain rfl : ad1303 = ad1306 := (by injection e1306)
    replace hx1306_0 := zk HB.out hx1306_0
    replace p1306 := eT p1306
    replace q1306 := eT q1306
    go_wp2
    repeat (go_quiet (fail); try go_wp2)
    go_roundg k1
    case measure => have := HK1.out; omega
    case rel => exact ⟨(wrap64 (x5_1 + 1)), rs, H', ⟨by have := HK1.out; omega⟩, ⟨kk BK1302⟩, ⟨bb HB⟩⟩
   obtain rfl := sj H
   have p1303 : 0 <= (x5_1 : Int) := od
   have q1303 : x5_1 < (l0.length : Int) := od
   obtain ⟨ad1303, e1303, hx1303_0⟩ := Kd.at_int HR0.out x5_1 p1303 q1303
   cases e1303
   replace hx1303_0 := zk HB.out hx1303_0
   replace p1303 := eT p1303
   replace q1303 := eT q1303
   have p1304 : 0 <= (x5_1 : Int) := od
   have q1304 : x5_1 < (l0.length : Int) := od
   obtain ⟨ad1304, e1304, hx1304_0⟩ := Kd.at_int HR0.out x5_1 p1304 q1304
   obtain rfl : ad1303 = ad1304 := (by injection e1304)
   replace hx1304_0 := zk HB.out hx1304_0
   replace p1304 := eT p1304
   replace q1304 := eT q1304
   have hz14 := cf3 BK1302.out
   have p1305 : 0 <= (x5_1 : Int) := od
   have q1305 : x5_1 < (l0.length : Int) := od
   obtain ⟨ad1305, e1305, hx1305_0⟩ := Kd.at_int HR0.out x5_1 p1305 q1305
   obtain rfl : ad1303 = ad1305 := (by injection e1305)
   replace hx1305_0 := zk HB.out hx1305_0
   replace p1305 := eT p1305
   replace q1305 := eT q1305
   have p1306 : 0 <= ((ji10) : Int) := od
   have q1306 : (ji10) < (l0.length : Int) := od
   obtain ⟨ad1306, e1306, hx1306_0⟩ := Kd.at_int HR0.out (ji10) p1306 q1306
   obtain rfl : ad1303 = ad1306 := (by injection e1306)
   replace hx1306_0 := zk HB.out hx1306_0
   replace p1306 := eT p1306
   replace q1306 := eT q1306
   go_wp2
   repeat (go_quiet (fail); try go_wp2)
   go_ret
   exact ⟨by first | rfl | (simp [z1W, z1V] <;> rfl) | (simp only [<- hji10]; first | rfl | (simp [z1W, z1V] <;> rfl)) | (simp [*, z1W, z1V] <;> rfl), bb HB⟩
def Zr.l0 : Nat -> List Int -> Int -> Int -> Int -> Option (Bool)
 | 0, _, _, _, _ => none
 | k + 1, x0, x1, x2, x7 => if x7 < (x0.length : Int) then (if 0 <= x7 then (if 0 <= x1 then (if x1 < (x0.length : Int) then (if (rd x0 x7) > (rd x0 x1) then (some (decide (x2 < (rd x0 x7)))) else (Zr.l0 k x0 x1 x2 (wrap64 (x7 + 1)))) else (none)) else (none)) else (none)) else (some true)
def Zr.f (k : Nat) (l0 : List Int) (a1 : Int) (a2 : Int) : Option (Bool) := if 0 <= a1 then (if a1 < (l0.length : Int) then (if a2 < (rd l0 a1) then (some false) else (Zr.l0 k l0 a1 a2 (wrap64 (a1 + 1)))) else (none)) else (none)
theorem Zr.calls (k : Nat) (A0 : Option Addr) (c0 : Nat) (l0 : List Int) (a1 : Int) (a2 : Int) (r : Bool) (w : World) (hr0 : Kd.C (Kd.int .i64) w A0 l0.length l0) (hc0 : l0.length <= c0) (h : Zr.f k l0 a1 a2 = some r) :
  Calls Tryz.prog 22 #[.slice A0 l0.length c0, .int .i64 a1, .int .i64 a2] w fun e w' => e = .returned (.bool r) /\ zW w w' := by
 have HR0 := am hr0
 have HC0 := am hc0
 clear hr0 hc0
 have H := h
 clear h
 obtain ⟨c4b0, H⟩ := pd H
 obtain ⟨c5b0, H⟩ := pd H
 obtain ⟨c6b0, H⟩ | ⟨c6b0, H⟩ := iE H
 ·obtain rfl := sj H
  have p1307 : 0 <= (a1 : Int) := od
  have q1307 : a1 < (l0.length : Int) := od
  obtain ⟨ad1307, e1307, hx1307_0⟩ := Kd.at_int HR0.out a1 p1307 q1307
  cases e1307
  replace p1307 := eT p1307
  replace q1307 := eT q1307
  go_enter Tryz.func22, Tryz.ntmps22
  go_wp2
  repeat (go_quiet (fail); try go_wp2)
  go_ret
  exact ⟨rs, dr⟩
 have H' := am H
 clear H
 have p1307 : 0 <= (a1 : Int) := od
 have q1307 : a1 < (l0.length : Int) := od
 obtain ⟨ad1307, e1307, hx1307_0⟩ := Kd.at_int HR0.out a1 p1307 q1307
 cases e1307
 replace p1307 := eT p1307
 replace q1307 := eT q1307
 go_enter Tryz.func22, Tryz.ntmps22
 go_wp2
 repeat (go_quiet (fail); try go_wp2)
 go_loopg [7] k (fun kq v7 w' => ∃ (x7_1 : Int), v7 = .int .i64 x7_1 /\ Aside0 (Zr.l0 kq l0 a1 a2 x7_1 = some r) /\ Aside0 (kq <= k) /\ zW w w')
 case atStart => exact ⟨(wrap64 (a1 + 1)), rs, H', ⟨Nat.le_refl _⟩, dr⟩
 case round =>
  clear H'
  obtain ⟨x7_1, rfl, HA, HK1, ⟨m1, rfl⟩⟩ := hrel
  cases gk with
  | zero => exact absurd HA.out (by simp [Zr.l0])
  | succ k1 =>
   have H := HA.out
   clear HA
   simp only [Zr.l0] at H
   obtain ⟨c7b0, H⟩ | ⟨c7b0, H⟩ := ei H
   ·obtain rfl := sj H
    go_wp2
    repeat (go_quiet (fail); try go_wp2)
    go_ret
    exact ⟨rs, dr⟩
   obtain ⟨c8b0, H⟩ := pd H
   obtain ⟨c9b0, H⟩ := pd H
   obtain ⟨c10b0, H⟩ := pd H
   obtain ⟨c11b0, H⟩ | ⟨c11b0, H⟩ := ei H
   ·have H' := am H
    clear H
    have p1308 : 0 <= (x7_1 : Int) := od
    have q1308 : x7_1 < (l0.length : Int) := od
    obtain ⟨ad1308, e1308, hx1308_0⟩ := Kd.at_int HR0.out x7_1 p1308 q1308
    obtain rfl : ad1307 = ad1308 := (by injection e1308)
    replace p1308 := eT p1308
    replace q1308 := eT q1308
    have p1309 : 0 <= (a1 : Int) := od
    have q1309 : a1 < (l0.length : Int) := od
    obtain ⟨ad1309, e1309, hx1309_0⟩ := Kd.at_int HR0.out a1 p1309 q1309
    obtain rfl : ad1307 = ad1309 := (by injection e1309)
    replace p1309 := eT p1309
    replace q1309 := eT q1309
    go_wp2
    repeat (go_quiet (fail); try go_wp2)
    go_roundg k1
    case measure => have := HK1.out; omega
    case rel => exact ⟨(wrap64 (x7_1 + 1)), rs, H', ⟨by have := HK1.out; omega⟩, dr⟩
   obtain rfl := sj H
   have p1308 : 0 <= (x7_1 : Int) := od
   have q1308 : x7_1 < (l0.length : Int) := od
   obtain ⟨ad1308, e1308, hx1308_0⟩ := Kd.at_int HR0.out x7_1 p1308 q1308
   obtain rfl : ad1307 = ad1308 := (by injection e1308)
   replace p1308 := eT p1308
   replace q1308 := eT q1308
   have p1309 : 0 <= (a1 : Int) := od
   have q1309 : a1 < (l0.length : Int) := od
   obtain ⟨ad1309, e1309, hx1309_0⟩ := Kd.at_int HR0.out a1 p1309 q1309
   obtain rfl : ad1307 = ad1309 := (by injection e1309)
   replace p1309 := eT p1309
   replace q1309 := eT q1309
   have p1310 : 0 <= (x7_1 : Int) := od
   have q1310 : x7_1 < (l0.length : Int) := od
   obtain ⟨ad1310, e1310, hx1310_0⟩ := Kd.at_int HR0.out x7_1 p1310 q1310
   obtain rfl : ad1307 = ad1310 := (by injection e1310)
   replace p1310 := eT p1310
   replace q1310 := eT q1310
   go_wp2
   repeat (go_quiet (fail); try go_wp2)
   go_ret
   exact ⟨rs, dr⟩
theorem z4g {L : List Int} {i : Nat} (h : i < L.length) : rd L (i : Int) = L[i] := by
 unfold rd
 rw [Int.toNat_natCast, List.getD_eq_getElem?_getD, List.getElem?_eq_getElem h]
 rfl
theorem z3d {L : List Int} (a0 : Int) (l1 : List S76) {ins : List S93} (hl : L.length < 4611686018427387904) (hb : ∀ x ∈ L, 0 <= x /\ x < (ins.length : Int)) (hp : L.Pairwise (· < ·)) : ∀ (m i : Nat), i + m = L.length -> zc (fun k => Zp.l0 k L (i : Int) a0 l1 ins) true
 | 0, i, h => by
  refine zc.succ ?_
  simp only [Zp.l0]
  exact zc.ifF (by omega) (zc.pure _)
 | m + 1, i, h => by
  have hi : i < L.length := by omega
  have h1 := hb _ (List.getElem_mem hi)
  have hn : wrap64 ((i : Int) + 1) = ((i + 1 : Nat) : Int) := by rw [w64 (by omega) (by omega)]; rfl
  have ih := z3d a0 l1 hl hb hp m (i + 1) (by omega)
  refine zc.succ ?_
  simp only [Zp.l0]
  refine zc.ifT (by omega) (zc.ifT (by omega) (zc.ifF (by rw [z4g hi]; omega) (zc.ifF (by rw [z4g hi]; omega) ?_)))
  rw [hn]
  by_cases h0 : (i : Int) > 0
  ·have hn2 : wrap64 ((i : Int) - 1) = ((i - 1 : Nat) : Int) := by rw [w64 (by omega) (by omega)]; omega
   rw [hn2]
   have h2 := List.pairwise_iff_getElem.1 hp (i - 1) i (by omega) hi (by omega)
   exact zc.ifT h0 (zc.ifT (by omega) (zc.ifT (by omega) (zc.ifF (by rw [z4g hi, z4g (show i - 1 < L.length by omega)]; omega) ih)))
  ·exact zc.ifF h0 ih
theorem z38 {L : List Int} {wh at_ q : Int} (hw0 : 0 <= wh) (hw1 : wh < (L.length : Int)) (hl : L.length < 4611686018427387904) (hq : at_ < q) : ∀ (m i : Nat), i + m = L.length -> (∀ j : Nat, i <= j -> ∀ x, L[j]? = some x -> q <= x) -> ∀ k, m + 1 <= k -> Zr.l0 k L wh at_ (i : Int) = some true
 | 0, i, h, _, k + 1, _ => by
  simp only [Zr.l0]
  rw [if_neg (by omega)]
 | m + 1, i, h, hf, k + 1, hk => by
  have hi : i < L.length := by omega
  have hn : wrap64 ((i : Int) + 1) = ((i + 1 : Nat) : Int) := by rw [w64 (by omega) (by omega)]; rfl
  have ih := z38 hw0 hw1 hl hq m (i + 1) (by omega) (fun j hj => hf j (by omega)) k (by omega)
  have h2 := hf i (Nat.le_refl _) _ (List.getElem?_eq_getElem hi)
  simp only [Zr.l0]
  rw [if_pos (by omega), if_pos (by omega), if_pos hw0, if_pos hw1, hn]
  split
  ·rw [z4g hi, decide_eq_true (by omega)]
  ·exact ih
theorem z5V {L Z : List Int} {c : MC} {v : VC} (hf : Fin L Z c v) (h0 : c.ed ≠ 0) (hl : L.length < 4611686018427387904) {k : Nat} (hk : L.length + 2 <= k) : Zr.f k L c.wh v.wh = some true := by
 obtain ⟨w0, p, q, hp, h1, h2, h3⟩ := hf.at_ h0
 have hlt := (List.getElem?_eq_some_iff.1 hp).1
 have hrd : rd L c.wh = (p : Int) := by
  unfold rd
  rw [List.getD_eq_getElem?_getD, hp]
  rfl
 have hn : wrap64 (c.wh + 1) = ((c.wh.toNat + 1 : Nat) : Int) := by rw [w64 (by omega) (by omega)]; omega
 unfold Zr.f
 rw [if_pos w0, if_pos (by omega), if_neg (by rw [hrd]; omega), hn]
 exact z38 w0 (by omega) hl h2 (L.length - (c.wh.toNat + 1)) (c.wh.toNat + 1) (by omega) (fun j hj x hx => h3 j x hj hx) k (by omega)
def PlOk (k : Nat) (w : Int) (l1 : List S76) (body : List S81) : Prop := zR.f k body = some (kSs body : Int) /\ Zp.f k (ZA body 0) w l1 (zQ body) = some true /\ (ZA body 0).length = kSs body /\ kSs body < 900000
theorem z6W {n : Nat} {l1 : List S76} {body : List S81} (hl : body.length <= 9223372036854775807) (hg : ZC body) (hh : z0b n l1) (hv : IVs n l1 0 body) : ∃ k0, ∀ k, k0 <= k -> PlOk k (n : Int) l1 body := by
 obtain ⟨hk, ha⟩ := (z1I (n : Int) l1).2 body hv.2.2.1
 obtain ⟨h1, _, _⟩ := ha 0
 have hb := z75.2 body
 have hn := hv.2.2.2.1
 obtain ⟨k1, e1⟩ := tlk (z4H body hl hg (by omega))
 have hlen := Yn body 0
 obtain ⟨k2, e2⟩ := tlk (z3d (n : Int) l1 (ins := zQ body) (by omega) (fun x hx => by have := h1.2 x hx; rw [Ye]; omega) h1.1 (ZA body 0).length 0 (by omega))
 refine ⟨k1 + k2, fun k hkk => ⟨by rw [e1 k (by omega), hk], e2 k (by omega), hlen, by omega⟩⟩
def z4F (k : Nat) (w : Int) (l1 : List S76) (body : List S81) (fuel : Int) (st pk : List Int) (bf bi : Bool) : Prop := yX.f k body 600 = some bf /\ z0Q.f k w l1 body = some bi /\ Zh.f k w l1 body = some (if bi = true then 0 else 30) /\ (bi = true -> (ZA body 0).length + 2 <= k /\ z40 k w l1 body /\ PlOk k w l1 body /\ ∃ r, Zv.f k w l1 body fuel st pk = some r /\ (r = 0 -> yA.f k w l1 st = some true /\ RunOk k w l1 body fuel st pk))
theorem z3C (w : Int) (l1 : List S76) (body : List S81) (fuel : Int) (st pk : List Int) (hl : body.length <= 9223372036854775807) (hg : ZC body) (hst : st.length <= 9223372036854775807) (hpk : pk.length <= 9223372036854775807) : ∃ (k : Nat) (bf bi : Bool), z4F k w l1 body fuel st pk bf bi := by
 obtain ⟨k1, h1⟩ := tlk (fitsS body 600 hl hg (by decide) (by decide))
 obtain ⟨k2, h2⟩ := tlk (z3g w l1 body hl hg)
 obtain ⟨k3, h3⟩ := tlk (z3E w l1 body hl hg)
 by_cases hp : pIs w l1 body = true
 ·obtain ⟨n, rfl, hh, hv⟩ := prog_ok hp hg
  obtain ⟨k4, h4⟩ := z57 hp hh hv
  obtain ⟨kp, hpl⟩ := z6W hl hg hh hv
  obtain ⟨r, hr, hr0⟩ := z3K hp hl hg hh fuel st pk hst hpk
  obtain ⟨k5, h5⟩ := tlk hr
  rw [hp] at h2 h3
  by_cases h0 : r = 0
  ·obtain ⟨k6, h6⟩ := z60 hh hv (hr0 h0)
   obtain ⟨k7, h7⟩ : ∃ k0, ∀ k, k0 <= k -> yA.f k (n : Int) l1 st = some true := by
    have hS := z4E (n : Int) l1 st (by have := hh.1; omega) (by have := hh.2.1; omega) hh.2.2.2 hh.2.2.1 hst
    obtain ⟨_, _, hs, _⟩ := hr0 h0
    rw [show (decide ((st.length : Int) = cs l1) && z0I (2 ^ ((n : Int)).toNat) st) = true from ?_] at hS
    ·exact tlk hS
    ·rw [decide_eq_true hs.1, Bool.true_and, Int.toNat_natCast]
     exact z1M.2 (fun a ha => hs.2 a ha)
   obtain ⟨K, hK⟩ : ∃ K, K = k1 + k2 + k3 + k4 + k5 + k6 + k7 + kp + (ZA body 0).length + 2 := ⟨_, rfl⟩
   exact ⟨K, _, true, h1 K (by omega), h2 K (by omega), h3 K (by omega), fun _ => ⟨by omega, h4 K (by omega), hpl K (by omega), r, h5 K (by omega), fun _ => ⟨h7 K (by omega), h6 K (by omega)⟩⟩⟩
  ·obtain ⟨K, hK⟩ : ∃ K, K = k1 + k2 + k3 + k4 + k5 + kp + (ZA body 0).length + 2 := ⟨_, rfl⟩
   exact ⟨K, _, true, h1 K (by omega), h2 K (by omega), h3 K (by omega), fun _ => ⟨by omega, h4 K (by omega), hpl K (by omega), r, h5 K (by omega), fun h => absurd h h0⟩⟩
 ·rw [Bool.eq_false_iff.2 hp] at h2 h3
  obtain ⟨K, hK⟩ : ∃ K, K = k1 + k2 + k3 := ⟨_, rfl⟩
  exact ⟨K, _, false, h1 K (by omega), h2 K (by omega), h3 K (by omega), fun h => absurd h (by simp)⟩
theorem cmp_ok {k : Nat} {w : World} {a0 : Int} {l1 : List S76} {l2 : List S81} (hc : Zh.f k a0 l1 l2 = some 0) (H : z40 k a0 l1 l2) {A1 A2 : Option Addr} {n1 n2 : Nat} (h1 : Kd.C k76 w A1 l1.length l1) (hn1 : l1.length <= n1) (h2 : Kd.C k81 w A2 l2.length l2) (hn2 : l2.length <= n2) :
  Calls Tryz.prog 9 #[.agg (Vf a0 A1 l1 n1 A2 l2 n2)] w fun e w' => ∃ D1 d1 D2 d2, e = .returned (.tuple #[.agg (Vf a0 D1 l1 d1 D2 (zQ l2) d2), .int .i64 0]) /\ Kd.C k76 w' D1 l1.length l1 /\ l1.length <= d1 /\ Kd.C k93 w' D2 (zQ l2).length (zQ l2) /\ (zQ l2).length <= d2 /\ Below w.heap.size w w' := by
 refine (z0x.calls k a0 A1 n1 l1 A2 n2 l2 0 w h1 hn1 h2 hn2 hc (fun _ => H.1) (fun _ => H.2.1)).mono ?_
 rintro e w' ⟨v1, v2, rfl, r1, r2, hb⟩
 rw [show yI 0 a0 l1 l2 = (a0, l1, zQ l2, 0) by rw [yI, if_pos rfl]] at r1 r2 ⊢
 obtain ⟨D1, d1, rfl⟩ := Kd.R_slice r1
 obtain ⟨D2, d2, rfl⟩ := Kd.R_slice r2
 exact ⟨D1, d1, D2, d2, rfl, (Kd.R_reads' r1).2.2, (Kd.R_reads' r1).2.1, (Kd.R_reads' r2).2.2, (Kd.R_reads' r2).2.1, hb⟩
end Go.Proofs.YtnlekgadadifdaaGreat.Print
namespace Go.Proofs.YtnlekgadadifdaaGreat.Print
open Go.RowKit Go.Proofs.YtnlekgadadifdaaGreatW.PrintWords Go.Proofs.YtnlekgadadifdaaGreatW.PrintLast Go.Proofs.YtnlekgadadifdaaGreatW.PrintMore
attribute [local go_sem] zo zm zr zq zi zh zn zl
set_option linter.unusedVariables false
set_option linter.unusedSimpArgs false
open Go.RowKit
theorem pls_ok {k : Nat} {w : World} {a0 : Int} {l1 : List S76} {l2 : List S81} (hc : Zh.f k a0 l1 l2 = some 0) (H : z40 k a0 l1 l2) {A1 A2 : Option Addr} {n1 n2 : Nat} (h1 : Kd.C k76 w A1 l1.length l1) (hn1 : l1.length <= n1) (h2 : Kd.C k81 w A2 l2.length l2) (hn2 : l2.length <= n2) :
  Calls Tryz.prog 17 #[.agg #[.int .i64 a0, .slice A1 l1.length n1, .slice A2 l2.length n2]] w fun e w' => ∃ D d, e = .returned (.tuple #[.slice D (ZA l2 0).length d, .int .i64 0]) /\ Kd.C (Kd.int .i64) w' D (ZA l2 0).length (ZA l2 0) /\ (ZA l2 0).length <= d /\ Below w.heap.size w w' := by
 refine (z0W.calls k a0 A1 n1 l1 A2 n2 l2 0 w h1 hn1 h2 hn2 hc (fun _ => H.1)).mono ?_
 rintro e w' ⟨v, rfl, r, hb⟩
 rw [show z0B 0 l2 = (ZA l2 0, 0) by rw [z0B, if_pos rfl]] at r ⊢
 obtain ⟨D, d, rfl⟩ := Kd.R_slice r
 exact ⟨D, d, rfl, (Kd.R_reads' r).2.2, (Kd.R_reads' r).2.1, hb⟩
theorem pls_no {k : Nat} {w : World} {a0 : Int} {l1 : List S76} {l2 : List S81} (hc : Zh.f k a0 l1 l2 = some 30) {A1 A2 : Option Addr} {n1 n2 : Nat} (h1 : Kd.C k76 w A1 l1.length l1) (hn1 : l1.length <= n1) (h2 : Kd.C k81 w A2 l2.length l2) (hn2 : l2.length <= n2) :
  Calls Tryz.prog 17 #[.agg #[.int .i64 a0, .slice A1 l1.length n1, .slice A2 l2.length n2]] w fun e w' => ∃ D d, e = .returned (.tuple #[.slice D 0 d, .int .i64 30]) /\ Below w.heap.size w w' := by
 refine (z0W.calls k a0 A1 n1 l1 A2 n2 l2 30 w h1 hn1 h2 hn2 hc (fun h => absurd h (by decide))).mono ?_
 rintro e w' ⟨v, rfl, r, hb⟩
 rw [show z0B 30 l2 = ([], 30) by rw [z0B, if_neg (by decide)]] at r ⊢
 obtain ⟨D, d, rfl⟩ := Kd.R_slice r
 exact ⟨D, d, rfl, hb⟩
attribute [local go_sem] z4y
theorem compPlaces.walk (k : Nat) (a0 : Int) (A1 : Option Addr) (c1 : Nat) (l1 : List S76) (A2 : Option Addr) (c2 : Nat) (l2 : List S81) (fuel : Int) (As : Option Addr) (ns : Nat) (st : List Int) (Ap : Option Addr) (np : Nat) (pk : List Int) (bf bi : Bool) (w : World) (hr1 : Kd.C k76 w A1 l1.length l1) (hc1 : l1.length <= c1) (hr2 : Kd.C k81 w A2 l2.length l2) (hc2 : l2.length <= c2)
  (hs : Kd.C (Kd.int .i64) w As st.length st) (hns : st.length <= ns) (hp : Kd.C (Kd.int .i64) w Ap pk.length pk) (hnp : pk.length <= np) (H : z4F k a0 l1 l2 fuel st pk bf bi) :
  Calls Tryz.prog 4 #[.agg #[.int .i64 a0, .slice A1 l1.length c1, .slice A2 l2.length c2], .int .i64 fuel, .agg #[.slice As st.length ns, .slice Ap pk.length np]] w fun e w' => e = .returned (.bool true) /\ Below w.heap.size w w' := by
 have huP := Tryz.underlying25
 have huCo := Tryz.underlying33
 have huSt := Tryz.underlying28
 have huR := Tryz.underlying44
 have huVC := Tryz.underlying48
 have HR1 := am hr1
 have HC1 := am hc1
 have HR2 := am hr2
 have HC2 := am hc2
 have HS := am hs
 have HNS := am hns
 have HP := am hp
 have HNP := am hnp
 obtain ⟨hf, hi, hk, hgo⟩ := H
 have HF := am hf
 have HI := am hi
 have HK := am hk
 have HG := am hgo
 obtain ⟨b_, hsz_, x0_, x1_⟩ := z4x w (.cells #[.int .i64 a0, .slice A1 l1.length c1, .slice A2 l2.length c2] 25) (.cells #[.slice As st.length ns, .slice Ap pk.length np] 28)
 have B0 := am b_
 have X0 := am x0_
 have X1 := am x1_
 clear hr1 hc1 hr2 hc2 hs hns hp hnp hf hi hk hgo b_ hsz_ x0_ x1_
 go_enter Tryz.func4, Tryz.ntmps4
 go_upto_region 1 with (fail)
 generalize (w.alloc (.cells #[.int .i64 a0, .slice A1 l1.length c1, .slice A2 l2.length c2] 25)).alloc (.cells #[.slice As st.length ns, .slice Ap pk.length np] 28) = W0 at B0 X0 X1 ⊢
 have p_q := bq X0.out
 cases bf with
 | false =>
  go_wp2_with (first | (go_at_call 7; refine (yX.calls k A2 c2 l2 600 false W0 (Kd.C_below HR2.out B0.out) HC2.out HF.out).mono ?_; rintro e W1 ⟨rfl, hb⟩; have B1 := am (B0.out.trans (hb.mono B0.out.size)); have X0 := am (zd X0.out hb); have X1 := am (zd X1.out hb); clear hb; clear p_q; have p_q := bq X0.out) | (go_at_call 8; refine (z3r.calls _).mono ?_; rintro e W9 ⟨rfl, hb⟩; have B9 := am (B1.out.trans (hb.mono B1.out.size)); clear hb))
  go_ret
  exact ⟨rfl, B9.out⟩
 | true =>
  go_upto_region 3 with (first | (go_at_call 7; refine (yX.calls k A2 c2 l2 600 true W0 (Kd.C_below HR2.out B0.out) HC2.out HF.out).mono ?_; rintro e W1 ⟨rfl, hb⟩; have B1 := am (B0.out.trans (hb.mono B0.out.size)); have X0 := am (zd X0.out hb); have X1 := am (zd X1.out hb); clear hb; clear p_q; have p_q := bq X0.out))
  clear B0
  cases bi with
  | false =>
   have HK' := am (show Zh.f k a0 l1 l2 = some 30 from HK.out)
   clear HK
   go_wp2_with (first | (go_at_call 17; refine (pls_no HK'.out (w := W1) (Kd.C_below HR1.out B1.out) HC1.out (Kd.C_below HR2.out B1.out) HC2.out).mono ?_; rintro e W2 ⟨D, d, rfl, hb⟩; have B2 := am (B1.out.trans (hb.mono B1.out.size)); have X0 := am (zd X0.out hb); clear hb; clear p_q; have p_q := bq X0.out) | (go_at_call 10; refine (z0Q.calls k a0 _ _ l1 _ _ l2 false W2 (Kd.C_below HR1.out B2.out) HC1.out (Kd.C_below HR2.out B2.out) HC2.out HI.out).mono ?_; rintro e W3 ⟨rfl, hb⟩; have B3 := am (B2.out.trans (hb.mono B2.out.size)); have X0 := am (zd X0.out hb); clear hb; clear p_q; have p_q := bq X0.out) | (go_at_call 8; refine (z3r.calls _).mono ?_; rintro e W9 ⟨rfl, hb⟩; have B9 := am (B3.out.trans (hb.mono B3.out.size)); clear hb))
   go_ret
   exact ⟨rfl, B9.out⟩
  | true =>
   have HK' := am (show Zh.f k a0 l1 l2 = some 0 from HK.out)
   obtain ⟨hkk, hco, hpl, r, hr, hr0⟩ := HG.out rfl
   obtain ⟨hcn, hri, hpn, hks⟩ := hpl
   have HKK := am hkk
   have HCO := am hco
   have HCN := am hcn
   have HRI := am hri
   have HPN := am hpn
   have HKS := am hks
   have HRR := am hr
   have HR0 := am hr0
   clear HK HG hkk hco hcn hri hpn hks hr hr0
   go_upto_region 7 with (first | (go_at_call 17; refine (pls_ok HK'.out HCO.out (w := W1) (Kd.C_below HR1.out B1.out) HC1.out (Kd.C_below HR2.out B1.out) HC2.out).mono ?_; rintro e W2 ⟨D, d, rfl, rl, nl, hb⟩; have RL := am rl; have NL := am nl; have B2 := am (B1.out.trans (hb.mono B1.out.size)); have X0 := am (zd X0.out hb); have X1 := am (zd X1.out hb); clear hb rl nl; clear p_q; have p_q := bq X0.out) | (go_at_call 10; refine (z0Q.calls k a0 _ _ l1 _ _ l2 true W2 (Kd.C_below HR1.out B2.out) HC1.out (Kd.C_below HR2.out B2.out) HC2.out HI.out).mono ?_; rintro e W3 ⟨rfl, hb⟩; have B3 := am (B2.out.trans (hb.mono B2.out.size)); have X0 := am (zd X0.out hb); have X1 := am (zd X1.out hb); have RL := am (Kd.C_below RL.out hb); clear hb; clear p_q; have p_q := bq X0.out) | (go_at_call 9; refine (cmp_ok HK'.out HCO.out (w := W3) (Kd.C_below HR1.out B3.out) HC1.out (Kd.C_below HR2.out B3.out) HC2.out).mono ?_; rintro e W4 ⟨D1, d1, D2, d2, rfl, r1, n1, r2, n2, hb⟩; have R1 := am r1; have R2 := am r2; have N1 := am n1; have N2 := am n2; have B4 := am (B3.out.trans (hb.mono B3.out.size)); have X0 := am (zd X0.out hb); have X1 := am (zd X1.out hb); have RL := am (Kd.C_below RL.out hb); clear hb r1 r2 n1 n2; clear p_q; have p_q := bq X0.out))
   clear p_q B1 B2 B3
   have ba := bal B4.out (.cells #[.int .i64 a0, .slice D1 l1.length d1, .slice D2 (zQ l2).length d2] 33)
   have nb := zH W4 (.cells #[.int .i64 a0, .slice D1 l1.length d1, .slice D2 (zQ l2).length d2] 33)
   have bs := bal (Below.refl W4.heap.size W4) (.cells #[.int .i64 a0, .slice D1 l1.length d1, .slice D2 (zQ l2).length d2] 33)
   have X0 := am (kal X0.out (.cells #[.int .i64 a0, .slice D1 l1.length d1, .slice D2 (zQ l2).length d2] 33))
   have X1 := am (kal X1.out (.cells #[.int .i64 a0, .slice D1 l1.length d1, .slice D2 (zQ l2).length d2] 33))
   have R1 := am (Kd.C_below R1.out bs)
   have R2 := am (Kd.C_below R2.out bs)
   have RL := am (Kd.C_below RL.out bs)
   clear bs
   generalize W4.alloc (.cells #[.int .i64 a0, .slice D1 l1.length d1, .slice D2 (zQ l2).length d2] 33) = W5 at ba nb X0 X1 R1 R2 RL ⊢
   have B5 := am ba
   have XC := am nb
   clear ba nb
   have p_q := bq X0.out
   have q_q := bq XC.out
   have hlen : decide (((ZA l2 0).length : Int) = (kSs l2 : Int)) = true := dT (by have := HPN.out; omega)
   have hlenb : (((ZA l2 0).length : Int) == (kSs l2 : Int)) = true := bT (by have := HPN.out; omega)
   have hlenn : (((ZA l2 0).length : Int) != (kSs l2 : Int)) = false := bQ (by have := HPN.out; omega)
   go_upto_region 9 with (first | (go_at_call 18; refine (z5M.calls k a0 D1 d1 l1 D2 d2 (zQ l2) W5 R1.out N1.out R2.out N2.out HCO.out.2.2.1 (by rw [Ye]; omega) HCO.out.2.2.2.1 HCO.out.2.2.2.2.1 (.inr (z6k l2))).mono ?_; rintro e W6 ⟨rfl, hb⟩; have B6 := am (B5.out.trans (hb.mono B5.out.size)); have X0 := am (zd X0.out hb); have X1 := am (zd X1.out hb); have XC := am (zd XC.out hb); have R1 := am (Kd.C_below R1.out hb); have R2 := am (Kd.C_below R2.out hb); have RL := am (Kd.C_below RL.out hb); clear hb; clear p_q; have p_q := bq X0.out; clear q_q; have q_q := bq XC.out) | (go_at_call 19; refine (zR.calls k A2 c2 l2 _ W6 (Kd.C_below HR2.out B6.out) HC2.out HCN.out).mono ?_; rintro e W7 ⟨rfl, hb⟩; have B7 := am (B6.out.trans (hb.mono B6.out.size)); have X0 := am (zd X0.out hb); have X1 := am (zd X1.out hb); have XC := am (zd XC.out hb); have R1 := am (Kd.C_below R1.out hb); have R2 := am (Kd.C_below R2.out hb); have RL := am (Kd.C_below RL.out hb); clear hb; clear p_q; have p_q := bq X0.out; clear q_q; have q_q := bq XC.out) | (go_at_call 20; refine (Zp.calls k D d (ZA l2 0) a0 D1 d1 l1 D2 d2 (zQ l2) true W7 RL.out NL.out R1.out N1.out R2.out N2.out HRI.out).mono ?_; rintro e W8 ⟨rfl, hb⟩; have B8 := am (B7.out.trans (hb.mono B7.out.size)); have X0 := am (zd X0.out hb); have X1 := am (zd X1.out hb); have XC := am (zd XC.out hb); have R1 := am (Kd.C_below R1.out hb); have R2 := am (Kd.C_below R2.out hb); have RL := am (Kd.C_below RL.out hb); clear hb; clear p_q; have p_q := bq X0.out; clear q_q; have q_q := bq XC.out))
   clear B4 B5 B6 B7 hlen hlenb hlenn
   obtain ⟨t0, t1⟩ : W8.cell? ⟨w.heap.size + 1, 0, none⟩ = some (.slice As st.length ns) /\ W8.cell? ⟨w.heap.size + 1, 1, none⟩ = some (.slice Ap pk.length np) := ⟨(za X1.out 0).trans rfl, (za X1.out 1).trans rfl⟩
   by_cases h0 : r = 0
   case neg =>
    have hd : decide (r = 0) = false := dF h0
    have hdb : (r == 0) = false := bF h0
    have hdn : (r != 0) = true := bN h0
    go_wp2_with (first | (go_at_call 13; refine (Zv.calls k a0 A1 c1 l1 A2 c2 l2 fuel As ns st Ap np pk r W8 (Kd.C_below HR1.out B8.out) HC1.out (Kd.C_below HR2.out B8.out) HC2.out (Kd.C_below HS.out B8.out) HNS.out (Kd.C_below HP.out B8.out) HNP.out HRR.out).mono ?_; rintro e W10 ⟨rfl, hb⟩; have B10 := am (B8.out.trans (hb.mono B8.out.size)); have X0 := am (zd X0.out hb); have X1 := am (zd X1.out hb); have XC := am (zd XC.out hb); have R1 := am (Kd.C_below R1.out hb); have R2 := am (Kd.C_below R2.out hb); have RL := am (Kd.C_below RL.out hb); clear hb; clear p_q; have p_q := bq X0.out; clear q_q; have q_q := bq XC.out; clear t0 t1; obtain ⟨t0, t1⟩ : W10.cell? ⟨w.heap.size + 1, 0, none⟩ = some (.slice As st.length ns) /\ W10.cell? ⟨w.heap.size + 1, 1, none⟩ = some (.slice Ap pk.length np) := ⟨(za X1.out 0).trans rfl, (za X1.out 1).trans rfl⟩) | (go_at_call 8; refine (z3r.calls _).mono ?_; rintro e W9 ⟨rfl, hb⟩; have B9 := am (B10.out.trans (hb.mono B10.out.size)); clear hb))
    go_ret
    exact ⟨rfl, B9.out⟩
   subst h0
   obtain ⟨hst, cn, nd, ev, va, rr, c', g1, g2, g3, g4, g5⟩ := HR0.out rfl
   have HST := am hst
   have G1 := am g1
   have G2 := am g2
   have G3 := am g3
   have G4 := am g4
   have G5 := am g5
   clear hst g1 g2 g3 g4 g5 HR0
   go_upto_region 12 with (first | (go_at_call 13; refine (Zv.calls k a0 A1 c1 l1 A2 c2 l2 fuel As ns st Ap np pk 0 W8 (Kd.C_below HR1.out B8.out) HC1.out (Kd.C_below HR2.out B8.out) HC2.out (Kd.C_below HS.out B8.out) HNS.out (Kd.C_below HP.out B8.out) HNP.out HRR.out).mono ?_; rintro e W10 ⟨rfl, hb⟩; have B10 := am (B8.out.trans (hb.mono B8.out.size)); have X0 := am (zd X0.out hb); have X1 := am (zd X1.out hb); have XC := am (zd XC.out hb); have R1 := am (Kd.C_below R1.out hb); have R2 := am (Kd.C_below R2.out hb); have RL := am (Kd.C_below RL.out hb); clear hb; clear p_q; have p_q := bq X0.out; clear q_q; have q_q := bq XC.out; clear t0 t1; obtain ⟨t0, t1⟩ : W10.cell? ⟨w.heap.size + 1, 0, none⟩ = some (.slice As st.length ns) /\ W10.cell? ⟨w.heap.size + 1, 1, none⟩ = some (.slice Ap pk.length np) := ⟨(za X1.out 0).trans rfl, (za X1.out 1).trans rfl⟩) | (go_at_call 21; refine (yA.calls k a0 D1 d1 l1 As ns st true W10 R1.out N1.out (Kd.C_below HS.out B10.out) HNS.out HST.out).mono ?_; rintro e W11 ⟨rfl, hb⟩; have hb := Zg hb; have B11 := am (B10.out.trans (hb.mono B10.out.size)); have X0 := am (zd X0.out hb); have X1 := am (zd X1.out hb); have XC := am (zd XC.out hb); have R1 := am (Kd.C_below R1.out hb); have R2 := am (Kd.C_below R2.out hb); have RL := am (Kd.C_below RL.out hb); clear hb; clear p_q; have p_q := bq X0.out; clear q_q; have q_q := bq XC.out; clear t0 t1; obtain ⟨t0, t1⟩ : W11.cell? ⟨w.heap.size + 1, 0, none⟩ = some (.slice As st.length ns) /\ W11.cell? ⟨w.heap.size + 1, 1, none⟩ = some (.slice Ap pk.length np) := ⟨(za X1.out 0).trans rfl, (za X1.out 1).trans rfl⟩) | (go_at_call 14; refine (m_run.calls cn nd ev va rr W11 k a0 A1 c1 l1 A2 c2 l2 fuel As ns st Ap np pk c' (Kd.C_below HR1.out B11.out) HC1.out (Kd.C_below HR2.out B11.out) HC2.out G1.out (Kd.C_below HS.out B11.out) HNS.out G2.out (Kd.C_below HP.out B11.out) HNP.out G3.out G4.out).mono ?_; rintro e W12 ⟨E1, e1, E2, e2, E3, e3, rfl, m1, l1_, m2, l2_, m3, l3_, hb⟩; have B12 := am (B11.out.trans (hb.mono B11.out.size)); have X0 := am (zd X0.out hb); have X1 := am (zd X1.out hb); have XC := am (zd XC.out hb); have R1 := am (Kd.C_below R1.out hb); have R2 := am (Kd.C_below R2.out hb); have RL := am (Kd.C_below RL.out hb); clear hb m1 m2 m3 l1_ l2_ l3_))
   clear p_q q_q t0 t1 B8 B10 B11
   have ba := bal B12.out (.cells #[.int .i64 c'.ed, .slice E1 c'.st.length e1, .slice E2 c'.ou.length e2, .slice E3 c'.tr.length e3, .int .i64 c'.co, .int .i64 c'.us, .int .i64 c'.wh] 44)
   have nb := zH W12 (.cells #[.int .i64 c'.ed, .slice E1 c'.st.length e1, .slice E2 c'.ou.length e2, .slice E3 c'.tr.length e3, .int .i64 c'.co, .int .i64 c'.us, .int .i64 c'.wh] 44)
   have bs := bal (Below.refl W12.heap.size W12) (.cells #[.int .i64 c'.ed, .slice E1 c'.st.length e1, .slice E2 c'.ou.length e2, .slice E3 c'.tr.length e3, .int .i64 c'.co, .int .i64 c'.us, .int .i64 c'.wh] 44)
   have X0 := am (kal X0.out (.cells #[.int .i64 c'.ed, .slice E1 c'.st.length e1, .slice E2 c'.ou.length e2, .slice E3 c'.tr.length e3, .int .i64 c'.co, .int .i64 c'.us, .int .i64 c'.wh] 44))
   have X1 := am (kal X1.out (.cells #[.int .i64 c'.ed, .slice E1 c'.st.length e1, .slice E2 c'.ou.length e2, .slice E3 c'.tr.length e3, .int .i64 c'.co, .int .i64 c'.us, .int .i64 c'.wh] 44))
   have XC := am (kal XC.out (.cells #[.int .i64 c'.ed, .slice E1 c'.st.length e1, .slice E2 c'.ou.length e2, .slice E3 c'.tr.length e3, .int .i64 c'.co, .int .i64 c'.us, .int .i64 c'.wh] 44))
   have R1 := am (Kd.C_below R1.out bs)
   have R2 := am (Kd.C_below R2.out bs)
   have RL := am (Kd.C_below RL.out bs)
   clear bs
   generalize W12.alloc (.cells #[.int .i64 c'.ed, .slice E1 c'.st.length e1, .slice E2 c'.ou.length e2, .slice E3 c'.tr.length e3, .int .i64 c'.co, .int .i64 c'.us, .int .i64 c'.wh] 44) = W13 at ba nb X0 X1 XC R1 R2 RL ⊢
   have B13 := am ba
   have XR := am nb
   clear ba nb
   have z0 : W13.cell? ⟨W12.heap.size, 0, none⟩ = some (.int .i64 c'.ed) := (za XR.out 0).trans rfl
   by_cases h0 : c'.ed = 0
   case pos =>
    have f0 : (c'.ed == 0) = true := bT h0
    clear h0
    go_wp2_with (first | (go_at_call 8; refine (z3r.calls _).mono ?_; rintro e W9 ⟨rfl, hb⟩; have B9 := am (B13.out.trans (hb.mono B13.out.size)); clear hb))
    go_ret
    exact ⟨rfl, B9.out⟩
   by_cases h3 : c'.ed = 3
   case pos =>
    have f0 : (c'.ed == 3) = true := bT h3
    have fz : (c'.ed == 0) = false := bF (by rw [h3]; decide)
    clear h3
    clear h0
    go_wp2_with (first | (go_at_call 8; refine (z3r.calls _).mono ?_; rintro e W9 ⟨rfl, hb⟩; have B9 := am (B13.out.trans (hb.mono B13.out.size)); clear hb))
    go_ret
    exact ⟨rfl, B9.out⟩
   have f0 : (c'.ed == 0) = false := bF h0
   have f3 : (c'.ed == 3) = false := bF h3
   obtain ⟨v', N, g2, g3, g4, _⟩ := G5.out.resolve_left h3
   have hw := z5V g2 h0 (by have := HPN.out; have := HKS.out; omega) HKK.out
   have hee := g2.ed
   have F2 := am g3
   have F3 := am g4
   have F4 := am hw
   have F5 := am hee
   clear g2 g3 g4 hw hee h0 h3 G5
   obtain ⟨t0, t1⟩ : W13.cell? ⟨w.heap.size + 1, 0, none⟩ = some (.slice As st.length ns) /\ W13.cell? ⟨w.heap.size + 1, 1, none⟩ = some (.slice Ap pk.length np) := ⟨(za X1.out 0).trans rfl, (za X1.out 1).trans rfl⟩
   have q_q := bq XC.out
   go_upto_region 15 with (first | (go_at_call 16; refine (z6y.calls k N W13 a0 D1 d1 l1 D2 d2 (zQ l2) 4194304 As ns st Ap np pk st v' R1.out N1.out R2.out N2.out (Kd.C_below HS.out B13.out) HNS.out (Kd.C_below HP.out B13.out) HNP.out G2.out F2.out F3.out).mono ?_; rintro e W14 ⟨cs, rfl, hv, hb⟩; obtain ⟨V1, x1, V2, x2, V3, x3, V7, x7, V8, x8, rfl, _⟩ := hv; have B14 := am (B13.out.trans (hb.mono B13.out.size)); have XR := am (zd XR.out hb); have RL := am (Kd.C_below RL.out hb); clear hb))
   clear q_q t0 t1 z0
   have ba := bal B14.out (.cells #[.int .i64 v'.ed, .slice V1 v'.st.length x1, .slice V2 v'.ou.length x2, .slice V3 v'.tr.length x3, .int .i64 v'.co, .int .i64 v'.us, .int .i64 v'.wh] 44)
   have nb := zH W14 (.cells #[.int .i64 v'.ed, .slice V1 v'.st.length x1, .slice V2 v'.ou.length x2, .slice V3 v'.tr.length x3, .int .i64 v'.co, .int .i64 v'.us, .int .i64 v'.wh] 44)
   have bs := bal (Below.refl W14.heap.size W14) (.cells #[.int .i64 v'.ed, .slice V1 v'.st.length x1, .slice V2 v'.ou.length x2, .slice V3 v'.tr.length x3, .int .i64 v'.co, .int .i64 v'.us, .int .i64 v'.wh] 44)
   have XR := am (kal XR.out (.cells #[.int .i64 v'.ed, .slice V1 v'.st.length x1, .slice V2 v'.ou.length x2, .slice V3 v'.tr.length x3, .int .i64 v'.co, .int .i64 v'.us, .int .i64 v'.wh] 44))
   have RL := am (Kd.C_below RL.out bs)
   clear bs
   generalize W14.alloc (.cells #[.int .i64 v'.ed, .slice V1 v'.st.length x1, .slice V2 v'.ou.length x2, .slice V3 v'.tr.length x3, .int .i64 v'.co, .int .i64 v'.us, .int .i64 v'.wh] 44) = W15 at ba nb XR RL ⊢
   have B15 := am ba
   have XV := am nb
   clear ba nb
   have z0 : W15.cell? ⟨W12.heap.size, 0, none⟩ = some (.int .i64 c'.ed) := (za XR.out 0).trans rfl
   have z6 : W15.cell? ⟨W12.heap.size, 6, none⟩ = some (.int .i64 c'.wh) := (za XR.out 6).trans rfl
   have y0 : W15.cell? ⟨W14.heap.size, 0, none⟩ = some (.int .i64 c'.ed) := (za XV.out 0).trans (by rw [<- F5.out]; rfl)
   have y6 : W15.cell? ⟨W14.heap.size, 6, none⟩ = some (.int .i64 v'.wh) := (za XV.out 6).trans rfl
   go_wp2_with (first | (go_at_call 22; refine (Zr.calls k D d (ZA l2 0) c'.wh v'.wh true W15 RL.out NL.out F4.out).mono ?_; rintro e W16 ⟨rfl, hb⟩; have hb := Zg hb; have B16 := am (B15.out.trans (hb.mono B15.out.size)); clear hb) | (go_at_call 8; refine (z3r.calls _).mono ?_; rintro e W9 ⟨rfl, hb⟩; have B9 := am (B16.out.trans (hb.mono B16.out.size)); clear hb))
   go_ret
   exact ⟨rfl, B9.out⟩
end Go.Proofs.YtnlekgadadifdaaGreat.Print
namespace Go.Proofs.YtnlekgadadifdaaGreat.Print
open Go.RowKit Go.Proofs.YtnlekgadadifdaaGreatW.PrintWords Go.Proofs.YtnlekgadadifdaaGreatW.PrintLast Go.Proofs.YtnlekgadadifdaaGreatW.PrintMore
attribute [local go_sem] zo zm zr zq zi zh zn zl 
set_option linter.unusedVariables false
set_option linter.unusedSimpArgs false
theorem z3D (a0 : Int) (A1 : Option Addr) (c1 : Nat) (l1 : List S76) (A2 : Option Addr) (c2 : Nat) (l2 : List S81) (fuel : Int) (As : Option Addr) (ns : Nat) (st : List Int) (Ap : Option Addr) (np : Nat) (pk : List Int) (w : World) (hr1 : Kd.C k76 w A1 l1.length l1) (hc1 : l1.length <= c1) (hr2 : Kd.C k81 w A2 l2.length l2) (hc2 : l2.length <= c2)
  (hs : Kd.C (Kd.int .i64) w As st.length st) (hns : st.length <= ns) (hp : Kd.C (Kd.int .i64) w Ap pk.length pk) (hnp : pk.length <= np) (hl : l2.length <= 9223372036854775807) (hg : ZC l2) (hst : st.length <= 9223372036854775807) (hpk : pk.length <= 9223372036854775807) :
  Calls Tryz.prog 4 #[.agg (Vf a0 A1 l1 c1 A2 l2 c2), .int .i64 fuel, .agg (Vn As st ns Ap pk np)] w fun e w' => e = .returned (.bool true) /\ Below w.heap.size w w' := by
 obtain ⟨k, bf, bi, h⟩ := z3C a0 l1 l2 fuel st pk hl hg hst hpk
 exact compPlaces.walk k a0 A1 c1 l1 A2 c2 l2 fuel As ns st Ap np pk bf bi w hr1 hc1 hr2 hc2 hs hns hp hnp h
end Go.Proofs.YtnlekgadadifdaaGreat.Print
