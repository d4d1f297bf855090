/- For every program the law CompOwn returns true, and what came in reads as before. No condition. -/
import Derived.Test.YtnlekgadadifdaaO4
set_option maxRecDepth 100000
set_option maxHeartbeats 16000000
namespace Go.Proofs.Ytnlekgadadifdaa.Print
open Go.RowKit Go.Proofs.YtnlekgadadifdaaW.PrintWords Go.Proofs.YtnlekgadadifdaaW.PrintLast Go.Proofs.YtnlekgadadifdaaW.PrintMore
attribute [local go_sem] max2_int min2_int max_two min_two max_three min_three max_four min_four
set_option linter.unusedVariables false
set_option linter.unusedSimpArgs false
open Go.RowKit
def rg (l : List Int) (i : Int) : Int := l.getD i.toNat 0
def vVal (k : Nat) (wd : Int) (re : List Int) (i : S40) : Option Int := if i.f2 = 12 then r1_Not.f k wd (rg re i.f3) else r1_Do.f k i.f2 wd (rg re i.f3) (rg re i.f4)
def vIdx (l1 : List S42) (re : List Int) (v : Nat) (s : Int) : Int := if (rd_T42 l1 v).f2 < 2 then 0 else Int.tmod (rg re s) (rd_T42 l1 v).f2
theorem drawn0_below {w w' : World} (h : Drawn0 w w') : Below w.heap.size w w' := by
  obtain ⟨n, rfl⟩ := h
  exact bdN (Below.refl _ _) n
theorem vm_index.calls (w0 w : World) (Q : Nat → Prop) (cs : Array Value) (c : VC) (wd : Int) (Av : Option Addr) (cv : Nat) (l1 : List S42) (Ai : Option Addr) (L ci : Nat) (v : Nat) (s : Int) (hB : Below w0.heap.size w0 w) (hV : VR w w0.heap.size Q cs c) (hQ : ∀ k, Q k → k < w.heap.size) (hr1 : Kd.C k42 w0 Av l1.length l1) (hc1 : l1.length ≤ cv) (hv : v < l1.length) (hs : ¬ (rd_T42 l1 v).f2 < 2 → 0 ≤ s ∧ s < c.re.length) :
    Calls Try.prog 69 #[.agg #[.int .i64 wd, .slice Av l1.length cv, .slice Ai L ci], .agg cs, .int .i64 (v : Int), .int .i64 s] w fun e w' => e = .returned (.int .i64 (vIdx l1 c.re v s)) ∧ Below w.heap.size w w' := by
  obtain ⟨A1, n1, A2, n2, A3, n3, A7, n7, A8, n8, rfl, hh⟩ := id hV
  clear hh
  obtain ⟨b_, hsz_, x0_, x1_⟩ := box2 w (.cells #[.int .i64 wd, .slice Av l1.length cv, .slice Ai L ci] 31) (.cells #[.int .i64 c.ed, .slice A1 c.st.length n1, .slice A2 c.ou.length n2, .slice A3 c.tr.length n3, .int .i64 c.co, .int .i64 c.us, .int .i64 c.wh, .slice A7 c.re.length n7, .slice A8 c.tl.length n8, .int .i64 c.pc, .int .i64 c.fu, .bool c.ov] 64)
  have HV0 := Aside0.mk (hV.below b_)
  have HB0 := Aside0.mk (hB.trans (b_.mono hB.size))
  have HK0 := Aside0.mk (show Kept w _ Q from Kept.of_below b_ _)
  have HBW := Aside0.mk b_
  have HSZ := Aside0.mk hsz_
  have XB0 := Aside0.mk x0_
  have XB1 := Aside0.mk x1_
  have HQ := Aside0.mk hQ
  have hBs := hB.size
  have HR1 := Aside0.mk hr1
  have HC1 := Aside0.mk hc1
  clear hsz_ hQ hB hr1 hc1 b_ x0_ x1_
  have hlen := HR1.out.2.1
  obtain ⟨ad, rfl, q0, q1, q2⟩ := at_T42 HR1.out (v : Int) (by omega) (by omega)
  replace q2 := (HB0.out.cell (World.block_lt_of_cell? w0 _ q2)).trans q2
  rw [Int.toNat_natCast] at q2
  clear q0 q1
  go_enter Try.func69, Try.ntmps69
  go_upto_region 1 with (fail)
  generalize (w.alloc (.cells #[.int .i64 wd, .slice (some ad) l1.length cv, .slice Ai L ci] 31)).alloc (.cells #[.int .i64 c.ed, .slice A1 c.st.length n1, .slice A2 c.ou.length n2, .slice A3 c.tr.length n3, .int .i64 c.co, .int .i64 c.us, .int .i64 c.wh, .slice A7 c.re.length n7, .slice A8 c.tl.length n8, .int .i64 c.pc, .int .i64 c.fu, .bool c.ov] 64) = W0 at HV0 HB0 HK0 HBW HSZ XB0 XB1 q2 ⊢
  have p1 : W0.cell? ⟨w.heap.size, 1, none⟩ = some (.slice (some ad) l1.length cv) := (blk_cell XB0.out 1).trans rfl
  have hlt : (v : Int) < (l1.length : Int) := by omega
  obtain ⟨z, hz⟩ : ∃ z, (rd_T42 l1 v).f2 = z := ⟨_, rfl⟩
  rw [hz] at q2 hs
  have HZ := Aside0.mk hz
  clear hz
  by_cases hz2 : z < 2
  · have d2 : decide (z < 2) = true := decide_eq_true hz2
    go_wp2
    go_ret
    exact ⟨by rw [vIdx, HZ.out, if_pos hz2]; rfl, HBW.out⟩
  · have d2 : decide (z < 2) = false := decide_eq_false hz2
    obtain ⟨s0, s1⟩ := hs hz2
    have hn0 : z ≠ 0 := by omega
    have HD := Aside0.mk (below_drew HBW.out)
    have q2d : W0.drew.cell? ⟨(ad.add (v * 3)).block, (ad.add (v * 3)).off + 2, none⟩ = some (.int .i64 z) := q2
    obtain ⟨g, m7, e7, qg, qf, hQg, hBg, hgl, hput⟩ := (HV0.out.below (below_drew (Below.refl _ _))).reg s.toNat (by omega)
    obtain ⟨rfl, rfl⟩ : A7 = some ⟨g, 0, none⟩ ∧ n7 = m7 := by
      have := Option.some.inj e7
      injection this with h1 h2 h3
      exact ⟨h1, h3⟩
    clear e7 hput qf hs
    have XD0 := Aside0.mk (kdr XB0.out)
    have XD1 := Aside0.mk (kdr XB1.out)
    have Q2 := Aside0.mk q2d
    have QG := Aside0.mk (show W0.drew.cell? ⟨g, s.toNat, none⟩ = some (.int .i64 (rg c.re s)) from qg)
    clear q2d qg
    go_wp2
    refine start_ (n := 13) (S := fun w' => w'.cell? ⟨w.heap.size + 1, 7, none⟩ = some (.slice (some ⟨g, 0, none⟩) c.re.length n7) ∧ w'.cell? ⟨w.heap.size, 1, none⟩ = some (.slice (some ad) l1.length cv) ∧ w'.cell? ⟨g, s.toNat, none⟩ = some (.int .i64 (rg c.re s)) ∧ w'.cell? ⟨(ad.add (v * 3)).block, (ad.add (v * 3)).off + 2, none⟩ = some (.int .i64 z)) (ds := []) #[false, false, false, false, false, false, false, false, false, false, false, false, false] (by kernel_rfl) rfl rfl ⟨(blk_cell XD1.out 7).trans rfl, (blk_cell XD0.out 1).trans rfl, QG.out, Q2.out⟩ (fun hHeld => ?_)
    refine pu (i := 0) (N := some 16) (bl 13 1) rfl rfl (by kernel_rfl) ?_
    refine tk (i := 1) (N := some 17) (bl 13 3) rfl rfl (by kernel_rfl) hHeld ?_
    refine pu (i := 2) (N := some 18) (bl 13 7) rfl rfl (by kernel_rfl) ?_
    refine pu (i := 3) (N := some 19) (bl 13 15) rfl rfl (by kernel_rfl) ?_
    refine tk (i := 4) (N := some 20) (bl 13 31) rfl rfl (by kernel_rfl) hHeld ?_
    refine pu (i := 5) (N := some 21) (bl 13 63) rfl rfl (by kernel_rfl) ?_
    refine tk (i := 6) (N := some 22) (bl 13 127) rfl rfl (by kernel_rfl) hHeld ?_
    refine pu (i := 7) (N := some 23) (bl 13 255) rfl rfl (by kernel_rfl) ?_
    refine pu (i := 8) (N := some 24) (bl 13 511) rfl rfl (by kernel_rfl) ?_
    refine pu (i := 9) (N := some 25) (bl 13 1023) rfl rfl (by kernel_rfl) ?_
    refine tk (i := 10) (N := some 26) (bl 13 2047) rfl rfl (by kernel_rfl) hHeld ?_
    refine pu (i := 11) (N := some 27) (bl 13 4095) rfl rfl (by kernel_rfl) ?_
    refine pu (i := 12) (N := some 8) (bl 13 8191) rfl rfl (by kernel_rfl) ?_
    refine done_ (by kernel_rfl) ?_
    go_wp2
    go_ret
    exact ⟨by rw [vIdx, HZ.out, if_neg (by omega)]; rfl, HD.out⟩
theorem vm_value.calls (k : Nat) (w0 w : World) (Q : Nat → Prop) (cs : Array Value) (c : VC) (wd : Int) (Av : Option Addr) (cv : Nat) (l1 : List S42) (Ai : Option Addr) (L ci : Nat) (i : S40) (r : Int) (hB : Below w0.heap.size w0 w) (hV : VR w w0.heap.size Q cs c) (hQ : ∀ k, Q k → k < w.heap.size) (hr1 : Kd.C k42 w0 Av l1.length l1) (hc1 : l1.length ≤ cv) (hc3 : 0 ≤ i.f3 ∧ i.f3 < c.re.length) (hc4 : i.f2 ≠ 12 → 0 ≤ i.f4 ∧ i.f4 < c.re.length) (h : vVal k wd c.re i = some r) :
    Calls Try.prog 55 #[.agg #[.int .i64 wd, .slice Av l1.length cv, .slice Ai L ci], .agg cs, .agg #[.int .i64 i.f0, .int .i64 i.f1, .int .i64 i.f2, .int .i64 i.f3, .int .i64 i.f4]] w fun e w' => e = .returned (.int .i64 r) ∧ Below w.heap.size w w' := by
  obtain ⟨A1, n1, A2, n2, A3, n3, A7, n7, A8, n8, rfl, hh⟩ := id hV
  clear hh
  obtain ⟨b_, hsz_, x0_, x1_, x2_⟩ := box3 w (.cells #[.int .i64 wd, .slice Av l1.length cv, .slice Ai L ci] 31) (.cells #[.int .i64 c.ed, .slice A1 c.st.length n1, .slice A2 c.ou.length n2, .slice A3 c.tr.length n3, .int .i64 c.co, .int .i64 c.us, .int .i64 c.wh, .slice A7 c.re.length n7, .slice A8 c.tl.length n8, .int .i64 c.pc, .int .i64 c.fu, .bool c.ov] 64) (.cells #[.int .i64 i.f0, .int .i64 i.f1, .int .i64 i.f2, .int .i64 i.f3, .int .i64 i.f4] 40)
  have HV0 := Aside0.mk (hV.below b_)
  have HB0 := Aside0.mk (hB.trans (b_.mono hB.size))
  have HK0 := Aside0.mk (show Kept w _ Q from Kept.of_below b_ _)
  have HBW := Aside0.mk b_
  have HSZ := Aside0.mk hsz_
  have XB0 := Aside0.mk x0_
  have XB1 := Aside0.mk x1_
  have XB2 := Aside0.mk x2_
  have HQ := Aside0.mk hQ
  have hBs := hB.size
  have HR1 := Aside0.mk hr1
  have HC1 := Aside0.mk hc1
  clear hsz_ hQ hB hr1 hc1 b_ x0_ x1_ x2_
  go_enter Try.func55, Try.ntmps55
  go_upto_region 1 with (fail)
  generalize ((w.alloc (.cells #[.int .i64 wd, .slice Av l1.length cv, .slice Ai L ci] 31)).alloc (.cells #[.int .i64 c.ed, .slice A1 c.st.length n1, .slice A2 c.ou.length n2, .slice A3 c.tr.length n3, .int .i64 c.co, .int .i64 c.us, .int .i64 c.wh, .slice A7 c.re.length n7, .slice A8 c.tl.length n8, .int .i64 c.pc, .int .i64 c.fu, .bool c.ov] 64)).alloc (.cells #[.int .i64 i.f0, .int .i64 i.f1, .int .i64 i.f2, .int .i64 i.f3, .int .i64 i.f4] 40) = W0 at HV0 HB0 HK0 HBW HSZ XB0 XB1 XB2 ⊢
  have i2 : W0.cell? ⟨w.heap.size + 2, 2, none⟩ = some (.int .i64 i.f2) := (blk_cell XB2.out 2).trans rfl
  have hl0 := hc3.1
  have hl1 := hc3.2
  have HV1 := Aside0.mk (HV0.out.below (below_drew (Below.refl _ _)))
  have HD := Aside0.mk (below_drew HBW.out)
  have XD0 := Aside0.mk (kdr XB0.out)
  have XD1 := Aside0.mk (kdr XB1.out)
  have XD2 := Aside0.mk (kdr XB2.out)
  by_cases hn : i.f2 = 12
  · have H := Aside0.mk (show r1_Not.f k wd (rg c.re i.f3) = some r by rw [vVal, if_pos hn] at h; exact h)
    have hnb : (i.f2 == 12) = true := beq_iff_eq.mpr hn
    clear h hc4
    obtain ⟨g0, m0, e0, qg0, qf0, hQg0, hBg0, hgl0, hput0⟩ := HV1.out.reg (i.f3).toNat (by have h1 := hl0; have h2 := hl1; omega)
    have QG0 := Aside0.mk (show (W0.drew).cell? ⟨g0, (i.f3).toNat, none⟩ = some (.int .i64 (rg c.re (i.f3))) from qg0)
    obtain ⟨rfl, rfl⟩ : A7 = some ⟨g0, 0, none⟩ ∧ n7 = m0 := by
      have := Option.some.inj e0
      injection this with h1 h2 h3
      exact ⟨h1, h3⟩
    clear e0 hput0 qf0 qg0
    go_wp2
    refine start_ (n := 10) (S := fun w' => w'.cell? ⟨w.heap.size, 0, none⟩ = some (.int .i64 wd) ∧ w'.cell? ⟨w.heap.size + 1, 7, none⟩ = some (.slice (some ⟨g0, 0, none⟩) c.re.length n7) ∧ w'.cell? ⟨w.heap.size + 2, 3, none⟩ = some (.int .i64 i.f3) ∧ w'.cell? ⟨g0, i.f3.toNat, none⟩ = some (.int .i64 (rg c.re i.f3))) (ds := [8]) #[false, false, false, false, false, false, false, false, false, false] (by kernel_rfl) rfl rfl ⟨(blk_cell XD0.out 0).trans rfl, (blk_cell XD1.out 7).trans rfl, (blk_cell XD2.out 3).trans rfl, QG0.out⟩ (fun hHeld => ?_)
    refine pu (i := 0) (N := some 10) (bl 10 1) rfl rfl (by kernel_rfl) ?_
    refine tk (i := 1) (N := some 11) (bl 10 3) rfl rfl (by kernel_rfl) hHeld ?_
    refine pu (i := 2) (N := some 12) (bl 10 7) rfl rfl (by kernel_rfl) ?_
    refine tk (i := 3) (N := some 13) (bl 10 15) rfl rfl (by kernel_rfl) hHeld ?_
    refine pu (i := 4) (N := some 14) (bl 10 31) rfl rfl (by kernel_rfl) ?_
    refine tk (i := 5) (N := some 15) (bl 10 63) rfl rfl (by kernel_rfl) hHeld ?_
    refine pu (i := 6) (N := some 16) (bl 10 127) rfl rfl (by kernel_rfl) ?_
    refine tk (i := 7) (N := some 17) (bl 10 255) rfl rfl (by kernel_rfl) hHeld ?_
    refine last_ (i := 8) (N := (some 18)) (bl 10 511) rfl rfl (by kernel_rfl) (by decide) (fun K hK => ?_)
    refine goes_ Try.func67 (by kernel_rfl) rfl #[.int .i64 wd, .int .i64 (rg c.re i.f3)] (by rfl) rfl rfl (by (try simp only [List.map_toArray, List.map_cons, List.map_nil]); rfl) ?_
    refine (r1_Not.calls k _ _ r _ H.out).mono ?_
    rintro e Y ⟨rfl, hy⟩
    have HY := Aside0.mk (HD.out.trans ((drawn0_below hy).mono HD.out.size))
    refine ⟨_, rfl, ?_⟩
    refine hK.out _ _ ?_
    clear hK K
    refine nm 18 ?_
    refine pu (i := 9) (N := some 6) (bl 10 1023) rfl rfl (by kernel_rfl) ?_
    refine done_ (by kernel_rfl) ?_
    go_wp2
    go_ret
    exact ⟨rfl, HY.out⟩
  · have H := Aside0.mk (show r1_Do.f k i.f2 wd (rg c.re i.f3) (rg c.re i.f4) = some r by rw [vVal, if_neg hn] at h; exact h)
    have hnb : (i.f2 == 12) = false := beq_eq_false_iff_ne.mpr hn
    have hl2 := (hc4 hn).1
    have hl3 := (hc4 hn).2
    clear h hc4
    obtain ⟨g0, m0, e0, qg0, qf0, hQg0, hBg0, hgl0, hput0⟩ := HV1.out.reg (i.f3).toNat (by have h1 := hl0; have h2 := hl1; omega)
    have QG0 := Aside0.mk (show (W0.drew).cell? ⟨g0, (i.f3).toNat, none⟩ = some (.int .i64 (rg c.re (i.f3))) from qg0)
    obtain ⟨g1, m1, e1, qg1, qf1, hQg1, hBg1, hgl1, hput1⟩ := HV1.out.reg (i.f4).toNat (by have h1 := hl2; have h2 := hl3; omega)
    have QG1 := Aside0.mk (show (W0.drew).cell? ⟨g1, (i.f4).toNat, none⟩ = some (.int .i64 (rg c.re (i.f4))) from qg1)
    obtain ⟨rfl, rfl⟩ : A7 = some ⟨g0, 0, none⟩ ∧ n7 = m0 := by
      have := Option.some.inj e0
      injection this with h1 h2 h3
      exact ⟨h1, h3⟩
    obtain rfl : g0 = g1 := by
      have := Option.some.inj e1
      injection this with h1 h2 h3
      injection h1 with h1
      injection h1
    clear e0 hput0 qf0 qg0 e1 hput1 qf1 qg1
    go_wp2
    refine start_ (n := 18) (S := fun w' => w'.cell? ⟨w.heap.size, 0, none⟩ = some (.int .i64 wd) ∧ w'.cell? ⟨w.heap.size + 1, 7, none⟩ = some (.slice (some ⟨g0, 0, none⟩) c.re.length n7) ∧ w'.cell? ⟨w.heap.size + 2, 2, none⟩ = some (.int .i64 i.f2) ∧ w'.cell? ⟨w.heap.size + 2, 3, none⟩ = some (.int .i64 i.f3) ∧ w'.cell? ⟨w.heap.size + 2, 4, none⟩ = some (.int .i64 i.f4) ∧ w'.cell? ⟨g0, i.f3.toNat, none⟩ = some (.int .i64 (rg c.re i.f3)) ∧ w'.cell? ⟨g0, i.f4.toNat, none⟩ = some (.int .i64 (rg c.re i.f4))) (ds := [16]) #[false, false, false, false, false, false, false, false, false, false, false, false, false, false, false, false, false, false] (by kernel_rfl) rfl rfl ⟨(blk_cell XD0.out 0).trans rfl, (blk_cell XD1.out 7).trans rfl, (blk_cell XD2.out 2).trans rfl, (blk_cell XD2.out 3).trans rfl, (blk_cell XD2.out 4).trans rfl, QG0.out, QG1.out⟩ (fun hHeld => ?_)
    refine pu (i := 0) (N := some 19) (bl 18 1) rfl rfl (by kernel_rfl) ?_
    refine tk (i := 1) (N := some 20) (bl 18 3) rfl rfl (by kernel_rfl) hHeld ?_
    refine pu (i := 2) (N := some 21) (bl 18 7) rfl rfl (by kernel_rfl) ?_
    refine tk (i := 3) (N := some 22) (bl 18 15) rfl rfl (by kernel_rfl) hHeld ?_
    refine pu (i := 4) (N := some 23) (bl 18 31) rfl rfl (by kernel_rfl) ?_
    refine tk (i := 5) (N := some 24) (bl 18 63) rfl rfl (by kernel_rfl) hHeld ?_
    refine pu (i := 6) (N := some 25) (bl 18 127) rfl rfl (by kernel_rfl) ?_
    refine tk (i := 7) (N := some 26) (bl 18 255) rfl rfl (by kernel_rfl) hHeld ?_
    refine pu (i := 8) (N := some 27) (bl 18 511) rfl rfl (by kernel_rfl) ?_
    refine tk (i := 9) (N := some 28) (bl 18 1023) rfl rfl (by kernel_rfl) hHeld ?_
    refine pu (i := 10) (N := some 29) (bl 18 2047) rfl rfl (by kernel_rfl) ?_
    refine tk (i := 11) (N := some 30) (bl 18 4095) rfl rfl (by kernel_rfl) hHeld ?_
    refine pu (i := 12) (N := some 31) (bl 18 8191) rfl rfl (by kernel_rfl) ?_
    refine tk (i := 13) (N := some 32) (bl 18 16383) rfl rfl (by kernel_rfl) hHeld ?_
    refine pu (i := 14) (N := some 33) (bl 18 32767) rfl rfl (by kernel_rfl) ?_
    refine tk (i := 15) (N := some 34) (bl 18 65535) rfl rfl (by kernel_rfl) hHeld ?_
    refine last_ (i := 16) (N := (some 35)) (bl 18 131071) rfl rfl (by kernel_rfl) (by decide) (fun K hK => ?_)
    refine goes_ Try.func68 (by kernel_rfl) rfl #[.int .i64 i.f2, .int .i64 wd, .int .i64 (rg c.re i.f3), .int .i64 (rg c.re i.f4)] (by rfl) rfl rfl (by (try simp only [List.map_toArray, List.map_cons, List.map_nil]); rfl) ?_
    refine (r1_Do.calls k _ _ _ _ r _ H.out).mono ?_
    rintro e Y ⟨rfl, hy⟩
    have HY := Aside0.mk (HD.out.trans (hy.mono HD.out.size))
    refine ⟨_, rfl, ?_⟩
    refine hK.out _ _ ?_
    clear hK K
    refine nm 35 ?_
    refine pu (i := 17) (N := some 6) (bl 18 262143) rfl rfl (by kernel_rfl) ?_
    refine done_ (by kernel_rfl) ?_
    go_wp2
    go_ret
    exact ⟨rfl, HY.out⟩
def vEv (l1 : List S42) (kind : Int) (v : Nat) (n : Int) (c : VC) : VC := if 1 < (rd_T42 l1 v).f2 then { c with tr := c.tr ++ [⟨kind, v, n⟩] } else c
theorem vEv_same (l1 : List S42) (kind : Int) (v : Nat) (n : Int) (c : VC) : (vEv l1 kind v n c).ed = c.ed ∧ (vEv l1 kind v n c).st = c.st ∧ (vEv l1 kind v n c).ou = c.ou ∧ (vEv l1 kind v n c).re = c.re ∧ (vEv l1 kind v n c).tl = c.tl ∧ (vEv l1 kind v n c).pc = c.pc ∧ (vEv l1 kind v n c).tr.length ≤ c.tr.length + 1 := by
  unfold vEv
  split <;> simp
def vLoad (l1 : List S42) (fst : Int) (ra v : Nat) (s : Int) (c : VC) : VC :=
  { vEv l1 1 v (vIdx l1 c.re v s) c with re := c.re.set ra (rg c.st (fst + vIdx l1 c.re v s)), pc := c.pc + 1 }
def vStore (l1 : List S42) (fst : Int) (v : Nat) (s r : Int) (c : VC) : VC :=
  { vEv l1 2 v (vIdx l1 c.re v s) { c with st := c.st.set (fst + vIdx l1 c.re v s).toNat (rg c.re r) } with pc := c.pc + 1 }
theorem vm_load.calls (k : Nat) (w0 w : World) (Q : Nat → Prop) (cs : Array Value) (c : VC) (wd : Int) (Av : Option Addr) (cv : Nat) (l1 : List S42) (Ai : Option Addr) (L ci : Nat) (op s f4 fst : Int) (ra v : Nat) (hB : Below w0.heap.size w0 w) (hV : VR w w0.heap.size Q cs c) (hQ : ∀ k, Q k → k < w.heap.size) (hr1 : Kd.C k42 w0 Av l1.length l1) (hc1 : l1.length ≤ cv) (hv : v < l1.length) (hs : ¬ (rd_T42 l1 v).f2 < 2 → 0 ≤ s ∧ s < c.re.length) (hra : ra < c.re.length) (hF : r2_First.f k l1 v = some fst) (hf0 : 0 ≤ fst + vIdx l1 c.re v s) (hf1 : fst + vIdx l1 c.re v s < c.st.length) (hp0 : 0 ≤ c.pc) (hp1 : c.pc < 1000000000) (htr : c.tr.length < 1000000000) :
    Calls Try.prog 56 #[.agg #[.int .i64 wd, .slice Av l1.length cv, .slice Ai L ci], .agg cs, .agg #[.int .i64 (op), .int .i64 ((ra : Int)), .int .i64 ((v : Int)), .int .i64 (s), .int .i64 (f4)]] w fun e w' => ∃ cs', e = .returned (.agg cs') ∧ VR w' w0.heap.size (fun k => Q k ∨ w.heap.size ≤ k) cs' (vLoad l1 fst ra v s c) ∧ Below w0.heap.size w0 w' ∧ Kept w w' Q := by
  obtain ⟨A1, n1, A2, n2, A3, n3, A7, n7, A8, n8, rfl, hh⟩ := id hV
  clear hh
  obtain ⟨b_, hsz_, x0_, x1_, x2_, x3_⟩ := box4 w (.cells #[.int .i64 wd, .slice Av l1.length cv, .slice Ai L ci] 31) (.cells #[.int .i64 c.ed, .slice A1 c.st.length n1, .slice A2 c.ou.length n2, .slice A3 c.tr.length n3, .int .i64 c.co, .int .i64 c.us, .int .i64 c.wh, .slice A7 c.re.length n7, .slice A8 c.tl.length n8, .int .i64 c.pc, .int .i64 c.fu, .bool c.ov] 64) (.cells #[.int .i64 (op), .int .i64 ((ra : Int)), .int .i64 ((v : Int)), .int .i64 (s), .int .i64 (f4)] 40) (.cells #[.int .i64 0, .slice none 0 0, .slice none 0 0, .slice none 0 0, .int .i64 0, .int .i64 0, .int .i64 0, .slice none 0 0, .slice none 0 0, .int .i64 0, .int .i64 0, .bool false] 64)
  have HV0 := Aside0.mk (hV.below b_)
  have HB0 := Aside0.mk (hB.trans (b_.mono hB.size))
  have HK0 := Aside0.mk (show Kept w _ Q from Kept.of_below b_ _)
  have HBW := Aside0.mk b_
  have HSZ := Aside0.mk hsz_
  have XB0 := Aside0.mk x0_
  have XB1 := Aside0.mk x1_
  have XB2 := Aside0.mk x2_
  have XB3 := Aside0.mk x3_
  have HQ := Aside0.mk hQ
  have hBs := hB.size
  have HR1 := Aside0.mk hr1
  have HC1 := Aside0.mk hc1
  clear hsz_ hQ hB hr1 hc1 b_ x0_ x1_ x2_ x3_
  have hlen := HR1.out.2.1
  obtain ⟨ad, rfl, q0, q1, q2⟩ := at_T42 HR1.out (v : Int) (by omega) (by omega)
  rw [Int.toNat_natCast] at q2
  have Q2 := Aside0.mk q2
  clear q0 q1 q2
  have huV := Try.underlying64
  have huC := Try.underlying31
  have huI := Try.underlying40
  have huR := Try.underlying62
  obtain ⟨kx, hkx⟩ : ∃ kx, vIdx l1 c.re v s = kx := ⟨_, rfl⟩
  rw [hkx] at hf0 hf1
  have HKX := Aside0.mk hkx
  clear hkx
  have hltv : (v : Int) < (l1.length : Int) := by omega
  go_enter Try.func56, Try.ntmps56
  go_upto_region 1 with (fail)
  generalize (((w.alloc (.cells #[.int .i64 wd, .slice (some ad) l1.length cv, .slice Ai L ci] 31)).alloc (.cells #[.int .i64 c.ed, .slice A1 c.st.length n1, .slice A2 c.ou.length n2, .slice A3 c.tr.length n3, .int .i64 c.co, .int .i64 c.us, .int .i64 c.wh, .slice A7 c.re.length n7, .slice A8 c.tl.length n8, .int .i64 c.pc, .int .i64 c.fu, .bool c.ov] 64)).alloc (.cells #[.int .i64 (op), .int .i64 ((ra : Int)), .int .i64 ((v : Int)), .int .i64 (s), .int .i64 (f4)] 40)).alloc (.cells #[.int .i64 0, .slice none 0 0, .slice none 0 0, .slice none 0 0, .int .i64 0, .int .i64 0, .int .i64 0, .slice none 0 0, .slice none 0 0, .int .i64 0, .int .i64 0, .bool false] 64) = W0 at HV0 HB0 HK0 HBW HSZ XB0 XB1 XB2 XB3 ⊢
  obtain ⟨p0, p1, p2⟩ := row3 XB0.out
  obtain ⟨c0, c1, c2, c3, c4, c5, c6, c7, c8, c9, c10, c11⟩ := row12 XB1.out
  obtain ⟨i0, i1, i2, i3, i4⟩ := row5 XB2.out
  go_upto_region 2 with (first | (go_at_call 69; refine (vm_index.calls w0 W0 Q _ c wd (some ad) cv l1 Ai L ci v s HB0.out HV0.out (fun k hk => by have := HQ.out k hk; have := HSZ.out; omega) HR1.out HC1.out hv hs).mono ?_; rintro e W1 ⟨rfl, hb1⟩; rw [HKX.out]; have BW1 := Aside0.mk hb1; clear hb1))
  clear p0 p1 p2 c0 c1 c2 c3 c4 c5 c6 c7 c8 c9 c10 c11 i0 i1 i2 i3 i4
  have hs0 := HSZ.out
  have hs1 := BW1.out.size
  have Y0 := Aside0.mk (blk_below XB0.out BW1.out)
  have Y1 := Aside0.mk (blk_below XB1.out BW1.out)
  have Y2 := Aside0.mk (blk_below XB2.out BW1.out)
  have Y3 := Aside0.mk (blk_below XB3.out BW1.out)
  have V1 := Aside0.mk (HV0.out.below BW1.out)
  have B1 := Aside0.mk (HB0.out.trans (BW1.out.mono HB0.out.size))
  have K1 := Aside0.mk (HK0.out.below BW1.out)
  clear XB0 XB1 XB2 XB3 HV0 HB0 HK0 BW1 HBW
  have hsW1 : w.heap.size + 4 ≤ W1.heap.size := by omega
  have p1 : W1.cell? ⟨w.heap.size, 1, none⟩ = some (.slice (some ad) l1.length cv) := (blk_cell Y0.out 1).trans rfl
  have i2 : W1.cell? ⟨w.heap.size + 2, 2, none⟩ = some (.int .i64 (v : Int)) := (blk_cell Y2.out 2).trans rfl
  obtain ⟨z, hz⟩ : ∃ z, (rd_T42 l1 v).f2 = z := ⟨_, rfl⟩
  have q2 := (B1.out.cell (World.block_lt_of_cell? w0 _ Q2.out)).trans Q2.out
  rw [hz] at q2
  have HZ := Aside0.mk hz
  clear hz
  go_upto_if 22 with (fail)
  go_cut [] (fun wc => Aside0 (∃ cs1, VR wc w0.heap.size (fun k => Q k ∨ w.heap.size + 4 ≤ k) cs1 (vEv l1 1 v kx c) ∧ wc.heap[w.heap.size + 1]? = some (.cells cs1 64 (0, 0))) ∧ Aside0 (wc.heap[w.heap.size]? = some (.cells #[.int .i64 wd, .slice (some ad) l1.length cv, .slice Ai L ci] 31 (0, 0))) ∧ Aside0 (wc.heap[w.heap.size + 2]? = some (.cells #[.int .i64 (op), .int .i64 ((ra : Int)), .int .i64 ((v : Int)), .int .i64 (s), .int .i64 (f4)] 40 (0, 0))) ∧ Aside0 (wc.heap[w.heap.size + 3]? = some (.cells #[.int .i64 0, .slice none 0 0, .slice none 0 0, .slice none 0 0, .int .i64 0, .int .i64 0, .int .i64 0, .slice none 0 0, .slice none 0 0, .int .i64 0, .int .i64 0, .bool false] 64 (0, 0))) ∧ Aside0 (Below w0.heap.size w0 wc) ∧ Aside0 (Kept w wc Q))
  case first =>
    by_cases hz1 : 1 < z
    · have d1 : decide (1 < z) = true := decide_eq_true hz1
      obtain ⟨c0, c1, c2, c3, c4, c5, c6, c7, c8, c9, c10, c11⟩ := row12 Y1.out
      have YY0 := Y0
      have YY1 := Y1
      have YY2 := Y2
      have YY3 := Y3
      go_upto_region 4 with (first | (go_at_call 59; refine (vm_event.calls w0 W1 _ _ c 1 v kx B1.out V1.out (fun k hk => by have := HQ.out k hk; omega) (by simpa using htr)).mono ?_; rintro e W2 ⟨cs', rfl, hv2, hb2, hk2⟩; obtain ⟨A1', n1', A2', n2', A3', n3', A7', n7', A8', n8', rfl, hh_⟩ := id hv2; clear hh_; have V2 := Aside0.mk hv2; have B2 := Aside0.mk hb2; have K2 := Aside0.mk hk2; clear hv2 hb2 hk2; have Z1 := Aside0.mk ((K2.out.2 (w.heap.size + 1) (by omega) (fun h => by have := HQ.out _ h; omega)).trans YY1.out); clear c0 c1 c2 c3 c4 c5 c6 c7 c8 c9 c10 c11 p1 i2 q2; have z0 : W2.cell? ⟨w.heap.size + 1, 0, none⟩ = some (.int .i64 c.ed) := (blk_cell Z1.out 0).trans rfl; have z1 : W2.cell? ⟨w.heap.size + 1, 1, none⟩ = some (.slice A1 c.st.length n1) := (blk_cell Z1.out 1).trans rfl; have z2 : W2.cell? ⟨w.heap.size + 1, 2, none⟩ = some (.slice A2 c.ou.length n2) := (blk_cell Z1.out 2).trans rfl; have z3 : W2.cell? ⟨w.heap.size + 1, 3, none⟩ = some (.slice A3 c.tr.length n3) := (blk_cell Z1.out 3).trans rfl; have z4 : W2.cell? ⟨w.heap.size + 1, 4, none⟩ = some (.int .i64 c.co) := (blk_cell Z1.out 4).trans rfl; have z5 : W2.cell? ⟨w.heap.size + 1, 5, none⟩ = some (.int .i64 c.us) := (blk_cell Z1.out 5).trans rfl; have z6 : W2.cell? ⟨w.heap.size + 1, 6, none⟩ = some (.int .i64 c.wh) := (blk_cell Z1.out 6).trans rfl; have z7 : W2.cell? ⟨w.heap.size + 1, 7, none⟩ = some (.slice A7 c.re.length n7) := (blk_cell Z1.out 7).trans rfl; have z8 : W2.cell? ⟨w.heap.size + 1, 8, none⟩ = some (.slice A8 c.tl.length n8) := (blk_cell Z1.out 8).trans rfl; have z9 : W2.cell? ⟨w.heap.size + 1, 9, none⟩ = some (.int .i64 c.pc) := (blk_cell Z1.out 9).trans rfl; have z10 : W2.cell? ⟨w.heap.size + 1, 10, none⟩ = some (.int .i64 c.fu) := (blk_cell Z1.out 10).trans rfl; have z11 : W2.cell? ⟨w.heap.size + 1, 11, none⟩ = some (.bool c.ov) := (blk_cell Z1.out 11).trans rfl; have g0 := blk_frozen Z1.out 0; have g1 := blk_frozen Z1.out 1; have g2 := blk_frozen Z1.out 2; have g3 := blk_frozen Z1.out 3; have g4 := blk_frozen Z1.out 4; have g5 := blk_frozen Z1.out 5; have g6 := blk_frozen Z1.out 6; have g7 := blk_frozen Z1.out 7; have g8 := blk_frozen Z1.out 8; have g9 := blk_frozen Z1.out 9; have g10 := blk_frozen Z1.out 10; have g11 := blk_frozen Z1.out 11))
      go_meet
      case rel =>
        have hw1 := hsW1
        have far : ∀ k, k ≠ w.heap.size + 1 → k < W1.heap.size → ¬ Q k → ∀ o, W1.heap[k]? = some o → (W2.setCells (w.heap.size + 1) 0 [.int .i64 c.ed, .slice A1' c.st.length n1', .slice A2' c.ou.length n2', .slice A3' (c.tr.length + 1) n3', .int .i64 c.co, .int .i64 c.us, .int .i64 c.wh, .slice A7' c.re.length n7', .slice A8' c.tl.length n8', .int .i64 c.pc, .int .i64 c.fu, .bool c.ov]).heap[k]? = some o := fun k h1 h2 h3 o ho => (fill_far h1).trans ((K2.out.2 k h2 h3).trans ho)
        have nq : ∀ k, w.heap.size ≤ k → ¬ Q k := fun k h hq => by have := HQ.out k hq; omega
        have hl3 : (c.tr ++ [(⟨1, v, kx⟩ : S123)]).length = c.tr.length + 1 := by simp
        have v2 : VR W2 w0.heap.size (fun k => Q k ∨ W1.heap.size ≤ k) #[.int .i64 c.ed, .slice A1' c.st.length n1', .slice A2' c.ou.length n2', .slice A3' (c.tr ++ [(⟨1, v, kx⟩ : S123)]).length n3', .int .i64 c.co, .int .i64 c.us, .int .i64 c.wh, .slice A7' c.re.length n7', .slice A8' c.tl.length n8', .int .i64 c.pc, .int .i64 c.fu, .bool c.ov] { c with tr := c.tr ++ [⟨1, v, kx⟩] } := V2.out
        rw [hl3] at v2
        have hfill := fill_block (vs := [.int .i64 c.ed, .slice A1' c.st.length n1', .slice A2' c.ou.length n2', .slice A3' (c.tr.length + 1) n3', .int .i64 c.co, .int .i64 c.us, .int .i64 c.wh, .slice A7' c.re.length n7', .slice A8' c.tl.length n8', .int .i64 c.pc, .int .i64 c.fu, .bool c.ov]) Z1.out rfl
        have hb9 := fill_below (vs := [.int .i64 c.ed, .slice A1' c.st.length n1', .slice A2' c.ou.length n2', .slice A3' (c.tr.length + 1) n3', .int .i64 c.co, .int .i64 c.us, .int .i64 c.wh, .slice A7' c.re.length n7', .slice A8' c.tl.length n8', .int .i64 c.pc, .int .i64 c.fu, .bool c.ov]) (g := w.heap.size + 1) B2.out (by omega)
        have hk9 := fill_kept (vs := [.int .i64 c.ed, .slice A1' c.st.length n1', .slice A2' c.ou.length n2', .slice A3' (c.tr.length + 1) n3', .int .i64 c.co, .int .i64 c.us, .int .i64 c.wh, .slice A7' c.re.length n7', .slice A8' c.tl.length n8', .int .i64 c.pc, .int .i64 c.fu, .bool c.ov]) (g := w.heap.size + 1) (K1.out.then_ K2.out (fun k h => .inl h)) (.inr (by omega))
        refine ⟨⟨#[.int .i64 c.ed, .slice A1' c.st.length n1', .slice A2' c.ou.length n2', .slice A3' (c.tr.length + 1) n3', .int .i64 c.co, .int .i64 c.us, .int .i64 c.wh, .slice A7' c.re.length n7', .slice A8' c.tl.length n8', .int .i64 c.pc, .int .i64 c.fu, .bool c.ov], ?_, hfill⟩, ⟨far _ (by omega) (by omega) (nq _ (by omega)) _ YY0.out⟩, ⟨far _ (by omega) (by omega) (nq _ (by omega)) _ YY2.out⟩, ⟨far _ (by omega) (by omega) (nq _ (by omega)) _ YY3.out⟩, ⟨hb9⟩, ⟨hk9⟩⟩
        have hve : vEv l1 1 v kx c = { c with tr := c.tr ++ [⟨1, v, kx⟩] } := by rw [vEv, HZ.out, if_pos hz1]
        rw [hve]
        exact (v2.fill (g := w.heap.size + 1) (fun h => by rcases h with h | h; exact nq _ (by omega) h; omega) [.int .i64 c.ed, .slice A1' c.st.length n1', .slice A2' c.ou.length n2', .slice A3' (c.tr.length + 1) n3', .int .i64 c.co, .int .i64 c.us, .int .i64 c.wh, .slice A7' c.re.length n7', .slice A8' c.tl.length n8', .int .i64 c.pc, .int .i64 c.fu, .bool c.ov]).mono (fun k hk _ => by rcases hk with hk | hk; exact .inl hk; exact .inr (by omega))
    · have d1 : decide (1 < z) = false := decide_eq_false hz1
      go_wp2
      go_meet
      case rel =>
        have hve : vEv l1 1 v kx c = c := by rw [vEv, HZ.out, if_neg (by omega)]
        exact ⟨⟨_, by rw [hve]; exact V1.out.mono (fun k hk _ => .inl hk), Y1.out⟩, Y0, Y2, Y3, B1, K1⟩
  case rest =>
    clear p1 i2 q2 Y0 Y1 Y2 Y3 V1 B1 K1
    obtain ⟨HV, Y0, Y2, Y3, B1, K1⟩ := hcut
    obtain ⟨cs1, hv1, hy1⟩ := HV.out
    obtain ⟨c1, hc1⟩ : ∃ c1, c1 = vEv l1 1 v kx c := ⟨_, rfl⟩
    rw [← hc1] at hv1
    obtain ⟨e1, e2, e3, e4, e5, e6, e7⟩ := vEv_same l1 1 v kx c
    rw [← hc1] at e1 e2 e3 e4 e5 e6 e7
    obtain ⟨A1', n1', A2', n2', A3', n3', A7', n7', A8', n8', rfl, hh__, hh_⟩ := id hv1
    clear hh_ HV
    have hv2 := hv1.below (below_drew (Below.refl _ _))
    obtain ⟨gs, ms, es, qs, qf, hQs, hBs', hgl, hput⟩ := hv2.cell (fst + kx).toNat (by rw [e2]; omega)
    obtain ⟨rfl, rfl⟩ : A1' = some ⟨gs, 0, none⟩ ∧ n1' = ms := by
      have := Option.some.inj es
      injection this with h1 h2 h3
      exact ⟨h1, h3⟩
    have HC := Aside0.mk hc1
    have Y1 := Aside0.mk (kdr hy1)
    have V1 := Aside0.mk hv2
    have hzw := HSZ.out
    have hlc : w.heap.size + 3 < wc.drew.heap.size := blk_lt (kdr Y3.out)
    have D0 := Aside0.mk (kdr Y0.out)
    have D2 := Aside0.mk (kdr Y2.out)
    have D3 := Aside0.mk (kdr Y3.out)
    have DB := Aside0.mk (B1.out.trans ((below_drew (Below.refl _ _)).mono B1.out.size))
    have DK := Aside0.mk (K1.out.below (below_drew (Below.refl _ _)))
    have QS := Aside0.mk (show wc.drew.cell? ⟨gs, (fst + kx).toNat, none⟩ = some (.int .i64 (rg c1.st (fst + kx))) from qs)
    have E2 := Aside0.mk e2
    have hst : fst + kx < (c1.st.length : Int) := by rw [e2]; exact hf1
    have hre : ra < c1.re.length := by rw [e4]; exact hra
    have E4 := Aside0.mk e4
    have hpc1 : 0 ≤ c1.pc := by omega
    have hpc2 : c1.pc < 1000000000 := by omega
    have E6 := Aside0.mk e6
    have hwk : IntKind.i64.wrap (fst + kx) = fst + kx := by
      have := (Kd.R_reads' hh__).2.2.2.1
      rw [i64_w]; unfold wrap64; omega
    clear e1 e2 e3 e4 e5 e6 es hc1 hv1 hy1 hv2 qs qf hput Y0 Y2 Y3 B1 K1
    go_wp2
    refine start_ (n := 17) (S := fun w' => w'.cell? ⟨w.heap.size + 1, 0, none⟩ = some (.int .i64 c1.ed) ∧ w'.cell? ⟨w.heap.size + 1, 1, none⟩ = some (.slice (some ⟨gs, 0, none⟩) c1.st.length n1') ∧ w'.cell? ⟨w.heap.size + 1, 2, none⟩ = some (.slice A2' c1.ou.length n2') ∧ w'.cell? ⟨w.heap.size + 1, 3, none⟩ = some (.slice A3' c1.tr.length n3') ∧ w'.cell? ⟨w.heap.size + 1, 4, none⟩ = some (.int .i64 c1.co) ∧ w'.cell? ⟨w.heap.size + 1, 5, none⟩ = some (.int .i64 c1.us) ∧ w'.cell? ⟨w.heap.size + 1, 6, none⟩ = some (.int .i64 c1.wh) ∧ w'.cell? ⟨w.heap.size + 1, 7, none⟩ = some (.slice A7' c1.re.length n7') ∧ w'.cell? ⟨w.heap.size + 1, 8, none⟩ = some (.slice A8' c1.tl.length n8') ∧ w'.cell? ⟨w.heap.size + 1, 9, none⟩ = some (.int .i64 c1.pc) ∧ w'.cell? ⟨w.heap.size + 1, 10, none⟩ = some (.int .i64 c1.fu) ∧ w'.cell? ⟨w.heap.size + 1, 11, none⟩ = some (.bool c1.ov) ∧ w'.cell? ⟨w.heap.size + 2, 1, none⟩ = some (.int .i64 (ra : Int)) ∧ w'.cell? ⟨w.heap.size + 2, 2, none⟩ = some (.int .i64 (v : Int)) ∧ w'.cell? ⟨w.heap.size, 1, none⟩ = some (.slice (some ad) l1.length cv) ∧ w'.cell? ⟨gs, (fst + kx).toNat, none⟩ = some (.int .i64 (rg c1.st (fst + kx)))) (ds := [15, 16]) #[false, false, false, false, false, false, false, false, false, false, false, false, false, false, false, false, false] (by kernel_rfl) rfl rfl ⟨(blk_cell Y1.out 0).trans rfl, (blk_cell Y1.out 1).trans rfl, (blk_cell Y1.out 2).trans rfl, (blk_cell Y1.out 3).trans rfl, (blk_cell Y1.out 4).trans rfl, (blk_cell Y1.out 5).trans rfl, (blk_cell Y1.out 6).trans rfl, (blk_cell Y1.out 7).trans rfl, (blk_cell Y1.out 8).trans rfl, (blk_cell Y1.out 9).trans rfl, (blk_cell Y1.out 10).trans rfl, (blk_cell Y1.out 11).trans rfl, (blk_cell D2.out 1).trans rfl, (blk_cell D2.out 2).trans rfl, (blk_cell D0.out 1).trans rfl, QS.out⟩ (fun hHeld => ?_)
    generalize wc.drew = Y at Y1 V1 D0 D2 D3 DB DK QS hHeld hgl hlc ⊢
    refine pu (i := 1) (N := some 29) (bl 17 2) rfl rfl (by kernel_rfl) ?_
    refine pu (i := 3) (N := some 31) (bl 17 10) rfl rfl (by kernel_rfl) ?_
    refine pu (i := 4) (N := some 32) (bl 17 26) rfl rfl (by kernel_rfl) ?_
    refine pu (i := 6) (N := some 34) (bl 17 90) rfl rfl (by kernel_rfl) ?_
    refine pu (i := 8) (N := some 36) (bl 17 346) rfl rfl (by kernel_rfl) ?_
    refine pu (i := 11) (N := some 39) (bl 17 2394) rfl rfl (by kernel_rfl) ?_
    refine tk (i := 0) (N := some 28) (bl 17 2395) rfl rfl (by kernel_rfl) hHeld ?_
    refine tk (i := 2) (N := some 30) (bl 17 2399) rfl rfl (by kernel_rfl) hHeld ?_
    refine tk (i := 5) (N := some 33) (bl 17 2431) rfl rfl (by kernel_rfl) hHeld ?_
    refine tk (i := 7) (N := some 35) (bl 17 2559) rfl rfl (by kernel_rfl) hHeld ?_
    refine tk (i := 9) (N := some 37) (bl 17 3071) rfl rfl (by kernel_rfl) hHeld ?_
    refine one_ (i := 10) (N := (some 38)) (bl 17 4095) rfl rfl (by kernel_rfl) (by decide) (fun K hK => ?_)
    refine goes_ Try.func70 (by kernel_rfl) rfl #[.slice (some ad) l1.length cv, .int .i64 (v : Int)] (by rfl) rfl rfl (by (try simp only [List.map_toArray, List.map_cons, List.map_nil]); rfl) ?_
    refine (r2_First.calls k _ _ l1 _ fst _ (Kd.C_below HR1.out DB.out) HC1.out hF).mono ?_
    rintro e Y' ⟨rfl, hy'⟩
    have hyb := drawn0_below hy'
    have HYB := Aside0.mk hyb
    have Y1' := Aside0.mk (blk_below Y1.out hyb)
    have V1' := Aside0.mk (V1.out.below hyb)
    have D0' := Aside0.mk (blk_below D0.out hyb)
    have D2' := Aside0.mk (blk_below D2.out hyb)
    have D3' := Aside0.mk (blk_below D3.out hyb)
    have DB' := Aside0.mk (DB.out.trans (hyb.mono DB.out.size))
    have DK' := Aside0.mk (DK.out.below hyb)
    have QS' := Aside0.mk ((hyb.cell hgl).trans QS.out)
    have hys := hyb.size
    clear hy' hyb Y1 V1 D0 D2 D3 DB DK QS
    refine ⟨_, rfl, ?_⟩
    refine hK.out _ _ ⟨(blk_cell Y1'.out 0).trans rfl, (blk_cell Y1'.out 1).trans rfl, (blk_cell Y1'.out 2).trans rfl, (blk_cell Y1'.out 3).trans rfl, (blk_cell Y1'.out 4).trans rfl, (blk_cell Y1'.out 5).trans rfl, (blk_cell Y1'.out 6).trans rfl, (blk_cell Y1'.out 7).trans rfl, (blk_cell Y1'.out 8).trans rfl, (blk_cell Y1'.out 9).trans rfl, (blk_cell Y1'.out 10).trans rfl, (blk_cell Y1'.out 11).trans rfl, (blk_cell D2'.out 1).trans rfl, (blk_cell D2'.out 2).trans rfl, (blk_cell D0'.out 1).trans rfl, QS'.out⟩ (fun hHeld => ?_)
    clear hK K
    refine nm 38 ?_
    refine pu (i := 12) (N := some 40) (bl 17 8191) rfl rfl (by kernel_rfl) ?_
    refine pu (i := 13) (N := some 41) (bl 17 16383) rfl rfl (by kernel_rfl) ?_
    refine tk (i := 14) (N := some 42) (bl 17 32767) rfl rfl (by kernel_rfl) hHeld ?_
    refine last_ (i := 15) (N := (some 43)) (bl 17 65535) rfl rfl (by kernel_rfl) (by decide) (fun K hK => ?_)
    refine goes_ Try.func54 (by kernel_rfl) rfl #[.agg #[.int .i64 c1.ed, .slice (some ⟨gs, 0, none⟩) c1.st.length n1', .slice A2' c1.ou.length n2', .slice A3' c1.tr.length n3', .int .i64 c1.co, .int .i64 c1.us, .int .i64 c1.wh, .slice A7' c1.re.length n7', .slice A8' c1.tl.length n8', .int .i64 c1.pc, .int .i64 c1.fu, .bool c1.ov], .int .i64 (ra : Int), .int .i64 (rg c1.st (fst + kx))] (by rfl) rfl rfl (by (try simp only [List.map_toArray, List.map_cons, List.map_nil]); rfl) ?_
    refine (vm_with.calls w0 Y' _ _ c1 ra (rg c1.st (fst + kx)) DB'.out V1'.out.bound (fun k hk => hk.2) hre hpc1 hpc2).mono ?_
    rintro e W2 ⟨cs2, rfl, hv2, hb2, hk2⟩
    have X3 := Aside0.mk ((hk2.2 (w.heap.size + 3) (by omega) (fun h => by rcases h with ⟨h | h, _⟩; exact absurd (HQ.out _ h) (by omega); omega)).trans D3'.out)
    obtain ⟨B1_, m1_, B2_, m2_, B3_, m3_, B7_, m7_, B8_, m8_, rfl, hh2⟩ := id hv2
    clear hh2
    have HV2 := Aside0.mk hv2
    have HB2 := Aside0.mk hb2
    have HK2 := Aside0.mk (DK'.out.then_ hk2 (fun k hk => by rcases hk with ⟨h | h, _⟩; exact .inl h; exact .inr (by omega)))
    have hs2 := hk2.1
    clear hv2 hb2 hk2 Y1' V1' D0' D2' D3' DB' DK' QS' hHeld
    refine ⟨_, rfl, ?_⟩
    refine hK.out _ _ ?_
    clear hK K
    refine nm 43 ?_
    refine last_ (i := 16) (N := none) (bl 17 131071) rfl rfl (by kernel_rfl) (by decide) (fun K hK => ?_)
    obtain ⟨z0, z1, z2, z3, z4, z5, z6, z7, z8, z9, z10, z11⟩ := row12 X3.out
    obtain ⟨g0, g1, g2, g3, g4, g5, g6, g7, g8, g9, g10, g11⟩ := froz12 X3.out
    refine skip_ (w1 := ?_) (by rfl) rfl ?_ ?_
    rotate_left
    · go_simp
      rfl
    refine hK.out _ _ ?_
    clear hK K
    refine done_ (by kernel_rfl) ?_
    go_wp2
    change bodyPost _ _ _ _ _ (W2.setCells (w.heap.size + 3) 0 [.int .i64 c1.ed, .slice B1_ c1.st.length m1_, .slice B2_ c1.ou.length m2_, .slice B3_ c1.tr.length m3_, .int .i64 c1.co, .int .i64 c1.us, .int .i64 c1.wh, .slice B7_ c1.re.length m7_, .slice B8_ c1.tl.length m8_, .int .i64 (c1.pc + 1), .int .i64 c1.fu, .bool c1.ov])
    have hfill := fill_block (vs := [.int .i64 c1.ed, .slice B1_ c1.st.length m1_, .slice B2_ c1.ou.length m2_, .slice B3_ c1.tr.length m3_, .int .i64 c1.co, .int .i64 c1.us, .int .i64 c1.wh, .slice B7_ c1.re.length m7_, .slice B8_ c1.tl.length m8_, .int .i64 (c1.pc + 1), .int .i64 c1.fu, .bool c1.ov]) X3.out rfl
    refine bodyPost_ret (results_cell_row rfl _ _ (w.heap.size + 3) 64 #[.int .i64 c1.ed, .slice B1_ c1.st.length m1_, .slice B2_ c1.ou.length m2_, .slice B3_ c1.tr.length m3_, .int .i64 c1.co, .int .i64 c1.us, .int .i64 c1.wh, .slice B7_ c1.re.length m7_, .slice B8_ c1.tl.length m8_, .int .i64 (c1.pc + 1), .int .i64 c1.fu, .bool c1.ov] (0, 0) _ rfl hfill huV rfl (by kernel_rfl)) rfl ?_
    refine ⟨_, rfl, ?_, fill_below HB2.out (by omega), fill_kept HK2.out (.inr (by omega))⟩
    have hvf := (HV2.out.fill (g := w.heap.size + 3) (fun h => by rcases h with ⟨h | h, _⟩ | h; exact absurd (HQ.out _ h) (by omega); omega; omega) [.int .i64 c1.ed, .slice B1_ c1.st.length m1_, .slice B2_ c1.ou.length m2_, .slice B3_ c1.tr.length m3_, .int .i64 c1.co, .int .i64 c1.us, .int .i64 c1.wh, .slice B7_ c1.re.length m7_, .slice B8_ c1.tl.length m8_, .int .i64 (c1.pc + 1), .int .i64 c1.fu, .bool c1.ov]).mono (Q' := fun k => Q k ∨ w.heap.size ≤ k) (fun k hk _ => by rcases hk with ⟨h | h, _⟩ | h; exact .inl h; exact .inr (by omega); exact .inr (by omega))
    have hfin : vLoad l1 fst ra v s c = { c1 with re := c1.re.set ra (rg c1.st (fst + kx)), pc := c1.pc + 1 } := by rw [vLoad, HKX.out, ← HC.out, E2.out, E4.out, E6.out]
    rw [hfin]
    have hvg : VR _ _ _ #[.int .i64 c1.ed, .slice B1_ c1.st.length m1_, .slice B2_ c1.ou.length m2_, .slice B3_ c1.tr.length m3_, .int .i64 c1.co, .int .i64 c1.us, .int .i64 c1.wh, .slice B7_ (c1.re.set ra (rg c1.st (fst + kx))).length m7_, .slice B8_ c1.tl.length m8_, .int .i64 (c1.pc + 1), .int .i64 c1.fu, .bool c1.ov] _ := hvf
    rw [List.length_set] at hvg
    exact hvg
theorem vm_store.calls (k : Nat) (w0 w : World) (Q : Nat → Prop) (cs : Array Value) (c : VC) (wd : Int) (Av : Option Addr) (cv : Nat) (l1 : List S42) (Ai : Option Addr) (L ci : Nat) (op s r f4 fst : Int) (v : Nat) (hB : Below w0.heap.size w0 w) (hV : VR w w0.heap.size Q cs c) (hQ : ∀ k, Q k → k < w.heap.size) (hr1 : Kd.C k42 w0 Av l1.length l1) (hc1 : l1.length ≤ cv) (hv : v < l1.length) (hs : ¬ (rd_T42 l1 v).f2 < 2 → 0 ≤ s ∧ s < c.re.length) (hr0 : 0 ≤ r) (hr1' : r < c.re.length) (hF : r2_First.f k l1 v = some fst) (hf0 : 0 ≤ fst + vIdx l1 c.re v s) (hf1 : fst + vIdx l1 c.re v s < c.st.length) (hp0 : 0 ≤ c.pc) (hp1 : c.pc < 1000000000) (htr : c.tr.length < 1000000000) :
    Calls Try.prog 57 #[.agg #[.int .i64 wd, .slice Av l1.length cv, .slice Ai L ci], .agg cs, .agg #[.int .i64 (op), .int .i64 ((v : Int)), .int .i64 (s), .int .i64 (r), .int .i64 (f4)]] w fun e w' => ∃ cs', e = .returned (.agg cs') ∧ VR w' w0.heap.size (fun k => Q k ∨ w.heap.size ≤ k) cs' (vStore l1 fst v s r c) ∧ Below w0.heap.size w0 w' ∧ Kept w w' Q := by
  obtain ⟨A1, n1, A2, n2, A3, n3, A7, n7, A8, n8, rfl, hhst, hh⟩ := id hV
  clear hh
  obtain ⟨b_, hsz_, x0_, x1_, x2_, x3_⟩ := box4 w (.cells #[.int .i64 wd, .slice Av l1.length cv, .slice Ai L ci] 31) (.cells #[.int .i64 c.ed, .slice A1 c.st.length n1, .slice A2 c.ou.length n2, .slice A3 c.tr.length n3, .int .i64 c.co, .int .i64 c.us, .int .i64 c.wh, .slice A7 c.re.length n7, .slice A8 c.tl.length n8, .int .i64 c.pc, .int .i64 c.fu, .bool c.ov] 64) (.cells #[.int .i64 (op), .int .i64 ((v : Int)), .int .i64 (s), .int .i64 (r), .int .i64 (f4)] 40) (.cells #[.int .i64 0, .slice none 0 0, .slice none 0 0, .slice none 0 0, .int .i64 0, .int .i64 0, .int .i64 0, .slice none 0 0, .slice none 0 0, .int .i64 0, .int .i64 0, .bool false] 64)
  have HV0 := Aside0.mk (hV.below b_)
  have HB0 := Aside0.mk (hB.trans (b_.mono hB.size))
  have HK0 := Aside0.mk (show Kept w _ Q from Kept.of_below b_ _)
  have HBW := Aside0.mk b_
  have HSZ := Aside0.mk hsz_
  have XB0 := Aside0.mk x0_
  have XB1 := Aside0.mk x1_
  have XB2 := Aside0.mk x2_
  have XB3 := Aside0.mk x3_
  have HQ := Aside0.mk hQ
  have hBs := hB.size
  have HR1 := Aside0.mk hr1
  have HC1 := Aside0.mk hc1
  clear hsz_ hQ hB hr1 hc1 b_ x0_ x1_ x2_ x3_
  have hlen := HR1.out.2.1
  have hlst := (Kd.R_reads' hhst).2.2.2.1
  obtain ⟨ad, rfl, q0, q1, q2⟩ := at_T42 HR1.out (v : Int) (by omega) (by omega)
  rw [Int.toNat_natCast] at q2
  have Q2 := Aside0.mk q2
  clear q0 q1 q2 hhst
  have huV := Try.underlying64
  have huC := Try.underlying31
  have huI := Try.underlying40
  have huR := Try.underlying62
  obtain ⟨kx, hkx⟩ : ∃ kx, vIdx l1 c.re v s = kx := ⟨_, rfl⟩
  rw [hkx] at hf0 hf1
  have HKX := Aside0.mk hkx
  clear hkx
  have hltv : (v : Int) < (l1.length : Int) := by omega
  go_enter Try.func57, Try.ntmps57
  go_upto_region 1 with (fail)
  generalize (((w.alloc (.cells #[.int .i64 wd, .slice (some ad) l1.length cv, .slice Ai L ci] 31)).alloc (.cells #[.int .i64 c.ed, .slice A1 c.st.length n1, .slice A2 c.ou.length n2, .slice A3 c.tr.length n3, .int .i64 c.co, .int .i64 c.us, .int .i64 c.wh, .slice A7 c.re.length n7, .slice A8 c.tl.length n8, .int .i64 c.pc, .int .i64 c.fu, .bool c.ov] 64)).alloc (.cells #[.int .i64 (op), .int .i64 ((v : Int)), .int .i64 (s), .int .i64 (r), .int .i64 (f4)] 40)).alloc (.cells #[.int .i64 0, .slice none 0 0, .slice none 0 0, .slice none 0 0, .int .i64 0, .int .i64 0, .int .i64 0, .slice none 0 0, .slice none 0 0, .int .i64 0, .int .i64 0, .bool false] 64) = W0 at HV0 HB0 HK0 HBW HSZ XB0 XB1 XB2 XB3 ⊢
  obtain ⟨p0, p1, p2⟩ := row3 XB0.out
  obtain ⟨c0, c1, c2, c3, c4, c5, c6, c7, c8, c9, c10, c11⟩ := row12 XB1.out
  obtain ⟨i0, i1, i2, i3, i4⟩ := row5 XB2.out
  go_upto_region 2 with (first | (go_at_call 69; refine (vm_index.calls w0 W0 Q _ c wd (some ad) cv l1 Ai L ci v s HB0.out HV0.out (fun k hk => by have := HQ.out k hk; have := HSZ.out; omega) HR1.out HC1.out hv hs).mono ?_; rintro e W1 ⟨rfl, hb1⟩; rw [HKX.out]; have BW1 := Aside0.mk hb1; clear hb1))
  clear p0 p1 p2 c0 c1 c2 c3 c4 c5 c6 c7 c8 c9 c10 c11 i0 i1 i2 i3 i4
  have hs0 := HSZ.out
  have hs1 := BW1.out.size
  have D0 := Aside0.mk (kdr (blk_below XB0.out BW1.out))
  have D1 := Aside0.mk (kdr (blk_below XB1.out BW1.out))
  have D2 := Aside0.mk (kdr (blk_below XB2.out BW1.out))
  have D3 := Aside0.mk (kdr (blk_below XB3.out BW1.out))
  have VD := Aside0.mk ((HV0.out.below BW1.out).below (below_drew (Below.refl _ _)))
  have DB := Aside0.mk ((HB0.out.trans (BW1.out.mono HB0.out.size)).trans ((below_drew (Below.refl _ _)).mono (Nat.le_trans HB0.out.size hs1)))
  have DK := Aside0.mk ((HK0.out.below BW1.out).below (below_drew (Below.refl _ _)))
  have hsW1 : w.heap.size + 4 ≤ W1.drew.heap.size := by show w.heap.size + 4 ≤ W1.heap.size; omega
  clear XB0 XB1 XB2 XB3 HV0 HB0 HK0 BW1 HBW hs0 hs1
  obtain ⟨g0, m0, e0, qg, qf0, hQg, hBg, hgl0, hput0⟩ := VD.out.reg r.toNat (by omega)
  obtain ⟨rfl, rfl⟩ : A7 = some ⟨g0, 0, none⟩ ∧ n7 = m0 := by
    have := Option.some.inj e0
    injection this with h1 h2 h3
    exact ⟨h1, h3⟩
  obtain ⟨gs, ms, es, qs, qf, hQs, hBs', hgl, hput⟩ := VD.out.cell (fst + kx).toNat (by omega)
  obtain ⟨rfl, rfl⟩ : A1 = some ⟨gs, 0, none⟩ ∧ n1 = ms := by
    have := Option.some.inj es
    injection this with h1 h2 h3
    exact ⟨h1, h3⟩
  have QG := Aside0.mk (show W1.drew.cell? ⟨g0, r.toNat, none⟩ = some (.int .i64 (rg c.re r)) from qg)
  have hwk : IntKind.i64.wrap (fst + kx) = fst + kx := by rw [i64_w]; unfold wrap64; omega
  clear e0 es qg qf0 hput0 qs qf hput
  go_wp2
  refine start_ (n := 18) (S := fun w' => w'.cell? ⟨w.heap.size + 1, 1, none⟩ = some (.slice (some ⟨gs, 0, none⟩) c.st.length n1) ∧ w'.cell? ⟨w.heap.size + 1, 7, none⟩ = some (.slice (some ⟨g0, 0, none⟩) c.re.length n7) ∧ w'.cell? ⟨w.heap.size + 2, 1, none⟩ = some (.int .i64 (v : Int)) ∧ w'.cell? ⟨w.heap.size + 2, 3, none⟩ = some (.int .i64 r) ∧ w'.cell? ⟨w.heap.size, 1, none⟩ = some (.slice (some ad) l1.length cv) ∧ w'.cell? ⟨g0, r.toNat, none⟩ = some (.int .i64 (rg c.re r))) (ds := [17]) #[false, false, false, false, false, false, false, false, false, false, false, false, false, false, false, false, false, false] (by kernel_rfl) rfl rfl ⟨(blk_cell D1.out 1).trans rfl, (blk_cell D1.out 7).trans rfl, (blk_cell D2.out 1).trans rfl, (blk_cell D2.out 3).trans rfl, (blk_cell D0.out 1).trans rfl, QG.out⟩ (fun hHeld => ?_)
  generalize W1.drew = Y at D0 D1 D2 D3 VD DB DK QG hHeld hgl0 hgl hsW1 ⊢
  refine pu (i := 0) (N := some 15) (bl 18 1) rfl rfl (by kernel_rfl) ?_
  refine pu (i := 1) (N := some 16) (bl 18 3) rfl rfl (by kernel_rfl) ?_
  refine pu (i := 3) (N := some 18) (bl 18 11) rfl rfl (by kernel_rfl) ?_
  refine pu (i := 5) (N := some 20) (bl 18 43) rfl rfl (by kernel_rfl) ?_
  refine pu (i := 8) (N := some 23) (bl 18 299) rfl rfl (by kernel_rfl) ?_
  refine pu (i := 10) (N := some 25) (bl 18 1323) rfl rfl (by kernel_rfl) ?_
  refine pu (i := 12) (N := some 27) (bl 18 5419) rfl rfl (by kernel_rfl) ?_
  refine tk (i := 2) (N := some 17) (bl 18 5423) rfl rfl (by kernel_rfl) hHeld ?_
  refine tk (i := 4) (N := some 19) (bl 18 5439) rfl rfl (by kernel_rfl) hHeld ?_
  refine tk (i := 6) (N := some 21) (bl 18 5503) rfl rfl (by kernel_rfl) hHeld ?_
  refine tk (i := 11) (N := some 26) (bl 18 7551) rfl rfl (by kernel_rfl) hHeld ?_
  refine tk (i := 13) (N := some 28) (bl 18 15743) rfl rfl (by kernel_rfl) hHeld ?_
  refine pu (i := 14) (N := some 29) (bl 18 32127) rfl rfl (by kernel_rfl) ?_
  refine tk (i := 15) (N := some 30) (bl 18 64895) rfl rfl (by kernel_rfl) hHeld ?_
  refine one_ (i := 7) (N := (some 22)) (bl 18 65023) rfl rfl (by kernel_rfl) (by decide) (fun K hK => ?_)
  refine goes_ Try.func70 (by kernel_rfl) rfl #[.slice (some ad) l1.length cv, .int .i64 (v : Int)] (by rfl) rfl rfl (by (try simp only [List.map_toArray, List.map_cons, List.map_nil]); rfl) ?_
  refine (r2_First.calls k _ _ l1 _ fst _ (Kd.C_below HR1.out DB.out) HC1.out hF).mono ?_
  rintro e Y' ⟨rfl, hy'⟩
  have hyb := drawn0_below hy'
  have D0' := Aside0.mk (blk_below D0.out hyb)
  have D1' := Aside0.mk (blk_below D1.out hyb)
  have D2' := Aside0.mk (blk_below D2.out hyb)
  have D3' := Aside0.mk (blk_below D3.out hyb)
  have VD' := Aside0.mk (VD.out.below hyb)
  have DB' := Aside0.mk (DB.out.trans (hyb.mono DB.out.size))
  have DK' := Aside0.mk (DK.out.below hyb)
  have QG' := Aside0.mk ((hyb.cell hgl0).trans QG.out)
  have hys := hyb.size
  clear hy' hyb D0 D1 D2 D3 VD DB DK QG
  refine ⟨_, rfl, ?_⟩
  refine hK.out _ _ ⟨(blk_cell D1'.out 1).trans rfl, (blk_cell D1'.out 7).trans rfl, (blk_cell D2'.out 1).trans rfl, (blk_cell D2'.out 3).trans rfl, (blk_cell D0'.out 1).trans rfl, QG'.out⟩ (fun hHeld => ?_)
  clear hK K
  refine nm 22 ?_
  refine pu (i := 9) (N := some 24) (bl 18 65535) rfl rfl (by kernel_rfl) ?_
  refine pu (i := 16) (N := some 31) (bl 18 131071) rfl rfl (by kernel_rfl) ?_
  refine last_ (i := 17) (N := none) (bl 18 262143) rfl rfl (by kernel_rfl) (by decide) (fun K hK => ?_)
  obtain ⟨gs', ms, es, qs, qf, hQs', hBs9, hgl9, hput⟩ := VD'.out.cell (fst + kx).toNat (by omega)
  obtain rfl : gs = gs' := by
    have := Option.some.inj es
    injection this with h1 h2 h3
    injection h1 with h1
    injection h1
  have hq9 := qf (fst + kx).toNat
  have HPUT := Aside0.mk (hput (rg c.re r))
  clear hput qf es
  refine skip_ (w1 := ?_) (by rfl) rfl ?_ ?_
  rotate_left
  · go_simp
    rfl
  refine hK.out _ _ ?_
  clear hK K
  refine done_ (by kernel_rfl) ?_
  have hfar : ∀ k, w.heap.size ≤ k → k < w.heap.size + 4 → ∀ o, Y'.heap[k]? = some o → (Y'.setCell ⟨gs, (fst + kx).toNat, none⟩ (.int .i64 (rg c.re r))).heap[k]? = some o := fun k h1 h2 o ho => (Below.heap_setCell _ _ _ _ (by have := HQ.out _ hQs; show k ≠ gs; omega)).trans ho
  have Y0 := Aside0.mk (hfar _ (by omega) (by omega) _ D0'.out)
  have y1 := hfar _ (by omega) (by omega) _ D1'.out
  have Y2 := Aside0.mk (hfar _ (by omega) (by omega) _ D2'.out)
  have Y3 := Aside0.mk (hfar _ (by omega) (by omega) _ D3'.out)
  have B1 := Aside0.mk (DB'.out.setCell (p := ⟨gs, (fst + kx).toNat, none⟩) hBs9 (.int .i64 (rg c.re r)))
  have K1 := Aside0.mk (DK'.out.setCell (p := ⟨gs, (fst + kx).toNat, none⟩) (.inl hQs) (.int .i64 (rg c.re r)))
  have hsW : w.heap.size + 4 ≤ (Y'.setCell ⟨gs, (fst + kx).toNat, none⟩ (.int .i64 (rg c.re r))).heap.size := by simp; omega
  generalize Y'.setCell ⟨gs, (fst + kx).toNat, none⟩ (.int .i64 (rg c.re r)) = W2 at HPUT Y0 y1 Y2 Y3 B1 K1 hsW ⊢
  obtain ⟨cx, hcx⟩ : ∃ cx : VC, cx = { c with st := c.st.set (fst + kx).toNat (rg c.re r) } := ⟨_, rfl⟩
  have v1 := HPUT.out
  rw [← hcx] at v1
  obtain ⟨A1x, n1x, A2x, n2x, A3x, n3x, A7x, n7x, A8x, n8x, ecs, hh9⟩ := id v1
  clear hh9
  rw [ecs] at y1 v1
  have Y1 := Aside0.mk y1
  have V1 := Aside0.mk v1
  have HCX := Aside0.mk hcx
  have htr9 : cx.tr.length < 1000000000 := by rw [hcx]; exact htr
  clear hfar HPUT hcx v1 y1 ecs D0' D1' D2' D3' VD' DB' DK' QG' hHeld hq9 qs htr
  have p1 : W2.cell? ⟨w.heap.size, 1, none⟩ = some (.slice (some ad) l1.length cv) := (blk_cell Y0.out 1).trans rfl
  have i2 : W2.cell? ⟨w.heap.size + 2, 1, none⟩ = some (.int .i64 (v : Int)) := (blk_cell Y2.out 1).trans rfl
  obtain ⟨z, hz⟩ : ∃ z, (rd_T42 l1 v).f2 = z := ⟨_, rfl⟩
  have q2 := (B1.out.cell (World.block_lt_of_cell? w0 _ Q2.out)).trans Q2.out
  rw [hz] at q2
  have HZ := Aside0.mk hz
  clear hz
  go_upto_if 39 with (fail)
  go_cut [] (fun wc => Aside0 (∃ cs1, VR wc w0.heap.size (fun k => Q k ∨ w.heap.size + 4 ≤ k) cs1 (vEv l1 2 v kx cx) ∧ wc.heap[w.heap.size + 1]? = some (.cells cs1 64 (0, 0))) ∧ Aside0 (wc.heap[w.heap.size]? = some (.cells #[.int .i64 wd, .slice (some ad) l1.length cv, .slice Ai L ci] 31 (0, 0))) ∧ Aside0 (wc.heap[w.heap.size + 2]? = some (.cells #[.int .i64 (op), .int .i64 ((v : Int)), .int .i64 (s), .int .i64 (r), .int .i64 (f4)] 40 (0, 0))) ∧ Aside0 (wc.heap[w.heap.size + 3]? = some (.cells #[.int .i64 0, .slice none 0 0, .slice none 0 0, .slice none 0 0, .int .i64 0, .int .i64 0, .int .i64 0, .slice none 0 0, .slice none 0 0, .int .i64 0, .int .i64 0, .bool false] 64 (0, 0))) ∧ Aside0 (Below w0.heap.size w0 wc) ∧ Aside0 (Kept w wc Q))
  case first =>
    by_cases hz1 : 1 < z
    · have d1 : decide (1 < z) = true := decide_eq_true hz1
      obtain ⟨c0, c1, c2, c3, c4, c5, c6, c7, c8, c9, c10, c11⟩ := row12 Y1.out
      have YY0 := Y0
      have YY1 := Y1
      have YY2 := Y2
      have YY3 := Y3
      go_upto_region 5 with (first | (go_at_call 59; refine (vm_event.calls w0 W2 _ _ cx 2 v kx B1.out V1.out (fun k hk => by have := HQ.out k hk; omega) htr9).mono ?_; rintro e W3 ⟨cs', rfl, hv2, hb2, hk2⟩; obtain ⟨A1', n1', A2', n2', A3', n3', A7', n7', A8', n8', rfl, hh_⟩ := id hv2; clear hh_; have V2 := Aside0.mk hv2; have B2 := Aside0.mk hb2; have K2 := Aside0.mk hk2; clear hv2 hb2 hk2; have Z1 := Aside0.mk ((K2.out.2 (w.heap.size + 1) (by omega) (fun h => by have := HQ.out _ h; omega)).trans YY1.out); clear c0 c1 c2 c3 c4 c5 c6 c7 c8 c9 c10 c11 p1 i2 q2; have z0 : W3.cell? ⟨w.heap.size + 1, 0, none⟩ = some (.int .i64 cx.ed) := (blk_cell Z1.out 0).trans rfl; have z1 : W3.cell? ⟨w.heap.size + 1, 1, none⟩ = some (.slice A1x cx.st.length n1x) := (blk_cell Z1.out 1).trans rfl; have z2 : W3.cell? ⟨w.heap.size + 1, 2, none⟩ = some (.slice A2x cx.ou.length n2x) := (blk_cell Z1.out 2).trans rfl; have z3 : W3.cell? ⟨w.heap.size + 1, 3, none⟩ = some (.slice A3x cx.tr.length n3x) := (blk_cell Z1.out 3).trans rfl; have z4 : W3.cell? ⟨w.heap.size + 1, 4, none⟩ = some (.int .i64 cx.co) := (blk_cell Z1.out 4).trans rfl; have z5 : W3.cell? ⟨w.heap.size + 1, 5, none⟩ = some (.int .i64 cx.us) := (blk_cell Z1.out 5).trans rfl; have z6 : W3.cell? ⟨w.heap.size + 1, 6, none⟩ = some (.int .i64 cx.wh) := (blk_cell Z1.out 6).trans rfl; have z7 : W3.cell? ⟨w.heap.size + 1, 7, none⟩ = some (.slice A7x cx.re.length n7x) := (blk_cell Z1.out 7).trans rfl; have z8 : W3.cell? ⟨w.heap.size + 1, 8, none⟩ = some (.slice A8x cx.tl.length n8x) := (blk_cell Z1.out 8).trans rfl; have z9 : W3.cell? ⟨w.heap.size + 1, 9, none⟩ = some (.int .i64 cx.pc) := (blk_cell Z1.out 9).trans rfl; have z10 : W3.cell? ⟨w.heap.size + 1, 10, none⟩ = some (.int .i64 cx.fu) := (blk_cell Z1.out 10).trans rfl; have z11 : W3.cell? ⟨w.heap.size + 1, 11, none⟩ = some (.bool cx.ov) := (blk_cell Z1.out 11).trans rfl; have g0 := blk_frozen Z1.out 0; have g1 := blk_frozen Z1.out 1; have g2 := blk_frozen Z1.out 2; have g3 := blk_frozen Z1.out 3; have g4 := blk_frozen Z1.out 4; have g5 := blk_frozen Z1.out 5; have g6 := blk_frozen Z1.out 6; have g7 := blk_frozen Z1.out 7; have g8 := blk_frozen Z1.out 8; have g9 := blk_frozen Z1.out 9; have g10 := blk_frozen Z1.out 10; have g11 := blk_frozen Z1.out 11))
      go_meet
      case rel =>
        have hw1 := hsW
        have far : ∀ k, k ≠ w.heap.size + 1 → k < W2.heap.size → ¬ Q k → ∀ o, W2.heap[k]? = some o → (W3.setCells (w.heap.size + 1) 0 [.int .i64 cx.ed, .slice A1' cx.st.length n1', .slice A2' cx.ou.length n2', .slice A3' (cx.tr.length + 1) n3', .int .i64 cx.co, .int .i64 cx.us, .int .i64 cx.wh, .slice A7' cx.re.length n7', .slice A8' cx.tl.length n8', .int .i64 cx.pc, .int .i64 cx.fu, .bool cx.ov]).heap[k]? = some o := fun k h1 h2 h3 o ho => (fill_far h1).trans ((K2.out.2 k h2 h3).trans ho)
        have nq : ∀ k, w.heap.size ≤ k → ¬ Q k := fun k h hq => by have := HQ.out k hq; omega
        have hl3 : (cx.tr ++ [(⟨2, v, kx⟩ : S123)]).length = cx.tr.length + 1 := by simp
        have v2 : VR W3 w0.heap.size (fun k => Q k ∨ W2.heap.size ≤ k) #[.int .i64 cx.ed, .slice A1' cx.st.length n1', .slice A2' cx.ou.length n2', .slice A3' (cx.tr ++ [(⟨2, v, kx⟩ : S123)]).length n3', .int .i64 cx.co, .int .i64 cx.us, .int .i64 cx.wh, .slice A7' cx.re.length n7', .slice A8' cx.tl.length n8', .int .i64 cx.pc, .int .i64 cx.fu, .bool cx.ov] { cx with tr := cx.tr ++ [⟨2, v, kx⟩] } := V2.out
        rw [hl3] at v2
        have hfill := fill_block (vs := [.int .i64 cx.ed, .slice A1' cx.st.length n1', .slice A2' cx.ou.length n2', .slice A3' (cx.tr.length + 1) n3', .int .i64 cx.co, .int .i64 cx.us, .int .i64 cx.wh, .slice A7' cx.re.length n7', .slice A8' cx.tl.length n8', .int .i64 cx.pc, .int .i64 cx.fu, .bool cx.ov]) Z1.out rfl
        have hb9 := fill_below (vs := [.int .i64 cx.ed, .slice A1' cx.st.length n1', .slice A2' cx.ou.length n2', .slice A3' (cx.tr.length + 1) n3', .int .i64 cx.co, .int .i64 cx.us, .int .i64 cx.wh, .slice A7' cx.re.length n7', .slice A8' cx.tl.length n8', .int .i64 cx.pc, .int .i64 cx.fu, .bool cx.ov]) (g := w.heap.size + 1) B2.out (by omega)
        have hk9 := fill_kept (vs := [.int .i64 cx.ed, .slice A1' cx.st.length n1', .slice A2' cx.ou.length n2', .slice A3' (cx.tr.length + 1) n3', .int .i64 cx.co, .int .i64 cx.us, .int .i64 cx.wh, .slice A7' cx.re.length n7', .slice A8' cx.tl.length n8', .int .i64 cx.pc, .int .i64 cx.fu, .bool cx.ov]) (g := w.heap.size + 1) (K1.out.then_ K2.out (fun k h => .inl h)) (.inr (by omega))
        refine ⟨⟨#[.int .i64 cx.ed, .slice A1' cx.st.length n1', .slice A2' cx.ou.length n2', .slice A3' (cx.tr.length + 1) n3', .int .i64 cx.co, .int .i64 cx.us, .int .i64 cx.wh, .slice A7' cx.re.length n7', .slice A8' cx.tl.length n8', .int .i64 cx.pc, .int .i64 cx.fu, .bool cx.ov], ?_, hfill⟩, ⟨far _ (by omega) (by omega) (nq _ (by omega)) _ YY0.out⟩, ⟨far _ (by omega) (by omega) (nq _ (by omega)) _ YY2.out⟩, ⟨far _ (by omega) (by omega) (nq _ (by omega)) _ YY3.out⟩, ⟨hb9⟩, ⟨hk9⟩⟩
        have hve : vEv l1 2 v kx cx = { cx with tr := cx.tr ++ [⟨2, v, kx⟩] } := by rw [vEv, HZ.out, if_pos hz1]
        rw [hve]
        exact (v2.fill (g := w.heap.size + 1) (fun h => by rcases h with h | h; exact nq _ (by omega) h; omega) [.int .i64 cx.ed, .slice A1' cx.st.length n1', .slice A2' cx.ou.length n2', .slice A3' (cx.tr.length + 1) n3', .int .i64 cx.co, .int .i64 cx.us, .int .i64 cx.wh, .slice A7' cx.re.length n7', .slice A8' cx.tl.length n8', .int .i64 cx.pc, .int .i64 cx.fu, .bool cx.ov]).mono (fun k hk _ => by rcases hk with hk | hk; exact .inl hk; exact .inr (by omega))
    · have d1 : decide (1 < z) = false := decide_eq_false hz1
      go_wp2
      go_meet
      case rel =>
        have hve : vEv l1 2 v kx cx = cx := by rw [vEv, HZ.out, if_neg (by omega)]
        exact ⟨⟨_, by rw [hve]; exact V1.out.mono (fun k hk _ => .inl hk), Y1.out⟩, Y0, Y2, Y3, B1, K1⟩
  case rest =>
    clear p1 i2 q2 Y0 Y1 Y2 Y3 V1 B1 K1
    obtain ⟨HV, Y0, Y2, Y3, B1, K1⟩ := hcut
    obtain ⟨cs1, hv1, hy1⟩ := HV.out
    obtain ⟨c1, hc1⟩ : ∃ c1, c1 = vEv l1 2 v kx cx := ⟨_, rfl⟩
    rw [← hc1] at hv1
    obtain ⟨e1, e2, e3, e4, e5, e6, e7⟩ := vEv_same l1 2 v kx cx
    rw [← hc1] at e6
    obtain ⟨A1', n1', A2', n2', A3', n3', A7', n7', A8', n8', rfl, hh_⟩ := id hv1
    clear hh_ HV e1 e2 e3 e4 e5 e7
    have e8 : c1.pc = c.pc := by rw [e6, HCX.out]
    have hpc1 : 0 ≤ c1.pc := by omega
    have hpc2 : c1.pc < 1000000000 := by omega
    have hwp : IntKind.i64.wrap (c1.pc + 1) = c1.pc + 1 := by rw [i64_w]; unfold wrap64; omega
    have HC := Aside0.mk hc1
    have Y1 := Aside0.mk hy1
    have V1 := Aside0.mk hv1
    clear hc1 hv1 hy1 e6 e8
    obtain ⟨u0, u1, u2, u3, u4, u5, u6, u7, u8, u9, u10, u11⟩ := row12 Y1.out
    have f9 := blk_frozen Y1.out 9
    obtain ⟨z0, z1, z2, z3, z4, z5, z6, z7, z8, z9, z10, z11⟩ := row12 Y3.out
    obtain ⟨g0, g1, g2, g3, g4, g5, g6, g7, g8, g9, g10, g11⟩ := froz12 Y3.out
    go_wp2
    change bodyPost _ _ _ _ _ ((wc.setCell ⟨w.heap.size + 1, 9, none⟩ (.int .i64 (c1.pc + 1))).setCells (w.heap.size + 3) 0 [.int .i64 c1.ed, .slice A1' c1.st.length n1', .slice A2' c1.ou.length n2', .slice A3' c1.tr.length n3', .int .i64 c1.co, .int .i64 c1.us, .int .i64 c1.wh, .slice A7' c1.re.length n7', .slice A8' c1.tl.length n8', .int .i64 (c1.pc + 1), .int .i64 c1.fu, .bool c1.ov])
    have x3 := (Below.heap_setCell wc ⟨w.heap.size + 1, 9, none⟩ (.int .i64 (c1.pc + 1)) (w.heap.size + 3) (by show w.heap.size + 3 ≠ w.heap.size + 1; omega)).trans Y3.out
    have nq : ¬ (Q (w.heap.size + 1) ∨ w.heap.size + 4 ≤ w.heap.size + 1) := fun h => by rcases h with h | h; (have := HQ.out _ h; omega); omega
    have nq3 : ¬ (Q (w.heap.size + 3) ∨ w.heap.size + 4 ≤ w.heap.size + 3) := fun h => by rcases h with h | h; (have := HQ.out _ h; omega); omega
    have v9 := (V1.out.set (p := ⟨w.heap.size + 1, 9, none⟩) nq (.int .i64 (c1.pc + 1))).pc' (c1.pc + 1)
    have b9 := B1.out.setCell (p := ⟨w.heap.size + 1, 9, none⟩) (by show w0.heap.size ≤ w.heap.size + 1; omega) (.int .i64 (c1.pc + 1))
    have k9 := K1.out.setCell (p := ⟨w.heap.size + 1, 9, none⟩) (.inr (Nat.le_succ _)) (.int .i64 (c1.pc + 1))
    generalize wc.setCell ⟨w.heap.size + 1, 9, none⟩ (.int .i64 (c1.pc + 1)) = Wf at x3 v9 b9 k9 ⊢
    have hfill := fill_block (vs := [.int .i64 c1.ed, .slice A1' c1.st.length n1', .slice A2' c1.ou.length n2', .slice A3' c1.tr.length n3', .int .i64 c1.co, .int .i64 c1.us, .int .i64 c1.wh, .slice A7' c1.re.length n7', .slice A8' c1.tl.length n8', .int .i64 (c1.pc + 1), .int .i64 c1.fu, .bool c1.ov]) x3 rfl
    refine bodyPost_ret (results_cell_row rfl _ _ (w.heap.size + 3) 64 #[.int .i64 c1.ed, .slice A1' c1.st.length n1', .slice A2' c1.ou.length n2', .slice A3' c1.tr.length n3', .int .i64 c1.co, .int .i64 c1.us, .int .i64 c1.wh, .slice A7' c1.re.length n7', .slice A8' c1.tl.length n8', .int .i64 (c1.pc + 1), .int .i64 c1.fu, .bool c1.ov] (0, 0) _ rfl hfill huV rfl (by kernel_rfl)) rfl ?_
    have hfin : vStore l1 fst v s r c = { c1 with pc := c1.pc + 1 } := by
      rw [vStore, HKX.out, ← HCX.out, ← HC.out]
      have : c1.pc = c.pc := by rw [HC.out, (vEv_same l1 2 v kx cx).2.2.2.2.2.1, HCX.out]
      rw [this]
    rw [hfin]
    exact ⟨_, rfl, (v9.fill (g := w.heap.size + 3) nq3 [.int .i64 c1.ed, .slice A1' c1.st.length n1', .slice A2' c1.ou.length n2', .slice A3' c1.tr.length n3', .int .i64 c1.co, .int .i64 c1.us, .int .i64 c1.wh, .slice A7' c1.re.length n7', .slice A8' c1.tl.length n8', .int .i64 (c1.pc + 1), .int .i64 c1.fu, .bool c1.ov]).mono (fun k hk _ => by rcases hk with h | h; exact .inl h; exact .inr (by omega)), fill_below b9 (by omega), fill_kept k9 (.inr (by omega))⟩
def vStop (x : Int) (c : VC) : VC := { c with ed := x, ov := true, wh := if x = 0 then c.wh else c.pc }
def vWith (r a : Int) (c : VC) : VC := { c with re := c.re.set r.toNat a, pc := c.pc + 1 }
def vDo (k : Nat) (wd : Int) (l1 : List S42) (picks : List Int) (c : VC) (i : S40) : Option VC :=
  if i.f0 = 0 then some (vWith i.f1 i.f2 c)
  else if i.f0 = 1 then (vVal k wd c.re i).map fun r => vWith i.f1 r c
  else if i.f0 = 2 then some (vWith i.f1 (if rg c.re i.f2 = 0 then rg c.re i.f4 else rg c.re i.f3) c)
  else if i.f0 = 3 then (r2_First.f k l1 i.f2).map fun fst => vLoad l1 fst i.f1.toNat i.f2.toNat i.f3 c
  else if i.f0 = 4 then (r2_First.f k l1 i.f1).map fun fst => vStore l1 fst i.f1.toNat i.f2 i.f3 c
  else if i.f0 = 5 then some { c with pc := i.f1 }
  else if i.f0 = 6 then some { c with tr := c.tr ++ [⟨0, c.pc, if rg c.re i.f1 = 0 then 1 else 0⟩], pc := if rg c.re i.f1 = 0 then i.f2 else c.pc + 1 }
  else if i.f0 = 7 then some { c with ou := c.ou ++ [⟨i.f1, rg c.re i.f2⟩], pc := c.pc + 1 }
  else if i.f0 = 8 then (if (picks.length : Int) ≤ c.us then some (vStop 4 c) else some (vWith i.f1 (rg picks c.us) { c with us := c.us + 1 }))
  else if i.f0 = 9 then (if rg c.re i.f1 = 0 then some (vStop 1 c) else some { c with pc := c.pc + 1 })
  else if i.f0 = 10 then (if rg c.re i.f1 = 0 then some (vStop 2 c) else some { c with pc := c.pc + 1 })
  else some (vStop 0 c)
def vReg (c : VC) (r : Int) : Prop := 0 ≤ r ∧ r < c.re.length
def vCell (l1 : List S42) (fst : Int) (v s : Int) (c : VC) : Prop := 0 ≤ v ∧ v < l1.length ∧ (¬ (rd_T42 l1 v.toNat).f2 < 2 → vReg c s) ∧ 0 ≤ fst + vIdx l1 c.re v.toNat s ∧ fst + vIdx l1 c.re v.toNat s < c.st.length
def vFit (k : Nat) (l1 : List S42) (c : VC) (i : S40) : Prop :=
  (0 ≤ c.pc ∧ c.pc < 1000000000 ∧ c.tr.length < 1000000000 ∧ c.ou.length < 1000000000 ∧ 0 ≤ c.us ∧ c.us < 1000000000) ∧
  (i.f0 = 0 → vReg c i.f1) ∧ (i.f0 = 1 → vReg c i.f1 ∧ vReg c i.f3 ∧ (i.f2 ≠ 12 → vReg c i.f4)) ∧ (i.f0 = 2 → vReg c i.f1 ∧ vReg c i.f2 ∧ vReg c i.f3 ∧ vReg c i.f4) ∧
  (i.f0 = 3 → vReg c i.f1 ∧ ∀ fst, r2_First.f k l1 i.f2 = some fst → vCell l1 fst i.f2 i.f3 c) ∧ (i.f0 = 4 → vReg c i.f3 ∧ ∀ fst, r2_First.f k l1 i.f1 = some fst → vCell l1 fst i.f1 i.f2 c) ∧
  (i.f0 = 6 → vReg c i.f1) ∧ (i.f0 = 7 → vReg c i.f2) ∧ (i.f0 = 8 → vReg c i.f1) ∧ (i.f0 = 9 → vReg c i.f1) ∧ (i.f0 = 10 → vReg c i.f1)
theorem infoOut : (Try.prog.info? 108).map (fun i => (i.zero, i.size, i.bytes)) = some (some (.agg #[.int .i64 0, .int .i64 0]), 2, 16) := by kernel_rfl
theorem vm_withI (w0 w : World) (Q : Nat → Prop) (cs : Array Value) (c : VC) (r a : Int) (hB : Below w0.heap.size w0 w) (hV : VR w w0.heap.size Q cs c) (hQ : ∀ k, Q k → k < w.heap.size) (hr : vReg c r) (hp0 : 0 ≤ c.pc) (hp1 : c.pc < 1000000000) :
    Calls Try.prog 54 #[.agg cs, .int .i64 r, .int .i64 a] w fun e w' => ∃ cs', e = .returned (.agg cs') ∧ VR w' w0.heap.size (fun k => Q k ∨ w.heap.size ≤ k) cs' (vWith r a c) ∧ Below w0.heap.size w0 w' ∧ Kept w w' Q := by
  obtain ⟨n, rfl⟩ := Int.eq_ofNat_of_zero_le hr.1
  have := vm_with.calls w0 w Q cs c n a hB hV hQ (by have := hr.2; omega) hp0 hp1
  rw [vWith, Int.toNat_natCast]
  exact this
theorem vm_loadI (k : Nat) (w0 w : World) (Q : Nat → Prop) (cs : Array Value) (c : VC) (wd : Int) (Av : Option Addr) (cv : Nat) (l1 : List S42) (Ai : Option Addr) (L ci : Nat) (i : S40) (fst : Int) (hB : Below w0.heap.size w0 w) (hV : VR w w0.heap.size Q cs c) (hQ : ∀ k, Q k → k < w.heap.size) (hr1 : Kd.C k42 w0 Av l1.length l1) (hc1 : l1.length ≤ cv) (hra : vReg c i.f1) (hc : vCell l1 fst i.f2 i.f3 c) (hF : r2_First.f k l1 i.f2 = some fst) (hp0 : 0 ≤ c.pc) (hp1 : c.pc < 1000000000) (htr : c.tr.length < 1000000000) :
    Calls Try.prog 56 #[.agg #[.int .i64 wd, .slice Av l1.length cv, .slice Ai L ci], .agg cs, .agg #[.int .i64 i.f0, .int .i64 i.f1, .int .i64 i.f2, .int .i64 i.f3, .int .i64 i.f4]] w fun e w' => ∃ cs', e = .returned (.agg cs') ∧ VR w' w0.heap.size (fun k => Q k ∨ w.heap.size ≤ k) cs' (vLoad l1 fst i.f1.toNat i.f2.toNat i.f3 c) ∧ Below w0.heap.size w0 w' ∧ Kept w w' Q := by
  obtain ⟨op, a, v, s, f4⟩ := i
  dsimp only at hra hc hF ⊢
  obtain ⟨n, rfl⟩ := Int.eq_ofNat_of_zero_le hra.1
  obtain ⟨h1, h2, h3, h4, h5⟩ := hc
  obtain ⟨m, rfl⟩ := Int.eq_ofNat_of_zero_le h1
  simp only [Int.ofNat_eq_natCast, Int.toNat_natCast] at *
  exact vm_load.calls k w0 w Q cs c wd Av cv l1 Ai L ci op s f4 fst n m hB hV hQ hr1 hc1 (by omega) h3 (by have := hra.2; omega) hF h4 h5 hp0 hp1 htr
theorem vm_storeI (k : Nat) (w0 w : World) (Q : Nat → Prop) (cs : Array Value) (c : VC) (wd : Int) (Av : Option Addr) (cv : Nat) (l1 : List S42) (Ai : Option Addr) (L ci : Nat) (i : S40) (fst : Int) (hB : Below w0.heap.size w0 w) (hV : VR w w0.heap.size Q cs c) (hQ : ∀ k, Q k → k < w.heap.size) (hr1 : Kd.C k42 w0 Av l1.length l1) (hc1 : l1.length ≤ cv) (hr : vReg c i.f3) (hc : vCell l1 fst i.f1 i.f2 c) (hF : r2_First.f k l1 i.f1 = some fst) (hp0 : 0 ≤ c.pc) (hp1 : c.pc < 1000000000) (htr : c.tr.length < 1000000000) :
    Calls Try.prog 57 #[.agg #[.int .i64 wd, .slice Av l1.length cv, .slice Ai L ci], .agg cs, .agg #[.int .i64 i.f0, .int .i64 i.f1, .int .i64 i.f2, .int .i64 i.f3, .int .i64 i.f4]] w fun e w' => ∃ cs', e = .returned (.agg cs') ∧ VR w' w0.heap.size (fun k => Q k ∨ w.heap.size ≤ k) cs' (vStore l1 fst i.f1.toNat i.f2 i.f3 c) ∧ Below w0.heap.size w0 w' ∧ Kept w w' Q := by
  obtain ⟨op, v, s, r, f4⟩ := i
  dsimp only at hr hc hF ⊢
  obtain ⟨h1, h2, h3, h4, h5⟩ := hc
  obtain ⟨m, rfl⟩ := Int.eq_ofNat_of_zero_le h1
  simp only [Int.ofNat_eq_natCast, Int.toNat_natCast] at *
  exact vm_store.calls k w0 w Q cs c wd Av cv l1 Ai L ci op s r f4 fst m hB hV hQ hr1 hc1 (by omega) h3 hr.1 hr.2 hF h4 h5 hp0 hp1 htr
theorem vm_do.calls (k : Nat) (w0 w : World) (Q : Nat → Prop) (cs : Array Value) (c : VC) (wd : Int) (Av : Option Addr) (cv : Nat) (l1 : List S42) (Ai : Option Addr) (L ci : Nat) (Ap_ : Option Addr) (np : Nat) (picks : List Int) (i : S40) (c' : VC) (hB : Below w0.heap.size w0 w) (hV : VR w w0.heap.size Q cs c) (hQ : ∀ k, Q k → k < w.heap.size) (hr1 : Kd.C k42 w0 Av l1.length l1) (hc1 : l1.length ≤ cv) (hpk : Kd.C (Kd.int .i64) w0 Ap_ picks.length picks) (hpn : picks.length ≤ np) (hf : vFit k l1 c i) (h : vDo k wd l1 picks c i = some c') :
    Calls Try.prog 35 #[.agg #[.int .i64 wd, .slice Av l1.length cv, .slice Ai L ci], .slice Ap_ picks.length np, .agg cs, .agg #[.int .i64 i.f0, .int .i64 i.f1, .int .i64 i.f2, .int .i64 i.f3, .int .i64 i.f4]] w fun e w' => ∃ cs', e = .returned (.agg cs') ∧ VR w' w0.heap.size (fun k => Q k ∨ w.heap.size ≤ k) cs' c' ∧ Below w0.heap.size w0 w' ∧ Kept w w' Q := by
  obtain ⟨A1, n1, A2, n2, A3, n3, A7, n7, A8, n8, rfl, hh⟩ := id hV
  clear hh
  obtain ⟨b_, hsz_, x0_, x1_, x2_, x3_⟩ := box4 w (.cells #[.int .i64 wd, .slice Av l1.length cv, .slice Ai L ci] 31) (.cells #[.int .i64 c.ed, .slice A1 c.st.length n1, .slice A2 c.ou.length n2, .slice A3 c.tr.length n3, .int .i64 c.co, .int .i64 c.us, .int .i64 c.wh, .slice A7 c.re.length n7, .slice A8 c.tl.length n8, .int .i64 c.pc, .int .i64 c.fu, .bool c.ov] 64) (.cells #[.int .i64 i.f0, .int .i64 i.f1, .int .i64 i.f2, .int .i64 i.f3, .int .i64 i.f4] 40) (.cells #[.int .i64 0, .slice none 0 0, .slice none 0 0, .slice none 0 0, .int .i64 0, .int .i64 0, .int .i64 0, .slice none 0 0, .slice none 0 0, .int .i64 0, .int .i64 0, .bool false] 64)
  have HV0 := Aside0.mk (hV.below b_)
  have HB0 := Aside0.mk (hB.trans (b_.mono hB.size))
  have HK0 := Aside0.mk (show Kept w _ Q from Kept.of_below b_ _)
  have HBW := Aside0.mk b_
  have HSZ := Aside0.mk hsz_
  have XB0 := Aside0.mk x0_
  have XB1 := Aside0.mk x1_
  have XB2 := Aside0.mk x2_
  have XB3 := Aside0.mk x3_
  have HQ := Aside0.mk hQ
  have hBs := hB.size
  have HR1 := Aside0.mk hr1
  have HC1 := Aside0.mk hc1
  clear hsz_ hQ hB hr1 hc1 b_ x0_ x1_ x2_ x3_
  have huV := Try.underlying64
  have huR := Try.underlying62
  have huC := Try.underlying31
  have huI := Try.underlying40
  have HPK := Aside0.mk hpk
  obtain ⟨⟨hp0, hp1, htr, hou, hu0, hu1⟩, F0, F1, F2, F3, F4, F6, F7, F8, F9, F10⟩ := hf
  have HF0 := Aside0.mk F0
  have HF1 := Aside0.mk F1
  have HF2 := Aside0.mk F2
  have HF3 := Aside0.mk F3
  have HF4 := Aside0.mk F4
  have HF6 := Aside0.mk F6
  have HF7 := Aside0.mk F7
  have HF8 := Aside0.mk F8
  have HF9 := Aside0.mk F9
  have HF10 := Aside0.mk F10
  clear F0 F1 F2 F3 F4 F6 F7 F8 F9 F10 hpk hV
  go_enter Try.func35, Try.ntmps35
  go_upto_region 1 with (fail)
  generalize (((w.alloc (.cells #[.int .i64 wd, .slice Av l1.length cv, .slice Ai L ci] 31)).alloc (.cells #[.int .i64 c.ed, .slice A1 c.st.length n1, .slice A2 c.ou.length n2, .slice A3 c.tr.length n3, .int .i64 c.co, .int .i64 c.us, .int .i64 c.wh, .slice A7 c.re.length n7, .slice A8 c.tl.length n8, .int .i64 c.pc, .int .i64 c.fu, .bool c.ov] 64)).alloc (.cells #[.int .i64 i.f0, .int .i64 i.f1, .int .i64 i.f2, .int .i64 i.f3, .int .i64 i.f4] 40)).alloc (.cells #[.int .i64 0, .slice none 0 0, .slice none 0 0, .slice none 0 0, .int .i64 0, .int .i64 0, .int .i64 0, .slice none 0 0, .slice none 0 0, .int .i64 0, .int .i64 0, .bool false] 64) = W0 at HV0 HB0 HK0 HBW HSZ XB0 XB1 XB2 XB3 ⊢
  obtain ⟨p0, p1, p2⟩ := row3 XB0.out
  obtain ⟨c0, c1, c2, c3, c4, c5, c6, c7, c8, c9, c10, c11⟩ := row12 XB1.out
  obtain ⟨i0, i1, i2, i3, i4⟩ := row5 XB2.out
  by_cases h0 : i.f0 = 0
  · rw [vDo, if_pos h0] at h
    have e0 : (i.f0 == 0) = true := beq_iff_eq.mpr h0
    have H0 := Aside0.mk h0
    clear h0
    have h := Option.some.inj h
    have HH := Aside0.mk h
    clear h
    go_wp2_with (first | (go_at_call 54; refine (vm_withI w0 W0 Q _ c i.f1 i.f2 HB0.out HV0.out (fun k hk => by have := HQ.out k hk; have := HSZ.out; omega) (HF0.out H0.out) hp0 hp1).mono ?_; rintro e W2 ⟨cs2, rfl, hv2, hb2, hk2⟩; have X3 := Aside0.mk ((hk2.2 (w.heap.size + 3) (by have := HSZ.out; omega) (fun h => absurd (HQ.out _ h) (by omega))).trans XB3.out); obtain ⟨c2, hc2⟩ : ∃ c2 : VC, c2 = vWith i.f1 i.f2 c := ⟨_, rfl⟩; have HV2 := Aside0.mk (show VR W2 w0.heap.size (fun k => Q k ∨ W0.heap.size ≤ k) cs2 c2 by rw [hc2]; exact hv2); have HC2 := Aside0.mk hc2; obtain ⟨B1_, m1_, B2_, m2_, B3_, m3_, B7_, m7_, B8_, m8_, rfl, hh2⟩ := id HV2.out; clear hh2; have HB2 := Aside0.mk hb2; have HK2 := Aside0.mk (HK0.out.then_ hk2 (fun k hk => .inl hk)); have hs2 := hk2.1; have hlc : w.heap.size + 3 < W0.heap.size := (by have := HSZ.out; omega); clear hv2 hb2 hk2 hc2; obtain ⟨z0, z1, z2, z3, z4, z5, z6, z7, z8, z9, z10, z11⟩ := row12 X3.out; obtain ⟨g0, g1, g2, g3, g4, g5, g6, g7, g8, g9, g10, g11⟩ := froz12 X3.out))
    exact v_end (g := w.heap.size + 3) HV2.out (HC2.out.trans HH.out) X3.out rfl HB2.out HK2.out (by omega) (by omega) (fun h => by rcases h with h | h; exact absurd (HQ.out _ h) (by omega); omega) (fun k hk => by rcases hk with h | h; exact .inl h; exact .inr (by omega)) rfl rfl rfl rfl
  have e0 := (beq_eq_false_iff_ne (a := i.f0)).mpr h0
  by_cases h5 : i.f0 = 5
  · rw [vDo, if_neg (by rw [h5]; decide), if_neg (by rw [h5]; decide), if_neg (by rw [h5]; decide), if_neg (by rw [h5]; decide), if_neg (by rw [h5]; decide), if_pos h5] at h
    have e5 : (i.f0 == 5) = true := beq_iff_eq.mpr h5
    have e1 : (i.f0 == 1) = false := beq_eq_false_iff_ne.mpr (by rw [h5]; decide)
    have e2 : (i.f0 == 2) = false := beq_eq_false_iff_ne.mpr (by rw [h5]; decide)
    have e3 : (i.f0 == 3) = false := beq_eq_false_iff_ne.mpr (by rw [h5]; decide)
    have e4 : (i.f0 == 4) = false := beq_eq_false_iff_ne.mpr (by rw [h5]; decide)
    have H5 := Aside0.mk h5
    clear h5
    have h := Option.some.inj h
    have HH := Aside0.mk h
    clear h
    go_wp2_with (first | (go_at_call 58; refine (vm_goes.calls w0 W0 Q _ c true i.f1 HB0.out HV0.out (fun k hk => by have := HQ.out k hk; have := HSZ.out; omega) hp0 hp1).mono ?_; rintro e W2 ⟨cs2, rfl, hv2, hb2, hk2⟩; have X3 := Aside0.mk ((hk2.2 (w.heap.size + 3) (by have := HSZ.out; omega) (fun h => absurd (HQ.out _ h) (by omega))).trans XB3.out); obtain ⟨c2, hc2⟩ : ∃ c2 : VC, c2 = { c with pc := i.f1 } := ⟨_, rfl⟩; have HV2 := Aside0.mk (show VR W2 w0.heap.size (fun k => Q k ∨ W0.heap.size ≤ k) cs2 c2 by rw [hc2]; exact hv2); have HC2 := Aside0.mk hc2; obtain ⟨B1_, m1_, B2_, m2_, B3_, m3_, B7_, m7_, B8_, m8_, rfl, hh2⟩ := id HV2.out; clear hh2; have HB2 := Aside0.mk hb2; have HK2 := Aside0.mk (HK0.out.then_ hk2 (fun k hk => .inl hk)); have hs2 := hk2.1; have hlc : w.heap.size + 3 < W0.heap.size := (by have := HSZ.out; omega); clear hv2 hb2 hk2 hc2; obtain ⟨z0, z1, z2, z3, z4, z5, z6, z7, z8, z9, z10, z11⟩ := row12 X3.out; obtain ⟨g0, g1, g2, g3, g4, g5, g6, g7, g8, g9, g10, g11⟩ := froz12 X3.out))
    exact v_end (g := w.heap.size + 3) HV2.out (HC2.out.trans HH.out) X3.out rfl HB2.out HK2.out (by omega) (by omega) (fun h => by rcases h with h | h; exact absurd (HQ.out _ h) (by omega); omega) (fun k hk => by rcases hk with h | h; exact .inl h; exact .inr (by omega)) rfl rfl rfl rfl
  have e5 := (beq_eq_false_iff_ne (a := i.f0)).mpr h5
  by_cases h3 : i.f0 = 3
  · rw [vDo, if_neg (by rw [h3]; decide), if_neg (by rw [h3]; decide), if_neg (by rw [h3]; decide), if_pos h3] at h
    have e3 : (i.f0 == 3) = true := beq_iff_eq.mpr h3
    have e1 : (i.f0 == 1) = false := beq_eq_false_iff_ne.mpr (by rw [h3]; decide)
    have e2 : (i.f0 == 2) = false := beq_eq_false_iff_ne.mpr (by rw [h3]; decide)
    have H3 := Aside0.mk h3
    clear h3
    obtain ⟨fst, hF, h⟩ := Option.map_eq_some_iff.mp h
    have HH := Aside0.mk h
    clear h
    go_wp2_with (first | (go_at_call 56; refine (vm_loadI k w0 W0 Q _ c wd Av cv l1 Ai L ci i fst HB0.out HV0.out (fun k hk => by have := HQ.out k hk; have := HSZ.out; omega) HR1.out HC1.out (HF3.out H3.out).1 ((HF3.out H3.out).2 fst hF) hF hp0 hp1 htr).mono ?_; rintro e W2 ⟨cs2, rfl, hv2, hb2, hk2⟩; have X3 := Aside0.mk ((hk2.2 (w.heap.size + 3) (by have := HSZ.out; omega) (fun h => absurd (HQ.out _ h) (by omega))).trans XB3.out); obtain ⟨c2, hc2⟩ : ∃ c2 : VC, c2 = vLoad l1 fst i.f1.toNat i.f2.toNat i.f3 c := ⟨_, rfl⟩; have HV2 := Aside0.mk (show VR W2 w0.heap.size (fun k => Q k ∨ W0.heap.size ≤ k) cs2 c2 by rw [hc2]; exact hv2); have HC2 := Aside0.mk hc2; obtain ⟨B1_, m1_, B2_, m2_, B3_, m3_, B7_, m7_, B8_, m8_, rfl, hh2⟩ := id HV2.out; clear hh2; have HB2 := Aside0.mk hb2; have HK2 := Aside0.mk (HK0.out.then_ hk2 (fun k hk => .inl hk)); have hs2 := hk2.1; have hlc : w.heap.size + 3 < W0.heap.size := (by have := HSZ.out; omega); clear hv2 hb2 hk2 hc2; obtain ⟨z0, z1, z2, z3, z4, z5, z6, z7, z8, z9, z10, z11⟩ := row12 X3.out; obtain ⟨g0, g1, g2, g3, g4, g5, g6, g7, g8, g9, g10, g11⟩ := froz12 X3.out))
    exact v_end (g := w.heap.size + 3) HV2.out (HC2.out.trans HH.out) X3.out rfl HB2.out HK2.out (by omega) (by omega) (fun h => by rcases h with h | h; exact absurd (HQ.out _ h) (by omega); omega) (fun k hk => by rcases hk with h | h; exact .inl h; exact .inr (by omega)) rfl rfl rfl rfl
  have e3 := (beq_eq_false_iff_ne (a := i.f0)).mpr h3
  by_cases h4 : i.f0 = 4
  · rw [vDo, if_neg (by rw [h4]; decide), if_neg (by rw [h4]; decide), if_neg (by rw [h4]; decide), if_neg (by rw [h4]; decide), if_pos h4] at h
    have e4 : (i.f0 == 4) = true := beq_iff_eq.mpr h4
    have e1 : (i.f0 == 1) = false := beq_eq_false_iff_ne.mpr (by rw [h4]; decide)
    have e2 : (i.f0 == 2) = false := beq_eq_false_iff_ne.mpr (by rw [h4]; decide)
    have H4 := Aside0.mk h4
    clear h4
    obtain ⟨fst, hF, h⟩ := Option.map_eq_some_iff.mp h
    have HH := Aside0.mk h
    clear h
    go_wp2_with (first | (go_at_call 57; refine (vm_storeI k w0 W0 Q _ c wd Av cv l1 Ai L ci i fst HB0.out HV0.out (fun k hk => by have := HQ.out k hk; have := HSZ.out; omega) HR1.out HC1.out (HF4.out H4.out).1 ((HF4.out H4.out).2 fst hF) hF hp0 hp1 htr).mono ?_; rintro e W2 ⟨cs2, rfl, hv2, hb2, hk2⟩; have X3 := Aside0.mk ((hk2.2 (w.heap.size + 3) (by have := HSZ.out; omega) (fun h => absurd (HQ.out _ h) (by omega))).trans XB3.out); obtain ⟨c2, hc2⟩ : ∃ c2 : VC, c2 = vStore l1 fst i.f1.toNat i.f2 i.f3 c := ⟨_, rfl⟩; have HV2 := Aside0.mk (show VR W2 w0.heap.size (fun k => Q k ∨ W0.heap.size ≤ k) cs2 c2 by rw [hc2]; exact hv2); have HC2 := Aside0.mk hc2; obtain ⟨B1_, m1_, B2_, m2_, B3_, m3_, B7_, m7_, B8_, m8_, rfl, hh2⟩ := id HV2.out; clear hh2; have HB2 := Aside0.mk hb2; have HK2 := Aside0.mk (HK0.out.then_ hk2 (fun k hk => .inl hk)); have hs2 := hk2.1; have hlc : w.heap.size + 3 < W0.heap.size := (by have := HSZ.out; omega); clear hv2 hb2 hk2 hc2; obtain ⟨z0, z1, z2, z3, z4, z5, z6, z7, z8, z9, z10, z11⟩ := row12 X3.out; obtain ⟨g0, g1, g2, g3, g4, g5, g6, g7, g8, g9, g10, g11⟩ := froz12 X3.out))
    exact v_end (g := w.heap.size + 3) HV2.out (HC2.out.trans HH.out) X3.out rfl HB2.out HK2.out (by omega) (by omega) (fun h => by rcases h with h | h; exact absurd (HQ.out _ h) (by omega); omega) (fun k hk => by rcases hk with h | h; exact .inl h; exact .inr (by omega)) rfl rfl rfl rfl
  have e4 := (beq_eq_false_iff_ne (a := i.f0)).mpr h4
  by_cases h9 : i.f0 = 9
  · rw [vDo, if_neg (by rw [h9]; decide), if_neg (by rw [h9]; decide), if_neg (by rw [h9]; decide), if_neg (by rw [h9]; decide), if_neg (by rw [h9]; decide), if_neg (by rw [h9]; decide), if_neg (by rw [h9]; decide), if_neg (by rw [h9]; decide), if_neg (by rw [h9]; decide), if_pos h9] at h
    have e9 : (i.f0 == 9) = true := beq_iff_eq.mpr h9
    have e1 : (i.f0 == 1) = false := beq_eq_false_iff_ne.mpr (by rw [h9]; decide)
    have e2 : (i.f0 == 2) = false := beq_eq_false_iff_ne.mpr (by rw [h9]; decide)
    have e6 : (i.f0 == 6) = false := beq_eq_false_iff_ne.mpr (by rw [h9]; decide)
    have e7 : (i.f0 == 7) = false := beq_eq_false_iff_ne.mpr (by rw [h9]; decide)
    have e8 : (i.f0 == 8) = false := beq_eq_false_iff_ne.mpr (by rw [h9]; decide)
    have H9 := Aside0.mk h9
    clear h9
    obtain ⟨g0, m0, e0, qg0, qf0, hQg0, hBg0, hgl0, hput0⟩ := HV0.out.reg (i.f1).toNat (by have h1 := (HF9.out H9.out).1; have h2 := (HF9.out H9.out).2; omega)
    have QG0 := Aside0.mk (show (W0).cell? ⟨g0, (i.f1).toNat, none⟩ = some (.int .i64 (rg c.re (i.f1))) from qg0)
    obtain ⟨rfl, rfl⟩ : A7 = some ⟨g0, 0, none⟩ ∧ n7 = m0 := by
      have := Option.some.inj e0
      injection this with h1 h2 h3
      exact ⟨h1, h3⟩
    clear e0 hput0 qf0 qg0
    obtain ⟨ra0, ra1⟩ := HF9.out H9.out
    have r0 := QG0.out
    by_cases hz : rg c.re i.f1 = 0
    · rw [if_pos hz] at h
      have hzb : (rg c.re i.f1 == 0) = true := beq_iff_eq.mpr hz
      have h := Option.some.inj h
      have HH := Aside0.mk h
      clear h
      clear hz
      go_wp2_with (first | (go_at_call 34; refine (vm_stop.calls w0 W0 Q _ c 1 HB0.out HV0.out (fun k hk => by have := HQ.out k hk; have := HSZ.out; omega)).mono ?_; rintro e W2 ⟨cs2, rfl, hv2, hb2, hk2⟩; have X3 := Aside0.mk ((hk2.2 (w.heap.size + 3) (by have := HSZ.out; omega) (fun h => absurd (HQ.out _ h) (by omega))).trans XB3.out); obtain ⟨c2, hc2⟩ : ∃ c2 : VC, c2 = vStop 1 c := ⟨_, rfl⟩; have HV2 := Aside0.mk (show VR W2 w0.heap.size (fun k => Q k ∨ W0.heap.size ≤ k) cs2 c2 by rw [hc2]; exact hv2); have HC2 := Aside0.mk hc2; obtain ⟨B1_, m1_, B2_, m2_, B3_, m3_, B7_, m7_, B8_, m8_, rfl, hh2⟩ := id HV2.out; clear hh2; have HB2 := Aside0.mk hb2; have HK2 := Aside0.mk (HK0.out.then_ hk2 (fun k hk => .inl hk)); have hs2 := hk2.1; have hlc : w.heap.size + 3 < W0.heap.size := (by have := HSZ.out; omega); clear hv2 hb2 hk2 hc2; obtain ⟨z0, z1, z2, z3, z4, z5, z6, z7, z8, z9, z10, z11⟩ := row12 X3.out; obtain ⟨g0, g1, g2, g3, g4, g5, g6, g7, g8, g9, g10, g11⟩ := froz12 X3.out))
      exact v_end (g := w.heap.size + 3) HV2.out (HC2.out.trans HH.out) X3.out rfl HB2.out HK2.out (by omega) (by omega) (fun h => by rcases h with h | h; exact absurd (HQ.out _ h) (by omega); omega) (fun k hk => by rcases hk with h | h; exact .inl h; exact .inr (by omega)) rfl rfl rfl rfl
    · rw [if_neg hz] at h
      have hzb : (rg c.re i.f1 == 0) = false := beq_eq_false_iff_ne.mpr hz
      have h := Option.some.inj h
      have HH := Aside0.mk h
      clear h
      clear hz
      go_wp2_with (first | (go_at_call 58; refine (vm_goes.calls w0 W0 Q _ c false 0 HB0.out HV0.out (fun k hk => by have := HQ.out k hk; have := HSZ.out; omega) hp0 hp1).mono ?_; rintro e W2 ⟨cs2, rfl, hv2, hb2, hk2⟩; have X3 := Aside0.mk ((hk2.2 (w.heap.size + 3) (by have := HSZ.out; omega) (fun h => absurd (HQ.out _ h) (by omega))).trans XB3.out); obtain ⟨c2, hc2⟩ : ∃ c2 : VC, c2 = { c with pc := c.pc + 1 } := ⟨_, rfl⟩; have HV2 := Aside0.mk (show VR W2 w0.heap.size (fun k => Q k ∨ W0.heap.size ≤ k) cs2 c2 by rw [hc2]; exact hv2); have HC2 := Aside0.mk hc2; obtain ⟨B1_, m1_, B2_, m2_, B3_, m3_, B7_, m7_, B8_, m8_, rfl, hh2⟩ := id HV2.out; clear hh2; have HB2 := Aside0.mk hb2; have HK2 := Aside0.mk (HK0.out.then_ hk2 (fun k hk => .inl hk)); have hs2 := hk2.1; have hlc : w.heap.size + 3 < W0.heap.size := (by have := HSZ.out; omega); clear hv2 hb2 hk2 hc2; obtain ⟨z0, z1, z2, z3, z4, z5, z6, z7, z8, z9, z10, z11⟩ := row12 X3.out; obtain ⟨g0, g1, g2, g3, g4, g5, g6, g7, g8, g9, g10, g11⟩ := froz12 X3.out))
      exact v_end (g := w.heap.size + 3) HV2.out (HC2.out.trans HH.out) X3.out rfl HB2.out HK2.out (by omega) (by omega) (fun h => by rcases h with h | h; exact absurd (HQ.out _ h) (by omega); omega) (fun k hk => by rcases hk with h | h; exact .inl h; exact .inr (by omega)) rfl rfl rfl rfl
  have e9 := (beq_eq_false_iff_ne (a := i.f0)).mpr h9
  by_cases h10 : i.f0 = 10
  · rw [vDo, if_neg (by rw [h10]; decide), if_neg (by rw [h10]; decide), if_neg (by rw [h10]; decide), if_neg (by rw [h10]; decide), if_neg (by rw [h10]; decide), if_neg (by rw [h10]; decide), if_neg (by rw [h10]; decide), if_neg (by rw [h10]; decide), if_neg (by rw [h10]; decide), if_neg (by rw [h10]; decide), if_pos h10] at h
    have e10 : (i.f0 == 10) = true := beq_iff_eq.mpr h10
    have e1 : (i.f0 == 1) = false := beq_eq_false_iff_ne.mpr (by rw [h10]; decide)
    have e2 : (i.f0 == 2) = false := beq_eq_false_iff_ne.mpr (by rw [h10]; decide)
    have e6 : (i.f0 == 6) = false := beq_eq_false_iff_ne.mpr (by rw [h10]; decide)
    have e7 : (i.f0 == 7) = false := beq_eq_false_iff_ne.mpr (by rw [h10]; decide)
    have e8 : (i.f0 == 8) = false := beq_eq_false_iff_ne.mpr (by rw [h10]; decide)
    have H10 := Aside0.mk h10
    clear h10
    obtain ⟨g0, m0, e0, qg0, qf0, hQg0, hBg0, hgl0, hput0⟩ := HV0.out.reg (i.f1).toNat (by have h1 := (HF10.out H10.out).1; have h2 := (HF10.out H10.out).2; omega)
    have QG0 := Aside0.mk (show (W0).cell? ⟨g0, (i.f1).toNat, none⟩ = some (.int .i64 (rg c.re (i.f1))) from qg0)
    obtain ⟨rfl, rfl⟩ : A7 = some ⟨g0, 0, none⟩ ∧ n7 = m0 := by
      have := Option.some.inj e0
      injection this with h1 h2 h3
      exact ⟨h1, h3⟩
    clear e0 hput0 qf0 qg0
    obtain ⟨ra0, ra1⟩ := HF10.out H10.out
    have r0 := QG0.out
    by_cases hz : rg c.re i.f1 = 0
    · rw [if_pos hz] at h
      have hzb : (rg c.re i.f1 == 0) = true := beq_iff_eq.mpr hz
      have h := Option.some.inj h
      have HH := Aside0.mk h
      clear h
      clear hz
      go_wp2_with (first | (go_at_call 34; refine (vm_stop.calls w0 W0 Q _ c 2 HB0.out HV0.out (fun k hk => by have := HQ.out k hk; have := HSZ.out; omega)).mono ?_; rintro e W2 ⟨cs2, rfl, hv2, hb2, hk2⟩; have X3 := Aside0.mk ((hk2.2 (w.heap.size + 3) (by have := HSZ.out; omega) (fun h => absurd (HQ.out _ h) (by omega))).trans XB3.out); obtain ⟨c2, hc2⟩ : ∃ c2 : VC, c2 = vStop 2 c := ⟨_, rfl⟩; have HV2 := Aside0.mk (show VR W2 w0.heap.size (fun k => Q k ∨ W0.heap.size ≤ k) cs2 c2 by rw [hc2]; exact hv2); have HC2 := Aside0.mk hc2; obtain ⟨B1_, m1_, B2_, m2_, B3_, m3_, B7_, m7_, B8_, m8_, rfl, hh2⟩ := id HV2.out; clear hh2; have HB2 := Aside0.mk hb2; have HK2 := Aside0.mk (HK0.out.then_ hk2 (fun k hk => .inl hk)); have hs2 := hk2.1; have hlc : w.heap.size + 3 < W0.heap.size := (by have := HSZ.out; omega); clear hv2 hb2 hk2 hc2; obtain ⟨z0, z1, z2, z3, z4, z5, z6, z7, z8, z9, z10, z11⟩ := row12 X3.out; obtain ⟨g0, g1, g2, g3, g4, g5, g6, g7, g8, g9, g10, g11⟩ := froz12 X3.out))
      exact v_end (g := w.heap.size + 3) HV2.out (HC2.out.trans HH.out) X3.out rfl HB2.out HK2.out (by omega) (by omega) (fun h => by rcases h with h | h; exact absurd (HQ.out _ h) (by omega); omega) (fun k hk => by rcases hk with h | h; exact .inl h; exact .inr (by omega)) rfl rfl rfl rfl
    · rw [if_neg hz] at h
      have hzb : (rg c.re i.f1 == 0) = false := beq_eq_false_iff_ne.mpr hz
      have h := Option.some.inj h
      have HH := Aside0.mk h
      clear h
      clear hz
      go_wp2_with (first | (go_at_call 58; refine (vm_goes.calls w0 W0 Q _ c false 0 HB0.out HV0.out (fun k hk => by have := HQ.out k hk; have := HSZ.out; omega) hp0 hp1).mono ?_; rintro e W2 ⟨cs2, rfl, hv2, hb2, hk2⟩; have X3 := Aside0.mk ((hk2.2 (w.heap.size + 3) (by have := HSZ.out; omega) (fun h => absurd (HQ.out _ h) (by omega))).trans XB3.out); obtain ⟨c2, hc2⟩ : ∃ c2 : VC, c2 = { c with pc := c.pc + 1 } := ⟨_, rfl⟩; have HV2 := Aside0.mk (show VR W2 w0.heap.size (fun k => Q k ∨ W0.heap.size ≤ k) cs2 c2 by rw [hc2]; exact hv2); have HC2 := Aside0.mk hc2; obtain ⟨B1_, m1_, B2_, m2_, B3_, m3_, B7_, m7_, B8_, m8_, rfl, hh2⟩ := id HV2.out; clear hh2; have HB2 := Aside0.mk hb2; have HK2 := Aside0.mk (HK0.out.then_ hk2 (fun k hk => .inl hk)); have hs2 := hk2.1; have hlc : w.heap.size + 3 < W0.heap.size := (by have := HSZ.out; omega); clear hv2 hb2 hk2 hc2; obtain ⟨z0, z1, z2, z3, z4, z5, z6, z7, z8, z9, z10, z11⟩ := row12 X3.out; obtain ⟨g0, g1, g2, g3, g4, g5, g6, g7, g8, g9, g10, g11⟩ := froz12 X3.out))
      exact v_end (g := w.heap.size + 3) HV2.out (HC2.out.trans HH.out) X3.out rfl HB2.out HK2.out (by omega) (by omega) (fun h => by rcases h with h | h; exact absurd (HQ.out _ h) (by omega); omega) (fun k hk => by rcases hk with h | h; exact .inl h; exact .inr (by omega)) rfl rfl rfl rfl
  have e10 := (beq_eq_false_iff_ne (a := i.f0)).mpr h10
  by_cases h1 : i.f0 = 1
  · rw [vDo, if_neg (by rw [h1]; decide), if_pos h1] at h
    have e1 : (i.f0 == 1) = true := beq_iff_eq.mpr h1
    have H1 := Aside0.mk h1
    clear h1
    obtain ⟨r, hval, h⟩ := Option.map_eq_some_iff.mp h
    have HH := Aside0.mk h
    have HVAL := Aside0.mk hval
    clear h hval
    obtain ⟨ra, rc, rd⟩ := HF1.out H1.out
    have RD := Aside0.mk rd
    clear rd
    have D0 := Aside0.mk (kdr XB0.out)
    have D1 := Aside0.mk (kdr XB1.out)
    have D2 := Aside0.mk (kdr XB2.out)
    have D3 := Aside0.mk (kdr XB3.out)
    have DV := Aside0.mk (HV0.out.below (below_drew (Below.refl _ _)))
    have DB := Aside0.mk (HB0.out.trans ((below_drew (Below.refl _ _)).mono HB0.out.size))
    have DK := Aside0.mk (HK0.out.below (below_drew (Below.refl _ _)))
    have hlw : w.heap.size + 4 ≤ W0.drew.heap.size := by have := HSZ.out; show w.heap.size + 4 ≤ W0.heap.size; omega
    go_wp2
    clear p0 p1 p2 c0 c1 c2 c3 c4 c5 c6 c7 c8 c9 c10 c11 i0 i1 i2 i3 i4
    refine start_ (n := 9) (S := fun w' => w'.cell? ⟨w.heap.size, 0, none⟩ = some (.int .i64 wd) ∧ w'.cell? ⟨w.heap.size, 1, none⟩ = some (.slice Av l1.length cv) ∧ w'.cell? ⟨w.heap.size, 2, none⟩ = some (.slice Ai L ci) ∧ w'.cell? ⟨w.heap.size + 1, 0, none⟩ = some (.int .i64 c.ed) ∧ w'.cell? ⟨w.heap.size + 1, 1, none⟩ = some (.slice A1 c.st.length n1) ∧ w'.cell? ⟨w.heap.size + 1, 2, none⟩ = some (.slice A2 c.ou.length n2) ∧ w'.cell? ⟨w.heap.size + 1, 3, none⟩ = some (.slice A3 c.tr.length n3) ∧ w'.cell? ⟨w.heap.size + 1, 4, none⟩ = some (.int .i64 c.co) ∧ w'.cell? ⟨w.heap.size + 1, 5, none⟩ = some (.int .i64 c.us) ∧ w'.cell? ⟨w.heap.size + 1, 6, none⟩ = some (.int .i64 c.wh) ∧ w'.cell? ⟨w.heap.size + 1, 7, none⟩ = some (.slice A7 c.re.length n7) ∧ w'.cell? ⟨w.heap.size + 1, 8, none⟩ = some (.slice A8 c.tl.length n8) ∧ w'.cell? ⟨w.heap.size + 1, 9, none⟩ = some (.int .i64 c.pc) ∧ w'.cell? ⟨w.heap.size + 1, 10, none⟩ = some (.int .i64 c.fu) ∧ w'.cell? ⟨w.heap.size + 1, 11, none⟩ = some (.bool c.ov) ∧ w'.cell? ⟨w.heap.size + 2, 0, none⟩ = some (.int .i64 i.f0) ∧ w'.cell? ⟨w.heap.size + 2, 1, none⟩ = some (.int .i64 i.f1) ∧ w'.cell? ⟨w.heap.size + 2, 2, none⟩ = some (.int .i64 i.f2) ∧ w'.cell? ⟨w.heap.size + 2, 3, none⟩ = some (.int .i64 i.f3) ∧ w'.cell? ⟨w.heap.size + 2, 4, none⟩ = some (.int .i64 i.f4)) (ds := [7, 8]) #[false, false, false, false, false, false, false, false, false] (by kernel_rfl) rfl rfl ⟨(blk_cell D0.out 0).trans rfl, (blk_cell D0.out 1).trans rfl, (blk_cell D0.out 2).trans rfl, (blk_cell D1.out 0).trans rfl, (blk_cell D1.out 1).trans rfl, (blk_cell D1.out 2).trans rfl, (blk_cell D1.out 3).trans rfl, (blk_cell D1.out 4).trans rfl, (blk_cell D1.out 5).trans rfl, (blk_cell D1.out 6).trans rfl, (blk_cell D1.out 7).trans rfl, (blk_cell D1.out 8).trans rfl, (blk_cell D1.out 9).trans rfl, (blk_cell D1.out 10).trans rfl, (blk_cell D1.out 11).trans rfl, (blk_cell D2.out 0).trans rfl, (blk_cell D2.out 1).trans rfl, (blk_cell D2.out 2).trans rfl, (blk_cell D2.out 3).trans rfl, (blk_cell D2.out 4).trans rfl⟩ (fun hHeld => ?_)
    generalize W0.drew = Y at D0 D1 D2 D3 DV DB DK hlw hHeld ⊢
    refine tk (i := 0) (N := some 22) (bl 9 1) rfl rfl (by kernel_rfl) hHeld ?_
    refine pu (i := 1) (N := some 23) (bl 9 3) rfl rfl (by kernel_rfl) ?_
    refine tk (i := 2) (N := some 24) (bl 9 7) rfl rfl (by kernel_rfl) hHeld ?_
    refine tk (i := 3) (N := some 25) (bl 9 15) rfl rfl (by kernel_rfl) hHeld ?_
    refine tk (i := 4) (N := some 26) (bl 9 31) rfl rfl (by kernel_rfl) hHeld ?_
    refine tk (i := 5) (N := some 27) (bl 9 63) rfl rfl (by kernel_rfl) hHeld ?_
    refine one_ (i := 6) (N := (some 28)) (bl 9 127) rfl rfl (by kernel_rfl) (by decide) (fun K hK => ?_)
    refine goes_ Try.func55 (by kernel_rfl) rfl #[.agg #[.int .i64 wd, .slice Av l1.length cv, .slice Ai L ci], .agg #[.int .i64 c.ed, .slice A1 c.st.length n1, .slice A2 c.ou.length n2, .slice A3 c.tr.length n3, .int .i64 c.co, .int .i64 c.us, .int .i64 c.wh, .slice A7 c.re.length n7, .slice A8 c.tl.length n8, .int .i64 c.pc, .int .i64 c.fu, .bool c.ov], .agg #[.int .i64 i.f0, .int .i64 i.f1, .int .i64 i.f2, .int .i64 i.f3, .int .i64 i.f4]] (by rfl) rfl rfl (by (try simp only [List.map_toArray, List.map_cons, List.map_nil]); rfl) ?_
    refine (vm_value.calls k w0 Y Q _ c wd Av cv l1 Ai L ci i r DB.out DV.out (fun k hk => by have := HQ.out k hk; omega) HR1.out HC1.out rc RD.out HVAL.out).mono ?_
    rintro e Y' ⟨rfl, hyb⟩
    have D0' := Aside0.mk (blk_below D0.out hyb)
    have D1' := Aside0.mk (blk_below D1.out hyb)
    have D2' := Aside0.mk (blk_below D2.out hyb)
    have D3' := Aside0.mk (blk_below D3.out hyb)
    have DV' := Aside0.mk (DV.out.below hyb)
    have DB' := Aside0.mk (DB.out.trans (hyb.mono DB.out.size))
    have DK' := Aside0.mk (DK.out.below hyb)
    have hlw' := Nat.le_trans hlw hyb.size
    clear hyb D0 D1 D2 D3 DV DB DK hlw
    refine ⟨_, rfl, ?_⟩
    refine hK.out _ _ ⟨(blk_cell D0'.out 0).trans rfl, (blk_cell D0'.out 1).trans rfl, (blk_cell D0'.out 2).trans rfl, (blk_cell D1'.out 0).trans rfl, (blk_cell D1'.out 1).trans rfl, (blk_cell D1'.out 2).trans rfl, (blk_cell D1'.out 3).trans rfl, (blk_cell D1'.out 4).trans rfl, (blk_cell D1'.out 5).trans rfl, (blk_cell D1'.out 6).trans rfl, (blk_cell D1'.out 7).trans rfl, (blk_cell D1'.out 8).trans rfl, (blk_cell D1'.out 9).trans rfl, (blk_cell D1'.out 10).trans rfl, (blk_cell D1'.out 11).trans rfl, (blk_cell D2'.out 0).trans rfl, (blk_cell D2'.out 1).trans rfl, (blk_cell D2'.out 2).trans rfl, (blk_cell D2'.out 3).trans rfl, (blk_cell D2'.out 4).trans rfl⟩ (fun hHeld => ?_)
    clear hK K
    refine nm 28 ?_
    refine last_ (i := 7) (N := (some 29)) (bl 9 255) rfl rfl (by kernel_rfl) (by decide) (fun K hK => ?_)
    refine goes_ Try.func54 (by kernel_rfl) rfl #[.agg #[.int .i64 c.ed, .slice A1 c.st.length n1, .slice A2 c.ou.length n2, .slice A3 c.tr.length n3, .int .i64 c.co, .int .i64 c.us, .int .i64 c.wh, .slice A7 c.re.length n7, .slice A8 c.tl.length n8, .int .i64 c.pc, .int .i64 c.fu, .bool c.ov], .int .i64 i.f1, .int .i64 r] (by rfl) rfl rfl (by (try simp only [List.map_toArray, List.map_cons, List.map_nil]); rfl) ?_
    refine (vm_withI w0 Y' Q _ c i.f1 r DB'.out DV'.out (fun k hk => by have := HQ.out k hk; omega) ra hp0 hp1).mono ?_
    rintro e W2 ⟨cs2, rfl, hv2, hb2, hk2⟩
    have X3 := Aside0.mk ((hk2.2 (w.heap.size + 3) (by omega) (fun h => absurd (HQ.out _ h) (by omega))).trans D3'.out)
    obtain ⟨c2, hc2⟩ : ∃ c2 : VC, c2 = vWith i.f1 r c := ⟨_, rfl⟩
    have HV2 := Aside0.mk (show VR W2 w0.heap.size (fun k => Q k ∨ Y'.heap.size ≤ k) cs2 c2 by rw [hc2]; exact hv2)
    have HC2 := Aside0.mk hc2
    obtain ⟨B1_, m1_, B2_, m2_, B3_, m3_, B7_, m7_, B8_, m8_, rfl, hh2⟩ := id HV2.out
    clear hh2
    have HB2 := Aside0.mk hb2
    have HK2 := Aside0.mk (DK'.out.then_ hk2 (fun k hk => .inl hk))
    have hs2 := hk2.1
    have hlc : w.heap.size + 3 < Y'.heap.size := (by omega)
    clear hv2 hb2 hk2 hc2
    obtain ⟨z0, z1, z2, z3, z4, z5, z6, z7, z8, z9, z10, z11⟩ := row12 X3.out
    obtain ⟨g0, g1, g2, g3, g4, g5, g6, g7, g8, g9, g10, g11⟩ := froz12 X3.out
    refine ⟨_, rfl, ?_⟩
    refine hK.out _ _ ?_
    clear hK K
    refine nm 29 ?_
    refine last_ (i := 8) (N := none) (bl 9 511) rfl rfl (by kernel_rfl) (by decide) (fun K hK => ?_)
    refine skip_ (w1 := ?_) (by rfl) rfl ?_ ?_
    rotate_left
    · go_simp
      rfl
    refine hK.out _ _ ?_
    clear hK K
    refine done_ (by kernel_rfl) ?_
    go_wp2
    exact v_end (g := w.heap.size + 3) HV2.out (HC2.out.trans HH.out) X3.out rfl HB2.out HK2.out (by omega) (by omega) (fun h => by rcases h with h | h; exact absurd (HQ.out _ h) (by omega); omega) (fun k hk => by rcases hk with h | h; exact .inl h; exact .inr (by omega)) rfl rfl rfl rfl
  have e1 := (beq_eq_false_iff_ne (a := i.f0)).mpr h1
  by_cases h2 : i.f0 = 2
  · rw [vDo, if_neg (by rw [h2]; decide), if_neg (by rw [h2]; decide), if_pos h2] at h
    have e2 : (i.f0 == 2) = true := beq_iff_eq.mpr h2
    have H2 := Aside0.mk h2
    clear h2
    obtain ⟨ra, rb, rc, rd⟩ := HF2.out H2.out
    obtain ⟨g0, m0, e0, qg0, qf0, hQg0, hBg0, hgl0, hput0⟩ := HV0.out.reg (i.f2).toNat (by have h1 := rb.1; have h2 := rb.2; omega)
    have QG0 := Aside0.mk (show (W0).cell? ⟨g0, (i.f2).toNat, none⟩ = some (.int .i64 (rg c.re (i.f2))) from qg0)
    obtain ⟨g1, m1, e1, qg1, qf1, hQg1, hBg1, hgl1, hput1⟩ := HV0.out.reg (i.f3).toNat (by have h1 := rc.1; have h2 := rc.2; omega)
    have QG1 := Aside0.mk (show (W0).cell? ⟨g1, (i.f3).toNat, none⟩ = some (.int .i64 (rg c.re (i.f3))) from qg1)
    obtain ⟨g2, m2, e2, qg2, qf2, hQg2, hBg2, hgl2, hput2⟩ := HV0.out.reg (i.f4).toNat (by have h1 := rd.1; have h2 := rd.2; omega)
    have QG2 := Aside0.mk (show (W0).cell? ⟨g2, (i.f4).toNat, none⟩ = some (.int .i64 (rg c.re (i.f4))) from qg2)
    obtain ⟨rfl, rfl⟩ : A7 = some ⟨g0, 0, none⟩ ∧ n7 = m0 := by
      have := Option.some.inj e0
      injection this with h1 h2 h3
      exact ⟨h1, h3⟩
    obtain rfl : g0 = g1 := by
      have := Option.some.inj e1
      injection this with h1 h2 h3
      injection h1 with h1
      injection h1
    obtain rfl : g0 = g2 := by
      have := Option.some.inj e2
      injection this with h1 h2 h3
      injection h1 with h1
      injection h1
    clear e0 hput0 qf0 qg0 e1 hput1 qf1 qg1 e2 hput2 qf2 qg2
    have r0 := QG0.out
    have QD3 := Aside0.mk (show W0.drew.cell? ⟨g0, i.f3.toNat, none⟩ = some (.int .i64 (rg c.re i.f3)) from QG1.out)
    have QD4 := Aside0.mk (show W0.drew.cell? ⟨g0, i.f4.toNat, none⟩ = some (.int .i64 (rg c.re i.f4)) from QG2.out)
    obtain ⟨rb0, rb1⟩ := rb
    obtain ⟨rc0, rc1⟩ := rc
    obtain ⟨rd0, rd1⟩ := rd
    have D0 := Aside0.mk (kdr XB0.out)
    have D1 := Aside0.mk (kdr XB1.out)
    have D2 := Aside0.mk (kdr XB2.out)
    have D3 := Aside0.mk (kdr XB3.out)
    have DV := Aside0.mk (HV0.out.below (below_drew (Below.refl _ _)))
    have DB := Aside0.mk (HB0.out.trans ((below_drew (Below.refl _ _)).mono HB0.out.size))
    have DK := Aside0.mk (HK0.out.below (below_drew (Below.refl _ _)))
    have hlw : w.heap.size + 4 ≤ W0.drew.heap.size := by have := HSZ.out; show w.heap.size + 4 ≤ W0.heap.size; omega
    by_cases hz : rg c.re i.f2 = 0
    · rw [if_pos hz] at h
      have HH := Aside0.mk (Option.some.inj h)
      have hzb : (rg c.re i.f2 != 0) = false := bne_eq_false_iff_eq.mpr hz
      clear h hz
      go_wp2
      clear p0 p1 p2 c0 c1 c2 c3 c4 c5 c6 c7 c8 c9 c10 c11 i0 i1 i2 i3 i4
      refine start_ (n := 11) (S := fun w' => w'.cell? ⟨w.heap.size, 0, none⟩ = some (.int .i64 wd) ∧ w'.cell? ⟨w.heap.size, 1, none⟩ = some (.slice Av l1.length cv) ∧ w'.cell? ⟨w.heap.size, 2, none⟩ = some (.slice Ai L ci) ∧ w'.cell? ⟨w.heap.size + 1, 0, none⟩ = some (.int .i64 c.ed) ∧ w'.cell? ⟨w.heap.size + 1, 1, none⟩ = some (.slice A1 c.st.length n1) ∧ w'.cell? ⟨w.heap.size + 1, 2, none⟩ = some (.slice A2 c.ou.length n2) ∧ w'.cell? ⟨w.heap.size + 1, 3, none⟩ = some (.slice A3 c.tr.length n3) ∧ w'.cell? ⟨w.heap.size + 1, 4, none⟩ = some (.int .i64 c.co) ∧ w'.cell? ⟨w.heap.size + 1, 5, none⟩ = some (.int .i64 c.us) ∧ w'.cell? ⟨w.heap.size + 1, 6, none⟩ = some (.int .i64 c.wh) ∧ w'.cell? ⟨w.heap.size + 1, 7, none⟩ = some (.slice (some ⟨g0, 0, none⟩) c.re.length n7) ∧ w'.cell? ⟨w.heap.size + 1, 8, none⟩ = some (.slice A8 c.tl.length n8) ∧ w'.cell? ⟨w.heap.size + 1, 9, none⟩ = some (.int .i64 c.pc) ∧ w'.cell? ⟨w.heap.size + 1, 10, none⟩ = some (.int .i64 c.fu) ∧ w'.cell? ⟨w.heap.size + 1, 11, none⟩ = some (.bool c.ov) ∧ w'.cell? ⟨w.heap.size + 2, 0, none⟩ = some (.int .i64 i.f0) ∧ w'.cell? ⟨w.heap.size + 2, 1, none⟩ = some (.int .i64 i.f1) ∧ w'.cell? ⟨w.heap.size + 2, 2, none⟩ = some (.int .i64 i.f2) ∧ w'.cell? ⟨w.heap.size + 2, 3, none⟩ = some (.int .i64 i.f3) ∧ w'.cell? ⟨w.heap.size + 2, 4, none⟩ = some (.int .i64 i.f4) ∧ w'.cell? ⟨g0, i.f4.toNat, none⟩ = some (.int .i64 (rg c.re i.f4))) (ds := [9, 10]) #[false, false, false, false, false, false, false, false, false, false, false] (by kernel_rfl) rfl rfl ⟨(blk_cell D0.out 0).trans rfl, (blk_cell D0.out 1).trans rfl, (blk_cell D0.out 2).trans rfl, (blk_cell D1.out 0).trans rfl, (blk_cell D1.out 1).trans rfl, (blk_cell D1.out 2).trans rfl, (blk_cell D1.out 3).trans rfl, (blk_cell D1.out 4).trans rfl, (blk_cell D1.out 5).trans rfl, (blk_cell D1.out 6).trans rfl, (blk_cell D1.out 7).trans rfl, (blk_cell D1.out 8).trans rfl, (blk_cell D1.out 9).trans rfl, (blk_cell D1.out 10).trans rfl, (blk_cell D1.out 11).trans rfl, (blk_cell D2.out 0).trans rfl, (blk_cell D2.out 1).trans rfl, (blk_cell D2.out 2).trans rfl, (blk_cell D2.out 3).trans rfl, (blk_cell D2.out 4).trans rfl, QD4.out⟩ (fun hHeld => ?_)
      generalize W0.drew = Y at D0 D1 D2 D3 DV DB DK hlw QD4 hHeld ⊢
      refine tk (i := 0) (N := some 49) (bl 11 1) rfl rfl (by kernel_rfl) hHeld ?_
      refine pu (i := 1) (N := some 50) (bl 11 3) rfl rfl (by kernel_rfl) ?_
      refine tk (i := 2) (N := some 51) (bl 11 7) rfl rfl (by kernel_rfl) hHeld ?_
      refine pu (i := 3) (N := some 52) (bl 11 15) rfl rfl (by kernel_rfl) ?_
      refine tk (i := 4) (N := some 53) (bl 11 31) rfl rfl (by kernel_rfl) hHeld ?_
      refine pu (i := 5) (N := some 54) (bl 11 63) rfl rfl (by kernel_rfl) ?_
      refine tk (i := 6) (N := some 55) (bl 11 127) rfl rfl (by kernel_rfl) hHeld ?_
      refine pu (i := 7) (N := some 56) (bl 11 255) rfl rfl (by kernel_rfl) ?_
      refine tk (i := 8) (N := some 57) (bl 11 511) rfl rfl (by kernel_rfl) hHeld ?_
      refine last_ (i := 9) (N := (some 58)) (bl 11 1023) rfl rfl (by kernel_rfl) (by decide) (fun K hK => ?_)
      refine goes_ Try.func54 (by kernel_rfl) rfl #[.agg #[.int .i64 c.ed, .slice A1 c.st.length n1, .slice A2 c.ou.length n2, .slice A3 c.tr.length n3, .int .i64 c.co, .int .i64 c.us, .int .i64 c.wh, .slice (some ⟨g0, 0, none⟩) c.re.length n7, .slice A8 c.tl.length n8, .int .i64 c.pc, .int .i64 c.fu, .bool c.ov], .int .i64 i.f1, .int .i64 (rg c.re i.f4)] (by rfl) rfl rfl (by (try simp only [List.map_toArray, List.map_cons, List.map_nil]); rfl) ?_
      refine (vm_withI w0 Y Q _ c i.f1 (rg c.re i.f4) DB.out DV.out (fun k hk => by have := HQ.out k hk; omega) ra hp0 hp1).mono ?_
      rintro e W2 ⟨cs2, rfl, hv2, hb2, hk2⟩
      have X3 := Aside0.mk ((hk2.2 (w.heap.size + 3) (by omega) (fun h => absurd (HQ.out _ h) (by omega))).trans D3.out)
      obtain ⟨c2, hc2⟩ : ∃ c2 : VC, c2 = vWith i.f1 (rg c.re i.f4) c := ⟨_, rfl⟩
      have HV2 := Aside0.mk (show VR W2 w0.heap.size (fun k => Q k ∨ Y.heap.size ≤ k) cs2 c2 by rw [hc2]; exact hv2)
      have HC2 := Aside0.mk hc2
      obtain ⟨B1_, m1_, B2_, m2_, B3_, m3_, B7_, m7_, B8_, m8_, rfl, hh2⟩ := id HV2.out
      clear hh2
      have HB2 := Aside0.mk hb2
      have HK2 := Aside0.mk (DK.out.then_ hk2 (fun k hk => .inl hk))
      have hs2 := hk2.1
      have hlc : w.heap.size + 3 < Y.heap.size := (by omega)
      clear hv2 hb2 hk2 hc2
      obtain ⟨z0, z1, z2, z3, z4, z5, z6, z7, z8, z9, z10, z11⟩ := row12 X3.out
      obtain ⟨g0, g1, g2, g3, g4, g5, g6, g7, g8, g9, g10, g11⟩ := froz12 X3.out
      refine ⟨_, rfl, ?_⟩
      refine hK.out _ _ ?_
      clear hK K
      refine nm 58 ?_
      refine last_ (i := 10) (N := none) (bl 11 2047) rfl rfl (by kernel_rfl) (by decide) (fun K hK => ?_)
      refine skip_ (w1 := ?_) (by rfl) rfl ?_ ?_
      rotate_left
      · go_simp
        rfl
      refine hK.out _ _ ?_
      clear hK K
      refine done_ (by kernel_rfl) ?_
      go_wp2
      exact v_end (g := w.heap.size + 3) HV2.out (HC2.out.trans HH.out) X3.out rfl HB2.out HK2.out (by omega) (by omega) (fun h => by rcases h with h | h; exact absurd (HQ.out _ h) (by omega); omega) (fun k hk => by rcases hk with h | h; exact .inl h; exact .inr (by omega)) rfl rfl rfl rfl
    · rw [if_neg hz] at h
      have HH := Aside0.mk (Option.some.inj h)
      have hzb : (rg c.re i.f2 != 0) = true := bne_iff_ne.mpr hz
      clear h hz
      go_wp2
      clear p0 p1 p2 c0 c1 c2 c3 c4 c5 c6 c7 c8 c9 c10 c11 i0 i1 i2 i3 i4
      refine start_ (n := 11) (S := fun w' => w'.cell? ⟨w.heap.size, 0, none⟩ = some (.int .i64 wd) ∧ w'.cell? ⟨w.heap.size, 1, none⟩ = some (.slice Av l1.length cv) ∧ w'.cell? ⟨w.heap.size, 2, none⟩ = some (.slice Ai L ci) ∧ w'.cell? ⟨w.heap.size + 1, 0, none⟩ = some (.int .i64 c.ed) ∧ w'.cell? ⟨w.heap.size + 1, 1, none⟩ = some (.slice A1 c.st.length n1) ∧ w'.cell? ⟨w.heap.size + 1, 2, none⟩ = some (.slice A2 c.ou.length n2) ∧ w'.cell? ⟨w.heap.size + 1, 3, none⟩ = some (.slice A3 c.tr.length n3) ∧ w'.cell? ⟨w.heap.size + 1, 4, none⟩ = some (.int .i64 c.co) ∧ w'.cell? ⟨w.heap.size + 1, 5, none⟩ = some (.int .i64 c.us) ∧ w'.cell? ⟨w.heap.size + 1, 6, none⟩ = some (.int .i64 c.wh) ∧ w'.cell? ⟨w.heap.size + 1, 7, none⟩ = some (.slice (some ⟨g0, 0, none⟩) c.re.length n7) ∧ w'.cell? ⟨w.heap.size + 1, 8, none⟩ = some (.slice A8 c.tl.length n8) ∧ w'.cell? ⟨w.heap.size + 1, 9, none⟩ = some (.int .i64 c.pc) ∧ w'.cell? ⟨w.heap.size + 1, 10, none⟩ = some (.int .i64 c.fu) ∧ w'.cell? ⟨w.heap.size + 1, 11, none⟩ = some (.bool c.ov) ∧ w'.cell? ⟨w.heap.size + 2, 0, none⟩ = some (.int .i64 i.f0) ∧ w'.cell? ⟨w.heap.size + 2, 1, none⟩ = some (.int .i64 i.f1) ∧ w'.cell? ⟨w.heap.size + 2, 2, none⟩ = some (.int .i64 i.f2) ∧ w'.cell? ⟨w.heap.size + 2, 3, none⟩ = some (.int .i64 i.f3) ∧ w'.cell? ⟨w.heap.size + 2, 4, none⟩ = some (.int .i64 i.f4) ∧ w'.cell? ⟨g0, i.f3.toNat, none⟩ = some (.int .i64 (rg c.re i.f3))) (ds := [9, 10]) #[false, false, false, false, false, false, false, false, false, false, false] (by kernel_rfl) rfl rfl ⟨(blk_cell D0.out 0).trans rfl, (blk_cell D0.out 1).trans rfl, (blk_cell D0.out 2).trans rfl, (blk_cell D1.out 0).trans rfl, (blk_cell D1.out 1).trans rfl, (blk_cell D1.out 2).trans rfl, (blk_cell D1.out 3).trans rfl, (blk_cell D1.out 4).trans rfl, (blk_cell D1.out 5).trans rfl, (blk_cell D1.out 6).trans rfl, (blk_cell D1.out 7).trans rfl, (blk_cell D1.out 8).trans rfl, (blk_cell D1.out 9).trans rfl, (blk_cell D1.out 10).trans rfl, (blk_cell D1.out 11).trans rfl, (blk_cell D2.out 0).trans rfl, (blk_cell D2.out 1).trans rfl, (blk_cell D2.out 2).trans rfl, (blk_cell D2.out 3).trans rfl, (blk_cell D2.out 4).trans rfl, QD3.out⟩ (fun hHeld => ?_)
      generalize W0.drew = Y at D0 D1 D2 D3 DV DB DK hlw QD3 hHeld ⊢
      refine tk (i := 0) (N := some 39) (bl 11 1) rfl rfl (by kernel_rfl) hHeld ?_
      refine pu (i := 1) (N := some 40) (bl 11 3) rfl rfl (by kernel_rfl) ?_
      refine tk (i := 2) (N := some 41) (bl 11 7) rfl rfl (by kernel_rfl) hHeld ?_
      refine pu (i := 3) (N := some 42) (bl 11 15) rfl rfl (by kernel_rfl) ?_
      refine tk (i := 4) (N := some 43) (bl 11 31) rfl rfl (by kernel_rfl) hHeld ?_
      refine pu (i := 5) (N := some 44) (bl 11 63) rfl rfl (by kernel_rfl) ?_
      refine tk (i := 6) (N := some 45) (bl 11 127) rfl rfl (by kernel_rfl) hHeld ?_
      refine pu (i := 7) (N := some 46) (bl 11 255) rfl rfl (by kernel_rfl) ?_
      refine tk (i := 8) (N := some 47) (bl 11 511) rfl rfl (by kernel_rfl) hHeld ?_
      refine last_ (i := 9) (N := (some 48)) (bl 11 1023) rfl rfl (by kernel_rfl) (by decide) (fun K hK => ?_)
      refine goes_ Try.func54 (by kernel_rfl) rfl #[.agg #[.int .i64 c.ed, .slice A1 c.st.length n1, .slice A2 c.ou.length n2, .slice A3 c.tr.length n3, .int .i64 c.co, .int .i64 c.us, .int .i64 c.wh, .slice (some ⟨g0, 0, none⟩) c.re.length n7, .slice A8 c.tl.length n8, .int .i64 c.pc, .int .i64 c.fu, .bool c.ov], .int .i64 i.f1, .int .i64 (rg c.re i.f3)] (by rfl) rfl rfl (by (try simp only [List.map_toArray, List.map_cons, List.map_nil]); rfl) ?_
      refine (vm_withI w0 Y Q _ c i.f1 (rg c.re i.f3) DB.out DV.out (fun k hk => by have := HQ.out k hk; omega) ra hp0 hp1).mono ?_
      rintro e W2 ⟨cs2, rfl, hv2, hb2, hk2⟩
      have X3 := Aside0.mk ((hk2.2 (w.heap.size + 3) (by omega) (fun h => absurd (HQ.out _ h) (by omega))).trans D3.out)
      obtain ⟨c2, hc2⟩ : ∃ c2 : VC, c2 = vWith i.f1 (rg c.re i.f3) c := ⟨_, rfl⟩
      have HV2 := Aside0.mk (show VR W2 w0.heap.size (fun k => Q k ∨ Y.heap.size ≤ k) cs2 c2 by rw [hc2]; exact hv2)
      have HC2 := Aside0.mk hc2
      obtain ⟨B1_, m1_, B2_, m2_, B3_, m3_, B7_, m7_, B8_, m8_, rfl, hh2⟩ := id HV2.out
      clear hh2
      have HB2 := Aside0.mk hb2
      have HK2 := Aside0.mk (DK.out.then_ hk2 (fun k hk => .inl hk))
      have hs2 := hk2.1
      have hlc : w.heap.size + 3 < Y.heap.size := (by omega)
      clear hv2 hb2 hk2 hc2
      obtain ⟨z0, z1, z2, z3, z4, z5, z6, z7, z8, z9, z10, z11⟩ := row12 X3.out
      obtain ⟨g0, g1, g2, g3, g4, g5, g6, g7, g8, g9, g10, g11⟩ := froz12 X3.out
      refine ⟨_, rfl, ?_⟩
      refine hK.out _ _ ?_
      clear hK K
      refine nm 48 ?_
      refine last_ (i := 10) (N := none) (bl 11 2047) rfl rfl (by kernel_rfl) (by decide) (fun K hK => ?_)
      refine skip_ (w1 := ?_) (by rfl) rfl ?_ ?_
      rotate_left
      · go_simp
        rfl
      refine hK.out _ _ ?_
      clear hK K
      refine done_ (by kernel_rfl) ?_
      go_wp2
      exact v_end (g := w.heap.size + 3) HV2.out (HC2.out.trans HH.out) X3.out rfl HB2.out HK2.out (by omega) (by omega) (fun h => by rcases h with h | h; exact absurd (HQ.out _ h) (by omega); omega) (fun k hk => by rcases hk with h | h; exact .inl h; exact .inr (by omega)) rfl rfl rfl rfl
  have e2 := (beq_eq_false_iff_ne (a := i.f0)).mpr h2
  by_cases h6 : i.f0 = 6
  · rw [vDo, if_neg (by rw [h6]; decide), if_neg (by rw [h6]; decide), if_neg (by rw [h6]; decide), if_neg (by rw [h6]; decide), if_neg (by rw [h6]; decide), if_neg (by rw [h6]; decide), if_pos h6] at h
    have e6 : (i.f0 == 6) = true := beq_iff_eq.mpr h6
    have H6 := Aside0.mk h6
    clear h6
    have h := Option.some.inj h
    have HH := Aside0.mk h
    clear h
    have ra := HF6.out H6.out
    obtain ⟨g0, m0, e0, qg0, qf0, hQg0, hBg0, hgl0, hput0⟩ := HV0.out.reg (i.f1).toNat (by have h1 := ra.1; have h2 := ra.2; omega)
    have QG0 := Aside0.mk (show (W0).cell? ⟨g0, (i.f1).toNat, none⟩ = some (.int .i64 (rg c.re (i.f1))) from qg0)
    obtain ⟨rfl, rfl⟩ : A7 = some ⟨g0, 0, none⟩ ∧ n7 = m0 := by
      have := Option.some.inj e0
      injection this with h1 h2 h3
      exact ⟨h1, h3⟩
    clear e0 hput0 qf0 qg0
    have r0 := QG0.out
    obtain ⟨ra0, ra1⟩ := ra
    have D0 := Aside0.mk (kdr XB0.out)
    have D1 := Aside0.mk (kdr XB1.out)
    have D2 := Aside0.mk (kdr XB2.out)
    have D3 := Aside0.mk (kdr XB3.out)
    have DV := Aside0.mk (HV0.out.below (below_drew (Below.refl _ _)))
    have DB := Aside0.mk (HB0.out.trans ((below_drew (Below.refl _ _)).mono HB0.out.size))
    have DK := Aside0.mk (HK0.out.below (below_drew (Below.refl _ _)))
    have hlw : w.heap.size + 4 ≤ W0.drew.heap.size := by have := HSZ.out; show w.heap.size + 4 ≤ W0.heap.size; omega
    obtain ⟨z, hz⟩ : ∃ z : Bool, (rg c.re i.f1 == 0) = z := ⟨_, rfl⟩
    go_wp2
    clear p0 p1 p2 c0 c1 c2 c3 c4 c5 c6 c7 c8 c9 c10 c11 i0 i1 i2 i3 i4
    have HZ := Aside0.mk hz
    clear hz
    have hon : r1_One.f z = some (if z = true then 1 else 0) := by unfold r1_One.f; split <;> rfl
    obtain ⟨o, ho⟩ : ∃ o : Int, (if z = true then 1 else 0) = o := ⟨_, rfl⟩
    rw [ho] at hon
    have HO := Aside0.mk ho
    have HON := Aside0.mk hon
    clear ho hon
    refine start_ (n := 11) (S := fun w' => w'.cell? ⟨w.heap.size, 0, none⟩ = some (.int .i64 wd) ∧ w'.cell? ⟨w.heap.size, 1, none⟩ = some (.slice Av l1.length cv) ∧ w'.cell? ⟨w.heap.size, 2, none⟩ = some (.slice Ai L ci) ∧ w'.cell? ⟨w.heap.size + 1, 0, none⟩ = some (.int .i64 c.ed) ∧ w'.cell? ⟨w.heap.size + 1, 1, none⟩ = some (.slice A1 c.st.length n1) ∧ w'.cell? ⟨w.heap.size + 1, 2, none⟩ = some (.slice A2 c.ou.length n2) ∧ w'.cell? ⟨w.heap.size + 1, 3, none⟩ = some (.slice A3 c.tr.length n3) ∧ w'.cell? ⟨w.heap.size + 1, 4, none⟩ = some (.int .i64 c.co) ∧ w'.cell? ⟨w.heap.size + 1, 5, none⟩ = some (.int .i64 c.us) ∧ w'.cell? ⟨w.heap.size + 1, 6, none⟩ = some (.int .i64 c.wh) ∧ w'.cell? ⟨w.heap.size + 1, 7, none⟩ = some (.slice (some ⟨g0, 0, none⟩) c.re.length n7) ∧ w'.cell? ⟨w.heap.size + 1, 8, none⟩ = some (.slice A8 c.tl.length n8) ∧ w'.cell? ⟨w.heap.size + 1, 9, none⟩ = some (.int .i64 c.pc) ∧ w'.cell? ⟨w.heap.size + 1, 10, none⟩ = some (.int .i64 c.fu) ∧ w'.cell? ⟨w.heap.size + 1, 11, none⟩ = some (.bool c.ov) ∧ w'.cell? ⟨w.heap.size + 2, 0, none⟩ = some (.int .i64 i.f0) ∧ w'.cell? ⟨w.heap.size + 2, 1, none⟩ = some (.int .i64 i.f1) ∧ w'.cell? ⟨w.heap.size + 2, 2, none⟩ = some (.int .i64 i.f2) ∧ w'.cell? ⟨w.heap.size + 2, 3, none⟩ = some (.int .i64 i.f3) ∧ w'.cell? ⟨w.heap.size + 2, 4, none⟩ = some (.int .i64 i.f4)) (ds := [9, 10]) #[false, false, false, false, false, false, false, false, false, false, false] (by kernel_rfl) rfl rfl ⟨(blk_cell D0.out 0).trans rfl, (blk_cell D0.out 1).trans rfl, (blk_cell D0.out 2).trans rfl, (blk_cell D1.out 0).trans rfl, (blk_cell D1.out 1).trans rfl, (blk_cell D1.out 2).trans rfl, (blk_cell D1.out 3).trans rfl, (blk_cell D1.out 4).trans rfl, (blk_cell D1.out 5).trans rfl, (blk_cell D1.out 6).trans rfl, (blk_cell D1.out 7).trans rfl, (blk_cell D1.out 8).trans rfl, (blk_cell D1.out 9).trans rfl, (blk_cell D1.out 10).trans rfl, (blk_cell D1.out 11).trans rfl, (blk_cell D2.out 0).trans rfl, (blk_cell D2.out 1).trans rfl, (blk_cell D2.out 2).trans rfl, (blk_cell D2.out 3).trans rfl, (blk_cell D2.out 4).trans rfl⟩ (fun hHeld => ?_)
    generalize W0.drew = Y at D0 D1 D2 D3 DV DB DK hlw hHeld ⊢
    refine tk (i := 0) (N := some 86) (bl 11 1) rfl rfl (by kernel_rfl) hHeld ?_
    refine pu (i := 1) (N := some 87) (bl 11 3) rfl rfl (by kernel_rfl) ?_
    refine tk (i := 2) (N := some 88) (bl 11 7) rfl rfl (by kernel_rfl) hHeld ?_
    refine pu (i := 3) (N := some 89) (bl 11 15) rfl rfl (by kernel_rfl) ?_
    refine pu (i := 6) (N := some 92) (bl 11 79) rfl rfl (by kernel_rfl) ?_
    refine pu (i := 7) (N := some 93) (bl 11 207) rfl rfl (by kernel_rfl) ?_
    refine tk (i := 8) (N := some 94) (bl 11 463) rfl rfl (by kernel_rfl) hHeld ?_
    refine one_ (i := 4) (N := (some 90)) (bl 11 479) rfl rfl (by kernel_rfl) (by decide) (fun K hK => ?_)
    refine goes_ Try.func60 (by kernel_rfl) rfl #[.bool z] (by rfl) rfl rfl (by (try simp only [List.map_toArray, List.map_cons, List.map_nil]); rfl) ?_
    refine (r1_One.calls z o _ HON.out).mono ?_
    rintro e Y' ⟨rfl, hyd⟩
    have hyb := drawn0_below hyd
    have D0' := Aside0.mk (blk_below D0.out hyb)
    have D1' := Aside0.mk (blk_below D1.out hyb)
    have D2' := Aside0.mk (blk_below D2.out hyb)
    have D3' := Aside0.mk (blk_below D3.out hyb)
    have DV' := Aside0.mk (DV.out.below hyb)
    have DB' := Aside0.mk (DB.out.trans (hyb.mono DB.out.size))
    have DK' := Aside0.mk (DK.out.below hyb)
    have hlw' := Nat.le_trans hlw hyb.size
    clear hyb hyd D0 D1 D2 D3 DV DB DK hlw
    refine ⟨_, rfl, ?_⟩
    refine hK.out _ _ ⟨(blk_cell D0'.out 0).trans rfl, (blk_cell D0'.out 1).trans rfl, (blk_cell D0'.out 2).trans rfl, (blk_cell D1'.out 0).trans rfl, (blk_cell D1'.out 1).trans rfl, (blk_cell D1'.out 2).trans rfl, (blk_cell D1'.out 3).trans rfl, (blk_cell D1'.out 4).trans rfl, (blk_cell D1'.out 5).trans rfl, (blk_cell D1'.out 6).trans rfl, (blk_cell D1'.out 7).trans rfl, (blk_cell D1'.out 8).trans rfl, (blk_cell D1'.out 9).trans rfl, (blk_cell D1'.out 10).trans rfl, (blk_cell D1'.out 11).trans rfl, (blk_cell D2'.out 0).trans rfl, (blk_cell D2'.out 1).trans rfl, (blk_cell D2'.out 2).trans rfl, (blk_cell D2'.out 3).trans rfl, (blk_cell D2'.out 4).trans rfl⟩ (fun hHeld => ?_)
    clear hK K
    refine nm 90 ?_
    refine one_ (i := 5) (N := (some 91)) (bl 11 511) rfl rfl (by kernel_rfl) (by decide) (fun K hK => ?_)
    refine goes_ Try.func59 (by kernel_rfl) rfl #[.agg #[.int .i64 c.ed, .slice A1 c.st.length n1, .slice A2 c.ou.length n2, .slice A3 c.tr.length n3, .int .i64 c.co, .int .i64 c.us, .int .i64 c.wh, .slice (some ⟨g0, 0, none⟩) c.re.length n7, .slice A8 c.tl.length n8, .int .i64 c.pc, .int .i64 c.fu, .bool c.ov], .int .i64 0, .int .i64 c.pc, .int .i64 o] (by rfl) rfl rfl (by (try simp only [List.map_toArray, List.map_cons, List.map_nil]); rfl) ?_
    refine (vm_event.calls w0 Y' Q _ c 0 c.pc o DB'.out DV'.out (fun k hk => by have := HQ.out k hk; omega) htr).mono ?_
    rintro e Y2 ⟨cs1, rfl, hv1, hb1, hk1⟩
    have nq : ∀ k, w.heap.size ≤ k → ¬ Q k := fun k h hq => by have := HQ.out k hq; omega
    have E0 := Aside0.mk ((hk1.2 (w.heap.size) (by omega) (nq _ (by omega))).trans D0'.out)
    have E1 := Aside0.mk ((hk1.2 (w.heap.size + 1) (by omega) (nq _ (by omega))).trans D1'.out)
    have E2 := Aside0.mk ((hk1.2 (w.heap.size + 2) (by omega) (nq _ (by omega))).trans D2'.out)
    have E3 := Aside0.mk ((hk1.2 (w.heap.size + 3) (by omega) (nq _ (by omega))).trans D3'.out)
    obtain ⟨c1, hc1⟩ : ∃ c1 : VC, c1 = { c with tr := c.tr ++ [⟨0, c.pc, o⟩] } := ⟨_, rfl⟩
    have EV := Aside0.mk (show VR Y2 w0.heap.size (fun k => Q k ∨ Y'.heap.size ≤ k) cs1 c1 by rw [hc1]; exact hv1)
    have EB := Aside0.mk hb1
    have EK := Aside0.mk (DK'.out.then_ hk1 (fun k hk => .inl hk))
    have hp1' : 0 ≤ c1.pc ∧ c1.pc < 1000000000 := by rw [hc1]; exact ⟨hp0, hp1⟩
    have HC1' := Aside0.mk hc1
    have hlw2 := Nat.le_trans hlw' hk1.1
    have hlY : w.heap.size + 4 ≤ Y'.heap.size := hlw'
    obtain ⟨a11, b11, a21, b21, a31, b31, a71, b71, a81, b81, rfl, hh1⟩ := id EV.out
    clear hh1 hv1 hb1 hk1 hc1 nq D0' D1' D2' D3' DV' DB' DK'
    refine ⟨_, rfl, ?_⟩
    refine hK.out _ _ ⟨(blk_cell E0.out 0).trans rfl, (blk_cell E0.out 1).trans rfl, (blk_cell E0.out 2).trans rfl, (blk_cell E1.out 0).trans rfl, (blk_cell E1.out 1).trans rfl, (blk_cell E1.out 2).trans rfl, (blk_cell E1.out 3).trans rfl, (blk_cell E1.out 4).trans rfl, (blk_cell E1.out 5).trans rfl, (blk_cell E1.out 6).trans rfl, (blk_cell E1.out 7).trans rfl, (blk_cell E1.out 8).trans rfl, (blk_cell E1.out 9).trans rfl, (blk_cell E1.out 10).trans rfl, (blk_cell E1.out 11).trans rfl, (blk_cell E2.out 0).trans rfl, (blk_cell E2.out 1).trans rfl, (blk_cell E2.out 2).trans rfl, (blk_cell E2.out 3).trans rfl, (blk_cell E2.out 4).trans rfl⟩ (fun hHeld => ?_)
    clear hK K
    refine nm 91 ?_
    refine last_ (i := 9) (N := (some 95)) (bl 11 1023) rfl rfl (by kernel_rfl) (by decide) (fun K hK => ?_)
    refine goes_ Try.func58 (by kernel_rfl) rfl #[.agg #[.int .i64 c1.ed, .slice a11 c1.st.length b11, .slice a21 c1.ou.length b21, .slice a31 c1.tr.length b31, .int .i64 c1.co, .int .i64 c1.us, .int .i64 c1.wh, .slice a71 c1.re.length b71, .slice a81 c1.tl.length b81, .int .i64 c1.pc, .int .i64 c1.fu, .bool c1.ov], .bool z, .int .i64 i.f2] (by rfl) rfl rfl (by (try simp only [List.map_toArray, List.map_cons, List.map_nil]); rfl) ?_
    refine (vm_goes.calls w0 Y2 (fun k => (Q k ∨ Y'.heap.size ≤ k) ∧ k < Y2.heap.size) _ c1 z i.f2 EB.out EV.out.bound (fun k hk => hk.2) hp1'.1 hp1'.2).mono ?_
    rintro e W2 ⟨cs2, rfl, hv2, hb2, hk2⟩
    have X3 := Aside0.mk ((hk2.2 (w.heap.size + 3) (by omega) (fun h => by rcases h with ⟨h | h, _⟩; exact absurd (HQ.out _ h) (by omega); omega)).trans E3.out)
    obtain ⟨c2, hc2⟩ : ∃ c2 : VC, c2 = { c1 with pc := if z = true then i.f2 else c1.pc + 1 } := ⟨_, rfl⟩
    have HV2 := Aside0.mk (show VR W2 w0.heap.size (fun k => ((Q k ∨ Y'.heap.size ≤ k) ∧ k < Y2.heap.size) ∨ Y2.heap.size ≤ k) cs2 c2 by rw [hc2]; exact hv2)
    have HC2 := Aside0.mk hc2
    obtain ⟨B1_, m1_, B2_, m2_, B3_, m3_, B7_, m7_, B8_, m8_, rfl, hh2⟩ := id HV2.out
    clear hh2
    have HB2 := Aside0.mk hb2
    have HK2 := Aside0.mk (EK.out.then_ hk2 (fun k hk => by rcases hk with ⟨h | h, _⟩; exact .inl h; exact .inr (by omega)))
    have hs2 := hk2.1
    have hlc : w.heap.size + 3 < Y2.heap.size := (by omega)
    clear hv2 hb2 hk2 hc2
    obtain ⟨z0, z1, z2, z3, z4, z5, z6, z7, z8, z9, z10, z11⟩ := row12 X3.out
    obtain ⟨g0, g1, g2, g3, g4, g5, g6, g7, g8, g9, g10, g11⟩ := froz12 X3.out
    refine ⟨_, rfl, ?_⟩
    refine hK.out _ _ ?_
    clear hK K
    refine nm 95 ?_
    refine last_ (i := 10) (N := none) (bl 11 2047) rfl rfl (by kernel_rfl) (by decide) (fun K hK => ?_)
    refine skip_ (w1 := ?_) (by rfl) rfl ?_ ?_
    rotate_left
    · go_simp
      rfl
    refine hK.out _ _ ?_
    clear hK K
    refine done_ (by kernel_rfl) ?_
    go_wp2
    have hfin : c2 = c' := by
      rw [← HH.out, HC2.out, HC1'.out, ← HO.out, ← HZ.out]
      by_cases h0 : rg c.re i.f1 = 0
      · simp [h0]
      · simp [h0, beq_eq_false_iff_ne.mpr h0]
    exact v_end (g := w.heap.size + 3) HV2.out (hfin) X3.out rfl HB2.out HK2.out (by omega) (by omega) (fun h => by rcases h with ⟨h | h, _⟩ | h; exact absurd (HQ.out _ h) (by omega); omega; omega) (fun k hk => by rcases hk with ⟨h | h, _⟩ | h; exact .inl h; exact .inr (by omega); exact .inr (by omega)) rfl rfl rfl rfl
  have e6 := (beq_eq_false_iff_ne (a := i.f0)).mpr h6
  by_cases h7 : i.f0 = 7
  · rw [vDo, if_neg (by rw [h7]; decide), if_neg (by rw [h7]; decide), if_neg (by rw [h7]; decide), if_neg (by rw [h7]; decide), if_neg (by rw [h7]; decide), if_neg (by rw [h7]; decide), if_neg (by rw [h7]; decide), if_pos h7] at h
    have e7 : (i.f0 == 7) = true := beq_iff_eq.mpr h7
    have H7 := Aside0.mk h7
    clear h7
    have h := Option.some.inj h
    have HH := Aside0.mk h
    clear h
    have ra := HF7.out H7.out
    obtain ⟨g0, m0, e0, qg0, qf0, hQg0, hBg0, hgl0, hput0⟩ := HV0.out.reg (i.f2).toNat (by have h1 := ra.1; have h2 := ra.2; omega)
    have QG0 := Aside0.mk (show (W0).cell? ⟨g0, (i.f2).toNat, none⟩ = some (.int .i64 (rg c.re (i.f2))) from qg0)
    obtain ⟨rfl, rfl⟩ : A7 = some ⟨g0, 0, none⟩ ∧ n7 = m0 := by
      have := Option.some.inj e0
      injection this with h1 h2 h3
      exact ⟨h1, h3⟩
    clear e0 hput0 qf0 qg0
    have QD := Aside0.mk (show W0.drew.cell? ⟨g0, i.f2.toNat, none⟩ = some (.int .i64 (rg c.re i.f2)) from QG0.out)
    obtain ⟨ra0, ra1⟩ := ra
    have D0 := Aside0.mk (kdr XB0.out)
    have D1 := Aside0.mk (kdr XB1.out)
    have D2 := Aside0.mk (kdr XB2.out)
    have D3 := Aside0.mk (kdr XB3.out)
    have DV := Aside0.mk (HV0.out.below (below_drew (Below.refl _ _)))
    have DB := Aside0.mk (HB0.out.trans ((below_drew (Below.refl _ _)).mono HB0.out.size))
    have DK := Aside0.mk (HK0.out.below (below_drew (Below.refl _ _)))
    have hlw : w.heap.size + 4 ≤ W0.drew.heap.size := by have := HSZ.out; show w.heap.size + 4 ≤ W0.heap.size; omega
    have huO := Try.underlying59
    go_wp2
    clear p0 p1 p2 c0 c1 c2 c3 c4 c5 c6 c7 c8 c9 c10 c11 i0 i1 i2 i3 i4
    obtain ⟨A2g, n2g, e2g, h2g, hgr⟩ := DV.out.grow_ou
    obtain ⟨rfl, rfl⟩ : A2 = A2g ∧ n2 = n2g := by
      have := Option.some.inj e2g
      injection this with h1 h2 h3
      exact ⟨h1, h3⟩
    have H2G := Aside0.mk h2g
    have HGR := Aside0.mk hgr
    clear e2g h2g hgr
    refine start_ (n := 17) (S := fun w' => w'.cell? ⟨w.heap.size, 0, none⟩ = some (.int .i64 wd) ∧ w'.cell? ⟨w.heap.size, 1, none⟩ = some (.slice Av l1.length cv) ∧ w'.cell? ⟨w.heap.size, 2, none⟩ = some (.slice Ai L ci) ∧ w'.cell? ⟨w.heap.size + 1, 0, none⟩ = some (.int .i64 c.ed) ∧ w'.cell? ⟨w.heap.size + 1, 1, none⟩ = some (.slice A1 c.st.length n1) ∧ w'.cell? ⟨w.heap.size + 1, 2, none⟩ = some (.slice A2 c.ou.length n2) ∧ w'.cell? ⟨w.heap.size + 1, 3, none⟩ = some (.slice A3 c.tr.length n3) ∧ w'.cell? ⟨w.heap.size + 1, 4, none⟩ = some (.int .i64 c.co) ∧ w'.cell? ⟨w.heap.size + 1, 5, none⟩ = some (.int .i64 c.us) ∧ w'.cell? ⟨w.heap.size + 1, 6, none⟩ = some (.int .i64 c.wh) ∧ w'.cell? ⟨w.heap.size + 1, 7, none⟩ = some (.slice (some ⟨g0, 0, none⟩) c.re.length n7) ∧ w'.cell? ⟨w.heap.size + 1, 8, none⟩ = some (.slice A8 c.tl.length n8) ∧ w'.cell? ⟨w.heap.size + 1, 9, none⟩ = some (.int .i64 c.pc) ∧ w'.cell? ⟨w.heap.size + 1, 10, none⟩ = some (.int .i64 c.fu) ∧ w'.cell? ⟨w.heap.size + 1, 11, none⟩ = some (.bool c.ov) ∧ w'.cell? ⟨w.heap.size + 2, 0, none⟩ = some (.int .i64 i.f0) ∧ w'.cell? ⟨w.heap.size + 2, 1, none⟩ = some (.int .i64 i.f1) ∧ w'.cell? ⟨w.heap.size + 2, 2, none⟩ = some (.int .i64 i.f2) ∧ w'.cell? ⟨w.heap.size + 2, 3, none⟩ = some (.int .i64 i.f3) ∧ w'.cell? ⟨w.heap.size + 2, 4, none⟩ = some (.int .i64 i.f4) ∧ w'.cell? ⟨g0, i.f2.toNat, none⟩ = some (.int .i64 (rg c.re i.f2))) (ds := [13, 16]) #[false, false, false, false, false, false, false, false, false, false, false, false, false, false, false, false, false] (by kernel_rfl) rfl rfl ⟨(blk_cell D0.out 0).trans rfl, (blk_cell D0.out 1).trans rfl, (blk_cell D0.out 2).trans rfl, (blk_cell D1.out 0).trans rfl, (blk_cell D1.out 1).trans rfl, (blk_cell D1.out 2).trans rfl, (blk_cell D1.out 3).trans rfl, (blk_cell D1.out 4).trans rfl, (blk_cell D1.out 5).trans rfl, (blk_cell D1.out 6).trans rfl, (blk_cell D1.out 7).trans rfl, (blk_cell D1.out 8).trans rfl, (blk_cell D1.out 9).trans rfl, (blk_cell D1.out 10).trans rfl, (blk_cell D1.out 11).trans rfl, (blk_cell D2.out 0).trans rfl, (blk_cell D2.out 1).trans rfl, (blk_cell D2.out 2).trans rfl, (blk_cell D2.out 3).trans rfl, (blk_cell D2.out 4).trans rfl, QD.out⟩ (fun hHeld => ?_)
    generalize W0.drew = Y at D0 D1 D2 D3 DV DB DK hlw QD H2G HGR hHeld ⊢
    refine pu (i := 0) (N := some 98) (bl 17 1) rfl rfl (by kernel_rfl) ?_
    refine pu (i := 1) (N := some 99) (bl 17 3) rfl rfl (by kernel_rfl) ?_
    refine tk (i := 2) (N := some 100) (bl 17 7) rfl rfl (by kernel_rfl) hHeld ?_
    refine pu (i := 3) (N := some 101) (bl 17 15) rfl rfl (by kernel_rfl) ?_
    refine tk (i := 4) (N := some 102) (bl 17 31) rfl rfl (by kernel_rfl) hHeld ?_
    refine pu (i := 5) (N := some 103) (bl 17 63) rfl rfl (by kernel_rfl) ?_
    refine tk (i := 6) (N := some 104) (bl 17 127) rfl rfl (by kernel_rfl) hHeld ?_
    refine pu (i := 7) (N := some 105) (bl 17 255) rfl rfl (by kernel_rfl) ?_
    refine tk (i := 8) (N := some 106) (bl 17 511) rfl rfl (by kernel_rfl) hHeld ?_
    refine pu (i := 9) (N := some 107) (bl 17 1023) rfl rfl (by kernel_rfl) ?_
    refine tk (i := 10) (N := some 108) (bl 17 2047) rfl rfl (by kernel_rfl) hHeld ?_
    refine pu (i := 11) (N := some 109) (bl 17 4095) rfl rfl (by kernel_rfl) ?_
    refine one_ (i := 12) (N := (some 110)) (bl 17 8191) rfl rfl (by kernel_rfl) (by decide) (fun K hK => ?_)
    refine value_ (w1 := ?_) (v := ?_) (by rfl) rfl ?_ ?_
    rotate_left 2
    · go_simp
      constructor
      · rfl
      · rfl
    refine hK.out _ _ ⟨(blk_cell (kal D0.out _) 0).trans rfl, (blk_cell (kal D0.out _) 1).trans rfl, (blk_cell (kal D0.out _) 2).trans rfl, (blk_cell (kal D1.out _) 0).trans rfl, (blk_cell (kal D1.out _) 1).trans rfl, (blk_cell (kal D1.out _) 2).trans rfl, (blk_cell (kal D1.out _) 3).trans rfl, (blk_cell (kal D1.out _) 4).trans rfl, (blk_cell (kal D1.out _) 5).trans rfl, (blk_cell (kal D1.out _) 6).trans rfl, (blk_cell (kal D1.out _) 7).trans rfl, (blk_cell (kal D1.out _) 8).trans rfl, (blk_cell (kal D1.out _) 9).trans rfl, (blk_cell (kal D1.out _) 10).trans rfl, (blk_cell (kal D1.out _) 11).trans rfl, (blk_cell (kal D2.out _) 0).trans rfl, (blk_cell (kal D2.out _) 1).trans rfl, (blk_cell (kal D2.out _) 2).trans rfl, (blk_cell (kal D2.out _) 3).trans rfl, (blk_cell (kal D2.out _) 4).trans rfl, ((bal (Below.refl _ _) _).cell (World.block_lt_of_cell? _ _ QD.out)).trans QD.out⟩ (fun hHeld => ?_)
    clear hK K
    refine nm 110 ?_
    refine last_ (i := 13) (N := (some 111)) (bl 17 16383) rfl rfl (by kernel_rfl) (by decide) (fun K hK => ?_)
    refine Kd.R_append_step k108 (w0 := w0) w0.heap.size (by rfl) (.tmp 100) (.tmp 110) 59 108 (.agg #[.int .i64 0, .int .i64 0]) 16 rfl huO infoOut rfl (by decide) (by omega) (.slice A2 c.ou.length n2) c.ou (⟨i.f1, rg c.re i.f2⟩ : S108) [.int .i64 i.f1, .int .i64 (rg c.re i.f2)] (fun k => Q k ∨ w.heap.size + 4 ≤ k) (fun _ => False) rfl rfl (k108_mkM _ _ _ _) (fun _ hk => hk.elim) (fun k hk => .inr (Nat.le_trans hlw hk)) (Kd.R_mono H2G.out (fun k hk => .inl hk)) DB.out DB.out.size (by omega) ?_
    intro v1 W1 ho hb hg hat
    have V1 := HGR.out W1 v1 _ (fun k => Q k ∨ w.heap.size + 4 ≤ k) (fun k hk => .inl hk) ho hg
    obtain ⟨A', n', ev⟩ := Kd.R_slice ho
    have el : (c.ou ++ [(⟨i.f1, rg c.re i.f2⟩ : S108)]).length = c.ou.length + 1 := by simp
    rw [el] at ev
    subst ev
    have E0 := Aside0.mk (blk_grown D0.out hg (Kd.R_ne H2G.out D0.out (by decide)))
    have E1 := Aside0.mk (blk_grown D1.out hg (Kd.R_ne H2G.out D1.out (by decide)))
    have E2 := Aside0.mk (blk_grown D2.out hg (Kd.R_ne H2G.out D2.out (by decide)))
    have E3 := Aside0.mk (blk_grown D3.out hg (Kd.R_ne H2G.out D3.out (by decide)))
    have V1 := Aside0.mk V1
    have EB := Aside0.mk hb
    have EK := Aside0.mk (Kept.of_grown hg DK.out (fun k e => .inl (H2G.out.1 k e)))
    have hl1 := hg.size
    clear ho hb hg hat D0 D1 D2 D3 DV DB DK QD H2G HGR
    refine hK.out _ _ ?_
    clear hK K
    refine nm 111 ?_
    refine pu (i := 14) (N := some 112) (bl 17 32767) rfl rfl (by kernel_rfl) ?_
    refine pu (i := 15) (N := some 113) (bl 17 65535) rfl rfl (by kernel_rfl) ?_
    refine last_ (i := 16) (N := none) (bl 17 131071) rfl rfl (by kernel_rfl) (by decide) (fun K hK => ?_)
    have y2 : W1.cell? ⟨w.heap.size + 1, 2, none⟩ = some (.slice A2 c.ou.length n2) := (blk_cell E1.out 2).trans rfl
    have f2 := blk_frozen E1.out 2
    refine skip_ (w1 := ?_) (by rfl) rfl ?_ ?_
    rotate_left
    · go_simp
      rfl
    refine hK.out _ _ ?_
    clear hK K
    refine done_ (by kernel_rfl) ?_
    have G1 := Aside0.mk (blk_put E1.out 2 (.slice A' (c.ou.length + 1) n') (cs' := #[.int .i64 c.ed, .slice A1 c.st.length n1, .slice A' (c.ou.length + 1) n', .slice A3 c.tr.length n3, .int .i64 c.co, .int .i64 c.us, .int .i64 c.wh, .slice (some ⟨g0, 0, none⟩) c.re.length n7, .slice A8 c.tl.length n8, .int .i64 c.pc, .int .i64 c.fu, .bool c.ov]) rfl)
    have G3 := Aside0.mk ((Below.heap_setCell W1 ⟨w.heap.size + 1, 2, none⟩ (.slice A' (c.ou.length + 1) n') (w.heap.size + 3) (by show w.heap.size + 3 ≠ w.heap.size + 1; omega)).trans E3.out)
    have nq1 : ¬ (Q (w.heap.size + 1) ∨ w.heap.size + 4 ≤ w.heap.size + 1) := fun h => by rcases h with h | h; (have := HQ.out _ h; omega); omega
    have GV := Aside0.mk (V1.out.set (p := ⟨w.heap.size + 1, 2, none⟩) nq1 (.slice A' (c.ou.length + 1) n'))
    have GB := Aside0.mk (EB.out.setCell (p := ⟨w.heap.size + 1, 2, none⟩) (by show w0.heap.size ≤ w.heap.size + 1; omega) (.slice A' (c.ou.length + 1) n'))
    have GK := Aside0.mk (EK.out.setCell (p := ⟨w.heap.size + 1, 2, none⟩) (.inr (Nat.le_succ _)) (.slice A' (c.ou.length + 1) n'))
    have hlx : w.heap.size + 4 ≤ (W1.setCell ⟨w.heap.size + 1, 2, none⟩ (.slice A' (c.ou.length + 1) n')).heap.size := by simp; omega
    generalize W1.setCell ⟨w.heap.size + 1, 2, none⟩ (.slice A' (c.ou.length + 1) n') = W3 at G1 G3 GV GB GK hlx ⊢
    obtain ⟨cx, hcx⟩ : ∃ cx : VC, cx = { c with ou := c.ou ++ [⟨i.f1, rg c.re i.f2⟩] } := ⟨_, rfl⟩
    have hpx : 0 ≤ cx.pc ∧ cx.pc < 1000000000 := by rw [hcx]; exact ⟨hp0, hp1⟩
    have HCX := Aside0.mk hcx
    have GVX := Aside0.mk (show VR W3 w0.heap.size _ #[.int .i64 c.ed, .slice A1 c.st.length n1, .slice A' (c.ou.length + 1) n', .slice A3 c.tr.length n3, .int .i64 c.co, .int .i64 c.us, .int .i64 c.wh, .slice (some ⟨g0, 0, none⟩) c.re.length n7, .slice A8 c.tl.length n8, .int .i64 c.pc, .int .i64 c.fu, .bool c.ov] cx by rw [hcx]; exact GV.out)
    clear y2 f2 E0 E1 E2 E3 V1 EB EK nq1 hcx GV
    obtain ⟨u0, u1, u2, u3, u4, u5, u6, u7, u8, u9, u10, u11⟩ := row12 G1.out
    go_wp2_with (first | (go_at_call 58; refine (vm_goes.calls w0 W3 (fun k => (Q k ∨ w.heap.size + 4 ≤ k) ∧ k < W3.heap.size) _ cx false 0 GB.out GVX.out.bound (fun k hk => hk.2) hpx.1 hpx.2).mono ?_; rintro e W2 ⟨cs2, rfl, hv2, hb2, hk2⟩; have X3 := Aside0.mk ((hk2.2 (w.heap.size + 3) (by omega) (fun h => by rcases h with ⟨h | h, _⟩; exact absurd (HQ.out _ h) (by omega); omega)).trans G3.out); obtain ⟨c2, hc2⟩ : ∃ c2 : VC, c2 = { cx with pc := cx.pc + 1 } := ⟨_, rfl⟩; have HV2 := Aside0.mk (show VR W2 w0.heap.size (fun k => ((Q k ∨ w.heap.size + 4 ≤ k) ∧ k < W3.heap.size) ∨ W3.heap.size ≤ k) cs2 c2 by rw [hc2]; exact hv2); have HC2 := Aside0.mk hc2; obtain ⟨B1_, m1_, B2_, m2_, B3_, m3_, B7_, m7_, B8_, m8_, rfl, hh2⟩ := id HV2.out; clear hh2; have HB2 := Aside0.mk hb2; have HK2 := Aside0.mk (GK.out.then_ hk2 (fun k hk => by rcases hk with ⟨h | h, _⟩; exact .inl h; exact .inr (by omega))); have hs2 := hk2.1; have hlc : w.heap.size + 3 < W3.heap.size := (by omega); clear hv2 hb2 hk2 hc2; obtain ⟨z0, z1, z2, z3, z4, z5, z6, z7, z8, z9, z10, z11⟩ := row12 X3.out; obtain ⟨g0, g1, g2, g3, g4, g5, g6, g7, g8, g9, g10, g11⟩ := froz12 X3.out))
    exact v_end (g := w.heap.size + 3) HV2.out (by rw [← HH.out, HC2.out, HCX.out]) X3.out rfl HB2.out HK2.out (by omega) (by omega) (fun h => by rcases h with ⟨h | h, _⟩ | h; exact absurd (HQ.out _ h) (by omega); omega; omega) (fun k hk => by rcases hk with ⟨h | h, _⟩ | h; exact .inl h; exact .inr (by omega); exact .inr (by omega)) rfl rfl rfl rfl
  have e7 := (beq_eq_false_iff_ne (a := i.f0)).mpr h7
  by_cases h8 : i.f0 = 8
  · rw [vDo, if_neg (by rw [h8]; decide), if_neg (by rw [h8]; decide), if_neg (by rw [h8]; decide), if_neg (by rw [h8]; decide), if_neg (by rw [h8]; decide), if_neg (by rw [h8]; decide), if_neg (by rw [h8]; decide), if_neg (by rw [h8]; decide), if_pos h8] at h
    have e8 : (i.f0 == 8) = true := beq_iff_eq.mpr h8
    have H8 := Aside0.mk h8
    clear h8
    have ra := HF8.out H8.out
    by_cases hu : (picks.length : Int) ≤ c.us
    · rw [if_pos hu] at h
      have HH := Aside0.mk (Option.some.inj h)
      have hub : decide ((picks.length : Int) ≤ c.us) = true := decide_eq_true hu
      clear h
      go_wp2_with (first | (go_at_call 34; refine (vm_stop.calls w0 W0 Q _ c 4 HB0.out HV0.out (fun k hk => by have := HQ.out k hk; have := HSZ.out; omega)).mono ?_; rintro e W2 ⟨cs2, rfl, hv2, hb2, hk2⟩; have X3 := Aside0.mk ((hk2.2 (w.heap.size + 3) (by have := HSZ.out; omega) (fun h => absurd (HQ.out _ h) (by omega))).trans XB3.out); obtain ⟨c2, hc2⟩ : ∃ c2 : VC, c2 = vStop 4 c := ⟨_, rfl⟩; have HV2 := Aside0.mk (show VR W2 w0.heap.size (fun k => Q k ∨ W0.heap.size ≤ k) cs2 c2 by rw [hc2]; exact hv2); have HC2 := Aside0.mk hc2; obtain ⟨B1_, m1_, B2_, m2_, B3_, m3_, B7_, m7_, B8_, m8_, rfl, hh2⟩ := id HV2.out; clear hh2; have HB2 := Aside0.mk hb2; have HK2 := Aside0.mk (HK0.out.then_ hk2 (fun k hk => .inl hk)); have hs2 := hk2.1; have hlc : w.heap.size + 3 < W0.heap.size := (by have := HSZ.out; omega); clear hv2 hb2 hk2 hc2; obtain ⟨z0, z1, z2, z3, z4, z5, z6, z7, z8, z9, z10, z11⟩ := row12 X3.out; obtain ⟨g0, g1, g2, g3, g4, g5, g6, g7, g8, g9, g10, g11⟩ := froz12 X3.out))
      exact v_end (g := w.heap.size + 3) HV2.out (HC2.out.trans HH.out) X3.out rfl HB2.out HK2.out (by omega) (by omega) (fun h => by rcases h with h | h; exact absurd (HQ.out _ h) (by omega); omega) (fun k hk => by rcases hk with h | h; exact .inl h; exact .inr (by omega)) rfl rfl rfl rfl
    · rw [if_neg hu] at h
      have HH := Aside0.mk (Option.some.inj h)
      have hub : decide ((picks.length : Int) ≤ c.us) = false := decide_eq_false hu
      clear h
      have f5 := blk_frozen XB1.out 5
      have hwu : IntKind.i64.wrap (c.us + 1) = c.us + 1 := by rw [i64_w]; unfold wrap64; omega
      have hwv : IntKind.i64.wrap (c.us + 1 - 1) = c.us := by rw [i64_w]; unfold wrap64; omega
      have hw64 : wrap64 c.us = c.us := by unfold wrap64; omega
      have hult : c.us < (picks.length : Int) := by omega
      have hpk9 := HPK.out.2.1
      obtain ⟨ad, cl, e1, _, hK_, hcl⟩ := Kd.C_get HPK.out (0 : Int) c.us hu0 (by omega)
      subst e1
      have hcl0 : cl = [.int .i64 (rg picks c.us)] := hK_
      subst hcl0
      have qp := hcl 0 _ rfl
      rw [show (Kd.int .i64).sz = 1 from rfl, Nat.mul_one, Nat.add_zero] at qp
      have qpl := World.block_lt_of_cell? w0 _ qp
      clear hcl hK_
      go_wp2
      clear p0 p1 p2 c0 c1 c2 c3 c4 c5 c6 c7 c8 c9 c10 c11 i0 i1 i2 i3 i4
      have G0 := Aside0.mk (kdr ((Below.heap_setCell W0 ⟨w.heap.size + 1, 5, none⟩ (.int .i64 (c.us + 1)) w.heap.size (by show w.heap.size ≠ w.heap.size + 1; omega)).trans XB0.out))
      have G1 := Aside0.mk (kdr (blk_put XB1.out 5 (.int .i64 (c.us + 1)) (cs' := #[.int .i64 c.ed, .slice A1 c.st.length n1, .slice A2 c.ou.length n2, .slice A3 c.tr.length n3, .int .i64 c.co, .int .i64 (c.us + 1), .int .i64 c.wh, .slice A7 c.re.length n7, .slice A8 c.tl.length n8, .int .i64 c.pc, .int .i64 c.fu, .bool c.ov]) rfl))
      have G2 := Aside0.mk (kdr ((Below.heap_setCell W0 ⟨w.heap.size + 1, 5, none⟩ (.int .i64 (c.us + 1)) (w.heap.size + 2) (by show w.heap.size + 2 ≠ w.heap.size + 1; omega)).trans XB2.out))
      have G3 := Aside0.mk (kdr ((Below.heap_setCell W0 ⟨w.heap.size + 1, 5, none⟩ (.int .i64 (c.us + 1)) (w.heap.size + 3) (by show w.heap.size + 3 ≠ w.heap.size + 1; omega)).trans XB3.out))
      have nq1 : ¬ Q (w.heap.size + 1) := fun h => by have := HQ.out _ h; omega
      have GV := Aside0.mk (((HV0.out.set (p := ⟨w.heap.size + 1, 5, none⟩) nq1 (.int .i64 (c.us + 1))).us' (c.us + 1)).below (below_drew (Below.refl _ _)))
      have gb := HB0.out.setCell (p := ⟨w.heap.size + 1, 5, none⟩) (by show w0.heap.size ≤ w.heap.size + 1; omega) (.int .i64 (c.us + 1))
      have GB := Aside0.mk (gb.trans ((below_drew (Below.refl _ _)).mono gb.size))
      have GK := Aside0.mk ((HK0.out.setCell (p := ⟨w.heap.size + 1, 5, none⟩) (.inr (Nat.le_succ _)) (.int .i64 (c.us + 1))).below (below_drew (Below.refl _ _)))
      have QP := Aside0.mk ((GB.out.cell qpl).trans qp)
      have hlw : w.heap.size + 4 ≤ (W0.setCell ⟨w.heap.size + 1, 5, none⟩ (.int .i64 (c.us + 1))).drew.heap.size := by have := HSZ.out; show w.heap.size + 4 ≤ (W0.setCell ⟨w.heap.size + 1, 5, none⟩ (.int .i64 (c.us + 1))).heap.size; simp; omega
      clear nq1 gb qp f5
      refine start_ (n := 12) (S := fun w' => w'.cell? ⟨w.heap.size + 1, 0, none⟩ = some (.int .i64 c.ed) ∧ w'.cell? ⟨w.heap.size + 1, 1, none⟩ = some (.slice A1 c.st.length n1) ∧ w'.cell? ⟨w.heap.size + 1, 2, none⟩ = some (.slice A2 c.ou.length n2) ∧ w'.cell? ⟨w.heap.size + 1, 3, none⟩ = some (.slice A3 c.tr.length n3) ∧ w'.cell? ⟨w.heap.size + 1, 4, none⟩ = some (.int .i64 c.co) ∧ w'.cell? ⟨w.heap.size + 1, 5, none⟩ = some (.int .i64 (c.us + 1)) ∧ w'.cell? ⟨w.heap.size + 1, 6, none⟩ = some (.int .i64 c.wh) ∧ w'.cell? ⟨w.heap.size + 1, 7, none⟩ = some (.slice A7 c.re.length n7) ∧ w'.cell? ⟨w.heap.size + 1, 8, none⟩ = some (.slice A8 c.tl.length n8) ∧ w'.cell? ⟨w.heap.size + 1, 9, none⟩ = some (.int .i64 c.pc) ∧ w'.cell? ⟨w.heap.size + 1, 10, none⟩ = some (.int .i64 c.fu) ∧ w'.cell? ⟨w.heap.size + 1, 11, none⟩ = some (.bool c.ov) ∧ w'.cell? ⟨w.heap.size + 2, 0, none⟩ = some (.int .i64 i.f0) ∧ w'.cell? ⟨w.heap.size + 2, 1, none⟩ = some (.int .i64 i.f1) ∧ w'.cell? ⟨w.heap.size + 2, 2, none⟩ = some (.int .i64 i.f2) ∧ w'.cell? ⟨w.heap.size + 2, 3, none⟩ = some (.int .i64 i.f3) ∧ w'.cell? ⟨w.heap.size + 2, 4, none⟩ = some (.int .i64 i.f4) ∧ w'.cell? (ad.add c.us.toNat) = some (.int .i64 (rg picks c.us))) (ds := [10, 11]) #[false, false, false, false, false, false, false, false, false, false, false, false] (by kernel_rfl) rfl rfl ⟨(blk_cell G1.out 0).trans rfl, (blk_cell G1.out 1).trans rfl, (blk_cell G1.out 2).trans rfl, (blk_cell G1.out 3).trans rfl, (blk_cell G1.out 4).trans rfl, (blk_cell G1.out 5).trans rfl, (blk_cell G1.out 6).trans rfl, (blk_cell G1.out 7).trans rfl, (blk_cell G1.out 8).trans rfl, (blk_cell G1.out 9).trans rfl, (blk_cell G1.out 10).trans rfl, (blk_cell G1.out 11).trans rfl, (blk_cell G2.out 0).trans rfl, (blk_cell G2.out 1).trans rfl, (blk_cell G2.out 2).trans rfl, (blk_cell G2.out 3).trans rfl, (blk_cell G2.out 4).trans rfl, QP.out⟩ (fun hHeld => ?_)
      generalize (W0.setCell ⟨w.heap.size + 1, 5, none⟩ (.int .i64 (c.us + 1))).drew = Y at G0 G1 G2 G3 GV GB GK QP hlw hHeld ⊢
      refine tk (i := 0) (N := some 132) (bl 12 1) rfl rfl (by kernel_rfl) hHeld ?_
      refine pu (i := 1) (N := some 133) (bl 12 3) rfl rfl (by kernel_rfl) ?_
      refine tk (i := 2) (N := some 134) (bl 12 7) rfl rfl (by kernel_rfl) hHeld ?_
      refine pu (i := 3) (N := some 135) (bl 12 15) rfl rfl (by kernel_rfl) ?_
      refine pu (i := 4) (N := some 136) (bl 12 31) rfl rfl (by kernel_rfl) ?_
      refine pu (i := 5) (N := some 137) (bl 12 63) rfl rfl (by kernel_rfl) ?_
      refine tk (i := 6) (N := some 138) (bl 12 127) rfl rfl (by kernel_rfl) hHeld ?_
      refine pu (i := 7) (N := some 139) (bl 12 255) rfl rfl (by kernel_rfl) ?_
      refine pu (i := 8) (N := some 140) (bl 12 511) rfl rfl (by kernel_rfl) ?_
      refine tk (i := 9) (N := some 141) (bl 12 1023) rfl rfl (by kernel_rfl) hHeld ?_
      refine last_ (i := 10) (N := (some 142)) (bl 12 2047) rfl rfl (by kernel_rfl) (by decide) (fun K hK => ?_)
      refine goes_ Try.func54 (by kernel_rfl) rfl #[.agg #[.int .i64 c.ed, .slice A1 c.st.length n1, .slice A2 c.ou.length n2, .slice A3 c.tr.length n3, .int .i64 c.co, .int .i64 (c.us + 1), .int .i64 c.wh, .slice A7 c.re.length n7, .slice A8 c.tl.length n8, .int .i64 c.pc, .int .i64 c.fu, .bool c.ov], .int .i64 i.f1, .int .i64 (rg picks c.us)] (by rfl) rfl rfl (by (try simp only [List.map_toArray, List.map_cons, List.map_nil]); rfl) ?_
      refine (vm_withI w0 Y Q _ { c with us := c.us + 1 } i.f1 (rg picks c.us) GB.out GV.out (fun k hk => by have := HQ.out k hk; omega) ra hp0 hp1).mono ?_
      rintro e W2 ⟨cs2, rfl, hv2, hb2, hk2⟩
      have X3 := Aside0.mk ((hk2.2 (w.heap.size + 3) (by omega) (fun h => absurd (HQ.out _ h) (by omega))).trans G3.out)
      obtain ⟨c2, hc2⟩ : ∃ c2 : VC, c2 = vWith i.f1 (rg picks c.us) { c with us := c.us + 1 } := ⟨_, rfl⟩
      have HV2 := Aside0.mk (show VR W2 w0.heap.size (fun k => Q k ∨ Y.heap.size ≤ k) cs2 c2 by rw [hc2]; exact hv2)
      have HC2 := Aside0.mk hc2
      obtain ⟨B1_, m1_, B2_, m2_, B3_, m3_, B7_, m7_, B8_, m8_, rfl, hh2⟩ := id HV2.out
      clear hh2
      have HB2 := Aside0.mk hb2
      have HK2 := Aside0.mk (GK.out.then_ hk2 (fun k hk => .inl hk))
      have hs2 := hk2.1
      have hlc : w.heap.size + 3 < Y.heap.size := (by omega)
      clear hv2 hb2 hk2 hc2
      obtain ⟨z0, z1, z2, z3, z4, z5, z6, z7, z8, z9, z10, z11⟩ := row12 X3.out
      obtain ⟨g0, g1, g2, g3, g4, g5, g6, g7, g8, g9, g10, g11⟩ := froz12 X3.out
      refine ⟨_, rfl, ?_⟩
      refine hK.out _ _ ?_
      clear hK K
      refine nm 142 ?_
      refine last_ (i := 11) (N := none) (bl 12 4095) rfl rfl (by kernel_rfl) (by decide) (fun K hK => ?_)
      refine skip_ (w1 := ?_) (by rfl) rfl ?_ ?_
      rotate_left
      · go_simp
        rfl
      refine hK.out _ _ ?_
      clear hK K
      refine done_ (by kernel_rfl) ?_
      go_wp2
      exact v_end (g := w.heap.size + 3) HV2.out (HC2.out.trans HH.out) X3.out rfl HB2.out HK2.out (by omega) (by omega) (fun h => by rcases h with h | h; exact absurd (HQ.out _ h) (by omega); omega) (fun k hk => by rcases hk with h | h; exact .inl h; exact .inr (by omega)) rfl rfl rfl rfl
  have e8 := (beq_eq_false_iff_ne (a := i.f0)).mpr h8
  rw [vDo, if_neg h0, if_neg h1, if_neg h2, if_neg h3, if_neg h4, if_neg h5, if_neg h6, if_neg h7, if_neg h8, if_neg h9, if_neg h10] at h
  have HH := Aside0.mk (Option.some.inj h)
  clear h h0 h1 h2 h3 h4 h5 h6 h7 h8 h9 h10
  go_wp2_with (first | (go_at_call 34; refine (vm_stop.calls w0 W0 Q _ c 0 HB0.out HV0.out (fun k hk => by have := HQ.out k hk; have := HSZ.out; omega)).mono ?_; rintro e W2 ⟨cs2, rfl, hv2, hb2, hk2⟩; have X3 := Aside0.mk ((hk2.2 (w.heap.size + 3) (by have := HSZ.out; omega) (fun h => absurd (HQ.out _ h) (by omega))).trans XB3.out); obtain ⟨c2, hc2⟩ : ∃ c2 : VC, c2 = vStop 0 c := ⟨_, rfl⟩; have HV2 := Aside0.mk (show VR W2 w0.heap.size (fun k => Q k ∨ W0.heap.size ≤ k) cs2 c2 by rw [hc2]; exact hv2); have HC2 := Aside0.mk hc2; obtain ⟨B1_, m1_, B2_, m2_, B3_, m3_, B7_, m7_, B8_, m8_, rfl, hh2⟩ := id HV2.out; clear hh2; have HB2 := Aside0.mk hb2; have HK2 := Aside0.mk (HK0.out.then_ hk2 (fun k hk => .inl hk)); have hs2 := hk2.1; have hlc : w.heap.size + 3 < W0.heap.size := (by have := HSZ.out; omega); clear hv2 hb2 hk2 hc2; obtain ⟨z0, z1, z2, z3, z4, z5, z6, z7, z8, z9, z10, z11⟩ := row12 X3.out; obtain ⟨g0, g1, g2, g3, g4, g5, g6, g7, g8, g9, g10, g11⟩ := froz12 X3.out))
  exact v_end (g := w.heap.size + 3) HV2.out (HC2.out.trans HH.out) X3.out rfl HB2.out HK2.out (by omega) (by omega) (fun h => by rcases h with h | h; exact absurd (HQ.out _ h) (by omega); omega) (fun k hk => by rcases hk with h | h; exact .inl h; exact .inr (by omega)) rfl rfl rfl rfl
end Go.Proofs.Ytnlekgadadifdaa.Print
namespace Go.Proofs.Ytnlekgadadifdaa.Print
open Go.RowKit Go.Proofs.YtnlekgadadifdaaW.PrintWords Go.Proofs.YtnlekgadadifdaaW.PrintLast Go.Proofs.YtnlekgadadifdaaW.PrintMore
attribute [local go_sem] max2_int min2_int max_two min_two max_three min_three max_four min_four
set_option linter.unusedVariables false
set_option linter.unusedSimpArgs false
def r1_Copy.l0 : Nat → List Int → List Int → Int → Option (List Int)
 | 0, _, _, _ => none
 | k + 1, x0, x3, x4 => if x4 < (x0.length : Int) then (if 0 ≤ x4 then (if x3.length < 17592186044416 then (r1_Copy.l0 k x0 (x3 ++ [rd x0 x4]) (wrap64 (x4 + 1))) else (none)) else (none)) else (some x3)
def r1_Copy.f (k : Nat) (l0 : List Int) : Option (List Int) := r1_Copy.l0 k l0 ([] : List Int) 0
theorem r1_Copy.calls (k : Nat) (A0 : Option Addr) (c0 : Nat) (l0 : List Int) (r : List Int) (w : World) (hr0 : Kd.C (Kd.int .i64) w A0 l0.length l0) (hc0 : l0.length ≤ c0) (h : r1_Copy.f k l0 = some r) :
  Calls Try.prog 9 #[.slice A0 l0.length c0] w fun e w' => ∃ v0_ : Value, e = .returned (v0_) ∧ Kd.R (Kd.int .i64) 3 w' w.heap.size (fun _ => True) v0_ r ∧ Below w.heap.size w w' := by
 have HR0 := Aside0.mk hr0
 have HC0 := Aside0.mk hc0
 clear hr0 hc0
 have HB := Aside0.mk (Below.refl w.heap.size w)
 have H : (r1_Copy.l0 k l0 ([] : List Int) 0) = some r := h
 clear h
 have H' := Aside0.mk H
 clear H
 go_enter Try.func9, Try.ntmps9
 go_wp2
 go_loopg [3, 4] k (fun kq v3 v4 w' => ∃ (x3_1 : List Int) (x4_1 : Int), v4 = .int .i64 x4_1 ∧ Aside0 (r1_Copy.l0 kq l0 x3_1 x4_1 = some r) ∧ Aside0 (kq ≤ k) ∧ Aside0 (Kd.R (Kd.int .i64) 3 w' w.heap.size (fun _ => True) v3 x3_1) ∧ Aside0 (Below w.heap.size w w'))
 case atStart => exact ⟨(([] : List Int)), (0), rs, H', ⟨Nat.le_refl _⟩, ⟨by first | exact Kd.R_nil _ _ _ _ _ | exact Kd.N_nil _ _ _ _ _ | exact Kd.V_nil _ _ _ _ _ | exact Kd.Q_nil _ _ _ _ _ | exact Kd.S_nil _ _ _ _ _⟩, ⟨bb HB⟩⟩
 case round =>
  clear H'
  obtain ⟨x3_1, x4_1, rfl, HA, HK1, HO_3, HB⟩ := hrel
  cases gk with
  | zero => exact absurd HA.out (by simp [r1_Copy.l0])
  | succ k1 =>
   have H := HA.out
   clear HA
   simp only [r1_Copy.l0] at H
   by_cases c2 : x4_1 < (l0.length : Int)
   rotate_left
   ·rw [if_neg c2] at H
    have c2b0 : decide (x4_1 < (l0.length : Int)) = false := decide_eq_false c2
    clear c2
    obtain rfl := Option.some.inj H
    go_wp2
    go_ret
    exact ⟨_, rr, iR HO_3, bb HB⟩
   rw [if_pos c2] at H
   have c2b0 : decide (x4_1 < (l0.length : Int)) = true := decide_eq_true c2
   clear c2
   by_cases c3 : 0 ≤ x4_1
   rotate_left
   ·rw [if_neg c3] at H
    exact absurd H (by simp)
   rw [if_pos c3] at H
   have c3b0 : decide (0 ≤ x4_1) = true := decide_eq_true c3
   clear c3
   by_cases c4 : x3_1.length < 17592186044416
   rotate_left
   ·rw [if_neg c4] at H
    exact absurd H (by simp)
   rw [if_pos c4] at H
   have LMc4 := Aside0.mk c4
   clear c4
   obtain ⟨y242, hy242⟩ : ∃ y_ : List Int, y_ = (x3_1 ++ [rd l0 x4_1]) := ⟨_, rfl⟩
   replace H : (r1_Copy.l0 k1 l0 y242 (wrap64 (x4_1 + 1))) = some r := by first | (rw [hy242]; with_reducible exact H) | (have H2_ := (Option.bind_some _ _).symm.trans H; rw [hy242]; with_reducible exact H2_) | (have H2_ := (Option.bind_some _ _).symm.trans H; with_reducible exact H2_) | with_reducible exact H | (rw [hy242]; exact H) | exact H
   have Ny242 := Aside0.mk hy242
   clear hy242
   have H' := Aside0.mk H
   clear H
   have p241 : 0 ≤ (x4_1 : Int) := od
   have q241 : x4_1 < (l0.length : Int) := od
   obtain ⟨ad241, e241, hx241_0⟩ := Kd.at_int HR0.out x4_1 p241 q241
   cases e241
   replace hx241_0 := bcell HB.out hx241_0
   replace p241 := eq_true p241
   replace q241 := eq_true q241
   go_wp2_with (first | ((with_reducible refine gate_builtin (b := .append) (xs := #[.tmp 11, .tmp 16]) rfl ?_); at_builtin; refine Kd.R_append (Kd.int .i64) (w0 := w) w.heap.size rfl (.tmp 11) (.tmp 16) 35 3 (.int .i64 0) 8 rfl Try.underlying35 info3 rfl (by decide) (by omega) u3 x3_1 (rd l0 x4_1) [.int .i64 (rd l0 x4_1)] (fun _ => True) (fun _ => False) rfl rfl ?aP (fun _ hk => hk.elim) ?aF ?aO ?aB ?aS ?aL ?_; (case aP => exact rfl); (case aB => exact (bb HB)); (case aF => exact (fun _ _ => trivial)); (case aO => exact (iR HO_3)); (case aS => exact (bsz (bb HB))); (case aL => have := LMc4.out; omega); intro v243 w5 ho hb hg hat; rw [← Ny242.out] at ho; have HO244 := Aside0.mk (ho); replace HB := Aside0.mk (hb); clear HO_3; clear ho hb hg hat))
   go_roundg k1
   case measure => have := HK1.out; omega
   case rel => exact ⟨(y242), (wrap64 (x4_1 + 1)), rs, H', ⟨by have := HK1.out; omega⟩, ⟨iR HO244⟩, ⟨bb HB⟩⟩
def r9_Begin.f (k : Nat) (a0 : Int) (l1_0 : List Int) (l1_1 : List Int) : Option (Int × List Int × (List (S108)) × (List (S123)) × Int × Int × Int × List Int × List Int × Int × Int × Bool) := (r1_Copy.f k l1_0).bind fun t247 => (if 64 ≤ 35184372088832 then (some (0, t247, ([] : List (S108)), ([] : List (S123)), 0, 0, 0, (List.replicate 64 0), ([] : List Int), 0, a0, false)) else (none))
def r9_Begin.T1 : Bool × List (List Nat × List Nat) := (true, [([], []), ([0], [0]), ([1], [1]), ([2], [2]), ([], []), ([], []), ([3, 4, 5], [3, 4, 5]), ([6, 2, 0, 1, 2, 3, 4, 5, 6], [6])])
def r9_Begin.B1 : List Nat := [0, 1, 3, 7, 0, 0, 63, 127]
theorem r9_Begin.tab1 : rtab .any (opsOf Try.f33 1) = r9_Begin.T1 := by kernel_rfl
theorem r9_Begin.bits1 : waitsOk r9_Begin.T1.2 r9_Begin.B1 = true := by kernel_rfl
theorem r9_Begin.calls (k : Nat) (a0 : Int) (A1_0 : Option Addr) (c1_0 : Nat) (l1_0 : List Int) (A1_1 : Option Addr) (c1_1 : Nat) (l1_1 : List Int) (r1 : Int) (r2 : List Int) (r3 : List (S108)) (r4 : List (S123)) (r5 : Int) (r6 : Int) (r7 : Int) (r8 : List Int) (r9 : List Int) (r10 : Int) (r11 : Int) (r12 : Bool) (w : World) (hr1_0 : Kd.C (Kd.int .i64) w A1_0 l1_0.length l1_0) (hc1_0 : l1_0.length ≤ c1_0) (hr1_1 : Kd.C (Kd.int .i64) w A1_1 l1_1.length l1_1) (hc1_1 : l1_1.length ≤ c1_1) (h : r9_Begin.f k a0 l1_0 l1_1 = some (r1, r2, r3, r4, r5, r6, r7, r8, r9, r10, r11, r12)) :
  Calls Try.prog 33 #[.int .i64 a0, .agg #[.slice A1_0 l1_0.length c1_0, .slice A1_1 l1_1.length c1_1]] w fun e w' => ∃ v1_ v2_ v3_ v7_ v8_ : Value, e = .returned (.agg #[.int .i64 r1, v1_, v2_, v3_, .int .i64 r5, .int .i64 r6, .int .i64 r7, v7_, v8_, .int .i64 r10, .int .i64 r11, .bool r12]) ∧ Kd.R (Kd.int .i64) 3 w' w.heap.size (fun k_ => some k_ ≠ (v7_ : Value).ownBlock ∧ some k_ ≠ (v8_ : Value).ownBlock) v1_ r2 ∧ Kd.R k108 108 w' w.heap.size (fun _ => True) v2_ r3 ∧ Kd.R k123 123 w' w.heap.size (fun _ => True) v3_ r4 ∧ Kd.R (Kd.int .i64) 3 w' w.heap.size (fun k_ => some k_ ≠ (v1_ : Value).ownBlock ∧ some k_ ≠ (v8_ : Value).ownBlock) v7_ r8 ∧ Kd.R (Kd.int .i64) 3 w' w.heap.size (fun k_ => some k_ ≠ (v1_ : Value).ownBlock ∧ some k_ ≠ (v7_ : Value).ownBlock) v8_ r9 ∧ Below w.heap.size w w' := by
 have hu67 := Try.underlying67
 have hu64 := Try.underlying64
 have hu62 := Try.underlying62
 have HR1_0 := Aside0.mk hr1_0
 have HC1_0 := Aside0.mk hc1_0
 clear hr1_0 hc1_0
 have HR1_1 := Aside0.mk hr1_1
 have HC1_1 := Aside0.mk hc1_1
 clear hr1_1 hc1_1
 have HB := Aside0.mk (Below.refl w.heap.size w)
 have H : ((r1_Copy.f k l1_0).bind fun t247 => (if 64 ≤ 35184372088832 then (some (0, t247, ([] : List (S108)), ([] : List (S123)), 0, 0, 0, (List.replicate 64 0), ([] : List Int), 0, a0, false)) else (none))) = some (r1, r2, r3, r4, r5, r6, r7, r8, r9, r10, r11, r12) := h
 clear h
 obtain ⟨t247, A3, H⟩ := be H
 by_cases c4 : 64 ≤ 35184372088832
 rotate_left
 ·rw [if_neg c4] at H
  exact absurd H (by simp)
 rw [if_pos c4] at H
 have c4b0 := eq_true c4
 have c4b1 : decide (64 ≤ 35184372088832) = true := decide_eq_true c4
 clear c4
 obtain ⟨y250, hy250⟩ : ∃ y_ : List Int, y_ = (List.replicate 64 0) := ⟨_, rfl⟩
 replace H : (some (0, t247, ([] : List (S108)), ([] : List (S123)), 0, 0, 0, y250, ([] : List Int), 0, a0, false)) = some (r1, r2, r3, r4, r5, r6, r7, r8, r9, r10, r11, r12) := by first | (rw [hy250]; with_reducible exact H) | (have H2_ := (Option.bind_some _ _).symm.trans H; rw [hy250]; with_reducible exact H2_) | (have H2_ := (Option.bind_some _ _).symm.trans H; with_reducible exact H2_) | with_reducible exact H | (rw [hy250]; exact H) | exact H
 have Ny250 := Aside0.mk hy250
 clear hy250
 simp only [Option.some.injEq, Prod.mk.injEq] at H
 obtain ⟨rfl, rfl, rfl, rfl, rfl, rfl, rfl, rfl, rfl, rfl, rfl, rfl⟩ := H
 go_enter Try.func33, Try.ntmps33
 try go_wp2_with (first | ((with_reducible refine gate_dst (N := 3) rfl ?_); refine bx 3 rfl rfl #[.slice A1_0 l1_0.length c1_0, .slice A1_1 l1_1.length c1_1] 67 ?_; intro gb245 hg w5 hbox hb; have BK245 := Aside0.mk (hbox); have GE245 := ge HB hg; replace HB := sb HB hb; clear hb hbox hg) | ((with_reducible refine gate_dst (N := 4) rfl ?_); refine bx 4 rfl rfl #[.int .i64 0, .slice none 0 0, .slice none 0 0, .slice none 0 0, .int .i64 0, .int .i64 0, .int .i64 0, .slice none 0 0, .slice none 0 0, .int .i64 0, .int .i64 0, .bool false] 64 ?_; intro gb246 hg w6 hbox hb; have BK246 := Aside0.mk (hbox); have GE246 := ge HB hg; have NB245_246 := Aside0.mk ((by rw [hg]; exact Nat.ne_of_lt (blk_lt (kk BK245)) : gb245 ≠ gb246)); have NB246_245 := Aside0.mk ((by rw [hg]; exact Nat.ne_of_gt (blk_lt (kk BK245)) : gb246 ≠ gb245)); replace BK245 := kb BK245 hb; replace HB := sb HB hb; clear hb hbox hg))
 replace BK245 := Aside0.mk (kdr BK245.out)
 replace BK246 := Aside0.mk (kdr BK246.out)
 replace HB := Aside0.mk (bd1 HB.out)
 refine start_ (n := 8) (S := fun w' => w'.cell? ⟨gb245, 0, none⟩ = some (.slice A1_0 l1_0.length c1_0) ∧ w'.cell? ⟨gb245, 1, none⟩ = some (.slice A1_1 l1_1.length c1_1)) (ds := []) #[false, false, false, false, false, false, false, false] (by kernel_rfl) rfl rfl ⟨(blk_cell BK245.out 0).trans rfl, (blk_cell BK245.out 1).trans rfl⟩ (fun hHeld => ?_); refine with_tabW r9_Begin.tab1 r9_Begin.bits1 (fun HT_ HW_ => ?_)
 generalize w6.drew = w7 at BK245 BK246 HB hHeld ⊢
 refine pT 0 5 (bl 8 1) HT_ rfl rfl ?_
 refine pT 5 10 (bl 8 33) HT_ rfl rfl ?_
 refine tk (i := 1) (N := some 6) (bl 8 35) rfl rfl (take_ofW HT_.out HW_.out (by kernel_rfl)) hHeld ?_
 refine join_ (σ := Value × Value) 2 #[true, true, true, true, true, true, false, false] (fun s_ => [(7, s_.1), (9, s_.2), (8, .agg #[.int .i64 0, s_.1, .slice none 0 0, .slice none 0 0, .int .i64 0, .int .i64 0, .int .i64 0])]) (fun s_ w' => (w'.cell? ⟨gb245, 0, none⟩ = some (.slice A1_0 l1_0.length c1_0) ∧ w'.cell? ⟨gb245, 1, none⟩ = some (.slice A1_1 l1_1.length c1_1)) ∧ (Kd.R (Kd.int .i64) 3 w' w.heap.size (fun k_ => some k_ ≠ (s_.2 : Value).ownBlock) s_.1 t247) ∧ (Kd.R (Kd.int .i64) 3 w' w.heap.size (fun k_ => some k_ ≠ (s_.1 : Value).ownBlock) s_.2 y250) ∧ (w'.heap[gb245]? = some (.cells #[.slice A1_0 l1_0.length c1_0, .slice A1_1 l1_1.length c1_1] 67 (0, 0))) ∧ (w'.heap[gb246]? = some (.cells #[.int .i64 0, .slice none 0 0, .slice none 0 0, .slice none 0 0, .int .i64 0, .int .i64 0, .int .i64 0, .slice none 0 0, .slice none 0 0, .int .i64 0, .int .i64 0, .bool false] 64 (0, 0))) ∧ (Below w.heap.size w w')) ?_ ?_
 rotate_left
 ·intro hCont
  refine two_ (i := 2) (j := 4) (Ni := some 7) (Nj := some 9) #[true, true, true, false, false, true, false, false] #[true, true, false, false, true, true, false, false] rfl rfl rfl rfl (two_of HT_.out (by kernel_rfl)) (by decide) (by decide) (fun K hK => ?_) (fun K hK => ?_)
  ·skip
   refine gO Try.func9 #[.slice A1_0 l1_0.length c1_0] (by rfl) rfl rfl ?_
   with_reducible refine (r1_Copy.calls k _ _ l1_0 t247 _ ?side1 ?side2 A3.out).mono ?_
   (case side1 => exact cb HR1_0 HB)
   (case side2 => exact HC1_0.out)
   rintro e w8 ⟨v248, rfl, ho0, hb⟩
   refine ⟨_, rfl, ?_⟩
   have HO249 := Aside0.mk (Kd.R_lower ho0 (bsz (bb HB)))
   replace BK245 := kb BK245 hb
   replace BK246 := kb BK246 hb
   replace HB := sb HB hb
   (try clear hb)
   (try clear hb2)
   (try clear hk)
   (try clear hi)
   (try clear ho0)
   obtain ⟨Ao9, co9, eo9⟩ := Kd.R_slice HO249.out
   (first | subst eo9 | (injection eo9 with f1_ f2_ f3_; have f4_ := f1_.symm; have f5_ := f3_.symm; clear f1_ f2_ f3_; subst f4_; subst f5_))
   refine hK.out _ _ ⟨(blk_cell BK245.out 0).trans rfl, (blk_cell BK245.out 1).trans rfl⟩ (fun hHeld => ?_)
   clear hK K
   refine nm 7 ?_
   refine pT 3 8 (bl 8 47) HT_ rfl rfl ?_
   refine one_ (i := 4) (N := some 9) (bl 8 63) rfl rfl (one_of HT_.out (by kernel_rfl)) (by decide) (fun K hK => ?_)
   refine Kd.R_make_step (Kd.int .i64) _ 3 (by rfl) (N := 9) rfl 35 _ _ rfl 64 rfl rfl Try.underlying35 (.int .i64 0) 8 info3 rfl (by decide) (by omega) 0 (ok := fun _ => True) (okp := fun _ => True) rfl (fun _ hk => hk) trivial (by omega) (by omega) (Below.refl _ _) (Nat.le_refl _) ?_
   intro v251 w10 ho11 hb hg_ hnew_
   clear hg_ hnew_
   (first | rw [← Ny250.out] at ho11 | (simp only [Int.reduceToNat] at ho11; rw [← Ny250.out] at ho11))
   have HO252 := Aside0.mk (Kd.R_lower (Kd.R_new' ho11 (Kd.R_lt (iR HO249))) (bsz (bb HB)))
   replace HO249 := Aside0.mk (Kd.R_elder' (iR HO249) (Kd.R_base ho11) hb)
   replace BK245 := kb BK245 hb
   replace BK246 := kb BK246 hb
   replace HB := sb HB hb
   clear hb ho11
   obtain ⟨Ao12, co12, eo12⟩ := Kd.R_slice HO252.out
   (first | subst eo12 | (injection eo12 with f1_ f2_ f3_; have f4_ := f1_.symm; have f5_ := f3_.symm; clear f1_ f2_ f3_; subst f4_; subst f5_))
   refine hK.out _ _ ⟨(blk_cell BK245.out 0).trans rfl, (blk_cell BK245.out 1).trans rfl⟩ (fun hHeld => ?_)
   clear hK K
   refine nm 9 ?_
   exact norm_ (by simp only [putAll, Act.put, List.setIfInBounds_toArray, List.set_cons_zero, List.set_cons_succ]) (hCont (.slice Ao9 t247.length co9, .slice Ao12 y250.length co12) _ ⟨hHeld, (by (with_reducible repeat (first | apply Kd.R_alloc | apply Kd.R_drewN | apply Kd.R_drew)); exact Kd.R_mono HO249.out (fun _ hk => hk.2)), (by (with_reducible repeat (first | apply Kd.R_alloc | apply Kd.R_drewN | apply Kd.R_drew)); exact Kd.R_mono HO252.out (fun _ hk => hk.2)), (kk BK245), (kk BK246), (bb HB)⟩)
  ·skip
   refine Kd.R_make_step (Kd.int .i64) _ 3 (by rfl) (N := 9) rfl 35 _ _ rfl 64 rfl rfl Try.underlying35 (.int .i64 0) 8 info3 rfl (by decide) (by omega) 0 (ok := fun _ => True) (okp := fun _ => True) rfl (fun _ hk => hk) trivial (by omega) (by omega) (Below.refl _ _) (Nat.le_refl _) ?_
   intro v251 w8 ho9 hb hg_ hnew_
   clear hg_ hnew_
   (first | rw [← Ny250.out] at ho9 | (simp only [Int.reduceToNat] at ho9; rw [← Ny250.out] at ho9))
   have HO252 := Aside0.mk (Kd.R_lower ho9 (bsz (bb HB)))
   replace BK245 := kb BK245 hb
   replace BK246 := kb BK246 hb
   replace HB := sb HB hb
   clear hb ho9
   refine hK.out _ _ ⟨(blk_cell BK245.out 0).trans rfl, (blk_cell BK245.out 1).trans rfl⟩ (fun hHeld => ?_)
   clear hK K
   refine nm 9 ?_
   refine one_ (i := 2) (N := some 7) (bl 8 55) rfl rfl (one_of HT_.out (by kernel_rfl)) (by decide) (fun K hK => ?_)
   refine gO Try.func9 #[.slice A1_0 l1_0.length c1_0] (by rfl) rfl rfl ?_
   with_reducible refine (r1_Copy.calls k _ _ l1_0 t247 _ ?side1 ?side2 A3.out).mono ?_
   (case side1 => exact cb HR1_0 HB)
   (case side2 => exact HC1_0.out)
   rintro e w10 ⟨v248, rfl, ho0, hb⟩
   refine ⟨_, rfl, ?_⟩
   have HO249 := Aside0.mk (Kd.R_lower (Kd.R_new' ho0 (Kd.R_lt (iR HO252))) (bsz (bb HB)))
   replace HO252 := Aside0.mk (Kd.R_elder' (iR HO252) (Kd.R_base ho0) hb)
   replace BK245 := kb BK245 hb
   replace BK246 := kb BK246 hb
   replace HB := sb HB hb
   (try clear hb)
   (try clear hb2)
   (try clear hk)
   (try clear hi)
   (try clear ho0)
   obtain ⟨Ao11, co11, eo11⟩ := Kd.R_slice HO249.out
   (first | subst eo11 | (injection eo11 with f1_ f2_ f3_; have f4_ := f1_.symm; have f5_ := f3_.symm; clear f1_ f2_ f3_; subst f4_; subst f5_))
   obtain ⟨Ao12, co12, eo12⟩ := Kd.R_slice HO252.out
   (first | subst eo12 | (injection eo12 with f1_ f2_ f3_; have f4_ := f1_.symm; have f5_ := f3_.symm; clear f1_ f2_ f3_; subst f4_; subst f5_))
   refine hK.out _ _ ⟨(blk_cell BK245.out 0).trans rfl, (blk_cell BK245.out 1).trans rfl⟩ (fun hHeld => ?_)
   clear hK K
   refine nm 7 ?_
   refine pT 3 8 (bl 8 63) HT_ rfl rfl ?_
   exact norm_ (by simp only [putAll, Act.put, List.setIfInBounds_toArray, List.set_cons_zero, List.set_cons_succ]) (hCont (.slice Ao11 t247.length co11, .slice Ao12 y250.length co12) _ ⟨hHeld, (by (with_reducible repeat (first | apply Kd.R_alloc | apply Kd.R_drewN | apply Kd.R_drew)); exact Kd.R_mono HO249.out (fun _ hk => hk.2)), (by (with_reducible repeat (first | apply Kd.R_alloc | apply Kd.R_drewN | apply Kd.R_drew)); exact Kd.R_mono HO252.out (fun _ hk => hk.2)), (kk BK245), (kk BK246), (bb HB)⟩)
 rintro ⟨v248, v251⟩ w13 ⟨hS_, h0_, h1_, h2_, h3_, h4_⟩
 have n0_ : Aside0 (Kd.R (Kd.int .i64) 3 w13 w.heap.size (fun k_ => some k_ ≠ (v251 : Value).ownBlock) v248 t247) := ⟨h0_⟩
 have n1_ : Aside0 (Kd.R (Kd.int .i64) 3 w13 w.heap.size (fun k_ => some k_ ≠ (v248 : Value).ownBlock) v251 y250) := ⟨h1_⟩
 have n2_ : Aside0 (w13.heap[gb245]? = some (.cells #[.slice A1_0 l1_0.length c1_0, .slice A1_1 l1_1.length c1_1] 67 (0, 0))) := ⟨h2_⟩
 have n3_ : Aside0 (w13.heap[gb246]? = some (.cells #[.int .i64 0, .slice none 0 0, .slice none 0 0, .slice none 0 0, .int .i64 0, .int .i64 0, .int .i64 0, .slice none 0 0, .slice none 0 0, .int .i64 0, .int .i64 0, .bool false] 64 (0, 0))) := ⟨h3_⟩
 have n4_ : Aside0 (Below w.heap.size w w13) := ⟨h4_⟩
 clear BK245
 clear BK246
 clear HB
 clear h0_ h1_ h2_ h3_ h4_
 have HO249 := n0_
 have HO252 := n1_
 have BK245 := n2_
 have BK246 := n3_
 have HB := n4_
 clear n0_ n1_ n2_ n3_ n4_
 have hHeld : w13.cell? ⟨gb245, 0, none⟩ = some (.slice A1_0 l1_0.length c1_0) ∧ w13.cell? ⟨gb245, 1, none⟩ = some (.slice A1_1 l1_1.length c1_1) := hS_
 obtain ⟨Ao14, co14, eo14⟩ := Kd.R_slice HO249.out
 (first | subst eo14 | (injection eo14 with f1_ f2_ f3_; have f4_ := f1_.symm; have f5_ := f3_.symm; clear f1_ f2_ f3_; subst f4_; subst f5_))
 obtain ⟨Ao15, co15, eo15⟩ := Kd.R_slice HO252.out
 (first | subst eo15 | (injection eo15 with f1_ f2_ f3_; have f4_ := f1_.symm; have f5_ := f3_.symm; clear f1_ f2_ f3_; subst f4_; subst f5_))
 refine norm_ (a' := ?_) ?_ ?_
 rotate_left
 ·simp only [putAll, Act.put, List.setIfInBounds_toArray, List.set_cons_zero, List.set_cons_succ]
  rfl
 refine pT 6 11 (bl 8 127) HT_ rfl rfl ?_
 refine one_ (i := 7) (N := none) (bl 8 255) rfl rfl (one_of HT_.out (by kernel_rfl)) (by decide) (fun K hK => ?_)
 have hs16 : w13.cell? ⟨gb246, 0, none⟩ = some (.int .i64 0) := (blk_cell BK246.out 0).trans rfl
 have hfs16 := blk_frozen BK246.out 0
 have hns16_0 := NB245_246.out
 have hms16_0 := NB246_245.out
 have hs17 : w13.cell? ⟨gb246, 1, none⟩ = some (.slice none 0 0) := (blk_cell BK246.out 1).trans rfl
 have hfs17 := blk_frozen BK246.out 1
 have hns17_0 := NB245_246.out
 have hms17_0 := NB246_245.out
 have hs18 : w13.cell? ⟨gb246, 2, none⟩ = some (.slice none 0 0) := (blk_cell BK246.out 2).trans rfl
 have hfs18 := blk_frozen BK246.out 2
 have hns18_0 := NB245_246.out
 have hms18_0 := NB246_245.out
 have hs19 : w13.cell? ⟨gb246, 3, none⟩ = some (.slice none 0 0) := (blk_cell BK246.out 3).trans rfl
 have hfs19 := blk_frozen BK246.out 3
 have hns19_0 := NB245_246.out
 have hms19_0 := NB246_245.out
 have hs20 : w13.cell? ⟨gb246, 4, none⟩ = some (.int .i64 0) := (blk_cell BK246.out 4).trans rfl
 have hfs20 := blk_frozen BK246.out 4
 have hns20_0 := NB245_246.out
 have hms20_0 := NB246_245.out
 have hs21 : w13.cell? ⟨gb246, 5, none⟩ = some (.int .i64 0) := (blk_cell BK246.out 5).trans rfl
 have hfs21 := blk_frozen BK246.out 5
 have hns21_0 := NB245_246.out
 have hms21_0 := NB246_245.out
 have hs22 : w13.cell? ⟨gb246, 6, none⟩ = some (.int .i64 0) := (blk_cell BK246.out 6).trans rfl
 have hfs22 := blk_frozen BK246.out 6
 have hns22_0 := NB245_246.out
 have hms22_0 := NB246_245.out
 have hs23 : w13.cell? ⟨gb246, 7, none⟩ = some (.slice none 0 0) := (blk_cell BK246.out 7).trans rfl
 have hfs23 := blk_frozen BK246.out 7
 have hns23_0 := NB245_246.out
 have hms23_0 := NB246_245.out
 have hs24 : w13.cell? ⟨gb246, 8, none⟩ = some (.slice none 0 0) := (blk_cell BK246.out 8).trans rfl
 have hfs24 := blk_frozen BK246.out 8
 have hns24_0 := NB245_246.out
 have hms24_0 := NB246_245.out
 have hs25 : w13.cell? ⟨gb246, 9, none⟩ = some (.int .i64 0) := (blk_cell BK246.out 9).trans rfl
 have hfs25 := blk_frozen BK246.out 9
 have hns25_0 := NB245_246.out
 have hms25_0 := NB246_245.out
 have hs26 : w13.cell? ⟨gb246, 10, none⟩ = some (.int .i64 0) := (blk_cell BK246.out 10).trans rfl
 have hfs26 := blk_frozen BK246.out 10
 have hns26_0 := NB245_246.out
 have hms26_0 := NB246_245.out
 have hs27 : w13.cell? ⟨gb246, 11, none⟩ = some (.bool false) := (blk_cell BK246.out 11).trans rfl
 have hfs27 := blk_frozen BK246.out 11
 have hns27_0 := NB245_246.out
 have hms27_0 := NB246_245.out
 refine skip_ (w1 := ?_) (by rfl) rfl ?_ ?_
 rotate_left
 ·go_simp
  rfl
 refine hK.out _ _ ⟨((cell_far (p := ⟨gb246, _, none⟩) NB245_246.out _).trans (((cell_far (p := ⟨gb246, _, none⟩) NB245_246.out _).trans (((cell_far (p := ⟨gb246, _, none⟩) NB245_246.out _).trans (((cell_far (p := ⟨gb246, _, none⟩) NB245_246.out _).trans (((cell_far (p := ⟨gb246, _, none⟩) NB245_246.out _).trans (((cell_far (p := ⟨gb246, _, none⟩) NB245_246.out _).trans (((cell_far (p := ⟨gb246, _, none⟩) NB245_246.out _).trans (((cell_far (p := ⟨gb246, _, none⟩) NB245_246.out _).trans (((cell_far (p := ⟨gb246, _, none⟩) NB245_246.out _).trans (((cell_far (p := ⟨gb246, _, none⟩) NB245_246.out _).trans (((cell_far (p := ⟨gb246, _, none⟩) NB245_246.out _).trans (((cell_far (p := ⟨gb246, _, none⟩) NB245_246.out _).trans (hHeld.1)))))))))))))))))))))))), ((cell_far (p := ⟨gb246, _, none⟩) NB245_246.out _).trans (((cell_far (p := ⟨gb246, _, none⟩) NB245_246.out _).trans (((cell_far (p := ⟨gb246, _, none⟩) NB245_246.out _).trans (((cell_far (p := ⟨gb246, _, none⟩) NB245_246.out _).trans (((cell_far (p := ⟨gb246, _, none⟩) NB245_246.out _).trans (((cell_far (p := ⟨gb246, _, none⟩) NB245_246.out _).trans (((cell_far (p := ⟨gb246, _, none⟩) NB245_246.out _).trans (((cell_far (p := ⟨gb246, _, none⟩) NB245_246.out _).trans (((cell_far (p := ⟨gb246, _, none⟩) NB245_246.out _).trans (((cell_far (p := ⟨gb246, _, none⟩) NB245_246.out _).trans (((cell_far (p := ⟨gb246, _, none⟩) NB245_246.out _).trans (((cell_far (p := ⟨gb246, _, none⟩) NB245_246.out _).trans (hHeld.2))))))))))))))))))))))))⟩ (fun hHeld => ?_)
 clear hK K
 refine done_ (done_of HT_.out (by kernel_rfl)) ?_
 try go_wp2
 refine bodyPost_ret (results_cell_row rfl _ _ gb246 64 #[.int .i64 0, .slice Ao14 t247.length co14, .slice none 0 0, .slice none 0 0, .int .i64 0, .int .i64 0, .int .i64 0, .slice Ao15 y250.length co15, .slice none 0 0, .int .i64 0, .int .i64 a0, .bool false] (0, 0) _ rfl (by (with_reducible repeat (first | refine kdN ?_ _ | refine kdr ?_ | refine kal ?_ _)); refine blk_put (cs := #[.int .i64 0, .slice Ao14 t247.length co14, .slice none 0 0, .slice none 0 0, .int .i64 0, .int .i64 0, .int .i64 0, .slice Ao15 y250.length co15, .slice none 0 0, .int .i64 0, .int .i64 a0, .bool false]) ?_ 11 _ rfl; (with_reducible repeat (first | refine kdN ?_ _ | refine kdr ?_ | refine kal ?_ _)); refine blk_put (cs := #[.int .i64 0, .slice Ao14 t247.length co14, .slice none 0 0, .slice none 0 0, .int .i64 0, .int .i64 0, .int .i64 0, .slice Ao15 y250.length co15, .slice none 0 0, .int .i64 0, .int .i64 0, .bool false]) ?_ 10 _ rfl; (with_reducible repeat (first | refine kdN ?_ _ | refine kdr ?_ | refine kal ?_ _)); refine blk_put (cs := #[.int .i64 0, .slice Ao14 t247.length co14, .slice none 0 0, .slice none 0 0, .int .i64 0, .int .i64 0, .int .i64 0, .slice Ao15 y250.length co15, .slice none 0 0, .int .i64 0, .int .i64 0, .bool false]) ?_ 9 _ rfl; (with_reducible repeat (first | refine kdN ?_ _ | refine kdr ?_ | refine kal ?_ _)); refine blk_put (cs := #[.int .i64 0, .slice Ao14 t247.length co14, .slice none 0 0, .slice none 0 0, .int .i64 0, .int .i64 0, .int .i64 0, .slice Ao15 y250.length co15, .slice none 0 0, .int .i64 0, .int .i64 0, .bool false]) ?_ 8 _ rfl; (with_reducible repeat (first | refine kdN ?_ _ | refine kdr ?_ | refine kal ?_ _)); refine blk_put (cs := #[.int .i64 0, .slice Ao14 t247.length co14, .slice none 0 0, .slice none 0 0, .int .i64 0, .int .i64 0, .int .i64 0, .slice none 0 0, .slice none 0 0, .int .i64 0, .int .i64 0, .bool false]) ?_ 7 _ rfl; (with_reducible repeat (first | refine kdN ?_ _ | refine kdr ?_ | refine kal ?_ _)); refine blk_put (cs := #[.int .i64 0, .slice Ao14 t247.length co14, .slice none 0 0, .slice none 0 0, .int .i64 0, .int .i64 0, .int .i64 0, .slice none 0 0, .slice none 0 0, .int .i64 0, .int .i64 0, .bool false]) ?_ 6 _ rfl; (with_reducible repeat (first | refine kdN ?_ _ | refine kdr ?_ | refine kal ?_ _)); refine blk_put (cs := #[.int .i64 0, .slice Ao14 t247.length co14, .slice none 0 0, .slice none 0 0, .int .i64 0, .int .i64 0, .int .i64 0, .slice none 0 0, .slice none 0 0, .int .i64 0, .int .i64 0, .bool false]) ?_ 5 _ rfl; (with_reducible repeat (first | refine kdN ?_ _ | refine kdr ?_ | refine kal ?_ _)); refine blk_put (cs := #[.int .i64 0, .slice Ao14 t247.length co14, .slice none 0 0, .slice none 0 0, .int .i64 0, .int .i64 0, .int .i64 0, .slice none 0 0, .slice none 0 0, .int .i64 0, .int .i64 0, .bool false]) ?_ 4 _ rfl; (with_reducible repeat (first | refine kdN ?_ _ | refine kdr ?_ | refine kal ?_ _)); refine blk_put (cs := #[.int .i64 0, .slice Ao14 t247.length co14, .slice none 0 0, .slice none 0 0, .int .i64 0, .int .i64 0, .int .i64 0, .slice none 0 0, .slice none 0 0, .int .i64 0, .int .i64 0, .bool false]) ?_ 3 _ rfl; (with_reducible repeat (first | refine kdN ?_ _ | refine kdr ?_ | refine kal ?_ _)); refine blk_put (cs := #[.int .i64 0, .slice Ao14 t247.length co14, .slice none 0 0, .slice none 0 0, .int .i64 0, .int .i64 0, .int .i64 0, .slice none 0 0, .slice none 0 0, .int .i64 0, .int .i64 0, .bool false]) ?_ 2 _ rfl; (with_reducible repeat (first | refine kdN ?_ _ | refine kdr ?_ | refine kal ?_ _)); refine blk_put (cs := #[.int .i64 0, .slice none 0 0, .slice none 0 0, .slice none 0 0, .int .i64 0, .int .i64 0, .int .i64 0, .slice none 0 0, .slice none 0 0, .int .i64 0, .int .i64 0, .bool false]) ?_ 1 _ rfl; (with_reducible repeat (first | refine kdN ?_ _ | refine kdr ?_ | refine kal ?_ _)); refine blk_put (cs := #[.int .i64 0, .slice none 0 0, .slice none 0 0, .slice none 0 0, .int .i64 0, .int .i64 0, .int .i64 0, .slice none 0 0, .slice none 0 0, .int .i64 0, .int .i64 0, .bool false]) ?_ 0 _ rfl; (with_reducible repeat (first | refine kdN ?_ _ | refine kdr ?_ | refine kal ?_ _)); exact BK246.out) Try.underlying64 rfl (by kernel_rfl)) rfl ?_
 exact ⟨_, _, _, _, _, rr, by (with_reducible repeat (first | apply Kd.R_alloc | apply Kd.R_drewN | apply Kd.R_drew)); exact Kd.R_mono (Kd.R_far (p := ⟨gb246, 11, none⟩) (Kd.R_far (p := ⟨gb246, 10, none⟩) (Kd.R_far (p := ⟨gb246, 9, none⟩) (Kd.R_far (p := ⟨gb246, 8, none⟩) (Kd.R_far (p := ⟨gb246, 7, none⟩) (Kd.R_far (p := ⟨gb246, 6, none⟩) (Kd.R_far (p := ⟨gb246, 5, none⟩) (Kd.R_far (p := ⟨gb246, 4, none⟩) (Kd.R_far (p := ⟨gb246, 3, none⟩) (Kd.R_far (p := ⟨gb246, 2, none⟩) (Kd.R_far (p := ⟨gb246, 1, none⟩) (Kd.R_far (p := ⟨gb246, 0, none⟩) (Kd.R_types HO249.out BK246.out (by decide)) (fun _ hk => hk.2) (.int .i64 0)) (fun _ hk => hk.2) (.slice Ao14 t247.length co14)) (fun _ hk => hk.2) (.slice none 0 0)) (fun _ hk => hk.2) (.slice none 0 0)) (fun _ hk => hk.2) (.int .i64 0)) (fun _ hk => hk.2) (.int .i64 0)) (fun _ hk => hk.2) (.int .i64 0)) (fun _ hk => hk.2) (.slice Ao15 y250.length co15)) (fun _ hk => hk.2) (.slice none 0 0)) (fun _ hk => hk.2) (.int .i64 0)) (fun _ hk => hk.2) (.int .i64 a0)) (fun _ hk => hk.2) (.bool false)) (fun _ hk => ⟨hk.1, (by simp [Value.ownBlock])⟩), by first | exact Kd.R_nil _ _ _ _ _ | exact Kd.N_nil _ _ _ _ _ | exact Kd.V_nil _ _ _ _ _ | exact Kd.Q_nil _ _ _ _ _ | exact Kd.S_nil _ _ _ _ _, by first | exact Kd.R_nil _ _ _ _ _ | exact Kd.N_nil _ _ _ _ _ | exact Kd.V_nil _ _ _ _ _ | exact Kd.Q_nil _ _ _ _ _ | exact Kd.S_nil _ _ _ _ _, by (with_reducible repeat (first | apply Kd.R_alloc | apply Kd.R_drewN | apply Kd.R_drew)); exact Kd.R_mono (Kd.R_far (p := ⟨gb246, 11, none⟩) (Kd.R_far (p := ⟨gb246, 10, none⟩) (Kd.R_far (p := ⟨gb246, 9, none⟩) (Kd.R_far (p := ⟨gb246, 8, none⟩) (Kd.R_far (p := ⟨gb246, 7, none⟩) (Kd.R_far (p := ⟨gb246, 6, none⟩) (Kd.R_far (p := ⟨gb246, 5, none⟩) (Kd.R_far (p := ⟨gb246, 4, none⟩) (Kd.R_far (p := ⟨gb246, 3, none⟩) (Kd.R_far (p := ⟨gb246, 2, none⟩) (Kd.R_far (p := ⟨gb246, 1, none⟩) (Kd.R_far (p := ⟨gb246, 0, none⟩) (Kd.R_types HO252.out BK246.out (by decide)) (fun _ hk => hk.2) (.int .i64 0)) (fun _ hk => hk.2) (.slice Ao14 t247.length co14)) (fun _ hk => hk.2) (.slice none 0 0)) (fun _ hk => hk.2) (.slice none 0 0)) (fun _ hk => hk.2) (.int .i64 0)) (fun _ hk => hk.2) (.int .i64 0)) (fun _ hk => hk.2) (.int .i64 0)) (fun _ hk => hk.2) (.slice Ao15 y250.length co15)) (fun _ hk => hk.2) (.slice none 0 0)) (fun _ hk => hk.2) (.int .i64 0)) (fun _ hk => hk.2) (.int .i64 a0)) (fun _ hk => hk.2) (.bool false)) (fun _ hk => ⟨hk.1, (by simp [Value.ownBlock])⟩), by first | exact Kd.R_nil _ _ _ _ _ | exact Kd.N_nil _ _ _ _ _ | exact Kd.V_nil _ _ _ _ _ | exact Kd.Q_nil _ _ _ _ _ | exact Kd.S_nil _ _ _ _ _, bb HB⟩
end Go.Proofs.Ytnlekgadadifdaa.Print
namespace Go.Proofs.Ytnlekgadadifdaa.Print
open Go.RowKit Go.Proofs.YtnlekgadadifdaaW.PrintWords Go.Proofs.YtnlekgadadifdaaW.PrintLast Go.Proofs.YtnlekgadadifdaaW.PrintMore
attribute [local go_sem] max2_int min2_int max_two min_two max_three min_three max_four min_four
set_option linter.unusedVariables false
set_option linter.unusedSimpArgs false
open Go.RowKit
theorem infoIntV : (Try.prog.info? 3).map (fun i => (i.zero, i.size, i.bytes)) = some (some (.int .i64 0), 1, 8) := by kernel_rfl
def vBegin (fuel : Int) (st : List Int) : VC := ⟨0, st, [], [], 0, 0, 0, List.replicate 64 0, [], 0, fuel, false⟩
def vTick (c : VC) : VC := { c with fu := c.fu - 1, co := c.co + 1, tl := c.tl ++ [c.pc] }
def vLoop (k : Nat) (wd : Int) (l1 : List S42) (picks : List Int) (ins : List S40) : Nat → VC → Option VC
  | 0, _ => none
  | n + 1, c => if c.ov = true then some c else if c.fu = 0 then some (vStop 3 c) else (vDo k wd l1 picks (vTick c) (rd_T40 ins c.pc)).bind (vLoop k wd l1 picks ins n)
def vAll (k : Nat) (wd : Int) (l1 : List S42) (picks : List Int) (ins : List S40) : Nat → VC → Prop
  | 0, _ => True
  | n + 1, c => c.ov = false → c.fu ≠ 0 → (0 ≤ c.pc ∧ c.pc < ins.length ∧ 0 < c.fu ∧ c.fu < 1000000000 ∧ 0 ≤ c.co ∧ c.co < 1000000000 ∧ c.tl.length < 1000000000 ∧ vFit k l1 (vTick c) (rd_T40 ins c.pc)) ∧ ∀ c', vDo k wd l1 picks (vTick c) (rd_T40 ins c.pc) = some c' → vAll k wd l1 picks ins n c'
theorem VR.lower {W : World} {B B' : Nat} {Q : Nat → Prop} {cs : Array Value} {c : VC} (h : VR W B Q cs c) (hb : B' ≤ B) : VR W B' Q cs c := by
  obtain ⟨A1, n1, A2, n2, A3, n3, A7, n7, A8, n8, e, h1, h2, h3, h7, h8, a⟩ := h
  exact ⟨A1, n1, A2, n2, A3, n3, A7, n7, A8, n8, e, Kd.R_lower h1 hb, Kd.R_lower h2 hb, Kd.R_lower h3 hb, Kd.R_lower h7 hb, Kd.R_lower h8 hb, a⟩
theorem VR.base {W : World} {B : Nat} {Q : Nat → Prop} {cs : Array Value} {c : VC} (h : VR W B Q cs c) : VR W B (fun k => B ≤ k ∧ k < W.heap.size) cs c := by
  obtain ⟨A1, n1, A2, n2, A3, n3, A7, n7, A8, n8, e, h1, h2, h3, h7, h8, a⟩ := h
  exact ⟨A1, n1, A2, n2, A3, n3, A7, n7, A8, n8, e, Kd.R_mono (Kd.R_bound h1) (fun k hk => ⟨hk.2.1, hk.2.2.1⟩), Kd.R_mono (Kd.R_bound h2) (fun k hk => ⟨hk.2.1, hk.2.2.1⟩), Kd.R_mono (Kd.R_bound h3) (fun k hk => ⟨hk.2.1, hk.2.2.1⟩), Kd.R_mono (Kd.R_bound h7) (fun k hk => ⟨hk.2.1, hk.2.2.1⟩), Kd.R_mono (Kd.R_bound h8) (fun k hk => ⟨hk.2.1, hk.2.2.1⟩), a⟩
theorem vm_begin.calls (k : Nat) (fuel : Int) (As : Option Addr) (ns : Nat) (st : List Int) (Ap_ : Option Addr) (np : Nat) (picks : List Int) (st' : List Int) (w : World) (hs : Kd.C (Kd.int .i64) w As st.length st) (hsn : st.length ≤ ns) (hp : Kd.C (Kd.int .i64) w Ap_ picks.length picks) (hpn : picks.length ≤ np) (h : r1_Copy.f k st = some st') :
    Calls Try.prog 33 #[.int .i64 fuel, .agg #[.slice As st.length ns, .slice Ap_ picks.length np]] w fun e w' => ∃ cs, e = .returned (.agg cs) ∧ VR w' w.heap.size (fun _ => True) cs (vBegin fuel st') ∧ Below w.heap.size w w' := by
  refine (r9_Begin.calls k fuel As ns st Ap_ np picks 0 st' [] [] 0 0 0 (List.replicate 64 0) [] 0 fuel false w hs hsn hp hpn (by unfold r9_Begin.f; rw [h]; rfl)).mono ?_
  rintro e w' ⟨v1, v2, v3, v7, v8, rfl, h1, h2, h3, h7, h8, hb⟩
  obtain ⟨A1, n1, rfl⟩ := Kd.R_slice h1
  obtain ⟨A2, n2, rfl⟩ := Kd.R_slice h2
  obtain ⟨A3, n3, rfl⟩ := Kd.R_slice h3
  obtain ⟨A7, n7, rfl⟩ := Kd.R_slice h7
  obtain ⟨A8, n8, rfl⟩ := Kd.R_slice h8
  exact ⟨_, rfl, ⟨A1, n1, A2, n2, A3, n3, A7, n7, A8, n8, rfl, Kd.R_mono h1 (fun _ _ => trivial), h2, h3, Kd.R_mono h7 (fun _ _ => trivial), Kd.R_mono h8 (fun _ _ => trivial), fun k hk e => (h1.1 k hk).1 e.symm, fun k hk e => (h1.1 k hk).2 e.symm, fun k hk e => (h7.1 k hk).2 e.symm⟩, hb⟩
theorem vm_run.calls (k n : Nat) (w : World) (wd : Int) (Av : Option Addr) (cv : Nat) (l1 : List S42) (Ai : Option Addr) (ci : Nat) (ins : List S40) (fuel : Int) (As : Option Addr) (ns : Nat) (st : List Int) (Ap_ : Option Addr) (np : Nat) (picks : List Int) (st' : List Int) (c' : VC) (hr1 : Kd.C k42 w Av l1.length l1) (hc1 : l1.length ≤ cv) (hr2 : Kd.C k40 w Ai ins.length ins) (hc2 : ins.length ≤ ci)
    (hs : Kd.C (Kd.int .i64) w As st.length st) (hsn : st.length ≤ ns) (hp : Kd.C (Kd.int .i64) w Ap_ picks.length picks) (hpn : picks.length ≤ np) (h : r1_Copy.f k st = some st') (hL : vLoop k wd l1 picks ins n (vBegin fuel st') = some c') (hA : vAll k wd l1 picks ins n (vBegin fuel st')) :
    Calls Try.prog 21 #[.agg #[.int .i64 wd, .slice Av l1.length cv, .slice Ai ins.length ci], .int .i64 fuel, .agg #[.slice As st.length ns, .slice Ap_ picks.length np]] w fun e w' => ∃ cs, e = .returned (.agg cs) ∧ VR w' w.heap.size (fun _ => True) cs c' ∧ Below w.heap.size w w' := by
  have huV := Try.underlying64
  have huR := Try.underlying62
  have huC := Try.underlying31
  have huS := Try.underlying67
  have huI := Try.underlying35
  have huX := Try.underlying29
  have huY := Try.underlying40
  have HR1 := Aside0.mk hr1
  have HC1 := Aside0.mk hc1
  have HR2 := Aside0.mk hr2
  have HC2 := Aside0.mk hc2
  have HS := Aside0.mk hs
  have HSN := Aside0.mk hsn
  have HP := Aside0.mk hp
  have HPN := Aside0.mk hpn
  have HCP := Aside0.mk h
  have HL := Aside0.mk hL
  have HAL := Aside0.mk hA
  have hil := hr2.2.1
  have BA := Aside0.mk (bal (bal (bal (Below.refl w.heap.size w) (.cells #[.int .i64 wd, .slice Av l1.length cv, .slice Ai ins.length ci] 31)) (.cells #[.slice As st.length ns, .slice Ap_ picks.length np] 67)) (.cells #[.int .i64 0, .slice none 0 0, .slice none 0 0, .slice none 0 0, .int .i64 0, .int .i64 0, .int .i64 0, .slice none 0 0, .slice none 0 0, .int .i64 0, .int .i64 0, .bool false] 64))
  have x0 := kal (kal (blk_new w (.cells #[.int .i64 wd, .slice Av l1.length cv, .slice Ai ins.length ci] 31)) (.cells #[.slice As st.length ns, .slice Ap_ picks.length np] 67)) (.cells #[.int .i64 0, .slice none 0 0, .slice none 0 0, .slice none 0 0, .int .i64 0, .int .i64 0, .int .i64 0, .slice none 0 0, .slice none 0 0, .int .i64 0, .int .i64 0, .bool false] 64)
  have x1 := kal (blk_new (w.alloc (.cells #[.int .i64 wd, .slice Av l1.length cv, .slice Ai ins.length ci] 31)) (.cells #[.slice As st.length ns, .slice Ap_ picks.length np] 67)) (.cells #[.int .i64 0, .slice none 0 0, .slice none 0 0, .slice none 0 0, .int .i64 0, .int .i64 0, .int .i64 0, .slice none 0 0, .slice none 0 0, .int .i64 0, .int .i64 0, .bool false] 64)
  have x2 := blk_new ((w.alloc (.cells #[.int .i64 wd, .slice Av l1.length cv, .slice Ai ins.length ci] 31)).alloc (.cells #[.slice As st.length ns, .slice Ap_ picks.length np] 67)) (.cells #[.int .i64 0, .slice none 0 0, .slice none 0 0, .slice none 0 0, .int .i64 0, .int .i64 0, .int .i64 0, .slice none 0 0, .slice none 0 0, .int .i64 0, .int .i64 0, .bool false] 64)
  rw [show (w.alloc (.cells #[.int .i64 wd, .slice Av l1.length cv, .slice Ai ins.length ci] 31)).heap.size = w.heap.size + 1 by simp] at x1
  rw [show ((w.alloc (.cells #[.int .i64 wd, .slice Av l1.length cv, .slice Ai ins.length ci] 31)).alloc (.cells #[.slice As st.length ns, .slice Ap_ picks.length np] 67)).heap.size = w.heap.size + 2 by simp] at x2
  have HSZ := Aside0.mk (show (((w.alloc (.cells #[.int .i64 wd, .slice Av l1.length cv, .slice Ai ins.length ci] 31)).alloc (.cells #[.slice As st.length ns, .slice Ap_ picks.length np] 67)).alloc (.cells #[.int .i64 0, .slice none 0 0, .slice none 0 0, .slice none 0 0, .int .i64 0, .int .i64 0, .int .i64 0, .slice none 0 0, .slice none 0 0, .int .i64 0, .int .i64 0, .bool false] 64)).heap.size = w.heap.size + 3 by simp)
  have X0 := Aside0.mk x0
  have X1 := Aside0.mk x1
  have X2 := Aside0.mk x2
  clear hr1 hc1 hr2 hc2 hs hsn hp hpn h hL hA x0 x1 x2
  go_enter Try.func21, Try.ntmps21
  go_upto_region 1 with (fail)
  generalize ((w.alloc (.cells #[.int .i64 wd, .slice Av l1.length cv, .slice Ai ins.length ci] 31)).alloc (.cells #[.slice As st.length ns, .slice Ap_ picks.length np] 67)).alloc (.cells #[.int .i64 0, .slice none 0 0, .slice none 0 0, .slice none 0 0, .int .i64 0, .int .i64 0, .int .i64 0, .slice none 0 0, .slice none 0 0, .int .i64 0, .int .i64 0, .bool false] 64) = W0 at BA X0 X1 X2 HSZ ⊢
  have s0 : W0.cell? ⟨w.heap.size + 1, 0, none⟩ = some (.slice As st.length ns) := (blk_cell X1.out 0).trans rfl
  have s1 : W0.cell? ⟨w.heap.size + 1, 1, none⟩ = some (.slice Ap_ picks.length np) := (blk_cell X1.out 1).trans rfl
  go_wp2_with (first | (go_at_call 33; refine (vm_begin.calls k fuel As ns st Ap_ np picks st' W0 (Kd.C_below HS.out BA.out) HSN.out (Kd.C_below HP.out BA.out) HPN.out HCP.out).mono ?_; rintro e W1 ⟨cs, rfl, hv, hb⟩; obtain ⟨A1, n1, A2, n2, A3, n3, A7, n7, A8, n8, rfl, hh⟩ := id hv; clear hh; have V1 := Aside0.mk hv; have B1 := Aside0.mk hb; clear hv hb))
  have hlw1 := B1.out.size
  have hsz := HSZ.out
  have X0a := Aside0.mk (kal (blk_below X0.out B1.out) (.cells #[.int .i64 (vBegin fuel st').ed, .slice A1 (vBegin fuel st').st.length n1, .slice A2 (vBegin fuel st').ou.length n2, .slice A3 (vBegin fuel st').tr.length n3, .int .i64 (vBegin fuel st').co, .int .i64 (vBegin fuel st').us, .int .i64 (vBegin fuel st').wh, .slice A7 (vBegin fuel st').re.length n7, .slice A8 (vBegin fuel st').tl.length n8, .int .i64 (vBegin fuel st').pc, .int .i64 (vBegin fuel st').fu, .bool (vBegin fuel st').ov] 64))
  have X1a := Aside0.mk (kal (blk_below X1.out B1.out) (.cells #[.int .i64 (vBegin fuel st').ed, .slice A1 (vBegin fuel st').st.length n1, .slice A2 (vBegin fuel st').ou.length n2, .slice A3 (vBegin fuel st').tr.length n3, .int .i64 (vBegin fuel st').co, .int .i64 (vBegin fuel st').us, .int .i64 (vBegin fuel st').wh, .slice A7 (vBegin fuel st').re.length n7, .slice A8 (vBegin fuel st').tl.length n8, .int .i64 (vBegin fuel st').pc, .int .i64 (vBegin fuel st').fu, .bool (vBegin fuel st').ov] 64))
  have X2a := Aside0.mk (kal (blk_below X2.out B1.out) (.cells #[.int .i64 (vBegin fuel st').ed, .slice A1 (vBegin fuel st').st.length n1, .slice A2 (vBegin fuel st').ou.length n2, .slice A3 (vBegin fuel st').tr.length n3, .int .i64 (vBegin fuel st').co, .int .i64 (vBegin fuel st').us, .int .i64 (vBegin fuel st').wh, .slice A7 (vBegin fuel st').re.length n7, .slice A8 (vBegin fuel st').tl.length n8, .int .i64 (vBegin fuel st').pc, .int .i64 (vBegin fuel st').fu, .bool (vBegin fuel st').ov] 64))
  have X7a := Aside0.mk (blk_new W1 (.cells #[.int .i64 (vBegin fuel st').ed, .slice A1 (vBegin fuel st').st.length n1, .slice A2 (vBegin fuel st').ou.length n2, .slice A3 (vBegin fuel st').tr.length n3, .int .i64 (vBegin fuel st').co, .int .i64 (vBegin fuel st').us, .int .i64 (vBegin fuel st').wh, .slice A7 (vBegin fuel st').re.length n7, .slice A8 (vBegin fuel st').tl.length n8, .int .i64 (vBegin fuel st').pc, .int .i64 (vBegin fuel st').fu, .bool (vBegin fuel st').ov] 64))
  have BB := Aside0.mk (bal (BA.out.trans (B1.out.mono BA.out.size)) (.cells #[.int .i64 (vBegin fuel st').ed, .slice A1 (vBegin fuel st').st.length n1, .slice A2 (vBegin fuel st').ou.length n2, .slice A3 (vBegin fuel st').tr.length n3, .int .i64 (vBegin fuel st').co, .int .i64 (vBegin fuel st').us, .int .i64 (vBegin fuel st').wh, .slice A7 (vBegin fuel st').re.length n7, .slice A8 (vBegin fuel st').tl.length n8, .int .i64 (vBegin fuel st').pc, .int .i64 (vBegin fuel st').fu, .bool (vBegin fuel st').ov] 64))
  have VV := Aside0.mk ((((VR.base V1.out).lower (by omega : w.heap.size ≤ W0.heap.size)).below (bal (Below.refl _ _) (.cells #[.int .i64 (vBegin fuel st').ed, .slice A1 (vBegin fuel st').st.length n1, .slice A2 (vBegin fuel st').ou.length n2, .slice A3 (vBegin fuel st').tr.length n3, .int .i64 (vBegin fuel st').co, .int .i64 (vBegin fuel st').us, .int .i64 (vBegin fuel st').wh, .slice A7 (vBegin fuel st').re.length n7, .slice A8 (vBegin fuel st').tl.length n8, .int .i64 (vBegin fuel st').pc, .int .i64 (vBegin fuel st').fu, .bool (vBegin fuel st').ov] 64))).mono (Q' := (fun k => w.heap.size + 3 ≤ k ∧ k ≠ W1.heap.size)) (fun k hk _ => ⟨by have := hk.1; omega, by have := hk.2; omega⟩))
  clear V1 B1 X0 X1 X2 s0 s1
  go_loopg [] n (fun kq X => Aside0 (∃ (c : VC) (cs : Array Value), vLoop k wd l1 picks ins kq c = some c' ∧ vAll k wd l1 picks ins kq c ∧ VR X w.heap.size (fun k => w.heap.size + 3 ≤ k ∧ k ≠ W1.heap.size) cs c ∧ X.heap[W1.heap.size]? = some (.cells cs 64 (0, 0))) ∧ Aside0 (X.heap[w.heap.size]? = some (.cells #[.int .i64 wd, .slice Av l1.length cv, .slice Ai ins.length ci] 31 (0, 0))) ∧ Aside0 (X.heap[w.heap.size + 1]? = some (.cells #[.slice As st.length ns, .slice Ap_ picks.length np] 67 (0, 0))) ∧ Aside0 (X.heap[w.heap.size + 2]? = some (.cells #[.int .i64 0, .slice none 0 0, .slice none 0 0, .slice none 0 0, .int .i64 0, .int .i64 0, .int .i64 0, .slice none 0 0, .slice none 0 0, .int .i64 0, .int .i64 0, .bool false] 64 (0, 0))) ∧ Aside0 (Below w.heap.size w X))
  case atStart => exact ⟨⟨_, _, HL.out, HAL.out, VV.out, X7a.out⟩, X0a, X1a, X2a, BB⟩
  case round =>
    clear X0a X1a X2a X7a BB VV HL HAL
    obtain ⟨HC, X0, X1, X2, BB⟩ := hrel
    obtain ⟨c, cs, hl, ha, hv, x7⟩ := HC.out
    obtain ⟨A1, n1, A2, n2, A3, n3, A7, n7, A8, n8, rfl, hh⟩ := id hv
    clear hh HC
    have HL := Aside0.mk hl
    have HA := Aside0.mk ha
    have HV := Aside0.mk hv
    have X7 := Aside0.mk x7
    have hl7 := blk_lt x7
    clear hl ha hv x7
    cases gk with
    | zero => exact absurd HL.out (by simp [vLoop])
    | succ gn =>
      obtain ⟨c0, c1, c2, c3, c4, c5, c6, c7, c8, c9, c10, c11⟩ := row12 X7.out
      by_cases ho : c.ov = true
      · have hl := HL.out
        rw [vLoop, if_pos ho] at hl
        obtain rfl := Option.some.inj hl
        clear hl
        obtain ⟨z0, z1, z2, z3, z4, z5, z6, z7, z8, z9, z10, z11⟩ := row12 X2.out
        obtain ⟨g0, g1, g2, g3, g4, g5, g6, g7, g8, g9, g10, g11⟩ := froz12 X2.out
        go_wp2
        have hv := HV.out
        rw [ho] at hv
        change bodyPost _ _ _ _ _ (wr.setCells (w.heap.size + 2) 0 [.int .i64 c.ed, .slice A1 c.st.length n1, .slice A2 c.ou.length n2, .slice A3 c.tr.length n3, .int .i64 c.co, .int .i64 c.us, .int .i64 c.wh, .slice A7 c.re.length n7, .slice A8 c.tl.length n8, .int .i64 c.pc, .int .i64 c.fu, .bool true])
        have hfill := fill_block (vs := [.int .i64 c.ed, .slice A1 c.st.length n1, .slice A2 c.ou.length n2, .slice A3 c.tr.length n3, .int .i64 c.co, .int .i64 c.us, .int .i64 c.wh, .slice A7 c.re.length n7, .slice A8 c.tl.length n8, .int .i64 c.pc, .int .i64 c.fu, .bool true]) X2.out rfl
        refine bodyPost_ret (results_cell_row rfl _ _ (w.heap.size + 2) 64 #[.int .i64 c.ed, .slice A1 c.st.length n1, .slice A2 c.ou.length n2, .slice A3 c.tr.length n3, .int .i64 c.co, .int .i64 c.us, .int .i64 c.wh, .slice A7 c.re.length n7, .slice A8 c.tl.length n8, .int .i64 c.pc, .int .i64 c.fu, .bool true] (0, 0) _ rfl hfill huV rfl (by kernel_rfl)) rfl ?_
        exact ⟨_, rfl, (hv.fill (g := w.heap.size + 2) (fun h => by omega) [.int .i64 c.ed, .slice A1 c.st.length n1, .slice A2 c.ou.length n2, .slice A3 c.tr.length n3, .int .i64 c.co, .int .i64 c.us, .int .i64 c.wh, .slice A7 c.re.length n7, .slice A8 c.tl.length n8, .int .i64 c.pc, .int .i64 c.fu, .bool true]).mono (fun _ _ _ => trivial), fill_below BB.out (by omega)⟩
      · have ho' : c.ov = false := by simpa using ho
        have hl := HL.out
        rw [vLoop, if_neg ho] at hl
        have hv := HV.out
        have x7 := X7.out
        rw [ho'] at hv x7
        clear c0 c1 c2 c3 c4 c5 c6 c7 c8 c9 c10 c11 HV X7
        have HV := Aside0.mk hv
        have X7 := Aside0.mk x7
        have HO := Aside0.mk ho'
        clear hv x7 ho' ho
        obtain ⟨c0, c1, c2, c3, c4, c5, c6, c7, c8, c9, c10, c11⟩ := row12 X7.out
        obtain ⟨z0, z1, z2, z3, z4, z5, z6, z7, z8, z9, z10, z11⟩ := row12 X2.out
        by_cases hf : c.fu = 0
        · rw [if_pos hf] at hl
          have HH := Aside0.mk (Option.some.inj hl)
          have hfb : (c.fu == 0) = true := beq_iff_eq.mpr hf
          clear hl hf
          go_wp2_with (first | (go_at_call 34; refine (vm_stop.calls w wr (fun k => (w.heap.size + 3 ≤ k ∧ k ≠ W1.heap.size) ∧ k < wr.heap.size) _ c 3 BB.out HV.out.bound (fun k hk => hk.2)).mono ?_; rintro e W2 ⟨cs2, rfl, hv2, hb2, hk2⟩; have X3 := Aside0.mk ((hk2.2 (w.heap.size + 2) (by omega) (fun h => by omega)).trans X2.out); obtain ⟨c2, hc2⟩ : ∃ c2 : VC, c2 = vStop 3 c := ⟨_, rfl⟩; have HV2 := Aside0.mk (show VR W2 w.heap.size (fun k => ((w.heap.size + 3 ≤ k ∧ k ≠ W1.heap.size) ∧ k < wr.heap.size) ∨ wr.heap.size ≤ k) cs2 c2 by rw [hc2]; exact hv2); have HC2 := Aside0.mk hc2; obtain ⟨B1_, m1_, B2_, m2_, B3_, m3_, B7_, m7_, B8_, m8_, rfl, hh2⟩ := id HV2.out; clear hh2; have HB2 := Aside0.mk hb2; clear hv2 hb2 hk2 hc2; obtain ⟨z0, z1, z2, z3, z4, z5, z6, z7, z8, z9, z10, z11⟩ := row12 X3.out; obtain ⟨g0, g1, g2, g3, g4, g5, g6, g7, g8, g9, g10, g11⟩ := froz12 X3.out))
          change bodyPost _ _ _ _ _ (W2.setCells (w.heap.size + 2) 0 [.int .i64 c2.ed, .slice B1_ c2.st.length m1_, .slice B2_ c2.ou.length m2_, .slice B3_ c2.tr.length m3_, .int .i64 c2.co, .int .i64 c2.us, .int .i64 c2.wh, .slice B7_ c2.re.length m7_, .slice B8_ c2.tl.length m8_, .int .i64 c2.pc, .int .i64 c2.fu, .bool c2.ov])
          have hfill := fill_block (vs := [.int .i64 c2.ed, .slice B1_ c2.st.length m1_, .slice B2_ c2.ou.length m2_, .slice B3_ c2.tr.length m3_, .int .i64 c2.co, .int .i64 c2.us, .int .i64 c2.wh, .slice B7_ c2.re.length m7_, .slice B8_ c2.tl.length m8_, .int .i64 c2.pc, .int .i64 c2.fu, .bool c2.ov]) X3.out rfl
          refine bodyPost_ret (results_cell_row rfl _ _ (w.heap.size + 2) 64 #[.int .i64 c2.ed, .slice B1_ c2.st.length m1_, .slice B2_ c2.ou.length m2_, .slice B3_ c2.tr.length m3_, .int .i64 c2.co, .int .i64 c2.us, .int .i64 c2.wh, .slice B7_ c2.re.length m7_, .slice B8_ c2.tl.length m8_, .int .i64 c2.pc, .int .i64 c2.fu, .bool c2.ov] (0, 0) _ rfl hfill huV rfl (by kernel_rfl)) rfl ?_
          exact ⟨_, rfl, by rw [← HH.out, ← HC2.out]; exact (HV2.out.fill (g := w.heap.size + 2) (fun h => by omega) [.int .i64 c2.ed, .slice B1_ c2.st.length m1_, .slice B2_ c2.ou.length m2_, .slice B3_ c2.tr.length m3_, .int .i64 c2.co, .int .i64 c2.us, .int .i64 c2.wh, .slice B7_ c2.re.length m7_, .slice B8_ c2.tl.length m8_, .int .i64 c2.pc, .int .i64 c2.fu, .bool c2.ov]).mono (fun _ _ _ => trivial), fill_below HB2.out (by omega)⟩
        · rw [if_neg hf] at hl
          obtain ⟨cn, hd, hl1⟩ := Option.bind_eq_some_iff.mp hl
          obtain ⟨⟨hpc0, hpc1, hfu0, hfu1, hco0, hco1, htl, hfit⟩, hnext⟩ := HA.out HO.out hf
          have HD := Aside0.mk hd
          have HL1 := Aside0.mk hl1
          have HFIT := Aside0.mk hfit
          have HNX := Aside0.mk hnext
          have hfb : (c.fu == 0) = false := beq_eq_false_iff_ne.mpr hf
          clear hl hd hl1 hfit hnext hf
          have f10 := blk_frozen X7.out 10
          have f4 := blk_frozen X7.out 4
          have hw1 : IntKind.i64.wrap (c.fu - 1) = c.fu - 1 := by rw [i64_w]; unfold wrap64; omega
          have hw2 : IntKind.i64.wrap (c.co + 1) = c.co + 1 := by rw [i64_w]; unfold wrap64; omega
          go_upto_region 7 with (fail)
          have Y7 := Aside0.mk (blk_put (blk_put X7.out 10 (.int .i64 (c.fu - 1)) (cs' := #[.int .i64 c.ed, .slice A1 c.st.length n1, .slice A2 c.ou.length n2, .slice A3 c.tr.length n3, .int .i64 c.co, .int .i64 c.us, .int .i64 c.wh, .slice A7 c.re.length n7, .slice A8 c.tl.length n8, .int .i64 c.pc, .int .i64 (c.fu - 1), .bool false]) rfl) 4 (.int .i64 (c.co + 1)) (cs' := #[.int .i64 c.ed, .slice A1 c.st.length n1, .slice A2 c.ou.length n2, .slice A3 c.tr.length n3, .int .i64 (c.co + 1), .int .i64 c.us, .int .i64 c.wh, .slice A7 c.re.length n7, .slice A8 c.tl.length n8, .int .i64 c.pc, .int .i64 (c.fu - 1), .bool false]) rfl)
          have hfar : ∀ k, k ≠ W1.heap.size → ((wr.setCell ⟨W1.heap.size, 10, none⟩ (.int .i64 (c.fu - 1))).setCell ⟨W1.heap.size, 4, none⟩ (.int .i64 (c.co + 1))).heap[k]? = wr.heap[k]? := fun k hk => (Below.heap_setCell _ _ _ _ hk).trans (Below.heap_setCell _ _ _ _ hk)
          have Y0 := Aside0.mk ((hfar w.heap.size (by omega)).trans X0.out)
          have Y1 := Aside0.mk ((hfar (w.heap.size + 1) (by omega)).trans X1.out)
          have Y2 := Aside0.mk ((hfar (w.heap.size + 2) (by omega)).trans X2.out)
          have nq7 : ¬ (w.heap.size + 3 ≤ W1.heap.size ∧ W1.heap.size ≠ W1.heap.size) := fun h => h.2 rfl
          have YV := Aside0.mk ((((HV.out.set (p := ⟨W1.heap.size, 10, none⟩) nq7 (.int .i64 (c.fu - 1))).fu' (c.fu - 1)).set (p := ⟨W1.heap.size, 4, none⟩) nq7 (.int .i64 (c.co + 1))).co' (c.co + 1))
          have YB := Aside0.mk ((BB.out.setCell (p := ⟨W1.heap.size, 10, none⟩) (by show w.heap.size ≤ W1.heap.size; omega) (.int .i64 (c.fu - 1))).setCell (p := ⟨W1.heap.size, 4, none⟩) (by show w.heap.size ≤ W1.heap.size; omega) (.int .i64 (c.co + 1)))
          clear hfar nq7 c0 c1 c2 c3 c4 c5 c6 c7 c8 c9 c10 c11 z0 z1 z2 z3 z4 z5 z6 z7 z8 z9 z10 z11 f10 f4 X0 X1 X2 X7 HV BB
          generalize (wr.setCell ⟨W1.heap.size, 10, none⟩ (.int .i64 (c.fu - 1))).setCell ⟨W1.heap.size, 4, none⟩ (.int .i64 (c.co + 1)) = Y at Y0 Y1 Y2 Y7 YV YB ⊢
          obtain ⟨A8', n8', e8, h8, hgt⟩ := YV.out.grow_tl
          obtain ⟨rfl, rfl⟩ : A8 = A8' ∧ n8 = n8' := by
            have := Option.some.inj e8
            injection this with h1 h2 h3
            exact ⟨h1, h3⟩
          have H8 := Aside0.mk h8
          have HGT := Aside0.mk hgt
          clear e8 h8 hgt
          have d9 : Y.cell? ⟨W1.heap.size, 9, none⟩ = some (.int .i64 c.pc) := (blk_cell Y7.out 9).trans rfl
          have d8 : Y.cell? ⟨W1.heap.size, 8, none⟩ = some (.slice A8 c.tl.length n8) := (blk_cell Y7.out 8).trans rfl
          go_upto_region 8 with (first | ((with_reducible refine gate_builtin (b := .append) (xs := #[.tmp 30, .tmp 33]) rfl ?_); at_builtin; refine Kd.R_append (Kd.int .i64) (w0 := w) w.heap.size rfl (.tmp 30) (.tmp 33) 35 3 (.int .i64 0) 8 rfl huI infoIntV rfl (by decide) (by omega) (.slice A8 c.tl.length n8) c.tl c.pc [.int .i64 c.pc] (fun k => w.heap.size + 3 ≤ k ∧ k ≠ W1.heap.size) (fun _ => False) rfl rfl ?aP (fun _ hk => hk.elim) ?aF ?aO ?aB ?aS ?aL ?_; (case aP => rfl); (case aF => exact fun k hk => ⟨by have := blk_lt Y7.out; have := blk_lt Y2.out; omega, by have := blk_lt Y7.out; omega⟩); (case aO => exact H8.out); (case aB => exact YB.out); (case aS => exact YB.out.size); (case aL => omega); intro v1 W2 ho2 hb2 hg hat; have V2 := HGT.out W2 v1 _ (fun k => w.heap.size + 3 ≤ k ∧ k ≠ W1.heap.size) (fun k hk => hk) ho2 hg hat; obtain ⟨A', n', ev⟩ := Kd.R_slice ho2; have el : (c.tl ++ [c.pc]).length = c.tl.length + 1 := (by simp); rw [el] at ev; subst ev; have V2 := Aside0.mk V2; have B2 := Aside0.mk hb2; have nr : ∀ k, ¬ (w.heap.size + 3 ≤ k ∧ k ≠ W1.heap.size) → some k ≠ (Value.slice A8 c.tl.length n8).ownBlock := (fun k hk e => hk (H8.out.1 k e.symm)); have Z0 := Aside0.mk (blk_grown Y0.out hg (nr _ (by omega))); have Z1 := Aside0.mk (blk_grown Y1.out hg (nr _ (by omega))); have Z2 := Aside0.mk (blk_grown Y2.out hg (nr _ (by omega))); have Z7 := Aside0.mk (blk_grown Y7.out hg (nr _ (by omega))); clear ho2 hb2 hg hat nr d9 d8; have d8 : W2.cell? ⟨W1.heap.size, 8, none⟩ = some (.slice A8 c.tl.length n8) := (blk_cell Z7.out 8).trans rfl; have f8 := blk_frozen Z7.out 8))
          have T7 := Aside0.mk (blk_put Z7.out 8 (.slice A' (c.tl.length + 1) n') (cs' := #[.int .i64 c.ed, .slice A1 c.st.length n1, .slice A2 c.ou.length n2, .slice A3 c.tr.length n3, .int .i64 (c.co + 1), .int .i64 c.us, .int .i64 c.wh, .slice A7 c.re.length n7, .slice A' (c.tl.length + 1) n', .int .i64 c.pc, .int .i64 (c.fu - 1), .bool false]) rfl)
          have hfar : ∀ k, k ≠ W1.heap.size → (W2.setCell ⟨W1.heap.size, 8, none⟩ (.slice A' (c.tl.length + 1) n')).heap[k]? = W2.heap[k]? := fun k hk => Below.heap_setCell _ _ _ _ hk
          have T0 := Aside0.mk ((hfar w.heap.size (by omega)).trans Z0.out)
          have T1 := Aside0.mk ((hfar (w.heap.size + 1) (by omega)).trans Z1.out)
          have T2 := Aside0.mk ((hfar (w.heap.size + 2) (by omega)).trans Z2.out)
          have nq7 : ¬ (w.heap.size + 3 ≤ W1.heap.size ∧ W1.heap.size ≠ W1.heap.size) := fun h => h.2 rfl
          have TV := Aside0.mk (show VR _ w.heap.size _ #[.int .i64 c.ed, .slice A1 c.st.length n1, .slice A2 c.ou.length n2, .slice A3 c.tr.length n3, .int .i64 (c.co + 1), .int .i64 c.us, .int .i64 c.wh, .slice A7 c.re.length n7, .slice A' (c.tl.length + 1) n', .int .i64 c.pc, .int .i64 (c.fu - 1), .bool false] (vTick c) from V2.out.set (p := ⟨W1.heap.size, 8, none⟩) nq7 (.slice A' (c.tl.length + 1) n'))
          have TB := Aside0.mk (B2.out.setCell (p := ⟨W1.heap.size, 8, none⟩) (by show w.heap.size ≤ W1.heap.size; omega) (.slice A' (c.tl.length + 1) n'))
          clear hfar nq7 d8 f8 Y0 Y1 Y2 Y7 YV YB H8 HGT Z0 Z1 Z2 Z7 V2 B2
          generalize W2.setCell ⟨W1.heap.size, 8, none⟩ (.slice A' (c.tl.length + 1) n') = X at T0 T1 T2 T7 TV TB ⊢
          obtain ⟨ad, rfl, i0, i1, i2, i3, i4⟩ := at_T40 HR2.out c.pc hpc0 hpc1
          have TBD := Aside0.mk (TB.out.trans ((below_drew (Below.refl _ _)).mono TB.out.size))
          replace i0 := (TBD.out.cell (World.block_lt_of_cell? w _ i0)).trans i0
          replace i1 := (TBD.out.cell (World.block_lt_of_cell? w _ i1)).trans i1
          replace i2 := (TBD.out.cell (World.block_lt_of_cell? w _ i2)).trans i2
          replace i3 := (TBD.out.cell (World.block_lt_of_cell? w _ i3)).trans i3
          replace i4 := (TBD.out.cell (World.block_lt_of_cell? w _ i4)).trans i4
          generalize hri : rd_T40 ins c.pc = i at i0 i1 i2 i3 i4
          have HRI := Aside0.mk hri
          have I0 := Aside0.mk i0
          have I1 := Aside0.mk i1
          have I2 := Aside0.mk i2
          have I3 := Aside0.mk i3
          have I4 := Aside0.mk i4
          have U0 := Aside0.mk (kdr T0.out)
          have U1 := Aside0.mk (kdr T1.out)
          have U2 := Aside0.mk (kdr T2.out)
          have U7 := Aside0.mk (kdr T7.out)
          have UV := Aside0.mk (TV.out.below (below_drew (Below.refl _ _)))
          clear hri i0 i1 i2 i3 i4 T0 T1 T2 T7 TV TB
          go_wp2
          refine start_ (n := 12) (S := fun w' => w'.cell? ⟨w.heap.size, 0, none⟩ = some (.int .i64 wd) ∧ w'.cell? ⟨w.heap.size, 1, none⟩ = some (.slice Av l1.length cv) ∧ w'.cell? ⟨w.heap.size, 2, none⟩ = some (.slice (some ad) ins.length ci) ∧ w'.cell? ⟨w.heap.size + 1, 1, none⟩ = some (.slice Ap_ picks.length np) ∧ w'.cell? ⟨W1.heap.size, 0, none⟩ = some (.int .i64 c.ed) ∧ w'.cell? ⟨W1.heap.size, 1, none⟩ = some (.slice A1 c.st.length n1) ∧ w'.cell? ⟨W1.heap.size, 2, none⟩ = some (.slice A2 c.ou.length n2) ∧ w'.cell? ⟨W1.heap.size, 3, none⟩ = some (.slice A3 c.tr.length n3) ∧ w'.cell? ⟨W1.heap.size, 4, none⟩ = some (.int .i64 (c.co + 1)) ∧ w'.cell? ⟨W1.heap.size, 5, none⟩ = some (.int .i64 c.us) ∧ w'.cell? ⟨W1.heap.size, 6, none⟩ = some (.int .i64 c.wh) ∧ w'.cell? ⟨W1.heap.size, 7, none⟩ = some (.slice A7 c.re.length n7) ∧ w'.cell? ⟨W1.heap.size, 8, none⟩ = some (.slice A' (c.tl.length + 1) n') ∧ w'.cell? ⟨W1.heap.size, 9, none⟩ = some (.int .i64 c.pc) ∧ w'.cell? ⟨W1.heap.size, 10, none⟩ = some (.int .i64 (c.fu - 1)) ∧ w'.cell? ⟨W1.heap.size, 11, none⟩ = some (.bool false) ∧ w'.cell? (ad.add (c.pc.toNat * 5)) = some (.int .i64 i.f0) ∧ w'.cell? ⟨(ad.add (c.pc.toNat * 5)).block, (ad.add (c.pc.toNat * 5)).off + 1, none⟩ = some (.int .i64 i.f1) ∧ w'.cell? ⟨(ad.add (c.pc.toNat * 5)).block, (ad.add (c.pc.toNat * 5)).off + 2, none⟩ = some (.int .i64 i.f2) ∧ w'.cell? ⟨(ad.add (c.pc.toNat * 5)).block, (ad.add (c.pc.toNat * 5)).off + 3, none⟩ = some (.int .i64 i.f3) ∧ w'.cell? ⟨(ad.add (c.pc.toNat * 5)).block, (ad.add (c.pc.toNat * 5)).off + 4, none⟩ = some (.int .i64 i.f4)) (ds := [10, 11]) #[false, false, false, false, false, false, false, false, false, false, false, false] (by kernel_rfl) rfl rfl ⟨(blk_cell U0.out 0).trans rfl, (blk_cell U0.out 1).trans rfl, (blk_cell U0.out 2).trans rfl, (blk_cell U1.out 1).trans rfl, (blk_cell U7.out 0).trans rfl, (blk_cell U7.out 1).trans rfl, (blk_cell U7.out 2).trans rfl, (blk_cell U7.out 3).trans rfl, (blk_cell U7.out 4).trans rfl, (blk_cell U7.out 5).trans rfl, (blk_cell U7.out 6).trans rfl, (blk_cell U7.out 7).trans rfl, (blk_cell U7.out 8).trans rfl, (blk_cell U7.out 9).trans rfl, (blk_cell U7.out 10).trans rfl, (blk_cell U7.out 11).trans rfl, I0.out, I1.out, I2.out, I3.out, I4.out⟩ (fun hHeld => ?_)
          generalize X.drew = Y at U0 U1 U2 U7 UV TBD I0 I1 I2 I3 I4 hHeld ⊢
          refine tk (i := 0) (N := some 36) (bl 12 1) rfl rfl (by kernel_rfl) hHeld ?_
          refine pu (i := 1) (N := some 37) (bl 12 3) rfl rfl (by kernel_rfl) ?_
          refine tk (i := 2) (N := some 38) (bl 12 7) rfl rfl (by kernel_rfl) hHeld ?_
          refine tk (i := 3) (N := some 39) (bl 12 15) rfl rfl (by kernel_rfl) hHeld ?_
          refine pu (i := 4) (N := some 40) (bl 12 31) rfl rfl (by kernel_rfl) ?_
          refine tk (i := 5) (N := some 41) (bl 12 63) rfl rfl (by kernel_rfl) hHeld ?_
          refine pu (i := 6) (N := some 42) (bl 12 127) rfl rfl (by kernel_rfl) ?_
          refine tk (i := 7) (N := some 43) (bl 12 255) rfl rfl (by kernel_rfl) hHeld ?_
          refine pu (i := 8) (N := some 44) (bl 12 511) rfl rfl (by kernel_rfl) ?_
          refine tk (i := 9) (N := some 45) (bl 12 1023) rfl rfl (by kernel_rfl) hHeld ?_
          refine last_ (i := 10) (N := (some 46)) (bl 12 2047) rfl rfl (by kernel_rfl) (by decide) (fun K hK => ?_)
          refine goes_ Try.func35 (by kernel_rfl) rfl #[.agg #[.int .i64 wd, .slice Av l1.length cv, .slice (some ad) ins.length ci], .slice Ap_ picks.length np, .agg #[.int .i64 c.ed, .slice A1 c.st.length n1, .slice A2 c.ou.length n2, .slice A3 c.tr.length n3, .int .i64 (c.co + 1), .int .i64 c.us, .int .i64 c.wh, .slice A7 c.re.length n7, .slice A' (c.tl.length + 1) n', .int .i64 c.pc, .int .i64 (c.fu - 1), .bool false], .agg #[.int .i64 i.f0, .int .i64 i.f1, .int .i64 i.f2, .int .i64 i.f3, .int .i64 i.f4]] (by rfl) rfl rfl (by (try simp only [List.map_toArray, List.map_cons, List.map_nil]); rfl) ?_
          refine (vm_do.calls k w Y (fun k => (w.heap.size + 3 ≤ k ∧ k ≠ W1.heap.size) ∧ k < Y.heap.size) _ (vTick c) wd Av cv l1 (some ad) ins.length ci Ap_ np picks i cn TBD.out UV.out.bound (fun k hk => hk.2) HR1.out HC1.out HP.out HPN.out (HRI.out ▸ HFIT.out) (HRI.out ▸ HD.out)).mono ?_
          rintro e Y2 ⟨cs2, rfl, hv2, hb2, hk2⟩
          have hly := blk_lt U7.out
          have hl2 := blk_lt U2.out
          have F0 := Aside0.mk ((hk2.2 w.heap.size (by omega) (fun h => by omega)).trans U0.out)
          have F1 := Aside0.mk ((hk2.2 (w.heap.size + 1) (by omega) (fun h => by omega)).trans U1.out)
          have F2 := Aside0.mk ((hk2.2 (w.heap.size + 2) (by omega) (fun h => by omega)).trans U2.out)
          have F7 := Aside0.mk ((hk2.2 W1.heap.size (by omega) (fun h => h.1.2 rfl)).trans U7.out)
          obtain ⟨B1_, m1_, B2_, m2_, B3_, m3_, B7_, m7_, B8_, m8_, rfl, hh2⟩ := id hv2
          clear hh2
          have HV2 := Aside0.mk hv2
          have HB2 := Aside0.mk hb2
          have hlk := hk2.1
          clear hv2 hb2 hk2 U0 U1 U2 U7 UV TBD I0 I1 I2 I3 I4 hHeld
          refine ⟨_, rfl, ?_⟩
          refine hK.out _ _ ?_
          clear hK K
          refine nm 46 ?_
          refine last_ (i := 11) (N := none) (bl 12 4095) rfl rfl (by kernel_rfl) (by decide) (fun K hK => ?_)
          obtain ⟨y0, y1, y2, y3, y4, y5, y6, y7, y8, y9, y10, y11⟩ := row12 F7.out
          obtain ⟨g0, g1, g2, g3, g4, g5, g6, g7, g8, g9, g10, g11⟩ := froz12 F7.out
          refine skip_ (w1 := ?_) (by rfl) rfl ?_ ?_
          rotate_left
          · go_simp
            rfl
          refine hK.out _ _ ?_
          clear hK K
          refine done_ (by kernel_rfl) ?_
          have hfill := Aside0.mk (fill_block (vs := [.int .i64 cn.ed, .slice B1_ cn.st.length m1_, .slice B2_ cn.ou.length m2_, .slice B3_ cn.tr.length m3_, .int .i64 cn.co, .int .i64 cn.us, .int .i64 cn.wh, .slice B7_ cn.re.length m7_, .slice B8_ cn.tl.length m8_, .int .i64 cn.pc, .int .i64 cn.fu, .bool cn.ov]) F7.out rfl)
          have G0 := Aside0.mk ((fill_far (vs := [.int .i64 cn.ed, .slice B1_ cn.st.length m1_, .slice B2_ cn.ou.length m2_, .slice B3_ cn.tr.length m3_, .int .i64 cn.co, .int .i64 cn.us, .int .i64 cn.wh, .slice B7_ cn.re.length m7_, .slice B8_ cn.tl.length m8_, .int .i64 cn.pc, .int .i64 cn.fu, .bool cn.ov]) (g := W1.heap.size) (k := w.heap.size) (w := Y2) (by omega)).trans F0.out)
          have G1 := Aside0.mk ((fill_far (vs := [.int .i64 cn.ed, .slice B1_ cn.st.length m1_, .slice B2_ cn.ou.length m2_, .slice B3_ cn.tr.length m3_, .int .i64 cn.co, .int .i64 cn.us, .int .i64 cn.wh, .slice B7_ cn.re.length m7_, .slice B8_ cn.tl.length m8_, .int .i64 cn.pc, .int .i64 cn.fu, .bool cn.ov]) (g := W1.heap.size) (k := w.heap.size + 1) (w := Y2) (by omega)).trans F1.out)
          have G2 := Aside0.mk ((fill_far (vs := [.int .i64 cn.ed, .slice B1_ cn.st.length m1_, .slice B2_ cn.ou.length m2_, .slice B3_ cn.tr.length m3_, .int .i64 cn.co, .int .i64 cn.us, .int .i64 cn.wh, .slice B7_ cn.re.length m7_, .slice B8_ cn.tl.length m8_, .int .i64 cn.pc, .int .i64 cn.fu, .bool cn.ov]) (g := W1.heap.size) (k := w.heap.size + 2) (w := Y2) (by omega)).trans F2.out)
          have GV := Aside0.mk ((HV2.out.fill (g := W1.heap.size) (fun h => by rcases h with h | h; exact h.1.2 rfl; omega) [.int .i64 cn.ed, .slice B1_ cn.st.length m1_, .slice B2_ cn.ou.length m2_, .slice B3_ cn.tr.length m3_, .int .i64 cn.co, .int .i64 cn.us, .int .i64 cn.wh, .slice B7_ cn.re.length m7_, .slice B8_ cn.tl.length m8_, .int .i64 cn.pc, .int .i64 cn.fu, .bool cn.ov]).mono (Q' := fun k => w.heap.size + 3 ≤ k ∧ k ≠ W1.heap.size) (fun k hk _ => by rcases hk with hk | hk; exact hk.1; exact ⟨by omega, by omega⟩))
          have GB := Aside0.mk (fill_below (vs := [.int .i64 cn.ed, .slice B1_ cn.st.length m1_, .slice B2_ cn.ou.length m2_, .slice B3_ cn.tr.length m3_, .int .i64 cn.co, .int .i64 cn.us, .int .i64 cn.wh, .slice B7_ cn.re.length m7_, .slice B8_ cn.tl.length m8_, .int .i64 cn.pc, .int .i64 cn.fu, .bool cn.ov]) (g := W1.heap.size) HB2.out (by omega))
          clear F0 F1 F2 F7 HV2 HB2 y0 g0 y1 g1 y2 g2 y3 g3 y4 g4 y5 g5 y6 g6 y7 g7 y8 g8 y9 g9 y10 g10 y11 g11
          go_wp2
          go_roundg gn
          case measure => omega
          case rel =>
            exact ⟨⟨cn, #[.int .i64 cn.ed, .slice B1_ cn.st.length m1_, .slice B2_ cn.ou.length m2_, .slice B3_ cn.tr.length m3_, .int .i64 cn.co, .int .i64 cn.us, .int .i64 cn.wh, .slice B7_ cn.re.length m7_, .slice B8_ cn.tl.length m8_, .int .i64 cn.pc, .int .i64 cn.fu, .bool cn.ov], HL1.out, HNX.out _ HD.out, GV.out, hfill.out⟩, G0, G1, G2, GB⟩
def regB (c : VC) (r : Int) : Bool := decide (0 ≤ r) && decide (r < (c.re.length : Int))
theorem regB_spec {c : VC} {r : Int} (h : regB c r = true) : vReg c r := by
  simpa [regB, vReg] using h
def cellB (k : Nat) (l1 : List S42) (v s : Int) (c : VC) : Bool :=
  match r2_First.f k l1 v with
  | some fst => decide (0 ≤ v) && decide (v < (l1.length : Int)) && (decide ((rd_T42 l1 v.toNat).f2 < 2) || regB c s) && decide (0 ≤ fst + vIdx l1 c.re v.toNat s) && decide (fst + vIdx l1 c.re v.toNat s < (c.st.length : Int))
  | none => false
theorem cellB_spec {k : Nat} {l1 : List S42} {v s : Int} {c : VC} (h : cellB k l1 v s c = true) : ∀ fst, r2_First.f k l1 v = some fst → vCell l1 fst v s c := by
  intro fst e
  unfold cellB at h
  rw [e] at h
  simp only [Bool.and_eq_true, Bool.or_eq_true, decide_eq_true_eq] at h
  obtain ⟨⟨⟨⟨h1, h2⟩, h3⟩, h4⟩, h5⟩ := h
  exact ⟨h1, h2, fun hn => regB_spec (h3.resolve_left hn), h4, h5⟩
def vFitB (k : Nat) (l1 : List S42) (c : VC) (i : S40) : Bool :=
  (decide (0 ≤ c.pc) && decide (c.pc < 1000000000) && decide (c.tr.length < 1000000000) && decide (c.ou.length < 1000000000) && decide (0 ≤ c.us) && decide (c.us < 1000000000)) &&
  (!decide (i.f0 = 0) || regB c i.f1) && (!decide (i.f0 = 1) || (regB c i.f1 && regB c i.f3 && (decide (i.f2 = 12) || regB c i.f4))) && (!decide (i.f0 = 2) || (regB c i.f1 && regB c i.f2 && regB c i.f3 && regB c i.f4)) &&
  (!decide (i.f0 = 3) || (regB c i.f1 && cellB k l1 i.f2 i.f3 c)) && (!decide (i.f0 = 4) || (regB c i.f3 && cellB k l1 i.f1 i.f2 c)) &&
  (!decide (i.f0 = 6) || regB c i.f1) && (!decide (i.f0 = 7) || regB c i.f2) && (!decide (i.f0 = 8) || regB c i.f1) && (!decide (i.f0 = 9) || regB c i.f1) && (!decide (i.f0 = 10) || regB c i.f1)
theorem vFitB_spec {k : Nat} {l1 : List S42} {c : VC} {i : S40} (h : vFitB k l1 c i = true) : vFit k l1 c i := by
  unfold vFitB at h
  simp only [Bool.and_eq_true, Bool.or_eq_true, Bool.not_eq_true', decide_eq_true_eq, decide_eq_false_iff_not] at h
  obtain ⟨⟨⟨⟨⟨⟨⟨⟨⟨⟨⟨⟨⟨⟨⟨a1, a2⟩, a3⟩, a4⟩, a5⟩, a6⟩, h0⟩, h1⟩, h2⟩, h3⟩, h4⟩, h6⟩, h7⟩, h8⟩, h9⟩, h10⟩ := h
  refine ⟨⟨a1, a2, a3, a4, a5, a6⟩, fun e => regB_spec (h0.resolve_left (fun n => n e)), fun e => ?_, fun e => ?_, fun e => ?_, fun e => ?_, fun e => regB_spec (h6.resolve_left (fun n => n e)), fun e => regB_spec (h7.resolve_left (fun n => n e)), fun e => regB_spec (h8.resolve_left (fun n => n e)), fun e => regB_spec (h9.resolve_left (fun n => n e)), fun e => regB_spec (h10.resolve_left (fun n => n e))⟩
  · obtain ⟨⟨q1, q2⟩, q3⟩ := h1.resolve_left (fun n => n e)
    exact ⟨regB_spec q1, regB_spec q2, fun hn => regB_spec (q3.resolve_left hn)⟩
  · obtain ⟨⟨⟨q1, q2⟩, q3⟩, q4⟩ := h2.resolve_left (fun n => n e)
    exact ⟨regB_spec q1, regB_spec q2, regB_spec q3, regB_spec q4⟩
  · obtain ⟨q1, q2⟩ := h3.resolve_left (fun n => n e)
    exact ⟨regB_spec q1, cellB_spec q2⟩
  · obtain ⟨q1, q2⟩ := h4.resolve_left (fun n => n e)
    exact ⟨regB_spec q1, cellB_spec q2⟩
def vAllB (k : Nat) (wd : Int) (l1 : List S42) (picks : List Int) (ins : List S40) : Nat → VC → Bool
  | 0, _ => true
  | n + 1, c => c.ov || decide (c.fu = 0) || (decide (0 ≤ c.pc) && decide (c.pc < (ins.length : Int)) && decide (0 < c.fu) && decide (c.fu < 1000000000) && decide (0 ≤ c.co) && decide (c.co < 1000000000) && decide (c.tl.length < 1000000000) && vFitB k l1 (vTick c) (rd_T40 ins c.pc) &&
      (match vDo k wd l1 picks (vTick c) (rd_T40 ins c.pc) with | some c' => vAllB k wd l1 picks ins n c' | none => true))
theorem vAllB_spec {k : Nat} {wd : Int} {l1 : List S42} {picks : List Int} {ins : List S40} : ∀ (n : Nat) (c : VC), vAllB k wd l1 picks ins n c = true → vAll k wd l1 picks ins n c
  | 0, _, _ => trivial
  | n + 1, c, h => by
    intro ho hf
    rw [vAllB, ho, decide_eq_false hf, Bool.false_or, Bool.false_or] at h
    simp only [Bool.and_eq_true, decide_eq_true_eq] at h
    obtain ⟨⟨⟨⟨⟨⟨⟨⟨b1, b2⟩, b3⟩, b4⟩, b5⟩, b6⟩, b7⟩, b8⟩, b9⟩ := h
    refine ⟨⟨b1, b2, b3, b4, b5, b6, b7, vFitB_spec b8⟩, fun c' hd => ?_⟩
    rw [hd] at b9
    exact vAllB_spec n c' b9
end Go.Proofs.Ytnlekgadadifdaa.Print
namespace Go.Proofs.Ytnlekgadadifdaa.Print
open Go.RowKit Go.Proofs.YtnlekgadadifdaaW.PrintWords Go.Proofs.YtnlekgadadifdaaW.PrintLast Go.Proofs.YtnlekgadadifdaaW.PrintMore
attribute [local go_sem] max2_int min2_int max_two min_two max_three min_three max_four min_four
set_option linter.unusedVariables false
set_option linter.unusedSimpArgs false
def r8_reg.f (a0 : Int) : Option (Bool) := if a0 ≥ 0 then (some (decide (a0 < 64))) else (some false)
theorem r8_reg.calls (a0 : Int) (r : Bool) (w : World) (h : r8_reg.f a0 = some r) :
  Calls Try.prog 49 #[.int .i64 a0] w fun e w' => e = .returned (.bool r) ∧ Drawn0 w w' := by
 have H : (if a0 ≥ 0 then (some (decide (a0 < 64))) else (some false)) = some r := h
 clear h
 by_cases c2 : a0 ≥ 0
 ·rw [if_pos c2] at H
  have c2b0 : decide (0 ≤ a0) = true := decide_eq_true c2
  clear c2
  obtain rfl := Option.some.inj H
  go_enter Try.func49, Try.ntmps49
  go_wp2
  go_ret
  exact ⟨rs, dr⟩
 rw [if_neg c2] at H
 have c2b0 : decide (0 ≤ a0) = false := decide_eq_false c2
 clear c2
 obtain rfl := Option.some.inj H
 go_enter Try.func49, Try.ntmps49
 go_wp2
 go_ret
 exact ⟨rs, dr⟩
def r8_place.f (a0_0 : Int) (l0_1 : List (S42)) (l0_2 : List (S40)) (a1 : Int) : Option (Bool) := if a1 ≥ 0 then (some (decide (a1 < (l0_2.length : Int)))) else (some false)
theorem r8_place.calls (a0_0 : Int) (A0_1 : Option Addr) (c0_1 : Nat) (l0_1 : List (S42)) (A0_2 : Option Addr) (c0_2 : Nat) (l0_2 : List (S40)) (a1 : Int) (r : Bool) (w : World) (hr0_1 : Kd.C k42 w A0_1 l0_1.length l0_1) (hc0_1 : l0_1.length ≤ c0_1) (hr0_2 : Kd.C k40 w A0_2 l0_2.length l0_2) (hc0_2 : l0_2.length ≤ c0_2) (h : r8_place.f a0_0 l0_1 l0_2 a1 = some r) :
  Calls Try.prog 53 #[.agg #[.int .i64 a0_0, .slice A0_1 l0_1.length c0_1, .slice A0_2 l0_2.length c0_2], .int .i64 a1] w fun e w' => e = .returned (.bool r) ∧ Below w.heap.size w w' := by
 have hu31 := Try.underlying31
 have HR0_1 := Aside0.mk hr0_1
 have HC0_1 := Aside0.mk hc0_1
 clear hr0_1 hc0_1
 have HR0_2 := Aside0.mk hr0_2
 have HC0_2 := Aside0.mk hc0_2
 clear hr0_2 hc0_2
 have HB := Aside0.mk (Below.refl w.heap.size w)
 have H : (if a1 ≥ 0 then (some (decide (a1 < (l0_2.length : Int)))) else (some false)) = some r := h
 clear h
 by_cases c3 : a1 ≥ 0
 rotate_left
 ·rw [if_neg c3] at H
  have c3b0 : decide (0 ≤ a1) = false := decide_eq_false c3
  clear c3
  obtain rfl := Option.some.inj H
  go_enter Try.func53, Try.ntmps53
  go_wp2_with (first | ((with_reducible refine gate_dst (N := 2) rfl ?_); (try (refine gate_guard (by rfl) ?_; dsimp only)); refine bx 2 rfl rfl #[.int .i64 a0_0, .slice A0_1 l0_1.length c0_1, .slice A0_2 l0_2.length c0_2] 31 ?_; intro gb212 hg w6 hbox hb; have BK212 := Aside0.mk (hbox); have GE212 := ge HB hg; replace HB := sb HB hb; clear hb hbox hg))
  go_ret
  exact ⟨rr, bb HB⟩
 rw [if_pos c3] at H
 have c3b0 : decide (0 ≤ a1) = true := decide_eq_true c3
 clear c3
 obtain rfl := Option.some.inj H
 go_enter Try.func53, Try.ntmps53
 go_wp2_with (first | ((with_reducible refine gate_dst (N := 2) rfl ?_); (try (refine gate_guard (by rfl) ?_; dsimp only)); refine bx 2 rfl rfl #[.int .i64 a0_0, .slice A0_1 l0_1.length c0_1, .slice A0_2 l0_2.length c0_2] 31 ?_; intro gb212 hg w4 hbox hb; have BK212 := Aside0.mk (hbox); have GE212 := ge HB hg; replace HB := sb HB hb; clear hb hbox hg; obtain ⟨hcz5_0, hcz5_1, hcz5_2, hfz5_0, hfz5_1, hfz5_2⟩ := cf3 BK212.out))
 go_ret
 exact ⟨rr, bb HB⟩
def r8_at.j0 : Nat → Int → Int → Bool → Int → List (S42) → List (S40) → Option (Bool)
 | 0, _, _, _, _, _, _ => none
 | k + 1, x1, x2, x15, x210000, x210001, x210002 => if x15 = true then (some false) else (if 0 ≤ x1 then (if x1 < (x210001.length : Int) then (if ((rd_T42 x210001 x1).f2) > 1 then ((r8_reg.f x2).bind fun t211 => (some t211)) else (some (x2 == 0))) else (none)) else (none))
def r8_at.f (k : Nat) (a0_0 : Int) (l0_1 : List (S42)) (l0_2 : List (S40)) (a1 : Int) (a2 : Int) : Option (Bool) := if a1 < 0 then (r8_at.j0 k a1 a2 true a0_0 l0_1 l0_2) else (r8_at.j0 k a1 a2 (decide (a1 ≥ (l0_1.length : Int))) a0_0 l0_1 l0_2)
theorem r8_at.calls (k : Nat) (a0_0 : Int) (A0_1 : Option Addr) (c0_1 : Nat) (l0_1 : List (S42)) (A0_2 : Option Addr) (c0_2 : Nat) (l0_2 : List (S40)) (a1 : Int) (a2 : Int) (r : Bool) (w : World) (hr0_1 : Kd.C k42 w A0_1 l0_1.length l0_1) (hc0_1 : l0_1.length ≤ c0_1) (hr0_2 : Kd.C k40 w A0_2 l0_2.length l0_2) (hc0_2 : l0_2.length ≤ c0_2) (h : r8_at.f k a0_0 l0_1 l0_2 a1 a2 = some r) :
  Calls Try.prog 52 #[.agg #[.int .i64 a0_0, .slice A0_1 l0_1.length c0_1, .slice A0_2 l0_2.length c0_2], .int .i64 a1, .int .i64 a2] w fun e w' => e = .returned (.bool r) ∧ Below w.heap.size w w' := by
 have hu31 := Try.underlying31
 have HR0_1 := Aside0.mk hr0_1
 have HC0_1 := Aside0.mk hc0_1
 clear hr0_1 hc0_1
 have HR0_2 := Aside0.mk hr0_2
 have HC0_2 := Aside0.mk hc0_2
 clear hr0_2 hc0_2
 have HB := Aside0.mk (Below.refl w.heap.size w)
 have H : (if a1 < 0 then (r8_at.j0 k a1 a2 true a0_0 l0_1 l0_2) else (r8_at.j0 k a1 a2 (decide (a1 ≥ (l0_1.length : Int))) a0_0 l0_1 l0_2)) = some r := h
 clear h
 have HC4 := Aside0.mk H
 clear H
 go_enter Try.func52, Try.ntmps52
 go_upto_region 1 with (first | ((with_reducible refine gate_dst (N := 3) rfl ?_); (try (refine gate_guard (by rfl) ?_; dsimp only)); refine bx 3 rfl rfl #[.int .i64 a0_0, .slice A0_1 l0_1.length c0_1, .slice A0_2 l0_2.length c0_2] 31 ?_; intro gb209 hg w5 hbox hb; have BK209 := Aside0.mk (hbox); have GE209 := ge HB hg; replace HB := sb HB hb; clear hb hbox hg))
 (try simp only [Act.put, List.setIfInBounds_toArray, List.set_cons_zero, List.set_cons_succ])
 go_cut [15] (fun v15 wc => ∃ (kq : Nat) (x15_3 : Bool), v15 = .bool x15_3 ∧ Aside0 (r8_at.j0 kq a1 a2 x15_3 a0_0 l0_1 l0_2 = some r) ∧ Aside0 (kq ≤ k) ∧ Aside0 (wc.heap[gb209]? = some (.cells #[.int .i64 a0_0, (.slice A0_1 l0_1.length c0_1), (.slice A0_2 l0_2.length c0_2)] 31 (0, 0))) ∧ Aside0 (Below w.heap.size w wc))
 case first =>
  have H := HC4.out
  clear HC4
  by_cases c6 : a1 < 0
  ·rw [if_pos c6] at H
   have c6b0 : decide (a1 < 0) = true := decide_eq_true c6
   clear c6
   (first | rw [c6b0] | (simp only [i64_w, i32_w]; rw [c6b0]) | skip)
   have H' := Aside0.mk H
   clear H
   go_wp2
   go_meet
   case rel => exact ⟨_, (true), rs, H', ⟨by first | omega | exact Nat.le_refl _⟩, ⟨kk BK209⟩, ⟨bb HB⟩⟩
  rw [if_neg c6] at H
  have c6b0 : decide (a1 < 0) = false := decide_eq_false c6
  clear c6
  (first | rw [c6b0] | (simp only [i64_w, i32_w]; rw [c6b0]) | skip)
  have H' := Aside0.mk H
  clear H
  obtain ⟨hcz7_0, hcz7_1, hcz7_2, hfz7_0, hfz7_1, hfz7_2⟩ := cf3 BK209.out
  go_wp2
  go_meet
  case rel => exact ⟨_, (decide (a1 ≥ (l0_1.length : Int))), rs, H', ⟨by first | omega | exact Nat.le_refl _⟩, ⟨kk BK209⟩, ⟨bb HB⟩⟩
 case rest =>
  clear HC4
  try clear p2
  try clear c5
  try clear c6
  try clear c6b0
  try clear hcz7_0 hcz7_1 hcz7_2 hfz7_0 hfz7_1 hfz7_2
  obtain ⟨kq, x15_3, rfl, HA, HJ3, BK209, HB⟩ := hcut
  cases kq with
  | zero => exact absurd HA.out (by simp [r8_at.j0])
  | succ kj3 =>
   have H := HA.out
   clear HA
   simp only [r8_at.j0] at H
   by_cases c8 : x15_3 = true
   ·subst c8
    replace H := it H
    obtain rfl := Option.some.inj H
    go_wp2
    go_ret
    exact ⟨rr, bb HB⟩
   replace c8 := Bool.eq_false_iff.mpr c8
   subst c8
   replace H := fi H
   by_cases c9 : 0 ≤ a1
   rotate_left
   ·rw [if_neg c9] at H
    exact absurd H (by simp)
   rw [if_pos c9] at H
   have c9b0 : decide (0 ≤ a1) = true := decide_eq_true c9
   clear c9
   by_cases c10 : a1 < (l0_1.length : Int)
   rotate_left
   ·rw [if_neg c10] at H
    exact absurd H (by simp)
   rw [if_pos c10] at H
   have c10b0 : decide (a1 < (l0_1.length : Int)) = true := decide_eq_true c10
   clear c10
   by_cases c11 : ((rd_T42 l0_1 a1).f2) > 1
   rotate_left
   ·rw [if_neg c11] at H
    have c11b0 : decide (1 < ((rd_T42 l0_1 a1).f2)) = false := decide_eq_false c11
    clear c11
    obtain rfl := Option.some.inj H
    obtain ⟨hcz14_0, hcz14_1, hcz14_2, hfz14_0, hfz14_1, hfz14_2⟩ := cf3 BK209.out
    have p210 : 0 ≤ (a1 : Int) := od
    have q210 : a1 < (l0_1.length : Int) := od
    obtain ⟨ad210, e210, hx210_0, hx210_1, hx210_2⟩ := at_T42 HR0_1.out a1 p210 q210
    cases e210
    replace hx210_0 := bcell HB.out hx210_0
    replace hx210_1 := bcell HB.out hx210_1
    replace hx210_2 := bcell HB.out hx210_2
    replace p210 := eq_true p210
    replace q210 := eq_true q210
    go_wp2
    go_ret
    exact ⟨rr, bb HB⟩
   rw [if_pos c11] at H
   have c11b0 : decide (1 < ((rd_T42 l0_1 a1).f2)) = true := decide_eq_true c11
   clear c11
   obtain ⟨t211, A12, H⟩ := be H
   obtain rfl := Option.some.inj H
   obtain ⟨hcz13_0, hcz13_1, hcz13_2, hfz13_0, hfz13_1, hfz13_2⟩ := cf3 BK209.out
   have p210 : 0 ≤ (a1 : Int) := od
   have q210 : a1 < (l0_1.length : Int) := od
   obtain ⟨ad210, e210, hx210_0, hx210_1, hx210_2⟩ := at_T42 HR0_1.out a1 p210 q210
   cases e210
   replace hx210_0 := bcell HB.out hx210_0
   replace hx210_1 := bcell HB.out hx210_1
   replace hx210_2 := bcell HB.out hx210_2
   replace p210 := eq_true p210
   replace q210 := eq_true q210
   go_wp2_with (first | ((with_reducible refine gate_callee (f := 49) rfl ?_); refine gL (some 24) rfl rfl Try.func49 #[.int .i64 a2] rfl ?_; (with_reducible refine (r8_reg.calls a2 t211 _ A12.out).mono ?_); rintro e w' ⟨rfl, ⟨nd, rfl⟩⟩; refine ⟨_, rfl, ?_⟩))
   go_ret
   exact ⟨rr, bb HB⟩
end Go.Proofs.Ytnlekgadadifdaa.Print
namespace Go.Proofs.Ytnlekgadadifdaa.Print
open Go.RowKit Go.Proofs.YtnlekgadadifdaaW.PrintWords Go.Proofs.YtnlekgadadifdaaW.PrintLast Go.Proofs.YtnlekgadadifdaaW.PrintMore
attribute [local go_sem] max2_int min2_int max_two min_two max_three min_three max_four min_four
set_option linter.unusedVariables false
set_option linter.unusedSimpArgs false
open Go.RowKit
theorem dr0_below {w w' : World} (h : Drawn0 w w') : Below w.heap.size w w' := by
  obtain ⟨n, rfl⟩ := h
  exact bdN (Below.refl _ _) n
def regP (r : Int) : Prop := 0 ≤ r ∧ r < 64
def rightP (k : Nat) (wd : Int) (l1 : List S42) (ins : List S40) (i : S40) : Prop :=
  (i.f0 = 0 ∧ regP i.f1 ∧ r1_Word.f k wd i.f2 = some true ∧ i.f3 = 0 ∧ i.f4 = 0) ∨
  (i.f0 = 1 ∧ regP i.f1 ∧ regP i.f3 ∧ r1_Two.f i.f2 = some true ∧ regP i.f4) ∨
  (i.f0 = 1 ∧ regP i.f1 ∧ regP i.f3 ∧ i.f2 = 12 ∧ i.f4 = 0) ∨
  (i.f0 = 2 ∧ regP i.f1 ∧ regP i.f2 ∧ regP i.f3 ∧ regP i.f4) ∨
  (i.f0 = 3 ∧ regP i.f1 ∧ r8_at.f k wd l1 ins i.f2 i.f3 = some true ∧ i.f4 = 0) ∨
  (i.f0 = 4 ∧ r8_at.f k wd l1 ins i.f1 i.f2 = some true ∧ regP i.f3 ∧ i.f4 = 0) ∨
  (i.f0 = 5 ∧ 0 ≤ i.f1 ∧ i.f1 < ins.length ∧ i.f2 = 0 ∧ i.f3 = 0 ∧ i.f4 = 0) ∨
  (i.f0 = 6 ∧ regP i.f1 ∧ 0 ≤ i.f2 ∧ i.f2 < ins.length ∧ i.f3 = 0 ∧ i.f4 = 0) ∨
  (i.f0 = 7 ∧ 0 ≤ i.f1 ∧ i.f1 ≤ 47 ∧ regP i.f2 ∧ i.f3 = 0 ∧ i.f4 = 0) ∨
  ((i.f0 = 8 ∨ i.f0 = 9 ∨ i.f0 = 10) ∧ regP i.f1 ∧ i.f2 = 0 ∧ i.f3 = 0 ∧ i.f4 = 0) ∨
  i = ⟨11, 0, 0, 0, 0⟩
theorem reg_true {r : Int} (h : regP r) : r8_reg.f r = some true := by
  unfold r8_reg.f
  rw [if_pos h.1, decide_eq_true h.2]
theorem code_right.calls (k : Nat) (wd : Int) (Av : Option Addr) (cv : Nat) (l1 : List S42) (Ai : Option Addr) (ci : Nat) (ins : List S40) (i : S40) (w : World) (hr1 : Kd.C k42 w Av l1.length l1) (hc1 : l1.length ≤ cv) (hr2 : Kd.C k40 w Ai ins.length ins) (hc2 : ins.length ≤ ci) (h : rightP k wd l1 ins i) :
    Calls Try.prog 32 #[.agg #[.int .i64 wd, .slice Av l1.length cv, .slice Ai ins.length ci], .agg #[.int .i64 i.f0, .int .i64 i.f1, .int .i64 i.f2, .int .i64 i.f3, .int .i64 i.f4]] w fun e w' => e = .returned (.bool true) ∧ Below w.heap.size w w' := by
  have huC := Try.underlying31
  have huI := Try.underlying40
  obtain ⟨op, a, b, c, d⟩ := i
  have HR1 := Aside0.mk hr1
  have HC1 := Aside0.mk hc1
  have HR2 := Aside0.mk hr2
  have HC2 := Aside0.mk hc2
  unfold rightP at h
  dsimp only at h ⊢
  have BA := Aside0.mk (bal (bal (Below.refl w.heap.size w) (.cells #[.int .i64 wd, .slice Av l1.length cv, .slice Ai ins.length ci] 31)) (.cells #[.int .i64 op, .int .i64 a, .int .i64 b, .int .i64 c, .int .i64 d] 40))
  have x0 := kal (blk_new w (.cells #[.int .i64 wd, .slice Av l1.length cv, .slice Ai ins.length ci] 31)) (.cells #[.int .i64 op, .int .i64 a, .int .i64 b, .int .i64 c, .int .i64 d] 40)
  have x1 := blk_new (w.alloc (.cells #[.int .i64 wd, .slice Av l1.length cv, .slice Ai ins.length ci] 31)) (.cells #[.int .i64 op, .int .i64 a, .int .i64 b, .int .i64 c, .int .i64 d] 40)
  rw [show (w.alloc (.cells #[.int .i64 wd, .slice Av l1.length cv, .slice Ai ins.length ci] 31)).heap.size = w.heap.size + 1 by simp] at x1
  have X0 := Aside0.mk x0
  have X1 := Aside0.mk x1
  clear hr1 hc1 hr2 hc2 x0 x1
  go_enter Try.func32, Try.ntmps32
  go_upto_region 1 with (fail)
  generalize (w.alloc (.cells #[.int .i64 wd, .slice Av l1.length cv, .slice Ai ins.length ci] 31)).alloc (.cells #[.int .i64 op, .int .i64 a, .int .i64 b, .int .i64 c, .int .i64 d] 40) = W at BA X0 X1 ⊢
  have st : ∀ Y, Below W.heap.size W Y → (Y.cell? ⟨w.heap.size, 0, none⟩ = some (.int .i64 wd) ∧ Y.cell? ⟨w.heap.size, 1, none⟩ = some (.slice Av l1.length cv) ∧ Y.cell? ⟨w.heap.size, 2, none⟩ = some (.slice Ai ins.length ci)) ∧ (Y.cell? ⟨w.heap.size + 1, 0, none⟩ = some (.int .i64 op) ∧ Y.cell? ⟨w.heap.size + 1, 1, none⟩ = some (.int .i64 a) ∧ Y.cell? ⟨w.heap.size + 1, 2, none⟩ = some (.int .i64 b) ∧ Y.cell? ⟨w.heap.size + 1, 3, none⟩ = some (.int .i64 c) ∧ Y.cell? ⟨w.heap.size + 1, 4, none⟩ = some (.int .i64 d)) := fun Y hY => ⟨⟨(blk_cell (blk_below X0.out hY) 0).trans rfl, (blk_cell (blk_below X0.out hY) 1).trans rfl, (blk_cell (blk_below X0.out hY) 2).trans rfl⟩, ⟨(blk_cell (blk_below X1.out hY) 0).trans rfl, (blk_cell (blk_below X1.out hY) 1).trans rfl, (blk_cell (blk_below X1.out hY) 2).trans rfl, (blk_cell (blk_below X1.out hY) 3).trans rfl, (blk_cell (blk_below X1.out hY) 4).trans rfl⟩⟩
  have ST := Aside0.mk st
  obtain ⟨⟨p0, p1, p2⟩, i0, i1, i2, i3, i4⟩ := st W (Below.refl _ _)
  clear st
  rcases h with h | h | h | h | h | h | h | h | h | h | h
  · obtain ⟨rfl, h1, h2, rfl, rfl⟩ := h
    have BW := Aside0.mk (Below.refl W.heap.size W)
    go_wp2_with (first | (go_at_call 49; (with_reducible refine (r8_reg.calls a true W (reg_true h1)).mono ?_); rintro e Y0 ⟨rfl, hb_⟩; have BY0 := Aside0.mk (BW.out.trans ((dr0_below hb_).mono BW.out.size)); obtain ⟨⟨p0, p1, p2⟩, i0, i1, i2, i3, i4⟩ := ST.out _ BY0.out; clear hb_))
    go_wp2_with (first | (go_at_call 50; (with_reducible refine (r1_Word.calls k wd b true Y0 h2).mono ?_); rintro e Y1 ⟨rfl, hb_⟩; have BY1 := Aside0.mk (BY0.out.trans ((dr0_below hb_).mono BY0.out.size)); obtain ⟨⟨p0, p1, p2⟩, i0, i1, i2, i3, i4⟩ := ST.out _ BY1.out; clear hb_))
    go_ret
    exact ⟨rfl, BA.out.trans (BY1.out.mono BA.out.size)⟩
  · obtain ⟨rfl, h1, h3, h2, h4⟩ := h
    have BW := Aside0.mk (Below.refl W.heap.size W)
    go_wp2_with (first | (go_at_call 49; (with_reducible refine (r8_reg.calls a true W (reg_true h1)).mono ?_); rintro e Y0 ⟨rfl, hb_⟩; have BY0 := Aside0.mk (BW.out.trans ((dr0_below hb_).mono BW.out.size)); obtain ⟨⟨p0, p1, p2⟩, i0, i1, i2, i3, i4⟩ := ST.out _ BY0.out; clear hb_))
    go_wp2_with (first | (go_at_call 49; (with_reducible refine (r8_reg.calls c true Y0 (reg_true h3)).mono ?_); rintro e Y1 ⟨rfl, hb_⟩; have BY1 := Aside0.mk (BY0.out.trans ((dr0_below hb_).mono BY0.out.size)); obtain ⟨⟨p0, p1, p2⟩, i0, i1, i2, i3, i4⟩ := ST.out _ BY1.out; clear hb_))
    go_wp2_with (first | (go_at_call 51; (with_reducible refine (r1_Two.calls b true Y1 h2).mono ?_); rintro e Y2 ⟨rfl, hb_⟩; have BY2 := Aside0.mk (BY1.out.trans ((dr0_below hb_).mono BY1.out.size)); obtain ⟨⟨p0, p1, p2⟩, i0, i1, i2, i3, i4⟩ := ST.out _ BY2.out; clear hb_))
    go_wp2_with (first | (go_at_call 49; (with_reducible refine (r8_reg.calls d true Y2 (reg_true h4)).mono ?_); rintro e Y3 ⟨rfl, hb_⟩; have BY3 := Aside0.mk (BY2.out.trans ((dr0_below hb_).mono BY2.out.size)); obtain ⟨⟨p0, p1, p2⟩, i0, i1, i2, i3, i4⟩ := ST.out _ BY3.out; clear hb_))
    go_ret
    exact ⟨rfl, BA.out.trans (BY3.out.mono BA.out.size)⟩
  · obtain ⟨rfl, h1, h3, rfl, rfl⟩ := h
    have BW := Aside0.mk (Below.refl W.heap.size W)
    go_wp2_with (first | (go_at_call 49; (with_reducible refine (r8_reg.calls a true W (reg_true h1)).mono ?_); rintro e Y0 ⟨rfl, hb_⟩; have BY0 := Aside0.mk (BW.out.trans ((dr0_below hb_).mono BW.out.size)); obtain ⟨⟨p0, p1, p2⟩, i0, i1, i2, i3, i4⟩ := ST.out _ BY0.out; clear hb_))
    go_wp2_with (first | (go_at_call 49; (with_reducible refine (r8_reg.calls c true Y0 (reg_true h3)).mono ?_); rintro e Y1 ⟨rfl, hb_⟩; have BY1 := Aside0.mk (BY0.out.trans ((dr0_below hb_).mono BY0.out.size)); obtain ⟨⟨p0, p1, p2⟩, i0, i1, i2, i3, i4⟩ := ST.out _ BY1.out; clear hb_))
    go_wp2_with (first | (go_at_call 51; (with_reducible refine (r1_Two.calls 12 false Y1 (by decide)).mono ?_); rintro e Y2 ⟨rfl, hb_⟩; have BY2 := Aside0.mk (BY1.out.trans ((dr0_below hb_).mono BY1.out.size)); obtain ⟨⟨p0, p1, p2⟩, i0, i1, i2, i3, i4⟩ := ST.out _ BY2.out; clear hb_))
    go_ret
    exact ⟨rfl, BA.out.trans (BY2.out.mono BA.out.size)⟩
  · obtain ⟨rfl, h1, h2, h3, h4⟩ := h
    have BW := Aside0.mk (Below.refl W.heap.size W)
    go_wp2_with (first | (go_at_call 49; (with_reducible refine (r8_reg.calls a true W (reg_true h1)).mono ?_); rintro e Y0 ⟨rfl, hb_⟩; have BY0 := Aside0.mk (BW.out.trans ((dr0_below hb_).mono BW.out.size)); obtain ⟨⟨p0, p1, p2⟩, i0, i1, i2, i3, i4⟩ := ST.out _ BY0.out; clear hb_))
    go_wp2_with (first | (go_at_call 49; (with_reducible refine (r8_reg.calls b true Y0 (reg_true h2)).mono ?_); rintro e Y1 ⟨rfl, hb_⟩; have BY1 := Aside0.mk (BY0.out.trans ((dr0_below hb_).mono BY0.out.size)); obtain ⟨⟨p0, p1, p2⟩, i0, i1, i2, i3, i4⟩ := ST.out _ BY1.out; clear hb_))
    go_wp2_with (first | (go_at_call 49; (with_reducible refine (r8_reg.calls c true Y1 (reg_true h3)).mono ?_); rintro e Y2 ⟨rfl, hb_⟩; have BY2 := Aside0.mk (BY1.out.trans ((dr0_below hb_).mono BY1.out.size)); obtain ⟨⟨p0, p1, p2⟩, i0, i1, i2, i3, i4⟩ := ST.out _ BY2.out; clear hb_))
    go_wp2_with (first | (go_at_call 49; (with_reducible refine (r8_reg.calls d true Y2 (reg_true h4)).mono ?_); rintro e Y3 ⟨rfl, hb_⟩; have BY3 := Aside0.mk (BY2.out.trans ((dr0_below hb_).mono BY2.out.size)); obtain ⟨⟨p0, p1, p2⟩, i0, i1, i2, i3, i4⟩ := ST.out _ BY3.out; clear hb_))
    go_ret
    exact ⟨rfl, BA.out.trans (BY3.out.mono BA.out.size)⟩
  · obtain ⟨rfl, h1, h2, rfl⟩ := h
    have BW := Aside0.mk (Below.refl W.heap.size W)
    go_wp2_with (first | (go_at_call 49; (with_reducible refine (r8_reg.calls a true W (reg_true h1)).mono ?_); rintro e Y0 ⟨rfl, hb_⟩; have BY0 := Aside0.mk (BW.out.trans ((dr0_below hb_).mono BW.out.size)); obtain ⟨⟨p0, p1, p2⟩, i0, i1, i2, i3, i4⟩ := ST.out _ BY0.out; clear hb_))
    go_wp2_with (first | (go_at_call 52; (with_reducible refine (r8_at.calls k wd Av cv l1 Ai ci ins b c true Y0 (Kd.C_below HR1.out (BA.out.trans (BY0.out.mono BA.out.size))) HC1.out (Kd.C_below HR2.out (BA.out.trans (BY0.out.mono BA.out.size))) HC2.out h2).mono ?_); rintro e Y1 ⟨rfl, hb_⟩; have BY1 := Aside0.mk (BY0.out.trans ((hb_).mono BY0.out.size)); obtain ⟨⟨p0, p1, p2⟩, i0, i1, i2, i3, i4⟩ := ST.out _ BY1.out; clear hb_))
    go_ret
    exact ⟨rfl, BA.out.trans (BY1.out.mono BA.out.size)⟩
  · obtain ⟨rfl, h2, h3, rfl⟩ := h
    have BW := Aside0.mk (Below.refl W.heap.size W)
    go_wp2_with (first | (go_at_call 52; (with_reducible refine (r8_at.calls k wd Av cv l1 Ai ci ins a b true W (Kd.C_below HR1.out (BA.out.trans (BW.out.mono BA.out.size))) HC1.out (Kd.C_below HR2.out (BA.out.trans (BW.out.mono BA.out.size))) HC2.out h2).mono ?_); rintro e Y0 ⟨rfl, hb_⟩; have BY0 := Aside0.mk (BW.out.trans ((hb_).mono BW.out.size)); obtain ⟨⟨p0, p1, p2⟩, i0, i1, i2, i3, i4⟩ := ST.out _ BY0.out; clear hb_))
    go_wp2_with (first | (go_at_call 49; (with_reducible refine (r8_reg.calls c true Y0 (reg_true h3)).mono ?_); rintro e Y1 ⟨rfl, hb_⟩; have BY1 := Aside0.mk (BY0.out.trans ((dr0_below hb_).mono BY0.out.size)); obtain ⟨⟨p0, p1, p2⟩, i0, i1, i2, i3, i4⟩ := ST.out _ BY1.out; clear hb_))
    go_ret
    exact ⟨rfl, BA.out.trans (BY1.out.mono BA.out.size)⟩
  · obtain ⟨rfl, h1, h2, rfl, rfl, rfl⟩ := h
    have BW := Aside0.mk (Below.refl W.heap.size W)
    go_wp2_with (first | (go_at_call 53; (with_reducible refine (r8_place.calls wd Av cv l1 Ai ci ins a true W (Kd.C_below HR1.out (BA.out.trans (BW.out.mono BA.out.size))) HC1.out (Kd.C_below HR2.out (BA.out.trans (BW.out.mono BA.out.size))) HC2.out (by unfold r8_place.f; rw [if_pos h1, decide_eq_true h2])).mono ?_); rintro e Y0 ⟨rfl, hb_⟩; have BY0 := Aside0.mk (BW.out.trans ((hb_).mono BW.out.size)); obtain ⟨⟨p0, p1, p2⟩, i0, i1, i2, i3, i4⟩ := ST.out _ BY0.out; clear hb_))
    go_ret
    exact ⟨rfl, BA.out.trans (BY0.out.mono BA.out.size)⟩
  · obtain ⟨rfl, h1, h2, h3, rfl, rfl⟩ := h
    have BW := Aside0.mk (Below.refl W.heap.size W)
    go_wp2_with (first | (go_at_call 49; (with_reducible refine (r8_reg.calls a true W (reg_true h1)).mono ?_); rintro e Y0 ⟨rfl, hb_⟩; have BY0 := Aside0.mk (BW.out.trans ((dr0_below hb_).mono BW.out.size)); obtain ⟨⟨p0, p1, p2⟩, i0, i1, i2, i3, i4⟩ := ST.out _ BY0.out; clear hb_))
    go_wp2_with (first | (go_at_call 53; (with_reducible refine (r8_place.calls wd Av cv l1 Ai ci ins b true Y0 (Kd.C_below HR1.out (BA.out.trans (BY0.out.mono BA.out.size))) HC1.out (Kd.C_below HR2.out (BA.out.trans (BY0.out.mono BA.out.size))) HC2.out (by unfold r8_place.f; rw [if_pos h2, decide_eq_true h3])).mono ?_); rintro e Y1 ⟨rfl, hb_⟩; have BY1 := Aside0.mk (BY0.out.trans ((hb_).mono BY0.out.size)); obtain ⟨⟨p0, p1, p2⟩, i0, i1, i2, i3, i4⟩ := ST.out _ BY1.out; clear hb_))
    go_ret
    exact ⟨rfl, BA.out.trans (BY1.out.mono BA.out.size)⟩
  · obtain ⟨rfl, h1, h2, h3, rfl, rfl⟩ := h
    have d1 : decide (0 ≤ a) = true := decide_eq_true h1
    have d2 : decide (a ≤ 47) = true := decide_eq_true h2
    have BW := Aside0.mk (Below.refl W.heap.size W)
    go_wp2_with (first | (go_at_call 49; (with_reducible refine (r8_reg.calls b true W (reg_true h3)).mono ?_); rintro e Y0 ⟨rfl, hb_⟩; have BY0 := Aside0.mk (BW.out.trans ((dr0_below hb_).mono BW.out.size)); obtain ⟨⟨p0, p1, p2⟩, i0, i1, i2, i3, i4⟩ := ST.out _ BY0.out; clear hb_))
    go_ret
    exact ⟨rfl, BA.out.trans (BY0.out.mono BA.out.size)⟩
  · obtain ⟨h0, h1, rfl, rfl, rfl⟩ := h
    rcases h0 with rfl | rfl | rfl
    all_goals
      have BW := Aside0.mk (Below.refl W.heap.size W)
      go_wp2_with (first | (go_at_call 49; (with_reducible refine (r8_reg.calls a true W (reg_true h1)).mono ?_); rintro e Y0 ⟨rfl, hb_⟩; have BY0 := Aside0.mk (BW.out.trans ((dr0_below hb_).mono BW.out.size)); obtain ⟨⟨p0, p1, p2⟩, i0, i1, i2, i3, i4⟩ := ST.out _ BY0.out; clear hb_))
      go_ret
      exact ⟨rfl, BA.out.trans (BY0.out.mono BA.out.size)⟩
  · injection h with h0 h1 h2 h3 h4
    subst h0 h1 h2 h3 h4
    go_wp2
    go_ret
    exact ⟨rfl, BA.out⟩
theorem code_Is.calls (k : Nat) (wd : Int) (Av : Option Addr) (cv : Nat) (l1 : List S42) (Ai : Option Addr) (ci : Nat) (ins : List S40) (w : World) (hr1 : Kd.C k42 w Av l1.length l1) (hc1 : l1.length ≤ cv) (hr2 : Kd.C k40 w Ai ins.length ins) (hc2 : ins.length ≤ ci) (hH : r2_Heading.f k wd l1 = some true) (h0 : 1 ≤ ins.length) (h1 : ins.length ≤ 4000) (hR : ∀ j : Nat, j < ins.length → rightP k wd l1 ins (rd_T40 ins j)) (hl : (rd_T40 ins ((ins.length : Int) - 1)).f0 = 5 ∨ (rd_T40 ins ((ins.length : Int) - 1)).f0 = 11) :
    Calls Try.prog 20 #[.agg #[.int .i64 wd, .slice Av l1.length cv, .slice Ai ins.length ci]] w fun e w' => e = .returned (.bool true) ∧ Below w.heap.size w w' := by
  have huC := Try.underlying31
  have HR1 := Aside0.mk hr1
  have HC1 := Aside0.mk hc1
  have HR2 := Aside0.mk hr2
  have HC2 := Aside0.mk hc2
  have HRI := Aside0.mk hR
  have HH := Aside0.mk hH
  have BA := Aside0.mk (bal (Below.refl w.heap.size w) (.cells #[.int .i64 wd, .slice Av l1.length cv, .slice Ai ins.length ci] 31))
  have X0 := Aside0.mk (blk_new w (.cells #[.int .i64 wd, .slice Av l1.length cv, .slice Ai ins.length ci] 31))
  obtain ⟨ad, rfl, j0, j1, j2, j3, j4⟩ := at_T40 hr2 ((ins.length : Int) - 1) (by omega) (by omega)
  have J0 := Aside0.mk j0
  obtain ⟨lo, hlo⟩ : ∃ lo, (rd_T40 ins ((ins.length : Int) - 1)).f0 = lo := ⟨_, rfl⟩
  rw [hlo] at hl
  have HLO := Aside0.mk hlo
  clear hr1 hc1 hr2 hc2 hR hH j0 j1 j2 j3 j4 hlo
  go_enter Try.func20, Try.ntmps20
  have d1 : decide ((ins.length : Int) < 1) = false := decide_eq_false (by omega)
  have d2 : decide ((4000 : Int) < (ins.length : Int)) = false := decide_eq_false (by omega)
  go_upto_region 3 with (first | (go_at_call 13; (with_reducible refine (r2_Heading.calls k wd _ _ l1 true _ (Kd.C_below HR1.out BA.out) HC1.out HH.out).mono ?_); rintro e W1 ⟨rfl, hb⟩; have B1 := Aside0.mk (BA.out.trans ((hb).mono BA.out.size)); have X1 := Aside0.mk (blk_below X0.out (hb)); have p2 : W1.cell? ⟨w.heap.size, 2, none⟩ = some (.slice (some ad) ins.length ci) := (blk_cell X1.out 2).trans rfl; clear hb))
  clear p2
  go_wp2
  go_loopg [3] ins.length (fun kq v3 X => ∃ j : Nat, v3 = .int .i64 (j : Int) ∧ Aside0 (j + kq = ins.length) ∧ Aside0 (Below w.heap.size w X) ∧ Aside0 (X.heap[w.heap.size]? = some (.cells #[.int .i64 wd, .slice Av l1.length cv, .slice (some ad) ins.length ci] 31 (0, 0))))
  case atStart => exact ⟨0, rfl, ⟨by omega⟩, B1, X1⟩
  case round =>
    clear B1 X1
    obtain ⟨j, rfl, HJ, BB, XX⟩ := hrel
    have p2 : wr.cell? ⟨w.heap.size, 2, none⟩ = some (.slice (some ad) ins.length ci) := (blk_cell XX.out 2).trans rfl
    cases gk with
    | zero =>
      have hj : j = ins.length := by have := HJ.out; omega
      subst hj
      have hd : decide ((ins.length : Int) < (ins.length : Int)) = false := decide_eq_false (by omega)
      have k0 := (BB.out.cell (World.block_lt_of_cell? w _ J0.out)).trans J0.out
      rw [HLO.out, show ((ins.length : Int) - 1).toNat = ins.length - 1 by omega] at k0
      have hw : IntKind.i64.wrap ((ins.length : Int) - 1) = (ins.length : Int) - 1 := by rw [i64_w]; unfold wrap64; omega
      have hb0 : (0 : Int) ≤ (ins.length : Int) - 1 := by omega
      have hb1 : (ins.length : Int) - 1 < (ins.length : Int) := by omega
      rcases hl with rfl | rfl
      all_goals
        go_wp2
        go_ret
        exact ⟨rfl, BB.out⟩
    | succ k1 =>
      have hj : j < ins.length := by have := HJ.out; omega
      have hd : decide ((j : Int) < (ins.length : Int)) = true := decide_eq_true (by omega)
      have hlt : (j : Int) < (ins.length : Int) := by omega
      have hw1 : IntKind.i64.wrap ((j : Int) + 1) = (j : Int) + 1 := by rw [i64_w]; unfold wrap64; omega
      obtain ⟨ad2, e2, i0, i1, i2, i3, i4⟩ := at_T40 HR2.out (j : Int) (by omega) (by omega)
      obtain rfl : ad = ad2 := by injection e2
      clear e2
      have BD := Aside0.mk (BB.out.trans ((below_drew (Below.refl _ _)).mono BB.out.size))
      have XD := Aside0.mk (kdr XX.out)
      rw [Int.toNat_natCast] at i0 i1 i2 i3 i4
      replace i0 := (BD.out.cell (World.block_lt_of_cell? w _ i0)).trans i0
      replace i1 := (BD.out.cell (World.block_lt_of_cell? w _ i1)).trans i1
      replace i2 := (BD.out.cell (World.block_lt_of_cell? w _ i2)).trans i2
      replace i3 := (BD.out.cell (World.block_lt_of_cell? w _ i3)).trans i3
      replace i4 := (BD.out.cell (World.block_lt_of_cell? w _ i4)).trans i4
      have RI := Aside0.mk (HRI.out j hj)
      generalize hri : rd_T40 ins (j : Int) = i at i0 i1 i2 i3 i4
      rw [hri] at RI
      have I0 := Aside0.mk i0
      have I1 := Aside0.mk i1
      have I2 := Aside0.mk i2
      have I3 := Aside0.mk i3
      have I4 := Aside0.mk i4
      clear hri i0 i1 i2 i3 i4
      go_wp2
      refine start_ (n := 8) (S := fun w' => w'.cell? ⟨w.heap.size, 0, none⟩ = some (.int .i64 wd) ∧ w'.cell? ⟨w.heap.size, 1, none⟩ = some (.slice Av l1.length cv) ∧ w'.cell? ⟨w.heap.size, 2, none⟩ = some (.slice (some ad) ins.length ci) ∧ w'.cell? (ad.add (j * 5)) = some (.int .i64 i.f0) ∧ w'.cell? ⟨(ad.add (j * 5)).block, (ad.add (j * 5)).off + 1, none⟩ = some (.int .i64 i.f1) ∧ w'.cell? ⟨(ad.add (j * 5)).block, (ad.add (j * 5)).off + 2, none⟩ = some (.int .i64 i.f2) ∧ w'.cell? ⟨(ad.add (j * 5)).block, (ad.add (j * 5)).off + 3, none⟩ = some (.int .i64 i.f3) ∧ w'.cell? ⟨(ad.add (j * 5)).block, (ad.add (j * 5)).off + 4, none⟩ = some (.int .i64 i.f4)) (ds := [6]) #[false, false, false, false, false, false, false, false] (by kernel_rfl) rfl rfl ⟨(blk_cell XD.out 0).trans rfl, (blk_cell XD.out 1).trans rfl, (blk_cell XD.out 2).trans rfl, I0.out, I1.out, I2.out, I3.out, I4.out⟩ (fun hHeld => ?_)
      generalize wr.drew = Y at BD XD I0 I1 I2 I3 I4 hHeld ⊢
      refine tk (i := 0) (N := some 30) (bl 8 1) rfl rfl (by kernel_rfl) hHeld ?_
      refine pu (i := 1) (N := some 31) (bl 8 3) rfl rfl (by kernel_rfl) ?_
      refine tk (i := 2) (N := some 32) (bl 8 7) rfl rfl (by kernel_rfl) hHeld ?_
      refine pu (i := 3) (N := some 33) (bl 8 15) rfl rfl (by kernel_rfl) ?_
      refine pu (i := 4) (N := some 34) (bl 8 31) rfl rfl (by kernel_rfl) ?_
      refine tk (i := 5) (N := some 35) (bl 8 63) rfl rfl (by kernel_rfl) hHeld ?_
      refine last_ (i := 6) (N := (some 36)) (bl 8 127) rfl rfl (by kernel_rfl) (by decide) (fun K hK => ?_)
      refine goes_ Try.func32 (by kernel_rfl) rfl #[.agg #[.int .i64 wd, .slice Av l1.length cv, .slice (some ad) ins.length ci], .agg #[.int .i64 i.f0, .int .i64 i.f1, .int .i64 i.f2, .int .i64 i.f3, .int .i64 i.f4]] (by rfl) rfl rfl (by (try simp only [List.map_toArray, List.map_cons, List.map_nil]); rfl) ?_
      refine (code_right.calls k wd Av cv l1 (some ad) ci ins i Y (Kd.C_below HR1.out BD.out) HC1.out (Kd.C_below HR2.out BD.out) HC2.out RI.out).mono ?_
      rintro e Y2 ⟨rfl, hb⟩
      have BE := Aside0.mk (BD.out.trans (hb.mono BD.out.size))
      have XE := Aside0.mk (blk_below XD.out hb)
      clear hb BD XD I0 I1 I2 I3 I4
      refine ⟨_, rfl, ?_⟩
      refine hK.out _ _ ?_
      clear hK K
      refine nm 36 ?_
      refine pu (i := 7) (N := some 37) (bl 8 255) rfl rfl (by kernel_rfl) ?_
      refine done_ (by kernel_rfl) ?_
      clear p2
      go_wp2
      go_roundg k1
      case measure => omega
      case rel => exact ⟨j + 1, by simp, ⟨by have := HJ.out; omega⟩, BE, XE⟩
theorem infoIns : (Try.prog.info? 40).map (fun i => (i.zero, i.size, i.bytes)) = some (some (.agg #[.int .i64 0, .int .i64 0, .int .i64 0, .int .i64 0, .int .i64 0]), 5, 40) := by kernel_rfl
def CSt (W : World) (B b : Nat) (Q : Nat → Prop) (v1 v2 v3 : Value) (I : List S40) (P : List Int) : Prop :=
  ∃ (A : Option Addr) (c : Nat) (A' : Option Addr) (c' : Nat), W.heap[b]? = some (.cells #[.slice A I.length c, v1, v2, v3, .slice A' P.length c'] 75 (0, 0)) ∧ Kd.R k40 40 W B Q (.slice A I.length c) I ∧ Kd.R (Kd.int .i64) 3 W B Q (.slice A' P.length c') P
theorem CSt.step {W W' : World} {B b : Nat} {Q : Nat → Prop} {v1 v2 v3 : Value} {I : List S40} {P : List Int} (h : CSt W B b Q v1 v2 v3 I P) (hm : ∀ k, Q k ∨ k = b → k < W.heap.size → W'.heap[k]? = W.heap[k]?) : CSt W' B b Q v1 v2 v3 I P := by
  obtain ⟨A, c, A', c', h1, h2, h3⟩ := h
  exact ⟨A, c, A', c', (hm b (.inr rfl) (blk_lt h1)).trans h1, Kd.R_step h2 (fun k hk hl => hm k (.inl hk) hl), Kd.R_step h3 (fun k hk hl => hm k (.inl hk) hl)⟩
theorem CSt.below {W W' : World} {B b : Nat} {Q : Nat → Prop} {v1 v2 v3 : Value} {I : List S40} {P : List Int} (h : CSt W B b Q v1 v2 v3 I P) (hb : Below W.heap.size W W') : CSt W' B b Q v1 v2 v3 I P := h.step (fun k _ hl => hb.block k hl)
theorem CSt.mono {W : World} {B b : Nat} {Q Q' : Nat → Prop} {v1 v2 v3 : Value} {I : List S40} {P : List Int} (h : CSt W B b Q v1 v2 v3 I P) (hq : ∀ k, Q k → k < W.heap.size → Q' k) : CSt W B b Q' v1 v2 v3 I P := by
  obtain ⟨A, c, A', c', h1, h2, h3⟩ := h
  exact ⟨A, c, A', c', h1, Kd.R_mono (Kd.R_bound h2) (fun k hk => hq k hk.1 hk.2.2.1), Kd.R_mono (Kd.R_bound h3) (fun k hk => hq k hk.1 hk.2.2.1)⟩
theorem CSt.bound {W : World} {B b : Nat} {Q : Nat → Prop} {v1 v2 v3 : Value} {I : List S40} {P : List Int} (h : CSt W B b Q v1 v2 v3 I P) : CSt W B b (fun k => Q k ∧ k < W.heap.size) v1 v2 v3 I P := h.mono (fun _ h1 h2 => ⟨h1, h2⟩)
theorem CSt.lt {W : World} {B b : Nat} {Q : Nat → Prop} {v1 v2 v3 : Value} {I : List S40} {P : List Int} (h : CSt W B b Q v1 v2 v3 I P) : b < W.heap.size := by
  obtain ⟨A, c, A', c', h1, h2, h3⟩ := h
  exact blk_lt h1
theorem CSt.set {W : World} {B b : Nat} {Q : Nat → Prop} {v1 v2 v3 : Value} {I : List S40} {P : List Int} (h : CSt W B b Q v1 v2 v3 I P) {p : Addr} (hp : ¬ Q p.block) (hb : p.block ≠ b) (u : Value) : CSt (W.setCell p u) B b Q v1 v2 v3 I P :=
  h.step (fun k hk _ => Below.heap_setCell _ _ _ _ (fun e => by subst e; rcases hk with hk | hk; exact hp hk; exact hb hk))
theorem comp_here.calls (w : World) (B b : Nat) (Q : Nat → Prop) (v1 v2 v3 : Value) (I : List S40) (P : List Int) (h : CSt w B b Q v1 v2 v3 I P) :
    Calls Try.prog 62 #[.pointer (some ⟨b, 0, none⟩)] w fun e w' => e = .returned (.int .i64 I.length) ∧ Below w.heap.size w w' := by
  obtain ⟨A, c, A', c', h1, h2, h3⟩ := h
  have q0 : w.cell? ⟨b, 0, none⟩ = some (.slice A I.length c) := (blk_cell h1 0).trans rfl
  have hI := (Kd.R_reads' h2).2.2.2.1
  clear h1 h2 h3
  go_enter Try.func62, Try.ntmps62
  go_wp2
  go_ret
  exact ⟨rfl, Below.refl _ _⟩
theorem comp_put.calls (w0 w : World) (b : Nat) (Q : Nat → Prop) (v1 v2 v3 : Value) (I : List S40) (P : List Int) (x : S40) (hB : Below w0.heap.size w0 w) (hb : w0.heap.size ≤ b) (h : CSt w w0.heap.size b Q v1 v2 v3 I P) (hI : I.length < 1000000) :
    Calls Try.prog 39 #[.pointer (some ⟨b, 0, none⟩), .agg #[.int .i64 x.f0, .int .i64 x.f1, .int .i64 x.f2, .int .i64 x.f3, .int .i64 x.f4]] w fun e w' => e = .returned (.int .i64 I.length) ∧ CSt w' w0.heap.size b (fun k => Q k ∨ w.heap.size ≤ k) v1 v2 v3 (I ++ [x]) P ∧ Below w0.heap.size w0 w' ∧ Kept w w' (fun k => Q k ∨ k = b) := by
  obtain ⟨A, c, A', c', h1, h2, h3⟩ := h
  have huI := Try.underlying29
  have huO := Try.underlying73
  have h1l := blk_lt h1
  have hIl : ((I.length : Nat) : Int) + 1 - 1 = (I.length : Int) := by omega
  have AL := bal (Below.refl w.heap.size w) (.cells #[.int .i64 x.f0, .int .i64 x.f1, .int .i64 x.f2, .int .i64 x.f3, .int .i64 x.f4] 40)
  have hX : (w.alloc (.cells #[.int .i64 x.f0, .int .i64 x.f1, .int .i64 x.f2, .int .i64 x.f3, .int .i64 x.f4] 40)).heap[w.heap.size]? = _ := blk_new w _
  have H1 := Aside0.mk h1
  have H2 := Aside0.mk h2
  have H3 := Aside0.mk h3
  have HB := Aside0.mk hB
  have HX := Aside0.mk hX
  have HA := Aside0.mk AL
  have hsz0 : (w.alloc (.cells #[.int .i64 x.f0, .int .i64 x.f1, .int .i64 x.f2, .int .i64 x.f3, .int .i64 x.f4] 40)).heap.size = w.heap.size + 1 := by simp
  have hsz := Aside0.mk hsz0
  clear hsz0
  clear h1 h2 h3 hB hX AL
  go_enter Try.func39, Try.ntmps39
  go_wp2
  generalize hW1 : w.alloc (.cells #[.int .i64 x.f0, .int .i64 x.f1, .int .i64 x.f2, .int .i64 x.f3, .int .i64 x.f4] 40) = W1 at HX HA hsz ⊢
  have HD := Aside0.mk (below_drew HA.out)
  have HXd := Aside0.mk (kdr HX.out)
  have hszd := Aside0.mk (show W1.drew.heap.size = w.heap.size + 1 from hsz.out)
  have HC := Aside0.mk ((HD.out.block _ h1l).trans H1.out)
  refine start_ (n := 11) (S := fun w' => w'.cell? ⟨b, 0, none⟩ = some (.slice A I.length c) ∧ w'.cell? ⟨w.heap.size, 0, none⟩ = some (.int .i64 x.f0) ∧ w'.cell? ⟨w.heap.size, 1, none⟩ = some (.int .i64 x.f1) ∧ w'.cell? ⟨w.heap.size, 2, none⟩ = some (.int .i64 x.f2) ∧ w'.cell? ⟨w.heap.size, 3, none⟩ = some (.int .i64 x.f3) ∧ w'.cell? ⟨w.heap.size, 4, none⟩ = some (.int .i64 x.f4)) (ds := [7, 10]) #[false, false, false, false, false, false, false, false, false, false, false] (by kernel_rfl) rfl rfl ⟨(blk_cell HC.out 0).trans rfl, (blk_cell HXd.out 0).trans rfl, (blk_cell HXd.out 1).trans rfl, (blk_cell HXd.out 2).trans rfl, (blk_cell HXd.out 3).trans rfl, (blk_cell HXd.out 4).trans rfl⟩ (fun hHeld => ?_)
  generalize W1.drew = Y at HD HXd hszd HC hHeld ⊢
  refine pu (i := 0) (N := some 5) (bl 11 1) rfl rfl (by kernel_rfl) ?_
  refine pu (i := 1) (N := some 6) (bl 11 3) rfl rfl (by kernel_rfl) ?_
  refine pu (i := 2) (N := some 7) (bl 11 7) rfl rfl (by kernel_rfl) ?_
  refine pu (i := 3) (N := some 8) (bl 11 15) rfl rfl (by kernel_rfl) ?_
  refine tk (i := 4) (N := some 9) (bl 11 31) rfl rfl (by kernel_rfl) hHeld ?_
  refine tk (i := 5) (N := some 10) (bl 11 63) rfl rfl (by kernel_rfl) hHeld ?_
  refine one_ (i := 6) (N := (some 11)) (bl 11 127) rfl rfl (by kernel_rfl) (by decide) (fun K hK => ?_)
  refine value_ (w1 := ?_) (v := ?_) (by rfl) rfl ?_ ?_
  rotate_left 2
  · go_simp
    constructor
    · rfl
    · rfl
  refine hK.out _ _ ⟨(blk_cell (kal HC.out _) 0).trans rfl, (blk_cell (kal HXd.out _) 0).trans rfl, (blk_cell (kal HXd.out _) 1).trans rfl, (blk_cell (kal HXd.out _) 2).trans rfl, (blk_cell (kal HXd.out _) 3).trans rfl, (blk_cell (kal HXd.out _) 4).trans rfl⟩ (fun hHeld => ?_)
  clear hK K
  refine nm 11 ?_
  refine last_ (i := 7) (N := (some 12)) (bl 11 255) rfl rfl (by kernel_rfl) (by decide) (fun K hK => ?_)
  have hQY : ∀ k, Y.heap.size ≤ k → Q k ∨ w.heap.size ≤ k := fun k hk => .inr (by have := hszd.out; omega)
  have R2 := Kd.R_mono (Kd.R_below H2.out HD.out) (ok' := fun k => Q k ∨ w.heap.size ≤ k) (fun k hk => .inl hk)
  have R3 := Kd.R_mono (Kd.R_below H3.out HD.out) (ok' := fun k => Q k ∨ w.heap.size ≤ k) (fun k hk => .inl hk)
  have BY := HB.out.trans (HD.out.mono HB.out.size)
  refine Kd.R_append_step k40 (w0 := w0) w0.heap.size (by rfl) (.tmp 9) (.tmp 11) 29 40 (.agg #[.int .i64 0, .int .i64 0, .int .i64 0, .int .i64 0, .int .i64 0]) 40 rfl huI infoIns rfl (by decide) (by omega) (.slice A I.length c) I x [.int .i64 x.f0, .int .i64 x.f1, .int .i64 x.f2, .int .i64 x.f3, .int .i64 x.f4] (fun k => Q k ∨ w.heap.size ≤ k) (fun _ => False) rfl rfl (k40_mkM _ _ _ x) (fun _ hk => hk.elim) hQY R2 BY BY.size (by omega) ?_
  intro v2 w2 ho hb2 hg hat
  have RA := Kd.R_over' R3 (Kd.R_typed R2) (by decide) hg
  have HC2 := blk_grown HC.out hg (Kd.R_ne R2 HC.out (by decide))
  have hK2 := Kept.of_grown (S := fun k => Q k ∨ k = b) hg (show Kept w Y _ from Kept.of_below HD.out _) (fun k e => (R2.1 k e).imp .inl id)
  obtain ⟨A2, c2, rfl⟩ := Kd.R_slice ho
  have hl : (I ++ [x]).length = I.length + 1 := by simp
  rw [hl] at ho
  have HO2 := Aside0.mk ho
  have HP2 := Aside0.mk RA
  have HB2 := Aside0.mk hb2
  have HK2 := Aside0.mk hK2
  clear R2 R3 BY ho hb2 hg hat RA hK2 HX HD HXd H2 H3 HB HA H1
  refine hK.out _ _ ?_
  clear hK K
  refine nm 12 ?_
  refine pu (i := 8) (N := some 13) (bl 11 511) rfl rfl (by kernel_rfl) ?_
  refine pu (i := 9) (N := some 14) (bl 11 1023) rfl rfl (by kernel_rfl) ?_
  refine last_ (i := 10) (N := none) (bl 11 2047) rfl rfl (by kernel_rfl) (by decide) (fun K hK => ?_)
  have hc0 : w2.cell? ⟨b, 0, none⟩ = some (.slice A I.length c) := (blk_cell HC2 0).trans rfl
  have hf0 := blk_frozen HC2 0
  refine skip_ (w1 := ?_) (by rfl) rfl ?_ ?_
  rotate_left
  · go_simp
    rfl
  refine hK.out _ _ ?_
  clear hK K
  refine done_ (by kernel_rfl) ?_
  have T1 := blk_set HC2 0 (.slice A2 (I.length + 1) c2)
  have T2 := Kd.R_set HO2.out HC2 (by decide) 0 (.slice A2 (I.length + 1) c2)
  have T3 := Kd.R_set HP2.out HC2 (by decide) 0 (.slice A2 (I.length + 1) c2)
  have T4 := Below.setCell HB2.out (p := ⟨b, 0, none⟩) hb (.slice A2 (I.length + 1) c2)
  have T5 := Kept.setCell HK2.out (p := ⟨b, 0, none⟩) (.inl (.inr rfl)) (.slice A2 (I.length + 1) c2)
  generalize w2.setCell ⟨b, 0, none⟩ (.slice A2 (I.length + 1) c2) = W3 at T1 T2 T3 T4 T5 ⊢
  have q0 : W3.cell? ⟨b, 0, none⟩ = some (.slice A2 (I.length + 1) c2) := (blk_cell T1 0).trans rfl
  have TT := Aside0.mk (And.intro T1 (And.intro T2 (And.intro T3 (And.intro T4 T5))))
  clear T1 T2 T3 T4 T5 HO2 HP2 HB2 HK2 hc0 hf0 HC2 HC hHeld
  go_wp2
  go_ret
  obtain ⟨T1, T2, T3, T4, T5⟩ := TT.out
  refine ⟨by go_num, ⟨A2, c2, A', c', by rw [hl]; exact T1, by rw [hl]; exact T2, T3⟩, T4, ?_⟩
  exact T5
def cI (op n : Int) (m : Nat) (r : Int) : S40 :=
  if op = 0 then ⟨0, r, n, 0, 0⟩ else if op = 1 then ⟨3, r, n, if 0 < m then r else 0, 0⟩ else if op = 12 then ⟨1, r, 12, r, 0⟩ else if op = 15 then ⟨2, r, r, r + 1, r + 2⟩ else ⟨1, r, op, r, r + 1⟩
mutual
def cE : S52 → Int → List S40
  | ⟨op, n, _, l⟩, r => cAs l r ++ [cI op n l.length r]
def cAs : List S52 → Int → List S40
  | [], _ => []
  | a :: t, r => cE a r ++ cAs t (r + 1)
end
mutual
def nE : S52 → Nat
  | ⟨_, _, _, l⟩ => nAs l + 1
def nAs : List S52 → Nat
  | [] => 0
  | a :: t => nE a + nAs t
end
theorem exprs_ind {Q : List S52 → Prop} (h : ∀ l, (∀ x ∈ l, Q x.f3) → Q l) : ∀ l, Q l :=
  fun l => h l (S52.rec_1 (motive_1 := fun x => Q x.f3) (motive_2 := fun l => ∀ x ∈ l, Q x.f3) (fun _ _ _ l h1 => h l h1) (fun _ h => by simp at h) (fun x r h1 h2 y hy => by rcases List.mem_cons.1 hy with rfl | h; exact h1; exact h2 y h) l)
theorem cAs_len : ∀ (l : List S52) (r : Int), (cAs l r).length = nAs l := by
  refine exprs_ind fun l ih => ?_
  induction l with
  | nil => intro r; rfl
  | cons a t ih2 =>
    intro r
    obtain ⟨op, n, c, l⟩ := a
    rw [cAs, nAs, List.length_append, ih2 (fun x hx => ih x (List.mem_cons_of_mem _ hx)), cE, nE, List.length_append, ih _ (List.mem_cons_self ..)]
    rfl
theorem cE_len (e : S52) (r : Int) : (cE e r).length = nE e := by
  obtain ⟨op, n, c, l⟩ := e
  rw [cE, nE, List.length_append, cAs_len]
  rfl
theorem cAs_take : ∀ (l : List S52) (r : Int) (i : Nat) (x : S52), l[i]? = some x → cAs (l.take (i + 1)) r = cAs (l.take i) r ++ cE x (r + i)
  | [], _, _, _, h => by simp at h
  | a :: t, r, 0, x, h => by
    obtain rfl : a = x := by simpa using h
    simp [cAs]
  | a :: t, r, i + 1, x, h => by
    rw [List.take_succ_cons, List.take_succ_cons, cAs, cAs, cAs_take t (r + 1) i x (by simpa using h), List.append_assoc]
    congr 3
    push_cast
    omega
theorem nAs_take : ∀ (l : List S52) (i : Nat) (x : S52), l[i]? = some x → nAs (l.take i) + nE x ≤ nAs l
  | [], _, _, h => by simp at h
  | a :: t, 0, x, h => by
    obtain rfl : a = x := by simpa using h
    simp [nAs]
  | a :: t, i + 1, x, h => by
    rw [List.take_succ_cons, nAs, nAs]
    have := nAs_take t i x (by simpa using h)
    omega
theorem nAs_ge : ∀ (l : List S52), l.length ≤ nAs l
  | [] => Nat.le_refl _
  | a :: t => by
    obtain ⟨op, n, c, l⟩ := a
    rw [nAs, nE, List.length_cons]
    have := nAs_ge t
    omega
theorem comp_expr.go (w0 : World) (b : Nat) (v1 v2 v3 : Value) (P : List Int) (hb : w0.heap.size ≤ b) : ∀ (l : List S52) (op n cp : Int) (A : Option Addr) (c : Nat) (r : Int) (I : List S40) (Q : Nat → Prop) (w : World), Kd.C k52 w0 A l.length l → l.length ≤ c → 0 ≤ r → r + (nAs l : Int) + 2 < 1000000 → I.length + nAs l + 1 < 1000000 →
    Below w0.heap.size w0 w → CSt w w0.heap.size b Q v1 v2 v3 I P → (∀ k, Q k → k < w.heap.size) →
    Calls Try.prog 73 #[.pointer (some ⟨b, 0, none⟩), .agg #[.int .i64 op, .int .i64 n, .int .i64 cp, .slice A l.length c], .int .i64 r] w fun e w' => e = .returned (.tuple #[]) ∧ CSt w' w0.heap.size b (fun k => Q k ∨ w.heap.size ≤ k) v1 v2 v3 (I ++ cE ⟨op, n, cp, l⟩ r) P ∧ Below w0.heap.size w0 w' ∧ Kept w w' (fun k => Q k ∨ k = b) := by
  refine exprs_ind fun l ih => ?_
  intro op n cp A c r I Q w hr hc hr0 hr1 hI hB h hQ
  have huE := Try.underlying52
  have huC := Try.underlying75
  have HR := Aside0.mk hr
  have HC := Aside0.mk hc
  have IH := Aside0.mk ih
  have hbl := h.lt
  have hll := nAs_ge l
  have AL := bal (Below.refl w.heap.size w) (.cells #[.int .i64 op, .int .i64 n, .int .i64 cp, .slice A l.length c] 52)
  have HX := Aside0.mk (blk_new w (.cells #[.int .i64 op, .int .i64 n, .int .i64 cp, .slice A l.length c] 52))
  have HS := Aside0.mk ((h.below AL).mono (Q' := fun k => Q k ∨ w.heap.size < k) (fun k hk _ => .inl hk))
  have HB := Aside0.mk (hB.trans (AL.mono hB.size))
  have HK := Aside0.mk (show Kept w _ (fun k => Q k ∨ k = b) from Kept.of_below AL _)
  have HQ := Aside0.mk hQ
  have HBS := Aside0.mk hB.size
  clear hr hc ih hB h hQ AL
  go_enter Try.func73, Try.ntmps73
  have x3 : (w.alloc (.cells #[.int .i64 op, .int .i64 n, .int .i64 cp, .slice A l.length c] 52)).cell? ⟨w.heap.size, 3, none⟩ = some (.slice A l.length c) := (blk_cell HX.out 3).trans rfl
  go_wp2
  clear x3
  generalize w.alloc (.cells #[.int .i64 op, .int .i64 n, .int .i64 cp, .slice A l.length c] 52) = W1 at HX HS HB HK ⊢
  go_loopg [12] l.length (fun kq v12 X => ∃ j : Nat, v12 = .int .i64 (j : Int) ∧ Aside0 (j + kq = l.length) ∧ Aside0 (CSt X w0.heap.size b (fun k => Q k ∨ w.heap.size < k) v1 v2 v3 (I ++ cAs (l.take j) r) P) ∧ Aside0 (X.heap[w.heap.size]? = some (.cells #[.int .i64 op, .int .i64 n, .int .i64 cp, .slice A l.length c] 52 (0, 0))) ∧ Aside0 (Below w0.heap.size w0 X) ∧ Aside0 (Kept w X (fun k => Q k ∨ k = b)))
  case atStart => exact ⟨0, rfl, ⟨by omega⟩, ⟨by rw [List.take_zero, cAs, List.append_nil]; exact HS.out⟩, HX, HB, HK⟩
  case round =>
    clear HX HS HB HK
    obtain ⟨j, rfl, HI, HS, HX, HB, HK⟩ := hrel
    cases gk with
    | zero =>
      have hj : j = l.length := by have := HI.out; omega
      subst hj
      have hd : decide ((l.length : Int) < (l.length : Int)) = false := decide_eq_false (by omega)
      have x0 : wr.cell? ⟨w.heap.size, 0, none⟩ = some (.int .i64 op) := (blk_cell HX.out 0).trans rfl
      have x1 : wr.cell? ⟨w.heap.size, 1, none⟩ = some (.int .i64 n) := (blk_cell HX.out 1).trans rfl
      have x3 : wr.cell? ⟨w.heap.size, 3, none⟩ = some (.slice A l.length c) := (blk_cell HX.out 3).trans rfl
      have hS : CSt wr w0.heap.size b (fun k => Q k ∨ w.heap.size < k) v1 v2 v3 (I ++ cAs l r) P := by
        have := HS.out
        rwa [List.take_of_length_le (Nat.le_refl _)] at this
      have HS := Aside0.mk hS
      have hIl : (I ++ cAs l r).length < 1000000 := by rw [List.length_append, cAs_len]; omega
      clear hS
      have hw1 : IntKind.i64.wrap (r + 1) = r + 1 := by rw [i64_w]; unfold wrap64; omega
      have hw2 : IntKind.i64.wrap (r + 2) = r + 2 := by rw [i64_w]; unfold wrap64; omega
      have fin : ∀ (Y w' : World), Below wr.heap.size wr Y → CSt w' w0.heap.size b (fun k => (Q k ∨ w.heap.size < k) ∨ Y.heap.size ≤ k) v1 v2 v3 (I ++ cAs l r ++ [cI op n l.length r]) P → Kept Y w' (fun k => (Q k ∨ w.heap.size < k) ∨ k = b) →
          (CSt w' w0.heap.size b (fun k => Q k ∨ w.heap.size ≤ k) v1 v2 v3 (I ++ cE ⟨op, n, cp, l⟩ r) P ∧ Kept w w' (fun k => Q k ∨ k = b)) := by
        intro Y w' hY hs hk
        have hl := hY.size
        have hl2 := HK.out.1
        refine ⟨?_, (HK.out.below hY).then_ hk (fun k hk => ?_)⟩
        · rw [cE, ← List.append_assoc]
          exact hs.mono (fun k hk _ => by rcases hk with (hk | hk) | hk; exact .inl hk; exact .inr (by omega); exact .inr (by omega))
        · rcases hk with (hk | hk) | hk
          · exact .inl (.inl hk)
          · exact .inr (by omega)
          · exact .inl (.inr hk)
      have FIN := Aside0.mk fin
      have CL := Aside0.mk (show CSt wr w0.heap.size b (fun k => Q k ∨ w.heap.size < k) v1 v2 v3 (I ++ cAs l r) P from HS.out)
      clear fin HI
      have hlt := blk_lt HX.out
      by_cases h0 : op = 0
      · subst h0
        have hci : cI 0 n l.length r = ⟨0, r, n, 0, 0⟩ := by simp [cI]
        have HCI := Aside0.mk hci
        clear hci
        go_wp2
        refine start_ (n := 8) (S := fun w' => w'.cell? ⟨w.heap.size, 1, none⟩ = some (.int .i64 n)) (ds := [7]) #[false, false, false, false, false, false, false, false] (by kernel_rfl) rfl rfl ((blk_cell (kdr HX.out) 1).trans rfl) (fun hHeld => ?_)
        refine pu (i := 0) (N := some 39) (bl 8 1) rfl rfl (by kernel_rfl) ?_
        refine pu (i := 1) (N := some 40) (bl 8 3) rfl rfl (by kernel_rfl) ?_
        refine pu (i := 2) (N := some 41) (bl 8 7) rfl rfl (by kernel_rfl) ?_
        refine pu (i := 3) (N := some 42) (bl 8 15) rfl rfl (by kernel_rfl) ?_
        refine pu (i := 4) (N := some 43) (bl 8 31) rfl rfl (by kernel_rfl) ?_
        refine tk (i := 5) (N := some 44) (bl 8 63) rfl rfl (by kernel_rfl) hHeld ?_
        refine pu (i := 6) (N := some 45) (bl 8 127) rfl rfl (by kernel_rfl) ?_
        refine last_ (i := 7) (N := (some 46)) (bl 8 255) rfl rfl (by kernel_rfl) (by decide) (fun K hK => ?_)
        refine goes_ Try.func39 (by kernel_rfl) rfl #[.pointer (some ⟨b, 0, none⟩), .agg #[.int .i64 (0), .int .i64 (r), .int .i64 (n), .int .i64 (0), .int .i64 (0)]] (by rfl) rfl rfl (by (try simp only [List.map_toArray, List.map_cons, List.map_nil]); rfl) ?_
        refine (comp_put.calls w0 wr.drew b _ v1 v2 v3 _ P ⟨0, r, n, 0, 0⟩ (HB.out.trans ((below_drew (Below.refl _ _)).mono HB.out.size)) hb (CL.out.below (below_drew (Below.refl _ _))) hIl).mono ?_
        rintro e Y2 ⟨rfl, hs, hb2, hk⟩
        refine ⟨_, rfl, ?_⟩
        refine hK.out _ _ ?_
        clear hK K
        refine nm 46 ?_
        refine done_ (by kernel_rfl) ?_
        have hcb := HCI.out
        have HF := Aside0.mk (FIN.out wr.drew Y2 (below_drew (Below.refl _ _)) (by rw [HCI.out]; exact hs) hk)
        clear hs hk hcb
        go_wp2
        go_end0
        exact ⟨rfl, HF.out.1, hb2, HF.out.2⟩
      have e0 := (beq_eq_false_iff_ne (a := op)).mpr h0
      by_cases h1 : op = 1
      · subst h1
        have hci : cI 1 n l.length r = ⟨3, r, n, if 0 < l.length then r else 0, 0⟩ := by simp [cI]
        have HCI := Aside0.mk hci
        clear hci h0 e0
        by_cases hm : 0 < l.length
        · have hm2 : (0 : Int) < (l.length : Int) := by omega
          have BA := Aside0.mk (bal (Below.refl wr.heap.size wr) (.cells #[.int .i64 3, .int .i64 r, .int .i64 n, .int .i64 r, .int .i64 0] 40))
          have NA := Aside0.mk (blk_new wr (.cells #[.int .i64 3, .int .i64 r, .int .i64 n, .int .i64 r, .int .i64 0] 40))
          go_wp2
          have BB := Aside0.mk (below_drew BA.out)
          have ND := Aside0.mk (kdr NA.out)
          generalize (wr.alloc (.cells #[.int .i64 3, .int .i64 r, .int .i64 n, .int .i64 r, .int .i64 0] 40)) = Y at ND BB ⊢
          refine start_ (n := 5) (S := fun w' => w'.cell? ⟨wr.heap.size, 0, none⟩ = some (.int .i64 3) ∧ w'.cell? ⟨wr.heap.size, 1, none⟩ = some (.int .i64 r) ∧ w'.cell? ⟨wr.heap.size, 2, none⟩ = some (.int .i64 n) ∧ w'.cell? ⟨wr.heap.size, 3, none⟩ = some (.int .i64 r) ∧ w'.cell? ⟨wr.heap.size, 4, none⟩ = some (.int .i64 0)) (ds := [4]) #[false, false, false, false, false] (by kernel_rfl) rfl rfl ⟨(blk_cell ND.out 0).trans rfl, (blk_cell ND.out 1).trans rfl, (blk_cell ND.out 2).trans rfl, (blk_cell ND.out 3).trans rfl, (blk_cell ND.out 4).trans rfl⟩ (fun hHeld => ?_)
          refine pu (i := 0) (N := some 59) (bl 5 1) rfl rfl (by kernel_rfl) ?_
          refine pu (i := 1) (N := some 60) (bl 5 3) rfl rfl (by kernel_rfl) ?_
          refine pu (i := 2) (N := some 61) (bl 5 7) rfl rfl (by kernel_rfl) ?_
          refine tk (i := 3) (N := some 62) (bl 5 15) rfl rfl (by kernel_rfl) hHeld ?_
          refine last_ (i := 4) (N := (some 63)) (bl 5 31) rfl rfl (by kernel_rfl) (by decide) (fun K hK => ?_)
          have HCI := Aside0.mk (HCI.out.trans (by rw [if_pos hm]))
          refine goes_ Try.func39 (by kernel_rfl) rfl #[.pointer (some ⟨b, 0, none⟩), .agg #[.int .i64 (3), .int .i64 (r), .int .i64 (n), .int .i64 (r), .int .i64 (0)]] (by rfl) rfl rfl (by (try simp only [List.map_toArray, List.map_cons, List.map_nil]); rfl) ?_
          refine (comp_put.calls w0 Y.drew b _ v1 v2 v3 _ P ⟨3, r, n, r, 0⟩ (HB.out.trans (BB.out.mono HB.out.size)) hb (CL.out.below BB.out) hIl).mono ?_
          rintro e Y2 ⟨rfl, hs, hb2, hk⟩
          refine ⟨_, rfl, ?_⟩
          refine hK.out _ _ ?_
          clear hK K
          refine nm 63 ?_
          refine done_ (by kernel_rfl) ?_
          have hcb := HCI.out
          have HF := Aside0.mk (FIN.out Y.drew Y2 BB.out (by rw [HCI.out]; exact hs) hk)
          clear hs hk hcb
          go_wp2
          go_end0
          exact ⟨rfl, HF.out.1, hb2, HF.out.2⟩
        · have hm0 : l.length = 0 := by omega
          have BA := Aside0.mk (bal (Below.refl wr.heap.size wr) (.cells #[.int .i64 3, .int .i64 r, .int .i64 n, .int .i64 0, .int .i64 0] 40))
          have NA := Aside0.mk (blk_new wr (.cells #[.int .i64 3, .int .i64 r, .int .i64 n, .int .i64 0, .int .i64 0] 40))
          go_wp2
          have BB := Aside0.mk (below_drew BA.out)
          have ND := Aside0.mk (kdr NA.out)
          generalize (wr.alloc (.cells #[.int .i64 3, .int .i64 r, .int .i64 n, .int .i64 0, .int .i64 0] 40)) = Y at ND BB ⊢
          refine start_ (n := 5) (S := fun w' => w'.cell? ⟨wr.heap.size, 0, none⟩ = some (.int .i64 3) ∧ w'.cell? ⟨wr.heap.size, 1, none⟩ = some (.int .i64 r) ∧ w'.cell? ⟨wr.heap.size, 2, none⟩ = some (.int .i64 n) ∧ w'.cell? ⟨wr.heap.size, 3, none⟩ = some (.int .i64 0) ∧ w'.cell? ⟨wr.heap.size, 4, none⟩ = some (.int .i64 0)) (ds := [4]) #[false, false, false, false, false] (by kernel_rfl) rfl rfl ⟨(blk_cell ND.out 0).trans rfl, (blk_cell ND.out 1).trans rfl, (blk_cell ND.out 2).trans rfl, (blk_cell ND.out 3).trans rfl, (blk_cell ND.out 4).trans rfl⟩ (fun hHeld => ?_)
          refine pu (i := 0) (N := some 59) (bl 5 1) rfl rfl (by kernel_rfl) ?_
          refine pu (i := 1) (N := some 60) (bl 5 3) rfl rfl (by kernel_rfl) ?_
          refine pu (i := 2) (N := some 61) (bl 5 7) rfl rfl (by kernel_rfl) ?_
          refine tk (i := 3) (N := some 62) (bl 5 15) rfl rfl (by kernel_rfl) hHeld ?_
          refine last_ (i := 4) (N := (some 63)) (bl 5 31) rfl rfl (by kernel_rfl) (by decide) (fun K hK => ?_)
          have HCI := Aside0.mk (HCI.out.trans (by rw [if_neg hm]))
          refine goes_ Try.func39 (by kernel_rfl) rfl #[.pointer (some ⟨b, 0, none⟩), .agg #[.int .i64 (3), .int .i64 (r), .int .i64 (n), .int .i64 (0), .int .i64 (0)]] (by rfl) rfl rfl (by (try simp only [List.map_toArray, List.map_cons, List.map_nil]); rfl) ?_
          refine (comp_put.calls w0 Y.drew b _ v1 v2 v3 _ P ⟨3, r, n, 0, 0⟩ (HB.out.trans (BB.out.mono HB.out.size)) hb (CL.out.below BB.out) hIl).mono ?_
          rintro e Y2 ⟨rfl, hs, hb2, hk⟩
          refine ⟨_, rfl, ?_⟩
          refine hK.out _ _ ?_
          clear hK K
          refine nm 63 ?_
          refine done_ (by kernel_rfl) ?_
          have hcb := HCI.out
          have HF := Aside0.mk (FIN.out Y.drew Y2 BB.out (by rw [HCI.out]; exact hs) hk)
          clear hs hk hcb
          go_wp2
          go_end0
          exact ⟨rfl, HF.out.1, hb2, HF.out.2⟩
      have e1 := (beq_eq_false_iff_ne (a := op)).mpr h1
      by_cases h12 : op = 12
      · subst h12
        have HCI := Aside0.mk (show cI 12 n l.length r = ⟨1, r, 12, r, 0⟩ by simp [cI])
        clear h0 h1 e0 e1
        go_wp2_with (first | (go_at_call 39; refine (comp_put.calls w0 wr b _ v1 v2 v3 _ P ⟨1, r, 12, r, 0⟩ HB.out hb CL.out hIl).mono ?_; rintro e Y2 ⟨rfl, hs, hb2, hk⟩))
        go_end0
        obtain ⟨g1, g2⟩ := FIN.out wr Y2 (Below.refl _ _) (by rw [HCI.out]; exact hs) hk
        exact ⟨rfl, g1, hb2, g2⟩
      have e12 := (beq_eq_false_iff_ne (a := op)).mpr h12
      by_cases h15 : op = 15
      · subst h15
        have HCI := Aside0.mk (show cI 15 n l.length r = ⟨2, r, r, r + 1, r + 2⟩ by simp [cI])
        clear h0 h1 h12 e0 e1 e12
        go_wp2_with (first | (go_at_call 39; refine (comp_put.calls w0 wr b _ v1 v2 v3 _ P ⟨2, r, r, r + 1, r + 2⟩ HB.out hb CL.out hIl).mono ?_; rintro e Y2 ⟨rfl, hs, hb2, hk⟩))
        go_end0
        obtain ⟨g1, g2⟩ := FIN.out wr Y2 (Below.refl _ _) (by rw [HCI.out]; exact hs) hk
        exact ⟨rfl, g1, hb2, g2⟩
      have e15 := (beq_eq_false_iff_ne (a := op)).mpr h15
      have HCI := Aside0.mk (show cI op n l.length r = ⟨1, r, op, r, r + 1⟩ by simp [cI, h0, h1, h12, h15])
      clear h0 h1 h12 h15
      go_wp2
      refine start_ (n := 11) (S := fun w' => w'.cell? ⟨w.heap.size, 0, none⟩ = some (.int .i64 op)) (ds := [10]) #[false, false, false, false, false, false, false, false, false, false, false] (by kernel_rfl) rfl rfl ((blk_cell (kdr HX.out) 0).trans rfl) (fun hHeld => ?_)
      refine pu (i := 0) (N := some 26) (bl 11 1) rfl rfl (by kernel_rfl) ?_
      refine pu (i := 1) (N := some 27) (bl 11 3) rfl rfl (by kernel_rfl) ?_
      refine pu (i := 2) (N := some 28) (bl 11 7) rfl rfl (by kernel_rfl) ?_
      refine pu (i := 3) (N := some 29) (bl 11 15) rfl rfl (by kernel_rfl) ?_
      refine pu (i := 4) (N := some 30) (bl 11 31) rfl rfl (by kernel_rfl) ?_
      refine tk (i := 5) (N := some 31) (bl 11 63) rfl rfl (by kernel_rfl) hHeld ?_
      refine pu (i := 6) (N := some 32) (bl 11 127) rfl rfl (by kernel_rfl) ?_
      refine pu (i := 7) (N := some 33) (bl 11 255) rfl rfl (by kernel_rfl) ?_
      refine pu (i := 8) (N := some 34) (bl 11 511) rfl rfl (by kernel_rfl) ?_
      refine pu (i := 9) (N := some 35) (bl 11 1023) rfl rfl (by kernel_rfl) ?_
      refine last_ (i := 10) (N := (some 36)) (bl 11 2047) rfl rfl (by kernel_rfl) (by decide) (fun K hK => ?_)
      refine goes_ Try.func39 (by kernel_rfl) rfl #[.pointer (some ⟨b, 0, none⟩), .agg #[.int .i64 (1), .int .i64 (r), .int .i64 (op), .int .i64 (r), .int .i64 (r + 1)]] (by rfl) rfl rfl (by (try simp only [List.map_toArray, List.map_cons, List.map_nil]); rfl) ?_
      refine (comp_put.calls w0 wr.drew b _ v1 v2 v3 _ P ⟨1, r, op, r, r + 1⟩ (HB.out.trans ((below_drew (Below.refl _ _)).mono HB.out.size)) hb (CL.out.below (below_drew (Below.refl _ _))) hIl).mono ?_
      rintro e Y2 ⟨rfl, hs, hb2, hk⟩
      refine ⟨_, rfl, ?_⟩
      refine hK.out _ _ ?_
      clear hK K
      refine nm 36 ?_
      refine done_ (by kernel_rfl) ?_
      have hcb := HCI.out
      have HF := Aside0.mk (FIN.out wr.drew Y2 (below_drew (Below.refl _ _)) (by rw [HCI.out]; exact hs) hk)
      clear hs hk hcb
      go_wp2
      go_end0
      exact ⟨rfl, HF.out.1, hb2, HF.out.2⟩
    | succ k1 =>
      have hj : j < l.length := by have := HI.out; omega
      have hd : decide ((j : Int) < (l.length : Int)) = true := decide_eq_true (by omega)
      obtain ⟨ad, A3, c3, e3, q0, q1, q2, q3, ql3, qr3⟩ := at_T52 HR.out (j : Int) (by omega) (by omega)
      subst e3
      have hxi : l[j]? = some (rd_T52 l (j : Int)) := by unfold rd_T52; rw [Int.toNat_natCast, List.getD_eq_getElem?_getD, List.getElem?_eq_getElem hj]; rfl
      generalize rd_T52 l (j : Int) = x at q0 q1 q2 q3 ql3 qr3 hxi
      obtain ⟨xo, xn, xc, xl⟩ := x
      have hxm : (⟨xo, xn, xc, xl⟩ : S52) ∈ l := List.mem_of_getElem? hxi
      have hxn := nAs_take l j _ hxi
      rw [nE] at hxn
      have hct := cAs_take l r j _ hxi
      dsimp only at q0 q1 q2 q3 ql3 qr3
      replace q0 := (HB.out.cell (World.block_lt_of_cell? w0 _ q0)).trans q0
      replace q1 := (HB.out.cell (World.block_lt_of_cell? w0 _ q1)).trans q1
      replace q2 := (HB.out.cell (World.block_lt_of_cell? w0 _ q2)).trans q2
      replace q3 := (HB.out.cell (World.block_lt_of_cell? w0 _ q3)).trans q3
      simp only [Int.toNat_natCast] at q0 q1 q2 q3
      have hw1 : IntKind.i64.wrap ((j : Int) + 1) = (j : Int) + 1 := by rw [i64_w]; unfold wrap64; omega
      have hw2 : IntKind.i64.wrap (r + (j : Int)) = r + (j : Int) := by rw [i64_w]; unfold wrap64; omega
      have QR := Aside0.mk qr3
      have QL := Aside0.mk ql3
      have HCT := Aside0.mk hct
      have W1B := Aside0.mk (bal (Below.refl wr.heap.size wr) (.cells #[.int .i64 xo, .int .i64 xn, .int .i64 xc, .slice A3 xl.length c3] 52))
      have hlI : (I ++ cAs (l.take j) r).length + nAs xl + 1 < 1000000 := by
        rw [List.length_append, cAs_len]
        have : nAs (l.take j) + (nAs xl + 1) ≤ nAs l := hxn
        omega
      have hrx : r + (j : Int) + (nAs xl : Int) + 2 < 1000000 := by
        have h1 := nAs_ge (l.take j)
        rw [List.length_take] at h1
        omega
      clear qr3 ql3 hct
      go_wp2_with (first | (go_at_call 73; refine (IH.out _ hxm xo xn xc A3 c3 (r + (j : Int)) (I ++ cAs (l.take j) r) (fun k => (Q k ∨ w.heap.size < k) ∧ k < wr.heap.size) _ QR.out QL.out (by omega) hrx hlI (HB.out.trans (W1B.out.mono HB.out.size)) (HS.out.bound.below W1B.out) ?hq).mono ?_; (case hq => intro k hk; have := hk.2; have := W1B.out.size; omega); rintro e W2 ⟨rfl, hs2, hb2, hk2⟩))
      have hsz := W1B.out.size
      obtain ⟨c0, hsw⟩ : ∃ c0 : Nat, w.heap.size < wr.heap.size := ⟨0, blk_lt HX.out⟩
      have HX2 := Aside0.mk ((hk2.2 w.heap.size (by omega) (fun hq => by rcases hq with ⟨hq | hq, _⟩ | hq; exact absurd (HQ.out _ hq) (by omega); omega; omega)).trans ((W1B.out.block _ hsw).trans HX.out))
      have HS2 := Aside0.mk hs2
      have HB2 := Aside0.mk hb2
      have HK2 := Aside0.mk ((HK.out.below W1B.out).then_ hk2 (fun k hk => by rcases hk with ⟨hq | hq, _⟩ | hq; exact .inl (.inl hq); exact .inr (by omega); exact .inl (.inr hq)))
      clear hs2 hb2 hk2 HX HS HB HK
      go_roundg k1
      case measure => omega
      case rel =>
        refine ⟨j + 1, by simp, ⟨by have := HI.out; omega⟩, ⟨?_⟩, HX2, HB2, HK2⟩
        rw [HCT.out, ← List.append_assoc]
        exact HS2.out.mono (fun k hk _ => by rcases hk with ⟨hq, _⟩ | hq; exact hq; exact .inr (by omega))
end Go.Proofs.Ytnlekgadadifdaa.Print
