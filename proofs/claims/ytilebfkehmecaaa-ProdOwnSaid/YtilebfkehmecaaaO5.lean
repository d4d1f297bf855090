/- For any program, number of copies and stores, no call of the product's functions changes what came in, and what they give is newly laid (programs of at most 600 nodes; else the law answers with its fixed calls). -/
import Derived.Test.YtilebfkehmecaaaO4
import Derived.Deep.DeepCutAuto
import Derived.Deep.DeepMust
import Derived.Laws.CopyOwn
import Derived.Laws.CopyRow
import Derived.Laws.MakeOwn
set_option maxRecDepth 100000
set_option maxHeartbeats 16000000
namespace Go.Proofs.Ytilebfkehmecaaa.Print
open Go.RowKit Go.Proofs.YtilebfkehmecaaaW.PrintWords Go.Proofs.YtilebfkehmecaaaW.PrintLast Go.Proofs.YtilebfkehmecaaaW.PrintMore
attribute [local go_sem] max2_int min2_int max_two min_two max_three min_three max_four min_four
set_option linter.unusedVariables false
set_option linter.unusedSimpArgs false
open Go.Shelf Go.RowKit
attribute [local go_sem] Oper.semAt_some
def mvN (i fr op n : Int) : Int := if op = 0 then wrap64 (n + fr) else if op = 4 then wrap64 (n + fr) else if op = 3 then wrap64 (n + wrap64 (16 * i)) else n
mutual
def mvS (i fr : Int) : S64 → Option S64
  | ⟨op, n, a, t, e⟩ => (mvEs (fun _ => some fr) a).bind fun a' => (mvSs i fr t).bind fun t' => (mvSs i fr e).bind fun e' => some ⟨op, mvN i fr op n, a', t', e'⟩
def mvSs (i fr : Int) : List S64 → Option (List S64)
  | [] => some []
  | x :: r => (mvS i fr x).bind fun y => (mvSs i fr r).bind fun s => if r.length < 1000000 then some (y :: s) else none
end
theorem mvSs_get {i fr : Int} : ∀ {l l' : List S64}, mvSs i fr l = some l' → l'.length = l.length ∧ l.length ≤ 1000000 ∧ ∀ (j : Nat) (x : S64), l[j]? = some x → ∃ y, mvS i fr x = some y ∧ l'[j]? = some y
  | [], l', h => by
    rw [mvSs] at h
    obtain rfl := Option.some.inj h
    exact ⟨rfl, by simp, fun j x hj => by simp at hj⟩
  | x :: r, l', h => by
    rw [mvSs] at h
    obtain ⟨y, h1, h⟩ := Option.bind_eq_some_iff.mp h
    obtain ⟨s, h2, h⟩ := Option.bind_eq_some_iff.mp h
    obtain ⟨e1, e2, e3⟩ := mvSs_get h2
    by_cases hl : r.length < 1000000
    · rw [if_pos hl] at h
      obtain rfl := Option.some.inj h
      refine ⟨by simp [e1], by simp; omega, fun j z hj => ?_⟩
      cases j with
      | zero => obtain rfl : x = z := by simpa using hj
                exact ⟨y, h1, rfl⟩
      | succ j => exact e3 j z (by simpa using hj)
    · rw [if_neg hl] at h; cases h
theorem rows_ind {Q : List S64 → Prop} (h : ∀ l, (∀ x ∈ l, Q x.f3 ∧ Q x.f4) → Q l) : ∀ l, Q l :=
  fun l => h l (S64.rec_1 (motive_1 := fun x => Q x.f3 ∧ Q x.f4) (motive_2 := fun l => ∀ x ∈ l, Q x.f3 ∧ Q x.f4) (fun _ _ _ t e h1 h2 => ⟨h t h1, h e h2⟩) (fun _ h => by simp at h) (fun x r h1 h2 y hy => by rcases List.mem_cons.1 hy with rfl | h; exact h1; exact h2 y h) l)
theorem mv_takeS {l' : List S64} {i : Nat} {y : S64} (h : l'[i]? = some y) : l'.take (i + 1) = l'.take i ++ [y] := by
  rw [List.take_add_one, h]; rfl
theorem prod_Moved1.fn (w : World) (b : Nat) (fr : Int) (h : w.heap[b]? = some (.cells #[.int .i64 fr] 3 (0, 0))) : FnAt w (.func (.func 96) #[] #[.pointer (some ⟨b, 0, none⟩)]) (fun _ => some fr) := by
  refine ⟨_, _, rfl, enters_of Try.func96 (by kernel_rfl) rfl, fun W n r hW hr => ?_⟩
  obtain rfl : fr = r := Option.some.inj hr
  show Calls Try.prog 96 #[.int .i64 n, .pointer (some ⟨b, 0, none⟩)] W _
  have c0 : W.cell? ⟨b, 0, none⟩ = some (.int .i64 fr) := (blk_cell ((hW.block _ (blk_lt h)).trans h) 0).trans rfl
  go_enter Try.func96, Try.ntmps96
  go_wp2
  go_ret
  exact ⟨rfl, Below.refl _ _⟩
theorem prod_Moved.go (i fr : Int) : ∀ (l l' : List S64) (A : Option Addr) (c : Nat) (w : World), mvSs i fr l = some l' → Kd.C k64 w A l.length l → l.length ≤ c →
    Calls Try.prog 64 #[.slice A l.length c, .int .i64 i, .int .i64 fr] w fun en w' => ∃ v : Value, en = .returned v ∧ Kd.R k64 64 w' w.heap.size (fun _ => True) v l' ∧ Below w.heap.size w w' := by
  refine rows_ind fun l ih => ?_
  intro l' A c w h hr hc
  have huE := Try.underlying28
  have huS := Try.underlying64
  have HR := Aside0.mk hr
  have HC := Aside0.mk hc
  have IH := Aside0.mk ih
  obtain ⟨hll, hl6, hget⟩ := mvSs_get h
  have GET := Aside0.mk hget
  clear hr hc ih h hget
  have q0 : (w.alloc (.cells #[.int .i64 fr] 3)).heap[w.heap.size]? = some (.cells #[.int .i64 fr] 3 (0, 0)) := blk_new _ _
  have b0 := bal (Below.refl w.heap.size w) (.cells #[.int .i64 fr] 3)
  have hfn := Aside0.mk (prod_Moved1.fn _ _ _ q0)
  go_enter Try.func64, Try.ntmps64
  go_wp2_with (first | (go_at_call 48; refine (prod_moving.fn _ (fun _ => some fr) _ hfn.out).mono ?_; rintro e W1 ⟨rfl, hmv, hb1⟩))
  have s0 : (w.alloc (.cells #[.int .i64 fr] 3)).heap.size = w.heap.size + 1 := by simp
  rw [s0] at hmv hb1
  have MV := Aside0.mk hmv
  have BX := Aside0.mk ((hb1.block _ (by omega)).trans q0)
  have B1 := Aside0.mk (b0.trans (hb1.mono (by omega)))
  have hlt := blk_lt BX.out
  clear hmv hb1 q0 b0 hfn s0
  go_loopg [8, 18] l.length (fun kq v8 v18 X => ∃ (j : Nat) (A8 : Option Addr) (c8 : Nat), v18 = .int .i64 (j : Int) ∧ v8 = .slice A8 j c8 ∧ Aside0 (j + kq = l.length) ∧ Aside0 (Kd.R k64 64 X W1.heap.size (fun _ => True) (.slice A8 j c8) (l'.take j)) ∧ Aside0 (Below W1.heap.size W1 X))
  case atStart => exact ⟨0, none, 0, rfl, rfl, ⟨by omega⟩, ⟨Kd.R_nil _ _ _ _ _⟩, ⟨Below.refl _ _⟩⟩
  case round =>
    obtain ⟨j, A8, c8, rfl, rfl, HI, HO, BB⟩ := hrel
    cases gk with
    | zero =>
      have hj : j = l.length := by have := HI.out; omega
      subst hj
      have hd : decide ((l.length : Int) < (l.length : Int)) = false := decide_eq_false (by omega)
      have o1 : Kd.R k64 64 wr W1.heap.size (fun _ => True) (.slice A8 l.length c8) l' := by
        have := HO.out
        rwa [List.take_of_length_le (by omega)] at this
      go_wp2
      go_ret
      exact ⟨_, rfl, Kd.R_lower o1 B1.out.size, B1.out.trans (BB.out.mono B1.out.size)⟩
    | succ k1 =>
      obtain ⟨Wr, rfl⟩ : ∃ X, X = wr := ⟨_, rfl⟩
      have hj : j < l.length := by have := HI.out; omega
      have hd : decide ((j : Int) < (l.length : Int)) = true := decide_eq_true (by omega)
      have HBW := Aside0.mk (B1.out.trans (BB.out.mono B1.out.size))
      obtain ⟨ad, B2, b2, B3, b3, B4, b4, e3, q0, q1, q2, q3, q4, ql2, qr2, ql3, qr3, ql4, qr4⟩ := at_T64 HR.out (j : Int) (by omega) (by omega)
      subst e3
      have hxi : l[j]? = some (rd_T64 l (j : Int)) := by unfold rd_T64; rw [Int.toNat_natCast, List.getD_eq_getElem?_getD, List.getElem?_eq_getElem hj]; rfl
      generalize rd_T64 l (j : Int) = x at q0 q1 q2 q3 q4 ql2 qr2 ql3 qr3 ql4 qr4 hxi
      obtain ⟨y, hy, hyi⟩ := GET.out j x hxi
      have hxm : x ∈ l := List.mem_of_getElem? hxi
      obtain ⟨op, n, xa, xt, xe⟩ := x
      obtain ⟨iht, ihe⟩ := IH.out _ hxm
      dsimp only at q0 q1 q2 q3 q4 ql2 qr2 ql3 qr3 ql4 qr4 iht ihe
      rw [mvS] at hy
      obtain ⟨a', ha', hy⟩ := Option.bind_eq_some_iff.mp hy
      obtain ⟨t', ht', hy⟩ := Option.bind_eq_some_iff.mp hy
      obtain ⟨e', he', hy⟩ := Option.bind_eq_some_iff.mp hy
      obtain rfl := Option.some.inj hy
      obtain ⟨hal, ha6, hag⟩ := mvEs_get ha'
      simp only [Int.toNat_natCast] at q0 q1 q2 q3 q4
      replace q0 := (HBW.out.cell (World.block_lt_of_cell? w _ q0)).trans q0
      replace q1 := (HBW.out.cell (World.block_lt_of_cell? w _ q1)).trans q1
      replace q2 := (HBW.out.cell (World.block_lt_of_cell? w _ q2)).trans q2
      replace q3 := (HBW.out.cell (World.block_lt_of_cell? w _ q3)).trans q3
      replace q4 := (HBW.out.cell (World.block_lt_of_cell? w _ q4)).trans q4
      have QL2 := Aside0.mk ql2
      have QR2 := Aside0.mk qr2
      have QL3 := Aside0.mk ql3
      have QR3 := Aside0.mk qr3
      have QL4 := Aside0.mk ql4
      have QR4 := Aside0.mk qr4
      have IT := Aside0.mk iht
      have IE := Aside0.mk ihe
      have HAG := Aside0.mk hag
      have HT := Aside0.mk ht'
      have HE := Aside0.mk he'
      clear ql2 qr2 ql3 qr3 ql4 qr4 iht ihe hag ht' he' hy ha' hxi hxm
      have hBX := Aside0.mk ((BB.out.block _ hlt).trans BX.out)
      have mb : Wr.cell? ⟨w.heap.size, 0, none⟩ = some (.int .i64 fr) := (blk_cell hBX.out 0).trans rfl
      have hltr := blk_lt hBX.out
      have HMV := Aside0.mk (MV.out.below BB.out)
      have hSB := BB.out.size
      have hob := Kd.R_base HO.out
      have hol := Kd.R_lt HO.out
      have hjl : (l'.take j).length = j := by rw [List.length_take]; omega
      obtain ⟨n', hn'⟩ : ∃ n', mvN i fr op n = n' := ⟨_, rfl⟩
      obtain ⟨opn, hopn⟩ : ∃ z : Int, op = z := ⟨_, rfl⟩
      rw [hn', hopn] at hyi
      have HYI := Aside0.mk hyi
      have HOPN := Aside0.mk hopn
      clear hyi
      have hw1 : IntKind.i64.wrap ((j : Int) + 1) = (j : Int) + 1 := by rw [i64_w]; unfold wrap64; omega
      have ways : (op = 0 ∧ wrap64 (n + fr) = n') ∨ (op ≠ 0 ∧ op = 4 ∧ wrap64 (n + fr) = n') ∨ (op ≠ 0 ∧ op ≠ 4 ∧ op = 3 ∧ wrap64 (n + wrap64 (16 * i)) = n') ∨ (op ≠ 0 ∧ op ≠ 4 ∧ op ≠ 3 ∧ n = n') := by
        rw [← hn', mvN]
        by_cases h0 : op = 0
        · exact .inl ⟨h0, by rw [if_pos h0]⟩
        · by_cases h4 : op = 4
          · exact .inr (.inl ⟨h0, h4, by rw [if_neg h0, if_pos h4]⟩)
          · by_cases h3 : op = 3
            · exact .inr (.inr (.inl ⟨h0, h4, h3, by rw [if_neg h0, if_neg h4, if_pos h3]⟩))
            · exact .inr (.inr (.inr ⟨h0, h4, h3, by rw [if_neg h0, if_neg h4, if_neg h3]⟩))
      clear hn' hopn
      go_upto_if 24 with (fail)
      (try simp only [Act.put, List.setIfInBounds_toArray, List.set_cons_zero, List.set_cons_succ])
      rename_i Kr hKr Kb hKb
      refine (fun (key : ∀ (a : Act) (W : World), (∃ u11 u13 u19 u20 u21 u22 u23 u24 u25 u26 u27 u28 u29 u30 u31 u32 u33 u34 u35 u36 u37 u38 u39 u40 u41 u42 u43 u44 u45 u46 u47 u48 u49 u50 u51 u52 u53 u54 u55 u56 u57 u58 u59 u60 u61 u62 u63 u64 u65 u66 u67 u68 u69 u70 u71 u72 : Value, a = { tmps := #[.slice (some ad) l.length c, .int .i64 i, .int .i64 fr, undef, undef, .pointer (some ⟨w.heap.size, 0, none⟩), .slice none 0 0, .func (.func 83) #[] #[.pointer (some ⟨w.heap.size + 1, 0, none⟩), .pointer (some ⟨w.heap.size + 1 + 1, 0, none⟩)], .slice A8 j c8, undef, .pointer (some ⟨Wr.heap.size, 0, none⟩), u11, undef, u13, .func (.func 96) #[] #[.pointer (some ⟨w.heap.size, 0, none⟩)], .func (.func 83) #[] #[.pointer (some ⟨w.heap.size + 1, 0, none⟩), .pointer (some ⟨w.heap.size + 1 + 1, 0, none⟩)], .slice (some ad) l.length c, .int .i64 l.length, .int .i64 j, u19, u20, u21, u22, u23, u24, u25, u26, u27, u28, u29, u30, u31, u32, u33, u34, u35, u36, u37, u38, u39, u40, u41, u42, u43, u44, u45, u46, u47, u48, u49, u50, u51, u52, u53, u54, u55, u56, u57, u58, u59, u60, u61, u62, u63, u64, u65, u66, u67, u68, u69, u70, u71, u72, undef], defers := [] }) → W.heap[Wr.heap.size]? = some (.cells #[.int .i64 opn, .int .i64 n', .slice B2 xa.length b2, .slice B3 xt.length b3, .slice B4 xe.length b4] 64 (0, 0)) → Below Wr.heap.size Wr W → W.heap.size = Wr.heap.size + 1 → Kr a W) => ?main) ?key
      case main =>
        clear hKr
        rcases ways with ⟨h0, en⟩ | ⟨h0, h4, en⟩ | ⟨h0, h4, h3, en⟩ | ⟨h0, h4, h3, en⟩
        · subst h0
          go_wp2
          exact key _ _ ⟨_, _, _, _, _, _, _, _, _, _, _, _, _, _, _, _, _, _, _, _, _, _, _, _, _, _, _, _, _, _, _, _, _, _, _, _, _, _, _, _, _, _, _, _, _, _, _, _, _, _, _, _, _, _, _, _, rfl⟩ (by rw [← HOPN.out]; exact blk_new _ _) (bal (Below.refl _ _) _) (by simp)
        · subst h4
          go_wp2
          exact key _ _ ⟨_, _, _, _, _, _, _, _, _, _, _, _, _, _, _, _, _, _, _, _, _, _, _, _, _, _, _, _, _, _, _, _, _, _, _, _, _, _, _, _, _, _, _, _, _, _, _, _, _, _, _, _, _, _, _, _, rfl⟩ (by rw [← HOPN.out]; exact blk_new _ _) (bal (Below.refl _ _) _) (by simp)
        · subst h3
          go_wp2
          exact key _ _ ⟨_, _, _, _, _, _, _, _, _, _, _, _, _, _, _, _, _, _, _, _, _, _, _, _, _, _, _, _, _, _, _, _, _, _, _, _, _, _, _, _, _, _, _, _, _, _, _, _, _, _, _, _, _, _, _, _, rfl⟩ (by rw [← HOPN.out]; exact blk_new _ _) (bal (Below.refl _ _) _) (by simp)
        · have e0 := (beq_eq_false_iff_ne (a := op)).mpr h0; have e4 := (beq_eq_false_iff_ne (a := op)).mpr h4; have e3 := (beq_eq_false_iff_ne (a := op)).mpr h3; subst en; clear h0 h4 h3
          go_wp2
          exact key _ _ ⟨_, _, _, _, _, _, _, _, _, _, _, _, _, _, _, _, _, _, _, _, _, _, _, _, _, _, _, _, _, _, _, _, _, _, _, _, _, _, _, _, _, _, _, _, _, _, _, _, _, _, _, _, _, _, _, _, rfl⟩ (by rw [← HOPN.out]; exact blk_new _ _) (bal (Below.refl _ _) _) (by simp)
      case key =>
        clear q0 q1 q2 q3 q4 ways HOPN
        rintro a Wg ⟨u11, u13, u19, u20, u21, u22, u23, u24, u25, u26, u27, u28, u29, u30, u31, u32, u33, u34, u35, u36, u37, u38, u39, u40, u41, u42, u43, u44, u45, u46, u47, u48, u49, u50, u51, u52, u53, u54, u55, u56, u57, u58, u59, u60, u61, u62, u63, u64, u65, u66, u67, u68, u69, u70, u71, u72, rfl⟩ pg bg sg
        refine hKr _ _ ?_
        have g2 : Wg.cell? ⟨Wr.heap.size, 2, none⟩ = some (.slice B2 xa.length b2) := (blk_cell pg 2).trans rfl
        have PG := Aside0.mk pg
        have BG := Aside0.mk bg
        have SG := Aside0.mk sg
        clear pg bg sg hKb Kb
        go_wp2
        go_loopg [11, 43] xa.length (fun kq v11 v43 Y => ∃ (m : Nat) (A11 : Option Addr) (c11 : Nat), v43 = .int .i64 (m : Int) ∧ v11 = .slice A11 m c11 ∧ Aside0 (m + kq = xa.length) ∧ Aside0 (Kd.R k28 28 Y (Wr.heap.size + 1) (fun _ => True) (.slice A11 m c11) (a'.take m)) ∧ Aside0 (Y.heap[Wr.heap.size]? = some (.cells #[.int .i64 opn, .int .i64 n', .slice B2 xa.length b2, .slice B3 xt.length b3, .slice B4 xe.length b4] 64 (0, 0))) ∧ Aside0 (Below Wr.heap.size Wr Y) ∧ Aside0 (Wr.heap.size + 1 ≤ Y.heap.size))
        case atStart => exact ⟨0, none, 0, rfl, rfl, ⟨by omega⟩, ⟨Kd.R_nil _ _ _ _ _⟩, PG, BG, ⟨by have := SG.out; omega⟩⟩
        case round =>
          clear PG BG SG
          obtain ⟨m, A11, c11, rfl, rfl, MI, MO, PG, BG, SG⟩ := hrel
          cases gk with
          | zero =>
            have hm : m = xa.length := by have := MI.out; omega
            subst hm
            have hd2 : decide ((xa.length : Int) < (xa.length : Int)) = false := decide_eq_false (by omega)
            have o2 : Kd.R k28 28 wr (Wr.heap.size + 1) (fun _ => True) (.slice A11 xa.length c11) a' := by
              have := MO.out
              rwa [List.take_of_length_le (by omega)] at this
            have O2 := Aside0.mk o2
            clear o2 MO
            go_wp2
            have PD := Aside0.mk (kdr PG.out)
            have BD := Aside0.mk (below_drew BG.out)
            have OD := Aside0.mk (Kd.R_drew O2.out)
            have SD := Aside0.mk (show Wr.heap.size + 1 ≤ wr.drew.heap.size from SG.out)
            have XD := Aside0.mk ((BD.out.block _ hltr).trans hBX.out)
            refine start_ (n := 17) (S := fun w' => w'.cell? ⟨Wr.heap.size, 3, none⟩ = some (.slice B3 xt.length b3) ∧ w'.cell? ⟨Wr.heap.size, 4, none⟩ = some (.slice B4 xe.length b4) ∧ w'.cell? ⟨w.heap.size, 0, none⟩ = some (.int .i64 fr)) (ds := [12, 14, 16]) #[false, false, false, false, false, false, false, false, false, false, false, false, false, false, false, false, false] (by kernel_rfl) rfl rfl ⟨(blk_cell PD.out 3).trans rfl, (blk_cell PD.out 4).trans rfl, (blk_cell XD.out 0).trans rfl⟩ (fun hHeld => ?_)
            generalize wr.drew = Y at PD BD OD SD XD hHeld ⊢
            clear PG BG SG O2
            refine pu (i := 0) (N := some 54) (bl 17 1) rfl rfl (by kernel_rfl) ?_
            refine pu (i := 1) (N := some 55) (bl 17 3) rfl rfl (by kernel_rfl) ?_
            refine tk (i := 2) (N := some 56) (bl 17 7) rfl rfl (by kernel_rfl) hHeld ?_
            refine pu (i := 3) (N := some 57) (bl 17 15) rfl rfl (by kernel_rfl) ?_
            refine tk (i := 4) (N := some 58) (bl 17 31) rfl rfl (by kernel_rfl) hHeld ?_
            refine pu (i := 6) (N := some 60) (bl 17 95) rfl rfl (by kernel_rfl) ?_
            refine tk (i := 7) (N := some 61) (bl 17 223) rfl rfl (by kernel_rfl) hHeld ?_
            refine pu (i := 8) (N := some 62) (bl 17 479) rfl rfl (by kernel_rfl) ?_
            refine tk (i := 9) (N := some 63) (bl 17 991) rfl rfl (by kernel_rfl) hHeld ?_
            refine pu (i := 11) (N := some 65) (bl 17 3039) rfl rfl (by kernel_rfl) ?_
            refine one_ (i := 5) (N := (some 59)) (bl 17 3071) rfl rfl (by kernel_rfl) (by decide) (fun K hK => ?_)
            refine goes_ Try.func64 (by kernel_rfl) rfl #[.slice B3 xt.length b3, .int .i64 i, .int .i64 fr] (by rfl) rfl rfl (by (try simp only [List.map_toArray, List.map_cons, List.map_nil]); rfl) ?_
            refine (IT.out _ _ _ Y HT.out (Kd.C_below QR3.out (HBW.out.trans (BD.out.mono HBW.out.size))) QL3.out).mono ?_
            rintro e Y2 ⟨v3, rfl, o3, hb3⟩
            have PE := Aside0.mk (blk_below PD.out hb3)
            have BE := Aside0.mk (BD.out.trans (hb3.mono BD.out.size))
            have OE := Aside0.mk (Kd.R_below OD.out hb3)
            have XE := Aside0.mk ((BE.out.block _ hltr).trans hBX.out)
            have SE := Aside0.mk (Nat.le_trans SD.out hb3.size)
            have TE := Aside0.mk (Kd.R_lower o3 SD.out)
            clear PD BD OD XD SD o3 hb3
            refine ⟨_, rfl, ?_⟩
            refine hK.out _ _ ⟨(blk_cell PE.out 3).trans rfl, (blk_cell PE.out 4).trans rfl, (blk_cell XE.out 0).trans rfl⟩ (fun hHeld => ?_)
            clear hK K
            refine nm 59 ?_
            refine one_ (i := 10) (N := (some 64)) (bl 17 4095) rfl rfl (by kernel_rfl) (by decide) (fun K hK => ?_)
            refine goes_ Try.func64 (by kernel_rfl) rfl #[.slice B4 xe.length b4, .int .i64 i, .int .i64 fr] (by rfl) rfl rfl (by (try simp only [List.map_toArray, List.map_cons, List.map_nil]); rfl) ?_
            refine (IE.out _ _ _ Y2 HE.out (Kd.C_below QR4.out (HBW.out.trans (BE.out.mono HBW.out.size))) QL4.out).mono ?_
            rintro e Y3 ⟨v4, rfl, o4, hb4⟩
            have PF := Aside0.mk (blk_below PE.out hb4)
            have BF := Aside0.mk (BE.out.trans (hb4.mono BE.out.size))
            have OF := Aside0.mk (Kd.R_below OE.out hb4)
            have XF := Aside0.mk ((BF.out.block _ hltr).trans hBX.out)
            have SF := Aside0.mk (Nat.le_trans SE.out hb4.size)
            have TF := Aside0.mk (Kd.R_below TE.out hb4)
            have UF := Aside0.mk (Kd.R_lower o4 SE.out)
            clear PE BE OE XE SE TE o4 hb4
            refine ⟨_, rfl, ?_⟩
            refine hK.out _ _ ⟨(blk_cell PF.out 3).trans rfl, (blk_cell PF.out 4).trans rfl, (blk_cell XF.out 0).trans rfl⟩ (fun hHeld => ?_)
            clear hK K
            refine nm 64 ?_
            obtain ⟨D3, d3, e3⟩ := Kd.R_slice TF.out
            subst e3
            obtain ⟨D4, d4, e4⟩ := Kd.R_slice UF.out
            subst e4
            refine last_ (i := 12) (N := none) (bl 17 8191) rfl rfl (by kernel_rfl) (by decide) (fun K hK => ?_)
            refine skip_ (w1 := (Y3.setCell ⟨Wr.heap.size, 2, none⟩ (.slice A11 xa.length c11))) (by rfl) rfl ?st2 ?_
            case st2 =>
              have x0 : Y3.cell? ⟨Wr.heap.size, 2, none⟩ = some _ := (blk_cell PF.out 2).trans rfl
              have x1 : Y3.cell? ⟨Wr.heap.size, 3, none⟩ = some _ := (blk_cell PF.out 3).trans rfl
              have x2 : Y3.cell? ⟨Wr.heap.size, 4, none⟩ = some _ := (blk_cell PF.out 4).trans rfl
              have x3 := blk_frozen PF.out 2
              have x4 := blk_frozen PF.out 3
              have x5 := blk_frozen PF.out 4
              go_simp
            refine hK.out _ _ ?_
            clear hK K
            refine pu (i := 13) (N := some 66) (bl 17 16383) rfl rfl (by kernel_rfl) ?_
            refine last_ (i := 14) (N := none) (bl 17 32767) rfl rfl (by kernel_rfl) (by decide) (fun K hK => ?_)
            refine skip_ (w1 := ((Y3.setCell ⟨Wr.heap.size, 2, none⟩ (.slice A11 xa.length c11)).setCell ⟨Wr.heap.size, 3, none⟩ (.slice D3 t'.length d3))) (by rfl) rfl ?st3 ?_
            case st3 =>
              have x0 : Y3.cell? ⟨Wr.heap.size, 2, none⟩ = some _ := (blk_cell PF.out 2).trans rfl
              have x1 : Y3.cell? ⟨Wr.heap.size, 3, none⟩ = some _ := (blk_cell PF.out 3).trans rfl
              have x2 : Y3.cell? ⟨Wr.heap.size, 4, none⟩ = some _ := (blk_cell PF.out 4).trans rfl
              have x3 := blk_frozen PF.out 2
              have x4 := blk_frozen PF.out 3
              have x5 := blk_frozen PF.out 4
              go_simp
            refine hK.out _ _ ?_
            clear hK K
            refine pu (i := 15) (N := some 67) (bl 17 65535) rfl rfl (by kernel_rfl) ?_
            refine last_ (i := 16) (N := none) (bl 17 131071) rfl rfl (by kernel_rfl) (by decide) (fun K hK => ?_)
            refine skip_ (w1 := (((Y3.setCell ⟨Wr.heap.size, 2, none⟩ (.slice A11 xa.length c11)).setCell ⟨Wr.heap.size, 3, none⟩ (.slice D3 t'.length d3)).setCell ⟨Wr.heap.size, 4, none⟩ (.slice D4 e'.length d4))) (by rfl) rfl ?st4 ?_
            case st4 =>
              have x0 : Y3.cell? ⟨Wr.heap.size, 2, none⟩ = some _ := (blk_cell PF.out 2).trans rfl
              have x1 : Y3.cell? ⟨Wr.heap.size, 3, none⟩ = some _ := (blk_cell PF.out 3).trans rfl
              have x2 : Y3.cell? ⟨Wr.heap.size, 4, none⟩ = some _ := (blk_cell PF.out 4).trans rfl
              have x3 := blk_frozen PF.out 2
              have x4 := blk_frozen PF.out 3
              have x5 := blk_frozen PF.out 4
              go_simp
            refine hK.out _ _ ?_
            clear hK K
            refine done_ (by kernel_rfl) ?_
            have p7 := blk_put (blk_put (blk_put PF.out 2 (.slice A11 xa.length c11) (cs' := #[.int .i64 opn, .int .i64 n', .slice A11 xa.length c11, .slice B3 xt.length b3, .slice B4 xe.length b4]) rfl) 3 (.slice D3 t'.length d3) (cs' := #[.int .i64 opn, .int .i64 n', .slice A11 xa.length c11, .slice D3 t'.length d3, .slice B4 xe.length b4]) rfl) 4 (.slice D4 e'.length d4) (cs' := #[.int .i64 opn, .int .i64 n', .slice A11 xa.length c11, .slice D3 t'.length d3, .slice D4 e'.length d4]) rfl
            have b7 := ((BF.out.trans (below_cell Y3 (i := 2) (.slice A11 xa.length c11) (Nat.le_refl _))).trans (below_cell _ (i := 3) (.slice D3 t'.length d3) (Nat.le_refl _))).trans (below_cell _ (i := 4) (.slice D4 e'.length d4) (Nat.le_refl _))
            have k7 : ∀ k, Wr.heap.size + 1 ≤ k → (((Y3.setCell ⟨Wr.heap.size, 2, none⟩ (.slice A11 xa.length c11)).setCell ⟨Wr.heap.size, 3, none⟩ (.slice D3 t'.length d3)).setCell ⟨Wr.heap.size, 4, none⟩ (.slice D4 e'.length d4)).heap[k]? = Y3.heap[k]? := fun k hk => by rw [Below.heap_setCell _ _ _ _ (by simp; omega), Below.heap_setCell _ _ _ _ (by simp; omega), Below.heap_setCell _ _ _ _ (by simp; omega)]
            have O7 := Aside0.mk (Kd.R_mono (Kd.R_step (Kd.R_bound OF.out) (fun k hk _ => k7 k hk.2.1)) (fun k hk => (show Wr.heap.size ≤ k from Nat.le_of_succ_le hk.2.1)))
            have T7 := Aside0.mk (Kd.R_mono (Kd.R_step (Kd.R_bound TF.out) (fun k hk _ => k7 k hk.2.1)) (fun k hk => (show Wr.heap.size ≤ k from Nat.le_of_succ_le hk.2.1)))
            have U7 := Aside0.mk (Kd.R_mono (Kd.R_step (Kd.R_bound UF.out) (fun k hk _ => k7 k hk.2.1)) (fun k hk => (show Wr.heap.size ≤ k from Nat.le_of_succ_le hk.2.1)))
            have P7 := Aside0.mk p7
            have B7 := Aside0.mk b7
            clear p7 b7 k7 PF BF OF XF SF TF UF
            generalize (((Y3.setCell ⟨Wr.heap.size, 2, none⟩ (.slice A11 xa.length c11)).setCell ⟨Wr.heap.size, 3, none⟩ (.slice D3 t'.length d3)).setCell ⟨Wr.heap.size, 4, none⟩ (.slice D4 e'.length d4)) = W7 at P7 B7 O7 T7 U7 ⊢
            have x0 : W7.cell? ⟨Wr.heap.size, 0, none⟩ = some _ := (blk_cell P7.out 0).trans rfl
            have x1 : W7.cell? ⟨Wr.heap.size, 1, none⟩ = some _ := (blk_cell P7.out 1).trans rfl
            have x2 : W7.cell? ⟨Wr.heap.size, 2, none⟩ = some _ := (blk_cell P7.out 2).trans rfl
            have x3 : W7.cell? ⟨Wr.heap.size, 3, none⟩ = some _ := (blk_cell P7.out 3).trans rfl
            have x4 : W7.cell? ⟨Wr.heap.size, 4, none⟩ = some _ := (blk_cell P7.out 4).trans rfl
            have hS7 := B7.out.size
            go_wp2_with (first | ((with_reducible refine gate_builtin (b := .append) (xs := #[.tmp 68, .tmp 70]) rfl ?_); at_builtin; refine Kd.R_append k64 (w0 := W1) (W := W7) W1.heap.size rfl (.tmp 68) (.tmp 70) 23 64 (.agg #[(.int .i64 0), (.int .i64 0), (.slice none 0 0), (.slice none 0 0), (.slice none 0 0)]) 88 rfl Try.underlying23 info64 rfl (by decide) (by omega) (.slice A8 j c8) (l'.take j) (⟨opn, n', a', t', e'⟩ : S64) [.int .i64 opn, .int .i64 n', .slice A11 xa.length c11, .slice D3 t'.length d3, .slice D4 e'.length d4] (fun _ => True) (fun k => Wr.heap.size ≤ k) rfl rfl ?aP ?aK (fun _ _ => trivial) ?aO ?aB ?aS ?aL ?_; (case aP => exact k64_mkM _ _ _ (⟨opn, n', a', t', e'⟩ : S64) (Kd.R_lower O7.out (Nat.le_succ_of_le hSB)) (Kd.R_lower T7.out (Nat.le_succ_of_le hSB)) (Kd.R_lower U7.out (Nat.le_succ_of_le hSB))); (case aK => exact fun k hk => ⟨trivial, fun e => by have h9 := hol _ e.symm; omega⟩); (case aO => exact Kd.R_below HO.out B7.out); (case aB => exact BB.out.trans (B7.out.mono hSB)); (case aS => exact Nat.le_trans hSB hS7); (case aL => rw [hjl]; omega); intro v1 W8 o8 b8 g8 t8))
            obtain ⟨A9, c9, e9⟩ := Kd.R_slice o8
            subst e9
            have O8 := Aside0.mk o8
            have B8 := Aside0.mk b8
            clear o8 b8 g8 t8 B7 O7 T7 U7 P7 x0 x1 x2 x3 x4
            go_roundg k1
            case measure => omega
            case rel =>
              refine ⟨j + 1, A9, c9, by simp, by simp; omega, ⟨by have := HI.out; omega⟩, ⟨?_⟩, B8⟩
              have := O8.out
              rw [mv_takeS HYI.out]
              have e7 : (List.take j l' ++ [(⟨opn, n', a', t', e'⟩ : S64)]).length = j + 1 := by simp; omega
              rw [e7] at this
              exact this
          | succ k2 =>
            have hm : m < xa.length := by have := MI.out; omega
            have hd2 : decide ((m : Int) < (xa.length : Int)) = true := decide_eq_true (by omega)
            have HBY := Aside0.mk (HBW.out.trans (BG.out.mono HBW.out.size))
            obtain ⟨ad2, D3, d3, e3, s0, s1, s2, s3, sl3, sr3⟩ := at_T28 QR2.out (m : Int) (by omega) (by omega)
            subst e3
            have hzm : xa[m]? = some (rd_T28 xa (m : Int)) := by unfold rd_T28; rw [Int.toNat_natCast, List.getD_eq_getElem?_getD, List.getElem?_eq_getElem hm]; rfl
            generalize rd_T28 xa (m : Int) = z at s0 s1 s2 s3 sl3 sr3 hzm
            obtain ⟨u, hu, hum⟩ := HAG.out m z hzm
            simp only [Int.toNat_natCast] at s0 s1 s2 s3
            replace s0 := (HBY.out.cell (World.block_lt_of_cell? w _ s0)).trans s0
            replace s1 := (HBY.out.cell (World.block_lt_of_cell? w _ s1)).trans s1
            replace s2 := (HBY.out.cell (World.block_lt_of_cell? w _ s2)).trans s2
            replace s3 := (HBY.out.cell (World.block_lt_of_cell? w _ s3)).trans s3
            have hw2 : IntKind.i64.wrap ((m : Int) + 1) = (m : Int) + 1 := by rw [i64_w]; unfold wrap64; omega
            have W1B := bal (Below.refl wr.heap.size wr) (.cells #[.int .i64 z.f0, .int .i64 z.f1, .int .i64 z.f2, .slice D3 z.f3.length d3] 28)
            have hSY := SG.out
            have hob2 := Kd.R_base MO.out
            have hol2 := Kd.R_lt MO.out
            have htk : (a'.take m).length = m := by rw [List.length_take]; omega
            go_wp2_with (first | (go_at_call 83; refine (prod_moving1.calls _ z u D3 d3 (w.heap.size + 1) _ hu ((HMV.out.below BG.out).below W1B) (Kd.C_below (Kd.C_below sr3 HBY.out) W1B) sl3).mono ?_; rintro e W2 ⟨v, rfl, p2, hb2⟩) | ((with_reducible refine gate_builtin (b := .append) (xs := #[.tmp 47, .tmp 51]) rfl ?_); at_builtin; refine Kd.R_append k28 (w0 := wr) (W := W2) (Wr.heap.size + 1) rfl (.tmp 47) (.tmp 51) 26 28 (.agg #[(.int .i64 0), (.int .i64 0), (.int .i64 0), (.slice none 0 0)]) 48 rfl Try.underlying26 info28 rfl (by decide) (by omega) (.slice A11 m c11) (a'.take m) u [.int .i64 u.f0, .int .i64 u.f1, .int .i64 u.f2, v] (fun _ => True) (fun k => wr.heap.size ≤ k) rfl rfl ?aP ?aK (fun _ _ => trivial) ?aO ?aB ?aS ?aL ?_; (case aP => exact k28_mkM _ _ _ u (Kd.R_lower (Kd.R_mono (Kd.R_bound p2) (fun k hk => Nat.le_trans W1B.size hk.2.1)) (Nat.le_trans hSY W1B.size))); (case aK => exact fun k hk => ⟨trivial, fun e => by have h9 := hol2 _ e.symm; omega⟩); (case aO => exact Kd.R_below (Kd.R_below MO.out W1B) hb2); (case aB => exact (W1B.trans (hb2.mono W1B.size)).mono hSY); (case aS => exact Nat.le_trans hSY (Nat.le_trans W1B.size hb2.size)); (case aL => rw [htk]; omega); intro v1 W3 o3 b3 g3 t3))
            obtain ⟨A6, c6, e6⟩ := Kd.R_slice o3
            subst e6
            have hWW := W1B.trans (hb2.mono W1B.size)
            have pf := Aside0.mk (blk_grown (blk_below PG.out hWW) g3 (fun e => by have h9 := hob2 _ e.symm; omega))
            have bf := Aside0.mk (BG.out.trans (b3.mono (show Wr.heap.size ≤ Wr.heap.size + 1 by omega)))
            have sf := Aside0.mk (Nat.le_trans (Nat.le_trans hSY hWW.size) g3.size)
            have of := Aside0.mk o3
            clear o3 b3 g3 t3 hWW PG BG SG MO W1B hb2 p2
            go_roundg k2
            case measure => omega
            case rel =>
              refine ⟨m + 1, A6, c6, by simp, by simp; omega, ⟨by have := MI.out; omega⟩, ⟨?_⟩, pf, bf, sf⟩
              have := of.out
              rw [mv_take hum]
              have e7 : (List.take m a' ++ [u]).length = m + 1 := by simp; omega
              rw [e7] at this
              exact this
def prod_Moved.f (_ : Nat) (l0 : List S64) (a1 a2 : Int) : Option (List S64) := mvSs a1 a2 l0
theorem prod_Moved.calls (k : Nat) (A0 : Option Addr) (c0 : Nat) (l0 : List S64) (a1 a2 : Int) (r : List S64) (w : World) (hr0 : Kd.C k64 w A0 l0.length l0) (hc0 : l0.length ≤ c0) (h : prod_Moved.f k l0 a1 a2 = some r) :
    Calls Try.prog 64 #[.slice A0 l0.length c0, .int .i64 a1, .int .i64 a2] w fun e w' => ∃ v0_ : Value, e = .returned v0_ ∧ Kd.R k64 64 w' w.heap.size (fun _ => True) v0_ r ∧ Below w.heap.size w w' :=
  prod_Moved.go a1 a2 l0 r A0 c0 w h hr0 hc0
end Go.Proofs.Ytilebfkehmecaaa.Print
namespace Go.Proofs.Ytilebfkehmecaaa.Print
open Go.RowKit Go.Proofs.YtilebfkehmecaaaW.PrintWords Go.Proofs.YtilebfkehmecaaaW.PrintLast Go.Proofs.YtilebfkehmecaaaW.PrintMore
attribute [local go_sem] max2_int min2_int max_two min_two max_three min_three max_four min_four
set_option linter.unusedVariables false
set_option linter.unusedSimpArgs false
def prod_Of.l0 : Nat → List (S25) → Int → Int → Int → List (S66) → List (S64) → Option (Int × (List (S66)) × (List (S64)))
 | 0, _, _, _, _, _, _ => none
 | k + 1, x11, x12, x13, x204000, x204001, x204002 => if x13 < x12 then (if 0 ≤ x13 then (if x13 < (x11.length : Int) then ((prod_variables.f k ((rd_T25 x11 x13).f1) x13).bind fun t206 => (if x204001.length + t206.length < 4398046511104 then ((prod_Moved.f k ((rd_T25 x11 x13).f2) x13 (wrap64 (x13 * (((rd_T25 x11 x13).f1).length : Int)))).bind fun t212 => (if x204002.length + t212.length < 1599289640401 then (prod_Of.l0 k x11 x12 (wrap64 (x13 + 1)) x204000 (x204001 ++ t206) (x204002 ++ t212)) else (none))) else (none))) else (none)) else (none)) else (some (x204000, x204001, x204002))
def prod_Of.f (k : Nat) (l0 : List (S25)) : Option (Int × (List (S66)) × (List (S64))) := if 0 < (l0.length : Int) then (prod_Of.l0 k l0 (l0.length : Int) 0 ((rd_T25 l0 0).f0) ([] : List (S66)) ([] : List (S64))) else (none)
def prod_Of.T5 : Bool × List (List Nat × List Nat) := (true, [([], []), ([0], [0]), ([], []), ([2], [2]), ([], []), ([3, 4], [3, 4]), ([1, 5, 5], [1, 5]), ([0, 1, 2, 3, 4, 5, 6], []), ([7, 6, 6, 0, 1, 2, 3, 4, 5, 6], [6, 7])])
def prod_Of.B5 : List Nat := [0, 1, 0, 4, 0, 28, 63, 127, 255]
theorem prod_Of.tab5 : rtab .any (opsOf Try.f65 5) = prod_Of.T5 := by kernel_rfl
theorem prod_Of.bits5 : waitsOk prod_Of.T5.2 prod_Of.B5 = true := by kernel_rfl
def prod_Of.T6 : Bool × List (List Nat × List Nat) := (true, [([], []), ([0], [0]), ([], []), ([2], [2]), ([], []), ([], []), ([], []), ([6], [6]), ([7], [7]), ([5, 8], [5, 8]), ([3, 4, 9], [3, 4, 9]), ([1, 10, 10], [1, 10]), ([0, 1, 2, 3, 4, 5, 6, 7, 8, 9, 10, 11], []), ([12, 11, 11, 0, 1, 2, 3, 4, 5, 6, 7, 8, 9, 10, 11], [11, 12])])
def prod_Of.B6 : List Nat := [0, 1, 0, 4, 0, 0, 0, 64, 192, 480, 1020, 2047, 4095, 8191]
theorem prod_Of.tab6 : rtab .any (opsOf Try.f65 6) = prod_Of.T6 := by kernel_rfl
theorem prod_Of.bits6 : waitsOk prod_Of.T6.2 prod_Of.B6 = true := by kernel_rfl
theorem rowsM {α : Type} {d : Kd α} {e : Nat} {w : World} {base : Nat} {ok : Nat → Prop} {A : Option Addr} {n c : Nat} {xs : List α} (h : d.R e w base ok (.slice A n c) xs) : ReadsRow (fun x cs => d.M w base ok x cs) d.sz w A n xs := by
  have hn := (Kd.R_reads' h).1
  obtain ⟨h0, inner, ho, hr⟩ := h
  subst hn
  obtain ⟨A', c', e1, hq⟩ := own_reads_row ho (hr.imp_ (fun x cs hm => d.M_mono (fun k hk => hk.1) hm)) rfl
  cases e1
  exact hq
theorem prod_Of.callsR (k : Nat) (A0 : Option Addr) (c0 : Nat) (l0 : List (S25)) (r1 : Int) (r2 : List (S66)) (r3 : List (S64)) (w : World) (hr0 : Kd.C k25 w A0 l0.length l0) (hc0 : l0.length ≤ c0) (h : prod_Of.f k l0 = some (r1, r2, r3)) :
    Calls Try.prog 65 #[.slice A0 l0.length c0] w fun e w' => ∃ v1_ v2_ : Value, e = .returned (.agg #[.int .i64 r1, v1_, v2_]) ∧ Kd.R k66 66 w' w.heap.size (fun k_ => (w.heap.size ≤ k_)) v1_ r2 ∧ Kd.R k64 64 w' w.heap.size (fun k_ => (w.heap.size ≤ k_) ∧ some k_ ≠ (v1_ : Value).ownBlock) v2_ r3 ∧ Below w.heap.size w w' := by
  have hu25 := Try.underlying25
  have HR0 := Aside0.mk hr0
  have HC0 := Aside0.mk hc0
  clear hr0 hc0
  have HB := Aside0.mk (Below.refl w.heap.size w)
  have H : (if 0 < (l0.length : Int) then (prod_Of.l0 k l0 (l0.length : Int) 0 ((rd_T25 l0 0).f0) ([] : List (S66)) ([] : List (S64))) else (none)) = some (r1, r2, r3) := h
  clear h
  by_cases c2 : 0 < (l0.length : Int)
  · rw [if_pos c2] at H
    have c2b0 : decide (0 < (l0.length : Int)) = true := decide_eq_true c2
    have c2b1 : decide (0 < l0.length) = true := decide_eq_true (by omega)
    clear c2
    have H' := Aside0.mk H
    clear H
    go_enter Try.func65, Try.ntmps65
    go_wp2_with (first | ((with_reducible refine gate_dst (N := 2) rfl ?_); refine bx 2 rfl rfl #[.int .i64 0, .slice none 0 0, .slice none 0 0] 25 ?_; intro gb201 hg w3 hbox hb; have BK201 := Aside0.mk (hbox); have GE201 := ge HB hg; replace HB := sb HB hb; clear hb hbox hg; have p202 : 0 ≤ (0 : Int) := (by omega); have q202 : 0 < (l0.length : Int) := od; obtain ⟨ad202, A202_1, c202_1, A202_2, c202_2, e202, hx202_0, hx202_1, hx202_2, hl202_1, hi202_1, hl202_2, hi202_2⟩ := at_T25 HR0.out 0 p202 q202; cases e202; have qi202 : (0 < l0.length) = True := eq_true (by omega); (try rw [show ((0 : Int)).toNat = 0 from rfl] at hx202_0); (try rw [show 0 * 3 = 0 from rfl] at hx202_0); (try rw [Addr.add_zero'] at hx202_0); (try rw [show ((0 : Int)).toNat = 0 from rfl] at hx202_1); (try rw [show 0 * 3 = 0 from rfl] at hx202_1); (try rw [Addr.add_zero'] at hx202_1); (try rw [show ((0 : Int)).toNat = 0 from rfl] at hx202_2); (try rw [show 0 * 3 = 0 from rfl] at hx202_2); (try rw [Addr.add_zero'] at hx202_2); replace hx202_0 := bcell HB.out hx202_0; replace hx202_1 := bcell HB.out hx202_1; replace hx202_2 := bcell HB.out hx202_2; have HR202_1 := Aside0.mk hi202_1; have HC202_1 := Aside0.mk hl202_1; clear hi202_1 hl202_1; have HR202_2 := Aside0.mk hi202_2; have HC202_2 := Aside0.mk hl202_2; clear hi202_2 hl202_2; replace p202 := eq_true p202; replace q202 := eq_true q202) | ((with_reducible refine gate_dst (N := 3) rfl ?_); refine bx 3 rfl rfl #[.int .i64 0, .slice none 0 0, .slice none 0 0] 25 ?_; intro gb203 hg w4 hbox hb; have BK203 := Aside0.mk (hbox); have GE203 := ge HB hg; have NB201_203 := Aside0.mk ((by rw [hg]; exact Nat.ne_of_lt (blk_lt (kk BK201)) : gb201 ≠ gb203)); have NB203_201 := Aside0.mk ((by rw [hg]; exact Nat.ne_of_gt (blk_lt (kk BK201)) : gb203 ≠ gb201)); replace BK201 := kb BK201 hb; replace HB := sb HB hb; clear hb hbox hg; have hnb5 := NB203_201.out; have hnc5 := NB201_203.out; obtain ⟨hcz6_0, hcz6_1, hcz6_2, hfz6_0, hfz6_1, hfz6_2⟩ := cf3 BK203.out))
    go_loopg [13] k (fun kq v13 w' => ∃ (x13_1 : Int) (x204001_1 : List (S66)) (x204002_1 : List (S64)) (u204001 : Value) (u204002 : Value), v13 = .int .i64 x13_1 ∧ Aside0 (prod_Of.l0 kq l0 (l0.length : Int) x13_1 ((rd_T25 l0 0).f0) x204001_1 x204002_1 = some (r1, r2, r3)) ∧ Aside0 (kq ≤ k) ∧ Aside0 (Kd.R k66 66 w' w.heap.size (fun k_ => (w.heap.size ≤ k_)) u204001 x204001_1) ∧ Aside0 (Kd.R k64 64 w' w.heap.size (fun k_ => (w.heap.size ≤ k_) ∧ some k_ ≠ (u204001 : Value).ownBlock ∧ k_ ≠ gb201 ∧ k_ ≠ gb203) u204002 x204002_1) ∧ Aside0 (w'.heap[gb201]? = some (.cells #[.int .i64 0, (.slice none 0 0), (.slice none 0 0)] 25 (0, 0))) ∧ Aside0 (w'.heap[gb203]? = some (.cells #[.int .i64 ((rd_T25 l0 0).f0), u204001, u204002] 25 (0, 0))) ∧ Aside0 (Below w.heap.size w w'))
    case atStart => exact ⟨(0), (([] : List (S66))), (([] : List (S64))), (.slice none 0 0), (.slice none 0 0), rs, H', ⟨Nat.le_refl _⟩, ⟨by first | exact Kd.R_nil _ _ _ _ _ | exact Kd.R_nil _ _ _ _ _ | exact Kd.V_nil _ _ _ _ _ | exact Kd.Q_nil _ _ _ _ _ | exact Kd.S_nil _ _ _ _ _⟩, ⟨by first | exact Kd.R_nil _ _ _ _ _ | exact Kd.R_nil _ _ _ _ _ | exact Kd.V_nil _ _ _ _ _ | exact Kd.Q_nil _ _ _ _ _ | exact Kd.S_nil _ _ _ _ _⟩, ⟨kk BK201⟩, ⟨by (with_reducible repeat (first | refine kdN ?_ _ | refine kdr ?_ | refine kal ?_ _)); refine blk_put (cs := #[.int .i64 ((rd_T25 l0 0).f0), .slice none 0 0, .slice none 0 0]) ?_ 2 _ rfl; (with_reducible repeat (first | refine kdN ?_ _ | refine kdr ?_ | refine kal ?_ _)); refine blk_put (cs := #[.int .i64 ((rd_T25 l0 0).f0), .slice none 0 0, .slice none 0 0]) ?_ 1 _ rfl; (with_reducible repeat (first | refine kdN ?_ _ | refine kdr ?_ | refine kal ?_ _)); refine blk_put (cs := #[.int .i64 0, .slice none 0 0, .slice none 0 0]) ?_ 0 _ rfl; (with_reducible repeat (first | refine kdN ?_ _ | refine kdr ?_ | refine kal ?_ _)); exact BK203.out⟩, ⟨bb HB⟩⟩
    case round =>
      clear H'
      try clear c2
      try clear c2b0
      try clear c2b1
      try clear p2
      try clear q2
      try clear hx2
      try clear qi2
      try clear c5
      try clear c6
      try clear hcz6_0 hcz6_1 hcz6_2 hfz6_0 hfz6_1 hfz6_2
      try clear hx202_0
      try clear hx202_1
      try clear hx202_2
      try clear p202
      try clear q202
      obtain ⟨x13_1, x204001_1, x204002_1, u204001, u204002, rfl, HA, HK1, HO_204001, HO_204002, BK201, BK203, HB⟩ := hrel
      cases gk with
      | zero => exact absurd HA.out (by simp [prod_Of.l0])
      | succ k1 =>
        have H := HA.out
        clear HA
        simp only [prod_Of.l0] at H
        by_cases c7 : x13_1 < (l0.length : Int)
        · rw [if_pos c7] at H
          have c7b0 : decide (x13_1 < (l0.length : Int)) = true := decide_eq_true c7
          clear c7
          by_cases c8 : 0 ≤ x13_1
          · rw [if_pos c8] at H
            have c8b0 : decide (0 ≤ x13_1) = true := decide_eq_true c8
            clear c8
            by_cases c9 : x13_1 < (l0.length : Int)
            · rw [if_pos c9] at H
              have c9b0 : decide (x13_1 < (l0.length : Int)) = true := decide_eq_true c9
              clear c9
              obtain ⟨t206, A10, H⟩ := be H
              by_cases c11 : x204001_1.length + t206.length < 4398046511104
              · rw [if_pos c11] at H
                have LMc11 := Aside0.mk c11
                clear c11
                obtain ⟨y209, hy209⟩ : ∃ y_ : List (S66), y_ = (x204001_1 ++ t206) := ⟨_, rfl⟩
                replace H : ((prod_Moved.f k1 ((rd_T25 l0 x13_1).f2) x13_1 (wrap64 (x13_1 * (((rd_T25 l0 x13_1).f1).length : Int)))).bind fun t212 => (if x204002_1.length + t212.length < 1599289640401 then (prod_Of.l0 k1 l0 (l0.length : Int) (wrap64 (x13_1 + 1)) ((rd_T25 l0 0).f0) y209 (x204002_1 ++ t212)) else (none))) = some (r1, r2, r3) := by first | (rw [hy209]; with_reducible exact H) | (have H2_ := (Option.bind_some _ _).symm.trans H; rw [hy209]; with_reducible exact H2_) | (have H2_ := (Option.bind_some _ _).symm.trans H; with_reducible exact H2_) | with_reducible exact H | (rw [hy209]; exact H) | exact H
                have Ny209 := Aside0.mk hy209
                clear hy209
                obtain ⟨t212, A12, H⟩ := be H
                by_cases c13 : x204002_1.length + t212.length < 1599289640401
                · rw [if_pos c13] at H
                  have LMc13 := Aside0.mk c13
                  clear c13
                  obtain ⟨y215, hy215⟩ : ∃ y_ : List (S64), y_ = (x204002_1 ++ t212) := ⟨_, rfl⟩
                  replace H : (prod_Of.l0 k1 l0 (l0.length : Int) (wrap64 (x13_1 + 1)) ((rd_T25 l0 0).f0) y209 y215) = some (r1, r2, r3) := by first | (rw [hy215]; with_reducible exact H) | (have H2_ := (Option.bind_some _ _).symm.trans H; rw [hy215]; with_reducible exact H2_) | (have H2_ := (Option.bind_some _ _).symm.trans H; with_reducible exact H2_) | with_reducible exact H | (rw [hy215]; exact H) | exact H
                  have Ny215 := Aside0.mk hy215
                  clear hy215
                  have H' := Aside0.mk H
                  clear H
                  have p204 : 0 ≤ (x13_1 : Int) := od
                  have q204 : x13_1 < (l0.length : Int) := od
                  obtain ⟨ad204, A204_1, c204_1, A204_2, c204_2, e204, hx204_0, hx204_1, hx204_2, hl204_1, hi204_1, hl204_2, hi204_2⟩ := at_T25 HR0.out x13_1 p204 q204
                  obtain rfl : ad202 = ad204 := (by injection e204)
                  replace hx204_0 := bcell HB.out hx204_0
                  replace hx204_1 := bcell HB.out hx204_1
                  replace hx204_2 := bcell HB.out hx204_2
                  have HR204_1 := Aside0.mk hi204_1
                  have HC204_1 := Aside0.mk hl204_1
                  clear hi204_1 hl204_1
                  have HR204_2 := Aside0.mk hi204_2
                  have HC204_2 := Aside0.mk hl204_2
                  clear hi204_2 hl204_2
                  replace p204 := eq_true p204
                  replace q204 := eq_true q204
                  try go_wp2_with (first | ((with_reducible refine gate_dst (N := 5) rfl ?_); refine bx 5 rfl rfl #[.int .i64 0, .slice none 0 0, .slice none 0 0] 25 ?_; intro gb205 hg w14 hbox hb; have BK205 := Aside0.mk (hbox); have GE205 := ge HB hg; have NB201_205 := Aside0.mk ((by rw [hg]; exact Nat.ne_of_lt (blk_lt (kk BK201)) : gb201 ≠ gb205)); have NB205_201 := Aside0.mk ((by rw [hg]; exact Nat.ne_of_gt (blk_lt (kk BK201)) : gb205 ≠ gb201)); have NB203_205 := Aside0.mk ((by rw [hg]; exact Nat.ne_of_lt (blk_lt (kk BK203)) : gb203 ≠ gb205)); have NB205_203 := Aside0.mk ((by rw [hg]; exact Nat.ne_of_gt (blk_lt (kk BK203)) : gb205 ≠ gb203)); replace HO_204001 := Aside0.mk (Kd.R_below (iR HO_204001) hb); replace HO_204002 := Aside0.mk (Kd.R_below (Kd.R_elderB (iR HO_204002) gb205 (Nat.le_of_eq hg.symm)) hb); replace BK201 := kb BK201 hb; replace BK203 := kb BK203 hb; replace HB := sb HB hb; clear hb hbox hg; have hnb15 := NB205_201.out; have hnc15 := NB201_205.out; have hnb16 := NB205_203.out; have hnc16 := NB203_205.out; obtain ⟨hcz17_0, hcz17_1, hcz17_2, hfz17_0, hfz17_1, hfz17_2⟩ := cf3 BK205.out))
                  have n0_ : Aside0 (Kd.R k66 66 (((w14.setCell ⟨gb205, 0, none⟩ (.int .i64 ((rd_T25 l0 x13_1).f0))).setCell ⟨gb205, 1, none⟩ (.slice A204_1 ((rd_T25 l0 x13_1).f1).length c204_1)).setCell ⟨gb205, 2, none⟩ (.slice A204_2 ((rd_T25 l0 x13_1).f2).length c204_2)) w.heap.size (fun k_ => (w.heap.size ≤ k_)) u204001 x204001_1) := ⟨by (with_reducible repeat (first | apply Kd.R_alloc | apply Kd.R_drewN | apply Kd.R_drew)); exact Kd.R_mono (Kd.R_far (p := ⟨gb205, 2, none⟩) (Kd.R_far (p := ⟨gb205, 1, none⟩) (Kd.R_far (p := ⟨gb205, 0, none⟩) (Kd.R_types HO_204001.out BK205.out (by decide)) (fun _ hk => hk.2) (.int .i64 ((rd_T25 l0 x13_1).f0))) (fun _ hk => hk.2) (.slice A204_1 ((rd_T25 l0 x13_1).f1).length c204_1)) (fun _ hk => hk.2) (.slice A204_2 ((rd_T25 l0 x13_1).f2).length c204_2)) (fun _ hk => hk.1)⟩
                  have n1_ : Aside0 (Kd.R k64 64 (((w14.setCell ⟨gb205, 0, none⟩ (.int .i64 ((rd_T25 l0 x13_1).f0))).setCell ⟨gb205, 1, none⟩ (.slice A204_1 ((rd_T25 l0 x13_1).f1).length c204_1)).setCell ⟨gb205, 2, none⟩ (.slice A204_2 ((rd_T25 l0 x13_1).f2).length c204_2)) w.heap.size (fun k_ => (w.heap.size ≤ k_) ∧ some k_ ≠ (u204001 : Value).ownBlock ∧ k_ ≠ gb201 ∧ k_ ≠ gb203 ∧ k_ ≠ gb205) u204002 x204002_1) := ⟨by (with_reducible repeat (first | apply Kd.R_alloc | apply Kd.R_drewN | apply Kd.R_drew)); exact Kd.R_mono (Kd.R_far (p := ⟨gb205, 2, none⟩) (Kd.R_far (p := ⟨gb205, 1, none⟩) (Kd.R_far (p := ⟨gb205, 0, none⟩) (Kd.R_mono HO_204002.out (fun k_ hk => (⟨hk, hk.2⟩ : _ ∧ k_ ≠ gb205))) (fun _ hk => hk.2) (.int .i64 ((rd_T25 l0 x13_1).f0))) (fun _ hk => hk.2) (.slice A204_1 ((rd_T25 l0 x13_1).f1).length c204_1)) (fun _ hk => hk.2) (.slice A204_2 ((rd_T25 l0 x13_1).f2).length c204_2)) (fun _ hk => ⟨hk.1.1.1, ⟨hk.1.1.2.1, ⟨hk.1.1.2.2.1, ⟨hk.1.1.2.2.2, hk.1.2⟩⟩⟩⟩)⟩
                  have n2_ : Aside0 ((((w14.setCell ⟨gb205, 0, none⟩ (.int .i64 ((rd_T25 l0 x13_1).f0))).setCell ⟨gb205, 1, none⟩ (.slice A204_1 ((rd_T25 l0 x13_1).f1).length c204_1)).setCell ⟨gb205, 2, none⟩ (.slice A204_2 ((rd_T25 l0 x13_1).f2).length c204_2)).heap[gb201]? = some (.cells #[.int .i64 0, .slice none 0 0, .slice none 0 0] 25 (0, 0))) := ⟨kk BK201⟩
                  have n3_ : Aside0 ((((w14.setCell ⟨gb205, 0, none⟩ (.int .i64 ((rd_T25 l0 x13_1).f0))).setCell ⟨gb205, 1, none⟩ (.slice A204_1 ((rd_T25 l0 x13_1).f1).length c204_1)).setCell ⟨gb205, 2, none⟩ (.slice A204_2 ((rd_T25 l0 x13_1).f2).length c204_2)).heap[gb203]? = some (.cells #[.int .i64 ((rd_T25 l0 0).f0), u204001, u204002] 25 (0, 0))) := ⟨kk BK203⟩
                  have n4_ : Aside0 ((((w14.setCell ⟨gb205, 0, none⟩ (.int .i64 ((rd_T25 l0 x13_1).f0))).setCell ⟨gb205, 1, none⟩ (.slice A204_1 ((rd_T25 l0 x13_1).f1).length c204_1)).setCell ⟨gb205, 2, none⟩ (.slice A204_2 ((rd_T25 l0 x13_1).f2).length c204_2)).heap[gb205]? = some (.cells #[.int .i64 ((rd_T25 l0 x13_1).f0), .slice A204_1 ((rd_T25 l0 x13_1).f1).length c204_1, .slice A204_2 ((rd_T25 l0 x13_1).f2).length c204_2] 25 (0, 0))) := ⟨by (with_reducible repeat (first | refine kdN ?_ _ | refine kdr ?_ | refine kal ?_ _)); refine blk_put (cs := #[.int .i64 ((rd_T25 l0 x13_1).f0), .slice A204_1 ((rd_T25 l0 x13_1).f1).length c204_1, .slice none 0 0]) ?_ 2 _ rfl; (with_reducible repeat (first | refine kdN ?_ _ | refine kdr ?_ | refine kal ?_ _)); refine blk_put (cs := #[.int .i64 ((rd_T25 l0 x13_1).f0), .slice none 0 0, .slice none 0 0]) ?_ 1 _ rfl; (with_reducible repeat (first | refine kdN ?_ _ | refine kdr ?_ | refine kal ?_ _)); refine blk_put (cs := #[.int .i64 0, .slice none 0 0, .slice none 0 0]) ?_ 0 _ rfl; (with_reducible repeat (first | refine kdN ?_ _ | refine kdr ?_ | refine kal ?_ _)); exact BK205.out⟩
                  have n5_ : Aside0 (Below w.heap.size w (((w14.setCell ⟨gb205, 0, none⟩ (.int .i64 ((rd_T25 l0 x13_1).f0))).setCell ⟨gb205, 1, none⟩ (.slice A204_1 ((rd_T25 l0 x13_1).f1).length c204_1)).setCell ⟨gb205, 2, none⟩ (.slice A204_2 ((rd_T25 l0 x13_1).f2).length c204_2))) := ⟨bb HB⟩
                  (try clear HO_204001)
                  (try clear HO_204002)
                  (try clear BK201)
                  (try clear BK203)
                  (try clear BK205)
                  (try clear HB)
                  generalize (((w14.setCell ⟨gb205, 0, none⟩ (.int .i64 ((rd_T25 l0 x13_1).f0))).setCell ⟨gb205, 1, none⟩ (.slice A204_1 ((rd_T25 l0 x13_1).f1).length c204_1)).setCell ⟨gb205, 2, none⟩ (.slice A204_2 ((rd_T25 l0 x13_1).f2).length c204_2)) = w18 at n0_ n1_ n2_ n3_ n4_ n5_ ⊢
                  have HO_204001 := n0_
                  have HO_204002 := n1_
                  have BK201 := n2_
                  have BK203 := n3_
                  have BK205 := n4_
                  have HB := n5_
                  clear n0_ n1_ n2_ n3_ n4_ n5_
                  replace HO_204001 := Aside0.mk (Kd.R_drew HO_204001.out)
                  replace HO_204002 := Aside0.mk (Kd.R_drew HO_204002.out)
                  replace BK201 := Aside0.mk (kdr BK201.out)
                  replace BK203 := Aside0.mk (kdr BK203.out)
                  replace BK205 := Aside0.mk (kdr BK205.out)
                  replace HB := Aside0.mk (bd1 HB.out)
                  refine start_ (n := 9) (S := fun w' => w'.cell? ⟨gb203, 0, none⟩ = some (.int .i64 ((rd_T25 l0 0).f0)) ∧ w'.cell? ⟨gb203, 1, none⟩ = some (u204001) ∧ w'.cell? ⟨gb203, 2, none⟩ = some (u204002) ∧ w'.cell? ⟨gb205, 0, none⟩ = some (.int .i64 ((rd_T25 l0 x13_1).f0)) ∧ w'.cell? ⟨gb205, 1, none⟩ = some (.slice A204_1 ((rd_T25 l0 x13_1).f1).length c204_1) ∧ w'.cell? ⟨gb205, 2, none⟩ = some (.slice A204_2 ((rd_T25 l0 x13_1).f2).length c204_2)) (ds := [8]) #[false, false, false, false, false, false, false, false, false] (by kernel_rfl) rfl rfl ⟨(blk_cell BK203.out 0).trans rfl, (blk_cell BK203.out 1).trans rfl, (blk_cell BK203.out 2).trans rfl, (blk_cell BK205.out 0).trans rfl, (blk_cell BK205.out 1).trans rfl, (blk_cell BK205.out 2).trans rfl⟩ (fun hHeld => ?_); refine with_tabW prod_Of.tab5 prod_Of.bits5 (fun HT_ HW_ => ?_)
                  generalize w18.drew = w19 at HO_204001 HO_204002 BK201 BK203 BK205 HB hHeld ⊢
                  refine pT 0 18 (bl 9 1) HT_ rfl rfl ?_
                  refine pT 2 20 (bl 9 5) HT_ rfl rfl ?_
                  refine pT 4 22 (bl 9 21) HT_ rfl rfl ?_
                  refine tk (i := 1) (N := some 19) (bl 9 23) rfl rfl (take_ofW HT_.out HW_.out (by kernel_rfl)) hHeld ?_
                  refine tk (i := 3) (N := some 21) (bl 9 31) rfl rfl (take_ofW HT_.out HW_.out (by kernel_rfl)) hHeld ?_
                  refine one_ (i := 5) (N := some 23) (bl 9 63) rfl rfl (one_of HT_.out (by kernel_rfl)) (by decide) (fun K hK => ?_)
                  refine gO Try.func45 #[.slice A204_1 ((rd_T25 l0 x13_1).f1).length c204_1, .int .i64 x13_1] (by rfl) rfl rfl ?_
                  with_reducible refine (prod_variables.calls k1 _ _ ((rd_T25 l0 x13_1).f1) x13_1 t206 _ ?side1 ?side2 A10.out).mono ?_
                  (case side1 => exact cb HR204_1 HB)
                  (case side2 => exact HC204_1.out)
                  rintro e w20 ⟨v207, rfl, ho0, hb⟩
                  refine ⟨_, rfl, ?_⟩
                  have HO208 := Aside0.mk (Kd.R_lower (Kd.R_new' (Kd.R_newM (M := fun k_ => (w.heap.size ≤ k_)) ho0 (bsz (bb HB)) (fun k_ h_ => h_)) (Kd.R_lt (iR HO_204001))) (bsz (bb HB)))
                  replace HO_204001 := Aside0.mk (Kd.R_elder' (iR HO_204001) (Kd.R_base ho0) hb)
                  replace HO_204002 := Aside0.mk (Kd.R_elder' (iR HO_204002) (Kd.R_base ho0) hb)
                  replace BK201 := kb BK201 hb
                  replace BK203 := kb BK203 hb
                  replace BK205 := kb BK205 hb
                  replace HB := sb HB hb
                  (try clear hb)
                  (try clear hb2)
                  (try clear hk)
                  (try clear hi)
                  (try clear ho0)
                  obtain ⟨Ao22, co22, eo22⟩ := Kd.R_slice HO208.out
                  (first | subst eo22 | (injection eo22 with f1_ f2_ f3_; have f4_ := f1_.symm; have f5_ := f3_.symm; clear f1_ f2_ f3_; subst f4_; subst f5_))
                  refine hK.out _ _ ⟨(blk_cell BK203.out 0).trans rfl, (blk_cell BK203.out 1).trans rfl, (blk_cell BK203.out 2).trans rfl, (blk_cell BK205.out 0).trans rfl, (blk_cell BK205.out 1).trans rfl, (blk_cell BK205.out 2).trans rfl⟩ (fun hHeld => ?_)
                  clear hK K
                  refine nm 23 ?_
                  refine one_ (i := 6) (N := some 24) (bl 9 127) rfl rfl (one_of HT_.out (by kernel_rfl)) (by decide) (fun K hK => ?_)
                  refine Kd.R_append_rows_step k66 (w0 := w) w.heap.size (by rfl) (.tmp 19) (.tmp 23) 22 66 (.agg #[(.string ⟨#[]⟩), (.int .i64 0), (.int .i64 0)]) 32 rfl Try.underlying22 info66 rfl (by decide) (by omega) u204001 x204001_1 t206 _ _ _ (fun k_ => (w.heap.size ≤ k_) ∧ some k_ ≠ (.slice Ao22 t206.length co22 : Value).ownBlock) (fun _ => False) rfl rfl ?aO ?aR (fun _ _ h => h) (fun _ h => h.elim) ?aF ?aB ?aS ?aL ?_
                  (case aR => repeat (first | exact (Kd.R_reads' HO208.out).2.2 | with_reducible first | apply Kd.C_alloc | apply Kd.C_drewN | apply Kd.C_drew))
                  (case aB => exact (bb HB))
                  (case aF => exact (fun k_ hk => ⟨(Nat.le_trans (bsz (bb HB)) hk), Kd.fresh' (Kd.R_lt (iR HO208)) k_ hk⟩))
                  (case aO => exact (iR HO_204001))
                  (case aS => exact (bsz (bb HB)))
                  (case aL => have := LMc11.out; omega)
                  intro v210 w21 ho hb hg hat
                  rw [← Ny209.out] at ho
                  have HO211 := Aside0.mk (ho)
                  replace HO_204002 := Aside0.mk (Kd.R_after (ok := (fun k_ => (w.heap.size ≤ k_) ∧ some k_ ≠ (.slice Ao22 t206.length co22 : Value).ownBlock ∧ k_ ≠ gb201 ∧ k_ ≠ gb203 ∧ k_ ≠ gb205)) (by (with_reducible repeat (first | apply Kd.R_alloc | apply Kd.R_drewN | apply Kd.R_drew)); exact Kd.R_mono HO_204002.out (fun _ hk => ⟨⟨hk.1.1, ⟨hk.2, ⟨hk.1.2.2.1, ⟨hk.1.2.2.2.1, hk.1.2.2.2.2⟩⟩⟩⟩, hk.1.2.1⟩)) hg hat)
                  replace BK201 := Aside0.mk (blk_grown (kk BK201) hg (Kd.R_ne HO_204001.out BK201.out (by decide)))
                  replace BK203 := Aside0.mk (blk_grown (kk BK203) hg (Kd.R_ne HO_204001.out BK203.out (by decide)))
                  replace BK205 := Aside0.mk (blk_grown (kk BK205) hg (Kd.R_ne HO_204001.out BK205.out (by decide)))
                  replace HO208 := Aside0.mk (Kd.R_after (ok := (fun k_ => (w.heap.size ≤ k_))) (by (with_reducible repeat (first | apply Kd.R_alloc | apply Kd.R_drewN | apply Kd.R_drew)); exact Kd.R_mono HO208.out (fun _ hk => ⟨hk.1.1, hk.2⟩)) hg hat)
                  replace HB := Aside0.mk (hb)
                  clear HO_204001
                  clear ho hb hg hat
                  obtain ⟨Ao23, co23, eo23⟩ := Kd.R_slice HO211.out
                  (first | subst eo23 | (injection eo23 with f1_ f2_ f3_; have f4_ := f1_.symm; have f5_ := f3_.symm; clear f1_ f2_ f3_; subst f4_; subst f5_))
                  refine hK.out _ _ ⟨(blk_cell BK203.out 0).trans rfl, (blk_cell BK203.out 1).trans rfl, (blk_cell BK203.out 2).trans rfl, (blk_cell BK205.out 0).trans rfl, (blk_cell BK205.out 1).trans rfl, (blk_cell BK205.out 2).trans rfl⟩ (fun hHeld => ?_)
                  clear hK K
                  refine nm 24 ?_
                  refine pT 7 25 (bl 9 255) HT_ rfl rfl ?_
                  refine last_ (i := 8) (N := none) (bl 9 511) rfl rfl (one_of HT_.out (by kernel_rfl)) (by decide) (fun K hK => ?_)
                  have hs24 : w21.cell? ⟨gb203, 1, none⟩ = some (u204001) := (blk_cell BK203.out 1).trans rfl
                  have hfs24 := blk_frozen BK203.out 1
                  have hns24_0 := NB201_203.out
                  have hns24_2 := NB205_203.out
                  have hms24_0 := NB203_201.out
                  have hms24_2 := NB203_205.out
                  refine skip_ (w1 := ?_) (by rfl) rfl ?_ ?_
                  rotate_left
                  · go_simp
                    rfl
                  refine hK.out _ _ ?_
                  clear hK K
                  refine done_ (done_of HT_.out (by kernel_rfl)) ?_
                  try go_wp2
                  have n0_ : Aside0 (Kd.R k64 64 (w21.setCell ⟨gb203, 1, none⟩ (.slice Ao23 y209.length co23)) w.heap.size (fun k_ => (w.heap.size ≤ k_) ∧ some k_ ≠ (.slice Ao22 t206.length co22 : Value).ownBlock ∧ some k_ ≠ (.slice Ao23 y209.length co23 : Value).ownBlock ∧ k_ ≠ gb201 ∧ k_ ≠ gb203 ∧ k_ ≠ gb205) u204002 x204002_1) := ⟨by (with_reducible repeat (first | apply Kd.R_alloc | apply Kd.R_drewN | apply Kd.R_drew)); exact Kd.R_mono (Kd.R_far (p := ⟨gb203, 1, none⟩) (Kd.R_mono HO_204002.out (fun k_ hk => (⟨hk, hk.1.2.2.2.1⟩ : _ ∧ k_ ≠ gb203))) (fun _ hk => hk.2) (.slice Ao23 y209.length co23)) (fun _ hk => ⟨hk.1.1.1, ⟨hk.1.1.2.1, ⟨hk.1.2, ⟨hk.1.1.2.2.1, ⟨hk.1.1.2.2.2.1, hk.1.1.2.2.2.2⟩⟩⟩⟩⟩)⟩
                  have n1_ : Aside0 (Kd.R k66 66 (w21.setCell ⟨gb203, 1, none⟩ (.slice Ao23 y209.length co23)) w.heap.size (fun k_ => (w.heap.size ≤ k_) ∧ some k_ ≠ (.slice Ao23 y209.length co23 : Value).ownBlock) (.slice Ao22 t206.length co22) t206) := ⟨by (with_reducible repeat (first | apply Kd.R_alloc | apply Kd.R_drewN | apply Kd.R_drew)); exact Kd.R_mono (Kd.R_far (p := ⟨gb203, 1, none⟩) (Kd.R_types HO208.out BK203.out (by decide)) (fun _ hk => hk.2) (.slice Ao23 y209.length co23)) (fun _ hk => ⟨hk.1.1, hk.1.2⟩)⟩
                  have n2_ : Aside0 (Kd.R k66 66 (w21.setCell ⟨gb203, 1, none⟩ (.slice Ao23 y209.length co23)) w.heap.size (fun k_ => (w.heap.size ≤ k_) ∧ some k_ ≠ (.slice Ao22 t206.length co22 : Value).ownBlock) (.slice Ao23 y209.length co23) y209) := ⟨by (with_reducible repeat (first | apply Kd.R_alloc | apply Kd.R_drewN | apply Kd.R_drew)); exact Kd.R_mono (Kd.R_far (p := ⟨gb203, 1, none⟩) (Kd.R_types HO211.out BK203.out (by decide)) (fun _ hk => hk.2) (.slice Ao23 y209.length co23)) (fun _ hk => ⟨hk.1.1, hk.1.2⟩)⟩
                  have n3_ : Aside0 ((w21.setCell ⟨gb203, 1, none⟩ (.slice Ao23 y209.length co23)).heap[gb201]? = some (.cells #[.int .i64 0, .slice none 0 0, .slice none 0 0] 25 (0, 0))) := ⟨kk BK201⟩
                  have n4_ : Aside0 ((w21.setCell ⟨gb203, 1, none⟩ (.slice Ao23 y209.length co23)).heap[gb203]? = some (.cells #[.int .i64 ((rd_T25 l0 0).f0), .slice Ao23 y209.length co23, u204002] 25 (0, 0))) := ⟨by (with_reducible repeat (first | refine kdN ?_ _ | refine kdr ?_ | refine kal ?_ _)); refine blk_put (cs := #[.int .i64 ((rd_T25 l0 0).f0), u204001, u204002]) ?_ 1 _ rfl; (with_reducible repeat (first | refine kdN ?_ _ | refine kdr ?_ | refine kal ?_ _)); exact BK203.out⟩
                  have n5_ : Aside0 ((w21.setCell ⟨gb203, 1, none⟩ (.slice Ao23 y209.length co23)).heap[gb205]? = some (.cells #[.int .i64 ((rd_T25 l0 x13_1).f0), .slice A204_1 ((rd_T25 l0 x13_1).f1).length c204_1, .slice A204_2 ((rd_T25 l0 x13_1).f2).length c204_2] 25 (0, 0))) := ⟨kk BK205⟩
                  have n6_ : Aside0 (Below w.heap.size w (w21.setCell ⟨gb203, 1, none⟩ (.slice Ao23 y209.length co23))) := ⟨bb HB⟩
                  (try clear HO_204002)
                  (try clear HO208)
                  (try clear HO211)
                  (try clear BK201)
                  (try clear BK203)
                  (try clear BK205)
                  (try clear HB)
                  generalize (w21.setCell ⟨gb203, 1, none⟩ (.slice Ao23 y209.length co23)) = w25 at n0_ n1_ n2_ n3_ n4_ n5_ n6_ ⊢
                  have HO_204002 := n0_
                  have HO208 := n1_
                  have HO211 := n2_
                  have BK201 := n3_
                  have BK203 := n4_
                  have BK205 := n5_
                  have HB := n6_
                  clear n0_ n1_ n2_ n3_ n4_ n5_ n6_
                  replace HO_204002 := Aside0.mk (Kd.R_drew HO_204002.out)
                  replace HO208 := Aside0.mk (Kd.R_drew HO208.out)
                  replace HO211 := Aside0.mk (Kd.R_drew HO211.out)
                  replace BK201 := Aside0.mk (kdr BK201.out)
                  replace BK203 := Aside0.mk (kdr BK203.out)
                  replace BK205 := Aside0.mk (kdr BK205.out)
                  replace HB := Aside0.mk (bd1 HB.out)
                  refine start_ (n := 14) (S := fun w' => w'.cell? ⟨gb203, 0, none⟩ = some (.int .i64 ((rd_T25 l0 0).f0)) ∧ w'.cell? ⟨gb203, 1, none⟩ = some (.slice Ao23 y209.length co23) ∧ w'.cell? ⟨gb203, 2, none⟩ = some (u204002) ∧ w'.cell? ⟨gb205, 0, none⟩ = some (.int .i64 ((rd_T25 l0 x13_1).f0)) ∧ w'.cell? ⟨gb205, 1, none⟩ = some (.slice A204_1 ((rd_T25 l0 x13_1).f1).length c204_1) ∧ w'.cell? ⟨gb205, 2, none⟩ = some (.slice A204_2 ((rd_T25 l0 x13_1).f2).length c204_2)) (ds := [13]) #[false, false, false, false, false, false, false, false, false, false, false, false, false, false] (by kernel_rfl) rfl rfl ⟨(blk_cell BK203.out 0).trans rfl, (blk_cell BK203.out 1).trans rfl, (blk_cell BK203.out 2).trans rfl, (blk_cell BK205.out 0).trans rfl, (blk_cell BK205.out 1).trans rfl, (blk_cell BK205.out 2).trans rfl⟩ (fun hHeld => ?_); refine with_tabW prod_Of.tab6 prod_Of.bits6 (fun HT_ HW_ => ?_)
                  generalize w25.drew = w26 at HO_204002 HO208 HO211 BK201 BK203 BK205 HB hHeld ⊢
                  refine pT 0 26 (bl 14 1) HT_ rfl rfl ?_
                  refine pT 2 28 (bl 14 5) HT_ rfl rfl ?_
                  refine pT 4 30 (bl 14 21) HT_ rfl rfl ?_
                  refine pT 5 31 (bl 14 53) HT_ rfl rfl ?_
                  refine pT 6 32 (bl 14 117) HT_ rfl rfl ?_
                  refine tk (i := 1) (N := some 27) (bl 14 119) rfl rfl (take_ofW HT_.out HW_.out (by kernel_rfl)) hHeld ?_
                  refine tk (i := 3) (N := some 29) (bl 14 127) rfl rfl (take_ofW HT_.out HW_.out (by kernel_rfl)) hHeld ?_
                  refine tk (i := 7) (N := some 33) (bl 14 255) rfl rfl (take_ofW HT_.out HW_.out (by kernel_rfl)) hHeld ?_
                  refine pT 8 34 (bl 14 511) HT_ rfl rfl ?_
                  refine pT 9 35 (bl 14 1023) HT_ rfl rfl ?_
                  refine one_ (i := 10) (N := some 36) (bl 14 2047) rfl rfl (one_of HT_.out (by kernel_rfl)) (by decide) (fun K hK => ?_)
                  refine gO Try.func64 #[.slice A204_2 ((rd_T25 l0 x13_1).f2).length c204_2, .int .i64 x13_1, .int .i64 (wrap64 (x13_1 * (((rd_T25 l0 x13_1).f1).length : Int)))] (by rfl) rfl rfl ?_
                  with_reducible refine (prod_Moved.calls k1 _ _ ((rd_T25 l0 x13_1).f2) x13_1 (wrap64 (x13_1 * (((rd_T25 l0 x13_1).f1).length : Int))) t212 _ ?side1 ?side2 A12.out).mono ?_
                  (case side1 => exact cb HR204_2 HB)
                  (case side2 => exact HC204_2.out)
                  rintro e w27 ⟨v213, rfl, ho0, hb⟩
                  refine ⟨_, rfl, ?_⟩
                  have HO214 := Aside0.mk (Kd.R_lower (Kd.R_mono (ok' := fun k_ => (w.heap.size ≤ k_) ∧ some k_ ≠ (u204002 : Value).ownBlock ∧ some k_ ≠ (.slice Ao22 t206.length co22 : Value).ownBlock ∧ some k_ ≠ (.slice Ao23 y209.length co23 : Value).ownBlock ∧ k_ ≠ gb201 ∧ k_ ≠ gb203 ∧ k_ ≠ gb205) ((Kd.R_bound ho0)) (fun k_ hk_ => ⟨(Nat.le_trans (bsz (bb HB)) hk_.2.1), (Kd.fresh' (Kd.R_lt (iR HO_204002)) k_ hk_.2.1), (Kd.fresh' (Kd.R_lt (iR HO208)) k_ hk_.2.1), (Kd.fresh' (Kd.R_lt (iR HO211)) k_ hk_.2.1), (Kd.freshB (kk BK201) k_ hk_.2.1), (Kd.freshB (kk BK203) k_ hk_.2.1), (Kd.freshB (kk BK205) k_ hk_.2.1)⟩)) (bsz (bb HB)))
                  replace HO_204002 := Aside0.mk (Kd.R_elder' (iR HO_204002) (Kd.R_base ho0) hb)
                  replace HO208 := Aside0.mk (Kd.R_below (iR HO208) hb)
                  replace HO211 := Aside0.mk (Kd.R_below (iR HO211) hb)
                  replace BK201 := kb BK201 hb
                  replace BK203 := kb BK203 hb
                  replace BK205 := kb BK205 hb
                  replace HB := sb HB hb
                  (try clear hb)
                  (try clear hb2)
                  (try clear hk)
                  (try clear hi)
                  (try clear ho0)
                  obtain ⟨Ao29, co29, eo29⟩ := Kd.R_slice HO214.out
                  (first | subst eo29 | (injection eo29 with f1_ f2_ f3_; have f4_ := f1_.symm; have f5_ := f3_.symm; clear f1_ f2_ f3_; subst f4_; subst f5_))
                  refine hK.out _ _ ⟨(blk_cell BK203.out 0).trans rfl, (blk_cell BK203.out 1).trans rfl, (blk_cell BK203.out 2).trans rfl, (blk_cell BK205.out 0).trans rfl, (blk_cell BK205.out 1).trans rfl, (blk_cell BK205.out 2).trans rfl⟩ (fun hHeld => ?_)
                  clear hK K
                  refine nm 36 ?_
                  refine one_ (i := 11) (N := some 37) (bl 14 4095) rfl rfl (one_of HT_.out (by kernel_rfl)) (by decide) (fun K hK => ?_)
                  refine Kd.R_append_rows_step k64 (w0 := w) w.heap.size (by rfl) (.tmp 27) (.tmp 36) 23 64 (.agg #[(.int .i64 0), (.int .i64 0), (.slice none 0 0), (.slice none 0 0), (.slice none 0 0)]) 88 rfl Try.underlying23 info64 rfl (by decide) (by omega) u204002 x204002_1 t212 _ _ _ (fun k_ => (w.heap.size ≤ k_) ∧ some k_ ≠ (.slice Ao22 t206.length co22 : Value).ownBlock ∧ some k_ ≠ (.slice Ao23 y209.length co23 : Value).ownBlock ∧ k_ ≠ gb201 ∧ k_ ≠ gb203 ∧ k_ ≠ gb205) (fun k_ => ((fun k_ => (w.heap.size ≤ k_) ∧ some k_ ≠ (.slice Ao22 t206.length co22 : Value).ownBlock ∧ some k_ ≠ (.slice Ao23 y209.length co23 : Value).ownBlock ∧ k_ ≠ gb201 ∧ k_ ≠ gb203 ∧ k_ ≠ gb205)) k_ ∧ some k_ ≠ (u204002 : Value).ownBlock) rfl rfl ?aO ?aR (fun _ _ h => h) (fun _ hk => hk) ?aF ?aB ?aS ?aL ?_
                  (case aR => exact rowsM (Kd.R_mono (ok' := (fun k_ => ((fun k_ => (w.heap.size ≤ k_) ∧ some k_ ≠ (.slice Ao22 t206.length co22 : Value).ownBlock ∧ some k_ ≠ (.slice Ao23 y209.length co23 : Value).ownBlock ∧ k_ ≠ gb201 ∧ k_ ≠ gb203 ∧ k_ ≠ gb205)) k_ ∧ some k_ ≠ (u204002 : Value).ownBlock)) (HO214.out) (fun k_ hk => ⟨⟨hk.1, ⟨hk.2.2.1, ⟨hk.2.2.2.1, ⟨hk.2.2.2.2.1, ⟨hk.2.2.2.2.2.1, hk.2.2.2.2.2.2⟩⟩⟩⟩⟩, hk.2.1⟩)))
                  (case aB => exact (bb HB))
                  (case aF => exact (fun k_ hk => ⟨(Nat.le_trans (bsz (bb HB)) hk), Kd.fresh' (Kd.R_lt (iR HO208)) k_ hk, Kd.fresh' (Kd.R_lt (iR HO211)) k_ hk, Kd.freshB (kk BK201) k_ hk, Kd.freshB (kk BK203) k_ hk, Kd.freshB (kk BK205) k_ hk⟩))
                  (case aO => exact (by (with_reducible repeat (first | apply Kd.R_alloc | apply Kd.R_drewN | apply Kd.R_drew)); exact Kd.R_mono HO_204002.out (fun _ hk => ⟨hk.1.1, ⟨hk.1.2.1, ⟨hk.1.2.2.1, ⟨hk.1.2.2.2.1, ⟨hk.1.2.2.2.2.1, hk.1.2.2.2.2.2⟩⟩⟩⟩⟩)))
                  (case aS => exact (bsz (bb HB)))
                  (case aL => have := LMc13.out; omega)
                  intro v216 w28 ho hb hg hat
                  rw [← Ny215.out] at ho
                  have HO217 := Aside0.mk (ho)
                  replace BK201 := Aside0.mk (blk_grown (kk BK201) hg (Kd.R_ne HO_204002.out BK201.out (by decide)))
                  replace BK203 := Aside0.mk (blk_grown (kk BK203) hg (Kd.R_ne HO_204002.out BK203.out (by decide)))
                  replace BK205 := Aside0.mk (blk_grown (kk BK205) hg (Kd.R_ne HO_204002.out BK205.out (by decide)))
                  replace HO208 := Aside0.mk (Kd.R_over' (iR HO208) (Kd.R_typed (iR HO_204002)) (by decide) hg)
                  replace HO211 := Aside0.mk (Kd.R_over' (iR HO211) (Kd.R_typed (iR HO_204002)) (by decide) hg)
                  replace HO214 := Aside0.mk (Kd.R_after (ok := (fun k_ => (w.heap.size ≤ k_) ∧ some k_ ≠ (.slice Ao22 t206.length co22 : Value).ownBlock ∧ some k_ ≠ (.slice Ao23 y209.length co23 : Value).ownBlock ∧ k_ ≠ gb201 ∧ k_ ≠ gb203 ∧ k_ ≠ gb205)) (by (with_reducible repeat (first | apply Kd.R_alloc | apply Kd.R_drewN | apply Kd.R_drew)); exact Kd.R_mono HO214.out (fun _ hk => ⟨⟨hk.1, ⟨hk.2.2.1, ⟨hk.2.2.2.1, ⟨hk.2.2.2.2.1, ⟨hk.2.2.2.2.2.1, hk.2.2.2.2.2.2⟩⟩⟩⟩⟩, hk.2.1⟩)) hg hat)
                  replace HB := Aside0.mk (hb)
                  clear HO_204002
                  clear ho hb hg hat
                  obtain ⟨Ao30, co30, eo30⟩ := Kd.R_slice HO217.out
                  (first | subst eo30 | (injection eo30 with f1_ f2_ f3_; have f4_ := f1_.symm; have f5_ := f3_.symm; clear f1_ f2_ f3_; subst f4_; subst f5_))
                  refine hK.out _ _ ⟨(blk_cell BK203.out 0).trans rfl, (blk_cell BK203.out 1).trans rfl, (blk_cell BK203.out 2).trans rfl, (blk_cell BK205.out 0).trans rfl, (blk_cell BK205.out 1).trans rfl, (blk_cell BK205.out 2).trans rfl⟩ (fun hHeld => ?_)
                  clear hK K
                  refine nm 37 ?_
                  refine pT 12 38 (bl 14 8191) HT_ rfl rfl ?_
                  refine last_ (i := 13) (N := none) (bl 14 16383) rfl rfl (one_of HT_.out (by kernel_rfl)) (by decide) (fun K hK => ?_)
                  have hs31 : w28.cell? ⟨gb203, 2, none⟩ = some (u204002) := (blk_cell BK203.out 2).trans rfl
                  have hfs31 := blk_frozen BK203.out 2
                  have hns31_0 := NB201_203.out
                  have hns31_2 := NB205_203.out
                  have hms31_0 := NB203_201.out
                  have hms31_2 := NB203_205.out
                  refine skip_ (w1 := ?_) (by rfl) rfl ?_ ?_
                  rotate_left
                  · go_simp
                    rfl
                  refine hK.out _ _ ?_
                  clear hK K
                  refine done_ (done_of HT_.out (by kernel_rfl)) ?_
                  try go_wp2
                  go_roundg k1
                  case measure => have := HK1.out; omega
                  case rel => exact ⟨(wrap64 (x13_1 + 1)), (y209), (y215), (.slice Ao23 y209.length co23), (.slice Ao30 y215.length co30), rs, H', ⟨by have := HK1.out; omega⟩, ⟨by (with_reducible repeat (first | apply Kd.R_alloc | apply Kd.R_drewN | apply Kd.R_drew)); exact Kd.R_mono (Kd.R_far (p := ⟨gb203, 2, none⟩) (Kd.R_types HO211.out BK203.out (by decide)) (fun _ hk => hk.2) (.slice Ao30 y215.length co30)) (fun _ hk => hk.1.1)⟩, ⟨by (with_reducible repeat (first | apply Kd.R_alloc | apply Kd.R_drewN | apply Kd.R_drew)); exact Kd.R_mono (Kd.R_far (p := ⟨gb203, 2, none⟩) (Kd.R_mono HO217.out (fun k_ hk => (⟨hk, hk.2.2.2.2.1⟩ : _ ∧ k_ ≠ gb203))) (fun _ hk => hk.2) (.slice Ao30 y215.length co30)) (fun _ hk => ⟨hk.1.1, ⟨hk.1.2.2.1, ⟨hk.1.2.2.2.1, hk.1.2.2.2.2.1⟩⟩⟩)⟩, ⟨kk BK201⟩, ⟨by (with_reducible repeat (first | refine kdN ?_ _ | refine kdr ?_ | refine kal ?_ _)); refine blk_put (cs := #[.int .i64 ((rd_T25 l0 0).f0), .slice Ao23 y209.length co23, u204002]) ?_ 2 _ rfl; (with_reducible repeat (first | refine kdN ?_ _ | refine kdr ?_ | refine kal ?_ _)); exact BK203.out⟩, ⟨bb HB⟩⟩
                · rw [if_neg c13] at H
                  exact absurd H (by simp)
              · rw [if_neg c11] at H
                exact absurd H (by simp)
            · rw [if_neg c9] at H
              exact absurd H (by simp)
          · rw [if_neg c8] at H
            exact absurd H (by simp)
        · rw [if_neg c7] at H
          have c7b0 : decide (x13_1 < (l0.length : Int)) = false := decide_eq_false c7
          clear c7
          simp only [Option.some.injEq, Prod.mk.injEq] at H
          obtain ⟨rfl, rfl, rfl⟩ := H
          have hnb32 := NB203_201.out
          have hnc32 := NB201_203.out
          obtain ⟨hcz33_0, hcz33_1, hcz33_2, hfz33_0, hfz33_1, hfz33_2⟩ := cf3 BK203.out
          obtain ⟨hcz34_0, hcz34_1, hcz34_2, hfz34_0, hfz34_1, hfz34_2⟩ := cf3 BK201.out
          obtain ⟨Ao35, co35, eo35⟩ := Kd.R_slice HO_204001.out
          subst eo35
          obtain ⟨Ao36, co36, eo36⟩ := Kd.R_slice HO_204002.out
          subst eo36
          go_wp2
          refine bodyPost_ret (results_cell_row rfl _ _ gb201 25 #[.int .i64 ((rd_T25 l0 0).f0), .slice Ao35 x204001_1.length co35, .slice Ao36 x204002_1.length co36] (0, 0) _ rfl (by (with_reducible repeat (first | refine kdN ?_ _ | refine kdr ?_ | refine kal ?_ _)); refine blk_put (cs := #[.int .i64 ((rd_T25 l0 0).f0), .slice Ao35 x204001_1.length co35, .slice none 0 0]) ?_ 2 _ rfl; (with_reducible repeat (first | refine kdN ?_ _ | refine kdr ?_ | refine kal ?_ _)); refine blk_put (cs := #[.int .i64 ((rd_T25 l0 0).f0), .slice none 0 0, .slice none 0 0]) ?_ 1 _ rfl; (with_reducible repeat (first | refine kdN ?_ _ | refine kdr ?_ | refine kal ?_ _)); refine blk_put (cs := #[.int .i64 0, .slice none 0 0, .slice none 0 0]) ?_ 0 _ rfl; (with_reducible repeat (first | refine kdN ?_ _ | refine kdr ?_ | refine kal ?_ _)); exact BK201.out) Try.underlying25 rfl (by kernel_rfl)) rfl ?_
          exact ⟨_, _, rr, by (with_reducible repeat (first | apply Kd.R_alloc | apply Kd.R_drewN | apply Kd.R_drew)); exact Kd.R_mono (Kd.R_far (p := ⟨gb201, 2, none⟩) (Kd.R_far (p := ⟨gb201, 1, none⟩) (Kd.R_far (p := ⟨gb201, 0, none⟩) (Kd.R_types HO_204001.out BK201.out (by decide)) (fun _ hk => hk.2) (.int .i64 ((rd_T25 l0 0).f0))) (fun _ hk => hk.2) (.slice Ao35 x204001_1.length co35)) (fun _ hk => hk.2) (.slice Ao36 x204002_1.length co36)) (fun _ hk => hk.1), by (with_reducible repeat (first | apply Kd.R_alloc | apply Kd.R_drewN | apply Kd.R_drew)); exact Kd.R_mono (Kd.R_far (p := ⟨gb201, 2, none⟩) (Kd.R_far (p := ⟨gb201, 1, none⟩) (Kd.R_far (p := ⟨gb201, 0, none⟩) (Kd.R_mono HO_204002.out (fun k_ hk => (⟨hk, hk.2.2.1⟩ : _ ∧ k_ ≠ gb201))) (fun _ hk => hk.2) (.int .i64 ((rd_T25 l0 0).f0))) (fun _ hk => hk.2) (.slice Ao35 x204001_1.length co35)) (fun _ hk => hk.2) (.slice Ao36 x204002_1.length co36)) (fun _ hk => ⟨hk.1.1, hk.1.2.1⟩), bb HB⟩
  · rw [if_neg c2] at H
    exact absurd H (by simp)
def prod_made.f (k : Nat) (a0_0 : Int) (l0_1 : List (S66)) (l0_2 : List (S64)) : Option (Int × (List (S66)) × (List (S64)) × Int) := (prog_Check.f k a0_0 l0_1 l0_2).bind fun t182 => (if t182 = 0 then (some (a0_0, l0_1, l0_2, 0)) else (some (0, ([] : List (S66)), ([] : List (S64)), 2)))
theorem prod_made.calls (k : Nat) (a0_0 : Int) (P0_1_ : Nat → Prop) (u9000_ : Value) (l0_1 : List (S66)) (P0_2_ : Nat → Prop) (A0_2 : Option Addr) (c0_2 : Nat) (l0_2 : List (S64)) (r1 : Int) (r2 : List (S66)) (r3 : List (S64)) (r4 : Int) (w0 w : World) (hB : Below w0.heap.size w0 w) (ho0_1 : Kd.R k66 66 w w0.heap.size P0_1_ u9000_ l0_1) (hs0_2 : Kd.V k64 64 w w0.heap.size (fun k_ => P0_2_ k_ ∧ some k_ ≠ (u9000_ : Value).ownBlock) (.slice A0_2 l0_2.length c0_2) l0_2) (h : prod_made.f k a0_0 l0_1 l0_2 = some (r1, r2, r3, r4)) :
  Calls Try.prog 63 #[.agg #[.int .i64 a0_0, u9000_, .slice A0_2 l0_2.length c0_2]] w fun e w' => ∃ v1_ v2_ : Value, e = .returned (.tuple #[.agg #[.int .i64 r1, v1_, v2_], .int .i64 r4]) ∧ Kd.R k66 66 w' w0.heap.size (fun k_ => (P0_1_ k_ ∨ w.heap.size ≤ k_)) v1_ r2 ∧ Kd.V k64 64 w' w0.heap.size (fun k_ => ((P0_1_ k_ ∨ P0_2_ k_) ∨ w.heap.size ≤ k_) ∧ some k_ ≠ (v1_ : Value).ownBlock) v2_ r3 ∧ Below w0.heap.size w0 w' ∧ Kept w w' (fun k_ => P0_1_ k_) := by
 have hu25 := Try.underlying25
 have HO0_1 := Aside0.mk (show Kd.R k66 66 w w0.heap.size (fun k_ => (P0_1_ k_ ∨ w.heap.size ≤ k_)) u9000_ l0_1 from Kd.R_mono ho0_1 (fun k_ hk => (.inl hk)))
 have HO0_2 := Aside0.mk (show Kd.V k64 64 w w0.heap.size (fun k_ => ((P0_1_ k_ ∨ P0_2_ k_) ∨ w.heap.size ≤ k_) ∧ some k_ ≠ (u9000_ : Value).ownBlock) (.slice A0_2 l0_2.length c0_2) l0_2 from Kd.V_mono hs0_2 (fun k_ hk => ⟨.inl (.inr hk.1), hk.2⟩))
 have HK := Aside0.mk (Kept.refl w (fun k_ => P0_1_ k_))
 have HW0 := Aside0.mk hB.size
 have HB := Aside0.mk hB
 clear hB
 have H : ((prog_Check.f k a0_0 l0_1 l0_2).bind fun t182 => (if t182 = 0 then (some (a0_0, l0_1, l0_2, 0)) else (some (0, ([] : List (S66)), ([] : List (S64)), 2)))) = some (r1, r2, r3, r4) := h
 clear h
 obtain ⟨t182, A2, H⟩ := be H
 by_cases c3 : t182 = 0
 rotate_left
 ·rw [if_neg c3] at H
  have c3b0 : (t182 == 0) = false := beq_eq_false_iff_ne.mpr c3
  have c3b1 : (t182 != 0) = true := bne_iff_ne.mpr c3
  simp only [Option.some.injEq, Prod.mk.injEq] at H
  obtain ⟨rfl, rfl, rfl, rfl⟩ := H
  obtain ⟨Ao12, co12, eo12⟩ := Kd.R_slice HO0_1.out
  subst eo12
  go_enter Try.func63, Try.ntmps63
  go_wp2_with (first | ((with_reducible refine gate_dst (N := 1) rfl ?_); refine bx 1 rfl rfl #[.int .i64 a0_0, .slice Ao12 l0_1.length co12, .slice A0_2 l0_2.length c0_2] 25 ?_; intro gb180 hg w13 hbox hb; have BK180 := Aside0.mk (hbox); have GW180 := Aside0.mk ((by rw [hg]; exact (by first | exact HK.out.1 | exact (show Kept w _ (fun k_ => P0_1_ k_) from by repeat (first | (with_reducible first | exact HK.out | apply Kept.alloc | apply Kept.drewN | apply Kept.drew) | exact HK.out)).1) : w.heap.size ≤ gb180)); have GE180 := Aside0.mk ((by rw [hg]; exact (bsz (bb HB)) : w0.heap.size ≤ gb180)); replace HO0_1 := Aside0.mk (Kd.R_below (iR HO0_1) hb); replace HO0_2 := Aside0.mk (Kd.V_below (Kd.V_elderB (iV HO0_2) gb180 (Nat.le_of_eq hg.symm)) hb); replace HK := Aside0.mk (Kept.below (S := (fun k_ => P0_1_ k_)) (by repeat (first | (with_reducible first | exact HK.out | apply Kept.alloc | apply Kept.drewN | apply Kept.drew) | exact HK.out)) hb); replace HB := sb HB hb; clear hb hbox hg) | ((with_reducible refine gate_dst (N := 2) rfl ?_); refine bx 2 rfl rfl #[.int .i64 0, .slice none 0 0, .slice none 0 0] 25 ?_; intro gb181 hg w14 hbox hb; have BK181 := Aside0.mk (hbox); have GW181 := Aside0.mk ((by rw [hg]; exact (by first | exact HK.out.1 | exact (show Kept w _ (fun k_ => P0_1_ k_) from by repeat (first | (with_reducible first | exact HK.out | apply Kept.alloc | apply Kept.drewN | apply Kept.drew | refine Kept.setCell ?_ (.inr GW180.out) _) | exact HK.out)).1) : w.heap.size ≤ gb181)); have GE181 := Aside0.mk ((by rw [hg]; exact (bsz (bb HB)) : w0.heap.size ≤ gb181)); have NB180_181 := Aside0.mk ((by rw [hg]; exact Nat.ne_of_lt (blk_lt (kk BK180)) : gb180 ≠ gb181)); have NB181_180 := Aside0.mk ((by rw [hg]; exact Nat.ne_of_gt (blk_lt (kk BK180)) : gb181 ≠ gb180)); replace HO0_1 := Aside0.mk (Kd.R_below (iR HO0_1) hb); replace HO0_2 := Aside0.mk (Kd.V_below (Kd.V_elderB (iV HO0_2) gb181 (Nat.le_of_eq hg.symm)) hb); replace BK180 := kb BK180 hb; replace HK := Aside0.mk (Kept.below (S := (fun k_ => P0_1_ k_)) (by repeat (first | (with_reducible first | exact HK.out | apply Kept.alloc | apply Kept.drewN | apply Kept.drew | refine Kept.setCell ?_ (.inr GW180.out) _) | exact HK.out)) hb); replace HB := sb HB hb; clear hb hbox hg; have hnb15 := NB180_181.out; have hnc15 := NB181_180.out; obtain ⟨hcz16_0, hcz16_1, hcz16_2, hfz16_0, hfz16_1, hfz16_2⟩ := cf3 BK180.out) | ((with_reducible refine gate_callee (f := 43) rfl ?_); refine gL (some 5) rfl rfl Try.func43 #[.agg #[.int .i64 a0_0, .slice Ao12 l0_1.length co12, .slice A0_2 l0_2.length c0_2]] rfl ?_; (with_reducible refine (prog_Check.calls k a0_0 _ _ l0_1 _ _ l0_2 t182 _ ?side1 ?side2 ?side3 ?side4 A2.out).mono ?_); (case side1 => repeat (first | exact (Kd.R_reads' HO0_1.out).2.2 | with_reducible first | apply Kd.C_alloc | apply Kd.C_drewN | apply Kd.C_drew)); (case side2 => exact (Kd.R_reads' HO0_1.out).2.1); (case side3 => repeat (first | exact (Kd.V_reads' HO0_2.out).2.2 | with_reducible first | apply Kd.C_alloc | apply Kd.C_drewN | apply Kd.C_drew)); (case side4 => exact (Kd.V_reads' HO0_2.out).2.1); rintro e w17 ⟨rfl, hb⟩; refine ⟨_, rfl, ?_⟩; replace HO0_1 := Aside0.mk (Kd.R_below (iR HO0_1) hb); replace HO0_2 := Aside0.mk (Kd.V_below (iV HO0_2) hb); replace BK180 := kb BK180 hb; replace BK181 := kb BK181 hb; replace HK := Aside0.mk (Kept.below (S := (fun k_ => P0_1_ k_)) (by repeat (first | (with_reducible first | exact HK.out | apply Kept.alloc | apply Kept.drewN | apply Kept.drew | refine Kept.setCell ?_ (.inr GW180.out) _ | refine Kept.setCell ?_ (.inr GW181.out) _) | exact HK.out)) hb); replace HB := sb HB hb; (try clear hb); obtain ⟨hcz18_0, hcz18_1, hcz18_2, hfz18_0, hfz18_1, hfz18_2⟩ := cf3 BK181.out))
  refine bodyPost_ret (results_ct rfl _ _ gb181 25 #[.int .i64 0, .slice none 0 0, .slice none 0 0] (0, 0) _ rfl (by (with_reducible repeat (first | refine kdN ?_ _ | refine kdr ?_ | refine kal ?_ _)); refine blk_put (cs := #[.int .i64 0, .slice none 0 0, .slice none 0 0]) ?_ 2 _ rfl; (with_reducible repeat (first | refine kdN ?_ _ | refine kdr ?_ | refine kal ?_ _)); refine blk_put (cs := #[.int .i64 0, .slice none 0 0, .slice none 0 0]) ?_ 1 _ rfl; (with_reducible repeat (first | refine kdN ?_ _ | refine kdr ?_ | refine kal ?_ _)); refine blk_put (cs := #[.int .i64 0, .slice none 0 0, .slice none 0 0]) ?_ 0 _ rfl; (with_reducible repeat (first | refine kdN ?_ _ | refine kdr ?_ | refine kal ?_ _)); exact BK181.out) Try.underlying25 rfl (by kernel_rfl)) rfl ?_
  exact ⟨_, _, rr, by first | exact Kd.R_nil _ _ _ _ _ | exact Kd.N_nil _ _ _ _ _ | exact Kd.V_nil _ _ _ _ _ | exact Kd.Q_nil _ _ _ _ _ | exact Kd.S_nil _ _ _ _ _, Kd.N_V (by first | exact Kd.R_nil _ _ _ _ _ | exact Kd.N_nil _ _ _ _ _ | exact Kd.V_nil _ _ _ _ _ | exact Kd.Q_nil _ _ _ _ _ | exact Kd.S_nil _ _ _ _ _ | exact Kd.N_nil _ _ _ 0 _ | exact Kd.R_nil _ _ _ 0 _), bb HB, by repeat (first | (with_reducible first | exact HK.out | apply Kept.alloc | apply Kept.drewN | apply Kept.drew | refine Kept.setCell ?_ (.inr GW180.out) _ | refine Kept.setCell ?_ (.inr GW181.out) _) | exact HK.out)⟩
 rw [if_pos c3] at H
 have c3b0 : (t182 == 0) = true := beq_iff_eq.mpr c3
 have c3b1 : (t182 != 0) = false := bne_eq_false_iff_eq.mpr c3
 clear c3
 simp only [Option.some.injEq, Prod.mk.injEq] at H
 obtain ⟨rfl, rfl, rfl, rfl⟩ := H
 obtain ⟨Ao4, co4, eo4⟩ := Kd.R_slice HO0_1.out
 subst eo4
 go_enter Try.func63, Try.ntmps63
 go_wp2_with (first | ((with_reducible refine gate_dst (N := 1) rfl ?_); refine bx 1 rfl rfl #[.int .i64 a0_0, .slice Ao4 l0_1.length co4, .slice A0_2 l0_2.length c0_2] 25 ?_; intro gb180 hg w5 hbox hb; have BK180 := Aside0.mk (hbox); have GW180 := Aside0.mk ((by rw [hg]; exact (by first | exact HK.out.1 | exact (show Kept w _ (fun k_ => P0_1_ k_) from by repeat (first | (with_reducible first | exact HK.out | apply Kept.alloc | apply Kept.drewN | apply Kept.drew) | exact HK.out)).1) : w.heap.size ≤ gb180)); have GE180 := Aside0.mk ((by rw [hg]; exact (bsz (bb HB)) : w0.heap.size ≤ gb180)); replace HO0_1 := Aside0.mk (Kd.R_below (iR HO0_1) hb); replace HO0_2 := Aside0.mk (Kd.V_below (Kd.V_elderB (iV HO0_2) gb180 (Nat.le_of_eq hg.symm)) hb); replace HK := Aside0.mk (Kept.below (S := (fun k_ => P0_1_ k_)) (by repeat (first | (with_reducible first | exact HK.out | apply Kept.alloc | apply Kept.drewN | apply Kept.drew) | exact HK.out)) hb); replace HB := sb HB hb; clear hb hbox hg) | ((with_reducible refine gate_dst (N := 2) rfl ?_); refine bx 2 rfl rfl #[.int .i64 0, .slice none 0 0, .slice none 0 0] 25 ?_; intro gb181 hg w6 hbox hb; have BK181 := Aside0.mk (hbox); have GW181 := Aside0.mk ((by rw [hg]; exact (by first | exact HK.out.1 | exact (show Kept w _ (fun k_ => P0_1_ k_) from by repeat (first | (with_reducible first | exact HK.out | apply Kept.alloc | apply Kept.drewN | apply Kept.drew | refine Kept.setCell ?_ (.inr GW180.out) _) | exact HK.out)).1) : w.heap.size ≤ gb181)); have GE181 := Aside0.mk ((by rw [hg]; exact (bsz (bb HB)) : w0.heap.size ≤ gb181)); have NB180_181 := Aside0.mk ((by rw [hg]; exact Nat.ne_of_lt (blk_lt (kk BK180)) : gb180 ≠ gb181)); have NB181_180 := Aside0.mk ((by rw [hg]; exact Nat.ne_of_gt (blk_lt (kk BK180)) : gb181 ≠ gb180)); replace HO0_1 := Aside0.mk (Kd.R_below (iR HO0_1) hb); replace HO0_2 := Aside0.mk (Kd.V_below (Kd.V_elderB (iV HO0_2) gb181 (Nat.le_of_eq hg.symm)) hb); replace BK180 := kb BK180 hb; replace HK := Aside0.mk (Kept.below (S := (fun k_ => P0_1_ k_)) (by repeat (first | (with_reducible first | exact HK.out | apply Kept.alloc | apply Kept.drewN | apply Kept.drew | refine Kept.setCell ?_ (.inr GW180.out) _) | exact HK.out)) hb); replace HB := sb HB hb; clear hb hbox hg; have hnb7 := NB180_181.out; have hnc7 := NB181_180.out; obtain ⟨hcz8_0, hcz8_1, hcz8_2, hfz8_0, hfz8_1, hfz8_2⟩ := cf3 BK180.out) | ((with_reducible refine gate_callee (f := 43) rfl ?_); refine gL (some 5) rfl rfl Try.func43 #[.agg #[.int .i64 a0_0, .slice Ao4 l0_1.length co4, .slice A0_2 l0_2.length c0_2]] rfl ?_; (with_reducible refine (prog_Check.calls k a0_0 _ _ l0_1 _ _ l0_2 t182 _ ?side1 ?side2 ?side3 ?side4 A2.out).mono ?_); (case side1 => repeat (first | exact (Kd.R_reads' HO0_1.out).2.2 | with_reducible first | apply Kd.C_alloc | apply Kd.C_drewN | apply Kd.C_drew)); (case side2 => exact (Kd.R_reads' HO0_1.out).2.1); (case side3 => repeat (first | exact (Kd.V_reads' HO0_2.out).2.2 | with_reducible first | apply Kd.C_alloc | apply Kd.C_drewN | apply Kd.C_drew)); (case side4 => exact (Kd.V_reads' HO0_2.out).2.1); rintro e w9 ⟨rfl, hb⟩; refine ⟨_, rfl, ?_⟩; replace HO0_1 := Aside0.mk (Kd.R_below (iR HO0_1) hb); replace HO0_2 := Aside0.mk (Kd.V_below (iV HO0_2) hb); replace BK180 := kb BK180 hb; replace BK181 := kb BK181 hb; replace HK := Aside0.mk (Kept.below (S := (fun k_ => P0_1_ k_)) (by repeat (first | (with_reducible first | exact HK.out | apply Kept.alloc | apply Kept.drewN | apply Kept.drew | refine Kept.setCell ?_ (.inr GW180.out) _ | refine Kept.setCell ?_ (.inr GW181.out) _) | exact HK.out)) hb); replace HB := sb HB hb; (try clear hb); obtain ⟨hcz10_0, hcz10_1, hcz10_2, hfz10_0, hfz10_1, hfz10_2⟩ := cf3 BK180.out; obtain ⟨hcz11_0, hcz11_1, hcz11_2, hfz11_0, hfz11_1, hfz11_2⟩ := cf3 BK181.out))
 refine bodyPost_ret (results_ct rfl _ _ gb181 25 #[.int .i64 a0_0, .slice Ao4 l0_1.length co4, .slice A0_2 l0_2.length c0_2] (0, 0) _ rfl (by (with_reducible repeat (first | refine kdN ?_ _ | refine kdr ?_ | refine kal ?_ _)); refine blk_put (cs := #[.int .i64 a0_0, .slice Ao4 l0_1.length co4, .slice none 0 0]) ?_ 2 _ rfl; (with_reducible repeat (first | refine kdN ?_ _ | refine kdr ?_ | refine kal ?_ _)); refine blk_put (cs := #[.int .i64 a0_0, .slice none 0 0, .slice none 0 0]) ?_ 1 _ rfl; (with_reducible repeat (first | refine kdN ?_ _ | refine kdr ?_ | refine kal ?_ _)); refine blk_put (cs := #[.int .i64 0, .slice none 0 0, .slice none 0 0]) ?_ 0 _ rfl; (with_reducible repeat (first | refine kdN ?_ _ | refine kdr ?_ | refine kal ?_ _)); exact BK181.out) Try.underlying25 rfl (by kernel_rfl)) rfl ?_
 exact ⟨_, _, rr, by (with_reducible repeat (first | apply Kd.R_alloc | apply Kd.R_drewN | apply Kd.R_drew)); exact Kd.R_mono (Kd.R_far (p := ⟨gb181, 2, none⟩) (Kd.R_far (p := ⟨gb181, 1, none⟩) (Kd.R_far (p := ⟨gb181, 0, none⟩) (Kd.R_types HO0_1.out BK181.out (by decide)) (fun _ hk => hk.2) (.int .i64 a0_0)) (fun _ hk => hk.2) (.slice Ao4 l0_1.length co4)) (fun _ hk => hk.2) (.slice A0_2 l0_2.length c0_2)) (fun _ hk => hk.1), by (with_reducible repeat (first | apply Kd.V_alloc | apply Kd.V_drewN | apply Kd.V_drew)); exact Kd.V_mono (Kd.V_far (p := ⟨gb181, 2, none⟩) (Kd.V_far (p := ⟨gb181, 1, none⟩) (Kd.V_far (p := ⟨gb181, 0, none⟩) (Kd.V_mono HO0_2.out (fun k_ hk => (⟨hk, hk.2⟩ : _ ∧ k_ ≠ gb181))) (fun _ hk => hk.2) (.int .i64 a0_0)) (fun _ hk => hk.2) (.slice Ao4 l0_1.length co4)) (fun _ hk => hk.2) (.slice A0_2 l0_2.length c0_2)) (fun _ hk => ⟨hk.1.1.1.1, hk.1.1.1.2⟩), bb HB, by repeat (first | (with_reducible first | exact HK.out | apply Kept.alloc | apply Kept.drewN | apply Kept.drew | refine Kept.setCell ?_ (.inr GW180.out) _ | refine Kept.setCell ?_ (.inr GW181.out) _) | exact HK.out)⟩
end Go.Proofs.Ytilebfkehmecaaa.Print
namespace Go.Proofs.Ytilebfkehmecaaa.Print
open Go.RowKit Go.Proofs.YtilebfkehmecaaaW.PrintWords Go.Proofs.YtilebfkehmecaaaW.PrintLast Go.Proofs.YtilebfkehmecaaaW.PrintMore
attribute [local go_sem] max2_int min2_int max_two min_two max_three min_three max_four min_four
set_option linter.unusedVariables false
set_option linter.unusedSimpArgs false
open Go.Shelf Go.RowKit
attribute [local go_sem] Oper.semAt_some
theorem run_copy_rowk {P : Program} (w : World) (dT sT ty elem : TypeId) (k g o dLen dCap : Nat) (a : Addr) (sLen sCap : Nat) (cur : Array Value) (t : TypeId) (cs : List Value)
    (hu : P.underlying dT = some (.slice elem)) (hs : (P.info? elem).map (·.size) = some k)
    (hg : w.heap[g]? = some (.cells cur t (0, 0))) (hn : cs.length = Nat.min sLen dLen * k)
    (hsrc : ∀ j v, cs[j]? = some v → w.cell? (a.add j) = some v) (hfit : o + cs.length ≤ cur.size) (h1 : ∀ v ∈ cs, v.oneCell' = true) :
    (Builtin.copy_ #[dT, sT] ty #[.slice (some ⟨g, o, none⟩) dLen dCap, .slice (some a) sLen sCap]).run P w =
      .ok (goInt (Nat.min sLen dLen)) (w.setRow g (cur.toList.take o ++ cs ++ cur.toList.drop (o + cs.length)).toArray) := by
  have hl := run_loadCells_list (P := P) w a cs hsrc
  have hst := run_storeCells_at P g o t cs 0 cur w hg (by simpa using hfit) h1
  cases hq : P.info? elem with
  | none => simp [hq] at hs
  | some i =>
    have hi : i.size = k := by simpa [hq] using hs
    simp [Builtin.copy_, run_underlying hu, Builtin.lenOf, Builtin.firstCells, sizeOf, typeInfo, hq, hi, ← hn, hl, hst]
theorem wpList_copy_rowk {P : Program} {w : World} {ops : Array Oper} {rest : List Oper} {o : Oper} {a : Act} {Q : Exit → Act → World → Prop} (hgd : o.guard = none) (d s : Operand) (dT sT : TypeId)
    (ho : o.op = .call { callee := .builtin .copy, args := #[d, s], argTypes := #[dT, sT] }) (elem k : TypeId) (hu : P.underlying dT = some (.slice elem)) (hsz : (P.info? elem).map (·.size) = some k)
    (g off dLen dCap : Nat) (ad : Addr) (sLen sCap : Nat) (hd : a.eval d = .slice (some ⟨g, off, none⟩) dLen dCap) (hs : a.eval s = .slice (some ad) sLen sCap)
    (cur : Array Value) (t : TypeId) (hg : w.heap[g]? = some (.cells cur t (0, 0))) (cs : List Value) (hn : cs.length = Nat.min sLen dLen * k)
    (hsrc : ∀ j v, cs[j]? = some v → w.cell? (ad.add j) = some v) (hfit : off + cs.length ≤ cur.size) (h1 : ∀ v ∈ cs, v.oneCell' = true) (new : Array Value) (hnew : (cur.toList.take off ++ cs ++ cur.toList.drop (off + cs.length)).toArray = new)
    (h : ∀ w', w'.heap[g]? = some (.cells new t (0, 0)) → (∀ B, B ≤ g → Below B w w') → w'.heap.size = w.heap.size → wpList P ops Q rest (a.put o.dst (goInt (Nat.min sLen dLen))) w') : wpList P ops Q (o :: rest) a w := by
  subst hnew
  refine wpList_plain hgd fun K hK => ?_
  have hrun := run_copy_rowk (P := P) w dT sT o.type elem k g off dLen dCap ad sLen sCap cur t cs hu hsz hg hn hsrc hfit h1
  unfold Oper.wp
  simp [execOp, ho, resolve, invoke, builtin, hd, hs, hrun, Result.andThen]
  refine hK _ _ (h _ ?_ (fun B hB => below_setRow (Below.refl _ _) hB _) (by simp [World.setRow]))
  have := setRow_heap w g cur ((cur.toList.take off ++ cs ++ cur.toList.drop (off + cs.length)).toArray) t (0, 0) hg
  simpa using this
theorem step_copy_rowk {P : Program} {w : World} {ops : Array Oper} {o : Oper} {a : Act} {Kc : Act → World → Prop} {Q : Exit → Act → World → Prop} (hw : Region.wanted o (yielded ops a.tmps) = true) (d s : Operand) (dT sT : TypeId)
    (ho : o.op = .call { callee := .builtin .copy, args := #[d, s], argTypes := #[dT, sT] }) (elem k : TypeId) (hu : P.underlying dT = some (.slice elem)) (hsz : (P.info? elem).map (·.size) = some k)
    (g off dLen dCap : Nat) (ad : Addr) (sLen sCap : Nat) (hd : a.eval d = .slice (some ⟨g, off, none⟩) dLen dCap) (hs : a.eval s = .slice (some ad) sLen sCap)
    (cur : Array Value) (t : TypeId) (hg : w.heap[g]? = some (.cells cur t (0, 0))) (cs : List Value) (hn : cs.length = Nat.min sLen dLen * k)
    (hsrc : ∀ j v, cs[j]? = some v → w.cell? (ad.add j) = some v) (hfit : off + cs.length ≤ cur.size) (h1 : ∀ v ∈ cs, v.oneCell' = true) (new : Array Value) (hnew : (cur.toList.take off ++ cs ++ cur.toList.drop (off + cs.length)).toArray = new)
    (h : ∀ w', w'.heap[g]? = some (.cells new t (0, 0)) → (∀ B, B ≤ g → Below B w w') → w'.heap.size = w.heap.size → Kc (a.put o.dst (goInt (Nat.min sLen dLen))) w') :
    if Region.wanted o (yielded ops a.tmps) = true then Oper.wp P o a w Kc Q else Kc (a.put o.dst undef) w := by
  subst hnew
  rw [if_pos hw]
  have hrun := run_copy_rowk (P := P) w dT sT o.type elem k g off dLen dCap ad sLen sCap cur t cs hu hsz hg hn hsrc hfit h1
  unfold Oper.wp
  simp [execOp, ho, resolve, invoke, builtin, hd, hs, hrun, Result.andThen]
  refine h _ ?_ (fun B hB => below_setRow (Below.refl _ _) hB _) (by simp [World.setRow])
  have := setRow_heap w g cur ((cur.toList.take off ++ cs ++ cur.toList.drop (off + cs.length)).toArray) t (0, 0) hg
  simpa using this
theorem srcn {W : World} {b t : Nat} {cur : Array Value} {cs : List Value} (h : W.heap[b]? = some (.cells cur t (0, 0))) (hc : ∀ (j : Nat) (v : Value), cs[j]? = some v → cur[j]? = some v) : ∀ j v, cs[j]? = some v → W.cell? ((⟨b, 0, none⟩ : Addr).add j) = some v := by
  intro j v hj
  have : (⟨b, 0, none⟩ : Addr).add j = ⟨b, j, none⟩ := by unfold Addr.add; split <;> simp_all
  rw [this, blk_cell h j]
  exact hc j v hj
theorem C_of_row {α : Type} {d : Kd α} {W : World} {b e : Nat} {l : List α} {css : List (List Value)} (h1 : W.heap[b]? = some (.cells css.flatten.toArray e (0, 0))) (h2 : css.length = l.length) (h3 : l.length ≤ 9223372036854775807)
    (h4 : ∀ (j : Nat) (x : α) (c : List Value), l[j]? = some x → css[j]? = some c → d.K W x c) : d.C W (some ⟨b, 0, none⟩) l.length l := by
  have hlen : ∀ c ∈ css, c.length = d.sz := by
    intro c hc
    obtain ⟨j, hj, e2⟩ := List.mem_iff_getElem.1 hc
    have hj2 : j < l.length := by omega
    exact d.K_len (h4 j l[j] c (List.getElem?_eq_getElem hj2) (by rw [List.getElem?_eq_getElem hj, e2]))
  have flat : ∀ (css : List (List Value)) (j : Nat) (c : List Value) (i : Nat), (∀ c ∈ css, c.length = d.sz) → css[j]? = some c → i < d.sz → css.flatten[j * d.sz + i]? = c[i]? := by
    intro css
    induction css with
    | nil => intro j c i _ h _; simp at h
    | cons x r ih =>
      intro j c i hl h hi
      have h1 := hl x (by simp)
      cases j with
      | zero =>
        obtain rfl : x = c := by simpa using h
        simp only [List.flatten_cons, Nat.zero_mul, Nat.zero_add]
        rw [List.getElem?_append_left (by omega)]
      | succ j =>
        have e1 : (j + 1) * d.sz + i = x.length + (j * d.sz + i) := by rw [h1, Nat.succ_mul]; omega
        simp only [List.flatten_cons]
        rw [e1, List.getElem?_append_right (by omega), Nat.add_sub_cancel_left]
        exact ih j c i (fun c hc => hl c (by simp [hc])) (by simpa using h) hi
  refine ⟨rfl, h3, fun _ => ⟨_, rfl, fun j x hj => ?_⟩⟩
  have hj2 : j < css.length := by have := (List.getElem?_eq_some_iff.1 hj).1; omega
  have hc := List.getElem?_eq_getElem hj2
  refine ⟨css[j], hlen _ (List.getElem_mem hj2), h4 j x _ hj hc, fun i u hu => ?_⟩
  have hi : i < d.sz := by have := (List.getElem?_eq_some_iff.1 hu).1; rw [hlen _ (List.getElem_mem hj2)] at this; exact this
  have hg := flat css j _ i hlen hc hi
  have : (⟨b, 0, none⟩ : Addr).add (j * d.sz + i) = ⟨b, j * d.sz + i, none⟩ := by unfold Addr.add; split <;> simp_all
  rw [this, blk_cell h1 (j * d.sz + i)]
  simpa [hg] using hu
theorem bits_Mul.one (n : Int) (w : World) (hn : n = 1 ∨ n = 2 ∨ n = 3) : Calls Try.prog 97 #[.int .u64 1, .int .u64 n] w fun e w' => e = .returned (.tuple #[.int .u64 0, .int .u64 n]) ∧ w = w' := by
  rcases hn with rfl | rfl | rfl
  all_goals
    go_enter Try.func97, Try.ntmps97
    go_wp2
    go_ret2
    exact ⟨rfl, rfl⟩
theorem src3 {W : World} {b t : Nat} {x y z : Value} (h : W.heap[b]? = some (.cells #[x, y, z] t (0, 0))) : ∀ j v, [x, y, z][j]? = some v → W.cell? ((⟨b, 0, none⟩ : Addr).add j) = some v := by
  intro j v hj
  have : (⟨b, 0, none⟩ : Addr).add j = ⟨b, j, none⟩ := by unfold Addr.add; split <;> simp_all
  rw [this, blk_cell h j]
  simpa using hj
theorem slices_Repeat.calls (n : Nat) (hn : n = 1 ∨ n = 2 ∨ n = 3) (p0 : Int) (A1 : Option Addr) (n1 c1 : Nat) (A2 : Option Addr) (n2 c2 : Nat) (b : Nat) (w : World) (hb : w.heap[b]? = some (.cells #[.int .i64 p0, .slice A1 n1 c1, .slice A2 n2 c2] 25 (0, 0))) :
    Calls Try.prog 66 #[.slice (some ⟨b, 0, none⟩) 1 1, .int .i64 (n : Int)] w fun e w' => ∃ B, e = .returned (.slice (some ⟨B, 0, none⟩) n n) ∧ w'.heap[B]? = some (.cells (List.replicate n [.int .i64 p0, .slice A1 n1 c1, .slice A2 n2 c2]).flatten.toArray 25 (0, 0)) ∧ Below w.heap.size w w' := by
  have huP := Try.underlying93
  have hlt := blk_lt hb
  have hi : ∃ i, Try.prog.info? 25 = some i ∧ i.zero = some (.agg #[.int .i64 0, .slice none 0 0, .slice none 0 0]) ∧ i.size = 3 ∧ i.bytes = 56 := by
    have h := info25
    obtain ⟨i, h1, h2⟩ := Option.map_eq_some_iff.1 h
    simp only [Prod.mk.injEq] at h2
    exact ⟨i, h1, h2.1, h2.2.1, h2.2.2⟩
  have hsz : (Try.prog.info? 25).map (·.size) = some 3 := by
    obtain ⟨i, h1, _, h3, _⟩ := hi
    rw [h1]; simp [h3]
  have hmk : ∀ m : Nat, m ≤ 3 → ∀ W : World, (Instr.makeSlice 93 (.int .i64 (m : Int)) (.int .i64 (m : Int))).run Try.prog W = .ok (.slice (some ⟨W.heap.size, 0, none⟩) m m) (W.alloc (.cells (madeCells #[.int .i64 0, .slice none 0 0, .slice none 0 0] (m * 3)) 25)) := by
    intro m hm W
    obtain ⟨i, h1, h2, h3, h4⟩ := hi
    have := run_make (P := Try.prog) W 93 25 i _ huP h1 h2 .i64 .i64 (m : Int) (m : Int) (by omega) (Int.le_refl _) (by rw [h4]; omega) (by omega)
    rw [h3] at this
    simp only [Int.toNat_natCast] at this
    exact this
  have HB := Aside0.mk hb
  clear hi hb
  rcases hn with rfl | rfl | rfl
  · have hm : ∀ W : World, (Instr.makeSlice 93 (.int .i64 1) (.int .i64 1)).run Try.prog W = .ok (.slice (some ⟨W.heap.size, 0, none⟩) 1 1) (W.alloc (.cells #[.int .i64 0, .slice none 0 0, .slice none 0 0] 25)) := fun W => by have h9 := hmk 1 (by omega) W; rwa [show madeCells #[.int .i64 0, .slice none 0 0, .slice none 0 0] (1 * 3) = #[.int .i64 0, .slice none 0 0, .slice none 0 0] from by first | rfl | kernel_rfl] at h9
    clear hmk
    have b0 := bal (Below.refl w.heap.size w) (.cells #[.int .i64 0, .slice none 0 0, .slice none 0 0] 25)
    have z0 : (w.alloc (.cells #[.int .i64 0, .slice none 0 0, .slice none 0 0] 25)).heap[w.heap.size]? = some (.cells #[.int .i64 0, .slice none 0 0, .slice none 0 0] 25 (0, 0)) := blk_new _ _
    have d0 := blk_below HB.out b0
    obtain ⟨W0, hW0⟩ : ∃ X, w.alloc (.cells #[.int .i64 0, .slice none 0 0, .slice none 0 0] 25) = X := ⟨_, rfl⟩
    rw [hW0] at b0 z0 d0
    go_enter Try.func66, Try.ntmps66
    go_wp2_with (first | (go_at_call 97; refine (bits_Mul.one 1 _ (by decide)).mono ?_; rintro e W ⟨rfl, rfl⟩) | ((with_reducible refine gate_builtin (b := .copy) (xs := #[.tmp 31, .tmp 32]) rfl ?_); go_must (refine wpList_copy_rowk (P := Try.prog) (w := W0) rfl (.tmp 31) (.tmp 32) 93 93 rfl 25 3 huP hsz w.heap.size 0 1 1 ⟨b, 0, none⟩ 1 1 rfl rfl _ 25 z0 [.int .i64 p0, .slice A1 n1 c1, .slice A2 n2 c2] rfl (src3 d0) (by simp) (by simp [Value.oneCell']) #[.int .i64 p0, .slice A1 n1 c1, .slice A2 n2 c2] rfl ?_; intro W1 z1 b1 s1)))
    have s2 : W0.heap.size = w.heap.size + 1 := by rw [← hW0]; simp
    have SS := Aside0.mk (show w.heap.size + 1 ≤ W1.heap.size by omega)
    have BW := Aside0.mk (b0.trans (b1 _ (Nat.le_refl _)))
    have ROW := Aside0.mk z1
    clear z0 b0 d0 hW0 z1 b1 s1 s2 hm HB hlt
    go_loopg [8] 0 (fun kq v8 X => ((v8 = .int .i64 1 ∧ 1 + kq = 1 ∧ Aside0 (X.heap[w.heap.size]? = some (.cells #[.int .i64 p0, .slice A1 n1 c1, .slice A2 n2 c2] 25 (0, 0))))) ∧ Aside0 (Below w.heap.size w X))
    case atStart => exact ⟨⟨rfl, by decide, ROW⟩, BW⟩
    case round =>
      clear ROW BW SS
      obtain ⟨hrel, BW⟩ := hrel
      rcases hrel with ⟨rfl, hk, ROW⟩
      · obtain rfl : gk = 0 := by omega
        go_wp2
        go_ret
        exact ⟨_, rfl, ROW.out, BW.out⟩
  · have hm : ∀ W : World, (Instr.makeSlice 93 (.int .i64 2) (.int .i64 2)).run Try.prog W = .ok (.slice (some ⟨W.heap.size, 0, none⟩) 2 2) (W.alloc (.cells #[.int .i64 0, .slice none 0 0, .slice none 0 0, .int .i64 0, .slice none 0 0, .slice none 0 0] 25)) := fun W => by have h9 := hmk 2 (by omega) W; rwa [show madeCells #[.int .i64 0, .slice none 0 0, .slice none 0 0] (2 * 3) = #[.int .i64 0, .slice none 0 0, .slice none 0 0, .int .i64 0, .slice none 0 0, .slice none 0 0] from by first | rfl | kernel_rfl] at h9
    clear hmk
    have b0 := bal (Below.refl w.heap.size w) (.cells #[.int .i64 0, .slice none 0 0, .slice none 0 0, .int .i64 0, .slice none 0 0, .slice none 0 0] 25)
    have z0 : (w.alloc (.cells #[.int .i64 0, .slice none 0 0, .slice none 0 0, .int .i64 0, .slice none 0 0, .slice none 0 0] 25)).heap[w.heap.size]? = some (.cells #[.int .i64 0, .slice none 0 0, .slice none 0 0, .int .i64 0, .slice none 0 0, .slice none 0 0] 25 (0, 0)) := blk_new _ _
    have d0 := blk_below HB.out b0
    obtain ⟨W0, hW0⟩ : ∃ X, w.alloc (.cells #[.int .i64 0, .slice none 0 0, .slice none 0 0, .int .i64 0, .slice none 0 0, .slice none 0 0] 25) = X := ⟨_, rfl⟩
    rw [hW0] at b0 z0 d0
    go_enter Try.func66, Try.ntmps66
    go_wp2_with (first | (go_at_call 97; refine (bits_Mul.one 2 _ (by decide)).mono ?_; rintro e W ⟨rfl, rfl⟩) | ((with_reducible refine gate_builtin (b := .copy) (xs := #[.tmp 31, .tmp 32]) rfl ?_); go_must (refine wpList_copy_rowk (P := Try.prog) (w := W0) rfl (.tmp 31) (.tmp 32) 93 93 rfl 25 3 huP hsz w.heap.size 0 2 2 ⟨b, 0, none⟩ 1 1 rfl rfl _ 25 z0 [.int .i64 p0, .slice A1 n1 c1, .slice A2 n2 c2] rfl (src3 d0) (by simp) (by simp [Value.oneCell']) #[.int .i64 p0, .slice A1 n1 c1, .slice A2 n2 c2, .int .i64 0, .slice none 0 0, .slice none 0 0] rfl ?_; intro W1 z1 b1 s1)))
    have s2 : W0.heap.size = w.heap.size + 1 := by rw [← hW0]; simp
    have SS := Aside0.mk (show w.heap.size + 1 ≤ W1.heap.size by omega)
    have BW := Aside0.mk (b0.trans (b1 _ (Nat.le_refl _)))
    have ROW := Aside0.mk z1
    clear z0 b0 d0 hW0 z1 b1 s1 s2 hm HB hlt
    go_loopg [8] 1 (fun kq v8 X => ((v8 = .int .i64 1 ∧ 1 + kq = 2 ∧ Aside0 (X.heap[w.heap.size]? = some (.cells #[.int .i64 p0, .slice A1 n1 c1, .slice A2 n2 c2, .int .i64 0, .slice none 0 0, .slice none 0 0] 25 (0, 0)))) ∨ (v8 = .int .i64 2 ∧ 2 + kq = 2 ∧ Aside0 (X.heap[w.heap.size]? = some (.cells #[.int .i64 p0, .slice A1 n1 c1, .slice A2 n2 c2, .int .i64 p0, .slice A1 n1 c1, .slice A2 n2 c2] 25 (0, 0))))) ∧ Aside0 (Below w.heap.size w X))
    case atStart => exact ⟨.inl ⟨rfl, by decide, ROW⟩, BW⟩
    case round =>
      clear ROW BW SS
      obtain ⟨hrel, BW⟩ := hrel
      rcases hrel with ⟨rfl, hk, ROW⟩ | ⟨rfl, hk, ROW⟩
      · obtain rfl : gk = 1 := by omega
        go_wp2
        have RD := Aside0.mk (kdr ROW.out)
        have BD := Aside0.mk (below_drew BW.out)
        refine start_ (n := 10) (S := fun _ => True) (ds := []) #[false, false, false, false, false, false, false, false, false, false] (by kernel_rfl) rfl rfl trivial (fun hHeld => ?_)
        generalize wr.drew = Y at RD BD hHeld ⊢
        refine pu (i := 0) (N := some 38) (bl 10 1) rfl rfl (by kernel_rfl) ?_
        refine pu (i := 1) (N := some 39) (bl 10 3) rfl rfl (by kernel_rfl) ?_
        refine pu (i := 2) (N := some 40) (bl 10 7) rfl rfl (by kernel_rfl) ?_
        refine pu (i := 3) (N := some 41) (bl 10 15) rfl rfl (by kernel_rfl) ?_
        refine pu (i := 4) (N := some 42) (bl 10 31) rfl rfl (by kernel_rfl) ?_
        refine pu (i := 5) (N := some 43) (bl 10 63) rfl rfl (by kernel_rfl) ?_
        refine pu (i := 6) (N := some 44) (bl 10 127) rfl rfl (by kernel_rfl) ?_
        refine one_ (i := 7) (N := (some 45)) (bl 10 255) rfl rfl (by kernel_rfl) (by decide) (fun K hK => ?_)
        refine step_copy_rowk (P := Try.prog) (w := Y) (by rfl) (.tmp 41) (.tmp 44) 93 93 rfl 25 3 huP hsz w.heap.size 3 1 1 ⟨w.heap.size, 0, none⟩ 1 2 rfl rfl _ 25 RD.out [.int .i64 p0, .slice A1 n1 c1, .slice A2 n2 c2] rfl (srcn RD.out (by intro j v hj; rcases j with _ | _ | _ | j <;> simp_all)) (by simp) (by simp [Value.oneCell']) #[.int .i64 p0, .slice A1 n1 c1, .slice A2 n2 c2, .int .i64 p0, .slice A1 n1 c1, .slice A2 n2 c2] rfl ?_
        intro Y2 z2 b2 s2
        refine hK.out _ _ trivial (fun hHeld => ?_)
        clear hK K
        refine nm 45 ?_
        refine pu (i := 8) (N := some 46) (bl 10 511) rfl rfl (by kernel_rfl) ?_
        refine pu (i := 9) (N := some 8) (bl 10 1023) rfl rfl (by kernel_rfl) ?_
        refine done_ (by kernel_rfl) ?_
        try simp only [Exit.then, Exit.inBlock]
        have bz := Aside0.mk (BD.out.trans (b2 _ (Nat.le_refl _)))
        have rz := Aside0.mk z2
        try go_wp2
        go_roundg 0
        case measure => omega
        case rel => exact ⟨.inr (⟨by first | rfl | (unfold wrap64; rfl) | (simp [wrap64]; done), by decide, rz⟩), bz⟩
      · obtain rfl : gk = 0 := by omega
        go_wp2
        go_ret
        exact ⟨_, rfl, ROW.out, BW.out⟩
  · have hm : ∀ W : World, (Instr.makeSlice 93 (.int .i64 3) (.int .i64 3)).run Try.prog W = .ok (.slice (some ⟨W.heap.size, 0, none⟩) 3 3) (W.alloc (.cells #[.int .i64 0, .slice none 0 0, .slice none 0 0, .int .i64 0, .slice none 0 0, .slice none 0 0, .int .i64 0, .slice none 0 0, .slice none 0 0] 25)) := fun W => by have h9 := hmk 3 (by omega) W; rwa [show madeCells #[.int .i64 0, .slice none 0 0, .slice none 0 0] (3 * 3) = #[.int .i64 0, .slice none 0 0, .slice none 0 0, .int .i64 0, .slice none 0 0, .slice none 0 0, .int .i64 0, .slice none 0 0, .slice none 0 0] from by first | rfl | kernel_rfl] at h9
    clear hmk
    have b0 := bal (Below.refl w.heap.size w) (.cells #[.int .i64 0, .slice none 0 0, .slice none 0 0, .int .i64 0, .slice none 0 0, .slice none 0 0, .int .i64 0, .slice none 0 0, .slice none 0 0] 25)
    have z0 : (w.alloc (.cells #[.int .i64 0, .slice none 0 0, .slice none 0 0, .int .i64 0, .slice none 0 0, .slice none 0 0, .int .i64 0, .slice none 0 0, .slice none 0 0] 25)).heap[w.heap.size]? = some (.cells #[.int .i64 0, .slice none 0 0, .slice none 0 0, .int .i64 0, .slice none 0 0, .slice none 0 0, .int .i64 0, .slice none 0 0, .slice none 0 0] 25 (0, 0)) := blk_new _ _
    have d0 := blk_below HB.out b0
    obtain ⟨W0, hW0⟩ : ∃ X, w.alloc (.cells #[.int .i64 0, .slice none 0 0, .slice none 0 0, .int .i64 0, .slice none 0 0, .slice none 0 0, .int .i64 0, .slice none 0 0, .slice none 0 0] 25) = X := ⟨_, rfl⟩
    rw [hW0] at b0 z0 d0
    go_enter Try.func66, Try.ntmps66
    go_wp2_with (first | (go_at_call 97; refine (bits_Mul.one 3 _ (by decide)).mono ?_; rintro e W ⟨rfl, rfl⟩) | ((with_reducible refine gate_builtin (b := .copy) (xs := #[.tmp 31, .tmp 32]) rfl ?_); go_must (refine wpList_copy_rowk (P := Try.prog) (w := W0) rfl (.tmp 31) (.tmp 32) 93 93 rfl 25 3 huP hsz w.heap.size 0 3 3 ⟨b, 0, none⟩ 1 1 rfl rfl _ 25 z0 [.int .i64 p0, .slice A1 n1 c1, .slice A2 n2 c2] rfl (src3 d0) (by simp) (by simp [Value.oneCell']) #[.int .i64 p0, .slice A1 n1 c1, .slice A2 n2 c2, .int .i64 0, .slice none 0 0, .slice none 0 0, .int .i64 0, .slice none 0 0, .slice none 0 0] rfl ?_; intro W1 z1 b1 s1)))
    have s2 : W0.heap.size = w.heap.size + 1 := by rw [← hW0]; simp
    have SS := Aside0.mk (show w.heap.size + 1 ≤ W1.heap.size by omega)
    have BW := Aside0.mk (b0.trans (b1 _ (Nat.le_refl _)))
    have ROW := Aside0.mk z1
    clear z0 b0 d0 hW0 z1 b1 s1 s2 hm HB hlt
    go_loopg [8] 2 (fun kq v8 X => ((v8 = .int .i64 1 ∧ 1 + kq = 3 ∧ Aside0 (X.heap[w.heap.size]? = some (.cells #[.int .i64 p0, .slice A1 n1 c1, .slice A2 n2 c2, .int .i64 0, .slice none 0 0, .slice none 0 0, .int .i64 0, .slice none 0 0, .slice none 0 0] 25 (0, 0)))) ∨ (v8 = .int .i64 2 ∧ 2 + kq = 3 ∧ Aside0 (X.heap[w.heap.size]? = some (.cells #[.int .i64 p0, .slice A1 n1 c1, .slice A2 n2 c2, .int .i64 p0, .slice A1 n1 c1, .slice A2 n2 c2, .int .i64 0, .slice none 0 0, .slice none 0 0] 25 (0, 0)))) ∨ (v8 = .int .i64 3 ∧ 3 + kq = 3 ∧ Aside0 (X.heap[w.heap.size]? = some (.cells #[.int .i64 p0, .slice A1 n1 c1, .slice A2 n2 c2, .int .i64 p0, .slice A1 n1 c1, .slice A2 n2 c2, .int .i64 p0, .slice A1 n1 c1, .slice A2 n2 c2] 25 (0, 0))))) ∧ Aside0 (Below w.heap.size w X))
    case atStart => exact ⟨.inl ⟨rfl, by decide, ROW⟩, BW⟩
    case round =>
      clear ROW BW SS
      obtain ⟨hrel, BW⟩ := hrel
      rcases hrel with ⟨rfl, hk, ROW⟩ | ⟨rfl, hk, ROW⟩ | ⟨rfl, hk, ROW⟩
      · obtain rfl : gk = 2 := by omega
        go_wp2
        have RD := Aside0.mk (kdr ROW.out)
        have BD := Aside0.mk (below_drew BW.out)
        refine start_ (n := 10) (S := fun _ => True) (ds := []) #[false, false, false, false, false, false, false, false, false, false] (by kernel_rfl) rfl rfl trivial (fun hHeld => ?_)
        generalize wr.drew = Y at RD BD hHeld ⊢
        refine pu (i := 0) (N := some 38) (bl 10 1) rfl rfl (by kernel_rfl) ?_
        refine pu (i := 1) (N := some 39) (bl 10 3) rfl rfl (by kernel_rfl) ?_
        refine pu (i := 2) (N := some 40) (bl 10 7) rfl rfl (by kernel_rfl) ?_
        refine pu (i := 3) (N := some 41) (bl 10 15) rfl rfl (by kernel_rfl) ?_
        refine pu (i := 4) (N := some 42) (bl 10 31) rfl rfl (by kernel_rfl) ?_
        refine pu (i := 5) (N := some 43) (bl 10 63) rfl rfl (by kernel_rfl) ?_
        refine pu (i := 6) (N := some 44) (bl 10 127) rfl rfl (by kernel_rfl) ?_
        refine one_ (i := 7) (N := (some 45)) (bl 10 255) rfl rfl (by kernel_rfl) (by decide) (fun K hK => ?_)
        refine step_copy_rowk (P := Try.prog) (w := Y) (by rfl) (.tmp 41) (.tmp 44) 93 93 rfl 25 3 huP hsz w.heap.size 3 2 2 ⟨w.heap.size, 0, none⟩ 1 3 rfl rfl _ 25 RD.out [.int .i64 p0, .slice A1 n1 c1, .slice A2 n2 c2] rfl (srcn RD.out (by intro j v hj; rcases j with _ | _ | _ | j <;> simp_all)) (by simp) (by simp [Value.oneCell']) #[.int .i64 p0, .slice A1 n1 c1, .slice A2 n2 c2, .int .i64 p0, .slice A1 n1 c1, .slice A2 n2 c2, .int .i64 0, .slice none 0 0, .slice none 0 0] rfl ?_
        intro Y2 z2 b2 s2
        refine hK.out _ _ trivial (fun hHeld => ?_)
        clear hK K
        refine nm 45 ?_
        refine pu (i := 8) (N := some 46) (bl 10 511) rfl rfl (by kernel_rfl) ?_
        refine pu (i := 9) (N := some 8) (bl 10 1023) rfl rfl (by kernel_rfl) ?_
        refine done_ (by kernel_rfl) ?_
        try simp only [Exit.then, Exit.inBlock]
        have bz := Aside0.mk (BD.out.trans (b2 _ (Nat.le_refl _)))
        have rz := Aside0.mk z2
        try go_wp2
        go_roundg 1
        case measure => omega
        case rel => exact ⟨.inr (.inl ⟨by first | rfl | (unfold wrap64; rfl) | (simp [wrap64]; done), by decide, rz⟩), bz⟩
      · obtain rfl : gk = 1 := by omega
        go_wp2
        have RD := Aside0.mk (kdr ROW.out)
        have BD := Aside0.mk (below_drew BW.out)
        refine start_ (n := 10) (S := fun _ => True) (ds := []) #[false, false, false, false, false, false, false, false, false, false] (by kernel_rfl) rfl rfl trivial (fun hHeld => ?_)
        generalize wr.drew = Y at RD BD hHeld ⊢
        refine pu (i := 0) (N := some 38) (bl 10 1) rfl rfl (by kernel_rfl) ?_
        refine pu (i := 1) (N := some 39) (bl 10 3) rfl rfl (by kernel_rfl) ?_
        refine pu (i := 2) (N := some 40) (bl 10 7) rfl rfl (by kernel_rfl) ?_
        refine pu (i := 3) (N := some 41) (bl 10 15) rfl rfl (by kernel_rfl) ?_
        refine pu (i := 4) (N := some 42) (bl 10 31) rfl rfl (by kernel_rfl) ?_
        refine pu (i := 5) (N := some 43) (bl 10 63) rfl rfl (by kernel_rfl) ?_
        refine pu (i := 6) (N := some 44) (bl 10 127) rfl rfl (by kernel_rfl) ?_
        refine one_ (i := 7) (N := (some 45)) (bl 10 255) rfl rfl (by kernel_rfl) (by decide) (fun K hK => ?_)
        refine step_copy_rowk (P := Try.prog) (w := Y) (by rfl) (.tmp 41) (.tmp 44) 93 93 rfl 25 3 huP hsz w.heap.size 6 1 1 ⟨w.heap.size, 0, none⟩ 2 3 rfl rfl _ 25 RD.out [.int .i64 p0, .slice A1 n1 c1, .slice A2 n2 c2] rfl (srcn RD.out (by intro j v hj; rcases j with _ | _ | _ | j <;> simp_all)) (by simp) (by simp [Value.oneCell']) #[.int .i64 p0, .slice A1 n1 c1, .slice A2 n2 c2, .int .i64 p0, .slice A1 n1 c1, .slice A2 n2 c2, .int .i64 p0, .slice A1 n1 c1, .slice A2 n2 c2] rfl ?_
        intro Y2 z2 b2 s2
        refine hK.out _ _ trivial (fun hHeld => ?_)
        clear hK K
        refine nm 45 ?_
        refine pu (i := 8) (N := some 46) (bl 10 511) rfl rfl (by kernel_rfl) ?_
        refine pu (i := 9) (N := some 8) (bl 10 1023) rfl rfl (by kernel_rfl) ?_
        refine done_ (by kernel_rfl) ?_
        try simp only [Exit.then, Exit.inBlock]
        have bz := Aside0.mk (BD.out.trans (b2 _ (Nat.le_refl _)))
        have rz := Aside0.mk z2
        try go_wp2
        go_roundg 0
        case measure => omega
        case rel => exact ⟨.inr (.inr (⟨by first | rfl | (unfold wrap64; rfl) | (simp [wrap64]; done), by decide, rz⟩)), bz⟩
      · obtain rfl : gk = 0 := by omega
        go_wp2
        go_ret
        exact ⟨_, rfl, ROW.out, BW.out⟩
def prod_Self.f (k : Nat) (a0_0 : Int) (l0_1 : List S66) (l0_2 : List S64) (a1 : Int) : Option (Int × List S66 × List S64 × Int) :=
  (prog_Check.f k a0_0 l0_1 l0_2).bind fun t => if t = 0 then (if a1 < 1 then some (0, [], [], 1) else if a1 > 3 then some (0, [], [], 1) else
    (prod_single.f k a0_0 l0_1 l0_2).bind fun s => if s = 0 then ((prod_Of.f k (List.replicate a1.toNat (⟨a0_0, l0_1, l0_2⟩ : S25))).bind fun o => prod_made.f k o.1 o.2.1 o.2.2)
      else some (0, [], [], 1)) else some (0, [], [], 30)
theorem row3_put {W : World} {B t : Nat} {x0 x1 x2 : Value} (hz : W.heap[B]? = some (.cells #[x0, x1, x2] t (0, 0))) (a b c : Value) :
    (((W.setCell ⟨B, 0, none⟩ a).setCell ⟨B, 1, none⟩ b).setCell ⟨B, 2, none⟩ c).heap[B]? = some (.cells #[a, b, c] t (0, 0)) ∧
    (∀ k, k ≠ B → (((W.setCell ⟨B, 0, none⟩ a).setCell ⟨B, 1, none⟩ b).setCell ⟨B, 2, none⟩ c).heap[k]? = W.heap[k]?) ∧
    (∀ n, n ≤ B → Below n W (((W.setCell ⟨B, 0, none⟩ a).setCell ⟨B, 1, none⟩ b).setCell ⟨B, 2, none⟩ c)) := by
  have h0 := blk_put hz 0 a (cs' := #[a, x1, x2]) rfl
  have h1 := blk_put h0 1 b (cs' := #[a, b, x2]) rfl
  refine ⟨blk_put h1 2 c (cs' := #[a, b, c]) rfl, fun k hk => ?_, fun n hn => ?_⟩
  · rw [Below.heap_setCell _ _ _ _ hk, Below.heap_setCell _ _ _ _ hk, Below.heap_setCell _ _ _ _ hk]
  · exact ((below_cell _ _ hn).trans (below_cell _ _ hn)).trans (below_cell _ _ hn)
theorem rep_each {n : Nat} {a0_0 : Int} {A0_1 : Option Addr} {c0_1 : Nat} {l0_1 : List S66} {A0_2 : Option Addr} {c0_2 : Nat} {l0_2 : List S64} (W : World)
    (h1 : Kd.C k66 W A0_1 l0_1.length l0_1) (c1 : l0_1.length ≤ c0_1) (h2 : Kd.C k64 W A0_2 l0_2.length l0_2) (c2 : l0_2.length ≤ c0_2) :
    ∀ (j : Nat) (x : S25) (c : List Value), (List.replicate n (⟨a0_0, l0_1, l0_2⟩ : S25))[j]? = some x → (List.replicate n [Value.int .i64 a0_0, .slice A0_1 l0_1.length c0_1, .slice A0_2 l0_2.length c0_2])[j]? = some c → k25.K W x c := by
  intro j x c hx hc
  rw [List.getElem?_replicate] at hx hc
  by_cases hj : j < n
  · rw [if_pos hj] at hx hc
    obtain rfl := Option.some.inj hx
    obtain rfl := Option.some.inj hc
    exact k25_mk W _ c1 h1 c2 h2
  · rw [if_neg hj] at hx; cases hx
theorem prod_made.callsR (k : Nat) (a0 : Int) (A1 : Option Addr) (c1 : Nat) (l1 : List S66) (A2 : Option Addr) (c2 : Nat) (l2 : List S64) (r1 : Int) (r2 : List S66) (r3 : List S64) (r4 : Int) (base : Nat) (ok1 P : Nat → Prop) (w : World)
    (h1 : Kd.R k66 66 w base ok1 (.slice A1 l1.length c1) l1) (h2 : Kd.R k64 64 w base (fun q => P q ∧ some q ≠ (.slice A1 l1.length c1 : Value).ownBlock) (.slice A2 l2.length c2) l2) (h : prod_made.f k a0 l1 l2 = some (r1, r2, r3, r4)) :
    Calls Try.prog 63 #[.agg #[.int .i64 a0, .slice A1 l1.length c1, .slice A2 l2.length c2]] w fun e w' => ∃ A3 c3 A4 c4, e = .returned (.tuple #[.agg #[.int .i64 r1, .slice A3 r2.length c3, .slice A4 r3.length c4], .int .i64 r4]) ∧
      Kd.R k66 66 w' base ok1 (.slice A3 r2.length c3) r2 ∧ Kd.R k64 64 w' base (fun q => P q ∧ some q ≠ (.slice A3 r2.length c3 : Value).ownBlock) (.slice A4 r3.length c4) r3 ∧ Below w.heap.size w w' := by
  refine callsIn_wide.1 (?_ : CallsIn Fence.wide 9 _ _ _ _ _)
  have huP := Try.underlying25
  unfold prod_made.f at h
  obtain ⟨tc, hc, h⟩ := Option.bind_eq_some_iff.mp h
  refine callsIn_of_wp_marks Try.func63 rfl trivial ?_ rfl
  simp only [Try.ntmps63, List.size_toArray, List.length_cons, List.length_nil, Nat.reduceAdd, Nat.reduceSub, Array.replicate_succ, Array.replicate_zero, List.push_toArray, List.append_toArray, List.nil_append, List.cons_append]
  have H1 := Aside0.mk h1
  have H2 := Aside0.mk h2
  clear h1 h2
  obtain ⟨W0, hW0⟩ : ∃ X, ((w.alloc (.cells #[.int .i64 a0, .slice A1 l1.length c1, .slice A2 l2.length c2] 25)).alloc (.cells #[.int .i64 0, .slice none 0 0, .slice none 0 0] 25)) = X := ⟨_, rfl⟩
  have b0 : Below w.heap.size w W0 := by rw [← hW0]; exact bal (bal (Below.refl _ _) _) _
  have p0 : W0.heap[w.heap.size]? = some (.cells #[.int .i64 a0, .slice A1 l1.length c1, .slice A2 l2.length c2] 25 (0, 0)) := by rw [← hW0]; exact kal (blk_new _ _) _
  have z0 : W0.heap[w.heap.size + 1]? = some (.cells #[.int .i64 0, .slice none 0 0, .slice none 0 0] 25 (0, 0)) := by
    rw [← hW0]
    have := blk_new (w.alloc (.cells #[.int .i64 a0, .slice A1 l1.length c1, .slice A2 l2.length c2] 25)) (.cells #[.int .i64 0, .slice none 0 0, .slice none 0 0] 25)
    simpa using this
  obtain ⟨x0, x1, x2⟩ := cells3 p0
  gi_wp2
  refine ⟨trivial, ?_⟩
  refine (callsIn_wide.2 (prog_Check.calls k a0 _ _ l1 _ _ l2 tc W0 (Kd.C_below (Kd.R_reads' H1.out).2.2 b0) (Kd.R_reads' H1.out).2.1 (Kd.C_below (Kd.R_reads' H2.out).2.2 b0) (Kd.R_reads' H2.out).2.1 hc)).mono ?_
  rintro e W1 ⟨rfl, hb1⟩
  have b1 := b0.trans (hb1.mono b0.size)
  have p1 := (hb1.block _ (blk_lt p0)).trans p0
  have z1 := (hb1.block _ (blk_lt z0)).trans z0
  clear p0 z0 x0 x1 x2 hb1 b0 hW0
  obtain ⟨x0, x1, x2⟩ := cells3 p1
  obtain ⟨y0, y1, y2⟩ := cells3 z1
  have f0 := blk_frozen z1 0
  have f1 := blk_frozen z1 1
  have f2 := blk_frozen z1 2
  by_cases htc : tc = 0
  · rw [if_pos htc] at h
    cases h
    subst htc
    obtain ⟨zc, zk, zb⟩ := row3_put z1 (.int .i64 a0) (.slice A1 l1.length c1) (.slice A2 l2.length c2)
    gi_wp2
    refine ⟨_, results_ct rfl _ _ (w.heap.size + 1) 25 #[.int .i64 a0, .slice A1 l1.length c1, .slice A2 l2.length c2] (0, 0) _ rfl zc huP rfl (by kernel_rfl), ?_⟩
    have bz := b1.trans (zb w.heap.size (by omega))
    exact ⟨_, _, _, _, rfl, Kd.R_below H1.out bz, Kd.R_below H2.out bz, bz⟩
  · rw [if_neg htc] at h
    cases h
    have g2 : (tc != 0) = true := bne_iff_ne.mpr htc
    obtain ⟨zc, zk, zb⟩ := row3_put z1 (.int .i64 0) (.slice none 0 0) (.slice none 0 0)
    gi_wp2
    refine ⟨_, results_ct rfl _ _ (w.heap.size + 1) 25 #[.int .i64 0, .slice none 0 0, .slice none 0 0] (0, 0) _ rfl zc huP rfl (by kernel_rfl), ?_⟩
    exact ⟨none, 0, none, 0, rfl, Kd.R_nil _ _ _ _ _, Kd.R_nil _ _ _ _ _, b1.trans (zb w.heap.size (by omega))⟩
theorem prod_Self.callsR (k : Nat) (a0_0 : Int) (A0_1 : Option Addr) (c0_1 : Nat) (l0_1 : List S66) (A0_2 : Option Addr) (c0_2 : Nat) (l0_2 : List S64) (a1 : Int) (r1 : Int) (r2 : List S66) (r3 : List S64) (r4 : Int) (w : World)
    (hr1 : Kd.C k66 w A0_1 l0_1.length l0_1) (hc1 : l0_1.length ≤ c0_1) (hr2 : Kd.C k64 w A0_2 l0_2.length l0_2) (hc2 : l0_2.length ≤ c0_2) (h : prod_Self.f k a0_0 l0_1 l0_2 a1 = some (r1, r2, r3, r4)) :
    Calls Try.prog 26 #[.agg #[.int .i64 a0_0, .slice A0_1 l0_1.length c0_1, .slice A0_2 l0_2.length c0_2], .int .i64 a1] w fun en w' => ∃ v1_ v2_ : Value, en = .returned (.tuple #[.agg #[.int .i64 r1, v1_, v2_], .int .i64 r4]) ∧
      Kd.R k66 66 w' w.heap.size (fun _ => True) v1_ r2 ∧ Kd.R k64 64 w' w.heap.size (fun k_ => w.heap.size ≤ k_ ∧ some k_ ≠ (v1_ : Value).ownBlock) v2_ r3 ∧ Below w.heap.size w w' := by
  have huP := Try.underlying25
  have HR1 := Aside0.mk hr1
  have HC1 := Aside0.mk hc1
  have HR2 := Aside0.mk hr2
  have HC2 := Aside0.mk hc2
  clear hr1 hc1 hr2 hc2
  unfold prod_Self.f at h
  obtain ⟨tc, ac, h⟩ := Option.bind_eq_some_iff.mp h
  have AC := Aside0.mk ac
  clear ac
  obtain ⟨W0, hW0⟩ : ∃ X, ((w.alloc (.cells #[.int .i64 a0_0, .slice A0_1 l0_1.length c0_1, .slice A0_2 l0_2.length c0_2] 25)).alloc (.cells #[.int .i64 0, .slice none 0 0, .slice none 0 0] 25)) = X := ⟨_, rfl⟩
  have b0 : Below w.heap.size w W0 := by rw [← hW0]; exact bal (bal (Below.refl _ _) _) _
  have p0 : W0.heap[w.heap.size]? = some (.cells #[.int .i64 a0_0, .slice A0_1 l0_1.length c0_1, .slice A0_2 l0_2.length c0_2] 25 (0, 0)) := by rw [← hW0]; exact kal (blk_new _ _) _
  have z0 : W0.heap[w.heap.size + 1]? = some (.cells #[.int .i64 0, .slice none 0 0, .slice none 0 0] 25 (0, 0)) := by
    rw [← hW0]
    have := blk_new (w.alloc (.cells #[.int .i64 a0_0, .slice A0_1 l0_1.length c0_1, .slice A0_2 l0_2.length c0_2] 25)) (.cells #[.int .i64 0, .slice none 0 0, .slice none 0 0] 25)
    simpa using this
  have x0 : W0.cell? ⟨w.heap.size, 0, none⟩ = some (.int .i64 a0_0) := (blk_cell p0 0).trans rfl
  have x1 : W0.cell? ⟨w.heap.size, 1, none⟩ = some (.slice A0_1 l0_1.length c0_1) := (blk_cell p0 1).trans rfl
  have x2 : W0.cell? ⟨w.heap.size, 2, none⟩ = some (.slice A0_2 l0_2.length c0_2) := (blk_cell p0 2).trans rfl
  by_cases htc : tc = 0
  case neg =>
    rw [if_neg htc] at h
    have H := Aside0.mk h
    have g2 : (tc != 0) = true := bne_iff_ne.mpr htc
    clear h
    go_enter Try.func26, Try.ntmps26
    go_wp2_with (first | (go_at_call 43; refine (prog_Check.calls k a0_0 _ _ l0_1 _ _ l0_2 _ W0 (Kd.C_below HR1.out b0) HC1.out (Kd.C_below HR2.out b0) HC2.out AC.out).mono ?_; rintro e W1 ⟨rfl, hb1⟩; have b1 := b0.trans (hb1.mono b0.size); have p1 := blk_below p0 hb1; have z1 := blk_below z0 hb1; have y0 : W1.cell? ⟨w.heap.size, 0, none⟩ = some (.int .i64 a0_0) := (blk_cell p1 0).trans rfl; have y1 : W1.cell? ⟨w.heap.size, 1, none⟩ = some (.slice A0_1 l0_1.length c0_1) := (blk_cell p1 1).trans rfl; have y2 : W1.cell? ⟨w.heap.size, 2, none⟩ = some (.slice A0_2 l0_2.length c0_2) := (blk_cell p1 2).trans rfl; have z_0 : W1.cell? ⟨w.heap.size + 1, 0, none⟩ = some (.int .i64 0) := (blk_cell z1 0).trans rfl; have z_1 : W1.cell? ⟨w.heap.size + 1, 1, none⟩ = some (.slice none 0 0) := (blk_cell z1 1).trans rfl; have z_2 : W1.cell? ⟨w.heap.size + 1, 2, none⟩ = some (.slice none 0 0) := (blk_cell z1 2).trans rfl; have f_0 := blk_frozen z1 0; have f_1 := blk_frozen z1 1; have f_2 := blk_frozen z1 2))
    obtain ⟨zc, zk, zb⟩ := row3_put z1 (.int .i64 0) (.slice none 0 0) (.slice none 0 0)
    refine bodyPost_ret (results_ct rfl _ _ (w.heap.size + 1) 25 #[.int .i64 0, .slice none 0 0, .slice none 0 0] (0, 0) _ rfl zc huP rfl (by kernel_rfl)) rfl ?_
    obtain ⟨rfl, rfl, rfl, rfl⟩ : r1 = 0 ∧ r2 = [] ∧ r3 = [] ∧ r4 = 30 := by
      injection (Option.some.inj H.out) with g1 g2; injection g2 with g2 g3; injection g3 with g3 g4
      exact ⟨g1.symm, g2.symm, g3.symm, g4.symm⟩
    exact ⟨_, _, rfl, Kd.R_nil _ _ _ _ _, Kd.R_nil _ _ _ _ _, b1.trans (zb _ (by omega))⟩
  subst htc
  rw [if_pos rfl] at h
  by_cases h1 : a1 < 1
  case pos =>
    rw [if_pos h1] at h
    have H := Aside0.mk h
    have g2 : decide (a1 < 1) = true := decide_eq_true h1
    clear h h1
    go_enter Try.func26, Try.ntmps26
    go_wp2_with (first | (go_at_call 43; refine (prog_Check.calls k a0_0 _ _ l0_1 _ _ l0_2 _ W0 (Kd.C_below HR1.out b0) HC1.out (Kd.C_below HR2.out b0) HC2.out AC.out).mono ?_; rintro e W1 ⟨rfl, hb1⟩; have b1 := b0.trans (hb1.mono b0.size); have p1 := blk_below p0 hb1; have z1 := blk_below z0 hb1; have y0 : W1.cell? ⟨w.heap.size, 0, none⟩ = some (.int .i64 a0_0) := (blk_cell p1 0).trans rfl; have y1 : W1.cell? ⟨w.heap.size, 1, none⟩ = some (.slice A0_1 l0_1.length c0_1) := (blk_cell p1 1).trans rfl; have y2 : W1.cell? ⟨w.heap.size, 2, none⟩ = some (.slice A0_2 l0_2.length c0_2) := (blk_cell p1 2).trans rfl; have z_0 : W1.cell? ⟨w.heap.size + 1, 0, none⟩ = some (.int .i64 0) := (blk_cell z1 0).trans rfl; have z_1 : W1.cell? ⟨w.heap.size + 1, 1, none⟩ = some (.slice none 0 0) := (blk_cell z1 1).trans rfl; have z_2 : W1.cell? ⟨w.heap.size + 1, 2, none⟩ = some (.slice none 0 0) := (blk_cell z1 2).trans rfl; have f_0 := blk_frozen z1 0; have f_1 := blk_frozen z1 1; have f_2 := blk_frozen z1 2))
    obtain ⟨zc, zk, zb⟩ := row3_put z1 (.int .i64 0) (.slice none 0 0) (.slice none 0 0)
    refine bodyPost_ret (results_ct rfl _ _ (w.heap.size + 1) 25 #[.int .i64 0, .slice none 0 0, .slice none 0 0] (0, 0) _ rfl zc huP rfl (by kernel_rfl)) rfl ?_
    obtain ⟨rfl, rfl, rfl, rfl⟩ : r1 = 0 ∧ r2 = [] ∧ r3 = [] ∧ r4 = 1 := by
      injection (Option.some.inj H.out) with g1 g2; injection g2 with g2 g3; injection g3 with g3 g4
      exact ⟨g1.symm, g2.symm, g3.symm, g4.symm⟩
    exact ⟨_, _, rfl, Kd.R_nil _ _ _ _ _, Kd.R_nil _ _ _ _ _, b1.trans (zb _ (by omega))⟩
  rw [if_neg h1] at h
  have g1 : decide (a1 < 1) = false := decide_eq_false h1
  by_cases h3 : a1 > 3
  case pos =>
    rw [if_pos h3] at h
    have H := Aside0.mk h
    have g2 : decide (3 < a1) = true := decide_eq_true h3
    have g3 : decide (a1 > 3) = true := decide_eq_true h3
    clear h h1 h3
    go_enter Try.func26, Try.ntmps26
    go_wp2_with (first | (go_at_call 43; refine (prog_Check.calls k a0_0 _ _ l0_1 _ _ l0_2 _ W0 (Kd.C_below HR1.out b0) HC1.out (Kd.C_below HR2.out b0) HC2.out AC.out).mono ?_; rintro e W1 ⟨rfl, hb1⟩; have b1 := b0.trans (hb1.mono b0.size); have p1 := blk_below p0 hb1; have z1 := blk_below z0 hb1; have y0 : W1.cell? ⟨w.heap.size, 0, none⟩ = some (.int .i64 a0_0) := (blk_cell p1 0).trans rfl; have y1 : W1.cell? ⟨w.heap.size, 1, none⟩ = some (.slice A0_1 l0_1.length c0_1) := (blk_cell p1 1).trans rfl; have y2 : W1.cell? ⟨w.heap.size, 2, none⟩ = some (.slice A0_2 l0_2.length c0_2) := (blk_cell p1 2).trans rfl; have z_0 : W1.cell? ⟨w.heap.size + 1, 0, none⟩ = some (.int .i64 0) := (blk_cell z1 0).trans rfl; have z_1 : W1.cell? ⟨w.heap.size + 1, 1, none⟩ = some (.slice none 0 0) := (blk_cell z1 1).trans rfl; have z_2 : W1.cell? ⟨w.heap.size + 1, 2, none⟩ = some (.slice none 0 0) := (blk_cell z1 2).trans rfl; have f_0 := blk_frozen z1 0; have f_1 := blk_frozen z1 1; have f_2 := blk_frozen z1 2))
    obtain ⟨zc, zk, zb⟩ := row3_put z1 (.int .i64 0) (.slice none 0 0) (.slice none 0 0)
    refine bodyPost_ret (results_ct rfl _ _ (w.heap.size + 1) 25 #[.int .i64 0, .slice none 0 0, .slice none 0 0] (0, 0) _ rfl zc huP rfl (by kernel_rfl)) rfl ?_
    obtain ⟨rfl, rfl, rfl, rfl⟩ : r1 = 0 ∧ r2 = [] ∧ r3 = [] ∧ r4 = 1 := by
      injection (Option.some.inj H.out) with g1 g2; injection g2 with g2 g3; injection g3 with g3 g4
      exact ⟨g1.symm, g2.symm, g3.symm, g4.symm⟩
    exact ⟨_, _, rfl, Kd.R_nil _ _ _ _ _, Kd.R_nil _ _ _ _ _, b1.trans (zb _ (by omega))⟩
  rw [if_neg h3] at h
  have g3 : decide (3 < a1) = false := decide_eq_false h3
  have g4 : decide (a1 > 3) = false := decide_eq_false h3
  obtain ⟨sc, as_, h⟩ := Option.bind_eq_some_iff.mp h
  have AS := Aside0.mk as_
  obtain ⟨n, hn, hna⟩ : ∃ n : Nat, (n = 1 ∨ n = 2 ∨ n = 3) ∧ a1 = (n : Int) := ⟨a1.toNat, by omega, by omega⟩
  clear as_ h1 h3
  by_cases hsc : sc = 0
  case neg =>
    rw [if_neg hsc] at h
    have H := Aside0.mk h
    have g5 : (sc != 0) = true := bne_iff_ne.mpr hsc
    clear h hsc
    go_enter Try.func26, Try.ntmps26
    go_wp2_with (first | (go_at_call 43; refine (prog_Check.calls k a0_0 _ _ l0_1 _ _ l0_2 _ W0 (Kd.C_below HR1.out b0) HC1.out (Kd.C_below HR2.out b0) HC2.out AC.out).mono ?_; rintro e W1 ⟨rfl, hb1⟩; have b1 := b0.trans (hb1.mono b0.size); have p1 := blk_below p0 hb1; have z1 := blk_below z0 hb1; have y0 : W1.cell? ⟨w.heap.size, 0, none⟩ = some (.int .i64 a0_0) := (blk_cell p1 0).trans rfl; have y1 : W1.cell? ⟨w.heap.size, 1, none⟩ = some (.slice A0_1 l0_1.length c0_1) := (blk_cell p1 1).trans rfl; have y2 : W1.cell? ⟨w.heap.size, 2, none⟩ = some (.slice A0_2 l0_2.length c0_2) := (blk_cell p1 2).trans rfl; have z_0 : W1.cell? ⟨w.heap.size + 1, 0, none⟩ = some (.int .i64 0) := (blk_cell z1 0).trans rfl; have z_1 : W1.cell? ⟨w.heap.size + 1, 1, none⟩ = some (.slice none 0 0) := (blk_cell z1 1).trans rfl; have z_2 : W1.cell? ⟨w.heap.size + 1, 2, none⟩ = some (.slice none 0 0) := (blk_cell z1 2).trans rfl; have f_0 := blk_frozen z1 0; have f_1 := blk_frozen z1 1; have f_2 := blk_frozen z1 2) | (go_at_call 44; refine (prod_single.calls k a0_0 _ _ l0_1 _ _ l0_2 _ W1 (Kd.C_below HR1.out b1) HC1.out (Kd.C_below HR2.out b1) HC2.out AS.out).mono ?_; rintro e W2 ⟨rfl, hb2⟩; have b2 := b1.trans (hb2.mono b1.size); have p2 := blk_below p1 hb2; have z2 := blk_below z1 hb2; have y0 : W2.cell? ⟨w.heap.size, 0, none⟩ = some (.int .i64 a0_0) := (blk_cell p2 0).trans rfl; have y1 : W2.cell? ⟨w.heap.size, 1, none⟩ = some (.slice A0_1 l0_1.length c0_1) := (blk_cell p2 1).trans rfl; have y2 : W2.cell? ⟨w.heap.size, 2, none⟩ = some (.slice A0_2 l0_2.length c0_2) := (blk_cell p2 2).trans rfl; have z_0 : W2.cell? ⟨w.heap.size + 1, 0, none⟩ = some (.int .i64 0) := (blk_cell z2 0).trans rfl; have z_1 : W2.cell? ⟨w.heap.size + 1, 1, none⟩ = some (.slice none 0 0) := (blk_cell z2 1).trans rfl; have z_2 : W2.cell? ⟨w.heap.size + 1, 2, none⟩ = some (.slice none 0 0) := (blk_cell z2 2).trans rfl; have f_0 := blk_frozen z2 0; have f_1 := blk_frozen z2 1; have f_2 := blk_frozen z2 2))
    obtain ⟨zc, zk, zb⟩ := row3_put z2 (.int .i64 0) (.slice none 0 0) (.slice none 0 0)
    refine bodyPost_ret (results_ct rfl _ _ (w.heap.size + 1) 25 #[.int .i64 0, .slice none 0 0, .slice none 0 0] (0, 0) _ rfl zc huP rfl (by kernel_rfl)) rfl ?_
    obtain ⟨rfl, rfl, rfl, rfl⟩ : r1 = 0 ∧ r2 = [] ∧ r3 = [] ∧ r4 = 1 := by
      injection (Option.some.inj H.out) with g1 g2; injection g2 with g2 g3; injection g3 with g3 g4
      exact ⟨g1.symm, g2.symm, g3.symm, g4.symm⟩
    exact ⟨_, _, rfl, Kd.R_nil _ _ _ _ _, Kd.R_nil _ _ _ _ _, b2.trans (zb _ (by omega))⟩
  subst hsc
  rw [if_pos rfl] at h
  obtain ⟨⟨o1, o2, o3⟩, ao, hmm⟩ := Option.bind_eq_some_iff.mp h
  rw [hna, Int.toNat_natCast] at ao
  subst hna
  have AO := Aside0.mk ao
  have HM := Aside0.mk hmm
  have hn3 : n ≤ 3 := by omega
  have hn := Aside0.mk hn
  clear ao h hmm
  go_enter Try.func26, Try.ntmps26
  go_wp2_with (first | (go_at_call 43; refine (prog_Check.calls k a0_0 _ _ l0_1 _ _ l0_2 _ W0 (Kd.C_below HR1.out b0) HC1.out (Kd.C_below HR2.out b0) HC2.out AC.out).mono ?_; rintro e W1 ⟨rfl, hb1⟩; have b1 := b0.trans (hb1.mono b0.size); have p1 := blk_below p0 hb1; have z1 := blk_below z0 hb1; have y0 : W1.cell? ⟨w.heap.size, 0, none⟩ = some (.int .i64 a0_0) := (blk_cell p1 0).trans rfl; have y1 : W1.cell? ⟨w.heap.size, 1, none⟩ = some (.slice A0_1 l0_1.length c0_1) := (blk_cell p1 1).trans rfl; have y2 : W1.cell? ⟨w.heap.size, 2, none⟩ = some (.slice A0_2 l0_2.length c0_2) := (blk_cell p1 2).trans rfl; have z_0 : W1.cell? ⟨w.heap.size + 1, 0, none⟩ = some (.int .i64 0) := (blk_cell z1 0).trans rfl; have z_1 : W1.cell? ⟨w.heap.size + 1, 1, none⟩ = some (.slice none 0 0) := (blk_cell z1 1).trans rfl; have z_2 : W1.cell? ⟨w.heap.size + 1, 2, none⟩ = some (.slice none 0 0) := (blk_cell z1 2).trans rfl; have f_0 := blk_frozen z1 0; have f_1 := blk_frozen z1 1; have f_2 := blk_frozen z1 2) | (go_at_call 44; refine (prod_single.calls k a0_0 _ _ l0_1 _ _ l0_2 _ W1 (Kd.C_below HR1.out b1) HC1.out (Kd.C_below HR2.out b1) HC2.out AS.out).mono ?_; rintro e W2 ⟨rfl, hb2⟩; have b2 := b1.trans (hb2.mono b1.size); have p2 := blk_below p1 hb2; have z2 := blk_below z1 hb2; have y0 : W2.cell? ⟨w.heap.size, 0, none⟩ = some (.int .i64 a0_0) := (blk_cell p2 0).trans rfl; have y1 : W2.cell? ⟨w.heap.size, 1, none⟩ = some (.slice A0_1 l0_1.length c0_1) := (blk_cell p2 1).trans rfl; have y2 : W2.cell? ⟨w.heap.size, 2, none⟩ = some (.slice A0_2 l0_2.length c0_2) := (blk_cell p2 2).trans rfl; have z_0 : W2.cell? ⟨w.heap.size + 1, 0, none⟩ = some (.int .i64 0) := (blk_cell z2 0).trans rfl; have z_1 : W2.cell? ⟨w.heap.size + 1, 1, none⟩ = some (.slice none 0 0) := (blk_cell z2 1).trans rfl; have z_2 : W2.cell? ⟨w.heap.size + 1, 2, none⟩ = some (.slice none 0 0) := (blk_cell z2 2).trans rfl; have f_0 := blk_frozen z2 0; have f_1 := blk_frozen z2 1; have f_2 := blk_frozen z2 2) | (go_at_call 66; refine (slices_Repeat.calls n hn.out a0_0 A0_1 l0_1.length c0_1 A0_2 l0_2.length c0_2 W2.heap.size _ (blk_new _ _)).mono ?_; rintro e W3 ⟨B3, rfl, h3, hb3⟩; have q2 := bal (Below.refl W2.heap.size W2) (.cells #[.int .i64 a0_0, .slice A0_1 l0_1.length c0_1, .slice A0_2 l0_2.length c0_2] 25); have hb23 := q2.trans (hb3.mono q2.size); have b3 := b2.trans (hb23.mono b2.size); have z3 := blk_below z2 hb23; have c3 := C_of_row (d := k25) (l := List.replicate n (⟨a0_0, l0_1, l0_2⟩ : S25)) (css := List.replicate n [.int .i64 a0_0, .slice A0_1 l0_1.length c0_1, .slice A0_2 l0_2.length c0_2]) h3 (by simp) (by simp; omega) (rep_each W3 (Kd.C_below HR1.out b3) HC1.out (Kd.C_below HR2.out b3) HC2.out)) | (go_at_call 65; refine calls_of_args (args' := #[.slice (some ⟨B3, 0, none⟩) (List.replicate n (⟨a0_0, l0_1, l0_2⟩ : S25)).length n]) (by rw [List.length_replicate]) ?_; refine (prod_Of.callsR k (some ⟨B3, 0, none⟩) n (List.replicate n (⟨a0_0, l0_1, l0_2⟩ : S25)) o1 o2 o3 W3 c3 (by simp) AO.out).mono ?_; rintro e W4 ⟨v1, v2, rfl, r4_, n4_, hb4⟩; have b4 := b3.trans (hb4.mono b3.size); have z4 := blk_below z3 hb4; obtain ⟨D1, d1, e1⟩ := Kd.R_slice r4_; subst e1; obtain ⟨D2, d2, e2⟩ := Kd.R_slice n4_; subst e2) | (go_at_call 63; refine (prod_made.callsR k o1 _ _ o2 _ _ o3 r1 r2 r3 r4 W3.heap.size (fun k_ => W3.heap.size ≤ k_) (fun k_ => W3.heap.size ≤ k_) W4 r4_ n4_ HM.out).mono ?_; rintro e W5 ⟨D3, d3, D4, d4, rfl, r5_, v5_, hb5q⟩; have hb5 := hb4.trans (hb5q.mono hb4.size); have b5 := b3.trans (hb5.mono b3.size); have z5 := blk_below z3 hb5; have z_0 : W5.cell? ⟨w.heap.size + 1, 0, none⟩ = some (.int .i64 0) := (blk_cell z5 0).trans rfl; have z_1 : W5.cell? ⟨w.heap.size + 1, 1, none⟩ = some (.slice none 0 0) := (blk_cell z5 1).trans rfl; have z_2 : W5.cell? ⟨w.heap.size + 1, 2, none⟩ = some (.slice none 0 0) := (blk_cell z5 2).trans rfl; have f_0 := blk_frozen z5 0; have f_1 := blk_frozen z5 1; have f_2 := blk_frozen z5 2))
  have s3 := b3.size
  have lz := blk_lt z3
  obtain ⟨zc, zk, zb⟩ := row3_put z5 (.int .i64 r1) (.slice D3 r2.length d3) (.slice D4 r3.length d4)
  refine bodyPost_ret (results_ct rfl _ _ (w.heap.size + 1) 25 #[.int .i64 r1, .slice D3 r2.length d3, .slice D4 r3.length d4] (0, 0) _ rfl zc huP rfl (by kernel_rfl)) rfl ?_
  refine ⟨_, _, rfl, Kd.R_lower (Kd.R_mono (Kd.R_step (Kd.R_bound r5_) (fun q hq _ => zk q (by have := hq.2.1; omega))) (fun _ _ => trivial)) s3, ?_, b5.trans (zb _ (by omega))⟩
  exact Kd.R_lower (Kd.R_mono (Kd.R_step v5_ (fun q hq _ => zk q (by have := hq.1; omega))) (fun q hq => ⟨by have := hq.1; omega, hq.2⟩)) s3
theorem prod_Self.calls (k : Nat) (a0_0 : Int) (A0_1 : Option Addr) (c0_1 : Nat) (l0_1 : List S66) (A0_2 : Option Addr) (c0_2 : Nat) (l0_2 : List S64) (a1 : Int) (r1 : Int) (r2 : List S66) (r3 : List S64) (r4 : Int) (w : World)
    (hr1 : Kd.C k66 w A0_1 l0_1.length l0_1) (hc1 : l0_1.length ≤ c0_1) (hr2 : Kd.C k64 w A0_2 l0_2.length l0_2) (hc2 : l0_2.length ≤ c0_2) (h : prod_Self.f k a0_0 l0_1 l0_2 a1 = some (r1, r2, r3, r4)) :
    Calls Try.prog 26 #[.agg #[.int .i64 a0_0, .slice A0_1 l0_1.length c0_1, .slice A0_2 l0_2.length c0_2], .int .i64 a1] w fun en w' => ∃ v1_ v2_ : Value, en = .returned (.tuple #[.agg #[.int .i64 r1, v1_, v2_], .int .i64 r4]) ∧
      Kd.R k66 66 w' w.heap.size (fun _ => True) v1_ r2 ∧ Kd.V k64 64 w' w.heap.size (fun k_ => w.heap.size ≤ k_ ∧ some k_ ≠ (v1_ : Value).ownBlock) v2_ r3 ∧ Below w.heap.size w w' :=
  (prod_Self.callsR k a0_0 A0_1 c0_1 l0_1 A0_2 c0_2 l0_2 a1 r1 r2 r3 r4 w hr1 hc1 hr2 hc2 h).mono fun _ _ ⟨v1, v2, he, h1, h2, hb⟩ => ⟨v1, v2, he, h1, Kd.N_V (Kd.R_N h2), hb⟩
end Go.Proofs.Ytilebfkehmecaaa.Print
namespace Go.Proofs.Ytilebfkehmecaaa.Print
open Go.RowKit Go.Proofs.YtilebfkehmecaaaW.PrintWords Go.Proofs.YtilebfkehmecaaaW.PrintLast Go.Proofs.YtilebfkehmecaaaW.PrintMore
attribute [local go_sem] max2_int min2_int max_two min_two max_three min_three max_four min_four
set_option linter.unusedVariables false
set_option linter.unusedSimpArgs false
def prod_Copy.j0 : Nat → Int → Bool → Int → List (S66) → List (S64) → Option (Int × (List (S66)) × (List (S64)) × Int)
 | 0, _, _, _, _, _ => none
 | k + 1, x1, x20, x184000, x184001, x184002 => if x20 = true then (some (0, ([] : List (S66)), ([] : List (S64)), 1)) else ((prod_variables.f k x184001 x1).bind fun t187 => ((prod_Moved.f k x184002 x1 0).bind fun t190 => ((prod_made.f k x184000 t187 t190).bind fun bt193 => (some (bt193.1, bt193.2.1, bt193.2.2.1, bt193.2.2.2)))))
def prod_Copy.f (k : Nat) (a0_0 : Int) (l0_1 : List (S66)) (l0_2 : List (S64)) (a1 : Int) : Option (Int × (List (S66)) × (List (S64)) × Int) := (prog_Check.f k a0_0 l0_1 l0_2).bind fun t185 => (if t185 = 0 then (if a1 < 0 then (prod_Copy.j0 k a1 true a0_0 l0_1 l0_2) else (if a1 ≥ 3 then (prod_Copy.j0 k a1 true a0_0 l0_1 l0_2) else ((prod_single.f k a0_0 l0_1 l0_2).bind fun t186 => (prod_Copy.j0 k a1 (t186 != 0) a0_0 l0_1 l0_2)))) else (some (0, ([] : List (S66)), ([] : List (S64)), 30)))
def prod_Copy.T5 : Bool × List (List Nat × List Nat) := (true, [([], []), ([0], [0]), ([], []), ([2], [2]), ([], []), ([3, 4], [3, 4]), ([], []), ([6], [6]), ([], []), ([7, 8, 5], [7, 8]), ([1, 5, 9], [1, 5, 9]), ([10, 9], [10]), ([11], [11]), ([11], [11]), ([12, 11, 0, 1, 2, 3, 4, 5, 6, 7, 8, 9, 10, 11, 12, 13], [12]), ([13, 14, 0, 1, 2, 3, 4, 5, 6, 7, 8, 9, 10, 11, 12, 13, 14], [13])])
def prod_Copy.B5 : List Nat := [0, 1, 0, 4, 0, 28, 0, 64, 0, 508, 1023, 2047, 4095, 4095, 16383, 32767]
theorem prod_Copy.tab5 : rtab .any (opsOf Try.f25 5) = prod_Copy.T5 := by kernel_rfl
theorem prod_Copy.bits5 : waitsOk prod_Copy.T5.2 prod_Copy.B5 = true := by kernel_rfl
theorem prod_Copy.calls (k : Nat) (a0_0 : Int) (A0_1 : Option Addr) (c0_1 : Nat) (l0_1 : List (S66)) (A0_2 : Option Addr) (c0_2 : Nat) (l0_2 : List (S64)) (a1 : Int) (r1 : Int) (r2 : List (S66)) (r3 : List (S64)) (r4 : Int) (w : World) (hr0_1 : Kd.C k66 w A0_1 l0_1.length l0_1) (hc0_1 : l0_1.length ≤ c0_1) (hr0_2 : Kd.C k64 w A0_2 l0_2.length l0_2) (hc0_2 : l0_2.length ≤ c0_2) (h : prod_Copy.f k a0_0 l0_1 l0_2 a1 = some (r1, r2, r3, r4)) :
  Calls Try.prog 25 #[.agg #[.int .i64 a0_0, .slice A0_1 l0_1.length c0_1, .slice A0_2 l0_2.length c0_2], .int .i64 a1] w fun e w' => ∃ v1_ v2_ : Value, e = .returned (.tuple #[.agg #[.int .i64 r1, v1_, v2_], .int .i64 r4]) ∧ Kd.R k66 66 w' w.heap.size (fun k_ => (w.heap.size ≤ k_)) v1_ r2 ∧ Kd.V k64 64 w' w.heap.size (fun k_ => (w.heap.size ≤ k_) ∧ some k_ ≠ (v1_ : Value).ownBlock) v2_ r3 ∧ Below w.heap.size w w' := by
 have hu25 := Try.underlying25
 have HR0_1 := Aside0.mk hr0_1
 have HC0_1 := Aside0.mk hc0_1
 clear hr0_1 hc0_1
 have HR0_2 := Aside0.mk hr0_2
 have HC0_2 := Aside0.mk hc0_2
 clear hr0_2 hc0_2
 have HB := Aside0.mk (Below.refl w.heap.size w)
 have H : ((prog_Check.f k a0_0 l0_1 l0_2).bind fun t185 => (if t185 = 0 then (if a1 < 0 then (prod_Copy.j0 k a1 true a0_0 l0_1 l0_2) else (if a1 ≥ 3 then (prod_Copy.j0 k a1 true a0_0 l0_1 l0_2) else ((prod_single.f k a0_0 l0_1 l0_2).bind fun t186 => (prod_Copy.j0 k a1 (t186 != 0) a0_0 l0_1 l0_2)))) else (some (0, ([] : List (S66)), ([] : List (S64)), 30)))) = some (r1, r2, r3, r4) := h
 clear h
 obtain ⟨t185, A3, H⟩ := be H
 by_cases c4 : t185 = 0
 rotate_left
 ·rw [if_neg c4] at H
  have c4b0 : (t185 == 0) = false := beq_eq_false_iff_ne.mpr c4
  have c4b1 : (t185 != 0) = true := bne_iff_ne.mpr c4
  simp only [Option.some.injEq, Prod.mk.injEq] at H
  obtain ⟨rfl, rfl, rfl, rfl⟩ := H
  go_enter Try.func25, Try.ntmps25
  go_wp2_with (first | ((with_reducible refine gate_dst (N := 2) rfl ?_); refine bx 2 rfl rfl #[.int .i64 a0_0, .slice A0_1 l0_1.length c0_1, .slice A0_2 l0_2.length c0_2] 25 ?_; intro gb183 hg w34 hbox hb; have BK183 := Aside0.mk (hbox); have GE183 := ge HB hg; replace HB := sb HB hb; clear hb hbox hg) | ((with_reducible refine gate_dst (N := 4) rfl ?_); refine bx 4 rfl rfl #[.int .i64 0, .slice none 0 0, .slice none 0 0] 25 ?_; intro gb184 hg w35 hbox hb; have BK184 := Aside0.mk (hbox); have GE184 := ge HB hg; have NB183_184 := Aside0.mk ((by rw [hg]; exact Nat.ne_of_lt (blk_lt (kk BK183)) : gb183 ≠ gb184)); have NB184_183 := Aside0.mk ((by rw [hg]; exact Nat.ne_of_gt (blk_lt (kk BK183)) : gb184 ≠ gb183)); replace BK183 := kb BK183 hb; replace HB := sb HB hb; clear hb hbox hg; have hnb36 := NB183_184.out; have hnc36 := NB184_183.out; obtain ⟨hcz37_0, hcz37_1, hcz37_2, hfz37_0, hfz37_1, hfz37_2⟩ := cf3 BK183.out) | ((with_reducible refine gate_callee (f := 43) rfl ?_); refine gL (some 7) rfl rfl Try.func43 #[.agg #[.int .i64 a0_0, .slice A0_1 l0_1.length c0_1, .slice A0_2 l0_2.length c0_2]] rfl ?_; (with_reducible refine (prog_Check.calls k a0_0 _ _ l0_1 _ _ l0_2 t185 _ ?side1 ?side2 ?side3 ?side4 A3.out).mono ?_); (case side1 => exact cb HR0_1 HB); (case side2 => exact HC0_1.out); (case side3 => exact cb HR0_2 HB); (case side4 => exact HC0_2.out); rintro e w38 ⟨rfl, hb⟩; refine ⟨_, rfl, ?_⟩; replace BK183 := kb BK183 hb; replace BK184 := kb BK184 hb; replace HB := sb HB hb; (try clear hb); obtain ⟨hcz39_0, hcz39_1, hcz39_2, hfz39_0, hfz39_1, hfz39_2⟩ := cf3 BK184.out))
  refine bodyPost_ret (results_ct rfl _ _ gb184 25 #[.int .i64 0, .slice none 0 0, .slice none 0 0] (0, 0) _ rfl (by (with_reducible repeat (first | refine kdN ?_ _ | refine kdr ?_ | refine kal ?_ _)); refine blk_put (cs := #[.int .i64 0, .slice none 0 0, .slice none 0 0]) ?_ 2 _ rfl; (with_reducible repeat (first | refine kdN ?_ _ | refine kdr ?_ | refine kal ?_ _)); refine blk_put (cs := #[.int .i64 0, .slice none 0 0, .slice none 0 0]) ?_ 1 _ rfl; (with_reducible repeat (first | refine kdN ?_ _ | refine kdr ?_ | refine kal ?_ _)); refine blk_put (cs := #[.int .i64 0, .slice none 0 0, .slice none 0 0]) ?_ 0 _ rfl; (with_reducible repeat (first | refine kdN ?_ _ | refine kdr ?_ | refine kal ?_ _)); exact BK184.out) Try.underlying25 rfl (by kernel_rfl)) rfl ?_
  exact ⟨_, _, rr, by first | exact Kd.R_nil _ _ _ _ _ | exact Kd.N_nil _ _ _ _ _ | exact Kd.V_nil _ _ _ _ _ | exact Kd.Q_nil _ _ _ _ _ | exact Kd.S_nil _ _ _ _ _, Kd.R_V (by first | exact Kd.R_nil _ _ _ _ _ | exact Kd.N_nil _ _ _ _ _ | exact Kd.V_nil _ _ _ _ _ | exact Kd.Q_nil _ _ _ _ _ | exact Kd.S_nil _ _ _ _ _ | exact Kd.N_nil _ _ _ 0 _ | exact Kd.R_nil _ _ _ 0 _), bb HB⟩
 rw [if_pos c4] at H
 have c4b0 : (t185 == 0) = true := beq_iff_eq.mpr c4
 have c4b1 : (t185 != 0) = false := bne_eq_false_iff_eq.mpr c4
 clear c4
 have HC5 := Aside0.mk H
 clear H
 go_enter Try.func25, Try.ntmps25
 go_upto_region 3 with (first | ((with_reducible refine gate_dst (N := 2) rfl ?_); refine bx 2 rfl rfl #[.int .i64 a0_0, .slice A0_1 l0_1.length c0_1, .slice A0_2 l0_2.length c0_2] 25 ?_; intro gb183 hg w6 hbox hb; have BK183 := Aside0.mk (hbox); have GE183 := ge HB hg; replace HB := sb HB hb; clear hb hbox hg) | ((with_reducible refine gate_dst (N := 4) rfl ?_); refine bx 4 rfl rfl #[.int .i64 0, .slice none 0 0, .slice none 0 0] 25 ?_; intro gb184 hg w7 hbox hb; have BK184 := Aside0.mk (hbox); have GE184 := ge HB hg; have NB183_184 := Aside0.mk ((by rw [hg]; exact Nat.ne_of_lt (blk_lt (kk BK183)) : gb183 ≠ gb184)); have NB184_183 := Aside0.mk ((by rw [hg]; exact Nat.ne_of_gt (blk_lt (kk BK183)) : gb184 ≠ gb183)); replace BK183 := kb BK183 hb; replace HB := sb HB hb; clear hb hbox hg; have hnb8 := NB183_184.out; have hnc8 := NB184_183.out; obtain ⟨hcz9_0, hcz9_1, hcz9_2, hfz9_0, hfz9_1, hfz9_2⟩ := cf3 BK183.out) | ((with_reducible refine gate_callee (f := 43) rfl ?_); refine gL (some 7) rfl rfl Try.func43 #[.agg #[.int .i64 a0_0, .slice A0_1 l0_1.length c0_1, .slice A0_2 l0_2.length c0_2]] rfl ?_; (with_reducible refine (prog_Check.calls k a0_0 _ _ l0_1 _ _ l0_2 t185 _ ?side1 ?side2 ?side3 ?side4 A3.out).mono ?_); (case side1 => exact cb HR0_1 HB); (case side2 => exact HC0_1.out); (case side3 => exact cb HR0_2 HB); (case side4 => exact HC0_2.out); rintro e w10 ⟨rfl, hb⟩; refine ⟨_, rfl, ?_⟩; replace BK183 := kb BK183 hb; replace BK184 := kb BK184 hb; replace HB := sb HB hb; (try clear hb)))
 (try simp only [Act.put, List.setIfInBounds_toArray, List.set_cons_zero, List.set_cons_succ])
 go_cut [20] (fun v20 wc => ∃ (kq : Nat) (x20_4 : Bool), v20 = .bool x20_4 ∧ Aside0 (prod_Copy.j0 kq a1 x20_4 a0_0 l0_1 l0_2 = some (r1, r2, r3, r4)) ∧ Aside0 (kq ≤ k) ∧ Aside0 (wc.heap[gb183]? = some (.cells #[.int .i64 a0_0, (.slice A0_1 l0_1.length c0_1), (.slice A0_2 l0_2.length c0_2)] 25 (0, 0))) ∧ Aside0 (wc.heap[gb184]? = some (.cells #[.int .i64 0, (.slice none 0 0), (.slice none 0 0)] 25 (0, 0))) ∧ Aside0 (Below w.heap.size w wc))
 case first =>
  have H := HC5.out
  clear HC5
  by_cases c11 : a1 < 0
  ·rw [if_pos c11] at H
   have c11b0 : decide (a1 < 0) = true := decide_eq_true c11
   clear c11
   (first | rw [c11b0] | (simp only [i64_w, i32_w]; rw [c11b0]) | skip)
   have H' := Aside0.mk H
   clear H
   go_wp2
   go_meet
   case rel => exact ⟨_, (true), rs, H', ⟨by first | omega | exact Nat.le_refl _⟩, ⟨kk BK183⟩, ⟨kk BK184⟩, ⟨bb HB⟩⟩
  rw [if_neg c11] at H
  have c11b0 : decide (a1 < 0) = false := decide_eq_false c11
  clear c11
  (first | rw [c11b0] | (simp only [i64_w, i32_w]; rw [c11b0]) | skip)
  by_cases c12 : a1 ≥ 3
  ·rw [if_pos c12] at H
   have c12b0 : decide (3 ≤ a1) = true := decide_eq_true c12
   clear c12
   have H' := Aside0.mk H
   clear H
   go_wp2
   go_meet
   case rel => exact ⟨_, (true), rs, H', ⟨by first | omega | exact Nat.le_refl _⟩, ⟨kk BK183⟩, ⟨kk BK184⟩, ⟨bb HB⟩⟩
  rw [if_neg c12] at H
  have c12b0 : decide (3 ≤ a1) = false := decide_eq_false c12
  clear c12
  obtain ⟨t186, A13, H⟩ := be H
  have H' := Aside0.mk H
  clear H
  have hnb14 := NB183_184.out
  have hnc14 := NB184_183.out
  obtain ⟨hcz15_0, hcz15_1, hcz15_2, hfz15_0, hfz15_1, hfz15_2⟩ := cf3 BK183.out
  go_wp2_with (first | (go_at_call 44; (with_reducible refine (prod_single.calls k a0_0 _ _ l0_1 _ _ l0_2 t186 _ ?side1 ?side2 ?side3 ?side4 A13.out).mono ?_); (case side1 => exact cb HR0_1 HB); (case side2 => exact HC0_1.out); (case side3 => exact cb HR0_2 HB); (case side4 => exact HC0_2.out); rintro e w16 ⟨rfl, hb⟩; replace BK183 := kb BK183 hb; replace BK184 := kb BK184 hb; replace HB := sb HB hb; (try clear hb)))
  go_meet
  case rel => exact ⟨_, ((t186 != 0)), rs, H', ⟨by first | omega | exact Nat.le_refl _⟩, ⟨kk BK183⟩, ⟨kk BK184⟩, ⟨bb HB⟩⟩
 case rest =>
  clear HC5
  try clear c1
  try clear c2
  try clear p2
  try clear c4
  try clear c4b0
  try clear c4b1
  try clear c8
  try clear c11
  try clear c11b0
  try clear c12
  try clear c12b0
  try clear c14
  try clear hcz15_0 hcz15_1 hcz15_2
  try clear hcz9_0 hcz9_1 hcz9_2
  try clear hfz15_0 hfz15_1 hfz15_2
  try clear hfz9_0 hfz9_1 hfz9_2
  obtain ⟨kq, x20_4, rfl, HA, HJ4, BK183, BK184, HB⟩ := hcut
  cases kq with
  | zero => exact absurd HA.out (by simp [prod_Copy.j0])
  | succ kj4 =>
   have H := HA.out
   clear HA
   simp only [prod_Copy.j0] at H
   by_cases c17 : x20_4 = true
   ·subst c17
    replace H := it H
    simp only [Option.some.injEq, Prod.mk.injEq] at H
    obtain ⟨rfl, rfl, rfl, rfl⟩ := H
    have hnb18 := NB184_183.out
    have hnc18 := NB183_184.out
    obtain ⟨hcz19_0, hcz19_1, hcz19_2, hfz19_0, hfz19_1, hfz19_2⟩ := cf3 BK184.out
    go_wp2
    refine bodyPost_ret (results_ct rfl _ _ gb184 25 #[.int .i64 0, .slice none 0 0, .slice none 0 0] (0, 0) _ rfl (by (with_reducible repeat (first | refine kdN ?_ _ | refine kdr ?_ | refine kal ?_ _)); refine blk_put (cs := #[.int .i64 0, .slice none 0 0, .slice none 0 0]) ?_ 2 _ rfl; (with_reducible repeat (first | refine kdN ?_ _ | refine kdr ?_ | refine kal ?_ _)); refine blk_put (cs := #[.int .i64 0, .slice none 0 0, .slice none 0 0]) ?_ 1 _ rfl; (with_reducible repeat (first | refine kdN ?_ _ | refine kdr ?_ | refine kal ?_ _)); refine blk_put (cs := #[.int .i64 0, .slice none 0 0, .slice none 0 0]) ?_ 0 _ rfl; (with_reducible repeat (first | refine kdN ?_ _ | refine kdr ?_ | refine kal ?_ _)); exact BK184.out) Try.underlying25 rfl (by kernel_rfl)) rfl ?_
    exact ⟨_, _, rr, by first | exact Kd.R_nil _ _ _ _ _ | exact Kd.N_nil _ _ _ _ _ | exact Kd.V_nil _ _ _ _ _ | exact Kd.Q_nil _ _ _ _ _ | exact Kd.S_nil _ _ _ _ _, Kd.R_V (by first | exact Kd.R_nil _ _ _ _ _ | exact Kd.N_nil _ _ _ _ _ | exact Kd.V_nil _ _ _ _ _ | exact Kd.Q_nil _ _ _ _ _ | exact Kd.S_nil _ _ _ _ _ | exact Kd.N_nil _ _ _ 0 _ | exact Kd.R_nil _ _ _ 0 _), bb HB⟩
   replace c17 := Bool.eq_false_iff.mpr c17
   subst c17
   replace H := fi H
   obtain ⟨t187, A20, H⟩ := be H
   obtain ⟨t190, A21, H⟩ := be H
   replace H := Option.bind_eq_some_iff.mp H
   obtain ⟨⟨t193, t194, t197, t200⟩, A220, H⟩ := H
   replace H : (some (t193, t194, t197, t200)) = some (r1, r2, r3, r4) := H
   have A22 := Aside0.mk A220
   clear A220
   simp only [Option.some.injEq, Prod.mk.injEq] at H
   obtain ⟨rfl, rfl, rfl, rfl⟩ := H
   try go_wp2
   replace BK183 := Aside0.mk (kdr BK183.out)
   replace BK184 := Aside0.mk (kdr BK184.out)
   replace HB := Aside0.mk (bd1 HB.out)
   refine start_ (n := 16) (S := fun w' => w'.cell? ⟨gb183, 0, none⟩ = some (.int .i64 a0_0) ∧ w'.cell? ⟨gb183, 1, none⟩ = some (.slice A0_1 l0_1.length c0_1) ∧ w'.cell? ⟨gb183, 2, none⟩ = some (.slice A0_2 l0_2.length c0_2)) (ds := []) #[false, false, false, false, false, false, false, false, false, false, false, false, false, false, false, false] (by kernel_rfl) rfl rfl ⟨(blk_cell BK183.out 0).trans rfl, (blk_cell BK183.out 1).trans rfl, (blk_cell BK183.out 2).trans rfl⟩ (fun hHeld => ?_); refine with_tabW prod_Copy.tab5 prod_Copy.bits5 (fun HT_ HW_ => ?_)
   generalize wc.drew = w23 at BK183 BK184 HB hHeld ⊢
   refine pT 0 22 (bl 16 1) HT_ rfl rfl ?_
   refine pT 2 24 (bl 16 5) HT_ rfl rfl ?_
   refine pT 4 26 (bl 16 21) HT_ rfl rfl ?_
   refine pT 6 28 (bl 16 85) HT_ rfl rfl ?_
   refine pT 8 30 (bl 16 341) HT_ rfl rfl ?_
   refine tk (i := 1) (N := some 23) (bl 16 343) rfl rfl (take_ofW HT_.out HW_.out (by kernel_rfl)) hHeld ?_
   refine tk (i := 3) (N := some 25) (bl 16 351) rfl rfl (take_ofW HT_.out HW_.out (by kernel_rfl)) hHeld ?_
   refine tk (i := 7) (N := some 29) (bl 16 479) rfl rfl (take_ofW HT_.out HW_.out (by kernel_rfl)) hHeld ?_
   refine one_ (i := 5) (N := some 27) (bl 16 511) rfl rfl (one_of HT_.out (by kernel_rfl)) (by decide) (fun K hK => ?_)
   refine gO Try.func45 #[.slice A0_1 l0_1.length c0_1, .int .i64 a1] (by rfl) rfl rfl ?_
   with_reducible refine (prod_variables.calls kj4 _ _ l0_1 a1 t187 _ ?side1 ?side2 A20.out).mono ?_
   (case side1 => exact cb HR0_1 HB)
   (case side2 => exact HC0_1.out)
   rintro e w24 ⟨v188, rfl, ho0, hb⟩
   refine ⟨_, rfl, ?_⟩
   have HO189 := Aside0.mk (Kd.R_lower (Kd.R_newM (M := fun k_ => (w.heap.size ≤ k_)) ho0 (bsz (bb HB)) (fun k_ h_ => h_)) (bsz (bb HB)))
   replace BK183 := kb BK183 hb
   replace BK184 := kb BK184 hb
   replace HB := sb HB hb
   (try clear hb)
   (try clear hb2)
   (try clear hk)
   (try clear hi)
   (try clear ho0)
   refine hK.out _ _ ⟨(blk_cell BK183.out 0).trans rfl, (blk_cell BK183.out 1).trans rfl, (blk_cell BK183.out 2).trans rfl⟩ (fun hHeld => ?_)
   clear hK K
   refine nm 27 ?_
   refine one_ (i := 9) (N := some 31) (bl 16 1023) rfl rfl (one_of HT_.out (by kernel_rfl)) (by decide) (fun K hK => ?_)
   refine gO Try.func64 #[.slice A0_2 l0_2.length c0_2, .int .i64 a1, .int .i64 0] (by rfl) rfl rfl ?_
   with_reducible refine (prod_Moved.calls kj4 _ _ l0_2 a1 0 t190 _ ?side1 ?side2 A21.out).mono ?_
   (case side1 => exact cb HR0_2 HB)
   (case side2 => exact HC0_2.out)
   rintro e w25 ⟨v191, rfl, ho0, hb⟩
   refine ⟨_, rfl, ?_⟩
   have HO192 := Aside0.mk (Kd.R_lower (Kd.R_newM (M := fun k_ => (w.heap.size ≤ k_)) ho0 (bsz (bb HB)) (fun k_ h_ => h_)) (bsz (bb HB)))
   replace HO189 := Aside0.mk (Kd.R_below (iR HO189) hb)
   replace BK183 := kb BK183 hb
   replace BK184 := kb BK184 hb
   replace HB := sb HB hb
   (try clear hb)
   (try clear hb2)
   (try clear hk)
   (try clear hi)
   (try clear ho0)
   obtain ⟨Ao26, co26, eo26⟩ := Kd.R_slice HO192.out
   (first | subst eo26 | (injection eo26 with f1_ f2_ f3_; have f4_ := f1_.symm; have f5_ := f3_.symm; clear f1_ f2_ f3_; subst f4_; subst f5_))
   obtain ⟨Ao27, co27, eo27⟩ := Kd.R_slice HO189.out
   (first | subst eo27 | (injection eo27 with f1_ f2_ f3_; have f4_ := f1_.symm; have f5_ := f3_.symm; clear f1_ f2_ f3_; subst f4_; subst f5_))
   refine hK.out _ _ ⟨(blk_cell BK183.out 0).trans rfl, (blk_cell BK183.out 1).trans rfl, (blk_cell BK183.out 2).trans rfl⟩ (fun hHeld => ?_)
   clear hK K
   refine nm 31 ?_
   refine pT 10 32 (bl 16 2047) HT_ rfl rfl ?_
   refine one_ (i := 11) (N := some 33) (bl 16 4095) rfl rfl (one_of HT_.out (by kernel_rfl)) (by decide) (fun K hK => ?_)
   refine gO Try.func63 #[.agg #[.int .i64 a0_0, .slice Ao27 t187.length co27, .slice Ao26 t190.length co26]] (by rfl) rfl rfl ?_
   with_reducible refine (prod_made.calls kj4 a0_0 (fun k_ => some k_ = (.slice Ao27 t187.length co27 : Value).ownBlock) (.slice Ao27 t187.length co27) t187 (fun k_ => (((((w.heap.size ≤ k_) ∧ True) ∧ some k_ ≠ (.slice Ao27 t187.length co27 : Value).ownBlock) ∧ k_ ≠ gb183) ∧ k_ ≠ gb184)) _ _ t190 t193 t194 t197 t200 w _ ?side1 ?side2 ?side3 A22.out).mono ?_
   (case side1 => repeat (first | (with_reducible first | exact HB.out | apply bal | apply bdN | apply bd1 | refine bst ?_ GE183.out | refine bst ?_ GE184.out) | exact HB.out))
   (case side2 => exact Kd.R_tight rfl HO189.out)
   (case side3 => exact Kd.V_mono (Kd.R_V (Kd.R_types (Kd.R_types (Kd.R_apart' (HO192.out) (Kd.R_typed HO189.out) (by decide)) BK183.out (by decide)) BK184.out (by decide))) (fun k_ hk_ => ⟨hk_, hk_.1.1.2⟩))
   rintro e w28 ⟨v195, v198, rfl, ho0, ho1, hb, hkp⟩
   refine ⟨_, rfl, ?_⟩
   have HO196 := Aside0.mk (Kd.R_mono (ok' := fun k_ => (w.heap.size ≤ k_)) ho0 (fun k_ hk_ => Or.elim hk_ (fun hs_ => (HO189.out.1 k_ (hs_).symm).1) (fun hn_ => (Nat.le_trans (bsz (bb HB)) hn_))))
   have HO199 := Aside0.mk (Kd.V_mono (ok' := fun k_ => (w.heap.size ≤ k_) ∧ some k_ ≠ (v195 : Value).ownBlock ∧ k_ ≠ gb183 ∧ k_ ≠ gb184) ho1 (fun k_ hk_ => ⟨Or.elim hk_.1 (fun hs_ => Or.elim hs_ (fun hs_ => (HO189.out.1 k_ (hs_).symm).1) (fun hs_ => hs_.1.1.1.1)) (fun hn_ => (Nat.le_trans (bsz (bb HB)) hn_)), hk_.2, Or.elim hk_.1 (fun hs_ => Or.elim hs_ (fun hs_ => fun e_ => (Kd.R_ne HO189.out BK183.out (by decide)) (by rw [← e_]; exact hs_)) (fun hs_ => hs_.1.2)) (fun hn_ => (Kd.freshB (kk BK183) k_ hn_)), Or.elim hk_.1 (fun hs_ => Or.elim hs_ (fun hs_ => fun e_ => (Kd.R_ne HO189.out BK184.out (by decide)) (by rw [← e_]; exact hs_)) (fun hs_ => hs_.2)) (fun hn_ => (Kd.freshB (kk BK184) k_ hn_))⟩))
   replace BK183 := Aside0.mk (blk_kept (kk BK183) hkp (fun hs_ => (fun e_ => (Kd.R_ne HO189.out BK183.out (by decide)) e_) hs_))
   replace BK184 := Aside0.mk (blk_kept (kk BK184) hkp (fun hs_ => (fun e_ => (Kd.R_ne HO189.out BK184.out (by decide)) e_) hs_))
   replace HO192 := Aside0.mk (Kd.R_mono (ok' := fun k_ => (w.heap.size ≤ k_)) (Kd.R_keptB ((Kd.R_apart' HO192.out (Kd.R_typed HO189.out) (by decide))) hkp (fun k_ hk_ hs_ => (hk_.2) hs_)) (fun k_ hk_ => hk_.1.1.1))
   replace HB := Aside0.mk (hb)
   clear HO189
   (try clear hb)
   (try clear hkp)
   (try clear ho0)
   (try clear ho1)
   obtain ⟨Ao30, co30, eo30⟩ := Kd.R_slice HO196.out
   (first | subst eo30 | (injection eo30 with f1_ f2_ f3_; have f4_ := f1_.symm; have f5_ := f3_.symm; clear f1_ f2_ f3_; subst f4_; subst f5_))
   obtain ⟨Ao32, co32, eo32⟩ := Kd.V_slice HO199.out
   (first | subst eo32 | (injection eo32 with f1_ f2_ f3_; have f4_ := f1_.symm; have f5_ := f3_.symm; clear f1_ f2_ f3_; subst f4_; subst f5_))
   refine hK.out _ _ ⟨(blk_cell BK183.out 0).trans rfl, (blk_cell BK183.out 1).trans rfl, (blk_cell BK183.out 2).trans rfl⟩ (fun hHeld => ?_)
   clear hK K
   refine nm 33 ?_
   refine pT 12 34 (bl 16 8191) HT_ rfl rfl ?_
   refine pT 13 35 (bl 16 16383) HT_ rfl rfl ?_
   refine one_ (i := 14) (N := none) (bl 16 32767) rfl rfl (one_of HT_.out (by kernel_rfl)) (by decide) (fun K hK => ?_)
   have hs29 : w28.cell? ⟨gb184, 0, none⟩ = some (.int .i64 0) := (blk_cell BK184.out 0).trans rfl
   have hfs29 := blk_frozen BK184.out 0
   have hns29_0 := NB183_184.out
   have hms29_0 := NB184_183.out
   have hs31 : w28.cell? ⟨gb184, 1, none⟩ = some (.slice none 0 0) := (blk_cell BK184.out 1).trans rfl
   have hfs31 := blk_frozen BK184.out 1
   have hns31_0 := NB183_184.out
   have hms31_0 := NB184_183.out
   have hs33 : w28.cell? ⟨gb184, 2, none⟩ = some (.slice none 0 0) := (blk_cell BK184.out 2).trans rfl
   have hfs33 := blk_frozen BK184.out 2
   have hns33_0 := NB183_184.out
   have hms33_0 := NB184_183.out
   refine skip_ (w1 := ?_) (by rfl) rfl ?_ ?_
   rotate_left
   ·go_simp
    rfl
   refine hK.out _ _ ⟨((cell_far (p := ⟨gb184, _, none⟩) NB183_184.out _).trans (((cell_far (p := ⟨gb184, _, none⟩) NB183_184.out _).trans (((cell_far (p := ⟨gb184, _, none⟩) NB183_184.out _).trans (hHeld.1)))))), ((cell_far (p := ⟨gb184, _, none⟩) NB183_184.out _).trans (((cell_far (p := ⟨gb184, _, none⟩) NB183_184.out _).trans (((cell_far (p := ⟨gb184, _, none⟩) NB183_184.out _).trans (hHeld.2.1)))))), ((cell_far (p := ⟨gb184, _, none⟩) NB183_184.out _).trans (((cell_far (p := ⟨gb184, _, none⟩) NB183_184.out _).trans (((cell_far (p := ⟨gb184, _, none⟩) NB183_184.out _).trans (hHeld.2.2))))))⟩ (fun hHeld => ?_)
   clear hK K
   refine pT 15 5 (bl 16 65535) HT_ rfl rfl ?_
   refine done_ (done_of HT_.out (by kernel_rfl)) ?_
   try go_wp2
   refine bodyPost_ret (results_ct rfl _ _ gb184 25 #[.int .i64 t193, .slice Ao30 t194.length co30, .slice Ao32 t197.length co32] (0, 0) _ rfl (by (with_reducible repeat (first | refine kdN ?_ _ | refine kdr ?_ | refine kal ?_ _)); refine blk_put (cs := #[.int .i64 t193, .slice Ao30 t194.length co30, .slice none 0 0]) ?_ 2 _ rfl; (with_reducible repeat (first | refine kdN ?_ _ | refine kdr ?_ | refine kal ?_ _)); refine blk_put (cs := #[.int .i64 t193, .slice none 0 0, .slice none 0 0]) ?_ 1 _ rfl; (with_reducible repeat (first | refine kdN ?_ _ | refine kdr ?_ | refine kal ?_ _)); refine blk_put (cs := #[.int .i64 0, .slice none 0 0, .slice none 0 0]) ?_ 0 _ rfl; (with_reducible repeat (first | refine kdN ?_ _ | refine kdr ?_ | refine kal ?_ _)); exact BK184.out) Try.underlying25 rfl (by kernel_rfl)) rfl ?_
   exact ⟨_, _, rr, by (with_reducible repeat (first | apply Kd.R_alloc | apply Kd.R_drewN | apply Kd.R_drew)); exact Kd.R_mono (Kd.R_far (p := ⟨gb184, 2, none⟩) (Kd.R_far (p := ⟨gb184, 1, none⟩) (Kd.R_far (p := ⟨gb184, 0, none⟩) (Kd.R_types HO196.out BK184.out (by decide)) (fun _ hk => hk.2) (.int .i64 t193)) (fun _ hk => hk.2) (.slice Ao30 t194.length co30)) (fun _ hk => hk.2) (.slice Ao32 t197.length co32)) (fun _ hk => hk.1), by (with_reducible repeat (first | apply Kd.V_alloc | apply Kd.V_drewN | apply Kd.V_drew)); exact Kd.V_mono (Kd.V_far (p := ⟨gb184, 2, none⟩) (Kd.V_far (p := ⟨gb184, 1, none⟩) (Kd.V_far (p := ⟨gb184, 0, none⟩) (Kd.V_mono HO199.out (fun k_ hk => (⟨hk, hk.2.2.2⟩ : _ ∧ k_ ≠ gb184))) (fun _ hk => hk.2) (.int .i64 t193)) (fun _ hk => hk.2) (.slice Ao30 t194.length co30)) (fun _ hk => hk.2) (.slice Ao32 t197.length co32)) (fun _ hk => ⟨hk.1.1, hk.1.2.1⟩), bb HB⟩
mutual
def prod_Told.j0 : Nat → List (S74) → Int → Bool → Option ((List (S74)))
 | 0, _, _, _ => none
 | k + 1, x0, x1, x13 => if x13 = true then (some ([] : List (S74))) else (prod_Told.l0 k x1 ([] : List (S74)) x0 (x0.length : Int) 0)
def prod_Told.l0 : Nat → Int → List (S74) → List (S74) → Int → Int → Option ((List (S74)))
 | 0, _, _, _, _, _ => none
 | k + 1, x1, x5, x14, x15, x16 => if x16 < x15 then (if 0 ≤ x16 then (if x16 < (x14.length : Int) then (if ((rd_T74 x14 x16).f0) ≥ (wrap64 (16 * x1)) then (if ((rd_T74 x14 x16).f0) ≤ (wrap64 ((wrap64 (16 * x1)) + 15)) then (if x5.length < 8796093022208 then (prod_Told.l0 k x1 (x5 ++ [(⟨wrap64 (((rd_T74 x14 x16).f0) - (wrap64 (16 * x1))), (rd_T74 x14 x16).f1⟩ : S74)]) x14 x15 (wrap64 (x16 + 1))) else (none)) else (prod_Told.l0 k x1 x5 x14 x15 (wrap64 (x16 + 1)))) else (prod_Told.l0 k x1 x5 x14 x15 (wrap64 (x16 + 1)))) else (none)) else (none)) else (some x5)
end
def prod_Told.f (k : Nat) (l0 : List (S74)) (a1 : Int) : Option ((List (S74))) := if a1 < 0 then (prod_Told.j0 k l0 a1 true) else (prod_Told.j0 k l0 a1 (decide (a1 ≥ 3)))
theorem prod_Told.calls (k : Nat) (A0 : Option Addr) (c0 : Nat) (l0 : List (S74)) (a1 : Int) (r : List (S74)) (w : World) (hr0 : Kd.C k74 w A0 l0.length l0) (hc0 : l0.length ≤ c0) (h : prod_Told.f k l0 a1 = some r) :
  Calls Try.prog 16 #[.slice A0 l0.length c0, .int .i64 a1] w fun e w' => ∃ v0_ : Value, e = .returned (v0_) ∧ Kd.R k74 74 w' w.heap.size (fun _ => True) v0_ r ∧ Below w.heap.size w w' := by
 have hu74 := Try.underlying74
 have HR0 := Aside0.mk hr0
 have HC0 := Aside0.mk hc0
 clear hr0 hc0
 have HB := Aside0.mk (Below.refl w.heap.size w)
 have H : (if a1 < 0 then (prod_Told.j0 k l0 a1 true) else (prod_Told.j0 k l0 a1 (decide (a1 ≥ 3)))) = some r := h
 clear h
 have HC3 := Aside0.mk H
 clear H
 go_enter Try.func16, Try.ntmps16
 go_upto_region 1 with (fail)
 go_cut [13] (fun v13 wc => ∃ (kq : Nat) (x13_2 : Bool), v13 = .bool x13_2 ∧ Aside0 (prod_Told.j0 kq l0 a1 x13_2 = some r) ∧ Aside0 (kq ≤ k) ∧ Aside0 (Below w.heap.size w wc))
 case first =>
  have H := HC3.out
  clear HC3
  by_cases c4 : a1 < 0
  ·rw [if_pos c4] at H
   have c4b0 : decide (a1 < 0) = true := decide_eq_true c4
   clear c4
   (first | rw [c4b0] | (simp only [i64_w, i32_w]; rw [c4b0]) | skip)
   have H' := Aside0.mk H
   clear H
   go_wp2
   go_meet
   case rel => exact ⟨_, (true), rs, H', ⟨by first | omega | exact Nat.le_refl _⟩, ⟨bb HB⟩⟩
  rw [if_neg c4] at H
  have c4b0 : decide (a1 < 0) = false := decide_eq_false c4
  clear c4
  (first | rw [c4b0] | (simp only [i64_w, i32_w]; rw [c4b0]) | skip)
  have H' := Aside0.mk H
  clear H
  go_wp2
  go_meet
  case rel => exact ⟨_, (decide (a1 ≥ 3)), rs, H', ⟨by first | omega | exact Nat.le_refl _⟩, ⟨bb HB⟩⟩
 case rest =>
  clear HC3
  try clear c1
  try clear p2
  try clear c4
  try clear c4b0
  obtain ⟨kq, x13_2, rfl, HA, HJ2, HB⟩ := hcut
  cases kq with
  | zero => exact absurd HA.out (by simp [prod_Told.j0])
  | succ kj2 =>
   have H := HA.out
   clear HA
   simp only [prod_Told.j0] at H
   by_cases c5 : x13_2 = true
   ·subst c5
    replace H := it H
    obtain rfl := Option.some.inj H
    go_wp2
    go_ret
    exact ⟨_, rr, by first | exact Kd.R_nil _ _ _ _ _ | exact Kd.N_nil _ _ _ _ _ | exact Kd.V_nil _ _ _ _ _ | exact Kd.Q_nil _ _ _ _ _ | exact Kd.S_nil _ _ _ _ _, bb HB⟩
   replace c5 := Bool.eq_false_iff.mpr c5
   subst c5
   replace H := fi H
   have H' := Aside0.mk H
   clear H
   go_wp2
   go_loopg [5, 16] kj2 (fun kq v5 v16 w' => ∃ (x5_2 : List (S74)) (x16_2 : Int), v16 = .int .i64 x16_2 ∧ Aside0 (prod_Told.l0 kq a1 x5_2 l0 (l0.length : Int) x16_2 = some r) ∧ Aside0 (kq ≤ kj2) ∧ Aside0 (Kd.R k74 74 w' w.heap.size (fun _ => True) v5 x5_2) ∧ Aside0 (Below w.heap.size w w'))
   case atStart => exact ⟨(([] : List (S74))), (0), rs, H', ⟨Nat.le_refl _⟩, ⟨by first | exact Kd.R_nil _ _ _ _ _ | exact Kd.N_nil _ _ _ _ _ | exact Kd.V_nil _ _ _ _ _ | exact Kd.Q_nil _ _ _ _ _ | exact Kd.S_nil _ _ _ _ _⟩, ⟨bb HB⟩⟩
   case round =>
    clear H'
    try clear c1
    try clear p2
    try clear c4
    try clear c4b0
    try clear c5
    try clear p2
    obtain ⟨x5_2, x16_2, rfl, HA, HK2, HO_5, HB⟩ := hrel
    cases gk with
    | zero => exact absurd HA.out (by simp [prod_Told.l0])
    | succ k2 =>
     have H := HA.out
     clear HA
     simp only [prod_Told.l0] at H
     by_cases c6 : x16_2 < (l0.length : Int)
     rotate_left
     ·rw [if_neg c6] at H
      have c6b0 : decide (x16_2 < (l0.length : Int)) = false := decide_eq_false c6
      clear c6
      obtain rfl := Option.some.inj H
      go_wp2
      go_ret
      exact ⟨_, rr, iR HO_5, bb HB⟩
     rw [if_pos c6] at H
     have c6b0 : decide (x16_2 < (l0.length : Int)) = true := decide_eq_true c6
     clear c6
     by_cases c7 : 0 ≤ x16_2
     rotate_left
     ·rw [if_neg c7] at H
      exact absurd H (by simp)
     rw [if_pos c7] at H
     have c7b0 : decide (0 ≤ x16_2) = true := decide_eq_true c7
     clear c7
     by_cases c8 : x16_2 < (l0.length : Int)
     rotate_left
     ·rw [if_neg c8] at H
      exact absurd H (by simp)
     rw [if_pos c8] at H
     have c8b0 : decide (x16_2 < (l0.length : Int)) = true := decide_eq_true c8
     clear c8
     by_cases c9 : ((rd_T74 l0 x16_2).f0) ≥ (wrap64 (16 * a1))
     rotate_left
     ·rw [if_neg c9] at H
      have c9b0 : decide ((wrap64 (16 * a1)) ≤ ((rd_T74 l0 x16_2).f0)) = false := decide_eq_false c9
      clear c9
      have H' := Aside0.mk H
      clear H
      have p160 : 0 ≤ (x16_2 : Int) := od
      have q160 : x16_2 < (l0.length : Int) := od
      obtain ⟨ad160, e160, hx160_0, hx160_1⟩ := at_T74 HR0.out x16_2 p160 q160
      cases e160
      replace hx160_0 := bcell HB.out hx160_0
      replace hx160_1 := bcell HB.out hx160_1
      replace p160 := eq_true p160
      replace q160 := eq_true q160
      go_wp2_with (first | ((with_reducible refine gate_dst (N := 7) rfl ?_); refine bx 7 rfl rfl #[.int .i64 0, .int .i64 0] 74 ?_; intro gb161 hg w17 hbox hb; have BK161 := Aside0.mk (hbox); have GE161 := ge HB hg; replace HO_5 := Aside0.mk (Kd.R_below (Kd.R_elderB (iR HO_5) gb161 (Nat.le_of_eq hg.symm)) hb); replace HB := sb HB hb; clear hb hbox hg; obtain ⟨hcz18_0, hcz18_1, hfz18_0, hfz18_1⟩ := cf2 BK161.out))
      go_roundg k2
      case measure => have := HJ2.out; have := HK2.out; omega
      case rel => exact ⟨(x5_2), (wrap64 (x16_2 + 1)), rs, H', ⟨by have := HJ2.out; have := HK2.out; omega⟩, ⟨by (with_reducible repeat (first | apply Kd.R_alloc | apply Kd.R_drewN | apply Kd.R_drew)); exact Kd.R_mono (Kd.R_far (p := ⟨gb161, 1, none⟩) (Kd.R_far (p := ⟨gb161, 0, none⟩) (Kd.R_mono HO_5.out (fun k_ hk => (⟨hk, hk.2⟩ : _ ∧ k_ ≠ gb161))) (fun _ hk => hk.2) (.int .i64 ((rd_T74 l0 x16_2).f0))) (fun _ hk => hk.2) (.int .i64 ((rd_T74 l0 x16_2).f1))) (fun _ hk => trivial)⟩, ⟨bb HB⟩⟩
     rw [if_pos c9] at H
     have c9b0 : decide ((wrap64 (16 * a1)) ≤ ((rd_T74 l0 x16_2).f0)) = true := decide_eq_true c9
     clear c9
     by_cases c10 : ((rd_T74 l0 x16_2).f0) ≤ (wrap64 ((wrap64 (16 * a1)) + 15))
     rotate_left
     ·rw [if_neg c10] at H
      have c10b0 : decide (((rd_T74 l0 x16_2).f0) ≤ (wrap64 ((wrap64 (16 * a1)) + 15))) = false := decide_eq_false c10
      clear c10
      have H' := Aside0.mk H
      clear H
      have p160 : 0 ≤ (x16_2 : Int) := od
      have q160 : x16_2 < (l0.length : Int) := od
      obtain ⟨ad160, e160, hx160_0, hx160_1⟩ := at_T74 HR0.out x16_2 p160 q160
      cases e160
      replace hx160_0 := bcell HB.out hx160_0
      replace hx160_1 := bcell HB.out hx160_1
      replace p160 := eq_true p160
      replace q160 := eq_true q160
      go_wp2_with (first | ((with_reducible refine gate_dst (N := 7) rfl ?_); refine bx 7 rfl rfl #[.int .i64 0, .int .i64 0] 74 ?_; intro gb161 hg w15 hbox hb; have BK161 := Aside0.mk (hbox); have GE161 := ge HB hg; replace HO_5 := Aside0.mk (Kd.R_below (Kd.R_elderB (iR HO_5) gb161 (Nat.le_of_eq hg.symm)) hb); replace HB := sb HB hb; clear hb hbox hg; obtain ⟨hcz16_0, hcz16_1, hfz16_0, hfz16_1⟩ := cf2 BK161.out))
      go_roundg k2
      case measure => have := HJ2.out; have := HK2.out; omega
      case rel => exact ⟨(x5_2), (wrap64 (x16_2 + 1)), rs, H', ⟨by have := HJ2.out; have := HK2.out; omega⟩, ⟨by (with_reducible repeat (first | apply Kd.R_alloc | apply Kd.R_drewN | apply Kd.R_drew)); exact Kd.R_mono (Kd.R_far (p := ⟨gb161, 1, none⟩) (Kd.R_far (p := ⟨gb161, 0, none⟩) (Kd.R_mono HO_5.out (fun k_ hk => (⟨hk, hk.2⟩ : _ ∧ k_ ≠ gb161))) (fun _ hk => hk.2) (.int .i64 ((rd_T74 l0 x16_2).f0))) (fun _ hk => hk.2) (.int .i64 ((rd_T74 l0 x16_2).f1))) (fun _ hk => trivial)⟩, ⟨bb HB⟩⟩
     rw [if_pos c10] at H
     have c10b0 : decide (((rd_T74 l0 x16_2).f0) ≤ (wrap64 ((wrap64 (16 * a1)) + 15))) = true := decide_eq_true c10
     clear c10
     by_cases c11 : x5_2.length < 8796093022208
     rotate_left
     ·rw [if_neg c11] at H
      exact absurd H (by simp)
     rw [if_pos c11] at H
     have LMc11 := Aside0.mk c11
     clear c11
     obtain ⟨y162, hy162⟩ : ∃ y_ : List (S74), y_ = (x5_2 ++ [(⟨wrap64 (((rd_T74 l0 x16_2).f0) - (wrap64 (16 * a1))), (rd_T74 l0 x16_2).f1⟩ : S74)]) := ⟨_, rfl⟩
     replace H : (prod_Told.l0 k2 a1 y162 l0 (l0.length : Int) (wrap64 (x16_2 + 1))) = some r := by first | (rw [hy162]; with_reducible exact H) | (have H2_ := (Option.bind_some _ _).symm.trans H; rw [hy162]; with_reducible exact H2_) | (have H2_ := (Option.bind_some _ _).symm.trans H; with_reducible exact H2_) | with_reducible exact H | (rw [hy162]; exact H) | exact H
     have Ny162 := Aside0.mk hy162
     clear hy162
     have H' := Aside0.mk H
     clear H
     have p160 : 0 ≤ (x16_2 : Int) := od
     have q160 : x16_2 < (l0.length : Int) := od
     obtain ⟨ad160, e160, hx160_0, hx160_1⟩ := at_T74 HR0.out x16_2 p160 q160
     cases e160
     replace hx160_0 := bcell HB.out hx160_0
     replace hx160_1 := bcell HB.out hx160_1
     replace p160 := eq_true p160
     replace q160 := eq_true q160
     go_wp2_with (first | ((with_reducible refine gate_dst (N := 7) rfl ?_); refine bx 7 rfl rfl #[.int .i64 0, .int .i64 0] 74 ?_; intro gb161 hg w12 hbox hb; have BK161 := Aside0.mk (hbox); have GE161 := ge HB hg; replace HO_5 := Aside0.mk (Kd.R_below (Kd.R_elderB (iR HO_5) gb161 (Nat.le_of_eq hg.symm)) hb); replace HB := sb HB hb; clear hb hbox hg; obtain ⟨hcz13_0, hcz13_1, hfz13_0, hfz13_1⟩ := cf2 BK161.out) | ((with_reducible refine gate_builtin (b := .append) (xs := #[.tmp 33, .tmp 42]) rfl ?_); at_builtin; refine Kd.R_append k74 (w0 := w) w.heap.size rfl (.tmp 33) (.tmp 42) 37 74 (.agg #[(.int .i64 0), (.int .i64 0)]) 16 rfl Try.underlying37 info74 rfl (by decide) (by omega) u5 x5_2 (⟨wrap64 (((rd_T74 l0 x16_2).f0) - (wrap64 (16 * a1))), (rd_T74 l0 x16_2).f1⟩ : S74) [.int .i64 (wrap64 (((rd_T74 l0 x16_2).f0) - (wrap64 (16 * a1)))), .int .i64 ((rd_T74 l0 x16_2).f1)] (fun k_ => k_ ≠ gb161) (fun _ => False) rfl (by first | (go_simp; done) | (go_simp; rfl)) ?aP (fun _ hk => hk.elim) ?aF ?aO ?aB ?aS ?aL ?_; (case aP => exact k74_mkM _ _ _ (⟨wrap64 (((rd_T74 l0 x16_2).f0) - (wrap64 (16 * a1))), (rd_T74 l0 x16_2).f1⟩ : S74)); (case aB => exact (bb HB)); (case aF => exact (fun k_ hk => Kd.freshB (g := gb161) (o := .cells #[.int .i64 ((rd_T74 l0 x16_2).f0), .int .i64 ((rd_T74 l0 x16_2).f1)] 74 (0, 0)) (by (with_reducible repeat (first | refine kdN ?_ _ | refine kdr ?_ | refine kal ?_ _)); refine blk_put (cs := #[.int .i64 ((rd_T74 l0 x16_2).f0), .int .i64 0]) ?_ 1 _ rfl; (with_reducible repeat (first | refine kdN ?_ _ | refine kdr ?_ | refine kal ?_ _)); refine blk_put (cs := #[.int .i64 0, .int .i64 0]) ?_ 0 _ rfl; (with_reducible repeat (first | refine kdN ?_ _ | refine kdr ?_ | refine kal ?_ _)); exact BK161.out) k_ hk)); (case aO => exact (by (with_reducible repeat (first | apply Kd.R_alloc | apply Kd.R_drewN | apply Kd.R_drew)); exact Kd.R_mono (Kd.R_far (p := ⟨gb161, 1, none⟩) (Kd.R_far (p := ⟨gb161, 0, none⟩) (Kd.R_mono HO_5.out (fun k_ hk => (⟨hk, hk.2⟩ : _ ∧ k_ ≠ gb161))) (fun _ hk => hk.2) (.int .i64 ((rd_T74 l0 x16_2).f0))) (fun _ hk => hk.2) (.int .i64 ((rd_T74 l0 x16_2).f1))) (fun _ hk => hk.1.2))); (case aS => exact (bsz (bb HB))); (case aL => have := LMc11.out; omega); intro v163 w14 ho hb hg hat; rw [← Ny162.out] at ho; have HO164 := Aside0.mk (ho); replace BK161 := Aside0.mk (blk_grown (g := gb161) (o := .cells #[.int .i64 ((rd_T74 l0 x16_2).f0), .int .i64 ((rd_T74 l0 x16_2).f1)] 74 (0, 0)) (by (with_reducible repeat (first | refine kdN ?_ _ | refine kdr ?_ | refine kal ?_ _)); refine blk_put (cs := #[.int .i64 ((rd_T74 l0 x16_2).f0), .int .i64 0]) ?_ 1 _ rfl; (with_reducible repeat (first | refine kdN ?_ _ | refine kdr ?_ | refine kal ?_ _)); refine blk_put (cs := #[.int .i64 0, .int .i64 0]) ?_ 0 _ rfl; (with_reducible repeat (first | refine kdN ?_ _ | refine kdr ?_ | refine kal ?_ _)); exact BK161.out) hg (Kd.R_away HO_5.out (fun _ hk => hk.2))); replace HB := Aside0.mk (hb); clear HO_5; clear ho hb hg hat))
     go_roundg k2
     case measure => have := HJ2.out; have := HK2.out; omega
     case rel => exact ⟨(y162), (wrap64 (x16_2 + 1)), rs, H', ⟨by have := HJ2.out; have := HK2.out; omega⟩, ⟨by (with_reducible repeat (first | apply Kd.R_alloc | apply Kd.R_drewN | apply Kd.R_drew)); exact Kd.R_mono HO164.out (fun _ hk => trivial)⟩, ⟨bb HB⟩⟩
def r2_Of.f (a0 : Int) (l1 : List (S28)) : Option (Int × Int × Int × (List (S28))) := some (a0, 0, 0, l1)
theorem r2_Of.calls (a0 : Int) (P1_ : Nat → Prop) (A1 : Option Addr) (c1 : Nat) (l1 : List (S28)) (r1 : Int) (r2 : Int) (r3 : Int) (r4 : List (S28)) (w : World) (hs1 : Kd.V k28 28 w w.heap.size (fun k_ => P1_ k_) (.slice A1 l1.length c1) l1) (h : r2_Of.f a0 l1 = some (r1, r2, r3, r4)) :
  Calls Try.prog 42 #[.int .i64 a0, .slice A1 l1.length c1] w fun e w' => ∃ v3_ : Value, e = .returned (.agg #[.int .i64 r1, .int .i64 r2, .int .i64 r3, v3_]) ∧ Kd.V k28 28 w' w.heap.size (fun k_ => (P1_ k_ ∨ w.heap.size ≤ k_)) v3_ r4 ∧ Below w.heap.size w w' := by
 have hu28 := Try.underlying28
 have HO1 := Aside0.mk (show Kd.V k28 28 w w.heap.size (fun k_ => (P1_ k_ ∨ w.heap.size ≤ k_)) (.slice A1 l1.length c1) l1 from Kd.V_mono hs1 (fun k_ hk => .inl hk))
 have HB := Aside0.mk (Below.refl w.heap.size w)
 have H : (some (a0, 0, 0, l1)) = some (r1, r2, r3, r4) := h
 clear h
 simp only [Option.some.injEq, Prod.mk.injEq] at H
 obtain ⟨rfl, rfl, rfl, rfl⟩ := H
 go_enter Try.func42, Try.ntmps42
 go_wp2_with (first | ((with_reducible refine gate_dst (N := 4) rfl ?_); refine bx 4 rfl rfl #[.int .i64 0, .int .i64 0, .int .i64 0, .slice none 0 0] 28 ?_; intro gb248 hg w3 hbox hb; have BK248 := Aside0.mk (hbox); have GE248 := ge HB hg; replace HO1 := Aside0.mk (Kd.V_below (Kd.V_elderB (iV HO1) gb248 (Nat.le_of_eq hg.symm)) hb); replace HB := sb HB hb; clear hb hbox hg; obtain ⟨hcz4_0, hcz4_1, hcz4_2, hcz4_3, hfz4_0, hfz4_1, hfz4_2, hfz4_3⟩ := cf4 BK248.out))
 refine bodyPost_ret (results_cell_row rfl _ _ gb248 28 #[.int .i64 a0, .int .i64 0, .int .i64 0, .slice A1 l1.length c1] (0, 0) _ rfl (by (with_reducible repeat (first | refine kdN ?_ _ | refine kdr ?_ | refine kal ?_ _)); refine blk_put (cs := #[.int .i64 a0, .int .i64 0, .int .i64 0, .slice none 0 0]) ?_ 3 _ rfl; (with_reducible repeat (first | refine kdN ?_ _ | refine kdr ?_ | refine kal ?_ _)); refine blk_put (cs := #[.int .i64 a0, .int .i64 0, .int .i64 0, .slice none 0 0]) ?_ 2 _ rfl; (with_reducible repeat (first | refine kdN ?_ _ | refine kdr ?_ | refine kal ?_ _)); refine blk_put (cs := #[.int .i64 a0, .int .i64 0, .int .i64 0, .slice none 0 0]) ?_ 1 _ rfl; (with_reducible repeat (first | refine kdN ?_ _ | refine kdr ?_ | refine kal ?_ _)); refine blk_put (cs := #[.int .i64 0, .int .i64 0, .int .i64 0, .slice none 0 0]) ?_ 0 _ rfl; (with_reducible repeat (first | refine kdN ?_ _ | refine kdr ?_ | refine kal ?_ _)); exact BK248.out) Try.underlying28 rfl (by kernel_rfl)) rfl ?_
 exact ⟨_, rr, by (with_reducible repeat (first | apply Kd.V_alloc | apply Kd.V_drewN | apply Kd.V_drew)); exact Kd.V_mono (Kd.V_far (p := ⟨gb248, 3, none⟩) (Kd.V_far (p := ⟨gb248, 2, none⟩) (Kd.V_far (p := ⟨gb248, 1, none⟩) (Kd.V_far (p := ⟨gb248, 0, none⟩) (Kd.V_mono HO1.out (fun k_ hk => (⟨hk, hk.2⟩ : _ ∧ k_ ≠ gb248))) (fun _ hk => hk.2) (.int .i64 a0)) (fun _ hk => hk.2) (.int .i64 0)) (fun _ hk => hk.2) (.int .i64 0)) (fun _ hk => hk.2) (.slice A1 l1.length c1)) (fun _ hk => hk.1.1), bb HB⟩
def r2_Read.f (a0 : Int) (a1 : Int) : Option (Int × Int × Int × (List (S28))) := some (1, a0, a1, ([] : List (S28)))
theorem r2_Read.calls (a0 : Int) (a1 : Int) (r1 : Int) (r2 : Int) (r3 : Int) (r4 : List (S28)) (w : World) (h : r2_Read.f a0 a1 = some (r1, r2, r3, r4)) :
  Calls Try.prog 41 #[.int .i64 a0, .int .i64 a1] w fun e w' => ∃ v3_ : Value, e = .returned (.agg #[.int .i64 r1, .int .i64 r2, .int .i64 r3, v3_]) ∧ Kd.R k28 28 w' w.heap.size (fun _ => True) v3_ r4 ∧ Below w.heap.size w w' := by
 have hu28 := Try.underlying28
 have HB := Aside0.mk (Below.refl w.heap.size w)
 have H : (some (1, a0, a1, ([] : List (S28)))) = some (r1, r2, r3, r4) := h
 clear h
 simp only [Option.some.injEq, Prod.mk.injEq] at H
 obtain ⟨rfl, rfl, rfl, rfl⟩ := H
 go_enter Try.func41, Try.ntmps41
 go_wp2_with (first | ((with_reducible refine gate_dst (N := 4) rfl ?_); refine bx 4 rfl rfl #[.int .i64 0, .int .i64 0, .int .i64 0, .slice none 0 0] 28 ?_; intro gb247 hg w3 hbox hb; have BK247 := Aside0.mk (hbox); have GE247 := ge HB hg; replace HB := sb HB hb; clear hb hbox hg; obtain ⟨hcz4_0, hcz4_1, hcz4_2, hcz4_3, hfz4_0, hfz4_1, hfz4_2, hfz4_3⟩ := cf4 BK247.out))
 refine bodyPost_ret (results_cell_row rfl _ _ gb247 28 #[.int .i64 1, .int .i64 a0, .int .i64 a1, .slice none 0 0] (0, 0) _ rfl (by (with_reducible repeat (first | refine kdN ?_ _ | refine kdr ?_ | refine kal ?_ _)); refine blk_put (cs := #[.int .i64 1, .int .i64 a0, .int .i64 a1, .slice none 0 0]) ?_ 3 _ rfl; (with_reducible repeat (first | refine kdN ?_ _ | refine kdr ?_ | refine kal ?_ _)); refine blk_put (cs := #[.int .i64 1, .int .i64 a0, .int .i64 0, .slice none 0 0]) ?_ 2 _ rfl; (with_reducible repeat (first | refine kdN ?_ _ | refine kdr ?_ | refine kal ?_ _)); refine blk_put (cs := #[.int .i64 1, .int .i64 0, .int .i64 0, .slice none 0 0]) ?_ 1 _ rfl; (with_reducible repeat (first | refine kdN ?_ _ | refine kdr ?_ | refine kal ?_ _)); refine blk_put (cs := #[.int .i64 0, .int .i64 0, .int .i64 0, .slice none 0 0]) ?_ 0 _ rfl; (with_reducible repeat (first | refine kdN ?_ _ | refine kdr ?_ | refine kal ?_ _)); exact BK247.out) Try.underlying28 rfl (by kernel_rfl)) rfl ?_
 exact ⟨_, rr, by first | exact Kd.R_nil _ _ _ _ _ | exact Kd.N_nil _ _ _ _ _ | exact Kd.V_nil _ _ _ _ _ | exact Kd.Q_nil _ _ _ _ _ | exact Kd.S_nil _ _ _ _ _, bb HB⟩
theorem eqA74 (d : Nat) (w : World) (x0 y0 : Int) (x1 y1 : Int) :
  (Op.equalIn (d + 2) 74 (.agg #[.int .i64 x0, .int .i64 x1]) (.agg #[.int .i64 y0, .int .i64 y1])).run Try.prog w = .ok (x0 == y0 && (x1 == y1)) w := by
 refine eqA_of Try.underlying74 (by kernel_rfl) ?_
 refine eqf_cons (by rfl) (by go_simp; rfl) (by go_simp; rfl) (by go_simp) ?_
 exact eqf_last (by rfl) (by go_simp; rfl) (by go_simp; rfl) (by go_simp)
end Go.Proofs.Ytilebfkehmecaaa.Print
namespace Go.Proofs.Ytilebfkehmecaaa.Print
open Go.RowKit Go.Proofs.YtilebfkehmecaaaW.PrintWords Go.Proofs.YtilebfkehmecaaaW.PrintLast Go.Proofs.YtilebfkehmecaaaW.PrintMore
attribute [local go_sem] max2_int min2_int max_two min_two max_three min_three max_four min_four
set_option linter.unusedVariables false
set_option linter.unusedSimpArgs false
attribute [local go_sem high] eqA74
def r5_Outs.l0 : Nat → List (S74) → List (S74) → Int → Option (Bool)
 | 0, _, _, _ => none
 | k + 1, x0, x1, x5 => if x5 < (x0.length : Int) then (if 0 ≤ x5 then (if x5 < (x1.length : Int) then (if (!(((rd_T74 x0 x5).f0) == ((rd_T74 x1 x5).f0)) || (!(((rd_T74 x0 x5).f1) == ((rd_T74 x1 x5).f1)))) = true then (some false) else (r5_Outs.l0 k x0 x1 (wrap64 (x5 + 1)))) else (none)) else (none)) else (some true)
def r5_Outs.f (k : Nat) (l0 : List (S74)) (l1 : List (S74)) : Option (Bool) := if (l0.length : Int) = (l1.length : Int) then (r5_Outs.l0 k l0 l1 0) else (some false)
theorem r5_Outs.calls (k : Nat) (A0 : Option Addr) (c0 : Nat) (l0 : List (S74)) (A1 : Option Addr) (c1 : Nat) (l1 : List (S74)) (r : Bool) (w : World) (hr0 : Kd.C k74 w A0 l0.length l0) (hc0 : l0.length ≤ c0) (hr1 : Kd.C k74 w A1 l1.length l1) (hc1 : l1.length ≤ c1) (h : r5_Outs.f k l0 l1 = some r) :
  Calls Try.prog 15 #[.slice A0 l0.length c0, .slice A1 l1.length c1] w fun e w' => e = .returned (.bool r) ∧ Drawn0 w w' := by
 have hu74 := Try.underlying74
 have HR0 := Aside0.mk hr0
 have HC0 := Aside0.mk hc0
 clear hr0 hc0
 have HR1 := Aside0.mk hr1
 have HC1 := Aside0.mk hc1
 clear hr1 hc1
 have H : (if (l0.length : Int) = (l1.length : Int) then (r5_Outs.l0 k l0 l1 0) else (some false)) = some r := h
 clear h
 by_cases c3 : (l0.length : Int) = (l1.length : Int)
 rotate_left
 ·rw [if_neg c3] at H
  have c3b0 : ((l0.length : Int) == (l1.length : Int)) = false := beq_eq_false_iff_ne.mpr c3
  have c3b1 : ((l0.length : Int) != (l1.length : Int)) = true := bne_iff_ne.mpr c3
  have c3b2 : (l0.length == l1.length) = false := by first | simpa using c3 | (simp at c3 ⊢; omega)
  obtain rfl := Option.some.inj H
  go_enter Try.func15, Try.ntmps15
  go_wp2
  repeat (go_quiet (fail); try go_wp2)
  go_ret
  exact ⟨rs, dr⟩
 rw [if_pos c3] at H
 have c3b0 : ((l0.length : Int) == (l1.length : Int)) = true := beq_iff_eq.mpr c3
 have c3b1 : ((l0.length : Int) != (l1.length : Int)) = false := bne_eq_false_iff_eq.mpr c3
 have c3b2 : (l0.length == l1.length) = true := by first | simpa using c3 | (simp at c3 ⊢; omega)
 clear c3
 have H' := Aside0.mk H
 clear H
 go_enter Try.func15, Try.ntmps15
 go_wp2
 repeat (go_quiet (fail); try go_wp2)
 go_loopg [5] k (fun kq v5 w' => ∃ (x5_1 : Int), v5 = .int .i64 x5_1 ∧ Aside0 (r5_Outs.l0 kq l0 l1 x5_1 = some r) ∧ Aside0 (kq ≤ k) ∧ Drawn0 w w')
 case atStart => exact ⟨(0), rs, H', ⟨Nat.le_refl _⟩, dr⟩
 case round =>
  clear H'
  try clear c1
  try clear p2
  try clear c3
  try clear c3b0
  try clear c3b1
  try clear c3b2
  obtain ⟨x5_1, rfl, HA, HK1, ⟨m1, rfl⟩⟩ := hrel
  cases gk with
  | zero => exact absurd HA.out (by simp [r5_Outs.l0])
  | succ k1 =>
   have H := HA.out
   clear HA
   simp only [r5_Outs.l0] at H
   by_cases c4 : x5_1 < (l0.length : Int)
   rotate_left
   ·rw [if_neg c4] at H
    have c4b0 : decide (x5_1 < (l0.length : Int)) = false := decide_eq_false c4
    clear c4
    obtain rfl := Option.some.inj H
    go_wp2
    repeat (go_quiet (fail); try go_wp2)
    go_ret
    exact ⟨rs, dr⟩
   rw [if_pos c4] at H
   have c4b0 : decide (x5_1 < (l0.length : Int)) = true := decide_eq_true c4
   clear c4
   by_cases c5 : 0 ≤ x5_1
   rotate_left
   ·rw [if_neg c5] at H
    exact absurd H (by simp)
   rw [if_pos c5] at H
   have c5b0 : decide (0 ≤ x5_1) = true := decide_eq_true c5
   clear c5
   by_cases c6 : x5_1 < (l1.length : Int)
   rotate_left
   ·rw [if_neg c6] at H
    exact absurd H (by simp)
   rw [if_pos c6] at H
   have c6b0 : decide (x5_1 < (l1.length : Int)) = true := decide_eq_true c6
   clear c6
   by_cases c7 : (!(((rd_T74 l0 x5_1).f0) == ((rd_T74 l1 x5_1).f0)) || (!(((rd_T74 l0 x5_1).f1) == ((rd_T74 l1 x5_1).f1)))) = true
   ·rw [if_pos c7] at H
    have c7b0 : (!(((rd_T74 l0 x5_1).f0) == ((rd_T74 l1 x5_1).f0)) || (!(((rd_T74 l0 x5_1).f1) == ((rd_T74 l1 x5_1).f1)))) = true := c7
    clear c7
    obtain rfl := Option.some.inj H
    have p158 : 0 ≤ (x5_1 : Int) := od
    have q158 : x5_1 < (l0.length : Int) := od
    obtain ⟨ad158, e158, hx158_0, hx158_1⟩ := at_T74 HR0.out x5_1 p158 q158
    cases e158
    replace p158 := eq_true p158
    replace q158 := eq_true q158
    have p159 : 0 ≤ (x5_1 : Int) := od
    have q159 : x5_1 < (l1.length : Int) := od
    obtain ⟨ad159, e159, hx159_0, hx159_1⟩ := at_T74 HR1.out x5_1 p159 q159
    cases e159
    replace p159 := eq_true p159
    replace q159 := eq_true q159
    go_wp2
    repeat (go_quiet (fail); try go_wp2)
    go_ret
    exact ⟨rs, dr⟩
   rw [if_neg c7] at H
   have c7b0 : (!(((rd_T74 l0 x5_1).f0) == ((rd_T74 l1 x5_1).f0)) || (!(((rd_T74 l0 x5_1).f1) == ((rd_T74 l1 x5_1).f1)))) = false := by simpa using c7
   clear c7
   have H' := Aside0.mk H
   clear H
   have p158 : 0 ≤ (x5_1 : Int) := od
   have q158 : x5_1 < (l0.length : Int) := od
   obtain ⟨ad158, e158, hx158_0, hx158_1⟩ := at_T74 HR0.out x5_1 p158 q158
   cases e158
   replace p158 := eq_true p158
   replace q158 := eq_true q158
   have p159 : 0 ≤ (x5_1 : Int) := od
   have q159 : x5_1 < (l1.length : Int) := od
   obtain ⟨ad159, e159, hx159_0, hx159_1⟩ := at_T74 HR1.out x5_1 p159 q159
   cases e159
   replace p159 := eq_true p159
   replace q159 := eq_true q159
   go_wp2
   repeat (go_quiet (fail); try go_wp2)
   go_roundg k1
   case measure => have := HK1.out; omega
   case rel => exact ⟨(wrap64 (x5_1 + 1)), rs, H', ⟨by have := HK1.out; omega⟩, dr⟩
end Go.Proofs.Ytilebfkehmecaaa.Print
namespace Go.Proofs.Ytilebfkehmecaaa.Print
open Go.RowKit Go.Proofs.YtilebfkehmecaaaW.PrintWords Go.Proofs.YtilebfkehmecaaaW.PrintLast Go.Proofs.YtilebfkehmecaaaW.PrintMore
attribute [local go_sem] max2_int min2_int max_two min_two max_three min_three max_four min_four
set_option linter.unusedVariables false
set_option linter.unusedSimpArgs false
def aw_r (a b : Int) : S28 := ⟨1, a, b, []⟩
def aw_vars : List S66 := [⟨⟨#[104]⟩, 1, 1⟩, ⟨⟨#[108]⟩, 0, 1⟩]
def aw_body : List S64 := [⟨0, 0, [aw_r 1 0], [], []⟩, ⟨3, 2, [aw_r 0 0], [], []⟩]
def aw_qv : List S66 := [⟨⟨#[104, 95, 48]⟩, 1, 1⟩, ⟨⟨#[108, 95, 48]⟩, 0, 1⟩, ⟨⟨#[104, 95, 49]⟩, 17, 1⟩, ⟨⟨#[108, 95, 49]⟩, 16, 1⟩]
def aw_qb : List S64 := [⟨0, 0, [aw_r 1 0], [], []⟩, ⟨3, 2, [aw_r 0 0], [], []⟩, ⟨0, 2, [aw_r 3 0], [], []⟩, ⟨3, 18, [aw_r 2 0], [], []⟩]
theorem aw_read (a b : Int) : r2_Read.f a b = some (1, a, b, []) := rfl
theorem aw_of : r2_Of.f 13 [aw_r 0 0, aw_r 1 1] = some (13, 0, 0, [aw_r 0 0, aw_r 1 1]) := by kernel_rfl
theorem aw_of2 : r2_Of.f 13 [aw_r 0 0, aw_r 3 0] = some (13, 0, 0, [aw_r 0 0, aw_r 3 0]) := by kernel_rfl
theorem aw_self : prod_Self.f 60 2 aw_vars aw_body 2 = some (2, aw_qv, aw_qb, 0) := by kernel_rfl
theorem aw_plain : prod_Plain.f 60 2 aw_vars aw_body 2 13 0 0 [aw_r 0 0, aw_r 1 1] = some (13, 0, 0, [aw_r 0 0, aw_r 3 0], 0) := by kernel_rfl
theorem aw_join : prod_Join.f 60 2 aw_vars aw_body [[1, 2], [3, 0]] = some ([1, 2, 3, 0], 0) := by kernel_rfl
theorem aw_copy : prod_Copy.f 60 2 aw_vars aw_body 3 = some (0, [], [], 1) := by kernel_rfl
theorem aw_told : prod_Told.f 60 [⟨17, 3⟩, ⟨1, 2⟩] 1 = some [⟨1, 3⟩] := by kernel_rfl
theorem aw_sameE : r2_Same.f 60 13 0 0 [aw_r 0 0, aw_r 3 0] 13 0 0 [aw_r 0 0, aw_r 3 0] = some true := by kernel_rfl
theorem aw_sameI : r1_Same.f 60 [1, 2, 3, 0] [1, 2, 3, 0] = some true := by kernel_rfl
theorem aw_outs : r5_Outs.f 60 [⟨1, 3⟩] [⟨1, 3⟩] = some true := by kernel_rfl
end Go.Proofs.Ytilebfkehmecaaa.Print
namespace Go.Proofs.Ytilebfkehmecaaa.Print
open Go.RowKit Go.Proofs.YtilebfkehmecaaaW.PrintWords Go.Proofs.YtilebfkehmecaaaW.PrintLast Go.Proofs.YtilebfkehmecaaaW.PrintMore
attribute [local go_sem] max2_int min2_int max_two min_two max_three min_three max_four min_four
set_option linter.unusedVariables false
set_option linter.unusedSimpArgs false
open Go.Shelf Go.RowKit
attribute [local go_sem] Oper.semAt_some
attribute [local go_sem high] eqA66
theorem aw_nil (W : World) (A : Option Addr) : Kd.C k28 W A ([] : List S28).length [] := Kd.F_now (F_zero (W := W) A (fun _ => True))
theorem aw_nilS (W : World) (A : Option Addr) : Kd.C k64 W A ([] : List S64).length [] := Kd.F_now (F_zero (W := W) A (fun _ => True))
theorem each1' {α : Type} {Q : α → List Value → Prop} {x : α} {c : List Value} (h : Q x c) : ∀ (j : Nat) (y : α) (d : List Value), [x][j]? = some y → [c][j]? = some d → Q y d := by
  intro j y d hy hd
  match j with
  | 0 => simp at hy hd; subst hy; subst hd; exact h
  | j + 1 => simp at hy
theorem each2' {α : Type} {Q : α → List Value → Prop} {x1 x2 : α} {c1 c2 : List Value} (h1 : Q x1 c1) (h2 : Q x2 c2) : ∀ (j : Nat) (y : α) (d : List Value), [x1, x2][j]? = some y → [c1, c2][j]? = some d → Q y d := by
  intro j y d hy hd
  match j with
  | 0 => simp at hy hd; subst hy; subst hd; exact h1
  | 1 => simp at hy hd; subst hy; subst hd; exact h2
  | j + 2 => simp at hy
theorem each4' {α : Type} {Q : α → List Value → Prop} {x1 x2 x3 x4 : α} {c1 c2 c3 c4 : List Value} (h1 : Q x1 c1) (h2 : Q x2 c2) (h3 : Q x3 c3) (h4 : Q x4 c4) : ∀ (j : Nat) (y : α) (d : List Value), [x1, x2, x3, x4][j]? = some y → [c1, c2, c3, c4][j]? = some d → Q y d := by
  intro j y d hy hd
  match j with
  | 0 => simp at hy hd; subst hy; subst hd; exact h1
  | 1 => simp at hy hd; subst hy; subst hd; exact h2
  | 2 => simp at hy hd; subst hy; subst hd; exact h3
  | 3 => simp at hy hd; subst hy; subst hd; exact h4
  | j + 4 => simp at hy
theorem aw_row2 (W : World) (m1 n1 m2 n2 : Int) (Ea : Option Addr) (fa : Nat) (Eb : Option Addr) (fb : Nat) : Kd.V k28 28 (W.alloc (.cells #[.int .i64 1, .int .i64 m1, .int .i64 n1, .slice Ea 0 fa, .int .i64 1, .int .i64 m2, .int .i64 n2, .slice Eb 0 fb] 28)) 0 (fun _ => True) (.slice (some ⟨W.heap.size, 0, none⟩) [aw_r m1 n1, aw_r m2 n2].length 2) [aw_r m1 n1, aw_r m2 n2] := by
  obtain ⟨A, e1, hf⟩ := (IsRow.new (d := k28) (B := 0) (e := 28) (W := W) (l := [aw_r m1 n1, aw_r m2 n2]) (Nat.zero_le _) [[.int .i64 1, .int .i64 m1, .int .i64 n1, .slice Ea 0 fa], [.int .i64 1, .int .i64 m2, .int .i64 n2, .slice Eb 0 fb]] rfl rfl (by simp)
    (each2' (Q := fun x c => Kd.FK k28 W (fun k => 0 ≤ k ∧ k < W.heap.size) x c) (k28_mkF W _ (aw_r m1 n1) (Nat.zero_le _) (F_zero Ea _)) (k28_mkF W _ (aw_r m2 n2) (Nat.zero_le _) (F_zero Eb _)))).foot
  cases e1
  exact Kd.V_mk (Nat.le_refl _) (Kd.F_mono hf (fun _ _ => trivial))
theorem aw_int2 {W : World} {b : Nat} {m n : Int} (h : W.heap[b]? = some (.cells #[.int .i64 m, .int .i64 n] 3 (0, 0))) : Kd.C (Kd.int .i64) W (some ⟨b, 0, none⟩) [m, n].length [m, n] := C_of_row (css := [[.int .i64 m], [.int .i64 n]]) h rfl (by simp) (each2' rfl rfl)
theorem aw_w7 (W : World) : Kd.C (Kd.slice 3 (Kd.int .i64)) (((W.alloc (.cells #[.int .i64 1, .int .i64 2] 3)).alloc (.cells #[.int .i64 3, .int .i64 0] 3)).alloc (.cells #[.slice (some ⟨W.heap.size, 0, none⟩) 2 2, .slice (some ⟨W.heap.size + 1, 0, none⟩) 2 2] 45)) (some ⟨W.heap.size + 1 + 1, 0, none⟩) [[1, 2], [3, 0]].length [[1, 2], [3, 0]] ∧ Below W.heap.size W (((W.alloc (.cells #[.int .i64 1, .int .i64 2] 3)).alloc (.cells #[.int .i64 3, .int .i64 0] 3)).alloc (.cells #[.slice (some ⟨W.heap.size, 0, none⟩) 2 2, .slice (some ⟨W.heap.size + 1, 0, none⟩) 2 2] 45)) := by
  have h1 : (((W.alloc (.cells #[.int .i64 1, .int .i64 2] 3)).alloc (.cells #[.int .i64 3, .int .i64 0] 3)).alloc (.cells #[.slice (some ⟨W.heap.size, 0, none⟩) 2 2, .slice (some ⟨W.heap.size + 1, 0, none⟩) 2 2] 45)).heap[W.heap.size]? = some (.cells #[.int .i64 1, .int .i64 2] 3 (0, 0)) := kal (kal (blk_new _ _) _) _
  have h2 : (((W.alloc (.cells #[.int .i64 1, .int .i64 2] 3)).alloc (.cells #[.int .i64 3, .int .i64 0] 3)).alloc (.cells #[.slice (some ⟨W.heap.size, 0, none⟩) 2 2, .slice (some ⟨W.heap.size + 1, 0, none⟩) 2 2] 45)).heap[W.heap.size + 1]? = some (.cells #[.int .i64 3, .int .i64 0] 3 (0, 0)) := by
    have e : (W.alloc (.cells #[.int .i64 1, .int .i64 2] 3)).heap.size = W.heap.size + 1 := by simp
    rw [← e]
    exact kal (blk_new _ _) _
  have h3 : (((W.alloc (.cells #[.int .i64 1, .int .i64 2] 3)).alloc (.cells #[.int .i64 3, .int .i64 0] 3)).alloc (.cells #[.slice (some ⟨W.heap.size, 0, none⟩) 2 2, .slice (some ⟨W.heap.size + 1, 0, none⟩) 2 2] 45)).heap[W.heap.size + 1 + 1]? = some (.cells #[.slice (some ⟨W.heap.size, 0, none⟩) 2 2, .slice (some ⟨W.heap.size + 1, 0, none⟩) 2 2] 45 (0, 0)) := by
    have e : ((W.alloc (.cells #[.int .i64 1, .int .i64 2] 3)).alloc (.cells #[.int .i64 3, .int .i64 0] 3)).heap.size = W.heap.size + 1 + 1 := by simp
    rw [← e]
    exact blk_new _ _
  refine ⟨C_of_row (css := [[.slice (some ⟨W.heap.size, 0, none⟩) 2 2], [.slice (some ⟨W.heap.size + 1, 0, none⟩) 2 2]]) h3 rfl (by decide) (each2' ⟨_, _, rfl, by decide, aw_int2 h1⟩ ⟨_, _, rfl, by decide, aw_int2 h2⟩), bal (bal (bal (Below.refl _ _) _) _) _⟩
theorem aw_outs2 (W : World) (A9 : Option Addr) (c9 : Nat) (A10 : Option Addr) (c10 : Nat) : Kd.C k74 ((W.alloc (.cells #[.int .i64 0, .slice A9 0 c9, .slice A10 0 c10] 25)).alloc (.cells #[.int .i64 17, .int .i64 3, .int .i64 1, .int .i64 2] 74)) (some ⟨W.heap.size + 1, 0, none⟩) [(⟨17, 3⟩ : S74), ⟨1, 2⟩].length [⟨17, 3⟩, ⟨1, 2⟩] := by
  have e : (W.alloc (.cells #[.int .i64 0, .slice A9 0 c9, .slice A10 0 c10] 25)).heap.size = W.heap.size + 1 := by simp
  rw [← e]
  exact C_of_row (css := [[.int .i64 17, .int .i64 3], [.int .i64 1, .int .i64 2]]) (blk_new _ _) rfl (by decide) (each2' (k74_mk _ _) (k74_mk _ _))
theorem aw_int4 {W : World} {b : Nat} {m n o p : Int} (h : W.heap[b]? = some (.cells #[.int .i64 m, .int .i64 n, .int .i64 o, .int .i64 p] 3 (0, 0))) : Kd.C (Kd.int .i64) W (some ⟨b, 0, none⟩) [m, n, o, p].length [m, n, o, p] := C_of_row (css := [[.int .i64 m], [.int .i64 n], [.int .i64 o], [.int .i64 p]]) h rfl (by simp) (each4' rfl rfl rfl rfl)
theorem aw_out1 {W : World} {b : Nat} (h : W.heap[b]? = some (.cells #[.int .i64 1, .int .i64 3] 74 (0, 0))) : Kd.C k74 W (some ⟨b, 0, none⟩) [(⟨1, 3⟩ : S74)].length [⟨1, 3⟩] := C_of_row (css := [[.int .i64 1, .int .i64 3]]) h rfl (by simp) (each1' (k74_mk W (⟨1, 3⟩ : S74)))
theorem aw_cv {W : World} {b : Nat} (h : W.heap[b]? = some (.cells #[.string ⟨#[104]⟩, .int .i64 1, .int .i64 1, .string ⟨#[108]⟩, .int .i64 0, .int .i64 1] 66 (0, 0))) : Kd.C k66 W (some ⟨b, 0, none⟩) aw_vars.length aw_vars :=
  C_of_row (css := [[.string ⟨#[104]⟩, .int .i64 1, .int .i64 1], [.string ⟨#[108]⟩, .int .i64 0, .int .i64 1]]) h rfl (by decide) (each2' (k66_mk W _) (k66_mk W _))
theorem aw_cx {W : World} {b : Nat} {m n : Int} {A : Option Addr} {c : Nat} (h : W.heap[b]? = some (.cells #[.int .i64 1, .int .i64 m, .int .i64 n, .slice A 0 c] 28 (0, 0))) : Kd.C k28 W (some ⟨b, 0, none⟩) [aw_r m n].length [aw_r m n] :=
  C_of_row (css := [[.int .i64 1, .int .i64 m, .int .i64 n, .slice A 0 c]]) h rfl (by simp) (each1' (k28_mk W (aw_r m n) (Nat.zero_le _) (aw_nil W A)))
theorem aw_cb {W : World} {b1 b2 b3 : Nat} {E1 E2 : Option Addr} {f1 f2 : Nat} (h1 : W.heap[b1]? = some (.cells #[.int .i64 1, .int .i64 1, .int .i64 0, .slice E1 0 f1] 28 (0, 0))) (h2 : W.heap[b2]? = some (.cells #[.int .i64 1, .int .i64 0, .int .i64 0, .slice E2 0 f2] 28 (0, 0)))
    (h3 : W.heap[b3]? = some (.cells #[.int .i64 0, .int .i64 0, .slice (some ⟨b1, 0, none⟩) 1 1, .slice none 0 0, .slice none 0 0, .int .i64 3, .int .i64 2, .slice (some ⟨b2, 0, none⟩) 1 1, .slice none 0 0, .slice none 0 0] 64 (0, 0))) : Kd.C k64 W (some ⟨b3, 0, none⟩) aw_body.length aw_body :=
  C_of_row (css := [[.int .i64 0, .int .i64 0, .slice (some ⟨b1, 0, none⟩) 1 1, .slice none 0 0, .slice none 0 0], [.int .i64 3, .int .i64 2, .slice (some ⟨b2, 0, none⟩) 1 1, .slice none 0 0, .slice none 0 0]]) h3 rfl (by decide)
    (each2' (k64_mk W (⟨0, 0, [aw_r 1 0], [], []⟩ : S64) (by decide) (aw_cx h1) (Nat.le_refl _) (aw_nilS W _) (Nat.le_refl _) (aw_nilS W _)) (k64_mk W (⟨3, 2, [aw_r 0 0], [], []⟩ : S64) (by decide) (aw_cx h2) (Nat.le_refl _) (aw_nilS W _) (Nat.le_refl _) (aw_nilS W _)))
theorem aw_w3 (W2 : World) (E2 : Option Addr) (f2 b1 bv : Nat) : let W := ((W2.alloc (.cells #[.int .i64 1, .int .i64 0, .int .i64 0, .slice E2 0 f2] 28)).alloc (.cells #[.int .i64 0, .int .i64 0, .slice (some ⟨b1, 0, none⟩) 1 1, .slice none 0 0, .slice none 0 0, .int .i64 3, .int .i64 2, .slice (some ⟨W2.heap.size, 0, none⟩) 1 1, .slice none 0 0, .slice none 0 0] 64)).alloc (.cells #[.int .i64 2, .slice (some ⟨bv, 0, none⟩) 2 2, .slice (some ⟨W2.heap.size + 1, 0, none⟩) 2 2] 25)
    W.heap[W2.heap.size]? = some (.cells #[.int .i64 1, .int .i64 0, .int .i64 0, .slice E2 0 f2] 28 (0, 0)) ∧ W.heap[W2.heap.size + 1]? = some (.cells #[.int .i64 0, .int .i64 0, .slice (some ⟨b1, 0, none⟩) 1 1, .slice none 0 0, .slice none 0 0, .int .i64 3, .int .i64 2, .slice (some ⟨W2.heap.size, 0, none⟩) 1 1, .slice none 0 0, .slice none 0 0] 64 (0, 0)) ∧
    W.heap[W2.heap.size + 1 + 1]? = some (.cells #[.int .i64 2, .slice (some ⟨bv, 0, none⟩) 2 2, .slice (some ⟨W2.heap.size + 1, 0, none⟩) 2 2] 25 (0, 0)) ∧ Below W2.heap.size W2 W := by
  intro W
  refine ⟨kal (kal (blk_new _ _) _) _, kal ?_ _, ?_, bal (bal (bal (Below.refl _ _) _) _) _⟩
  · have := blk_new (W2.alloc (.cells #[.int .i64 1, .int .i64 0, .int .i64 0, .slice E2 0 f2] 28)) (.cells #[.int .i64 0, .int .i64 0, .slice (some ⟨b1, 0, none⟩) 1 1, .slice none 0 0, .slice none 0 0, .int .i64 3, .int .i64 2, .slice (some ⟨W2.heap.size, 0, none⟩) 1 1, .slice none 0 0, .slice none 0 0] 64)
    simpa using this
  · have e : ((W2.alloc (.cells #[.int .i64 1, .int .i64 0, .int .i64 0, .slice E2 0 f2] 28)).alloc (.cells #[.int .i64 0, .int .i64 0, .slice (some ⟨b1, 0, none⟩) 1 1, .slice none 0 0, .slice none 0 0, .int .i64 3, .int .i64 2, .slice (some ⟨W2.heap.size, 0, none⟩) 1 1, .slice none 0 0, .slice none 0 0] 64)).heap.size = W2.heap.size + 1 + 1 := by simp
    rw [← e]
    exact blk_new _ _
def w12_awake.f (_ : Nat) : Option Bool := some true
theorem w12_awake.calls (k : Nat) (r : Bool) (w : World) (h : w12_awake.f k = some r) : Calls Try.prog 11 #[] w fun e w' => e = .returned (.bool r) ∧ Below w.heap.size w w' := by
  obtain rfl := Option.some.inj h
  clear h
  have huP := Try.underlying25
  have huS := Try.underlying64
  have huE := Try.underlying28
  have huV := Try.underlying66
  go_enter Try.func11, Try.ntmps11
  go_wp2_with (first | (go_at_call 41; refine (r2_Read.calls 1 0 1 1 0 [] (w.alloc (.cells #[.string ⟨#[104]⟩, .int .i64 1, .int .i64 1, .string ⟨#[108]⟩, .int .i64 0, .int .i64 1] 66)) (aw_read 1 0)).mono ?_; rintro e W1 ⟨v, rfl, o_, hb_⟩; obtain ⟨E1, f1, e_⟩ := Kd.R_slice o_; subst e_; have V1 := (hb_.block _ (by simp)).trans (blk_new w (.cells #[.string ⟨#[104]⟩, .int .i64 1, .int .i64 1, .string ⟨#[108]⟩, .int .i64 0, .int .i64 1] 66)); have b1 : Below w.heap.size w W1 := (bal (Below.refl _ _) _).trans (hb_.mono (by simp)); have s1 : w.heap.size < W1.heap.size := blk_lt V1; clear hb_ o_) | (go_at_call 41; refine (r2_Read.calls 0 0 1 0 0 [] (W1.alloc (.cells #[.int .i64 1, .int .i64 1, .int .i64 0, .slice E1 0 f1] 28)) (aw_read 0 0)).mono ?_; rintro e W2 ⟨v, rfl, o_, hb_⟩; obtain ⟨E2, f2, e_⟩ := Kd.R_slice o_; subst e_; have Y1 := (hb_.block _ (by simp)).trans (blk_new W1 (.cells #[.int .i64 1, .int .i64 1, .int .i64 0, .slice E1 0 f1] 28)); have b2 : Below W1.heap.size W1 W2 := (bal (Below.refl _ _) _).trans (hb_.mono (by simp)); have s2 : W1.heap.size < W2.heap.size := blk_lt Y1; have V2 := (b2.block _ s1).trans V1; clear hb_ o_; have hq := aw_w3 W2 E2 f2 W1.heap.size w.heap.size; obtain ⟨W3, hW3⟩ : ∃ X, ((W2.alloc (.cells #[.int .i64 1, .int .i64 0, .int .i64 0, .slice E2 0 f2] 28)).alloc (.cells #[.int .i64 0, .int .i64 0, .slice (some ⟨W1.heap.size, 0, none⟩) 1 1, .slice none 0 0, .slice none 0 0, .int .i64 3, .int .i64 2, .slice (some ⟨W2.heap.size, 0, none⟩) 1 1, .slice none 0 0, .slice none 0 0] 64)).alloc (.cells #[.int .i64 2, .slice (some ⟨w.heap.size, 0, none⟩) 2 2, .slice (some ⟨W2.heap.size + 1, 0, none⟩) 2 2] 25) = X := ⟨_, rfl⟩; simp only [hW3] at hq; obtain ⟨Y2, S3, P3, B3⟩ := hq; have p0 : W3.cell? ⟨W2.heap.size + 1 + 1, 0, none⟩ = some (.int .i64 2) := (blk_cell P3 0).trans rfl; have p1 : W3.cell? ⟨W2.heap.size + 1 + 1, 1, none⟩ = some (.slice (some ⟨w.heap.size, 0, none⟩) 2 2) := (blk_cell P3 1).trans rfl; have p2 : W3.cell? ⟨W2.heap.size + 1 + 1, 2, none⟩ = some (.slice (some ⟨W2.heap.size + 1, 0, none⟩) 2 2) := (blk_cell P3 2).trans rfl; have V3 := (B3.block _ (Nat.lt_trans s1 s2)).trans V2; have Y3 := (B3.block _ s2).trans Y1; have CV := aw_cv V3; have CB := aw_cb Y3 Y2 S3) | (go_at_call 26; refine (prod_Self.calls 60 2 (some ⟨w.heap.size, 0, none⟩) 2 aw_vars (some ⟨W2.heap.size + 1, 0, none⟩) 2 aw_body 2 2 aw_qv aw_qb 0 W3 CV (by decide) CB (by decide) aw_self).mono ?_; rintro e W4 ⟨v1, v2, rfl, rq1, nq2, hb4⟩; obtain ⟨D1, d1, e_⟩ := Kd.R_slice rq1; subst e_; obtain ⟨D2, d2, e_⟩ := Kd.V_slice nq2; subst e_))
  have k25e : aw_qv.length = 4 := rfl
  have k25f : aw_qb.length = 4 := rfl
  have hq := blk_new W4 (.cells #[.int .i64 2, .slice D1 aw_qv.length d1, .slice D2 aw_qb.length d2] 25)
  have bq := bal (Below.refl W4.heap.size W4) (.cells #[.int .i64 2, .slice D1 aw_qv.length d1, .slice D2 aw_qb.length d2] 25)
  generalize W4.alloc (.cells #[.int .i64 2, .slice D1 aw_qv.length d1, .slice D2 aw_qb.length d2] 25) = WQ at hq bq ⊢
  have b3 := hb4.trans (bq.mono hb4.size)
  have QR := Aside0.mk hq
  have PQ := Aside0.mk ((b3.block _ (blk_lt P3)).trans P3)
  have CVQ := Aside0.mk (Kd.C_below CV b3)
  have CBQ := Aside0.mk (Kd.C_below CB b3)
  have C1 := Aside0.mk (Kd.C_below (Kd.R_reads' rq1).2.2 bq)
  have C2 := Aside0.mk (Kd.C_below (Kd.V_reads' nq2).2.2 bq)
  have BW := Aside0.mk ((b1.trans (b2.mono b1.size)).trans ((B3.trans (b3.mono B3.size)).mono (Nat.le_trans b1.size b2.size)))
  clear hq bq b3 rq1 nq2 hb4 CV CB p0 p1 p2 V3 Y3 P3 S3 Y2 B3 V2 Y1 V1 b1 b2 hW3
  obtain ⟨bp, hbp⟩ : ∃ x, W2.heap.size + 1 + 1 = x := ⟨_, rfl⟩
  obtain ⟨bv, hbv⟩ : ∃ x, w.heap.size = x := ⟨_, rfl⟩
  obtain ⟨bb, hbb⟩ : ∃ x, W2.heap.size + 1 = x := ⟨_, rfl⟩
  have PQ := Aside0.mk (show WQ.heap[bp]? = some (.cells #[.int .i64 2, .slice (some ⟨bv, 0, none⟩) 2 2, .slice (some ⟨bb, 0, none⟩) 2 2] 25 (0, 0)) from by rw [← hbp, ← hbv, ← hbb]; exact PQ.out)
  have pS : ∀ W, Below WQ.heap.size WQ W → W.cell? ⟨bp, 0, none⟩ = some (.int .i64 2) ∧ W.cell? ⟨bp, 1, none⟩ = some (.slice (some ⟨bv, 0, none⟩) 2 2) ∧ W.cell? ⟨bp, 2, none⟩ = some (.slice (some ⟨bb, 0, none⟩) 2 2) := fun W hW => by
    have h := (hW.block _ (blk_lt PQ.out)).trans PQ.out
    exact ⟨(blk_cell h 0).trans rfl, (blk_cell h 1).trans rfl, (blk_cell h 2).trans rfl⟩
  rw [hbp]
  (try simp only [hbv, hbb, hbp])
  go_cut [4, 5] (fun v4 v5 wc => ∃ (G : Nat) (D : Option Addr) (d : Nat), v4 = .pointer (some ⟨G, 0, none⟩) ∧ v5 = .int .i64 0 ∧ Aside0 (wc.heap[G]? = some (.cells #[.int .i64 13, .int .i64 0, .int .i64 0, .slice D 2 d] 28 (0, 0))) ∧ Aside0 (Kd.C k28 wc D [aw_r 0 0, aw_r 3 0].length [aw_r 0 0, aw_r 3 0]) ∧ Aside0 (2 ≤ d) ∧ Aside0 (Below WQ.heap.size WQ wc))
  case first =>
    refine start_ (n := 12) (S := fun W => W.cell? ⟨bp, 0, none⟩ = some (.int .i64 2) ∧ W.cell? ⟨bp, 1, none⟩ = some (.slice (some ⟨bv, 0, none⟩) 2 2) ∧ W.cell? ⟨bp, 2, none⟩ = some (.slice (some ⟨bb, 0, none⟩) 2 2)) (ds := [10]) #[false, false, false, false, false, false, false, false, false, false, false, false] (by kernel_rfl) rfl rfl (pS _ (below_drew (Below.refl _ _))) (fun hHeld => ?_)
    have b0 := below_drew (Below.refl WQ.heap.size WQ)
    generalize WQ.drew = U0 at b0 hHeld ⊢
    refine tk (i := 0) (N := some 28) (bl 12 1) rfl rfl (by kernel_rfl) hHeld ?_
    refine two_ (i := 1) (j := 9) (Ni := some 29) (Nj := some 4) #[true, true, false, false, false, false, false, false, false, false, false, false] #[true, false, false, false, false, false, false, false, false, true, false, false] rfl rfl rfl rfl (by kernel_rfl) (by decide) (by decide) (fun K hK => ?_) (fun K hK => ?_)
    · refine goes_ Try.func41 (by kernel_rfl) rfl #[.int .i64 0, .int .i64 0] (by rfl) rfl rfl (by (try simp only [List.map_toArray, List.map_cons, List.map_nil]); rfl) ?_
      refine (r2_Read.calls 0 0 1 0 0 [] U0 (aw_read 0 0)).mono ?_
      rintro e U1 ⟨v, rfl, o_, h2⟩
      obtain ⟨Ea, fa, e_⟩ := Kd.R_slice o_
      subst e_
      clear o_
      have b3 := b0.trans (h2.mono b0.size)
      refine ⟨_, rfl, ?_⟩
      refine hK.out _ _ (pS _ b3) (fun hHeld => ?_)
      clear hK K
      refine nm 29 ?_
      refine two_ (i := 2) (j := 9) (Ni := some 30) (Nj := some 4) #[true, true, true, false, false, false, false, false, false, false, false, false] #[true, true, false, false, false, false, false, false, false, true, false, false] rfl rfl rfl rfl (by kernel_rfl) (by decide) (by decide) (fun K hK => ?_) (fun K hK => ?_)
      · refine goes_ Try.func41 (by kernel_rfl) rfl #[.int .i64 1, .int .i64 1] (by rfl) rfl rfl (by (try simp only [List.map_toArray, List.map_cons, List.map_nil]); rfl) ?_
        refine (r2_Read.calls 1 1 1 1 1 [] U1 (aw_read 1 1)).mono ?_
        rintro e U4 ⟨v, rfl, o_, h5⟩
        obtain ⟨Eb, fb, e_⟩ := Kd.R_slice o_
        subst e_
        clear o_
        have b6 := b3.trans (h5.mono b3.size)
        refine ⟨_, rfl, ?_⟩
        refine hK.out _ _ (pS _ b6) (fun hHeld => ?_)
        clear hK K
        refine nm 30 ?_
        refine two_ (i := 3) (j := 9) (Ni := some 31) (Nj := some 4) #[true, true, true, true, false, false, false, false, false, false, false, false] #[true, true, true, false, false, false, false, false, false, true, false, false] rfl rfl rfl rfl (by kernel_rfl) (by decide) (by decide) (fun K hK => ?_) (fun K hK => ?_)
        · refine value_ (w1 := ?_) (v := ?_) (by rfl) rfl ?_ ?_
          rotate_left 2
          · go_simp
            constructor
            · rfl
            · rfl
          have v9 := aw_row2 U4 0 0 1 1 Ea fa Eb fb
          have h8 := bal (Below.refl U4.heap.size U4) (.cells #[.int .i64 1, .int .i64 0, .int .i64 0, .slice Ea 0 fa, .int .i64 1, .int .i64 1, .int .i64 1, .slice Eb 0 fb] 28)
          (try simp only [List.length_nil])
          generalize U4.alloc (.cells #[.int .i64 1, .int .i64 0, .int .i64 0, .slice Ea 0 fa, .int .i64 1, .int .i64 1, .int .i64 1, .slice Eb 0 fb] 28) = U7 at v9 h8 ⊢
          have b11 := b6.trans (h8.mono b6.size)
          refine hK.out _ _ (pS _ b11) (fun hHeld => ?_)
          clear hK K
          refine nm 31 ?_
          refine two_ (i := 4) (j := 9) (Ni := some 32) (Nj := some 4) #[true, true, true, true, true, false, false, false, false, false, false, false] #[true, true, true, true, false, false, false, false, false, true, false, false] rfl rfl rfl rfl (by kernel_rfl) (by decide) (by decide) (fun K hK => ?_) (fun K hK => ?_)
          · refine goes_ Try.func42 (by kernel_rfl) rfl #[.int .i64 13, .slice (some ⟨U4.heap.size, 0, none⟩) 2 2] (by rfl) rfl rfl (by (try simp only [List.map_toArray, List.map_cons, List.map_nil]); rfl) ?_
            refine (r2_Of.calls 13 (fun _ => True) (some ⟨U4.heap.size, 0, none⟩) 2 [aw_r 0 0, aw_r 1 1] 13 0 0 [aw_r 0 0, aw_r 1 1] U7 v9 aw_of).mono ?_
            rintro e U12 ⟨v, rfl, o14, h13⟩
            obtain ⟨Ec, fc, e_⟩ := Kd.V_slice o14
            subst e_
            have b15 := b11.trans (h13.mono b11.size)
            refine ⟨_, rfl, ?_⟩
            refine hK.out _ _ (pS _ b15) (fun hHeld => ?_)
            clear hK K
            refine nm 32 ?_
            refine two_ (i := 5) (j := 9) (Ni := some 33) (Nj := some 4) #[true, true, true, true, true, true, false, false, false, false, false, false] #[true, true, true, true, true, false, false, false, false, true, false, false] rfl rfl rfl rfl (by kernel_rfl) (by decide) (by decide) (fun K hK => ?_) (fun K hK => ?_)
            · refine goes_ Try.func12 (by kernel_rfl) rfl #[.agg #[.int .i64 2, .slice (some ⟨bv, 0, none⟩) 2 2, .slice (some ⟨bb, 0, none⟩) 2 2], .int .i64 2, .agg #[.int .i64 13, .int .i64 0, .int .i64 0, .slice Ec 2 fc]] (by rfl) rfl rfl (by (try simp only [List.map_toArray, List.map_cons, List.map_nil]); rfl) ?_
              refine (prod_Plain.calls 60 2 (some ⟨bv, 0, none⟩) 2 aw_vars (some ⟨bb, 0, none⟩) 2 aw_body 2 13 0 0 Ec fc [aw_r 0 0, aw_r 1 1] 13 0 0 [aw_r 0 0, aw_r 3 0] 0 U12 (by rw [← hbv]; exact Kd.C_below CVQ.out b15) (by decide) (by rw [← hbb]; exact Kd.C_below CBQ.out b15) (by decide) (Kd.V_reads' o14).2.2 (Kd.V_reads' o14).2.1 aw_plain).mono ?_
              rintro e U16 ⟨v, rfl, r18, h17⟩
              obtain ⟨Ed, fd, e_⟩ := Kd.R_slice r18
              subst e_
              have b19 := b15.trans (h17.mono b15.size)
              refine ⟨_, rfl, ?_⟩
              refine hK.out _ _ (pS _ b19) (fun hHeld => ?_)
              clear hK K
              refine nm 33 ?_
              refine pu (i := 6) (N := some 27) (bl 12 127) rfl rfl (by kernel_rfl) ?_
              refine pu (i := 7) (N := some 34) (bl 12 255) rfl rfl (by kernel_rfl) ?_
              refine pu (i := 8) (N := some 35) (bl 12 511) rfl rfl (by kernel_rfl) ?_
              refine one_ (i := 9) (N := (some 4)) (bl 12 1023) rfl rfl (by kernel_rfl) (by decide) (fun K hK => ?_)
              refine value_ (w1 := ?_) (v := ?_) (by rfl) rfl ?_ ?_
              rotate_left 2
              · go_simp
                constructor
                · rfl
                · rfl
              have h21 := bal (Below.refl U16.heap.size U16) (.cells #[.int .i64 0, .int .i64 0, .int .i64 0, .slice none 0 0] 28)
              have z23 := blk_new U16 (.cells #[.int .i64 0, .int .i64 0, .int .i64 0, .slice none 0 0] 28)
              generalize U16.alloc (.cells #[.int .i64 0, .int .i64 0, .int .i64 0, .slice none 0 0] 28) = U20 at h21 z23 ⊢
              have b22 := b19.trans (h21.mono b19.size)
              have f24 := Kd.R_below (Kd.R_bound r18) h21
              have gle := b19.size
              refine hK.out _ _ (pS _ b22) (fun hHeld => ?_)
              clear hK K
              refine nm 4 ?_
              refine last_ (i := 10) (N := none) (bl 12 2047) rfl rfl (by kernel_rfl) (by decide) (fun K hK => ?_)
              obtain ⟨zc, zk, zb⟩ := row4_put z23 (.int .i64 13) (.int .i64 0) (.int .i64 0) (.slice Ed 2 fd)
              have bG := b22.size
              have lG := blk_lt z23
              have hGw : WQ.heap.size ≤ U16.heap.size := gle
              refine skip_ (w1 := ((((U20.setCell ⟨U16.heap.size, 0, none⟩ (.int .i64 13)).setCell ⟨U16.heap.size, 1, none⟩ (.int .i64 0)).setCell ⟨U16.heap.size, 2, none⟩ (.int .i64 0)).setCell ⟨U16.heap.size, 3, none⟩ (.slice Ed 2 fd))) (by rfl) rfl ?st ?_
              case st =>
                have q0 : U20.cell? ⟨U16.heap.size, 0, none⟩ = some (.int .i64 0) := (blk_cell z23 0).trans rfl
                have g0 := blk_frozen z23 0
                have q1 : U20.cell? ⟨U16.heap.size, 1, none⟩ = some (.int .i64 0) := (blk_cell z23 1).trans rfl
                have g1 := blk_frozen z23 1
                have q2 : U20.cell? ⟨U16.heap.size, 2, none⟩ = some (.int .i64 0) := (blk_cell z23 2).trans rfl
                have g2 := blk_frozen z23 2
                have q3 : U20.cell? ⟨U16.heap.size, 3, none⟩ = some (.slice none 0 0) := (blk_cell z23 3).trans rfl
                have g3 := blk_frozen z23 3
                go_simp
                try rfl
              refine hK.out _ _ ?_
              clear hK K
              refine pu (i := 11) (N := some 5) (bl 12 4095) rfl rfl (by kernel_rfl) ?_
              refine done_ (by kernel_rfl) ?_
              try simp only [Exit.then]
              try go_wp2
              go_meet
              case rel => exact ⟨_, Ed, fd, rfl, rfl, ⟨zc⟩, ⟨(Kd.R_reads' (Kd.R_step f24 (fun q hq _ => zk q (by have h9 := hq.2.2.1; omega)))).2.2⟩, ⟨(Kd.R_reads' f24).2.1⟩, ⟨b22.trans (zb _ hGw)⟩⟩
            · refine value_ (w1 := ?_) (v := ?_) (by rfl) rfl ?_ ?_
              rotate_left 2
              · go_simp
                constructor
                · rfl
                · rfl
              have h26 := bal (Below.refl U12.heap.size U12) (.cells #[.int .i64 0, .int .i64 0, .int .i64 0, .slice none 0 0] 28)
              have z28 := blk_new U12 (.cells #[.int .i64 0, .int .i64 0, .int .i64 0, .slice none 0 0] 28)
              generalize U12.alloc (.cells #[.int .i64 0, .int .i64 0, .int .i64 0, .slice none 0 0] 28) = U25 at h26 z28 ⊢
              have b27 := b15.trans (h26.mono b15.size)
              have f29 := Kd.V_below o14 h26
              have gle := b15.size
              refine hK.out _ _ (pS _ b27) (fun hHeld => ?_)
              clear hK K
              refine nm 4 ?_
              refine one_ (i := 5) (N := (some 33)) (bl 12 575) rfl rfl (by kernel_rfl) (by decide) (fun K hK => ?_)
              refine goes_ Try.func12 (by kernel_rfl) rfl #[.agg #[.int .i64 2, .slice (some ⟨bv, 0, none⟩) 2 2, .slice (some ⟨bb, 0, none⟩) 2 2], .int .i64 2, .agg #[.int .i64 13, .int .i64 0, .int .i64 0, .slice Ec 2 fc]] (by rfl) rfl rfl (by (try simp only [List.map_toArray, List.map_cons, List.map_nil]); rfl) ?_
              have lz := blk_lt z28
              refine (prod_Plain.calls 60 2 (some ⟨bv, 0, none⟩) 2 aw_vars (some ⟨bb, 0, none⟩) 2 aw_body 2 13 0 0 Ec fc [aw_r 0 0, aw_r 1 1] 13 0 0 [aw_r 0 0, aw_r 3 0] 0 U25 (by rw [← hbv]; exact Kd.C_below CVQ.out b27) (by decide) (by rw [← hbb]; exact Kd.C_below CBQ.out b27) (by decide) (Kd.V_reads' f29).2.2 (Kd.V_reads' f29).2.1 aw_plain).mono ?_
              rintro e U30 ⟨v, rfl, r32, h31⟩
              obtain ⟨Ed, fd, e_⟩ := Kd.R_slice r32
              subst e_
              have b33 := b27.trans (h31.mono b27.size)
              have z34 := blk_below z28 h31
              refine ⟨_, rfl, ?_⟩
              refine hK.out _ _ (pS _ b33) (fun hHeld => ?_)
              clear hK K
              refine nm 33 ?_
              refine pu (i := 6) (N := some 27) (bl 12 639) rfl rfl (by kernel_rfl) ?_
              refine pu (i := 7) (N := some 34) (bl 12 767) rfl rfl (by kernel_rfl) ?_
              refine pu (i := 8) (N := some 35) (bl 12 1023) rfl rfl (by kernel_rfl) ?_
              refine last_ (i := 10) (N := none) (bl 12 2047) rfl rfl (by kernel_rfl) (by decide) (fun K hK => ?_)
              obtain ⟨zc, zk, zb⟩ := row4_put z34 (.int .i64 13) (.int .i64 0) (.int .i64 0) (.slice Ed 2 fd)
              have bG := b33.size
              have lG := blk_lt z34
              have hGw : WQ.heap.size ≤ U12.heap.size := gle
              refine skip_ (w1 := ((((U30.setCell ⟨U12.heap.size, 0, none⟩ (.int .i64 13)).setCell ⟨U12.heap.size, 1, none⟩ (.int .i64 0)).setCell ⟨U12.heap.size, 2, none⟩ (.int .i64 0)).setCell ⟨U12.heap.size, 3, none⟩ (.slice Ed 2 fd))) (by rfl) rfl ?st ?_
              case st =>
                have q0 : U30.cell? ⟨U12.heap.size, 0, none⟩ = some (.int .i64 0) := (blk_cell z34 0).trans rfl
                have g0 := blk_frozen z34 0
                have q1 : U30.cell? ⟨U12.heap.size, 1, none⟩ = some (.int .i64 0) := (blk_cell z34 1).trans rfl
                have g1 := blk_frozen z34 1
                have q2 : U30.cell? ⟨U12.heap.size, 2, none⟩ = some (.int .i64 0) := (blk_cell z34 2).trans rfl
                have g2 := blk_frozen z34 2
                have q3 : U30.cell? ⟨U12.heap.size, 3, none⟩ = some (.slice none 0 0) := (blk_cell z34 3).trans rfl
                have g3 := blk_frozen z34 3
                go_simp
                try rfl
              refine hK.out _ _ ?_
              clear hK K
              refine pu (i := 11) (N := some 5) (bl 12 4095) rfl rfl (by kernel_rfl) ?_
              refine done_ (by kernel_rfl) ?_
              try simp only [Exit.then]
              try go_wp2
              go_meet
              case rel => exact ⟨_, Ed, fd, rfl, rfl, ⟨zc⟩, ⟨(Kd.R_reads' (Kd.R_step (Kd.R_bound r32) (fun q hq _ => zk q (by have h9 := hq.2.1; omega)))).2.2⟩, ⟨(Kd.R_reads' r32).2.1⟩, ⟨b33.trans (zb _ hGw)⟩⟩
          · refine value_ (w1 := ?_) (v := ?_) (by rfl) rfl ?_ ?_
            rotate_left 2
            · go_simp
              constructor
              · rfl
              · rfl
            have h36 := bal (Below.refl U7.heap.size U7) (.cells #[.int .i64 0, .int .i64 0, .int .i64 0, .slice none 0 0] 28)
            have z38 := blk_new U7 (.cells #[.int .i64 0, .int .i64 0, .int .i64 0, .slice none 0 0] 28)
            generalize U7.alloc (.cells #[.int .i64 0, .int .i64 0, .int .i64 0, .slice none 0 0] 28) = U35 at h36 z38 ⊢
            have b37 := b11.trans (h36.mono b11.size)
            have f39 := Kd.V_below v9 h36
            have gle := b11.size
            refine hK.out _ _ (pS _ b37) (fun hHeld => ?_)
            clear hK K
            refine nm 4 ?_
            refine one_ (i := 4) (N := (some 32)) (bl 12 543) rfl rfl (by kernel_rfl) (by decide) (fun K hK => ?_)
            refine goes_ Try.func42 (by kernel_rfl) rfl #[.int .i64 13, .slice (some ⟨U4.heap.size, 0, none⟩) 2 2] (by rfl) rfl rfl (by (try simp only [List.map_toArray, List.map_cons, List.map_nil]); rfl) ?_
            refine (r2_Of.calls 13 (fun _ => True) (some ⟨U4.heap.size, 0, none⟩) 2 [aw_r 0 0, aw_r 1 1] 13 0 0 [aw_r 0 0, aw_r 1 1] U35 f39 aw_of).mono ?_
            rintro e U40 ⟨v, rfl, o42, h41⟩
            obtain ⟨Ec, fc, e_⟩ := Kd.V_slice o42
            subst e_
            have b43 := b37.trans (h41.mono b37.size)
            have z44 := blk_below z38 h41
            refine ⟨_, rfl, ?_⟩
            refine hK.out _ _ (pS _ b43) (fun hHeld => ?_)
            clear hK K
            refine nm 32 ?_
            refine one_ (i := 5) (N := (some 33)) (bl 12 575) rfl rfl (by kernel_rfl) (by decide) (fun K hK => ?_)
            refine goes_ Try.func12 (by kernel_rfl) rfl #[.agg #[.int .i64 2, .slice (some ⟨bv, 0, none⟩) 2 2, .slice (some ⟨bb, 0, none⟩) 2 2], .int .i64 2, .agg #[.int .i64 13, .int .i64 0, .int .i64 0, .slice Ec 2 fc]] (by rfl) rfl rfl (by (try simp only [List.map_toArray, List.map_cons, List.map_nil]); rfl) ?_
            have lz := blk_lt z44
            refine (prod_Plain.calls 60 2 (some ⟨bv, 0, none⟩) 2 aw_vars (some ⟨bb, 0, none⟩) 2 aw_body 2 13 0 0 Ec fc [aw_r 0 0, aw_r 1 1] 13 0 0 [aw_r 0 0, aw_r 3 0] 0 U40 (by rw [← hbv]; exact Kd.C_below CVQ.out b43) (by decide) (by rw [← hbb]; exact Kd.C_below CBQ.out b43) (by decide) (Kd.V_reads' o42).2.2 (Kd.V_reads' o42).2.1 aw_plain).mono ?_
            rintro e U45 ⟨v, rfl, r47, h46⟩
            obtain ⟨Ed, fd, e_⟩ := Kd.R_slice r47
            subst e_
            have b48 := b43.trans (h46.mono b43.size)
            have z49 := blk_below z44 h46
            refine ⟨_, rfl, ?_⟩
            refine hK.out _ _ (pS _ b48) (fun hHeld => ?_)
            clear hK K
            refine nm 33 ?_
            refine pu (i := 6) (N := some 27) (bl 12 639) rfl rfl (by kernel_rfl) ?_
            refine pu (i := 7) (N := some 34) (bl 12 767) rfl rfl (by kernel_rfl) ?_
            refine pu (i := 8) (N := some 35) (bl 12 1023) rfl rfl (by kernel_rfl) ?_
            refine last_ (i := 10) (N := none) (bl 12 2047) rfl rfl (by kernel_rfl) (by decide) (fun K hK => ?_)
            obtain ⟨zc, zk, zb⟩ := row4_put z49 (.int .i64 13) (.int .i64 0) (.int .i64 0) (.slice Ed 2 fd)
            have bG := b48.size
            have lG := blk_lt z49
            have hGw : WQ.heap.size ≤ U7.heap.size := gle
            refine skip_ (w1 := ((((U45.setCell ⟨U7.heap.size, 0, none⟩ (.int .i64 13)).setCell ⟨U7.heap.size, 1, none⟩ (.int .i64 0)).setCell ⟨U7.heap.size, 2, none⟩ (.int .i64 0)).setCell ⟨U7.heap.size, 3, none⟩ (.slice Ed 2 fd))) (by rfl) rfl ?st ?_
            case st =>
              have q0 : U45.cell? ⟨U7.heap.size, 0, none⟩ = some (.int .i64 0) := (blk_cell z49 0).trans rfl
              have g0 := blk_frozen z49 0
              have q1 : U45.cell? ⟨U7.heap.size, 1, none⟩ = some (.int .i64 0) := (blk_cell z49 1).trans rfl
              have g1 := blk_frozen z49 1
              have q2 : U45.cell? ⟨U7.heap.size, 2, none⟩ = some (.int .i64 0) := (blk_cell z49 2).trans rfl
              have g2 := blk_frozen z49 2
              have q3 : U45.cell? ⟨U7.heap.size, 3, none⟩ = some (.slice none 0 0) := (blk_cell z49 3).trans rfl
              have g3 := blk_frozen z49 3
              go_simp
              try rfl
            refine hK.out _ _ ?_
            clear hK K
            refine pu (i := 11) (N := some 5) (bl 12 4095) rfl rfl (by kernel_rfl) ?_
            refine done_ (by kernel_rfl) ?_
            try simp only [Exit.then]
            try go_wp2
            go_meet
            case rel => exact ⟨_, Ed, fd, rfl, rfl, ⟨zc⟩, ⟨(Kd.R_reads' (Kd.R_step (Kd.R_bound r47) (fun q hq _ => zk q (by have h9 := hq.2.1; omega)))).2.2⟩, ⟨(Kd.R_reads' r47).2.1⟩, ⟨b48.trans (zb _ hGw)⟩⟩
        · refine value_ (w1 := ?_) (v := ?_) (by rfl) rfl ?_ ?_
          rotate_left 2
          · go_simp
            constructor
            · rfl
            · rfl
          have h51 := bal (Below.refl U4.heap.size U4) (.cells #[.int .i64 0, .int .i64 0, .int .i64 0, .slice none 0 0] 28)
          have z53 := blk_new U4 (.cells #[.int .i64 0, .int .i64 0, .int .i64 0, .slice none 0 0] 28)
          generalize U4.alloc (.cells #[.int .i64 0, .int .i64 0, .int .i64 0, .slice none 0 0] 28) = U50 at h51 z53 ⊢
          have b52 := b6.trans (h51.mono b6.size)
          have gle := b6.size
          refine hK.out _ _ (pS _ b52) (fun hHeld => ?_)
          clear hK K
          refine nm 4 ?_
          refine one_ (i := 3) (N := (some 31)) (bl 12 527) rfl rfl (by kernel_rfl) (by decide) (fun K hK => ?_)
          refine value_ (w1 := ?_) (v := ?_) (by rfl) rfl ?_ ?_
          rotate_left 2
          · go_simp
            constructor
            · rfl
            · rfl
          have v56 := aw_row2 U50 0 0 1 1 Ea fa Eb fb
          have h55 := bal (Below.refl U50.heap.size U50) (.cells #[.int .i64 1, .int .i64 0, .int .i64 0, .slice Ea 0 fa, .int .i64 1, .int .i64 1, .int .i64 1, .slice Eb 0 fb] 28)
          (try simp only [List.length_nil])
          generalize U50.alloc (.cells #[.int .i64 1, .int .i64 0, .int .i64 0, .slice Ea 0 fa, .int .i64 1, .int .i64 1, .int .i64 1, .slice Eb 0 fb] 28) = U54 at v56 h55 ⊢
          have b58 := b52.trans (h55.mono b52.size)
          have z59 := blk_below z53 h55
          refine hK.out _ _ (pS _ b58) (fun hHeld => ?_)
          clear hK K
          refine nm 31 ?_
          refine one_ (i := 4) (N := (some 32)) (bl 12 543) rfl rfl (by kernel_rfl) (by decide) (fun K hK => ?_)
          refine goes_ Try.func42 (by kernel_rfl) rfl #[.int .i64 13, .slice (some ⟨U50.heap.size, 0, none⟩) 2 2] (by rfl) rfl rfl (by (try simp only [List.map_toArray, List.map_cons, List.map_nil]); rfl) ?_
          refine (r2_Of.calls 13 (fun _ => True) (some ⟨U50.heap.size, 0, none⟩) 2 [aw_r 0 0, aw_r 1 1] 13 0 0 [aw_r 0 0, aw_r 1 1] U54 v56 aw_of).mono ?_
          rintro e U60 ⟨v, rfl, o62, h61⟩
          obtain ⟨Ec, fc, e_⟩ := Kd.V_slice o62
          subst e_
          have b63 := b58.trans (h61.mono b58.size)
          have z64 := blk_below z59 h61
          refine ⟨_, rfl, ?_⟩
          refine hK.out _ _ (pS _ b63) (fun hHeld => ?_)
          clear hK K
          refine nm 32 ?_
          refine one_ (i := 5) (N := (some 33)) (bl 12 575) rfl rfl (by kernel_rfl) (by decide) (fun K hK => ?_)
          refine goes_ Try.func12 (by kernel_rfl) rfl #[.agg #[.int .i64 2, .slice (some ⟨bv, 0, none⟩) 2 2, .slice (some ⟨bb, 0, none⟩) 2 2], .int .i64 2, .agg #[.int .i64 13, .int .i64 0, .int .i64 0, .slice Ec 2 fc]] (by rfl) rfl rfl (by (try simp only [List.map_toArray, List.map_cons, List.map_nil]); rfl) ?_
          have lz := blk_lt z64
          refine (prod_Plain.calls 60 2 (some ⟨bv, 0, none⟩) 2 aw_vars (some ⟨bb, 0, none⟩) 2 aw_body 2 13 0 0 Ec fc [aw_r 0 0, aw_r 1 1] 13 0 0 [aw_r 0 0, aw_r 3 0] 0 U60 (by rw [← hbv]; exact Kd.C_below CVQ.out b63) (by decide) (by rw [← hbb]; exact Kd.C_below CBQ.out b63) (by decide) (Kd.V_reads' o62).2.2 (Kd.V_reads' o62).2.1 aw_plain).mono ?_
          rintro e U65 ⟨v, rfl, r67, h66⟩
          obtain ⟨Ed, fd, e_⟩ := Kd.R_slice r67
          subst e_
          have b68 := b63.trans (h66.mono b63.size)
          have z69 := blk_below z64 h66
          refine ⟨_, rfl, ?_⟩
          refine hK.out _ _ (pS _ b68) (fun hHeld => ?_)
          clear hK K
          refine nm 33 ?_
          refine pu (i := 6) (N := some 27) (bl 12 639) rfl rfl (by kernel_rfl) ?_
          refine pu (i := 7) (N := some 34) (bl 12 767) rfl rfl (by kernel_rfl) ?_
          refine pu (i := 8) (N := some 35) (bl 12 1023) rfl rfl (by kernel_rfl) ?_
          refine last_ (i := 10) (N := none) (bl 12 2047) rfl rfl (by kernel_rfl) (by decide) (fun K hK => ?_)
          obtain ⟨zc, zk, zb⟩ := row4_put z69 (.int .i64 13) (.int .i64 0) (.int .i64 0) (.slice Ed 2 fd)
          have bG := b68.size
          have lG := blk_lt z69
          have hGw : WQ.heap.size ≤ U4.heap.size := gle
          refine skip_ (w1 := ((((U65.setCell ⟨U4.heap.size, 0, none⟩ (.int .i64 13)).setCell ⟨U4.heap.size, 1, none⟩ (.int .i64 0)).setCell ⟨U4.heap.size, 2, none⟩ (.int .i64 0)).setCell ⟨U4.heap.size, 3, none⟩ (.slice Ed 2 fd))) (by rfl) rfl ?st ?_
          case st =>
            have q0 : U65.cell? ⟨U4.heap.size, 0, none⟩ = some (.int .i64 0) := (blk_cell z69 0).trans rfl
            have g0 := blk_frozen z69 0
            have q1 : U65.cell? ⟨U4.heap.size, 1, none⟩ = some (.int .i64 0) := (blk_cell z69 1).trans rfl
            have g1 := blk_frozen z69 1
            have q2 : U65.cell? ⟨U4.heap.size, 2, none⟩ = some (.int .i64 0) := (blk_cell z69 2).trans rfl
            have g2 := blk_frozen z69 2
            have q3 : U65.cell? ⟨U4.heap.size, 3, none⟩ = some (.slice none 0 0) := (blk_cell z69 3).trans rfl
            have g3 := blk_frozen z69 3
            go_simp
            try rfl
          refine hK.out _ _ ?_
          clear hK K
          refine pu (i := 11) (N := some 5) (bl 12 4095) rfl rfl (by kernel_rfl) ?_
          refine done_ (by kernel_rfl) ?_
          try simp only [Exit.then]
          try go_wp2
          go_meet
          case rel => exact ⟨_, Ed, fd, rfl, rfl, ⟨zc⟩, ⟨(Kd.R_reads' (Kd.R_step (Kd.R_bound r67) (fun q hq _ => zk q (by have h9 := hq.2.1; omega)))).2.2⟩, ⟨(Kd.R_reads' r67).2.1⟩, ⟨b68.trans (zb _ hGw)⟩⟩
      · refine value_ (w1 := ?_) (v := ?_) (by rfl) rfl ?_ ?_
        rotate_left 2
        · go_simp
          constructor
          · rfl
          · rfl
        have h71 := bal (Below.refl U1.heap.size U1) (.cells #[.int .i64 0, .int .i64 0, .int .i64 0, .slice none 0 0] 28)
        have z73 := blk_new U1 (.cells #[.int .i64 0, .int .i64 0, .int .i64 0, .slice none 0 0] 28)
        generalize U1.alloc (.cells #[.int .i64 0, .int .i64 0, .int .i64 0, .slice none 0 0] 28) = U70 at h71 z73 ⊢
        have b72 := b3.trans (h71.mono b3.size)
        have gle := b3.size
        refine hK.out _ _ (pS _ b72) (fun hHeld => ?_)
        clear hK K
        refine nm 4 ?_
        refine one_ (i := 2) (N := (some 30)) (bl 12 519) rfl rfl (by kernel_rfl) (by decide) (fun K hK => ?_)
        refine goes_ Try.func41 (by kernel_rfl) rfl #[.int .i64 1, .int .i64 1] (by rfl) rfl rfl (by (try simp only [List.map_toArray, List.map_cons, List.map_nil]); rfl) ?_
        refine (r2_Read.calls 1 1 1 1 1 [] U70 (aw_read 1 1)).mono ?_
        rintro e U74 ⟨v, rfl, o_, h75⟩
        obtain ⟨Eb, fb, e_⟩ := Kd.R_slice o_
        subst e_
        clear o_
        have b76 := b72.trans (h75.mono b72.size)
        have z77 := blk_below z73 h75
        refine ⟨_, rfl, ?_⟩
        refine hK.out _ _ (pS _ b76) (fun hHeld => ?_)
        clear hK K
        refine nm 30 ?_
        refine one_ (i := 3) (N := (some 31)) (bl 12 527) rfl rfl (by kernel_rfl) (by decide) (fun K hK => ?_)
        refine value_ (w1 := ?_) (v := ?_) (by rfl) rfl ?_ ?_
        rotate_left 2
        · go_simp
          constructor
          · rfl
          · rfl
        have v80 := aw_row2 U74 0 0 1 1 Ea fa Eb fb
        have h79 := bal (Below.refl U74.heap.size U74) (.cells #[.int .i64 1, .int .i64 0, .int .i64 0, .slice Ea 0 fa, .int .i64 1, .int .i64 1, .int .i64 1, .slice Eb 0 fb] 28)
        (try simp only [List.length_nil])
        generalize U74.alloc (.cells #[.int .i64 1, .int .i64 0, .int .i64 0, .slice Ea 0 fa, .int .i64 1, .int .i64 1, .int .i64 1, .slice Eb 0 fb] 28) = U78 at v80 h79 ⊢
        have b82 := b76.trans (h79.mono b76.size)
        have z83 := blk_below z77 h79
        refine hK.out _ _ (pS _ b82) (fun hHeld => ?_)
        clear hK K
        refine nm 31 ?_
        refine one_ (i := 4) (N := (some 32)) (bl 12 543) rfl rfl (by kernel_rfl) (by decide) (fun K hK => ?_)
        refine goes_ Try.func42 (by kernel_rfl) rfl #[.int .i64 13, .slice (some ⟨U74.heap.size, 0, none⟩) 2 2] (by rfl) rfl rfl (by (try simp only [List.map_toArray, List.map_cons, List.map_nil]); rfl) ?_
        refine (r2_Of.calls 13 (fun _ => True) (some ⟨U74.heap.size, 0, none⟩) 2 [aw_r 0 0, aw_r 1 1] 13 0 0 [aw_r 0 0, aw_r 1 1] U78 v80 aw_of).mono ?_
        rintro e U84 ⟨v, rfl, o86, h85⟩
        obtain ⟨Ec, fc, e_⟩ := Kd.V_slice o86
        subst e_
        have b87 := b82.trans (h85.mono b82.size)
        have z88 := blk_below z83 h85
        refine ⟨_, rfl, ?_⟩
        refine hK.out _ _ (pS _ b87) (fun hHeld => ?_)
        clear hK K
        refine nm 32 ?_
        refine one_ (i := 5) (N := (some 33)) (bl 12 575) rfl rfl (by kernel_rfl) (by decide) (fun K hK => ?_)
        refine goes_ Try.func12 (by kernel_rfl) rfl #[.agg #[.int .i64 2, .slice (some ⟨bv, 0, none⟩) 2 2, .slice (some ⟨bb, 0, none⟩) 2 2], .int .i64 2, .agg #[.int .i64 13, .int .i64 0, .int .i64 0, .slice Ec 2 fc]] (by rfl) rfl rfl (by (try simp only [List.map_toArray, List.map_cons, List.map_nil]); rfl) ?_
        have lz := blk_lt z88
        refine (prod_Plain.calls 60 2 (some ⟨bv, 0, none⟩) 2 aw_vars (some ⟨bb, 0, none⟩) 2 aw_body 2 13 0 0 Ec fc [aw_r 0 0, aw_r 1 1] 13 0 0 [aw_r 0 0, aw_r 3 0] 0 U84 (by rw [← hbv]; exact Kd.C_below CVQ.out b87) (by decide) (by rw [← hbb]; exact Kd.C_below CBQ.out b87) (by decide) (Kd.V_reads' o86).2.2 (Kd.V_reads' o86).2.1 aw_plain).mono ?_
        rintro e U89 ⟨v, rfl, r91, h90⟩
        obtain ⟨Ed, fd, e_⟩ := Kd.R_slice r91
        subst e_
        have b92 := b87.trans (h90.mono b87.size)
        have z93 := blk_below z88 h90
        refine ⟨_, rfl, ?_⟩
        refine hK.out _ _ (pS _ b92) (fun hHeld => ?_)
        clear hK K
        refine nm 33 ?_
        refine pu (i := 6) (N := some 27) (bl 12 639) rfl rfl (by kernel_rfl) ?_
        refine pu (i := 7) (N := some 34) (bl 12 767) rfl rfl (by kernel_rfl) ?_
        refine pu (i := 8) (N := some 35) (bl 12 1023) rfl rfl (by kernel_rfl) ?_
        refine last_ (i := 10) (N := none) (bl 12 2047) rfl rfl (by kernel_rfl) (by decide) (fun K hK => ?_)
        obtain ⟨zc, zk, zb⟩ := row4_put z93 (.int .i64 13) (.int .i64 0) (.int .i64 0) (.slice Ed 2 fd)
        have bG := b92.size
        have lG := blk_lt z93
        have hGw : WQ.heap.size ≤ U1.heap.size := gle
        refine skip_ (w1 := ((((U89.setCell ⟨U1.heap.size, 0, none⟩ (.int .i64 13)).setCell ⟨U1.heap.size, 1, none⟩ (.int .i64 0)).setCell ⟨U1.heap.size, 2, none⟩ (.int .i64 0)).setCell ⟨U1.heap.size, 3, none⟩ (.slice Ed 2 fd))) (by rfl) rfl ?st ?_
        case st =>
          have q0 : U89.cell? ⟨U1.heap.size, 0, none⟩ = some (.int .i64 0) := (blk_cell z93 0).trans rfl
          have g0 := blk_frozen z93 0
          have q1 : U89.cell? ⟨U1.heap.size, 1, none⟩ = some (.int .i64 0) := (blk_cell z93 1).trans rfl
          have g1 := blk_frozen z93 1
          have q2 : U89.cell? ⟨U1.heap.size, 2, none⟩ = some (.int .i64 0) := (blk_cell z93 2).trans rfl
          have g2 := blk_frozen z93 2
          have q3 : U89.cell? ⟨U1.heap.size, 3, none⟩ = some (.slice none 0 0) := (blk_cell z93 3).trans rfl
          have g3 := blk_frozen z93 3
          go_simp
          try rfl
        refine hK.out _ _ ?_
        clear hK K
        refine pu (i := 11) (N := some 5) (bl 12 4095) rfl rfl (by kernel_rfl) ?_
        refine done_ (by kernel_rfl) ?_
        try simp only [Exit.then]
        try go_wp2
        go_meet
        case rel => exact ⟨_, Ed, fd, rfl, rfl, ⟨zc⟩, ⟨(Kd.R_reads' (Kd.R_step (Kd.R_bound r91) (fun q hq _ => zk q (by have h9 := hq.2.1; omega)))).2.2⟩, ⟨(Kd.R_reads' r91).2.1⟩, ⟨b92.trans (zb _ hGw)⟩⟩
    · refine value_ (w1 := ?_) (v := ?_) (by rfl) rfl ?_ ?_
      rotate_left 2
      · go_simp
        constructor
        · rfl
        · rfl
      have h95 := bal (Below.refl U0.heap.size U0) (.cells #[.int .i64 0, .int .i64 0, .int .i64 0, .slice none 0 0] 28)
      have z97 := blk_new U0 (.cells #[.int .i64 0, .int .i64 0, .int .i64 0, .slice none 0 0] 28)
      generalize U0.alloc (.cells #[.int .i64 0, .int .i64 0, .int .i64 0, .slice none 0 0] 28) = U94 at h95 z97 ⊢
      have b96 := b0.trans (h95.mono b0.size)
      have gle := b0.size
      refine hK.out _ _ (pS _ b96) (fun hHeld => ?_)
      clear hK K
      refine nm 4 ?_
      refine one_ (i := 1) (N := (some 29)) (bl 12 515) rfl rfl (by kernel_rfl) (by decide) (fun K hK => ?_)
      refine goes_ Try.func41 (by kernel_rfl) rfl #[.int .i64 0, .int .i64 0] (by rfl) rfl rfl (by (try simp only [List.map_toArray, List.map_cons, List.map_nil]); rfl) ?_
      refine (r2_Read.calls 0 0 1 0 0 [] U94 (aw_read 0 0)).mono ?_
      rintro e U98 ⟨v, rfl, o_, h99⟩
      obtain ⟨Ea, fa, e_⟩ := Kd.R_slice o_
      subst e_
      clear o_
      have b100 := b96.trans (h99.mono b96.size)
      have z101 := blk_below z97 h99
      refine ⟨_, rfl, ?_⟩
      refine hK.out _ _ (pS _ b100) (fun hHeld => ?_)
      clear hK K
      refine nm 29 ?_
      refine one_ (i := 2) (N := (some 30)) (bl 12 519) rfl rfl (by kernel_rfl) (by decide) (fun K hK => ?_)
      refine goes_ Try.func41 (by kernel_rfl) rfl #[.int .i64 1, .int .i64 1] (by rfl) rfl rfl (by (try simp only [List.map_toArray, List.map_cons, List.map_nil]); rfl) ?_
      refine (r2_Read.calls 1 1 1 1 1 [] U98 (aw_read 1 1)).mono ?_
      rintro e U102 ⟨v, rfl, o_, h103⟩
      obtain ⟨Eb, fb, e_⟩ := Kd.R_slice o_
      subst e_
      clear o_
      have b104 := b100.trans (h103.mono b100.size)
      have z105 := blk_below z101 h103
      refine ⟨_, rfl, ?_⟩
      refine hK.out _ _ (pS _ b104) (fun hHeld => ?_)
      clear hK K
      refine nm 30 ?_
      refine one_ (i := 3) (N := (some 31)) (bl 12 527) rfl rfl (by kernel_rfl) (by decide) (fun K hK => ?_)
      refine value_ (w1 := ?_) (v := ?_) (by rfl) rfl ?_ ?_
      rotate_left 2
      · go_simp
        constructor
        · rfl
        · rfl
      have v108 := aw_row2 U102 0 0 1 1 Ea fa Eb fb
      have h107 := bal (Below.refl U102.heap.size U102) (.cells #[.int .i64 1, .int .i64 0, .int .i64 0, .slice Ea 0 fa, .int .i64 1, .int .i64 1, .int .i64 1, .slice Eb 0 fb] 28)
      (try simp only [List.length_nil])
      generalize U102.alloc (.cells #[.int .i64 1, .int .i64 0, .int .i64 0, .slice Ea 0 fa, .int .i64 1, .int .i64 1, .int .i64 1, .slice Eb 0 fb] 28) = U106 at v108 h107 ⊢
      have b110 := b104.trans (h107.mono b104.size)
      have z111 := blk_below z105 h107
      refine hK.out _ _ (pS _ b110) (fun hHeld => ?_)
      clear hK K
      refine nm 31 ?_
      refine one_ (i := 4) (N := (some 32)) (bl 12 543) rfl rfl (by kernel_rfl) (by decide) (fun K hK => ?_)
      refine goes_ Try.func42 (by kernel_rfl) rfl #[.int .i64 13, .slice (some ⟨U102.heap.size, 0, none⟩) 2 2] (by rfl) rfl rfl (by (try simp only [List.map_toArray, List.map_cons, List.map_nil]); rfl) ?_
      refine (r2_Of.calls 13 (fun _ => True) (some ⟨U102.heap.size, 0, none⟩) 2 [aw_r 0 0, aw_r 1 1] 13 0 0 [aw_r 0 0, aw_r 1 1] U106 v108 aw_of).mono ?_
      rintro e U112 ⟨v, rfl, o114, h113⟩
      obtain ⟨Ec, fc, e_⟩ := Kd.V_slice o114
      subst e_
      have b115 := b110.trans (h113.mono b110.size)
      have z116 := blk_below z111 h113
      refine ⟨_, rfl, ?_⟩
      refine hK.out _ _ (pS _ b115) (fun hHeld => ?_)
      clear hK K
      refine nm 32 ?_
      refine one_ (i := 5) (N := (some 33)) (bl 12 575) rfl rfl (by kernel_rfl) (by decide) (fun K hK => ?_)
      refine goes_ Try.func12 (by kernel_rfl) rfl #[.agg #[.int .i64 2, .slice (some ⟨bv, 0, none⟩) 2 2, .slice (some ⟨bb, 0, none⟩) 2 2], .int .i64 2, .agg #[.int .i64 13, .int .i64 0, .int .i64 0, .slice Ec 2 fc]] (by rfl) rfl rfl (by (try simp only [List.map_toArray, List.map_cons, List.map_nil]); rfl) ?_
      have lz := blk_lt z116
      refine (prod_Plain.calls 60 2 (some ⟨bv, 0, none⟩) 2 aw_vars (some ⟨bb, 0, none⟩) 2 aw_body 2 13 0 0 Ec fc [aw_r 0 0, aw_r 1 1] 13 0 0 [aw_r 0 0, aw_r 3 0] 0 U112 (by rw [← hbv]; exact Kd.C_below CVQ.out b115) (by decide) (by rw [← hbb]; exact Kd.C_below CBQ.out b115) (by decide) (Kd.V_reads' o114).2.2 (Kd.V_reads' o114).2.1 aw_plain).mono ?_
      rintro e U117 ⟨v, rfl, r119, h118⟩
      obtain ⟨Ed, fd, e_⟩ := Kd.R_slice r119
      subst e_
      have b120 := b115.trans (h118.mono b115.size)
      have z121 := blk_below z116 h118
      refine ⟨_, rfl, ?_⟩
      refine hK.out _ _ (pS _ b120) (fun hHeld => ?_)
      clear hK K
      refine nm 33 ?_
      refine pu (i := 6) (N := some 27) (bl 12 639) rfl rfl (by kernel_rfl) ?_
      refine pu (i := 7) (N := some 34) (bl 12 767) rfl rfl (by kernel_rfl) ?_
      refine pu (i := 8) (N := some 35) (bl 12 1023) rfl rfl (by kernel_rfl) ?_
      refine last_ (i := 10) (N := none) (bl 12 2047) rfl rfl (by kernel_rfl) (by decide) (fun K hK => ?_)
      obtain ⟨zc, zk, zb⟩ := row4_put z121 (.int .i64 13) (.int .i64 0) (.int .i64 0) (.slice Ed 2 fd)
      have bG := b120.size
      have lG := blk_lt z121
      have hGw : WQ.heap.size ≤ U0.heap.size := gle
      refine skip_ (w1 := ((((U117.setCell ⟨U0.heap.size, 0, none⟩ (.int .i64 13)).setCell ⟨U0.heap.size, 1, none⟩ (.int .i64 0)).setCell ⟨U0.heap.size, 2, none⟩ (.int .i64 0)).setCell ⟨U0.heap.size, 3, none⟩ (.slice Ed 2 fd))) (by rfl) rfl ?st ?_
      case st =>
        have q0 : U117.cell? ⟨U0.heap.size, 0, none⟩ = some (.int .i64 0) := (blk_cell z121 0).trans rfl
        have g0 := blk_frozen z121 0
        have q1 : U117.cell? ⟨U0.heap.size, 1, none⟩ = some (.int .i64 0) := (blk_cell z121 1).trans rfl
        have g1 := blk_frozen z121 1
        have q2 : U117.cell? ⟨U0.heap.size, 2, none⟩ = some (.int .i64 0) := (blk_cell z121 2).trans rfl
        have g2 := blk_frozen z121 2
        have q3 : U117.cell? ⟨U0.heap.size, 3, none⟩ = some (.slice none 0 0) := (blk_cell z121 3).trans rfl
        have g3 := blk_frozen z121 3
        go_simp
        try rfl
      refine hK.out _ _ ?_
      clear hK K
      refine pu (i := 11) (N := some 5) (bl 12 4095) rfl rfl (by kernel_rfl) ?_
      refine done_ (by kernel_rfl) ?_
      try simp only [Exit.then]
      try go_wp2
      go_meet
      case rel => exact ⟨_, Ed, fd, rfl, rfl, ⟨zc⟩, ⟨(Kd.R_reads' (Kd.R_step (Kd.R_bound r119) (fun q hq _ => zk q (by have h9 := hq.2.1; omega)))).2.2⟩, ⟨(Kd.R_reads' r119).2.1⟩, ⟨b120.trans (zb _ hGw)⟩⟩
  case rest =>
    obtain ⟨G, D, d, rfl, rfl, XG, XC, Xd, XB⟩ := hcut
    have CVw : ∀ W, Below WQ.heap.size WQ W → Kd.C k66 W (some ⟨bv, 0, none⟩) aw_vars.length aw_vars := fun W h => by rw [← hbv]; exact Kd.C_below CVQ.out h
    have CBw : ∀ W, Below WQ.heap.size WQ W → Kd.C k64 W (some ⟨bb, 0, none⟩) aw_body.length aw_body := fun W h => by rw [← hbb]; exact Kd.C_below CBQ.out h
    clear hbv hbb hbp
    obtain ⟨x0, x1, x2⟩ := pS _ XB.out
    obtain ⟨CS7, b67⟩ := aw_w7 wc
    obtain ⟨W7, hW7⟩ : ∃ X, (((wc.alloc (.cells #[.int .i64 1, .int .i64 2] 3)).alloc (.cells #[.int .i64 3, .int .i64 0] 3)).alloc (.cells #[.slice (some ⟨wc.heap.size, 0, none⟩) 2 2, .slice (some ⟨wc.heap.size + 1, 0, none⟩) 2 2] 45)) = X := ⟨_, rfl⟩
    rw [hW7] at CS7 b67
    have B7 := XB.out.trans (b67.mono XB.out.size)
    go_wp2_with (first | (go_at_call 21; refine (prod_Join.calls 60 2 (some ⟨bv, 0, none⟩) 2 aw_vars (some ⟨bb, 0, none⟩) 2 aw_body (some ⟨wc.heap.size + 1 + 1, 0, none⟩) 2 [[1, 2], [3, 0]] [1, 2, 3, 0] 0 W7 (CVw _ B7) (by decide) (CBw _ B7) (by decide) CS7 (by decide) aw_join).mono ?_; rintro e W8 ⟨v, rfl, os, hb8⟩; obtain ⟨As, cs_, e_⟩ := Kd.R_slice os; subst e_; have B8 := B7.trans (hb8.mono B7.size); obtain ⟨y0, y1, y2⟩ := pS _ B8; have w8 := b67.trans (hb8.mono b67.size)) | (go_at_call 25; refine (prod_Copy.calls 60 2 (some ⟨bv, 0, none⟩) 2 aw_vars (some ⟨bb, 0, none⟩) 2 aw_body 3 0 [] [] 1 W8 (CVw _ B8) (by decide) (CBw _ B8) (by decide) aw_copy).mono ?_; rintro e W9 ⟨v1, v2, rfl, oc1, oc2, hb9⟩; obtain ⟨A9, c9, e_⟩ := Kd.R_slice oc1; subst e_; obtain ⟨A10, c10, e_⟩ := Kd.V_slice oc2; subst e_; have B9 := B8.trans (hb9.mono B8.size); have OS9 := Kd.R_below os hb9; have w9 := w8.trans (hb9.mono w8.size)) | (go_at_call 16; refine (prod_Told.calls 60 (some ⟨W9.heap.size + 1, 0, none⟩) 2 [⟨17, 3⟩, ⟨1, 2⟩] 1 [⟨1, 3⟩] _ (aw_outs2 W9 A9 c9 A10 c10) (by decide) aw_told).mono ?_; rintro e W11 ⟨v, rfl, ot, hb11⟩; obtain ⟨At, ct, e_⟩ := Kd.R_slice ot; subst e_; have b9 := (bal (bal (Below.refl W9.heap.size W9) (.cells #[.int .i64 0, .slice A9 0 c9, .slice A10 0 c10] 25)) (.cells #[.int .i64 17, .int .i64 3, .int .i64 1, .int .i64 2] 74)).trans (hb11.mono (by simp; omega)); have w11 := w9.trans (b9.mono w9.size); have B11 := B9.trans (b9.mono B9.size); have OS11 := Kd.R_below OS9 b9; have q11 := (B11.block _ (blk_lt QR.out)).trans QR.out; have u1 : W11.cell? ⟨W4.heap.size, 1, none⟩ = some (.slice D1 aw_qv.length d1) := (blk_cell q11 1).trans rfl; have u2 : W11.cell? ⟨W4.heap.size, 2, none⟩ = some (.slice D2 aw_qb.length d2) := (blk_cell q11 2).trans rfl))
    obtain ⟨ad1, e1, v0, v1, v2⟩ := at_T66 (Kd.C_below C1.out B11) 2 (by decide) (by decide)
    obtain ⟨ad2, B2, b2, B3, b3, B4, b4, e2, _, n3, _, _, _, _, _, _, _, _, _⟩ := at_T64 (Kd.C_below C2.out B11) 3 (by decide) (by decide)
    obtain ⟨ad3, B5, b5, B6, b6, B7', b7', e3, _, n2, _, _, _, _, _, _, _, _, _⟩ := at_T64 (Kd.C_below C2.out B11) 2 (by decide) (by decide)
    obtain rfl : ad2 = ad3 := Option.some.inj (e2.symm.trans e3)
    subst e1 e2
    clear e3
    have xG := (w11.block _ (blk_lt XG.out)).trans XG.out
    have XCf := Aside0.mk (Kd.C_below XC.out w11)
    have OSf := Aside0.mk OS11
    have OTf := Aside0.mk ot
    have BWf := Aside0.mk (BW.out.trans (B11.mono BW.out.size))
    have v0 : W11.cell? ⟨ad1.block, ad1.off + 6, none⟩ = some (.string ⟨#[104, 95, 49]⟩) := v0
    have v1 : W11.cell? ⟨ad1.block, ad1.off + 6 + 1, none⟩ = some (.int .i64 17) := v1
    have v2 : W11.cell? ⟨ad1.block, ad1.off + 6 + 2, none⟩ = some (.int .i64 1) := v2
    have n3 : W11.cell? ⟨ad2.block, ad2.off + 15 + 1, none⟩ = some (.int .i64 18) := n3
    have n2 : W11.cell? ⟨ad2.block, ad2.off + 10 + 1, none⟩ = some (.int .i64 2) := n2
    have x0 : W11.cell? ⟨G, 0, none⟩ = some (.int .i64 13) := (blk_cell xG 0).trans rfl
    have x1 : W11.cell? ⟨G, 1, none⟩ = some (.int .i64 0) := (blk_cell xG 1).trans rfl
    have x2 : W11.cell? ⟨G, 2, none⟩ = some (.int .i64 0) := (blk_cell xG 2).trans rfl
    have x3 : W11.cell? ⟨G, 3, none⟩ = some (.slice D 2 d) := (blk_cell xG 3).trans rfl
    have sS : ∀ W, Below W11.heap.size W11 W → W.cell? ⟨W4.heap.size, 1, none⟩ = some (.slice (some ad1) aw_qv.length d1) ∧ W.cell? ⟨W4.heap.size, 2, none⟩ = some (.slice (some ad2) aw_qb.length d2) ∧ W.cell? ⟨ad1.block, ad1.off + 6, none⟩ = some (.string ⟨#[104, 95, 49]⟩) ∧ W.cell? ⟨ad1.block, ad1.off + 6 + 1, none⟩ = some (.int .i64 17) ∧ W.cell? ⟨ad1.block, ad1.off + 6 + 2, none⟩ = some (.int .i64 1) ∧ W.cell? ⟨ad2.block, ad2.off + 15 + 1, none⟩ = some (.int .i64 18) ∧ W.cell? ⟨ad2.block, ad2.off + 10 + 1, none⟩ = some (.int .i64 2) ∧ W.cell? ⟨G, 0, none⟩ = some (.int .i64 13) ∧ W.cell? ⟨G, 1, none⟩ = some (.int .i64 0) ∧ W.cell? ⟨G, 2, none⟩ = some (.int .i64 0) ∧ W.cell? ⟨G, 3, none⟩ = some (.slice D 2 d) := fun W hW => ⟨(hW.cell (World.block_lt_of_cell? W11 _ u1)).trans u1, (hW.cell (World.block_lt_of_cell? W11 _ u2)).trans u2, (hW.cell (World.block_lt_of_cell? W11 _ v0)).trans v0, (hW.cell (World.block_lt_of_cell? W11 _ v1)).trans v1, (hW.cell (World.block_lt_of_cell? W11 _ v2)).trans v2, (hW.cell (World.block_lt_of_cell? W11 _ n3)).trans n3, (hW.cell (World.block_lt_of_cell? W11 _ n2)).trans n2, (hW.cell (World.block_lt_of_cell? W11 _ x0)).trans x0, (hW.cell (World.block_lt_of_cell? W11 _ x1)).trans x1, (hW.cell (World.block_lt_of_cell? W11 _ x2)).trans x2, (hW.cell (World.block_lt_of_cell? W11 _ x3)).trans x3⟩
    refine start_ (n := 42) (S := fun W => W.cell? ⟨W4.heap.size, 1, none⟩ = some (.slice (some ad1) aw_qv.length d1) ∧ W.cell? ⟨W4.heap.size, 2, none⟩ = some (.slice (some ad2) aw_qb.length d2) ∧ W.cell? ⟨ad1.block, ad1.off + 6, none⟩ = some (.string ⟨#[104, 95, 49]⟩) ∧ W.cell? ⟨ad1.block, ad1.off + 6 + 1, none⟩ = some (.int .i64 17) ∧ W.cell? ⟨ad1.block, ad1.off + 6 + 2, none⟩ = some (.int .i64 1) ∧ W.cell? ⟨ad2.block, ad2.off + 15 + 1, none⟩ = some (.int .i64 18) ∧ W.cell? ⟨ad2.block, ad2.off + 10 + 1, none⟩ = some (.int .i64 2) ∧ W.cell? ⟨G, 0, none⟩ = some (.int .i64 13) ∧ W.cell? ⟨G, 1, none⟩ = some (.int .i64 0) ∧ W.cell? ⟨G, 2, none⟩ = some (.int .i64 0) ∧ W.cell? ⟨G, 3, none⟩ = some (.slice D 2 d)) (ds := []) #[false, false, false, false, false, false, false, false, false, false, false, false, false, false, false, false, false, false, false, false, false, false, false, false, false, false, false, false, false, false, false, false, false, false, false, false, false, false, false, false, false, false] (by kernel_rfl) rfl rfl (sS _ (below_drew (Below.refl _ _))) (fun hHeld => ?_)
    have b0 := below_drew (Below.refl W11.heap.size W11)
    generalize W11.drew = U0 at b0 hHeld ⊢
    refine pu (i := 0) (N := some 79) (bl 42 1) rfl rfl (by kernel_rfl) ?_
    refine tk (i := 1) (N := some 80) (bl 42 3) rfl rfl (by kernel_rfl) hHeld ?_
    refine pu (i := 2) (N := some 81) (bl 42 7) rfl rfl (by kernel_rfl) ?_
    refine tk (i := 3) (N := some 82) (bl 42 15) rfl rfl (by kernel_rfl) hHeld ?_
    refine pu (i := 4) (N := some 83) (bl 42 31) rfl rfl (by kernel_rfl) ?_
    refine pu (i := 5) (N := some 84) (bl 42 63) rfl rfl (by kernel_rfl) ?_
    refine pu (i := 6) (N := some 85) (bl 42 127) rfl rfl (by kernel_rfl) ?_
    refine pu (i := 7) (N := some 86) (bl 42 255) rfl rfl (by kernel_rfl) ?_
    refine tk (i := 8) (N := some 87) (bl 42 511) rfl rfl (by kernel_rfl) hHeld ?_
    refine pu (i := 9) (N := some 88) (bl 42 1023) rfl rfl (by kernel_rfl) ?_
    refine pu (i := 10) (N := some 89) (bl 42 2047) rfl rfl (by kernel_rfl) ?_
    refine tk (i := 11) (N := some 90) (bl 42 4095) rfl rfl (by kernel_rfl) hHeld ?_
    refine pu (i := 12) (N := some 91) (bl 42 8191) rfl rfl (by kernel_rfl) ?_
    refine pu (i := 13) (N := some 92) (bl 42 16383) rfl rfl (by kernel_rfl) ?_
    refine pu (i := 14) (N := some 93) (bl 42 32767) rfl rfl (by kernel_rfl) ?_
    refine pu (i := 15) (N := some 94) (bl 42 65535) rfl rfl (by kernel_rfl) ?_
    refine tk (i := 16) (N := some 95) (bl 42 131071) rfl rfl (by kernel_rfl) hHeld ?_
    refine pu (i := 17) (N := some 96) (bl 42 262143) rfl rfl (by kernel_rfl) ?_
    refine pu (i := 18) (N := some 97) (bl 42 524287) rfl rfl (by kernel_rfl) ?_
    refine tk (i := 19) (N := some 98) (bl 42 1048575) rfl rfl (by kernel_rfl) hHeld ?_
    refine pu (i := 20) (N := some 99) (bl 42 2097151) rfl rfl (by kernel_rfl) ?_
    refine pu (i := 21) (N := some 100) (bl 42 4194303) rfl rfl (by kernel_rfl) ?_
    refine pu (i := 22) (N := some 101) (bl 42 8388607) rfl rfl (by kernel_rfl) ?_
    refine tk (i := 23) (N := some 102) (bl 42 16777215) rfl rfl (by kernel_rfl) hHeld ?_
    refine one_ (i := 24) (N := (some 103)) (bl 42 33554431) rfl rfl (by kernel_rfl) (by decide) (fun K hK => ?_)
    refine goes_ Try.func41 (by kernel_rfl) rfl #[.int .i64 0, .int .i64 0] (by rfl) rfl rfl (by (try simp only [List.map_toArray, List.map_cons, List.map_nil]); rfl) ?_
    refine (r2_Read.calls 0 0 1 0 0 [] U0 (aw_read 0 0)).mono ?_
    rintro e X1 ⟨v, rfl, o_, hb_⟩
    obtain ⟨Ea, fa, e_⟩ := Kd.R_slice o_
    subst e_
    clear o_
    have c1 := b0.trans (hb_.mono b0.size)
    refine ⟨_, rfl, ?_⟩
    refine hK.out _ _ (sS _ c1) (fun hHeld => ?_)
    clear hK K
    refine nm 103 ?_
    refine one_ (i := 25) (N := (some 104)) (bl 42 67108863) rfl rfl (by kernel_rfl) (by decide) (fun K hK => ?_)
    refine goes_ Try.func41 (by kernel_rfl) rfl #[.int .i64 3, .int .i64 0] (by rfl) rfl rfl (by (try simp only [List.map_toArray, List.map_cons, List.map_nil]); rfl) ?_
    refine (r2_Read.calls 3 0 1 3 0 [] X1 (aw_read 3 0)).mono ?_
    rintro e X2 ⟨v, rfl, o_, hb_⟩
    obtain ⟨Eb, fb, e_⟩ := Kd.R_slice o_
    subst e_
    clear o_
    have c2 := c1.trans (hb_.mono c1.size)
    refine ⟨_, rfl, ?_⟩
    refine hK.out _ _ (sS _ c2) (fun hHeld => ?_)
    clear hK K
    refine nm 104 ?_
    refine one_ (i := 26) (N := (some 105)) (bl 42 134217727) rfl rfl (by kernel_rfl) (by decide) (fun K hK => ?_)
    refine value_ (w1 := ?_) (v := ?_) (by rfl) rfl ?_ ?_
    rotate_left 2
    · go_simp
      constructor
      · rfl
      · rfl
    have vf := aw_row2 X2 0 0 3 0 Ea fa Eb fb
    have hb_ := bal (Below.refl X2.heap.size X2) (.cells #[.int .i64 1, .int .i64 0, .int .i64 0, .slice Ea 0 fa, .int .i64 1, .int .i64 3, .int .i64 0, .slice Eb 0 fb] 28)
    (try simp only [List.length_nil])
    generalize X2.alloc (.cells #[.int .i64 1, .int .i64 0, .int .i64 0, .slice Ea 0 fa, .int .i64 1, .int .i64 3, .int .i64 0, .slice Eb 0 fb] 28) = X3 at vf hb_ ⊢
    have c3 := c2.trans (hb_.mono c2.size)
    refine hK.out _ _ (sS _ c3) (fun hHeld => ?_)
    clear hK K
    refine nm 105 ?_
    refine one_ (i := 27) (N := (some 106)) (bl 42 268435455) rfl rfl (by kernel_rfl) (by decide) (fun K hK => ?_)
    refine goes_ Try.func42 (by kernel_rfl) rfl #[.int .i64 13, .slice (some ⟨X2.heap.size, 0, none⟩) 2 2] (by rfl) rfl rfl (by (try simp only [List.map_toArray, List.map_cons, List.map_nil]); rfl) ?_
    refine (r2_Of.calls 13 (fun _ => True) (some ⟨X2.heap.size, 0, none⟩) 2 [aw_r 0 0, aw_r 3 0] 13 0 0 [aw_r 0 0, aw_r 3 0] X3 vf aw_of2).mono ?_
    rintro e X4 ⟨v, rfl, vo, hb_⟩
    obtain ⟨Ec, fc, e_⟩ := Kd.V_slice vo
    subst e_
    have c4 := c3.trans (hb_.mono c3.size)
    refine ⟨_, rfl, ?_⟩
    refine hK.out _ _ (sS _ c4) (fun hHeld => ?_)
    clear hK K
    refine nm 106 ?_
    refine one_ (i := 28) (N := (some 107)) (bl 42 536870911) rfl rfl (by kernel_rfl) (by decide) (fun K hK => ?_)
    refine goes_ Try.func14 (by kernel_rfl) rfl #[.agg #[.int .i64 13, .int .i64 0, .int .i64 0, .slice D 2 d], .agg #[.int .i64 13, .int .i64 0, .int .i64 0, .slice Ec 2 fc]] (by rfl) rfl rfl (by (try simp only [List.map_toArray, List.map_cons, List.map_nil]); rfl) ?_
    refine (r2_Same.calls 60 13 0 0 D d [aw_r 0 0, aw_r 3 0] 13 0 0 Ec fc [aw_r 0 0, aw_r 3 0] true X4 (Kd.C_below XCf.out c4) Xd.out (Kd.V_reads' vo).2.2 (Kd.V_reads' vo).2.1 aw_sameE).mono ?_
    rintro e X5 ⟨rfl, hb_⟩
    have c5 := c4.trans (hb_.mono c4.size)
    refine ⟨_, rfl, ?_⟩
    refine hK.out _ _ (sS _ c5) (fun hHeld => ?_)
    clear hK K
    refine nm 107 ?_
    refine pu (i := 29) (N := some 108) (bl 42 1073741823) rfl rfl (by kernel_rfl) ?_
    refine pu (i := 30) (N := some 109) (bl 42 2147483647) rfl rfl (by kernel_rfl) ?_
    refine pu (i := 31) (N := some 110) (bl 42 4294967295) rfl rfl (by kernel_rfl) ?_
    refine one_ (i := 32) (N := (some 111)) (bl 42 8589934591) rfl rfl (by kernel_rfl) (by decide) (fun K hK => ?_)
    refine value_ (w1 := ?_) (v := ?_) (by rfl) rfl ?_ ?_
    rotate_left 2
    · go_simp
      constructor
      · rfl
      · rfl
    have ci := aw_int4 (blk_new X5 (.cells #[.int .i64 1, .int .i64 2, .int .i64 3, .int .i64 0] 3))
    have hb_ := bal (Below.refl X5.heap.size X5) (.cells #[.int .i64 1, .int .i64 2, .int .i64 3, .int .i64 0] 3)
    generalize X5.alloc (.cells #[.int .i64 1, .int .i64 2, .int .i64 3, .int .i64 0] 3) = X6 at ci hb_ ⊢
    have c6 := c5.trans (hb_.mono c5.size)
    refine hK.out _ _ (sS _ c6) (fun hHeld => ?_)
    clear hK K
    refine nm 111 ?_
    refine one_ (i := 33) (N := (some 112)) (bl 42 17179869183) rfl rfl (by kernel_rfl) (by decide) (fun K hK => ?_)
    refine goes_ Try.func35 (by kernel_rfl) rfl #[.slice As 4 cs_, .slice (some ⟨X5.heap.size, 0, none⟩) 4 4] (by rfl) rfl rfl (by (try simp only [List.map_toArray, List.map_cons, List.map_nil]); rfl) ?_
    refine (r1_Same.calls 60 As cs_ [1, 2, 3, 0] (some ⟨X5.heap.size, 0, none⟩) 4 [1, 2, 3, 0] true X6 (Kd.R_reads' (Kd.R_below OSf.out c6)).2.2 (Kd.R_reads' OSf.out).2.1 ci (by decide) aw_sameI).mono ?_
    rintro e X7 ⟨rfl, hd_⟩
    have hb_ : Below X6.heap.size X6 X7 := by
      obtain ⟨nd, rfl⟩ := hd_
      exact bdN (Below.refl _ _) nd
    clear hd_
    have c7 := c6.trans (hb_.mono c6.size)
    refine ⟨_, rfl, ?_⟩
    refine hK.out _ _ (sS _ c7) (fun hHeld => ?_)
    clear hK K
    refine nm 112 ?_
    refine pu (i := 34) (N := some 113) (bl 42 34359738367) rfl rfl (by kernel_rfl) ?_
    refine pu (i := 35) (N := some 114) (bl 42 68719476735) rfl rfl (by kernel_rfl) ?_
    refine pu (i := 36) (N := some 115) (bl 42 137438953471) rfl rfl (by kernel_rfl) ?_
    refine pu (i := 37) (N := some 116) (bl 42 274877906943) rfl rfl (by kernel_rfl) ?_
    refine one_ (i := 38) (N := (some 117)) (bl 42 549755813887) rfl rfl (by kernel_rfl) (by decide) (fun K hK => ?_)
    refine value_ (w1 := ?_) (v := ?_) (by rfl) rfl ?_ ?_
    rotate_left 2
    · go_simp
      constructor
      · rfl
      · rfl
    have co := aw_out1 (blk_new X7 (.cells #[.int .i64 1, .int .i64 3] 74))
    have hb_ := bal (Below.refl X7.heap.size X7) (.cells #[.int .i64 1, .int .i64 3] 74)
    generalize X7.alloc (.cells #[.int .i64 1, .int .i64 3] 74) = X8 at co hb_ ⊢
    have c8 := c7.trans (hb_.mono c7.size)
    refine hK.out _ _ (sS _ c8) (fun hHeld => ?_)
    clear hK K
    refine nm 117 ?_
    refine one_ (i := 39) (N := (some 118)) (bl 42 1099511627775) rfl rfl (by kernel_rfl) (by decide) (fun K hK => ?_)
    refine goes_ Try.func15 (by kernel_rfl) rfl #[.slice At 1 ct, .slice (some ⟨X7.heap.size, 0, none⟩) 1 1] (by rfl) rfl rfl (by (try simp only [List.map_toArray, List.map_cons, List.map_nil]); rfl) ?_
    refine (r5_Outs.calls 60 At ct [⟨1, 3⟩] (some ⟨X7.heap.size, 0, none⟩) 1 [⟨1, 3⟩] true X8 (Kd.R_reads' (Kd.R_below OTf.out c8)).2.2 (Kd.R_reads' OTf.out).2.1 co (by decide) aw_outs).mono ?_
    rintro e X9 ⟨rfl, hd_⟩
    have hb_ : Below X8.heap.size X8 X9 := by
      obtain ⟨nd, rfl⟩ := hd_
      exact bdN (Below.refl _ _) nd
    clear hd_
    have c9_ := c8.trans (hb_.mono c8.size)
    refine ⟨_, rfl, ?_⟩
    refine hK.out _ _ (sS _ c9_) (fun hHeld => ?_)
    clear hK K
    refine nm 118 ?_
    refine pu (i := 40) (N := some 119) (bl 42 2199023255551) rfl rfl (by kernel_rfl) ?_
    refine pu (i := 41) (N := some 0) (bl 42 4398046511103) rfl rfl (by kernel_rfl) ?_
    refine done_ (by kernel_rfl) ?_
    try simp only [Exit.then]
    go_wp2
    go_ret
    exact ⟨rfl, BWf.out.trans (c9_.mono BWf.out.size)⟩
end Go.Proofs.Ytilebfkehmecaaa.Print
namespace Go.Proofs.Ytilebfkehmecaaa.Print
open Go.RowKit Go.Proofs.YtilebfkehmecaaaW.PrintWords Go.Proofs.YtilebfkehmecaaaW.PrintLast Go.Proofs.YtilebfkehmecaaaW.PrintMore
attribute [local go_sem] max2_int min2_int max_two min_two max_three min_three max_four min_four
set_option linter.unusedVariables false
set_option linter.unusedSimpArgs false
theorem jnR_ok {w : Int} {vars : List S66} {body : List S64} {l : List (List Int)} (h : (jnR w vars body l).2 = 0) :
    cpE w vars body (l.length : Int) = 0 ∧ l.all (isSto w vars) = true ∧ jnR w vars body l = (l.flatten, 0) := by
  unfold jnR at h ⊢
  by_cases hc : cpE w vars body (l.length : Int) = 0
  · rw [if_pos hc] at h ⊢
    unfold jnV at h ⊢
    by_cases ha : l.all (isSto w vars) = true
    · rw [if_pos ha] at h ⊢
      exact ⟨hc, ha, rfl⟩
    · rw [if_neg ha] at h; cases h
  · rw [if_neg hc] at h
    exact absurd h hc
theorem valid_flatten {p : Int} : ∀ {l : List (List Int)}, (∀ s ∈ l, valid p s = true) → valid p l.flatten = true := by
  intro l h
  rw [valid_iff]
  intro x hx
  rw [List.mem_flatten] at hx
  obtain ⟨s, hs, hx⟩ := hx
  exact valid_iff.1 (h s hs) x hx
theorem split_join {w : Int} {vars : List S66} {body : List S64} {l : List (List Int)} (h : (jnR w vars body l).2 = 0) : spR w vars body (l.length : Int) (jnR w vars body l).1 = (l, 0) := by
  obtain ⟨hc, ha, e⟩ := jnR_ok h
  rw [e]
  obtain ⟨hp, _, _, _⟩ := cpE_ok hc
  obtain ⟨_, _, _, _, k0, _⟩ := pIs_cells hp
  have hall := List.all_eq_true.1 ha
  have hf := flatten_len k0 (l := l) (fun s hs => (isSto_len (hall s hs)).1)
  unfold spR isWide
  rw [if_pos hc, decide_eq_true hf, valid_flatten (fun s hs => (isSto_len (hall s hs)).2), Bool.true_and, if_pos rfl, Int.toNat_natCast]
  have := chunks_flat (n := (cs vars).toNat) l (fun s hs => by have := (isSto_len (hall s hs)).1; omega) [] (by simp) l.length rfl
  rw [List.flatten_nil, List.append_nil] at this
  rw [this]
def r3_exprs.l0 : Nat → List (S28) → List (S28) → Int → Option (Bool)
 | 0, _, _, _ => none
 | k + 1, x0, x1, x5 => if x5 < (x0.length : Int) then (if 0 ≤ x5 then (if x5 < (x1.length : Int) then ((r2_Same.f k ((rd_T28 x0 x5).f0) ((rd_T28 x0 x5).f1) ((rd_T28 x0 x5).f2) ((rd_T28 x0 x5).f3) ((rd_T28 x1 x5).f0) ((rd_T28 x1 x5).f1) ((rd_T28 x1 x5).f2) ((rd_T28 x1 x5).f3)).bind fun t627 => (if t627 = true then (r3_exprs.l0 k x0 x1 (wrap64 (x5 + 1))) else (some false))) else (none)) else (none)) else (some true)
def r3_exprs.f (k : Nat) (l0 : List (S28)) (l1 : List (S28)) : Option (Bool) := if (l0.length : Int) = (l1.length : Int) then (r3_exprs.l0 k l0 l1 0) else (some false)
def r3_exprs.T6 : Bool × List (List Nat × List Nat) := (true, [([], []), ([], []), ([0, 1], [0, 1]), ([2], [2]), ([], []), ([], []), ([4, 5], [4, 5]), ([6], [6]), ([3, 7], [3, 7]), ([8], [8])])
def r3_exprs.B6 : List Nat := [0, 0, 3, 7, 0, 0, 48, 112, 255, 511]
theorem r3_exprs.tab6 : rtab .any (opsOf Try.f117 6) = r3_exprs.T6 := by kernel_rfl
theorem r3_exprs.bits6 : waitsOk r3_exprs.T6.2 r3_exprs.B6 = true := by kernel_rfl
theorem r3_exprs.calls (k : Nat) (A0 : Option Addr) (c0 : Nat) (l0 : List (S28)) (A1 : Option Addr) (c1 : Nat) (l1 : List (S28)) (r : Bool) (w : World) (hr0 : Kd.C k28 w A0 l0.length l0) (hc0 : l0.length ≤ c0) (hr1 : Kd.C k28 w A1 l1.length l1) (hc1 : l1.length ≤ c1) (h : r3_exprs.f k l0 l1 = some r) :
  Calls Try.prog 117 #[.slice A0 l0.length c0, .slice A1 l1.length c1] w fun e w' => e = .returned (.bool r) ∧ Below w.heap.size w w' := by
 have hu28 := Try.underlying28
 have HR0 := Aside0.mk hr0
 have HC0 := Aside0.mk hc0
 clear hr0 hc0
 have HR1 := Aside0.mk hr1
 have HC1 := Aside0.mk hc1
 clear hr1 hc1
 have HB := Aside0.mk (Below.refl w.heap.size w)
 have H : (if (l0.length : Int) = (l1.length : Int) then (r3_exprs.l0 k l0 l1 0) else (some false)) = some r := h
 clear h
 by_cases c3 : (l0.length : Int) = (l1.length : Int)
 rotate_left
 ·rw [if_neg c3] at H
  have c3b0 : ((l0.length : Int) == (l1.length : Int)) = false := beq_eq_false_iff_ne.mpr c3
  have c3b1 : ((l0.length : Int) != (l1.length : Int)) = true := bne_iff_ne.mpr c3
  have c3b2 : (l0.length == l1.length) = false := by first | simpa using c3 | (simp at c3 ⊢; omega)
  obtain rfl := Option.some.inj H
  go_enter Try.func117, Try.ntmps117
  go_wp2
  go_ret
  exact ⟨rr, bb HB⟩
 rw [if_pos c3] at H
 have c3b0 : ((l0.length : Int) == (l1.length : Int)) = true := beq_iff_eq.mpr c3
 have c3b1 : ((l0.length : Int) != (l1.length : Int)) = false := bne_eq_false_iff_eq.mpr c3
 have c3b2 : (l0.length == l1.length) = true := by first | simpa using c3 | (simp at c3 ⊢; omega)
 clear c3
 have H' := Aside0.mk H
 clear H
 go_enter Try.func117, Try.ntmps117
 go_wp2
 go_loopg [5] k (fun kq v5 w' => ∃ (x5_1 : Int), v5 = .int .i64 x5_1 ∧ Aside0 (r3_exprs.l0 kq l0 l1 x5_1 = some r) ∧ Aside0 (kq ≤ k) ∧ Aside0 (Below w.heap.size w w'))
 case atStart => exact ⟨(0), rs, H', ⟨Nat.le_refl _⟩, ⟨bb HB⟩⟩
 case round =>
  clear H'
  try clear c1
  try clear p2
  try clear c3
  try clear c3b0
  try clear c3b1
  try clear c3b2
  obtain ⟨x5_1, rfl, HA, HK1, HB⟩ := hrel
  cases gk with
  | zero => exact absurd HA.out (by simp [r3_exprs.l0])
  | succ k1 =>
   have H := HA.out
   clear HA
   simp only [r3_exprs.l0] at H
   by_cases c4 : x5_1 < (l0.length : Int)
   rotate_left
   ·rw [if_neg c4] at H
    have c4b0 : decide (x5_1 < (l0.length : Int)) = false := decide_eq_false c4
    clear c4
    obtain rfl := Option.some.inj H
    go_wp2
    go_ret
    exact ⟨rr, bb HB⟩
   rw [if_pos c4] at H
   have c4b0 : decide (x5_1 < (l0.length : Int)) = true := decide_eq_true c4
   clear c4
   by_cases c5 : 0 ≤ x5_1
   rotate_left
   ·rw [if_neg c5] at H
    exact absurd H (by simp)
   rw [if_pos c5] at H
   have c5b0 : decide (0 ≤ x5_1) = true := decide_eq_true c5
   clear c5
   by_cases c6 : x5_1 < (l1.length : Int)
   rotate_left
   ·rw [if_neg c6] at H
    exact absurd H (by simp)
   rw [if_pos c6] at H
   have c6b0 : decide (x5_1 < (l1.length : Int)) = true := decide_eq_true c6
   clear c6
   obtain ⟨t627, A7, H⟩ := be H
   by_cases c8 : t627 = true
   rotate_left
   ·replace c8 := Bool.eq_false_iff.mpr c8
    subst c8
    replace H := fi H
    obtain rfl := Option.some.inj H
    try go_wp2
    replace HB := Aside0.mk (bd1 HB.out)
    have p625 : 0 ≤ (x5_1 : Int) := od
    have q625 : x5_1 < (l0.length : Int) := od
    obtain ⟨ad625, A625_3, c625_3, e625, hx625_0, hx625_1, hx625_2, hx625_3, hl625_3, hi625_3⟩ := at_T28 HR0.out x5_1 p625 q625
    have hw625_3 := hx625_3
    have hw625_2 := hx625_2
    have hw625_1 := hx625_1
    have hw625_0 := hx625_0
    cases e625
    replace hx625_0 := bcell HB.out hx625_0
    replace hx625_1 := bcell HB.out hx625_1
    replace hx625_2 := bcell HB.out hx625_2
    replace hx625_3 := bcell HB.out hx625_3
    have HR625_3 := Aside0.mk hi625_3
    have HC625_3 := Aside0.mk hl625_3
    clear hi625_3 hl625_3
    replace p625 := eq_true p625
    replace q625 := eq_true q625
    have p626 : 0 ≤ (x5_1 : Int) := od
    have q626 : x5_1 < (l1.length : Int) := od
    obtain ⟨ad626, A626_3, c626_3, e626, hx626_0, hx626_1, hx626_2, hx626_3, hl626_3, hi626_3⟩ := at_T28 HR1.out x5_1 p626 q626
    have hw626_3 := hx626_3
    have hw626_2 := hx626_2
    have hw626_1 := hx626_1
    have hw626_0 := hx626_0
    cases e626
    replace hx626_0 := bcell HB.out hx626_0
    replace hx626_1 := bcell HB.out hx626_1
    replace hx626_2 := bcell HB.out hx626_2
    replace hx626_3 := bcell HB.out hx626_3
    have HR626_3 := Aside0.mk hi626_3
    have HC626_3 := Aside0.mk hl626_3
    clear hi626_3 hl626_3
    replace p626 := eq_true p626
    replace q626 := eq_true q626
    refine start_ (n := 10) (S := fun w' => w'.cell? (ad625.add ((x5_1).toNat * 4)) = some (.int .i64 ((rd_T28 l0 x5_1).f0)) ∧ w'.cell? ⟨(ad625.add ((x5_1).toNat * 4)).block, (ad625.add ((x5_1).toNat * 4)).off + 1, none⟩ = some (.int .i64 ((rd_T28 l0 x5_1).f1)) ∧ w'.cell? ⟨(ad625.add ((x5_1).toNat * 4)).block, (ad625.add ((x5_1).toNat * 4)).off + 2, none⟩ = some (.int .i64 ((rd_T28 l0 x5_1).f2)) ∧ w'.cell? ⟨(ad625.add ((x5_1).toNat * 4)).block, (ad625.add ((x5_1).toNat * 4)).off + 3, none⟩ = some (.slice A625_3 ((rd_T28 l0 x5_1).f3).length c625_3) ∧ w'.cell? (ad626.add ((x5_1).toNat * 4)) = some (.int .i64 ((rd_T28 l1 x5_1).f0)) ∧ w'.cell? ⟨(ad626.add ((x5_1).toNat * 4)).block, (ad626.add ((x5_1).toNat * 4)).off + 1, none⟩ = some (.int .i64 ((rd_T28 l1 x5_1).f1)) ∧ w'.cell? ⟨(ad626.add ((x5_1).toNat * 4)).block, (ad626.add ((x5_1).toNat * 4)).off + 2, none⟩ = some (.int .i64 ((rd_T28 l1 x5_1).f2)) ∧ w'.cell? ⟨(ad626.add ((x5_1).toNat * 4)).block, (ad626.add ((x5_1).toNat * 4)).off + 3, none⟩ = some (.slice A626_3 ((rd_T28 l1 x5_1).f3).length c626_3)) (ds := []) #[false, false, false, false, false, false, false, false, false, false] (by kernel_rfl) rfl rfl ⟨(bcell HB.out hw625_0), (bcell HB.out hw625_1), (bcell HB.out hw625_2), (bcell HB.out hw625_3), (bcell HB.out hw626_0), (bcell HB.out hw626_1), (bcell HB.out hw626_2), (bcell HB.out hw626_3)⟩ (fun hHeld => ?_); refine with_tabW r3_exprs.tab6 r3_exprs.bits6 (fun HT_ HW_ => ?_)
    generalize wr.drew = w11 at HB HR625_3 HR626_3 hx625_0 hx625_1 hx625_2 hx625_3 hx626_0 hx626_1 hx626_2 hx626_3 hHeld ⊢
    refine pT 0 17 (bl 10 1) HT_ rfl rfl ?_
    refine pT 1 18 (bl 10 3) HT_ rfl rfl ?_
    refine pT 2 19 (bl 10 7) HT_ rfl rfl ?_
    refine pT 4 21 (bl 10 23) HT_ rfl rfl ?_
    refine pT 5 22 (bl 10 55) HT_ rfl rfl ?_
    refine pT 6 23 (bl 10 119) HT_ rfl rfl ?_
    refine tk (i := 3) (N := some 20) (bl 10 127) rfl rfl (take_ofW HT_.out HW_.out (by kernel_rfl)) hHeld ?_
    refine tk (i := 7) (N := some 24) (bl 10 255) rfl rfl (take_ofW HT_.out HW_.out (by kernel_rfl)) hHeld ?_
    refine one_ (i := 8) (N := some 25) (bl 10 511) rfl rfl (one_of HT_.out (by kernel_rfl)) (by decide) (fun K hK => ?_)
    refine gO Try.func14 #[.agg #[.int .i64 ((rd_T28 l0 x5_1).f0), .int .i64 ((rd_T28 l0 x5_1).f1), .int .i64 ((rd_T28 l0 x5_1).f2), .slice A625_3 ((rd_T28 l0 x5_1).f3).length c625_3], .agg #[.int .i64 ((rd_T28 l1 x5_1).f0), .int .i64 ((rd_T28 l1 x5_1).f1), .int .i64 ((rd_T28 l1 x5_1).f2), .slice A626_3 ((rd_T28 l1 x5_1).f3).length c626_3]] (by rfl) rfl rfl ?_
    with_reducible refine (r2_Same.calls k1 ((rd_T28 l0 x5_1).f0) ((rd_T28 l0 x5_1).f1) ((rd_T28 l0 x5_1).f2) _ _ ((rd_T28 l0 x5_1).f3) ((rd_T28 l1 x5_1).f0) ((rd_T28 l1 x5_1).f1) ((rd_T28 l1 x5_1).f2) _ _ ((rd_T28 l1 x5_1).f3) false _ ?side1 ?side2 ?side3 ?side4 A7.out).mono ?_
    (case side1 => exact cb HR625_3 HB)
    (case side2 => exact HC625_3.out)
    (case side3 => exact cb HR626_3 HB)
    (case side4 => exact HC626_3.out)
    rintro e w12 ⟨rfl, hb⟩
    refine ⟨_, rfl, ?_⟩
    replace HB := sb HB hb
    (try clear hb)
    (try clear hb2)
    (try clear hk)
    (try clear hi)
    refine hK.out _ _ ⟨(bcell HB.out hw625_0), (bcell HB.out hw625_1), (bcell HB.out hw625_2), (bcell HB.out hw625_3), (bcell HB.out hw626_0), (bcell HB.out hw626_1), (bcell HB.out hw626_2), (bcell HB.out hw626_3)⟩ (fun hHeld => ?_)
    clear hK K
    refine nm 25 ?_
    refine pT 9 26 (bl 10 1023) HT_ rfl rfl ?_
    refine done_ (done_of HT_.out (by kernel_rfl)) ?_
    try go_wp2
    go_ret
    exact ⟨rr, bb HB⟩
   subst c8
   replace H := it H
   have H' := Aside0.mk H
   clear H
   try go_wp2
   replace HB := Aside0.mk (bd1 HB.out)
   have p625 : 0 ≤ (x5_1 : Int) := od
   have q625 : x5_1 < (l0.length : Int) := od
   obtain ⟨ad625, A625_3, c625_3, e625, hx625_0, hx625_1, hx625_2, hx625_3, hl625_3, hi625_3⟩ := at_T28 HR0.out x5_1 p625 q625
   have hw625_3 := hx625_3
   have hw625_2 := hx625_2
   have hw625_1 := hx625_1
   have hw625_0 := hx625_0
   cases e625
   replace hx625_0 := bcell HB.out hx625_0
   replace hx625_1 := bcell HB.out hx625_1
   replace hx625_2 := bcell HB.out hx625_2
   replace hx625_3 := bcell HB.out hx625_3
   have HR625_3 := Aside0.mk hi625_3
   have HC625_3 := Aside0.mk hl625_3
   clear hi625_3 hl625_3
   replace p625 := eq_true p625
   replace q625 := eq_true q625
   have p626 : 0 ≤ (x5_1 : Int) := od
   have q626 : x5_1 < (l1.length : Int) := od
   obtain ⟨ad626, A626_3, c626_3, e626, hx626_0, hx626_1, hx626_2, hx626_3, hl626_3, hi626_3⟩ := at_T28 HR1.out x5_1 p626 q626
   have hw626_3 := hx626_3
   have hw626_2 := hx626_2
   have hw626_1 := hx626_1
   have hw626_0 := hx626_0
   cases e626
   replace hx626_0 := bcell HB.out hx626_0
   replace hx626_1 := bcell HB.out hx626_1
   replace hx626_2 := bcell HB.out hx626_2
   replace hx626_3 := bcell HB.out hx626_3
   have HR626_3 := Aside0.mk hi626_3
   have HC626_3 := Aside0.mk hl626_3
   clear hi626_3 hl626_3
   replace p626 := eq_true p626
   replace q626 := eq_true q626
   refine start_ (n := 10) (S := fun w' => w'.cell? (ad625.add ((x5_1).toNat * 4)) = some (.int .i64 ((rd_T28 l0 x5_1).f0)) ∧ w'.cell? ⟨(ad625.add ((x5_1).toNat * 4)).block, (ad625.add ((x5_1).toNat * 4)).off + 1, none⟩ = some (.int .i64 ((rd_T28 l0 x5_1).f1)) ∧ w'.cell? ⟨(ad625.add ((x5_1).toNat * 4)).block, (ad625.add ((x5_1).toNat * 4)).off + 2, none⟩ = some (.int .i64 ((rd_T28 l0 x5_1).f2)) ∧ w'.cell? ⟨(ad625.add ((x5_1).toNat * 4)).block, (ad625.add ((x5_1).toNat * 4)).off + 3, none⟩ = some (.slice A625_3 ((rd_T28 l0 x5_1).f3).length c625_3) ∧ w'.cell? (ad626.add ((x5_1).toNat * 4)) = some (.int .i64 ((rd_T28 l1 x5_1).f0)) ∧ w'.cell? ⟨(ad626.add ((x5_1).toNat * 4)).block, (ad626.add ((x5_1).toNat * 4)).off + 1, none⟩ = some (.int .i64 ((rd_T28 l1 x5_1).f1)) ∧ w'.cell? ⟨(ad626.add ((x5_1).toNat * 4)).block, (ad626.add ((x5_1).toNat * 4)).off + 2, none⟩ = some (.int .i64 ((rd_T28 l1 x5_1).f2)) ∧ w'.cell? ⟨(ad626.add ((x5_1).toNat * 4)).block, (ad626.add ((x5_1).toNat * 4)).off + 3, none⟩ = some (.slice A626_3 ((rd_T28 l1 x5_1).f3).length c626_3)) (ds := []) #[false, false, false, false, false, false, false, false, false, false] (by kernel_rfl) rfl rfl ⟨(bcell HB.out hw625_0), (bcell HB.out hw625_1), (bcell HB.out hw625_2), (bcell HB.out hw625_3), (bcell HB.out hw626_0), (bcell HB.out hw626_1), (bcell HB.out hw626_2), (bcell HB.out hw626_3)⟩ (fun hHeld => ?_); refine with_tabW r3_exprs.tab6 r3_exprs.bits6 (fun HT_ HW_ => ?_)
   generalize wr.drew = w9 at HB HR625_3 HR626_3 hx625_0 hx625_1 hx625_2 hx625_3 hx626_0 hx626_1 hx626_2 hx626_3 hHeld ⊢
   refine pT 0 17 (bl 10 1) HT_ rfl rfl ?_
   refine pT 1 18 (bl 10 3) HT_ rfl rfl ?_
   refine pT 2 19 (bl 10 7) HT_ rfl rfl ?_
   refine pT 4 21 (bl 10 23) HT_ rfl rfl ?_
   refine pT 5 22 (bl 10 55) HT_ rfl rfl ?_
   refine pT 6 23 (bl 10 119) HT_ rfl rfl ?_
   refine tk (i := 3) (N := some 20) (bl 10 127) rfl rfl (take_ofW HT_.out HW_.out (by kernel_rfl)) hHeld ?_
   refine tk (i := 7) (N := some 24) (bl 10 255) rfl rfl (take_ofW HT_.out HW_.out (by kernel_rfl)) hHeld ?_
   refine one_ (i := 8) (N := some 25) (bl 10 511) rfl rfl (one_of HT_.out (by kernel_rfl)) (by decide) (fun K hK => ?_)
   refine gO Try.func14 #[.agg #[.int .i64 ((rd_T28 l0 x5_1).f0), .int .i64 ((rd_T28 l0 x5_1).f1), .int .i64 ((rd_T28 l0 x5_1).f2), .slice A625_3 ((rd_T28 l0 x5_1).f3).length c625_3], .agg #[.int .i64 ((rd_T28 l1 x5_1).f0), .int .i64 ((rd_T28 l1 x5_1).f1), .int .i64 ((rd_T28 l1 x5_1).f2), .slice A626_3 ((rd_T28 l1 x5_1).f3).length c626_3]] (by rfl) rfl rfl ?_
   with_reducible refine (r2_Same.calls k1 ((rd_T28 l0 x5_1).f0) ((rd_T28 l0 x5_1).f1) ((rd_T28 l0 x5_1).f2) _ _ ((rd_T28 l0 x5_1).f3) ((rd_T28 l1 x5_1).f0) ((rd_T28 l1 x5_1).f1) ((rd_T28 l1 x5_1).f2) _ _ ((rd_T28 l1 x5_1).f3) true _ ?side1 ?side2 ?side3 ?side4 A7.out).mono ?_
   (case side1 => exact cb HR625_3 HB)
   (case side2 => exact HC625_3.out)
   (case side3 => exact cb HR626_3 HB)
   (case side4 => exact HC626_3.out)
   rintro e w10 ⟨rfl, hb⟩
   refine ⟨_, rfl, ?_⟩
   replace HB := sb HB hb
   (try clear hb)
   (try clear hb2)
   (try clear hk)
   (try clear hi)
   refine hK.out _ _ ⟨(bcell HB.out hw625_0), (bcell HB.out hw625_1), (bcell HB.out hw625_2), (bcell HB.out hw625_3), (bcell HB.out hw626_0), (bcell HB.out hw626_1), (bcell HB.out hw626_2), (bcell HB.out hw626_3)⟩ (fun hHeld => ?_)
   clear hK K
   refine nm 25 ?_
   refine pT 9 26 (bl 10 1023) HT_ rfl rfl ?_
   refine done_ (done_of HT_.out (by kernel_rfl)) ?_
   try go_wp2
   go_roundg k1
   case measure => have := HK1.out; omega
   case rel => exact ⟨(wrap64 (x5_1 + 1)), rs, H', ⟨by have := HK1.out; omega⟩, ⟨bb HB⟩⟩
end Go.Proofs.Ytilebfkehmecaaa.Print
