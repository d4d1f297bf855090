/- For every program the law CompOwn returns true, and what came in reads as before. No condition. -/
import Derived.Test.YtnlekgadadifdaaO5
import Derived.Orders
import Derived.OrdersHeld
set_option maxRecDepth 100000
set_option maxHeartbeats 16000000
namespace Go.Proofs.Ytnlekgadadifdaa.Print
open Go.RowKit Go.Proofs.YtnlekgadadifdaaW.PrintWords Go.Proofs.YtnlekgadadifdaaW.PrintLast Go.Proofs.YtnlekgadadifdaaW.PrintMore
attribute [local go_sem] max2_int min2_int max_two min_two max_three min_three max_four min_four
set_option linter.unusedVariables false
set_option linter.unusedSimpArgs false
open Go.RowKit
def cPatch (x : S40) (n : Int) : S40 := if x.f0 = 6 then ⟨x.f0, x.f1, n, x.f3, x.f4⟩ else ⟨x.f0, n, x.f2, x.f3, x.f4⟩
theorem comp_store.calls (w0 w : World) (b : Nat) (Q : Nat → Prop) (v1 v2 v3 : Value) (I : List S40) (P : List Int) (v r : Int) (hB : Below w0.heap.size w0 w) (hb : w0.heap.size ≤ b) (h : CSt w w0.heap.size b Q v1 v2 v3 I P) (hI : I.length < 1000000) :
    Calls Try.prog 74 #[.pointer (some ⟨b, 0, none⟩), .int .i64 v, .int .i64 r] w fun e w' => e = .returned (.tuple #[]) ∧ CSt w' w0.heap.size b (fun k => Q k ∨ w.heap.size ≤ k) v1 v2 v3 (I ++ [⟨4, v, 0, r, 0⟩]) P ∧ Below w0.heap.size w0 w' ∧ Kept w w' (fun k => Q k ∨ k = b) := by
  have hbl := h.lt
  have huC := Try.underlying75
  have H := Aside0.mk h
  have HB := Aside0.mk hB
  clear h hB
  go_enter Try.func74, Try.ntmps74
  go_wp2_with (first | (go_at_call 39; refine (comp_put.calls w0 w b Q v1 v2 v3 I P ⟨4, v, 0, r, 0⟩ HB.out hb H.out hI).mono ?_; rintro e Y ⟨rfl, hs, hb2, hk⟩))
  go_end0
  exact ⟨rfl, hs, hb2, hk⟩
theorem comp_patch.calls (w : World) (b : Nat) (n : Int) :
    Calls Try.prog 86 #[.pointer (some ⟨b, 0, none⟩), .int .i64 n] w fun e w' => e = .returned (.func (.func 92) #[] #[.pointer (some ⟨w.heap.size, 0, none⟩), .pointer (some ⟨w.heap.size + 1, 0, none⟩)]) ∧ w'.heap[w.heap.size]? = some (.cells #[.pointer (some ⟨b, 0, none⟩)] 69 (0, 0)) ∧ w'.heap[w.heap.size + 1]? = some (.cells #[.int .i64 n] 3 (0, 0)) ∧ w'.heap.size = w.heap.size + 2 ∧ Below w.heap.size w w' := by
  have h1 := kal (blk_new w (.cells #[.pointer (some ⟨b, 0, none⟩)] 69)) (.cells #[.int .i64 n] 3)
  have h2 := blk_new (w.alloc (.cells #[.pointer (some ⟨b, 0, none⟩)] 69)) (.cells #[.int .i64 n] 3)
  have h3 : (w.alloc (.cells #[.pointer (some ⟨b, 0, none⟩)] 69)).heap.size = w.heap.size + 1 := by simp
  rw [h3] at h2
  have h4 : ((w.alloc (.cells #[.pointer (some ⟨b, 0, none⟩)] 69)).alloc (.cells #[.int .i64 n] 3)).heap.size = w.heap.size + 2 := by simp
  have h5 := bal (bal (Below.refl w.heap.size w) (.cells #[.pointer (some ⟨b, 0, none⟩)] 69)) (.cells #[.int .i64 n] 3)
  have HA := Aside0.mk (And.intro h1 (And.intro h2 (And.intro h4 h5)))
  clear h1 h2 h3 h4 h5
  go_enter Try.func86, Try.ntmps86
  go_wp2
  go_ret
  obtain ⟨h1, h2, h4, h5⟩ := HA.out
  exact ⟨rfl, h1, h2, h4, h5⟩
theorem CSt_patch {W : World} {B b : Nat} {Q : Nat → Prop} {v1 v2 v3 : Value} {I : List S40} {P : List Int} {g c : Nat} {A' : Option Addr} {c' : Nat} {i : Nat} {x : S40} (h1 : W.heap[b]? = some (.cells #[.slice (some ⟨g, 0, none⟩) I.length c, v1, v2, v3, .slice A' P.length c'] 75 (0, 0))) (h2 : Kd.R k40 40 W B Q (.slice (some ⟨g, 0, none⟩) I.length c) I) (h3 : Kd.R (Kd.int .i64) 3 W B Q (.slice A' P.length c') P) (hx : I[i]? = some x) :
    (W.cell? ⟨g, i * 5, none⟩ = some (.int .i64 x.f0) ∧ W.cell? ⟨g, i * 5 + 1, none⟩ = some (.int .i64 x.f1) ∧ W.cell? ⟨g, i * 5 + 2, none⟩ = some (.int .i64 x.f2)) ∧ (∀ j, W.frozen? ⟨g, j, none⟩ = false) ∧
    ∀ n : Int, CSt (W.setCell ⟨g, i * 5 + 2, none⟩ (.int .i64 n)) B b Q v1 v2 v3 (I.set i ⟨x.f0, x.f1, n, x.f3, x.f4⟩) P ∧ CSt (W.setCell ⟨g, i * 5 + 1, none⟩ (.int .i64 n)) B b Q v1 v2 v3 (I.set i ⟨x.f0, n, x.f2, x.f3, x.f4⟩) P ∧ Q g ∧ B ≤ g := by
  have hi : i < I.length := by
    rcases Nat.lt_or_ge i I.length with h | h
    · exact h
    · rw [List.getElem?_eq_none h] at hx; cases hx
  have hgb : b ≠ g := fun e => Kd.R_ne h2 h1 (by decide) (by rw [e]; rfl)
  obtain ⟨cs, hcl, hM, hcc, hfz⟩ := Kd.R_elem h2 z40 (i : Int) (by omega) (by omega)
  have hgx : I.getD (i : Int).toNat z40 = x := by rw [Int.toNat_natCast, List.getD_eq_getElem?_getD, hx]; rfl
  rw [hgx] at hM
  obtain rfl := k40_openM hM
  have hz : k40.sz = 5 := rfl
  have ht := Kd.R_typed h2 g rfl
  obtain ⟨cur, ht⟩ := ht
  have hq : Q g := h2.1 g rfl
  have hgB : B ≤ g := Kd.R_base h2 g rfl
  have put : ∀ (n : Int) (j : Nat) (x' : S40) (hj : j + 1 ≤ 5), [Value.int .i64 x'.f0, .int .i64 x'.f1, .int .i64 x'.f2, .int .i64 x'.f3, .int .i64 x'.f4] = [Value.int .i64 x.f0, .int .i64 x.f1, .int .i64 x.f2, .int .i64 x.f3, .int .i64 x.f4].take j ++ [.int .i64 n] ++ [Value.int .i64 x.f0, .int .i64 x.f1, .int .i64 x.f2, .int .i64 x.f3, .int .i64 x.f4].drop (j + 1) →
      CSt (W.setCell ⟨g, i * 5 + j, none⟩ (.int .i64 n)) B b Q v1 v2 v3 (I.set i x') P := by
    intro n j x' hj he
    obtain ⟨r1, r2⟩ := Kd.R_seg h2 (i : Int) (by omega) (by omega) (seg := [.int .i64 n]) (j := j) hcl hcc (show j + 1 ≤ 5 from hj) (x' := x') (okp := fun _ => False) (by show k40.M _ _ _ _ (_ ++ _ ++ List.drop (j + 1) _); rw [← he]; exact k40_mkM W B _ _) (fun _ hk => hk.elim)
    rw [hz, Int.toNat_natCast] at r1 r2
    have r3 := Kd.R_over' h3 (v := .slice (some ⟨g, 0, none⟩) I.length c) (Kd.R_typed h2) (by decide) (show W.grownBy (W.setCell ⟨g, i * 5 + j, none⟩ (.int .i64 n)) (some g) from r2)
    refine ⟨some ⟨g, 0, none⟩, c, A', c', ?_, ?_, r3⟩
    · rw [List.length_set]
      exact (Below.heap_setCell _ _ _ _ hgb).trans h1
    · rw [List.length_set]
      exact r1
  rw [hz, Int.toNat_natCast] at hcc
  exact ⟨⟨hcc 0 _ rfl, hcc 1 _ rfl, hcc 2 _ rfl⟩, fun j => blk_frozen ht j, fun n => ⟨put n 2 _ (by decide) rfl, put n 1 _ (by decide) rfl, hq, hgB⟩⟩
theorem comp_over.both (w0 w : World) (b g1 g2 : Nat) (Q : Nat → Prop) (v1 v2 v3 : Value) (I : List S40) (P : List Int) (i : Nat) (x : S40) (hB : Below w0.heap.size w0 w) (hb : w0.heap.size ≤ b) (h : CSt w w0.heap.size b Q v1 v2 v3 I P)
    (hg1 : w.heap[g1]? = some (.cells #[.pointer (some ⟨b, 0, none⟩)] 69 (0, 0))) (hg2 : w.heap[g2]? = some (.cells #[.int .i64 (i : Int)] 3 (0, 0))) (hx : I[i]? = some x) :
    (Calls Try.prog 92 #[.pointer (some ⟨g1, 0, none⟩), .pointer (some ⟨g2, 0, none⟩)] w fun e w' => e = .returned (.tuple #[]) ∧ CSt w' w0.heap.size b (fun k => Q k ∨ w.heap.size ≤ k) v1 v2 v3 (I.set i (cPatch x I.length)) P ∧ Below w0.heap.size w0 w' ∧ Kept w w' (fun k => Q k ∨ k = b)) ∧ ∀ u, CallsD Try.prog 92 #[.pointer (some ⟨g1, 0, none⟩), .pointer (some ⟨g2, 0, none⟩)] u w fun e u' w' => u' = u ∧ (e = .returned (.tuple #[]) ∧ CSt w' w0.heap.size b (fun k => Q k ∨ w.heap.size ≤ k) v1 v2 v3 (I.set i (cPatch x I.length)) P ∧ Below w0.heap.size w0 w' ∧ Kept w w' (fun k => Q k ∨ k = b)) := by
  suffices H : ∀ c, Try.f92.body = some c → c.wp Try.prog (bodyPost Try.prog Try.f92 (fun e w' => e = .returned (.tuple #[]) ∧ CSt w' w0.heap.size b (fun k => Q k ∨ w.heap.size ≤ k) v1 v2 v3 (I.set i (cPatch x I.length)) P ∧ Below w0.heap.size w0 w' ∧ Kept w w' (fun k => Q k ∨ k = b))) { tmps := #[.pointer (some ⟨g1, 0, none⟩), .pointer (some ⟨g2, 0, none⟩)] ++ Array.replicate (Try.f92.ntmps - (#[.pointer (some ⟨g1, 0, none⟩), .pointer (some ⟨g2, 0, none⟩)] : Array Value).size) undef, defers := [] } w from ⟨calls_of_wp Try.func92 rfl (H _ rfl), fun u => callsD_of_wp Try.func92 rfl (H _ rfl)⟩
  intro code hcode
  obtain rfl := Option.some.inj (show some _ = some code from hcode)
  clear hcode
  obtain ⟨A, c, A', c', h1, h2, h3⟩ := h
  have huI := Try.underlying29
  have huO := Try.underlying73
  have huC := Try.underlying75
  have huX := Try.underlying40
  have hi : i < I.length := by
    rcases Nat.lt_or_ge i I.length with h | h
    · exact h
    · rw [List.getElem?_eq_none h] at hx; cases hx
  obtain ⟨g, rfl⟩ : ∃ g, A = some ⟨g, 0, none⟩ := by
    obtain ⟨_, inner, ⟨_, ho⟩, _⟩ := h2
    rcases ho with ⟨hv, h0⟩ | ⟨g, cap, cur, hv, _⟩
    · injection hv with e1 e2 e3
      omega
    · injection hv with e1 e2 e3
      exact ⟨g, e1⟩
  have hI := (Kd.R_reads' h2).2.2.2.1
  have HD := Aside0.mk (below_drew (Below.refl w.heap.size w))
  have H1 := Aside0.mk (kdr h1)
  have G1 := Aside0.mk (kdr hg1)
  have G2 := Aside0.mk (kdr hg2)
  have H2 := Aside0.mk (Kd.R_drew h2)
  have H3 := Aside0.mk (Kd.R_drew h3)
  have HB := Aside0.mk hB
  have hbl := blk_lt h1
  clear h1 h2 h3 hg1 hg2 hB
  simp only [Try.ntmps92, List.size_toArray, List.length_cons, List.length_nil, Nat.reduceAdd, Nat.reduceSub, Array.replicate_succ, Array.replicate_zero, List.push_toArray, List.append_toArray, List.nil_append, List.cons_append]
  go_wp2
  refine start_ (n := 8) (S := fun w' => w'.cell? ⟨g1, 0, none⟩ = some (.pointer (some ⟨b, 0, none⟩)) ∧ w'.cell? ⟨g2, 0, none⟩ = some (.int .i64 (i : Int)) ∧ w'.cell? ⟨b, 0, none⟩ = some (.slice (some ⟨g, 0, none⟩) I.length c)) (ds := []) #[false, false, false, false, false, false, false, false] (by kernel_rfl) rfl rfl ⟨(blk_cell G1.out 0).trans rfl, (blk_cell G2.out 0).trans rfl, (blk_cell H1.out 0).trans rfl⟩ (fun hHeld => ?_)
  generalize w.drew = Y at HD H1 H2 H3 G1 G2 hHeld ⊢
  refine tk (i := 0) (N := some 3) (bl 8 1) rfl rfl (by kernel_rfl) hHeld ?_
  refine pu (i := 1) (N := some 4) (bl 8 3) rfl rfl (by kernel_rfl) ?_
  refine pu (i := 2) (N := some 5) (bl 8 7) rfl rfl (by kernel_rfl) ?_
  refine pu (i := 3) (N := some 6) (bl 8 15) rfl rfl (by kernel_rfl) ?_
  refine tk (i := 4) (N := some 7) (bl 8 31) rfl rfl (by kernel_rfl) hHeld ?_
  refine tk (i := 5) (N := some 8) (bl 8 63) rfl rfl (by kernel_rfl) hHeld ?_
  refine pu (i := 6) (N := some 9) (bl 8 127) rfl rfl (by kernel_rfl) ?_
  refine pu (i := 7) (N := some 2) (bl 8 255) rfl rfl (by kernel_rfl) ?_
  refine done_ (by kernel_rfl) ?_
  clear hHeld
  have HW := Aside0.mk hx
  obtain ⟨⟨p0, p1, p2⟩, hfz, hst⟩ := CSt_patch H1.out H2.out H3.out hx
  have hs0 : CSt Y w0.heap.size b Q v1 v2 v3 I P := ⟨_, _, _, _, H1.out, H2.out, H3.out⟩
  have HS0 := Aside0.mk hs0
  clear hs0 hx hfz hst p1 p2
  have c1 : Y.cell? ⟨g1, 0, none⟩ = some (.pointer (some ⟨b, 0, none⟩)) := (blk_cell G1.out 0).trans rfl
  have c2 : Y.cell? ⟨g2, 0, none⟩ = some (.int .i64 (i : Int)) := (blk_cell G2.out 0).trans rfl
  have hgl : g < Y.heap.size := Kd.R_lt H2.out g rfl
  have fin : ∀ (W : World) (j : Nat), Below Y.heap.size Y W → CSt (W.setCell ⟨g, j, none⟩ (.int .i64 (I.length : Int))) w0.heap.size b Q v1 v2 v3 (I.set i (cPatch x I.length)) P → Q g → w0.heap.size ≤ g →
      (CSt (W.setCell ⟨g, j, none⟩ (.int .i64 (I.length : Int))) w0.heap.size b (fun k => Q k ∨ w.heap.size ≤ k) v1 v2 v3 (I.set i (cPatch x I.length)) P ∧ Below w0.heap.size w0 (W.setCell ⟨g, j, none⟩ (.int .i64 (I.length : Int))) ∧ Kept w (W.setCell ⟨g, j, none⟩ (.int .i64 (I.length : Int))) (fun k => Q k ∨ k = b)) := by
    intro W j hW hs hq hg
    have hWw : Below w.heap.size w W := HD.out.trans (hW.mono HD.out.size)
    exact ⟨hs.mono (fun k hk _ => .inl hk), ((HB.out.trans (hWw.mono HB.out.size)).trans ((Below.refl _ _).setCell hg _)), (Kept.of_below hWw _).setCell (p := ⟨g, j, none⟩) (.inl (.inl hq)) _⟩
  have FIN := Aside0.mk fin
  clear fin
  by_cases h6 : x.f0 = 6
  · have e6 : (x.f0 == 6) = true := beq_iff_eq.mpr h6
    go_wp2_with (first | (go_at_call 62; refine (comp_here.calls Y w0.heap.size b Q v1 v2 v3 I P HS0.out).mono ?_; rintro e W ⟨rfl, hw⟩; obtain ⟨⟨p0', p1', p2'⟩, hfz, hst⟩ := CSt_patch (blk_below H1.out hw) (Kd.R_below H2.out hw) (Kd.R_below H3.out hw) HW.out; have z2 := hfz (i * 5 + 2); have HST := Aside0.mk (hst (I.length : Int)); have HWW := Aside0.mk hw; clear hst hfz hw p0' p1'))
    go_end0
    obtain ⟨q1, q2, q3, q4⟩ := HST.out
    exact ⟨rfl, FIN.out _ _ HWW.out (by rw [cPatch, if_pos h6]; exact q1) q3 q4⟩
  · have e6 : (x.f0 == 6) = false := beq_eq_false_iff_ne.mpr h6
    go_wp2_with (first | (go_at_call 62; refine (comp_here.calls Y w0.heap.size b Q v1 v2 v3 I P HS0.out).mono ?_; rintro e W ⟨rfl, hw⟩; obtain ⟨⟨p0', p1', p2'⟩, hfz, hst⟩ := CSt_patch (blk_below H1.out hw) (Kd.R_below H2.out hw) (Kd.R_below H3.out hw) HW.out; have z2 := hfz (i * 5 + 1); have HST := Aside0.mk (hst (I.length : Int)); have HWW := Aside0.mk hw; clear hst hfz hw p0' p2'))
    go_end0
    obtain ⟨q1, q2, q3, q4⟩ := HST.out
    exact ⟨rfl, FIN.out _ _ HWW.out (by rw [cPatch, if_neg h6]; exact q2) q3 q4⟩
def brC (p : Nat) (C T E bs : List S40) (has : Bool) : List S40 :=
  if has = true then C ++ (⟨6, 0, ((p + C.length + 1 + T.length + 1 : Nat) : Int), 0, 0⟩ :: T) ++ (⟨5, ((p + C.length + 1 + T.length + 1 + E.length : Nat) : Int), 0, 0, 0⟩ :: E) else C ++ (⟨6, 0, ((p + C.length + 1 + T.length + bs.length : Nat) : Int), 0, 0⟩ :: T) ++ bs
def cT (op n : Int) (m : Nat) : List S40 :=
  if op = 0 then [⟨4, n, 0, (m : Int) - 1, 0⟩] else if op = 3 then [⟨7, n, 0, 0, 0⟩] else if op = 4 then [⟨8, m, 0, 0, 0⟩, ⟨4, n, 0, m, 0⟩] else if op = 5 then [⟨9, 0, 0, 0, 0⟩] else if op = 6 then [⟨10, 0, 0, 0, 0⟩] else []
def hdE (a : List S52) : S52 := a.headD ⟨0, 0, 0, []⟩
mutual
def nS : S57 → Nat
  | ⟨op, n, a, t, e⟩ => if op = 1 ∨ op = 2 then nE (hdE a) + 1 + nSs t + (if e.length = 0 then (if op = 2 then 1 else 0) else 1 + nSs e) else nAs a + (cT op n a.length).length
def nSs : List S57 → Nat
  | [] => 0
  | x :: r => nS x + nSs r
end
mutual
def cS : S57 → Nat → List S40
  | ⟨op, n, a, t, e⟩, p => if op = 1 ∨ op = 2 then brC p (cE (hdE a) 0) (cSs t (p + nE (hdE a) + 1)) (cSs e (p + nE (hdE a) + 1 + nSs t + 1)) (if op = 2 then [⟨5, (p : Int), 0, 0, 0⟩] else []) (decide (0 < e.length)) else cAs a 0 ++ cT op n a.length
def cSs : List S57 → Nat → List S40
  | [], _ => []
  | x :: r, p => cS x p ++ cSs r (p + nS x)
end
mutual
def plS : S57 → Nat → List Int
  | ⟨op, n, a, t, e⟩, p => if op = 1 ∨ op = 2 then plSs t (p + nE (hdE a) + 1) ++ plSs e (p + nE (hdE a) + 1 + nSs t + 1) else []
def plSs : List S57 → Nat → List Int
  | [], _ => []
  | x :: r, p => ((p : Int) :: plS x p) ++ plSs r (p + nS x)
end
mutual
def kS : S57 → Nat
  | ⟨op, _, _, t, e⟩ => if op = 1 ∨ op = 2 then kSs t + kSs e + 1 else 1
def kSs : List S57 → Nat
  | [] => 0
  | x :: r => kS x + kSs r
end
mutual
def okS : S57 → Prop
  | ⟨op, _, a, t, e⟩ => (op = 1 ∨ op = 2 → a ≠ []) ∧ okSs t ∧ okSs e
def okSs : List S57 → Prop
  | [] => True
  | x :: r => okS x ∧ okSs r
end
theorem stmts_ind {Q : List S57 → Prop} (h : ∀ l, (∀ x ∈ l, Q x.f3 ∧ Q x.f4) → Q l) : ∀ l, Q l :=
  fun l => h l (S57.rec_1 (motive_1 := fun x => Q x.f3 ∧ Q x.f4) (motive_2 := fun l => ∀ x ∈ l, Q x.f3 ∧ Q x.f4) (fun _ _ _ t e h1 h2 => ⟨h t h1, h e h2⟩) (fun _ h => by simp at h) (fun x r h1 h2 y hy => by rcases List.mem_cons.1 hy with rfl | h; exact h1; exact h2 y h) l)
theorem brC_len (p : Nat) (C T E bs : List S40) (has : Bool) : (brC p C T E bs has).length = C.length + 1 + T.length + (if has = true then 1 + E.length else bs.length) := by
  unfold brC
  split <;> simp <;> omega
theorem cSs_len : ∀ (l : List S57) (p : Nat), (cSs l p).length = nSs l := by
  refine stmts_ind fun l ih => ?_
  induction l with
  | nil => intro p; rfl
  | cons x r ih2 =>
    intro p
    obtain ⟨op, n, a, t, e⟩ := x
    obtain ⟨h1, h2⟩ := ih _ (List.mem_cons_self ..)
    rw [cSs, nSs, List.length_append, ih2 (fun y hy => ih y (List.mem_cons_of_mem _ hy)), cS, nS]
    congr 1
    split
    · rw [brC_len, cE_len, h1, h2]
      dsimp only
      by_cases he : e.length = 0
      · simp [he]; split <;> simp
      · have : 0 < e.length := by omega
        simp [he, this]
    · rw [List.length_append, cAs_len]
theorem plSs_len : ∀ (l : List S57) (p : Nat), (plSs l p).length = kSs l := by
  refine stmts_ind fun l ih => ?_
  induction l with
  | nil => intro p; rfl
  | cons x r ih2 =>
    intro p
    obtain ⟨op, n, a, t, e⟩ := x
    obtain ⟨h1, h2⟩ := ih _ (List.mem_cons_self ..)
    rw [plSs, kSs, List.length_append, ih2 (fun y hy => ih y (List.mem_cons_of_mem _ hy)), plS, kS]
    congr 1
    split
    · rw [List.length_cons, List.length_append, h1, h2]
    · rfl
def LC (w0 : World) (b : Nat) (v1 v2 v3 : Value) (l : List S57) : Prop :=
  ∀ (A : Option Addr) (c : Nat) (I : List S40) (P : List Int) (Q : Nat → Prop) (w : World), Kd.C k57 w0 A l.length l → l.length ≤ c → okSs l → I.length + nSs l + 10 < 1000000 → P.length + kSs l < 1000000 →
    Below w0.heap.size w0 w → CSt w w0.heap.size b Q v1 v2 v3 I P → (∀ k, Q k → k < w.heap.size) →
    Calls Try.prog 38 #[.pointer (some ⟨b, 0, none⟩), .slice A l.length c] w fun e w' => e = .returned (.tuple #[]) ∧ CSt w' w0.heap.size b (fun k => Q k ∨ w.heap.size ≤ k) v1 v2 v3 (I ++ cSs l I.length) (P ++ plSs l I.length) ∧ Below w0.heap.size w0 w' ∧ Kept w w' (fun k => Q k ∨ k = b)
def Beh (w0 : World) (b : Nat) (v1 v2 v3 : Value) (f : FuncId) (cap : Array Value) (R : Nat → Prop) (W : World) (bs : List S40) : Prop :=
  ∀ (Y : World) (Q : Nat → Prop) (I : List S40) (P : List Int), (∀ k, R k → Y.heap[k]? = W.heap[k]?) → Below w0.heap.size w0 Y → CSt Y w0.heap.size b Q v1 v2 v3 I P → I.length < 1000000 →
    Calls Try.prog f cap Y fun e w' => e = .returned (.tuple #[]) ∧ CSt w' w0.heap.size b (fun k => Q k ∨ Y.heap.size ≤ k) v1 v2 v3 (I ++ bs) P ∧ Below w0.heap.size w0 w' ∧ Kept Y w' (fun k => Q k ∨ k = b)
theorem set_mid {α : Type} (X : List α) (a b : α) (Y : List α) (i : Nat) (hi : i = X.length) : (X ++ a :: Y).set i b = X ++ b :: Y := by
  subst hi
  simp
theorem comp_branch.calls (w0 : World) (b : Nat) (v1 v2 v3 : Value) (hb : w0.heap.size ≤ b) (op n : Int) (a : List S52) (t e : List S57) (A2 : Option Addr) (c2 : Nat) (A3 : Option Addr) (c3 : Nat) (A4 : Option Addr) (c4 : Nat) (f : FuncId) (hfb : f = 76 ∨ f = 77) (cap : Array Value) (R : Nat → Prop) (bs : List S40) (I : List S40) (P : List Int) (Q : Nat → Prop) (w : World)
    (hr2 : Kd.C k52 w0 A2 a.length a) (hc2 : a.length ≤ c2) (hr3 : Kd.C k57 w0 A3 t.length t) (hc3 : t.length ≤ c3) (hr4 : Kd.C k57 w0 A4 e.length e) (hc4 : e.length ≤ c4) (hLt : LC w0 b v1 v2 v3 t) (hLe : LC w0 b v1 v2 v3 e) (ha : a ≠ []) (hot : okSs t) (hoe : okSs e)
    (hI : I.length + nE (hdE a) + 1 + nSs t + (if e.length = 0 then bs.length else 1 + nSs e) + 10 < 1000000) (hP : P.length + kSs t + kSs e < 1000000) (hB : Below w0.heap.size w0 w) (hS : CSt w w0.heap.size b Q v1 v2 v3 I P) (hQ : ∀ k, Q k → k < w.heap.size) (hR : ∀ k, R k → k < w.heap.size ∧ ¬ Q k ∧ k ≠ b) (hbeh : Beh w0 b v1 v2 v3 f cap R w bs) :
    Calls Try.prog 75 #[.pointer (some ⟨b, 0, none⟩), .agg #[.int .i64 op, .int .i64 n, .slice A2 a.length c2, .slice A3 t.length c3, .slice A4 e.length c4], .func (.func f) #[] cap] w fun en w' => en = .returned (.tuple #[]) ∧
      CSt w' w0.heap.size b (fun k => Q k ∨ w.heap.size ≤ k) v1 v2 v3 (I ++ brC I.length (cE (hdE a) 0) (cSs t (I.length + nE (hdE a) + 1)) (cSs e (I.length + nE (hdE a) + 1 + nSs t + 1)) bs (decide (0 < e.length))) (P ++ (plSs t (I.length + nE (hdE a) + 1) ++ plSs e (I.length + nE (hdE a) + 1 + nSs t + 1))) ∧ Below w0.heap.size w0 w' ∧ Kept w w' (fun k => Q k ∨ k = b) := by
  obtain ⟨⟨xo, xn, xc, xl⟩, ar, rfl⟩ : ∃ x ar, a = x :: ar := by
    cases a with
    | nil => exact absurd rfl ha
    | cons x ar => exact ⟨x, ar, rfl⟩
  have huS := Try.underlying57
  have huC := Try.underlying75
  simp only [hdE, List.headD_cons] at hI ⊢
  have HI := Aside0.mk hI
  have hI0 : I.length + (nAs xl + 1) + 1 + nSs t + 10 < 1000000 := by rw [nE] at hI; split at hI <;> omega
  clear hI
  generalize hal : ((⟨xo, xn, xc, xl⟩ : S52) :: ar).length = al at hr2 hc2 ⊢
  have hal0 : 0 < al := by rw [← hal]; simp
  have hal1 := hr2.2.1
  obtain ⟨ad, B3, d3, e3, q0, q1, q2, q3, ql3, qr3⟩ := at_T52 hr2 (0 : Int) (by omega) (by omega)
  subst e3
  have hx0 : rd_T52 ((⟨xo, xn, xc, xl⟩ : S52) :: ar) 0 = ⟨xo, xn, xc, xl⟩ := rfl
  rw [hx0] at q0 q1 q2 q3 ql3 qr3
  dsimp only at q0 q1 q2 q3 ql3 qr3
  have hbl := hS.lt
  have AL := bal (Below.refl w.heap.size w) (.cells #[.int .i64 op, .int .i64 n, .slice (some ad) al c2, .slice A3 t.length c3, .slice A4 e.length c4] 57)
  have HX := Aside0.mk (blk_new w (.cells #[.int .i64 op, .int .i64 n, .slice (some ad) al c2, .slice A3 t.length c3, .slice A4 e.length c4] 57))
  have HS := Aside0.mk (hS.below AL)
  have HB := Aside0.mk (hB.trans (AL.mono hB.size))
  have HK := Aside0.mk (show Kept w _ (fun k => Q k ∨ k = b) from Kept.of_below AL _)
  have hsz : (w.alloc (.cells #[.int .i64 op, .int .i64 n, .slice (some ad) al c2, .slice A3 t.length c3, .slice A4 e.length c4] 57)).heap.size = w.heap.size + 1 := by simp
  have HSZ := Aside0.mk hsz
  replace q0 := (HB.out.cell (World.block_lt_of_cell? w0 _ q0)).trans q0
  replace q1 := (HB.out.cell (World.block_lt_of_cell? w0 _ q1)).trans q1
  replace q2 := (HB.out.cell (World.block_lt_of_cell? w0 _ q2)).trans q2
  replace q3 := (HB.out.cell (World.block_lt_of_cell? w0 _ q3)).trans q3
  have HQ := Aside0.mk hQ
  have HR := Aside0.mk hR
  have QR := Aside0.mk qr3
  have QL := Aside0.mk ql3
  have R3 := Aside0.mk hr3
  have R4 := Aside0.mk hr4
  have C3 := Aside0.mk hc3
  have C4 := Aside0.mk hc4
  have LT := Aside0.mk hLt
  have LE := Aside0.mk hLe
  have OT := Aside0.mk hot
  have OE := Aside0.mk hoe
  have BH := Aside0.mk hbeh
  have ha3 := hr3.2.1
  have ha4 := hr4.2.1
  clear hr2 hc2 hr3 hc3 hr4 hc4 hLt hLe hot hoe hB hS hQ hR hbeh AL qr3 ql3 hsz hx0 ha hal
  have x2 : (w.alloc (.cells #[.int .i64 op, .int .i64 n, .slice (some ad) al c2, .slice A3 t.length c3, .slice A4 e.length c4] 57)).cell? ⟨w.heap.size, 2, none⟩ = some (.slice (some ad) al c2) := (blk_cell HX.out 2).trans rfl
  generalize hW1 : w.alloc (.cells #[.int .i64 op, .int .i64 n, .slice (some ad) al c2, .slice A3 t.length c3, .slice A4 e.length c4] 57) = W1 at q0 q1 q2 q3 HX HS HB HK HSZ x2
  go_enter_defers Try.func75, Try.ntmps75
  simp only [Int.toNat_zero, Nat.zero_mul, Addr.add_zero'] at q0 q1 q2 q3
  have hex : nAs xl + 2 < 1000000 := by omega
  go_wp2_with (first | (go_at_call 73; refine (comp_expr.go w0 b v1 v2 v3 P hb xl xo xn xc B3 d3 0 I Q _ QR.out QL.out (by omega) (by omega) (by omega) HB.out HS.out ?hq).mono ?_; (case hq => intro k hk; have := HQ.out k hk; have := HSZ.out; omega); rintro en W2 ⟨rfl, hs2, hb2, hk2⟩))
  have hsz1 := HSZ.out
  have hws : ∀ k, k = w.heap.size → ¬ (Q k ∨ k = b) := fun k e h => by subst e; rcases h with h | h; exact absurd (HQ.out _ h) (by omega); omega
  have HWS := Aside0.mk hws
  have HX2 := Aside0.mk ((hk2.2 w.heap.size (by omega) (hws _ rfl)).trans HX.out)
  have HK2 := Aside0.mk (HK.out.then_ hk2 (fun k hk => .inl hk))
  have HB2 := Aside0.mk hb2
  have hsz2 := hk2.1
  obtain ⟨J, hJ⟩ : ∃ J, J = I ++ cE ⟨xo, xn, xc, xl⟩ 0 := ⟨_, rfl⟩
  rw [← hJ] at hs2
  have hJl : J.length = I.length + nE ⟨xo, xn, xc, xl⟩ := by rw [hJ, List.length_append, cE_len]
  have hJl' : J.length = I.length + (nAs xl + 1) := by rw [hJl, nE]
  have hJb : J.length + nSs t + 11 < 1000000 := by omega
  have HJ := Aside0.mk hJ
  have HJl := Aside0.mk hJl
  clear hJ hJl hJl'
  have HS2 := Aside0.mk hs2
  clear hs2 hb2 hk2 hws x2 q0 q1 q2 q3 HX HS HB HK hW1
  go_wp2_with (first | (go_at_call 39; refine (comp_put.calls w0 W2 b _ v1 v2 v3 J P ⟨6, 0, 0, 0, 0⟩ HB2.out hb HS2.out (by omega)).mono ?_; rintro en W3 ⟨rfl, hs3, hb3, hk3⟩))
  have HX3 := Aside0.mk ((hk3.2 w.heap.size (by omega) (fun h => by rcases h with (h | h) | h; exact HWS.out _ rfl (.inl h); omega; exact HWS.out _ rfl (.inr h))).trans HX2.out)
  have HK3 := Aside0.mk (HK2.out.then_ hk3 (fun k hk => by rcases hk with (hk | hk) | hk; exact .inl (.inl hk); exact .inr (by omega); exact .inl (.inr hk)))
  have HB3 := Aside0.mk hb3
  have hsz3 := hk3.1
  have HS3 := Aside0.mk (show CSt W3 w0.heap.size b (fun k => (Q k ∨ W1.heap.size ≤ k) ∧ k < W3.heap.size) v1 v2 v3 (J ++ [⟨6, 0, 0, 0, 0⟩]) P from hs3.mono (fun k hk hl => ⟨by rcases hk with hk | hk; exact hk; exact .inr (by omega), hl⟩))
  clear hs3 hb3 hk3 HX2 HK2 HB2 HS2
  go_wp2_with (first | (go_at_call 86; refine (comp_patch.calls W3 b (J.length : Int)).mono ?_; rintro en W4 ⟨rfl, hg1, hg2, hsz4_, hb4⟩; have x3 : W4.cell? ⟨w.heap.size, 3, none⟩ = some (.slice A3 t.length c3) := (blk_cell (blk_below HX3.out hb4) 3).trans rfl; have HSZ4 := Aside0.mk hsz4_; clear hsz4_))
  have hsz4_ := HSZ4.out
  have hsz4 : W3.heap.size + 1 < W4.heap.size := by omega
  have HX4 := Aside0.mk (blk_below HX3.out hb4)
  have HK4 := Aside0.mk (HK3.out.below hb4)
  have HB4 := Aside0.mk (HB3.out.trans (hb4.mono HB3.out.size))
  have HS4 := Aside0.mk (HS3.out.below hb4)
  have HG1 := Aside0.mk hg1
  have HG2 := Aside0.mk hg2
  clear hg1 hg2 hb4 hsz4_ HX3 HK3 HB3 HS3
  have nq : ∀ k, w.heap.size ≤ k → k < W1.heap.size ∨ W3.heap.size ≤ k → ¬ (((Q k ∨ W1.heap.size ≤ k) ∧ k < W3.heap.size) ∨ k = b) := fun k h0 h1 h => by
    rcases h with ⟨h | h, h2⟩ | h
    · have := HQ.out k h; omega
    · omega
    · omega
  have NQ := Aside0.mk nq
  clear nq
  have HJ2 := Aside0.mk (show (J ++ [(⟨6, 0, 0, 0, 0⟩ : S40)]).length = J.length + 1 by simp)
  go_upto_if 27 with (first | (go_at_call 38; refine (LT.out A3 c3 _ P _ W4 R3.out C3.out OT.out (by rw [HJ2.out]; omega) (by omega) HB4.out HS4.out (fun k hk => by have := hk.2; omega)).mono ?_; rintro en W5 ⟨rfl, hs5, hb5, hk5⟩; have x4 : W5.cell? ⟨w.heap.size, 4, none⟩ = some (.slice A4 e.length c4) := (blk_cell ((hk5.2 w.heap.size (by omega) (NQ.out _ (by omega) (by omega))).trans HX4.out) 4).trans rfl))
  clear x3
  have HX5 := Aside0.mk ((hk5.2 w.heap.size (by omega) (NQ.out _ (by omega) (by omega))).trans HX4.out)
  have HG15 := Aside0.mk ((hk5.2 W3.heap.size (by omega) (NQ.out _ (by omega) (by omega))).trans HG1.out)
  have HG25 := Aside0.mk ((hk5.2 (W3.heap.size + 1) (by omega) (NQ.out _ (by omega) (by omega))).trans HG2.out)
  have HK5 := Aside0.mk (HK4.out.then_ hk5 (fun k hk => by rcases hk with ⟨hk | hk, _⟩ | hk; exact .inl (.inl hk); exact .inr (by omega); exact .inl (.inr hk)))
  have HB5 := Aside0.mk hb5
  have hsz5 := hk5.1
  rw [HJ2.out, List.append_assoc, List.singleton_append] at hs5
  have hT : (cSs t (J.length + 1)).length = nSs t := cSs_len _ _
  obtain ⟨T, hTe⟩ : ∃ T, T = cSs t (J.length + 1) := ⟨_, rfl⟩
  rw [← hTe] at hs5 hT
  have HS5 := Aside0.mk hs5
  have HLJ := Aside0.mk (show ∀ x : S40, (J ++ x :: T).length = J.length + 1 + nSs t from fun x => by simp [hT]; omega)
  have HTE := Aside0.mk hTe
  have HT := Aside0.mk hT
  clear hTe hT hs5 hb5 hk5 HX4 HK4 HB4 HS4 HG1 HG2
  by_cases he : e.length = 0
  · have he' : ((e.length : Int) == 0) = true := beq_iff_eq.mpr (by omega)
    rcases hfb with rfl | rfl
    all_goals
      go_wp2_with (first | ((first | go_at_call 76 | go_at_call 77); refine (BH.out W5 _ _ _ (fun k hk => HK5.out.2 k (HR.out k hk).1 (fun h => by rcases h with h | h; exact (HR.out k hk).2.1 h; exact (HR.out k hk).2.2 h)) HB5.out HS5.out (by rw [HLJ.out]; omega)).mono ?_; rintro en W6 ⟨rfl, hs6, hb6, hk6⟩))
      have nQ : ∀ k, w.heap.size ≤ k → ¬ Q k := fun k h hq => by have := HQ.out k hq; omega
      have HG16 := Aside0.mk ((hk6.2 W3.heap.size (by omega) (fun h => by simp only [nQ _ (show w.heap.size ≤ W3.heap.size by omega), false_or] at h; omega)).trans HG15.out)
      have HG26 := Aside0.mk ((hk6.2 (W3.heap.size + 1) (by omega) (fun h => by simp only [nQ _ (show w.heap.size ≤ W3.heap.size + 1 by omega), false_or] at h; omega)).trans HG25.out)
      have HK6 := Aside0.mk (HK5.out.then_ hk6 (fun k hk => by rcases hk with ((⟨hk | hk, _⟩ | hk) | hk); exact .inl (.inl hk); exact .inr (by omega); exact .inr (by omega); exact .inl (.inr hk)))
      have hsz6 := hk6.1
      have HB6 := Aside0.mk hb6
      have HS6 := Aside0.mk hs6
      clear hs6 hb6 hk6 nQ
      go_wp2_with (first | (go_at_call 92; refine (comp_over.both w0 W6 b _ _ _ v1 v2 v3 _ _ J.length ⟨6, 0, 0, 0, 0⟩ HB6.out hb HS6.out HG16.out HG26.out (by simp)).1.mono ?_; rintro en W7 ⟨rfl, hs7, hb7, hk7⟩))
      refine ⟨_, results_none rfl _ _ _, rfl, ?_, hb7, HK6.out.then_ hk7 (fun k hk => by rcases hk with (((⟨hk | hk, _⟩ | hk) | hk) | hk); exact .inl (.inl hk); exact .inr (by omega); exact .inr (by omega); exact .inr (by omega); exact .inl (.inr hk))⟩
      have he0 : e = [] := List.length_eq_zero_iff.mp he
      subst he0
      have hc : cPatch (⟨6, 0, 0, 0, 0⟩ : S40) ((J ++ ⟨6, 0, 0, 0, 0⟩ :: T ++ bs).length : Int) = ⟨6, 0, ((J.length + 1 + T.length + bs.length : Nat) : Int), 0, 0⟩ := by
        rw [cPatch, if_pos rfl, List.length_append, HLJ.out, HT.out]
      rw [hc, List.append_assoc, List.cons_append, set_mid _ _ _ _ _ rfl] at hs7
      have hI3 : I ++ brC I.length (cE ⟨xo, xn, xc, xl⟩ 0) (cSs t (I.length + nE ⟨xo, xn, xc, xl⟩ + 1)) (cSs [] (I.length + nE ⟨xo, xn, xc, xl⟩ + 1 + nSs t + 1)) bs (decide (0 < ([] : List S57).length)) = J ++ (⟨6, 0, ((J.length + 1 + T.length + bs.length : Nat) : Int), 0, 0⟩ :: (T ++ bs)) := by
        rw [← HJl.out, ← HTE.out, brC, if_neg (by simp), cE_len, ← HJl.out, ← List.append_assoc, ← List.append_assoc, ← HJ.out]
        simp
      rw [hI3, ← HJl.out]
      rw [show plSs [] (J.length + 1 + nSs t + 1) = [] from rfl, List.append_nil]
      exact hs7.mono (fun k hk _ => by rcases hk with (((⟨hk | hk, _⟩ | hk) | hk) | hk); exact .inl hk; exact .inr (by omega); exact .inr (by omega); exact .inr (by omega); exact .inr (by omega))
  · have he' : ((e.length : Int) == 0) = false := beq_eq_false_iff_ne.mpr (by omega)
    obtain ⟨J5, hJ5⟩ : ∃ J5, J5 = J ++ ⟨6, 0, 0, 0, 0⟩ :: T := ⟨_, rfl⟩
    have hS5 := HS5.out
    rw [← hJ5] at hS5
    have HL5 := Aside0.mk (show J5.length = J.length + 1 + nSs t by rw [hJ5]; exact HLJ.out _)
    have HJ5 := Aside0.mk hJ5
    have HS5' := Aside0.mk hS5
    clear hJ5 hS5 HS5
    have hI5 : J5.length + nSs e + 11 < 1000000 := by have h1 := HL5.out; have h2 := HI.out; rw [if_neg he, ← HJl.out] at h2; omega
    go_wp2_with (first | (go_at_call 39; refine (comp_put.calls w0 W5 b _ v1 v2 v3 J5 _ ⟨5, 0, 0, 0, 0⟩ HB5.out hb HS5'.out (by omega)).mono ?_; rintro en W6 ⟨rfl, hs6, hb6, hk6⟩))
    have nQ : ∀ k, w.heap.size ≤ k → ¬ Q k := fun k h hq => by have := HQ.out k hq; omega
    have NQ0 := Aside0.mk nQ
    clear nQ
    have hsz6 := hk6.1
    have HX6 := Aside0.mk ((hk6.2 w.heap.size (by omega) (fun h => by simp only [NQ0.out _ (Nat.le_refl _), false_or] at h; omega)).trans HX5.out)
    have HG16 := Aside0.mk ((hk6.2 W3.heap.size (by omega) (fun h => by simp only [NQ0.out _ (show w.heap.size ≤ W3.heap.size by omega), false_or] at h; omega)).trans HG15.out)
    have HG26 := Aside0.mk ((hk6.2 (W3.heap.size + 1) (by omega) (fun h => by simp only [NQ0.out _ (show w.heap.size ≤ W3.heap.size + 1 by omega), false_or] at h; omega)).trans HG25.out)
    have HK6 := Aside0.mk (HK5.out.then_ hk6 (fun k hk => by rcases hk with ((⟨hk | hk, _⟩ | hk) | hk); exact .inl (.inl hk); exact .inr (by omega); exact .inr (by omega); exact .inl (.inr hk)))
    have HB6 := Aside0.mk hb6
    have HS6 := Aside0.mk (show CSt W6 w0.heap.size b (fun k => (Q k ∨ W1.heap.size ≤ k) ∧ k ≠ W3.heap.size ∧ k ≠ W3.heap.size + 1 ∧ k < W6.heap.size) v1 v2 v3 (J5 ++ [⟨5, 0, 0, 0, 0⟩]) _ from hs6.mono (fun k hk hl => by
      have hw : Q k → k < w.heap.size := HQ.out k
      rcases hk with ((⟨hk | hk, h2⟩ | hk) | hk)
      · exact ⟨.inl hk, by have := hw hk; omega, by have := hw hk; omega, hl⟩
      · exact ⟨.inr hk, by omega, by omega, hl⟩
      · exact ⟨.inr (by omega), by omega, by omega, hl⟩
      · exact ⟨.inr (by omega), by omega, by omega, hl⟩))
    clear hs6 hb6 hk6 HX5 HG15 HG25 HK5 HB5 HS5'
    go_upto_region 8 with (first | (go_at_call 86; refine (comp_patch.calls W6 b (J5.length : Int)).mono ?_; rintro en W7 ⟨rfl, hg3, hg4, hsz7_, hb7⟩; have HSZ7 := Aside0.mk hsz7_; clear hsz7_))
    have hsz7_ := HSZ7.out
    have hsz7 : W6.heap.size + 1 < W7.heap.size := by omega
    have HX7 := Aside0.mk (blk_below HX6.out hb7)
    have HG17 := Aside0.mk (blk_below HG16.out hb7)
    have HG27 := Aside0.mk (blk_below HG26.out hb7)
    have HK7 := Aside0.mk (HK6.out.below hb7)
    have HB7 := Aside0.mk (HB6.out.trans (hb7.mono HB6.out.size))
    have HS7 := Aside0.mk (HS6.out.below hb7)
    have HG3 := Aside0.mk hg3
    have HG4 := Aside0.mk hg4
    clear hg3 hg4 hb7 hsz7_ HX6 HG16 HG26 HK6 HB6 HS6
    have x5 : (J5 ++ [(⟨5, 0, 0, 0, 0⟩ : S40)])[J.length]? = some ⟨6, 0, 0, 0, 0⟩ := by rw [HJ5.out]; simp
    have X5 := Aside0.mk x5
    clear x5
    go_upto_region 9 with (first | (go_at_call 92; refine (comp_over.both w0 W7 b _ _ _ v1 v2 v3 _ _ J.length ⟨6, 0, 0, 0, 0⟩ HB7.out hb HS7.out HG17.out HG27.out X5.out).1.mono ?_; rintro en W8 ⟨rfl, hs8, hb8, hk8⟩))
    have hsz8 := hk8.1
    have HX8 := Aside0.mk ((hk8.2 w.heap.size (by omega) (fun h => by simp only [NQ0.out _ (Nat.le_refl _), false_or] at h; omega)).trans HX7.out)
    have HG38 := Aside0.mk ((hk8.2 W6.heap.size (by omega) (fun h => by simp only [NQ0.out _ (show w.heap.size ≤ W6.heap.size by omega), false_or] at h; omega)).trans HG3.out)
    have HG48 := Aside0.mk ((hk8.2 (W6.heap.size + 1) (by omega) (fun h => by simp only [NQ0.out _ (show w.heap.size ≤ W6.heap.size + 1 by omega), false_or] at h; omega)).trans HG4.out)
    have HK8 := Aside0.mk (HK7.out.then_ hk8 (fun k hk => by rcases hk with (⟨hk | hk, _⟩ | hk); exact .inl (.inl hk); exact .inr (by omega); exact .inl (.inr hk)))
    have HB8 := Aside0.mk hb8
    have hc : cPatch (⟨6, 0, 0, 0, 0⟩ : S40) ((J5 ++ [(⟨5, 0, 0, 0, 0⟩ : S40)]).length : Int) = ⟨6, 0, ((J.length + 1 + T.length + 1 : Nat) : Int), 0, 0⟩ := by
      rw [cPatch, if_pos rfl, List.length_append, HL5.out, HT.out]
      rfl
    rw [hc, HJ5.out, List.append_assoc, List.cons_append, set_mid _ _ _ _ _ rfl] at hs8
    obtain ⟨J8, hJ8⟩ : ∃ J8, J8 = J ++ ⟨6, 0, ((J.length + 1 + T.length + 1 : Nat) : Int), 0, 0⟩ :: (T ++ [⟨5, 0, 0, 0, 0⟩]) := ⟨_, rfl⟩
    rw [← hJ8] at hs8
    have HL8 := Aside0.mk (show J8.length = J.length + 1 + nSs t + 1 by rw [hJ8]; simp [HT.out]; omega)
    have HJ8 := Aside0.mk hJ8
    have HS8 := Aside0.mk (show CSt W8 w0.heap.size b (fun k => (Q k ∨ W1.heap.size ≤ k) ∧ k ≠ W6.heap.size ∧ k ≠ W6.heap.size + 1 ∧ k < W8.heap.size) v1 v2 v3 J8 _ from hs8.mono (fun k hk hl => by
      have hw : Q k → k < w.heap.size := HQ.out k
      rcases hk with (⟨hk | hk, h2⟩ | hk)
      · exact ⟨.inl hk, by have := hw hk; omega, by have := hw hk; omega, hl⟩
      · exact ⟨.inr hk, by omega, by omega, hl⟩
      · exact ⟨.inr (by omega), by omega, by omega, hl⟩))
    clear hs8 hb8 hk8 hc hJ8 HX7 HG17 HG27 HG3 HG4 HK7 HB7 HS7
    have x8 : W8.cell? ⟨w.heap.size, 4, none⟩ = some (.slice A4 e.length c4) := (blk_cell HX8.out 4).trans rfl
    go_wp2_with (first | (go_at_call 38; refine (LE.out A4 c4 J8 _ _ W8 R4.out C4.out OE.out (by have h1 := HL8.out; have h2 := HL5.out; omega) ?hp HB8.out HS8.out (fun k hk => hk.2.2.2)).mono ?_; (case hp => rw [List.length_append, plSs_len]; omega); rintro en W9 ⟨rfl, hs9, hb9, hk9⟩))
    clear x8
    have hsz9 := hk9.1
    have hg39 := (hk9.2 W6.heap.size (by omega) (fun h => by rcases h with ⟨_, h, _⟩ | h; exact h rfl; omega)).trans HG38.out
    have hg49 := (hk9.2 (W6.heap.size + 1) (by omega) (fun h => by rcases h with ⟨_, _, h, _⟩ | h; exact h rfl; omega)).trans HG48.out
    have HK9 := Aside0.mk (HK8.out.then_ hk9 (fun k hk => by rcases hk with ⟨hk | hk, _⟩ | hk; exact .inl (.inl hk); exact .inr (by omega); exact .inl (.inr hk)))
    obtain ⟨E, hE⟩ : ∃ E, E = cSs e J8.length := ⟨_, rfl⟩
    have hEl : E.length = nSs e := by rw [hE, cSs_len]
    rw [← hE] at hs9
    obtain ⟨K, hK⟩ : ∃ K, K = J ++ ⟨6, 0, ((J.length + 1 + T.length + 1 : Nat) : Int), 0, 0⟩ :: T := ⟨_, rfl⟩
    have hKl : K.length = J.length + 1 + nSs t := by rw [hK]; exact HLJ.out _
    have hJK : J8 ++ E = K ++ ⟨5, 0, 0, 0, 0⟩ :: E := by rw [HJ8.out, hK]; simp
    rw [hJK] at hs9
    have hJi : (J5.length : Int) = ((K.length : Nat) : Int) := by rw [hKl, HL5.out]
    rw [hJi] at hg49
    refine leaves_cons (f := 92) (args := #[.pointer (some ⟨W6.heap.size, 0, none⟩), .pointer (some ⟨W6.heap.size + 1, 0, none⟩)]) (by simp) (by simp [go_sem]) ?_
    refine ((comp_over.both w0 W9 b _ _ _ v1 v2 v3 _ _ K.length ⟨5, 0, 0, 0, 0⟩ hb9 hb hs9 hg39 hg49 (by simp)).2 .returning).mono ?_
    rintro en u' W10 ⟨rfl, rfl, hs10, hb10, hk10⟩
    refine ⟨_, results_none rfl _ _ _, rfl, ?_, hb10, HK9.out.then_ hk10 (fun k hk => by rcases hk with (⟨hk | hk, _⟩ | hk) | hk; exact .inl (.inl hk); exact .inr (by omega); exact .inr (by omega); exact .inl (.inr hk))⟩
    have hc2 : cPatch (⟨5, 0, 0, 0, 0⟩ : S40) ((K ++ ⟨5, 0, 0, 0, 0⟩ :: E).length : Int) = ⟨5, ((J.length + 1 + T.length + 1 + E.length : Nat) : Int), 0, 0, 0⟩ := by
      rw [cPatch, if_neg (by decide), List.length_append, hKl, List.length_cons, HT.out]
      congr 2
      omega
    rw [hc2, set_mid _ _ _ _ _ rfl] at hs10
    have hI3 : I ++ brC I.length (cE ⟨xo, xn, xc, xl⟩ 0) (cSs t (I.length + nE ⟨xo, xn, xc, xl⟩ + 1)) (cSs e (I.length + nE ⟨xo, xn, xc, xl⟩ + 1 + nSs t + 1)) bs (decide (0 < e.length)) = K ++ (⟨5, ((J.length + 1 + T.length + 1 + E.length : Nat) : Int), 0, 0, 0⟩ :: E) := by
      rw [← HJl.out, ← HTE.out, ← HL8.out, ← hE, brC, if_pos (by simp; omega), cE_len, ← HJl.out, ← List.append_assoc, ← List.append_assoc, ← HJ.out, hK]
    rw [hI3, ← HJl.out, ← HL8.out, ← List.append_assoc]
    exact hs10.mono (fun k hk _ => by rcases hk with (⟨hk | hk, _⟩ | hk) | hk; exact .inl hk; exact .inr (by omega); exact .inr (by omega); exact .inr (by omega))
theorem beh1 (w0 : World) (b : Nat) (v1 v2 v3 : Value) (W : World) : Beh w0 b v1 v2 v3 76 #[] (fun _ => False) W [] := by
  intro Y Q I P _ hB hS _
  have HB := Aside0.mk hB
  have HS := Aside0.mk hS
  clear hB hS
  go_enter Try.func76, Try.ntmps76
  go_wp2
  go_end0
  exact ⟨rfl, by first | (rw [List.append_nil]; exact HS.out.mono (fun k hk _ => .inl hk)) | exact HS.out.mono (fun k hk _ => .inl hk), HB.out, Kept.refl _ _⟩
theorem beh2 (w0 : World) (b : Nat) (v1 v2 v3 : Value) (hb : w0.heap.size ≤ b) (W : World) (g1 g2 : Nat) (p : Int) (h1 : W.heap[g1]? = some (.cells #[.pointer (some ⟨b, 0, none⟩)] 69 (0, 0))) (h2 : W.heap[g2]? = some (.cells #[.int .i64 p] 3 (0, 0))) :
    Beh w0 b v1 v2 v3 77 #[.pointer (some ⟨g1, 0, none⟩), .pointer (some ⟨g2, 0, none⟩)] (fun k => k = g1 ∨ k = g2) W [⟨5, p, 0, 0, 0⟩] := by
  intro Y Q I P hR hB hS hI
  have huC := Try.underlying75
  have hbl := hS.lt
  have G1 := Aside0.mk (kdr ((hR g1 (.inl rfl)).trans h1))
  have G2 := Aside0.mk (kdr ((hR g2 (.inr rfl)).trans h2))
  have HB := Aside0.mk (hB.trans ((below_drew (Below.refl _ _)).mono hB.size))
  have HS := Aside0.mk (hS.below (below_drew (Below.refl _ _)))
  clear hB hS h1 h2 hR
  go_enter Try.func77, Try.ntmps77
  go_wp2
  refine start_ (n := 6) (S := fun w' => w'.cell? ⟨g1, 0, none⟩ = some (.pointer (some ⟨b, 0, none⟩)) ∧ w'.cell? ⟨g2, 0, none⟩ = some (.int .i64 p)) (ds := [5]) #[false, false, false, false, false, false] (by kernel_rfl) rfl rfl ⟨(blk_cell G1.out 0).trans rfl, (blk_cell G2.out 0).trans rfl⟩ (fun hHeld => ?_)
  refine tk (i := 0) (N := some 2) (bl 6 1) rfl rfl (by kernel_rfl) hHeld ?_
  refine pu (i := 1) (N := some 3) (bl 6 3) rfl rfl (by kernel_rfl) ?_
  refine pu (i := 2) (N := some 4) (bl 6 7) rfl rfl (by kernel_rfl) ?_
  refine tk (i := 3) (N := some 5) (bl 6 15) rfl rfl (by kernel_rfl) hHeld ?_
  refine pu (i := 4) (N := some 6) (bl 6 31) rfl rfl (by kernel_rfl) ?_
  refine last_ (i := 5) (N := (some 7)) (bl 6 63) rfl rfl (by kernel_rfl) (by decide) (fun K hK => ?_)
  refine goes_ Try.func39 (by kernel_rfl) rfl #[.pointer (some ⟨b, 0, none⟩), .agg #[.int .i64 5, .int .i64 p, .int .i64 0, .int .i64 0, .int .i64 0]] (by rfl) rfl rfl (by (try simp only [List.map_toArray, List.map_cons, List.map_nil]); rfl) ?_
  refine (comp_put.calls w0 Y.drew b Q v1 v2 v3 I P ⟨5, p, 0, 0, 0⟩ HB.out hb HS.out hI).mono ?_
  rintro e Y2 ⟨rfl, hs, hb2, hk⟩
  have HF := Aside0.mk (And.intro hs (And.intro hb2 hk))
  clear hs hb2 hk
  refine ⟨_, rfl, ?_⟩
  refine hK.out _ _ ?_
  clear hK K
  refine nm 7 ?_
  refine done_ (by kernel_rfl) ?_
  go_wp2
  go_end0
  exact ⟨rfl, HF.out.1, HF.out.2.1, HF.out.2.2⟩
theorem comp_stmt.calls (w0 : World) (b : Nat) (v1 v2 v3 : Value) (hb : w0.heap.size ≤ b) (op n : Int) (a : List S52) (t e : List S57) (A2 : Option Addr) (c2 : Nat) (A3 : Option Addr) (c3 : Nat) (A4 : Option Addr) (c4 : Nat) (I : List S40) (P : List Int) (Q : Nat → Prop) (w : World)
    (hr2 : Kd.C k52 w0 A2 a.length a) (hc2 : a.length ≤ c2) (hr3 : Kd.C k57 w0 A3 t.length t) (hc3 : t.length ≤ c3) (hr4 : Kd.C k57 w0 A4 e.length e) (hc4 : e.length ≤ c4) (hLt : LC w0 b v1 v2 v3 t) (hLe : LC w0 b v1 v2 v3 e) (hok : okS ⟨op, n, a, t, e⟩)
    (hI : I.length + nS ⟨op, n, a, t, e⟩ + 10 < 1000000) (hP : P.length + kS ⟨op, n, a, t, e⟩ ≤ 1000000) (hB : Below w0.heap.size w0 w) (hS : CSt w w0.heap.size b Q v1 v2 v3 I P) (hQ : ∀ k, Q k → k < w.heap.size) :
    Calls Try.prog 63 #[.pointer (some ⟨b, 0, none⟩), .agg #[.int .i64 op, .int .i64 n, .slice A2 a.length c2, .slice A3 t.length c3, .slice A4 e.length c4]] w fun en w' => en = .returned (.tuple #[]) ∧
      CSt w' w0.heap.size b (fun k => Q k ∨ w.heap.size ≤ k) v1 v2 v3 (I ++ cS ⟨op, n, a, t, e⟩ I.length) (P ++ plS ⟨op, n, a, t, e⟩ I.length) ∧ Below w0.heap.size w0 w' ∧ Kept w w' (fun k => Q k ∨ k = b) := by
  have huE := Try.underlying52
  have huS := Try.underlying57
  have huC := Try.underlying75
  have hbl := hS.lt
  have hal := hr2.2.1
  have HI := Aside0.mk hI
  have HP := Aside0.mk hP
  have HOK := Aside0.mk hok
  have HR2 := Aside0.mk hr2
  have HC2 := Aside0.mk hc2
  have HR3 := Aside0.mk hr3
  have HC3 := Aside0.mk hc3
  have HR4 := Aside0.mk hr4
  have HC4 := Aside0.mk hc4
  have LT := Aside0.mk hLt
  have LE := Aside0.mk hLe
  have HQ := Aside0.mk hQ
  have h1 := kal (blk_new w (.cells #[.pointer (some ⟨b, 0, none⟩)] 69)) (.cells #[.int .i64 op, .int .i64 n, .slice A2 a.length c2, .slice A3 t.length c3, .slice A4 e.length c4] 57)
  have h2 := blk_new (w.alloc (.cells #[.pointer (some ⟨b, 0, none⟩)] 69)) (.cells #[.int .i64 op, .int .i64 n, .slice A2 a.length c2, .slice A3 t.length c3, .slice A4 e.length c4] 57)
  have h3 : (w.alloc (.cells #[.pointer (some ⟨b, 0, none⟩)] 69)).heap.size = w.heap.size + 1 := by simp
  rw [h3] at h2
  have h4 : ((w.alloc (.cells #[.pointer (some ⟨b, 0, none⟩)] 69)).alloc (.cells #[.int .i64 op, .int .i64 n, .slice A2 a.length c2, .slice A3 t.length c3, .slice A4 e.length c4] 57)).heap.size = w.heap.size + 2 := by simp
  have h5 := bal (bal (Below.refl w.heap.size w) (.cells #[.pointer (some ⟨b, 0, none⟩)] 69)) (.cells #[.int .i64 op, .int .i64 n, .slice A2 a.length c2, .slice A3 t.length c3, .slice A4 e.length c4] 57)
  have HX1 := Aside0.mk h1
  have HX2 := Aside0.mk h2
  have HSZ := Aside0.mk h4
  have HA := Aside0.mk h5
  have HB := Aside0.mk (hB.trans (h5.mono hB.size))
  have HS := Aside0.mk (hS.below h5)
  clear hI hP hok hr2 hc2 hr3 hc3 hr4 hc4 hLt hLe hQ hB hS h1 h2 h3 h4 h5
  go_enter Try.func63, Try.ntmps63
  have x2 : ((w.alloc (.cells #[.pointer (some ⟨b, 0, none⟩)] 69)).alloc (.cells #[.int .i64 op, .int .i64 n, .slice A2 a.length c2, .slice A3 t.length c3, .slice A4 e.length c4] 57)).cell? ⟨w.heap.size + 1, 2, none⟩ = some (.slice A2 a.length c2) := (blk_cell HX2.out 2).trans rfl
  go_wp2
  clear x2
  generalize ((w.alloc (.cells #[.pointer (some ⟨b, 0, none⟩)] 69)).alloc (.cells #[.int .i64 op, .int .i64 n, .slice A2 a.length c2, .slice A3 t.length c3, .slice A4 e.length c4] 57)) = W1 at HX1 HX2 HSZ HA HB HS ⊢
  by_cases hop : op = 1 ∨ op = 2
  · have hop' := Aside0.mk hop
    go_loopg [10] a.length (fun kq v10 X => ∃ j : Nat, v10 = .int .i64 (j : Int) ∧ Aside0 (j + kq = a.length) ∧ Aside0 (Below W1.heap.size W1 X))
    case atStart => exact ⟨0, rfl, ⟨by omega⟩, ⟨Below.refl _ _⟩⟩
    case round =>
      obtain ⟨j, rfl, HJ, BB⟩ := hrel
      have hws : w.heap.size + 1 < W1.heap.size := by have := HSZ.out; omega
      have HX1r := Aside0.mk ((BB.out.block _ (by omega)).trans HX1.out)
      have HX2r := Aside0.mk ((BB.out.block _ hws).trans HX2.out)
      have x0 : wr.cell? ⟨w.heap.size, 0, none⟩ = some (.pointer (some ⟨b, 0, none⟩)) := (blk_cell HX1r.out 0).trans rfl
      have y0 : wr.cell? ⟨w.heap.size + 1, 0, none⟩ = some (.int .i64 op) := (blk_cell HX2r.out 0).trans rfl
      cases gk with
      | succ k1 =>
        have hj : j < a.length := by have := HJ.out; omega
        have hd : decide ((j : Int) < (a.length : Int)) = true := decide_eq_true (by omega)
        obtain ⟨ad, B3, d3, e3, q0, q1, q2, q3, ql3, qr3⟩ := at_T52 HR2.out (j : Int) (by omega) (by omega)
        subst e3
        generalize rd_T52 a (j : Int) = x at q0 q1 q2 q3 ql3 qr3
        have hBx := HB.out.trans (BB.out.mono HB.out.size)
        replace q0 := (hBx.cell (World.block_lt_of_cell? w0 _ q0)).trans q0
        replace q1 := (hBx.cell (World.block_lt_of_cell? w0 _ q1)).trans q1
        replace q2 := (hBx.cell (World.block_lt_of_cell? w0 _ q2)).trans q2
        replace q3 := (hBx.cell (World.block_lt_of_cell? w0 _ q3)).trans q3
        simp only [Int.toNat_natCast] at q0 q1 q2 q3
        have hw1 : IntKind.i64.wrap ((j : Int) + 1) = (j : Int) + 1 := by rw [i64_w]; unfold wrap64; omega
        have HBA := Aside0.mk (BB.out.trans ((bal (Below.refl wr.heap.size wr) (.cells #[.int .i64 x.f0, .int .i64 x.f1, .int .i64 x.f2, .slice B3 x.f3.length d3] 52)).mono BB.out.size))
        have z0 : (wr.alloc (.cells #[.int .i64 x.f0, .int .i64 x.f1, .int .i64 x.f2, .slice B3 x.f3.length d3] 52)).cell? ⟨w.heap.size + 1, 0, none⟩ = some (.int .i64 op) := (blk_cell ((HBA.out.block _ hws).trans HX2.out) 0).trans rfl
        clear hBx ql3 qr3 hop
        have fin : IntKind.i64.wrap ((j : Int) + 1) = ((j + 1 : Nat) : Int) := by rw [hw1]; simp
        rcases hop'.out with rfl | rfl
        all_goals
          go_wp2
          go_roundg k1
          case measure => omega
          case rel => exact ⟨j + 1, by simp, ⟨by have := HJ.out; omega⟩, HBA⟩
      | zero =>
        have hj : j = a.length := by have := HJ.out; omega
        subst hj
        have hd : decide ((a.length : Int) < (a.length : Int)) = false := decide_eq_false (by omega)
        clear hop
        have HSr := Aside0.mk (HS.out.below BB.out)
        have HBr := Aside0.mk (HB.out.trans (BB.out.mono HB.out.size))
        have HKr := Aside0.mk (show Kept w wr (fun k => Q k ∨ k = b) from (Kept.of_below HA.out _).below BB.out)
        have hsr := BB.out.size
        have e1 : (1 == (0 : Int)) = false := rfl
        have y1 : wr.cell? ⟨w.heap.size + 1, 1, none⟩ = some (.int .i64 n) := (blk_cell HX2r.out 1).trans rfl
        have y2 : wr.cell? ⟨w.heap.size + 1, 2, none⟩ = some (.slice A2 a.length c2) := (blk_cell HX2r.out 2).trans rfl
        have y3 : wr.cell? ⟨w.heap.size + 1, 3, none⟩ = some (.slice A3 t.length c3) := (blk_cell HX2r.out 3).trans rfl
        have y4 : wr.cell? ⟨w.heap.size + 1, 4, none⟩ = some (.slice A4 e.length c4) := (blk_cell HX2r.out 4).trans rfl
        clear HX2 HX1 HS HB HA
        rcases hop'.out with rfl | rfl
        · have ok := HOK.out
          have hI := HI.out
          have hP := HP.out
          rw [okS] at ok
          rw [nS, if_pos (.inl rfl)] at hI
          rw [kS, if_pos (.inl rfl)] at hP
          have OK := Aside0.mk ok
          have HI' := Aside0.mk hI
          clear ok hI HI
          go_wp2_with (first | (go_at_call 75; refine (comp_branch.calls w0 b v1 v2 v3 hb 1 n a t e A2 c2 A3 c3 A4 c4 76 (.inl rfl) #[] (fun _ => False) [] I P Q wr HR2.out HC2.out HR3.out HC3.out HR4.out HC4.out LT.out LE.out (OK.out.1 (by simp)) OK.out.2.1 OK.out.2.2 (by have := HI'.out; split at this <;> simp_all <;> omega) (by omega) HBr.out HSr.out (fun k hk => by have := HQ.out k hk; have := HSZ.out; omega) (fun _ h => h.elim) (beh1 w0 b v1 v2 v3 wr)).mono ?_; rintro en W2 ⟨rfl, hs2, hb2, hk2⟩))
          go_end0
          refine ⟨rfl, ?_, hb2, HKr.out.then_ hk2 (fun k hk => .inl hk)⟩
          have e1 : cS ⟨1, n, a, t, e⟩ I.length = brC I.length (cE (hdE a) 0) (cSs t (I.length + nE (hdE a) + 1)) (cSs e (I.length + nE (hdE a) + 1 + nSs t + 1)) [] (decide (0 < e.length)) := by rw [cS, if_pos (.inl rfl), if_neg (by decide)]
          have e2 : plS ⟨1, n, a, t, e⟩ I.length = plSs t (I.length + nE (hdE a) + 1) ++ plSs e (I.length + nE (hdE a) + 1 + nSs t + 1) := by rw [plS, if_pos (.inl rfl)]
          rw [e1, e2]
          exact hs2.mono (fun k hk _ => by rcases hk with hk | hk; exact .inl hk; exact .inr (by have := HSZ.out; omega))
        · have ok := HOK.out
          have hI := HI.out
          have hP := HP.out
          rw [okS] at ok
          rw [nS, if_pos (.inr rfl)] at hI
          rw [kS, if_pos (.inr rfl)] at hP
          have OK := Aside0.mk ok
          have HI' := Aside0.mk hI
          clear ok hI HI
          go_upto_region 14 with (first | (go_at_call 62; refine (comp_here.calls wr w0.heap.size b Q v1 v2 v3 I P HSr.out).mono ?_; rintro en W' ⟨rfl, hw'⟩; have HW := Aside0.mk hw'; clear hw'))
          have hbW := bal HW.out (.cells #[.int .i64 (I.length : Int)] 3)
          have hnW := blk_new W' (.cells #[.int .i64 (I.length : Int)] 3)
          have hsW : (W'.alloc (.cells #[.int .i64 (I.length : Int)] 3)).heap.size = W'.heap.size + 1 := by simp
          have hs' := HW.out.size
          have X1 := Aside0.mk (blk_below HX1r.out hbW)
          have X2 := Aside0.mk (blk_below HX2r.out hbW)
          have XN := Aside0.mk hnW
          have SW := Aside0.mk hsW
          have BW := Aside0.mk hbW
          have x0 : (W'.alloc (.cells #[.int .i64 (I.length : Int)] 3)).cell? ⟨w.heap.size, 0, none⟩ = some (.pointer (some ⟨b, 0, none⟩)) := (blk_cell X1.out 0).trans rfl
          have y0 : (W'.alloc (.cells #[.int .i64 (I.length : Int)] 3)).cell? ⟨w.heap.size + 1, 0, none⟩ = some (.int .i64 2) := (blk_cell X2.out 0).trans rfl
          have y1 : (W'.alloc (.cells #[.int .i64 (I.length : Int)] 3)).cell? ⟨w.heap.size + 1, 1, none⟩ = some (.int .i64 n) := (blk_cell X2.out 1).trans rfl
          have y2 : (W'.alloc (.cells #[.int .i64 (I.length : Int)] 3)).cell? ⟨w.heap.size + 1, 2, none⟩ = some (.slice A2 a.length c2) := (blk_cell X2.out 2).trans rfl
          have y3 : (W'.alloc (.cells #[.int .i64 (I.length : Int)] 3)).cell? ⟨w.heap.size + 1, 3, none⟩ = some (.slice A3 t.length c3) := (blk_cell X2.out 3).trans rfl
          have y4 : (W'.alloc (.cells #[.int .i64 (I.length : Int)] 3)).cell? ⟨w.heap.size + 1, 4, none⟩ = some (.slice A4 e.length c4) := (blk_cell X2.out 4).trans rfl
          clear hbW hnW hsW
          generalize W'.alloc (.cells #[.int .i64 (I.length : Int)] 3) = W3 at X1 X2 XN SW BW x0 y0 y1 y2 y3 y4 ⊢
          have BE := beh2 w0 b v1 v2 v3 hb W3 w.heap.size W'.heap.size I.length X1.out XN.out
          have HR' : ∀ k, (k = w.heap.size ∨ k = W'.heap.size) → k < W3.heap.size ∧ ¬ Q k ∧ k ≠ b := fun k hk => by
            have h1 := SW.out
            have h2 := HQ.out k
            exact ⟨by omega, fun hq => by have := h2 hq; omega, by omega⟩
          have BEH := Aside0.mk BE
          have hbd : I.length + nE (hdE a) + 1 + nSs t + (if e.length = 0 then ([⟨5, (I.length : Int), 0, 0, 0⟩] : List S40).length else 1 + nSs e) + 10 < 1000000 := by
            have h9 := HI'.out
            by_cases he : e.length = 0
            · rw [if_pos he] at h9 ⊢
              simp only [if_true] at h9
              simp only [List.length_singleton]
              omega
            · rw [if_neg he] at h9 ⊢
              omega
          have HRR := Aside0.mk HR'
          clear BE HR'
          go_wp2_with (first | (go_at_call 75; refine (comp_branch.calls w0 b v1 v2 v3 hb 2 n a t e A2 c2 A3 c3 A4 c4 77 (.inr rfl) #[.pointer (some ⟨w.heap.size, 0, none⟩), .pointer (some ⟨W'.heap.size, 0, none⟩)] (fun k => k = w.heap.size ∨ k = W'.heap.size) [⟨5, (I.length : Int), 0, 0, 0⟩] I P Q W3 HR2.out HC2.out HR3.out HC3.out HR4.out HC4.out LT.out LE.out (OK.out.1 (by simp)) OK.out.2.1 OK.out.2.2 hbd (by omega) (HBr.out.trans (BW.out.mono HBr.out.size)) (HSr.out.below BW.out) (fun k hk => by have := HQ.out k hk; have := BW.out.size; omega) HRR.out BEH.out).mono ?_; rintro en W2 ⟨rfl, hs2, hb2, hk2⟩))
          go_end0
          refine ⟨rfl, ?_, hb2, (HKr.out.below BW.out).then_ hk2 (fun k hk => .inl hk)⟩
          have e1 : cS ⟨2, n, a, t, e⟩ I.length = brC I.length (cE (hdE a) 0) (cSs t (I.length + nE (hdE a) + 1)) (cSs e (I.length + nE (hdE a) + 1 + nSs t + 1)) [⟨5, (I.length : Int), 0, 0, 0⟩] (decide (0 < e.length)) := by rw [cS, if_pos (.inr rfl), if_pos rfl]
          have e2 : plS ⟨2, n, a, t, e⟩ I.length = plSs t (I.length + nE (hdE a) + 1) ++ plSs e (I.length + nE (hdE a) + 1 + nSs t + 1) := by rw [plS, if_pos (.inr rfl)]
          rw [e1, e2]
          exact hs2.mono (fun k hk _ => by rcases hk with hk | hk; exact .inl hk; exact .inr (by have := BW.out.size; have := HSZ.out; omega))
  · have h1 : op ≠ 1 := fun h => hop (.inl h)
    have h2 : op ≠ 2 := fun h => hop (.inr h)
    have e1 := (beq_eq_false_iff_ne (a := op)).mpr h1
    have e2 := (beq_eq_false_iff_ne (a := op)).mpr h2
    have n1 := bne_iff_ne.mpr h1
    have n2 := bne_iff_ne.mpr h2
    have hI := HI.out
    rw [nS, if_neg hop] at hI
    have HI' := Aside0.mk hI
    have hge := nAs_ge a
    have hnb : I.length + nAs a + 10 < 1000000 := by omega
    have HCS := Aside0.mk (show cS ⟨op, n, a, t, e⟩ I.length = cAs a 0 ++ cT op n a.length by rw [cS, if_neg hop])
    have HPL := Aside0.mk (show plS ⟨op, n, a, t, e⟩ I.length = [] by rw [plS, if_neg hop])
    clear hop hI HI h1 h2 HR3 HC3 HR4 HC4 LT LE HOK HP
    have HS1 := Aside0.mk (HS.out.mono (Q' := fun k => Q k ∨ w.heap.size + 1 < k) (fun k hk _ => .inl hk))
    have HK1 := Aside0.mk (show Kept w W1 (fun k => Q k ∨ k = b) from Kept.of_below HA.out _)
    have hsz1 : W1.heap.size = w.heap.size + 2 := HSZ.out
    have NQ := Aside0.mk (show ∀ k, w.heap.size ≤ k → k ≤ w.heap.size + 1 → ¬ ((Q k ∨ w.heap.size + 1 < k) ∨ k = b) from fun k h1 h2 h => by
      rcases h with (h | h) | h
      · have := HQ.out k h; omega
      · omega
      · omega)
    clear hsz1 HS HA
    go_loopg [10] a.length (fun kq v10 X => ∃ j : Nat, v10 = .int .i64 (j : Int) ∧ Aside0 (j + kq = a.length) ∧ Aside0 (CSt X w0.heap.size b (fun k => Q k ∨ w.heap.size + 1 < k) v1 v2 v3 (I ++ cAs (a.take j) 0) P) ∧ Aside0 (X.heap[w.heap.size]? = some (.cells #[.pointer (some ⟨b, 0, none⟩)] 69 (0, 0))) ∧ Aside0 (X.heap[w.heap.size + 1]? = some (.cells #[.int .i64 op, .int .i64 n, .slice A2 a.length c2, .slice A3 t.length c3, .slice A4 e.length c4] 57 (0, 0))) ∧ Aside0 (Below w0.heap.size w0 X) ∧ Aside0 (Kept w X (fun k => Q k ∨ k = b)))
    case atStart => exact ⟨0, rfl, ⟨by omega⟩, ⟨by rw [List.take_zero, cAs, List.append_nil]; exact HS1.out⟩, HX1, HX2, HB, HK1⟩
    case round =>
      clear HX1 HX2 HSZ HB HS1 HK1
      obtain ⟨j, rfl, HJ, HS, HX1, HX2, HB, HK⟩ := hrel
      have x0 : wr.cell? ⟨w.heap.size, 0, none⟩ = some (.pointer (some ⟨b, 0, none⟩)) := (blk_cell HX1.out 0).trans rfl
      have y0 : wr.cell? ⟨w.heap.size + 1, 0, none⟩ = some (.int .i64 op) := (blk_cell HX2.out 0).trans rfl
      have hlt2 := blk_lt HX2.out
      cases gk with
      | succ k1 =>
        have hj : j < a.length := by have := HJ.out; omega
        have hd : decide ((j : Int) < (a.length : Int)) = true := decide_eq_true (by omega)
        obtain ⟨ad, B3, d3, e3, q0, q1, q2, q3, ql3, qr3⟩ := at_T52 HR2.out (j : Int) (by omega) (by omega)
        subst e3
        have hxi : a[j]? = some (rd_T52 a (j : Int)) := by unfold rd_T52; rw [Int.toNat_natCast, List.getD_eq_getElem?_getD, List.getElem?_eq_getElem hj]; rfl
        generalize rd_T52 a (j : Int) = x at q0 q1 q2 q3 ql3 qr3 hxi
        obtain ⟨xo, xn, xc, xl⟩ := x
        have hxn := nAs_take a j _ hxi
        rw [nE] at hxn
        have HCT := Aside0.mk (cAs_take a 0 j _ hxi)
        have htk := nAs_ge (a.take j)
        rw [List.length_take] at htk
        dsimp only at q0 q1 q2 q3 ql3 qr3
        replace q0 := (HB.out.cell (World.block_lt_of_cell? w0 _ q0)).trans q0
        replace q1 := (HB.out.cell (World.block_lt_of_cell? w0 _ q1)).trans q1
        replace q2 := (HB.out.cell (World.block_lt_of_cell? w0 _ q2)).trans q2
        replace q3 := (HB.out.cell (World.block_lt_of_cell? w0 _ q3)).trans q3
        simp only [Int.toNat_natCast] at q0 q1 q2 q3
        have hw1 : IntKind.i64.wrap ((j : Int) + 1) = (j : Int) + 1 := by rw [i64_w]; unfold wrap64; omega
        have W1B := Aside0.mk (bal (Below.refl wr.heap.size wr) (.cells #[.int .i64 xo, .int .i64 xn, .int .i64 xc, .slice B3 xl.length d3] 52))
        have z0 : (wr.alloc (.cells #[.int .i64 xo, .int .i64 xn, .int .i64 xc, .slice B3 xl.length d3] 52)).cell? ⟨w.heap.size, 0, none⟩ = some (.pointer (some ⟨b, 0, none⟩)) := (blk_cell (kal HX1.out _) 0).trans rfl
        have z1 : (wr.alloc (.cells #[.int .i64 xo, .int .i64 xn, .int .i64 xc, .slice B3 xl.length d3] 52)).cell? ⟨w.heap.size + 1, 0, none⟩ = some (.int .i64 op) := (blk_cell (kal HX2.out _) 0).trans rfl
        have QR := Aside0.mk qr3
        have QL := Aside0.mk ql3
        have hlI : (I ++ cAs (a.take j) 0).length + nAs xl + 1 < 1000000 := by
          rw [List.length_append, cAs_len]
          omega
        clear qr3 ql3 hxi
        go_wp2_with (first | (go_at_call 73; refine (comp_expr.go w0 b v1 v2 v3 P hb xl xo xn xc B3 d3 (j : Int) (I ++ cAs (a.take j) 0) (fun k => (Q k ∨ w.heap.size + 1 < k) ∧ k < wr.heap.size) _ QR.out QL.out (by omega) (by omega) hlI (HB.out.trans (W1B.out.mono HB.out.size)) (HS.out.bound.below W1B.out) ?hq).mono ?_; (case hq => intro k hk; have := hk.2; have := W1B.out.size; omega); rintro en W2 ⟨rfl, hs2, hb2, hk2⟩))
        have hsz := W1B.out.size
        have nq : ∀ k, w.heap.size ≤ k → k ≤ w.heap.size + 1 → ¬ (((Q k ∨ w.heap.size + 1 < k) ∧ k < wr.heap.size) ∨ k = b) := fun k h1 h2 h => NQ.out k h1 h2 (h.imp And.left id)
        have HX12 := Aside0.mk ((hk2.2 w.heap.size (by omega) (nq _ (by omega) (by omega))).trans ((W1B.out.block _ (by omega)).trans HX1.out))
        have HX22 := Aside0.mk ((hk2.2 (w.heap.size + 1) (by omega) (nq _ (by omega) (by omega))).trans ((W1B.out.block _ (by omega)).trans HX2.out))
        have HS2 := Aside0.mk hs2
        have HB2 := Aside0.mk hb2
        have HK2 := Aside0.mk ((HK.out.below W1B.out).then_ hk2 (fun k hk => by rcases hk with ⟨hq | hq, _⟩ | hq; exact .inl (.inl hq); exact .inr (by omega); exact .inl (.inr hq)))
        clear hs2 hb2 hk2 HX1 HX2 HS HB HK nq
        go_roundg k1
        case measure => omega
        case rel =>
          refine ⟨j + 1, by simp, ⟨by have := HJ.out; omega⟩, ⟨?_⟩, HX12, HX22, HB2, HK2⟩
          rw [HCT.out, ← List.append_assoc, Int.zero_add]
          exact HS2.out.mono (fun k hk _ => by rcases hk with ⟨hq, _⟩ | hq; exact hq; exact .inr (by omega))
      | zero =>
        have hj : j = a.length := by have := HJ.out; omega
        subst hj
        have hd : decide ((a.length : Int) < (a.length : Int)) = false := decide_eq_false (by omega)
        have y1 : wr.cell? ⟨w.heap.size + 1, 1, none⟩ = some (.int .i64 n) := (blk_cell HX2.out 1).trans rfl
        have y2 : wr.cell? ⟨w.heap.size + 1, 2, none⟩ = some (.slice A2 a.length c2) := (blk_cell HX2.out 2).trans rfl
        have hS : CSt wr w0.heap.size b (fun k => Q k ∨ w.heap.size + 1 < k) v1 v2 v3 (I ++ cAs a 0) P := by
          have := HS.out
          rwa [List.take_of_length_le (Nat.le_refl _)] at this
        obtain ⟨J, hJ⟩ : ∃ J, J = I ++ cAs a 0 := ⟨_, rfl⟩
        have hJl : J.length + 10 < 1000000 := by rw [hJ, List.length_append, cAs_len]; omega
        have HG := Aside0.mk (show I ++ cS ⟨op, n, a, t, e⟩ I.length = J ++ cT op n a.length by rw [HCS.out, hJ, List.append_assoc])
        rw [← hJ] at hS
        have HSJ := Aside0.mk hS
        clear hS HS hJ
        have hw9 : IntKind.i64.wrap ((a.length : Int) - 1) = (a.length : Int) - 1 := by rw [i64_w]; unfold wrap64; omega
        have fin : ∀ (w' : World) (code : List S40) (S : Nat → Prop), cT op n a.length = code → (∀ k, S k → Q k ∨ w.heap.size ≤ k) → CSt w' w0.heap.size b S v1 v2 v3 (J ++ code) P → CSt w' w0.heap.size b (fun k => Q k ∨ w.heap.size ≤ k) v1 v2 v3 (I ++ cS ⟨op, n, a, t, e⟩ I.length) (P ++ plS ⟨op, n, a, t, e⟩ I.length) := by
          intro w' code S hc hS hs
          rw [HG.out, hc, HPL.out, List.append_nil]
          exact hs.mono (fun k hk _ => hS k hk)
        have FIN := Aside0.mk fin
        have KS : ∀ (w' : World) (S : Nat → Prop), (∀ k, S k → (Q k ∨ w.heap.size + 1 < k) ∨ k = b) → Kept wr w' S → Kept w w' (fun k => Q k ∨ k = b) := fun w' S hS hk => HK.out.then_ hk (fun k h => by rcases hS k h with (h | h) | h; exact .inl (.inl h); exact .inr (by omega); exact .inl (.inr h))
        have KEEP := Aside0.mk KS
        have hwr := HK.out.1
        clear fin KS HCS HPL
        by_cases h0 : op = 0
        · subst h0
          have HCT := Aside0.mk (show cT 0 n a.length = [⟨4, n, 0, (a.length : Int) - 1, 0⟩] by simp [cT])
          go_wp2_with (first | (go_at_call 74; refine (comp_store.calls w0 wr b _ v1 v2 v3 J P n ((a.length : Int) - 1) HB.out hb HSJ.out (by omega)).mono ?_; rintro en W2 ⟨rfl, hs2, hb2, hk2⟩))
          go_end0
          exact ⟨rfl, FIN.out _ _ _ HCT.out (fun k hk => by rcases hk with (h | h) | h; exact .inl h; exact .inr (by omega); exact .inr (by omega)) hs2, hb2, KEEP.out _ _ (fun k h => h) hk2⟩
        have e0 := (beq_eq_false_iff_ne (a := op)).mpr h0
        by_cases h3 : op = 3
        · subst h3
          have HCT := Aside0.mk (show cT 3 n a.length = [⟨7, n, 0, 0, 0⟩] by simp [cT])
          go_wp2
          refine start_ (n := 7) (S := fun w' => w'.cell? ⟨w.heap.size, 0, none⟩ = some (.pointer (some ⟨b, 0, none⟩)) ∧ w'.cell? ⟨w.heap.size + 1, 1, none⟩ = some (.int .i64 n) ∧ w'.cell? ⟨w.heap.size + 1, 2, none⟩ = some (.slice A2 a.length c2)) (ds := [6]) #[false, false, false, false, false, false, false] (by kernel_rfl) rfl rfl ⟨(blk_cell (kdr HX1.out) 0).trans rfl, (blk_cell (kdr HX2.out) 1).trans rfl, (blk_cell (kdr HX2.out) 2).trans rfl⟩ (fun hHeld => ?_)
          refine tk (i := 0) (N := some 57) (bl 7 1) rfl rfl (by kernel_rfl) hHeld ?_
          refine pu (i := 1) (N := some 58) (bl 7 3) rfl rfl (by kernel_rfl) ?_
          refine pu (i := 2) (N := some 59) (bl 7 7) rfl rfl (by kernel_rfl) ?_
          refine pu (i := 3) (N := some 60) (bl 7 15) rfl rfl (by kernel_rfl) ?_
          refine tk (i := 4) (N := some 61) (bl 7 31) rfl rfl (by kernel_rfl) hHeld ?_
          refine pu (i := 5) (N := some 62) (bl 7 63) rfl rfl (by kernel_rfl) ?_
          refine last_ (i := 6) (N := (some 63)) (bl 7 127) rfl rfl (by kernel_rfl) (by decide) (fun K hK => ?_)
          refine goes_ Try.func39 (by kernel_rfl) rfl #[.pointer (some ⟨b, 0, none⟩), .agg #[.int .i64 (7), .int .i64 (n), .int .i64 (0), .int .i64 (0), .int .i64 (0)]] (by rfl) rfl rfl (by (try simp only [List.map_toArray, List.map_cons, List.map_nil]); rfl) ?_
          refine (comp_put.calls w0 wr.drew b _ v1 v2 v3 J P ⟨7, n, 0, 0, 0⟩ (HB.out.trans ((below_drew (Below.refl _ _)).mono HB.out.size)) hb (HSJ.out.below (below_drew (Below.refl _ _))) (by omega)).mono ?_
          rintro en Y2 ⟨rfl, hs, hb2, hk⟩
          refine ⟨_, rfl, ?_⟩
          refine hK.out _ _ ?_
          clear hK K
          refine nm 63 ?_
          refine done_ (by kernel_rfl) ?_
          have HF := Aside0.mk (And.intro hs (And.intro hb2 hk))
          clear hs hb2 hk
          go_wp2
          go_end0
          exact ⟨rfl, FIN.out _ _ _ HCT.out (fun k hk => by rcases hk with (h | h) | h; exact .inl h; exact .inr (by omega); exact .inr (by have : wr.heap.size ≤ k := h; omega)) HF.out.1, HF.out.2.1, KEEP.out _ _ (fun k h => h) ((Kept.of_below (below_drew (Below.refl _ _)) _).then_ HF.out.2.2 (fun k h => .inl h))⟩
        have e3 := (beq_eq_false_iff_ne (a := op)).mpr h3
        by_cases h4 : op = 4
        · subst h4
          have HCT := Aside0.mk (show cT 4 n a.length = [⟨8, a.length, 0, 0, 0⟩] ++ [⟨4, n, 0, a.length, 0⟩] by simp [cT])
          go_wp2
          refine start_ (n := 8) (S := fun w' => w'.cell? ⟨w.heap.size, 0, none⟩ = some (.pointer (some ⟨b, 0, none⟩)) ∧ w'.cell? ⟨w.heap.size + 1, 1, none⟩ = some (.int .i64 n) ∧ w'.cell? ⟨w.heap.size + 1, 2, none⟩ = some (.slice A2 a.length c2)) (ds := [7]) #[false, false, false, false, false, false, false, false] (by kernel_rfl) rfl rfl ⟨(blk_cell (kdr HX1.out) 0).trans rfl, (blk_cell (kdr HX2.out) 1).trans rfl, (blk_cell (kdr HX2.out) 2).trans rfl⟩ (fun hHeld => ?_)
          refine tk (i := 0) (N := some 66) (bl 8 1) rfl rfl (by kernel_rfl) hHeld ?_
          refine pu (i := 1) (N := some 67) (bl 8 3) rfl rfl (by kernel_rfl) ?_
          refine pu (i := 2) (N := some 68) (bl 8 7) rfl rfl (by kernel_rfl) ?_
          refine pu (i := 3) (N := some 69) (bl 8 15) rfl rfl (by kernel_rfl) ?_
          refine tk (i := 4) (N := some 70) (bl 8 31) rfl rfl (by kernel_rfl) hHeld ?_
          refine pu (i := 5) (N := some 71) (bl 8 63) rfl rfl (by kernel_rfl) ?_
          refine pu (i := 6) (N := some 72) (bl 8 127) rfl rfl (by kernel_rfl) ?_
          refine last_ (i := 7) (N := (some 73)) (bl 8 255) rfl rfl (by kernel_rfl) (by decide) (fun K hK => ?_)
          refine goes_ Try.func39 (by kernel_rfl) rfl #[.pointer (some ⟨b, 0, none⟩), .agg #[.int .i64 (8), .int .i64 (a.length), .int .i64 (0), .int .i64 (0), .int .i64 (0)]] (by rfl) rfl rfl (by (try simp only [List.map_toArray, List.map_cons, List.map_nil]); rfl) ?_
          refine (comp_put.calls w0 wr.drew b _ v1 v2 v3 J P ⟨8, a.length, 0, 0, 0⟩ (HB.out.trans ((below_drew (Below.refl _ _)).mono HB.out.size)) hb (HSJ.out.below (below_drew (Below.refl _ _))) (by omega)).mono ?_
          rintro en Y2 ⟨rfl, hs, hb2, hk⟩
          refine ⟨_, rfl, ?_⟩
          refine hK.out _ _ ?_
          clear hK K
          refine nm 73 ?_
          refine done_ (by kernel_rfl) ?_
          have hk9 : Kept wr Y2 (fun k => (Q k ∨ w.heap.size + 1 < k) ∨ k = b) := (Kept.of_below (below_drew (Below.refl _ _)) _).then_ hk (fun k h => .inl h)
          have X1 := Aside0.mk ((hk9.2 w.heap.size (by omega) (NQ.out _ (by omega) (by omega))).trans HX1.out)
          have X2 := Aside0.mk ((hk9.2 (w.heap.size + 1) (by omega) (NQ.out _ (by omega) (by omega))).trans HX2.out)
          have u0 : Y2.cell? ⟨w.heap.size, 0, none⟩ = some (.pointer (some ⟨b, 0, none⟩)) := (blk_cell X1.out 0).trans rfl
          have u1 : Y2.cell? ⟨w.heap.size + 1, 1, none⟩ = some (.int .i64 n) := (blk_cell X2.out 1).trans rfl
          have u2 : Y2.cell? ⟨w.heap.size + 1, 2, none⟩ = some (.slice A2 a.length c2) := (blk_cell X2.out 2).trans rfl
          have hsy := hk9.1
          have HSY := Aside0.mk hs
          have HBY := Aside0.mk hb2
          have HKY := Aside0.mk (KEEP.out _ _ (fun k h => h) hk9)
          clear hs hb2 hk hk9 X1 X2
          go_wp2_with (first | (go_at_call 74; refine (comp_store.calls w0 Y2 b _ v1 v2 v3 _ P n (a.length : Int) HBY.out hb HSY.out (by rw [List.length_append]; simp only [List.length_singleton]; omega)).mono ?_; rintro en W2 ⟨rfl, hs2, hb2, hk2⟩))
          go_end0
          refine ⟨rfl, FIN.out _ _ _ HCT.out (fun k hk => ?_) (by rw [← List.append_assoc]; exact hs2), hb2, HKY.out.then_ hk2 (fun k hk => ?_)⟩
          · rcases hk with ((h | h) | h) | h
            · exact .inl h
            · exact .inr (by omega)
            · exact .inr (by have : wr.heap.size ≤ k := h; omega)
            · exact .inr (by omega)
          · rcases hk with ((h | h) | h) | h
            · exact .inl (.inl h)
            · exact .inr (by omega)
            · exact .inr (by have : wr.heap.size ≤ k := h; omega)
            · exact .inl (.inr h)
        have e4 := (beq_eq_false_iff_ne (a := op)).mpr h4
        by_cases h5 : op = 5
        · subst h5
          have HCT := Aside0.mk (show cT 5 n a.length = [⟨9, 0, 0, 0, 0⟩] by simp [cT])
          go_wp2_with (first | (go_at_call 39; refine (comp_put.calls w0 wr b _ v1 v2 v3 J P ⟨9, 0, 0, 0, 0⟩ HB.out hb HSJ.out (by omega)).mono ?_; rintro en W2 ⟨rfl, hs2, hb2, hk2⟩))
          go_end0
          exact ⟨rfl, FIN.out _ _ _ HCT.out (fun k hk => by rcases hk with (h | h) | h; exact .inl h; exact .inr (by omega); exact .inr (by omega)) hs2, hb2, KEEP.out _ _ (fun k h => h) hk2⟩
        have e5 := (beq_eq_false_iff_ne (a := op)).mpr h5
        by_cases h6 : op = 6
        · subst h6
          have HCT := Aside0.mk (show cT 6 n a.length = [⟨10, 0, 0, 0, 0⟩] by simp [cT])
          go_wp2_with (first | (go_at_call 39; refine (comp_put.calls w0 wr b _ v1 v2 v3 J P ⟨10, 0, 0, 0, 0⟩ HB.out hb HSJ.out (by omega)).mono ?_; rintro en W2 ⟨rfl, hs2, hb2, hk2⟩))
          go_end0
          exact ⟨rfl, FIN.out _ _ _ HCT.out (fun k hk => by rcases hk with (h | h) | h; exact .inl h; exact .inr (by omega); exact .inr (by omega)) hs2, hb2, KEEP.out _ _ (fun k h => h) hk2⟩
        have e6 := (beq_eq_false_iff_ne (a := op)).mpr h6
        have HCT := Aside0.mk (show cT op n a.length = [] by simp [cT, h0, h3, h4, h5, h6])
        clear h0 h3 h4 h5 h6
        go_wp2
        go_end0
        exact ⟨rfl, FIN.out _ _ (fun k => Q k ∨ w.heap.size + 1 < k) HCT.out (fun k hk => by rcases hk with h | h; exact .inl h; exact .inr (by omega)) (by rw [List.append_nil]; exact HSJ.out), HB.out, HK.out⟩
theorem infoInt : (Try.prog.info? 3).map (fun i => (i.zero, i.size, i.bytes)) = some (some (.int .i64 0), 1, 8) := by kernel_rfl
theorem cSs_take : ∀ (l : List S57) (p i : Nat) (x : S57), l[i]? = some x → cSs (l.take (i + 1)) p = cSs (l.take i) p ++ cS x (p + nSs (l.take i))
  | [], _, _, _, h => by simp at h
  | a :: t, p, 0, x, h => by
    obtain rfl : a = x := by simpa using h
    simp [cSs, nSs]
  | a :: t, p, i + 1, x, h => by
    rw [List.take_succ_cons, List.take_succ_cons, cSs, cSs, nSs, cSs_take t (p + nS a) i x (by simpa using h), List.append_assoc, Nat.add_assoc]
theorem plSs_take : ∀ (l : List S57) (p i : Nat) (x : S57), l[i]? = some x → plSs (l.take (i + 1)) p = plSs (l.take i) p ++ (((p + nSs (l.take i) : Nat) : Int) :: plS x (p + nSs (l.take i)))
  | [], _, _, _, h => by simp at h
  | a :: t, p, 0, x, h => by
    obtain rfl : a = x := by simpa using h
    simp [plSs, nSs]
  | a :: t, p, i + 1, x, h => by
    rw [List.take_succ_cons, List.take_succ_cons, plSs, plSs, nSs, plSs_take t (p + nS a) i x (by simpa using h), List.append_assoc, Nat.add_assoc]
theorem nSs_take : ∀ (l : List S57) (i : Nat) (x : S57), l[i]? = some x → nSs (l.take i) + nS x ≤ nSs l
  | [], _, _, h => by simp at h
  | a :: t, 0, x, h => by
    obtain rfl : a = x := by simpa using h
    simp [nSs]
  | a :: t, i + 1, x, h => by
    rw [List.take_succ_cons, nSs, nSs]
    have := nSs_take t i x (by simpa using h)
    omega
theorem kSs_take : ∀ (l : List S57) (i : Nat) (x : S57), l[i]? = some x → kSs (l.take i) + kS x ≤ kSs l
  | [], _, _, h => by simp at h
  | a :: t, 0, x, h => by
    obtain rfl : a = x := by simpa using h
    simp [kSs]
  | a :: t, i + 1, x, h => by
    rw [List.take_succ_cons, kSs, kSs]
    have := kSs_take t i x (by simpa using h)
    omega
theorem okSs_at : ∀ (l : List S57) (i : Nat) (x : S57), okSs l → l[i]? = some x → okS x
  | [], _, _, _, h => by simp at h
  | a :: t, 0, x, h, e => by
    obtain rfl : a = x := by simpa using e
    exact h.1
  | a :: t, i + 1, x, h, e => okSs_at t i x h.2 (by simpa using e)
theorem kS_pos (x : S57) : 0 < kS x := by
  obtain ⟨op, n, a, t, e⟩ := x
  rw [kS]
  split <;> omega
theorem comp_list.calls (w0 : World) (b : Nat) (v1 v2 v3 : Value) (hb : w0.heap.size ≤ b) : ∀ l, LC w0 b v1 v2 v3 l := by
  refine stmts_ind fun l ih => ?_
  intro A c I P Q w hr hc hok hI hP hB hS hQ
  have huC := Try.underlying75
  have huI := Try.underlying35
  have HR := Aside0.mk hr
  have HC := Aside0.mk hc
  have HOK := Aside0.mk hok
  have IH := Aside0.mk ih
  have HQ := Aside0.mk hQ
  have hbl := hS.lt
  have hll := hr.2.1
  have HB0 := Aside0.mk hB
  have HS0 := Aside0.mk (hS.mono (Q' := fun k => Q k ∨ w.heap.size ≤ k) (fun k hk _ => .inl hk))
  clear hr hc hok ih hQ hB hS
  go_enter Try.func38, Try.ntmps38
  go_wp2
  go_loopg [8] l.length (fun kq v8 X => ∃ j : Nat, v8 = .int .i64 (j : Int) ∧ Aside0 (j + kq = l.length) ∧ Aside0 (CSt X w0.heap.size b (fun k => Q k ∨ w.heap.size ≤ k) v1 v2 v3 (I ++ cSs (l.take j) I.length) (P ++ plSs (l.take j) I.length)) ∧ Aside0 (Below w0.heap.size w0 X) ∧ Aside0 (Kept w X (fun k => Q k ∨ k = b)))
  case atStart => exact ⟨0, rfl, ⟨by omega⟩, ⟨by rw [List.take_zero, cSs, plSs, List.append_nil, List.append_nil]; exact HS0.out⟩, HB0, ⟨Kept.refl _ _⟩⟩
  case round =>
    clear HS0 HB0
    obtain ⟨j, rfl, HJ, HS, HB, HK⟩ := hrel
    cases gk with
    | zero =>
      have hj : j = l.length := by have := HJ.out; omega
      subst hj
      have hd : decide ((l.length : Int) < (l.length : Int)) = false := decide_eq_false (by omega)
      go_wp2
      go_end0
      have := HS.out
      rw [List.take_of_length_le (Nat.le_refl _)] at this
      exact ⟨rfl, this, HB.out, HK.out⟩
    | succ k1 =>
      have hj : j < l.length := by have := HJ.out; omega
      have hd : decide ((j : Int) < (l.length : Int)) = true := decide_eq_true (by omega)
      obtain ⟨ad, B2, d2, B3, d3, B4, d4, e3, q0, q1, q2, q3, q4, ql2, qr2, ql3, qr3, ql4, qr4⟩ := at_T57 HR.out (j : Int) (by omega) (by omega)
      subst e3
      have hxi : l[j]? = some (rd_T57 l (j : Int)) := by unfold rd_T57; rw [Int.toNat_natCast, List.getD_eq_getElem?_getD, List.getElem?_eq_getElem hj]; rfl
      generalize rd_T57 l (j : Int) = x at q0 q1 q2 q3 q4 ql2 qr2 ql3 qr3 ql4 qr4 hxi
      have hxm : x ∈ l := List.mem_of_getElem? hxi
      obtain ⟨op, n, xa, xt, xe⟩ := x
      obtain ⟨it, ie⟩ := IH.out _ hxm
      dsimp only at q0 q1 q2 q3 q4 ql2 qr2 ql3 qr3 ql4 qr4 it ie
      replace q0 := (HB.out.cell (World.block_lt_of_cell? w0 _ q0)).trans q0
      replace q1 := (HB.out.cell (World.block_lt_of_cell? w0 _ q1)).trans q1
      replace q2 := (HB.out.cell (World.block_lt_of_cell? w0 _ q2)).trans q2
      replace q3 := (HB.out.cell (World.block_lt_of_cell? w0 _ q3)).trans q3
      replace q4 := (HB.out.cell (World.block_lt_of_cell? w0 _ q4)).trans q4
      simp only [Int.toNat_natCast] at q0 q1 q2 q3 q4
      have HNT := Aside0.mk (nSs_take l j _ hxi)
      have HKT := Aside0.mk (kSs_take l j _ hxi)
      have HCT := Aside0.mk (cSs_take l I.length j _ hxi)
      have HPT := Aside0.mk (plSs_take l I.length j _ hxi)
      have OKX := Aside0.mk (okSs_at l j _ HOK.out hxi)
      have QR2 := Aside0.mk qr2
      have QL2 := Aside0.mk ql2
      have QR3 := Aside0.mk qr3
      have QL3 := Aside0.mk ql3
      have QR4 := Aside0.mk qr4
      have QL4 := Aside0.mk ql4
      have IT := Aside0.mk it
      have IE := Aside0.mk ie
      have hw1 : IntKind.i64.wrap ((j : Int) + 1) = (j : Int) + 1 := by rw [i64_w]; unfold wrap64; omega
      have hkp := kS_pos ⟨op, n, xa, xt, xe⟩
      obtain ⟨J, hJ⟩ : ∃ J, J = I ++ cSs (l.take j) I.length := ⟨_, rfl⟩
      obtain ⟨R, hR⟩ : ∃ R, R = P ++ plSs (l.take j) I.length := ⟨_, rfl⟩
      have hs := HS.out
      rw [← hJ, ← hR] at hs
      have HJl := Aside0.mk (show J.length = I.length + nSs (l.take j) by rw [hJ, List.length_append, cSs_len])
      have HRl := Aside0.mk (show R.length = P.length + kSs (l.take j) by rw [hR, List.length_append, plSs_len])
      have HJ0 := Aside0.mk hJ
      have HR0 := Aside0.mk hR
      have WB := Aside0.mk (below_drew (bal (Below.refl wr.heap.size wr) (.cells #[.int .i64 op, .int .i64 n, .slice B2 xa.length d2, .slice B3 xt.length d3, .slice B4 xe.length d4] 57)))
      have XN := Aside0.mk (kdr (blk_new wr (.cells #[.int .i64 op, .int .i64 n, .slice B2 xa.length d2, .slice B3 xt.length d3, .slice B4 xe.length d4] 57)))
      have hs1 : CSt wr w0.heap.size b (fun k => (Q k ∨ w.heap.size ≤ k) ∧ k < wr.heap.size) v1 v2 v3 J R := hs.bound
      clear qr2 ql2 qr3 ql3 qr4 ql4 it ie hJ hR hs HS hxi hxm
      obtain ⟨Ai, ci, Ap, cp, t1, t2, t3⟩ := hs1
      have T1 := Aside0.mk ((WB.out.block _ (blk_lt t1)).trans t1)
      have T2 := Aside0.mk (Kd.R_below t2 WB.out)
      have T3 := Aside0.mk (Kd.R_below t3 WB.out)
      have hblr := blk_lt t1
      clear t1 t2 t3
      have hwr := HK.out.1
      go_wp2
      have hsz : (wr.alloc (.cells #[.int .i64 op, .int .i64 n, .slice B2 xa.length d2, .slice B3 xt.length d3, .slice B4 xe.length d4] 57)).drew.heap.size = wr.heap.size + 1 := by show (wr.alloc _).heap.size = _; simp
      have HSZ := Aside0.mk hsz
      clear hsz
      refine start_ (n := 14) (S := fun w' => w'.cell? ⟨b, 4, none⟩ = some (.slice Ap R.length cp)) (ds := [10, 13]) #[false, false, false, false, false, false, false, false, false, false, false, false, false, false] (by kernel_rfl) rfl rfl ((blk_cell T1.out 4).trans rfl) (fun hHeld => ?_)
      generalize (wr.alloc (.cells #[.int .i64 op, .int .i64 n, .slice B2 xa.length d2, .slice B3 xt.length d3, .slice B4 xe.length d4] 57)).drew = Y at WB XN T1 T2 T3 HSZ hHeld ⊢
      refine pu (i := 0) (N := some 12) (bl 14 1) rfl rfl (by kernel_rfl) ?_
      refine pu (i := 1) (N := some 13) (bl 14 3) rfl rfl (by kernel_rfl) ?_
      refine pu (i := 2) (N := some 14) (bl 14 7) rfl rfl (by kernel_rfl) ?_
      refine pu (i := 3) (N := some 15) (bl 14 15) rfl rfl (by kernel_rfl) ?_
      refine pu (i := 5) (N := some 17) (bl 14 47) rfl rfl (by kernel_rfl) ?_
      refine pu (i := 6) (N := some 18) (bl 14 111) rfl rfl (by kernel_rfl) ?_
      refine pu (i := 7) (N := some 19) (bl 14 239) rfl rfl (by kernel_rfl) ?_
      refine tk (i := 4) (N := some 16) (bl 14 255) rfl rfl (by kernel_rfl) hHeld ?_
      refine one_ (i := 8) (N := (some 20)) (bl 14 511) rfl rfl (by kernel_rfl) (by decide) (fun K hK => ?_)
      refine goes_ Try.func62 (by kernel_rfl) rfl #[.pointer (some ⟨b, 0, none⟩)] (by rfl) rfl rfl (by (try simp only [List.map_toArray, List.map_cons, List.map_nil]); rfl) ?_
      refine (comp_here.calls Y w0.heap.size b _ v1 v2 v3 J R ⟨_, _, _, _, T1.out, T2.out, T3.out⟩).mono ?_
      rintro en Z ⟨rfl, hz⟩
      refine ⟨_, rfl, ?_⟩
      have HZ := Aside0.mk hz
      have U1 := Aside0.mk (blk_below T1.out hz)
      have U2 := Aside0.mk (Kd.R_below T2.out hz)
      have U3 := Aside0.mk (Kd.R_below T3.out hz)
      have XZ := Aside0.mk (blk_below XN.out hz)
      have WZ := Aside0.mk (WB.out.trans (hz.mono WB.out.size))
      have hzs := hz.size
      clear hz
      refine hK.out _ _ ((blk_cell U1.out 4).trans rfl) (fun hHeld => ?_)
      clear hK K
      refine nm 20 ?_
      refine one_ (i := 9) (N := (some 21)) (bl 14 1023) rfl rfl (by kernel_rfl) (by decide) (fun K hK => ?_)
      refine value_ (w1 := ?_) (v := ?_) (by rfl) rfl ?_ ?_
      rotate_left 2
      · go_simp
        constructor
        · rfl
        · rfl
      refine hK.out _ _ ((blk_cell (kal U1.out _) 4).trans rfl) (fun hHeld => ?_)
      clear hK K
      refine nm 21 ?_
      refine last_ (i := 10) (N := (some 22)) (bl 14 2047) rfl rfl (by kernel_rfl) (by decide) (fun K hK => ?_)
      have BZ := HB.out.trans (WZ.out.mono HB.out.size)
      have R2 := Kd.R_mono U2.out (ok' := fun k => Q k ∨ w.heap.size ≤ k) (fun k hk => hk.1)
      have R3 := Kd.R_mono U3.out (ok' := fun k => ((Q k ∨ w.heap.size ≤ k) ∧ k < wr.heap.size) ∨ Z.heap.size ≤ k) (fun k hk => .inl hk)
      refine Kd.R_append_step (Kd.int .i64) (w0 := w0) w0.heap.size (by rfl) (.tmp 16) (.tmp 21) 35 3 (.int .i64 0) 8 rfl huI infoInt rfl (by decide) (by omega) (.slice Ap R.length cp) R (J.length : Int) [.int .i64 (J.length : Int)] (fun k => ((Q k ∨ w.heap.size ≤ k) ∧ k < wr.heap.size) ∨ Z.heap.size ≤ k) (fun _ => False) rfl rfl rfl (fun _ hk => hk.elim) (fun k hk => .inr hk) R3 BZ BZ.size (by have h1 := HRl.out; have h2 := HKT.out; omega) ?_
      intro v2' w2 ho hb2 hg hat
      have RA := Kd.R_over' U2.out (Kd.R_typed R3) (by decide) hg
      have HC2 := Aside0.mk (blk_grown U1.out hg (Kd.R_ne R3 U1.out (by decide)))
      have HX2 := Aside0.mk (blk_grown XZ.out hg (Kd.R_ne R3 XZ.out (by decide)))
      have KZ := Aside0.mk (Kept.of_grown (S := fun k => Q k ∨ k = b) hg (HK.out.below WZ.out) (fun k e => by rcases R3.1 k e with ⟨h | h, _⟩ | h; exact .inl (.inl h); exact .inr h; exact .inr (by have := WZ.out.size; omega)))
      obtain ⟨A2, c2, rfl⟩ := Kd.R_slice ho
      have hl : (R ++ [(J.length : Int)]).length = R.length + 1 := by simp
      rw [hl] at ho
      have HO2 := Aside0.mk ho
      have HP2 := Aside0.mk RA
      have HB2 := Aside0.mk hb2
      have hsz2 := hg.size
      clear R2 R3 BZ ho hb2 hg hat RA XN T1 T2 T3 WB U1 U2 U3 XZ
      refine hK.out _ _ ?_
      clear hK K
      refine nm 22 ?_
      refine pu (i := 11) (N := some 23) (bl 14 4095) rfl rfl (by kernel_rfl) ?_
      refine pu (i := 12) (N := some 24) (bl 14 8191) rfl rfl (by kernel_rfl) ?_
      refine last_ (i := 13) (N := none) (bl 14 16383) rfl rfl (by kernel_rfl) (by decide) (fun K hK => ?_)
      have hc0 : w2.cell? ⟨b, 4, none⟩ = some (.slice Ap R.length cp) := (blk_cell HC2.out 4).trans rfl
      have hf0 := blk_frozen HC2.out 4
      refine skip_ (w1 := ?_) (by rfl) rfl ?_ ?_
      rotate_left
      · go_simp
        rfl
      refine hK.out _ _ ?_
      clear hK K
      refine done_ (by kernel_rfl) ?_
      have V1 := blk_put HC2.out 4 (.slice A2 (R.length + 1) c2) (cs' := #[.slice Ai J.length ci, v1, v2, v3, .slice A2 (R.length + 1) c2]) rfl
      have V2 := Kd.R_set HO2.out HC2.out (by decide) 4 (.slice A2 (R.length + 1) c2)
      have V3 := Kd.R_set HP2.out HC2.out (by decide) 4 (.slice A2 (R.length + 1) c2)
      have V4 := Below.setCell HB2.out (p := ⟨b, 4, none⟩) hb (.slice A2 (R.length + 1) c2)
      have V5 := Kept.setCell KZ.out (p := ⟨b, 4, none⟩) (.inl (.inr rfl)) (.slice A2 (R.length + 1) c2)
      have V6 := (Below.heap_setCell w2 ⟨b, 4, none⟩ (.slice A2 (R.length + 1) c2) wr.heap.size (by show wr.heap.size ≠ b; omega)).trans HX2.out
      have V7 : (w2.setCell ⟨b, 4, none⟩ (.slice A2 (R.length + 1) c2)).heap.size = w2.heap.size := by simp
      generalize w2.setCell ⟨b, 4, none⟩ (.slice A2 (R.length + 1) c2) = W3 at V1 V2 V3 V4 V5 V6 V7 ⊢
      have hS3 : CSt W3 w0.heap.size b (fun k => ((Q k ∨ w.heap.size ≤ k) ∧ k < wr.heap.size) ∨ Z.heap.size ≤ k) v1 v2 v3 J (R ++ [(J.length : Int)]) := ⟨Ai, ci, A2, c2, by rw [hl]; exact V1, Kd.R_mono V3 (fun k hk => .inl hk), by rw [hl]; exact V2⟩
      have y0 := (blk_cell V6 0).trans rfl
      have HS3 := Aside0.mk hS3
      have HB3 := Aside0.mk V4
      have HK3 := Aside0.mk V5
      have HX3 := Aside0.mk V6
      have hs3 : w2.heap.size ≤ W3.heap.size := Nat.le_of_eq V7.symm
      have z0 : W3.cell? ⟨wr.heap.size, 0, none⟩ = some (.int .i64 op) := (blk_cell V6 0).trans rfl
      have z1 : W3.cell? ⟨wr.heap.size, 1, none⟩ = some (.int .i64 n) := (blk_cell V6 1).trans rfl
      have z2 : W3.cell? ⟨wr.heap.size, 2, none⟩ = some (.slice B2 xa.length d2) := (blk_cell V6 2).trans rfl
      have z3 : W3.cell? ⟨wr.heap.size, 3, none⟩ = some (.slice B3 xt.length d3) := (blk_cell V6 3).trans rfl
      have z4 : W3.cell? ⟨wr.heap.size, 4, none⟩ = some (.slice B4 xe.length d4) := (blk_cell V6 4).trans rfl
      clear V1 V2 V3 V4 V5 V6 V7 hS3 HO2 HP2 HB2 KZ HX2 HC2 hc0 hf0 hl y0 hHeld q0 q1 q2 q3 q4
      go_wp2_with (first | (go_at_call 63; refine (comp_stmt.calls w0 b v1 v2 v3 hb op n xa xt xe B2 d2 B3 d3 B4 d4 J (R ++ [(J.length : Int)]) (fun k => (((Q k ∨ w.heap.size ≤ k) ∧ k < wr.heap.size) ∨ Z.heap.size ≤ k) ∧ k < W3.heap.size) W3 QR2.out QL2.out QR3.out QL3.out QR4.out QL4.out IT.out IE.out OKX.out (by have h1 := HJl.out; have h2 := HNT.out; omega) (by rw [List.length_append]; simp only [List.length_singleton]; have h1 := HRl.out; have h2 := HKT.out; omega) HB3.out HS3.out.bound (fun k hk => hk.2)).mono ?_; rintro en W4 ⟨rfl, hs4, hb4, hk4⟩))
      have HS4 := Aside0.mk hs4
      have HB4 := Aside0.mk hb4
      have HK4 := Aside0.mk (HK3.out.then_ hk4 (fun k hk => by rcases hk with ⟨⟨h | h, _⟩ | h, _⟩ | h; exact .inl (.inl h); exact .inr h; exact .inr (by have := WZ.out.size; omega); exact .inl (.inr h)))
      clear hs4 hb4 hk4 HS3 HB3 HK3 HX3 z0 z1 z2 z3 z4
      go_roundg k1
      case measure => omega
      case rel =>
        refine ⟨j + 1, by simp, ⟨by have := HJ.out; omega⟩, ⟨?_⟩, HB4, HK4⟩
        rw [HCT.out, HPT.out, ← List.append_assoc, ← List.append_assoc, ← HJ0.out, ← HR0.out, ← HJl.out]
        have := HS4.out
        rw [List.append_assoc, List.singleton_append] at this
        exact this.mono (fun k hk _ => by rcases hk with ⟨⟨h, _⟩ | h, _⟩ | h; exact h; exact .inr (by have := WZ.out.size; omega); exact .inr (by have := WZ.out.size; omega))
def codeOf (l : List S57) : List S40 := cSs l 0 ++ [⟨11, 0, 0, 0, 0⟩]
theorem comp_compiled.calls (k : Nat) (a0 : Int) (A1 : Option Addr) (c1 : Nat) (l1 : List S42) (A2 : Option Addr) (c2 : Nat) (l2 : List S57) (r : Int) (w : World) (hr1 : Kd.C k42 w A1 l1.length l1) (hc1 : l1.length ≤ c1) (hr2 : Kd.C k57 w A2 l2.length l2) (hc2 : l2.length ≤ c2) (h : prog_Check.f k a0 l1 l2 = some r) (hok : r = 0 → okSs l2 ∧ nSs l2 < 900000 ∧ kSs l2 < 900000) :
    Calls Try.prog 23 #[.agg #[.int .i64 a0, .slice A1 l1.length c1, .slice A2 l2.length c2]] w fun e w' => Below w.heap.size w w' ∧
      ((r ≠ 0 ∧ e = .returned (.tuple #[.pointer none, .int .i64 30])) ∨ (r = 0 ∧ ∃ b, w.heap.size ≤ b ∧ e = .returned (.tuple #[.pointer (some ⟨b, 0, none⟩), .int .i64 0]) ∧ CSt w' w.heap.size b (fun _ => True) (.int .i64 a0) (.slice A1 l1.length c1) (.slice A2 l2.length c2) (codeOf l2) (plSs l2 0))) := by
  have huP := Try.underlying25
  have huC := Try.underlying75
  have huE := Try.underlying32
  have HR1 := Aside0.mk hr1
  have HC1 := Aside0.mk hc1
  have HR2 := Aside0.mk hr2
  have HC2 := Aside0.mk hc2
  have H := Aside0.mk h
  have HOK := Aside0.mk hok
  have AL := Aside0.mk (bal (Below.refl w.heap.size w) (.cells #[.int .i64 a0, .slice A1 l1.length c1, .slice A2 l2.length c2] 25))
  have XN := Aside0.mk (blk_new w (.cells #[.int .i64 a0, .slice A1 l1.length c1, .slice A2 l2.length c2] 25))
  clear hr1 hc1 hr2 hc2 h hok
  go_enter Try.func23, Try.ntmps23
  by_cases hr : r = 0
  · subst hr
    obtain ⟨ok1, ok2, ok3⟩ := HOK.out rfl
    have OK1 := Aside0.mk ok1
    clear ok1
    go_upto_region 3 with (first | (go_at_call 37; refine (prog_Check.calls k a0 _ _ l1 _ _ l2 0 _ (Kd.C_below HR1.out AL.out) HC1.out (Kd.C_below HR2.out AL.out) HC2.out H.out).mono ?_; rintro e W1 ⟨rfl, hb1⟩; have B1 := Aside0.mk (AL.out.trans (hb1.mono AL.out.size)); have X1 := Aside0.mk (blk_below XN.out hb1); clear hb1))
    have x0 : W1.cell? ⟨w.heap.size, 0, none⟩ = some (.int .i64 a0) := (blk_cell X1.out 0).trans rfl
    have x1 : W1.cell? ⟨w.heap.size, 1, none⟩ = some (.slice A1 l1.length c1) := (blk_cell X1.out 1).trans rfl
    have x2 : W1.cell? ⟨w.heap.size, 2, none⟩ = some (.slice A2 l2.length c2) := (blk_cell X1.out 2).trans rfl
    have hlt := blk_lt X1.out
    have hs1 := B1.out.size
    have B2 := Aside0.mk (bal B1.out (.cells #[.slice none 0 0, .int .i64 a0, .slice A1 l1.length c1, .slice A2 l2.length c2, .slice none 0 0] 75))
    have N2 := Aside0.mk (blk_new W1 (.cells #[.slice none 0 0, .int .i64 a0, .slice A1 l1.length c1, .slice A2 l2.length c2, .slice none 0 0] 75))
    have S2 := Aside0.mk (show CSt _ w.heap.size W1.heap.size (fun _ => False) (.int .i64 a0) (.slice A1 l1.length c1) (.slice A2 l2.length c2) [] [] from ⟨none, 0, none, 0, N2.out, Kd.R_nil _ _ _ _ _, Kd.R_nil _ _ _ _ _⟩)
    have z2 : (W1.alloc (.cells #[.slice none 0 0, .int .i64 a0, .slice A1 l1.length c1, .slice A2 l2.length c2, .slice none 0 0] 75)).cell? ⟨w.heap.size, 2, none⟩ = some (.slice A2 l2.length c2) := (blk_cell (kal X1.out _) 2).trans rfl
    go_wp2_with (first | (go_at_call 38; refine (comp_list.calls w W1.heap.size (.int .i64 a0) (.slice A1 l1.length c1) (.slice A2 l2.length c2) hs1 l2 A2 c2 [] [] (fun _ => False) _ HR2.out HC2.out OK1.out (by simp only [List.length_nil]; omega) (by simp only [List.length_nil]; omega) B2.out S2.out (fun _ h => h.elim)).mono ?_; rintro e W3 ⟨rfl, hs3, hb3, hk3⟩; have S3 := Aside0.mk hs3; have B3 := Aside0.mk hb3; have hbl3 := hs3.lt; clear hs3 hb3 hk3) | (go_at_call 39; refine (comp_put.calls w W3 W1.heap.size _ (.int .i64 a0) (.slice A1 l1.length c1) (.slice A2 l2.length c2) _ _ ⟨11, 0, 0, 0, 0⟩ B3.out hs1 S3.out (by rw [List.nil_append, cSs_len]; omega)).mono ?_; rintro e W4 ⟨rfl, hs4, hb4, hk4⟩; have S4 := Aside0.mk hs4; have B4 := Aside0.mk hb4; clear hs4 hb4 hk4))
    go_ret2
    have h4 := S4.out
    rw [List.nil_append, List.nil_append] at h4
    have h5 : CSt W4 w.heap.size W1.heap.size (fun _ => True) (.int .i64 a0) (.slice A1 l1.length c1) (.slice A2 l2.length c2) (codeOf l2) (plSs l2 0) := h4.mono (fun _ _ _ => trivial)
    first | exact ⟨B4.out, .inr ⟨rfl, W1.heap.size, hs1, rfl, h5⟩⟩ | exact ⟨B4.out, W1.heap.size, hs1, rfl, h5⟩
  · have e0 := (beq_eq_false_iff_ne (a := r)).mpr hr
    have n0 := bne_iff_ne.mpr hr
    go_wp2_with (first | (go_at_call 37; refine (prog_Check.calls k a0 _ _ l1 _ _ l2 r _ (Kd.C_below HR1.out AL.out) HC1.out (Kd.C_below HR2.out AL.out) HC2.out H.out).mono ?_; rintro e W1 ⟨rfl, hb1⟩; have B1 := Aside0.mk (AL.out.trans (hb1.mono AL.out.size)); clear hb1))
    go_ret2
    first | exact ⟨B1.out, .inl ⟨hr, rfl⟩⟩ | exact ⟨B1.out, rfl⟩
def cmpOut (r a0 : Int) (l1 : List S42) (l2 : List S57) : Int × List S42 × List S40 × Int := if r = 0 then (a0, l1, codeOf l2, 0) else (0, [], [], 30)
def plOut (r : Int) (l2 : List S57) : List Int × Int := if r = 0 then (plSs l2 0, 0) else ([], 30)
theorem infoVar : (Try.prog.info? 42).map (fun i => (i.zero, i.size, i.bytes)) = some (some (.agg #[.string ⟨#[]⟩, .int .i64 0, .int .i64 0]), 3, 32) := by kernel_rfl
theorem comp_Places.calls (k : Nat) (a0 : Int) (A1 : Option Addr) (c1 : Nat) (l1 : List S42) (A2 : Option Addr) (c2 : Nat) (l2 : List S57) (r : Int) (w : World) (hr1 : Kd.C k42 w A1 l1.length l1) (hc1 : l1.length ≤ c1) (hr2 : Kd.C k57 w A2 l2.length l2) (hc2 : l2.length ≤ c2) (h : prog_Check.f k a0 l1 l2 = some r) (hok : r = 0 → okSs l2 ∧ nSs l2 < 900000 ∧ kSs l2 < 900000) :
    Calls Try.prog 8 #[.agg #[.int .i64 a0, .slice A1 l1.length c1, .slice A2 l2.length c2]] w fun e w' => ∃ v : Value, e = .returned (.tuple #[v, .int .i64 (plOut r l2).2]) ∧ Kd.R (Kd.int .i64) 3 w' w.heap.size (fun _ => True) v (plOut r l2).1 ∧ Below w.heap.size w w' := by
  have huC := Try.underlying75
  have huE := Try.underlying32
  have HR1 := Aside0.mk hr1
  have HC1 := Aside0.mk hc1
  have HR2 := Aside0.mk hr2
  have HC2 := Aside0.mk hc2
  have H := Aside0.mk h
  have HOK := Aside0.mk hok
  have AL := Aside0.mk (bal (Below.refl w.heap.size w) (.cells #[.int .i64 a0, .slice A1 l1.length c1, .slice A2 l2.length c2] 25))
  clear hr1 hc1 hr2 hc2 h hok
  go_enter Try.func8, Try.ntmps8
  by_cases hr : r = 0
  · subst hr
    have CC := comp_compiled.calls k a0 _ _ l1 _ _ l2 0 _ (Kd.C_below HR1.out AL.out) HC1.out (Kd.C_below HR2.out AL.out) HC2.out H.out HOK.out
    have CC := Aside0.mk CC
    go_upto_region 4 with (first | (go_at_call 23; refine CC.out.mono ?_; rintro e W1 ⟨hb1, ⟨h0, _⟩ | ⟨_, b, hb, rfl, hs⟩⟩; (exact absurd rfl h0); have BB := Aside0.mk (AL.out.trans (hb1.mono AL.out.size)); obtain ⟨A, c, A', c', t1, t2, t3⟩ := hs; have T3 := Aside0.mk t3; have x4 : W1.cell? ⟨b, 4, none⟩ = some (.slice A' (plSs l2 0).length c') := (blk_cell t1 4).trans rfl; clear t1 t2 t3 hb1))
    go_wp2
    go_ret2
    exact ⟨_, by rw [plOut, if_pos rfl]; rfl, by rw [plOut, if_pos rfl]; exact Kd.R_lower T3.out AL.out.size, BB.out⟩
  · have e0 := (beq_eq_false_iff_ne (a := r)).mpr hr
    have n0 := bne_iff_ne.mpr hr
    have CC := Aside0.mk (comp_compiled.calls k a0 _ _ l1 _ _ l2 r _ (Kd.C_below HR1.out AL.out) HC1.out (Kd.C_below HR2.out AL.out) HC2.out H.out HOK.out)
    go_wp2_with (first | (go_at_call 23; refine CC.out.mono ?_; rintro e W1 ⟨hb1, ⟨_, rfl⟩ | ⟨h0, _⟩⟩; rotate_left; (exact absurd h0 hr); have BB := Aside0.mk (AL.out.trans (hb1.mono AL.out.size)); clear hb1))
    go_ret2
    exact ⟨_, by rw [plOut, if_neg hr]; rfl, by rw [plOut, if_neg hr]; exact Kd.R_nil _ _ _ _ _, BB.out⟩
theorem fill3 {W : World} {g : Nat} {t : TypeId} {a b c : Value} (h : W.heap[g]? = some (.cells #[a, b, c] t (0, 0))) (x y z : Value) : (((W.setCell ⟨g, 0, none⟩ x).setCell ⟨g, 1, none⟩ y).setCell ⟨g, 2, none⟩ z).heap[g]? = some (.cells #[x, y, z] t (0, 0)) :=
  blk_put (blk_put (blk_put h 0 x (cs' := #[x, b, c]) rfl) 1 y (cs' := #[x, y, c]) rfl) 2 z (cs' := #[x, y, z]) rfl
theorem comp_Compile.calls (k : Nat) (a0 : Int) (A1 : Option Addr) (c1 : Nat) (l1 : List S42) (A2 : Option Addr) (c2 : Nat) (l2 : List S57) (r : Int) (w : World) (hr1 : Kd.C k42 w A1 l1.length l1) (hc1 : l1.length ≤ c1) (hr2 : Kd.C k57 w A2 l2.length l2) (hc2 : l2.length ≤ c2) (h : prog_Check.f k a0 l1 l2 = some r) (hok : r = 0 → okSs l2 ∧ nSs l2 < 900000 ∧ kSs l2 < 900000) (hl1 : r = 0 → l1.length < 1000000) :
    Calls Try.prog 7 #[.agg #[.int .i64 a0, .slice A1 l1.length c1, .slice A2 l2.length c2]] w fun e w' => ∃ v1 v2 : Value, e = .returned (.tuple #[.agg #[.int .i64 (cmpOut r a0 l1 l2).1, v1, v2], .int .i64 (cmpOut r a0 l1 l2).2.2.2]) ∧ Kd.R k42 42 w' w.heap.size (fun _ => True) v1 (cmpOut r a0 l1 l2).2.1 ∧ Kd.R k40 40 w' w.heap.size (fun _ => True) v2 (cmpOut r a0 l1 l2).2.2.1 ∧ Below w.heap.size w w' := by
  have huC := Try.underlying75
  have huO := Try.underlying73
  have huE := Try.underlying32
  have huP := Try.underlying25
  have huK := Try.underlying31
  have huV := Try.underlying22
  have HR1 := Aside0.mk hr1
  have HC1 := Aside0.mk hc1
  have HR2 := Aside0.mk hr2
  have HC2 := Aside0.mk hc2
  have H := Aside0.mk h
  have HOK := Aside0.mk hok
  have HL1 := Aside0.mk hl1
  have b1 := bal (Below.refl w.heap.size w) (.cells #[.int .i64 a0, .slice A1 l1.length c1, .slice A2 l2.length c2] 25)
  have x1 := kal (blk_new w (.cells #[.int .i64 a0, .slice A1 l1.length c1, .slice A2 l2.length c2] 25)) (.cells #[.int .i64 0, .slice none 0 0, .slice none 0 0] 31)
  have b2 := bal b1 (.cells #[.int .i64 0, .slice none 0 0, .slice none 0 0] 31)
  have x2 := blk_new (w.alloc (.cells #[.int .i64 a0, .slice A1 l1.length c1, .slice A2 l2.length c2] 25)) (.cells #[.int .i64 0, .slice none 0 0, .slice none 0 0] 31)
  have hs1 : (w.alloc (.cells #[.int .i64 a0, .slice A1 l1.length c1, .slice A2 l2.length c2] 25)).heap.size = w.heap.size + 1 := by simp
  rw [hs1] at x2
  have X1 := Aside0.mk x1
  have X2 := Aside0.mk x2
  have AL := Aside0.mk b2
  have CC := Aside0.mk (comp_compiled.calls k a0 _ _ l1 _ _ l2 r _ (Kd.C_below HR1.out AL.out) HC1.out (Kd.C_below HR2.out AL.out) HC2.out H.out HOK.out)
  have x0 : ((w.alloc (.cells #[.int .i64 a0, .slice A1 l1.length c1, .slice A2 l2.length c2] 25)).alloc (.cells #[.int .i64 0, .slice none 0 0, .slice none 0 0] 31)).heap.size = w.heap.size + 2 := by simp
  have HZ := Aside0.mk x0
  clear hr1 hc1 hr2 hc2 h hok hl1 b1 x1 b2 x2 hs1 x0
  go_enter Try.func7, Try.ntmps7
  by_cases hr : r = 0
  · subst hr
    go_upto_region 4 with (first | (go_at_call 23; refine CC.out.mono ?_; rintro e W1 ⟨hb1, ⟨h0, _⟩ | ⟨_, b, hb, rfl, hs⟩⟩; (exact absurd rfl h0); have BB := Aside0.mk (AL.out.trans (hb1.mono AL.out.size)); have Y1 := Aside0.mk (blk_below X1.out hb1); have Y2 := Aside0.mk (blk_below X2.out hb1); have HS := Aside0.mk hs; have HBb := Aside0.mk hb; clear hb1 hb hs))
    obtain ⟨A, c, A', c', t1, t2, t3⟩ := HS.out
    have hbw : w.heap.size + 2 ≤ b := by have := HBb.out; have := HZ.out; omega
    have T1 := Aside0.mk (kdr t1)
    have T2 := Aside0.mk (Kd.R_drew t2)
    have D1 := Aside0.mk (kdr Y1.out)
    have D2 := Aside0.mk (kdr Y2.out)
    have BD := Aside0.mk (below_drew BB.out)
    have hl := HL1.out (by trivial)
    clear t1 t2 t3 CC HS Y1 Y2 BB X1 X2
    refine start_ (n := 13) (S := fun w' => w'.cell? ⟨w.heap.size, 0, none⟩ = some (.int .i64 a0) ∧ w'.cell? ⟨w.heap.size, 1, none⟩ = some (.slice A1 l1.length c1) ∧ w'.cell? ⟨b, 0, none⟩ = some (.slice A (codeOf l2).length c)) (ds := [11]) #[false, false, false, false, false, false, false, false, false, false, false, false, false] (by kernel_rfl) rfl rfl ⟨(blk_cell D1.out 0).trans rfl, (blk_cell D1.out 1).trans rfl, (blk_cell T1.out 0).trans rfl⟩ (fun hHeld => ?_)
    generalize W1.drew = Y at T1 T2 D1 D2 BD hHeld ⊢
    refine pu (i := 0) (N := some 15) (bl 13 1) rfl rfl (by kernel_rfl) ?_
    refine tk (i := 1) (N := some 16) (bl 13 3) rfl rfl (by kernel_rfl) hHeld ?_
    refine pu (i := 2) (N := some 17) (bl 13 7) rfl rfl (by kernel_rfl) ?_
    refine tk (i := 3) (N := some 18) (bl 13 15) rfl rfl (by kernel_rfl) hHeld ?_
    refine pu (i := 5) (N := some 20) (bl 13 47) rfl rfl (by kernel_rfl) ?_
    refine pu (i := 6) (N := some 21) (bl 13 111) rfl rfl (by kernel_rfl) ?_
    refine pu (i := 7) (N := some 22) (bl 13 239) rfl rfl (by kernel_rfl) ?_
    refine pu (i := 8) (N := some 23) (bl 13 495) rfl rfl (by kernel_rfl) ?_
    refine tk (i := 9) (N := some 24) (bl 13 1007) rfl rfl (by kernel_rfl) hHeld ?_
    refine one_ (i := 4) (N := (some 19)) (bl 13 1023) rfl rfl (by kernel_rfl) (by decide) (fun K hK => ?_)
    refine Kd.R_append_rows_step k42 (w0 := w) w.heap.size (by rfl) (.const (.slice none 0 0)) (.tmp 18) 22 42 (.agg #[.string ⟨#[]⟩, .int .i64 0, .int .i64 0]) 32 rfl huV infoVar rfl (by decide) (by omega) (.slice none 0 0) [] l1 A1 l1.length c1 (fun k => Y.heap.size ≤ k) (fun _ => False) rfl rfl (Kd.R_nil _ _ _ _ _) (Kd.C_below HR1.out BD.out) (fun x cs hk => by obtain rfl := k42_open hk; exact k42_mkM _ _ _ _) (fun _ h => h.elim) (fun _ h => h) BD.out BD.out.size (by simp only [List.length_nil]; omega) ?_
    intro v1 W2 ho hb2 hg hat
    rw [List.nil_append] at ho
    have T1' := Aside0.mk (blk_grown T1.out hg (by simp [Value.ownBlock]))
    have T2' := Aside0.mk (Kd.R_grown T2.out hg (fun k _ => by simp [Value.ownBlock]))
    have D1' := Aside0.mk (blk_grown D1.out hg (by simp [Value.ownBlock]))
    have D2' := Aside0.mk (blk_grown D2.out hg (by simp [Value.ownBlock]))
    have HO := Aside0.mk ho
    have BW := Aside0.mk hb2
    have hys := blk_lt D2.out
    clear ho hb2 hg hat
    refine hK.out _ _ ⟨(blk_cell D1'.out 0).trans rfl, (blk_cell D1'.out 1).trans rfl, (blk_cell T1'.out 0).trans rfl⟩ (fun hHeld => ?_)
    clear hK K
    refine nm 19 ?_
    obtain ⟨Av, cv, rfl⟩ := Kd.R_slice HO.out
    refine pu (i := 10) (N := some 25) (bl 13 2047) rfl rfl (by kernel_rfl) ?_
    refine last_ (i := 11) (N := none) (bl 13 4095) rfl rfl (by kernel_rfl) (by decide) (fun K hK => ?_)
    have z0 : W2.cell? ⟨w.heap.size + 1, 0, none⟩ = some (.int .i64 0) := (blk_cell D2'.out 0).trans rfl
    have z1 : W2.cell? ⟨w.heap.size + 1, 1, none⟩ = some (.slice none 0 0) := (blk_cell D2'.out 1).trans rfl
    have z2 : W2.cell? ⟨w.heap.size + 1, 2, none⟩ = some (.slice none 0 0) := (blk_cell D2'.out 2).trans rfl
    have f0 := blk_frozen D2'.out 0
    have f1 := blk_frozen D2'.out 1
    have f2 := blk_frozen D2'.out 2
    refine skip_ (w1 := ?_) (by rfl) rfl ?_ ?_
    rotate_left
    · go_simp
      rfl
    refine hK.out _ _ ?_
    clear hK K
    refine pu (i := 12) (N := some 3) (bl 13 8191) rfl rfl (by kernel_rfl) ?_
    refine done_ (by kernel_rfl) ?_
    have V1 := fill3 D2'.out (.int .i64 a0) (.slice Av l1.length cv) (.slice A (codeOf l2).length c)
    have RA := Kd.R_set (Kd.R_set (Kd.R_set HO.out D2'.out (by decide) 0 (.int .i64 a0)) (blk_set D2'.out 0 _) (by decide) 1 (.slice Av l1.length cv)) (blk_set (blk_set D2'.out 0 _) 1 _) (by decide) 2 (.slice A (codeOf l2).length c)
    have RB := Kd.R_set (Kd.R_set (Kd.R_set T2'.out D2'.out (by decide) 0 (.int .i64 a0)) (blk_set D2'.out 0 _) (by decide) 1 (.slice Av l1.length cv)) (blk_set (blk_set D2'.out 0 _) 1 _) (by decide) 2 (.slice A (codeOf l2).length c)
    have BX := ((BW.out.setCell (p := ⟨w.heap.size + 1, 0, none⟩) (Nat.le_succ _) (.int .i64 a0)).setCell (p := ⟨w.heap.size + 1, 1, none⟩) (Nat.le_succ _) (.slice Av l1.length cv)).setCell (p := ⟨w.heap.size + 1, 2, none⟩) (Nat.le_succ _) (.slice A (codeOf l2).length c)
    generalize ((W2.setCell ⟨w.heap.size + 1, 0, none⟩ (.int .i64 a0)).setCell ⟨w.heap.size + 1, 1, none⟩ (.slice Av l1.length cv)).setCell ⟨w.heap.size + 1, 2, none⟩ (.slice A (codeOf l2).length c) = W3 at V1 RA RB BX ⊢
    have ALL := Aside0.mk (And.intro V1 (And.intro RA (And.intro RB BX)))
    clear V1 RA RB BX z0 z1 z2 f0 f1 f2 D1 D2 T1 T2 D1' D2' T1' T2' HO BW BD
    go_wp2
    obtain ⟨V1, RA, RB, BX⟩ := ALL.out
    refine bodyPost_ret (results_ct rfl _ _ (w.heap.size + 1) 31 #[.int .i64 a0, .slice Av l1.length cv, .slice A (codeOf l2).length c] (0, 0) _ rfl V1 huK rfl (by kernel_rfl)) rfl ?_
    refine ⟨_, _, by rw [cmpOut, if_pos rfl]; rfl, ?_, ?_, BX⟩
    · rw [cmpOut, if_pos rfl]; exact Kd.R_mono (Kd.R_lower RA (Nat.le_refl _)) (fun _ _ => trivial)
    · rw [cmpOut, if_pos rfl]; exact Kd.R_lower RB AL.out.size
  · have e0 := (beq_eq_false_iff_ne (a := r)).mpr hr
    have n0 := bne_iff_ne.mpr hr
    go_upto_region 3 with (first | (go_at_call 23; refine CC.out.mono ?_; rintro e W1 ⟨hb1, ⟨_, rfl⟩ | ⟨h0, _⟩⟩; rotate_left; (exact absurd h0 hr); have BB := Aside0.mk (AL.out.trans (hb1.mono AL.out.size)); have Y2 := Aside0.mk (blk_below X2.out hb1); clear hb1))
    have z0 : W1.cell? ⟨w.heap.size + 1, 0, none⟩ = some (.int .i64 0) := (blk_cell Y2.out 0).trans rfl
    have z1 : W1.cell? ⟨w.heap.size + 1, 1, none⟩ = some (.slice none 0 0) := (blk_cell Y2.out 1).trans rfl
    have z2 : W1.cell? ⟨w.heap.size + 1, 2, none⟩ = some (.slice none 0 0) := (blk_cell Y2.out 2).trans rfl
    have f0 := blk_frozen Y2.out 0
    have f1 := blk_frozen Y2.out 1
    have f2 := blk_frozen Y2.out 2
    have V1 := Aside0.mk (fill3 Y2.out (.int .i64 0) (.slice none 0 0) (.slice none 0 0))
    have BX := Aside0.mk (((BB.out.setCell (p := ⟨w.heap.size + 1, 0, none⟩) (Nat.le_succ _) (.int .i64 0)).setCell (p := ⟨w.heap.size + 1, 1, none⟩) (Nat.le_succ _) (.slice none 0 0)).setCell (p := ⟨w.heap.size + 1, 2, none⟩) (Nat.le_succ _) (.slice none 0 0))
    go_wp2
    refine bodyPost_ret (results_ct rfl _ _ (w.heap.size + 1) 31 #[.int .i64 0, .slice none 0 0, .slice none 0 0] (0, 0) _ rfl V1.out huK rfl (by kernel_rfl)) rfl ?_
    exact ⟨_, _, by rw [cmpOut, if_neg hr]; rfl, by rw [cmpOut, if_neg hr]; exact Kd.R_nil _ _ _ _ _, by rw [cmpOut, if_neg hr]; exact Kd.R_nil _ _ _ _ _, BX.out⟩
def aw_v : List S42 := [⟨⟨#[104]⟩, 0, 1⟩]
def aw_b : List S57 := [⟨0, 0, [⟨2, 0, 0, [⟨1, 0, 0, []⟩, ⟨0, 1, 0, []⟩]⟩], [], []⟩]
def aw_c : List S40 := [⟨3, 0, 0, 0, 0⟩, ⟨0, 1, 1, 0, 0⟩, ⟨1, 0, 2, 0, 1⟩, ⟨4, 0, 0, 0, 0⟩, ⟨11, 0, 0, 0, 0⟩]
theorem aw_check : prog_Check.f 60 2 aw_v aw_b = some 0 := by kernel_rfl
theorem aw_check0 : prog_Check.f 60 0 aw_v aw_b = some 30 := by kernel_rfl
theorem aw_code : codeOf aw_b = aw_c := by kernel_rfl
theorem aw_places : plSs aw_b 0 = [0] := by kernel_rfl
theorem aw_head : r2_Heading.f 60 2 aw_v = some true := by kernel_rfl
theorem aw_copy : r1_Copy.f 60 [3] = some [3] := by kernel_rfl
def aw_run : VC := ⟨0, [0], [], [], 5, 0, 0, [0, 1] ++ List.replicate 62 0, [0, 1, 2, 3, 4], 4, 95, true⟩
theorem aw_loop : vLoop 60 2 aw_v [] aw_c 7 (vBegin 100 [3]) = some aw_run := by kernel_rfl
theorem aw_all : vAllB 60 2 aw_v [] aw_c 7 (vBegin 100 [3]) = true := by kernel_rfl
theorem aw_ok : okSs aw_b ∧ nSs aw_b < 900000 ∧ kSs aw_b < 900000 := by
  refine ⟨?_, of_decide_eq_true (by kernel_rfl), of_decide_eq_true (by kernel_rfl)⟩
  simp [aw_b, okSs, okS]
theorem aw_right : ∀ j : Nat, j < aw_c.length → rightP 60 2 aw_v aw_c (rd_T40 aw_c j) := by
  intro j hj
  have hj5 : j < 5 := hj
  have r0 : regP 0 := by unfold regP; omega
  have r1 : regP 1 := by unfold regP; omega
  have hw : r1_Word.f 60 2 1 = some true := by kernel_rfl
  have ht : r1_Two.f 2 = some true := by kernel_rfl
  have ha : r8_at.f 60 2 aw_v aw_c 0 0 = some true := by kernel_rfl
  rcases (by omega : j = 0 ∨ j = 1 ∨ j = 2 ∨ j = 3 ∨ j = 4) with rfl | rfl | rfl | rfl | rfl
  · exact .inr (.inr (.inr (.inr (.inl ⟨rfl, r0, ha, rfl⟩))))
  · exact .inl ⟨rfl, r1, hw, rfl, rfl⟩
  · exact .inr (.inl ⟨rfl, r0, r0, ht, r1⟩)
  · exact .inr (.inr (.inr (.inr (.inr (.inl ⟨rfl, ha, r0, rfl⟩)))))
  · exact .inr (.inr (.inr (.inr (.inr (.inr (.inr (.inr (.inr (.inr rfl)))))))))
end Go.Proofs.Ytnlekgadadifdaa.Print
namespace Go.Proofs.Ytnlekgadadifdaa.Print
open Go.RowKit Go.Proofs.YtnlekgadadifdaaW.PrintWords Go.Proofs.YtnlekgadadifdaaW.PrintLast Go.Proofs.YtnlekgadadifdaaW.PrintMore
attribute [local go_sem] max2_int min2_int max_two min_two max_three min_three max_four min_four
set_option linter.unusedVariables false
set_option linter.unusedSimpArgs false
section
variable {P : Program} {ops : Array Oper} {Q : Exit → Act → World → Prop} {md : Region.Mode}
end
end Go.Proofs.Ytnlekgadadifdaa.Print
namespace Go.Proofs.Ytnlekgadadifdaa.Print
open Go.RowKit Go.Proofs.YtnlekgadadifdaaW.PrintWords Go.Proofs.YtnlekgadadifdaaW.PrintLast Go.Proofs.YtnlekgadadifdaaW.PrintMore
attribute [local go_sem] max2_int min2_int max_two min_two max_three min_three max_four min_four
set_option linter.unusedVariables false
set_option linter.unusedSimpArgs false
open Go.RowKit
section
variable {α : Type} {d : Kd α} {e : Nat} {W W1 : World} {v : Value}
theorem flatten_get {sz : Nat} : ∀ (css : List (List Value)) (j : Nat) (c : List Value) (i : Nat), (∀ c ∈ css, c.length = sz) → css[j]? = some c → i < sz → css.flatten[j * sz + i]? = c[i]?
  | [], j, c, i, _, h, _ => by simp at h
  | x :: r, 0, c, i, hl, h, hi => by
    obtain rfl : x = c := by simpa using h
    have := hl x (by simp)
    simp only [List.flatten_cons, Nat.zero_mul, Nat.zero_add]
    rw [List.getElem?_append_left (by omega)]
  | x :: r, j + 1, c, i, hl, h, hi => by
    have h1 := hl x (by simp)
    have h2 : r[j]? = some c := by simpa using h
    simp only [List.flatten_cons]
    have e1 : (j + 1) * sz + i = x.length + (j * sz + i) := by rw [h1, Nat.succ_mul]; omega
    rw [e1, List.getElem?_append_right (by omega), Nat.add_sub_cancel_left]
    exact flatten_get r j c i (fun c hc => hl c (by simp [hc])) h2 hi
def Is (d : Kd α) (B : Nat) (W : World) (v : Value) (x : α) : Prop := ∃ cs : List Value, v = .agg cs.toArray ∧ Kd.FK d W (fun k => B ≤ k ∧ k < W.heap.size) x cs
def IsRow (d : Kd α) (B : Nat) (e : Nat) (W : World) (v : Value) (l : List α) : Prop :=
  ∃ (b : Nat) (css : List (List Value)), v = .slice (some ⟨b, 0, none⟩) l.length l.length ∧ W.heap[b]? = some (.cells css.flatten.toArray e (0, 0)) ∧ B ≤ b ∧ css.length = l.length ∧ l.length ≤ 9223372036854775807 ∧
    ∀ (j : Nat) (x : α) (c : List Value), l[j]? = some x → css[j]? = some c → Kd.FK d W (fun k => B ≤ k ∧ k < b) x c
variable {B : Nat}
theorem Is.below {x : α} (h : Is d B W v x) (hb : Below W.heap.size W W1) : Is d B W1 v x := by
  obtain ⟨cs, e1, h⟩ := h
  exact ⟨cs, e1, Kd.FK_mono (Kd.FK_below h hb) (fun k hk => ⟨hk.1, Nat.lt_of_lt_of_le hk.2 hb.size⟩)⟩
theorem IsRow.below {l : List α} (h : IsRow d B e W v l) (hb : Below W.heap.size W W1) : IsRow d B e W1 v l := by
  obtain ⟨b, css, e1, h1, h0, h2, h3, h4⟩ := h
  exact ⟨b, css, e1, (hb.block _ (blk_lt h1)).trans h1, h0, h2, h3, fun j x c hj hc => Kd.FK_below (h4 j x c hj hc) hb⟩
theorem IsRow.far {l : List α} (h : IsRow d B e W v l) {p : Addr} (hp : p.block < B) (u : Value) : IsRow d B e (W.setCell p u) v l := by
  obtain ⟨b, css, e1, h1, h0, h2, h3, h4⟩ := h
  exact ⟨b, css, e1, (Below.heap_setCell _ _ _ _ (by omega)).trans h1, h0, h2, h3, fun j x c hj hc => Kd.FK_step (h4 j x c hj hc) (fun k hk _ => Below.heap_setCell _ _ _ _ (by have := hk.1; omega))⟩
theorem IsRow.F {l : List α} {b : Nat} {css : List (List Value)} (h1 : W.heap[b]? = some (.cells css.flatten.toArray e (0, 0))) (h0 : B ≤ b) (h2 : css.length = l.length) (h3 : l.length ≤ 9223372036854775807)
    (h4 : ∀ (j : Nat) (x : α) (c : List Value), l[j]? = some x → css[j]? = some c → Kd.FK d W (fun k => B ≤ k ∧ k < b) x c) : Kd.F d W (fun k => B ≤ k ∧ k < W.heap.size) (some ⟨b, 0, none⟩) l.length l := by
  intro W' hW'
  have hb := blk_lt h1
  have hlen : ∀ c ∈ css, c.length = d.sz := by
    intro c hc
    obtain ⟨j, hj, e2⟩ := List.mem_iff_getElem.1 hc
    have hj2 : j < l.length := by omega
    exact d.K_len (Kd.FK_now (h4 j l[j] c (List.getElem?_eq_getElem hj2) (by rw [List.getElem?_eq_getElem hj, e2])))
  refine ⟨rfl, h3, fun _ => ⟨_, rfl, fun j x hj => ?_⟩⟩
  have hj2 : j < css.length := by have := (List.getElem?_eq_some_iff.1 hj).1; omega
  have hc := List.getElem?_eq_getElem hj2
  have hk := h4 j x _ hj hc
  refine ⟨css[j], hlen _ (List.getElem_mem hj2), hk W' (fun k hk' hk2 => hW' k ⟨hk'.1, hk2⟩ hk2), fun i u hu => ?_⟩
  have hi : i < d.sz := by have := (List.getElem?_eq_some_iff.1 hu).1; rw [hlen _ (List.getElem_mem hj2)] at this; exact this
  have hg := flatten_get css j _ i hlen hc hi
  have hB := (hW' b ⟨h0, hb⟩ hb).trans h1
  have : (⟨b, 0, none⟩ : Addr).add (j * d.sz + i) = ⟨b, j * d.sz + i, none⟩ := by unfold Addr.add; split <;> simp_all
  rw [this, blk_cell hB (j * d.sz + i)]
  simpa [hg] using hu
theorem IsRow.foot {l : List α} (h : IsRow d B e W v l) : ∃ A, v = .slice A l.length l.length ∧ Kd.F d W (fun k => B ≤ k ∧ k < W.heap.size) A l.length l := by
  obtain ⟨b, css, e1, h1, h0, h2, h3, h4⟩ := h
  exact ⟨_, e1, IsRow.F h1 h0 h2 h3 h4⟩
theorem IsRow.C {l : List α} (h : IsRow d B e W v l) : ∃ A, v = .slice A l.length l.length ∧ d.C W A l.length l := by
  obtain ⟨A, e1, h1⟩ := h.foot
  exact ⟨A, e1, Kd.F_now h1⟩
theorem IsRow.new {l : List α} (hB : B ≤ W.heap.size) (css : List (List Value)) {cs : Array Value} (hcs : cs = css.flatten.toArray) (h2 : css.length = l.length) (h3 : l.length ≤ 9223372036854775807) (h4 : ∀ (j : Nat) (x : α) (c : List Value), l[j]? = some x → css[j]? = some c → Kd.FK d W (fun k => B ≤ k ∧ k < W.heap.size) x c) :
    IsRow d B e (W.alloc (.cells cs e)) (.slice (some ⟨W.heap.size, 0, none⟩) l.length l.length) l := by
  subst hcs
  exact ⟨_, css, rfl, heap_alloc_new _ _, hB, h2, h3, fun j x c hj hc => Kd.FK_below (h4 j x c hj hc) (bal (Below.refl _ _) _)⟩
theorem F_zero (A : Option Addr) (ok : Nat → Prop) : Kd.F d W ok A ([] : List α).length [] := fun W' _ => ⟨rfl, by simp, fun h => by simp at h⟩
end
end Go.Proofs.Ytnlekgadadifdaa.Print
namespace Go.Proofs.Ytnlekgadadifdaa.Print
open Go.RowKit Go.Proofs.YtnlekgadadifdaaW.PrintWords Go.Proofs.YtnlekgadadifdaaW.PrintLast Go.Proofs.YtnlekgadadifdaaW.PrintMore
attribute [local go_sem] max2_int min2_int max_two min_two max_three min_three max_four min_four
set_option linter.unusedVariables false
set_option linter.unusedSimpArgs false
def r2_Of.f (a0 : Int) (l1 : List (S52)) : Option (Int × Int × Int × (List (S52))) := some (a0, 0, 0, l1)
theorem r2_Of.calls (a0 : Int) (P1_ : Nat → Prop) (A1 : Option Addr) (c1 : Nat) (l1 : List (S52)) (r1 : Int) (r2 : Int) (r3 : Int) (r4 : List (S52)) (w : World) (hs1 : Kd.V k52 52 w w.heap.size (fun k_ => P1_ k_) (.slice A1 l1.length c1) l1) (h : r2_Of.f a0 l1 = some (r1, r2, r3, r4)) :
  Calls Try.prog 17 #[.int .i64 a0, .slice A1 l1.length c1] w fun e w' => ∃ v3_ : Value, e = .returned (.agg #[.int .i64 r1, .int .i64 r2, .int .i64 r3, v3_]) ∧ Kd.V k52 52 w' w.heap.size (fun k_ => (P1_ k_ ∨ w.heap.size ≤ k_)) v3_ r4 ∧ Below w.heap.size w w' := by
 have hu52 := Try.underlying52
 have HO1 := Aside0.mk (show Kd.V k52 52 w w.heap.size (fun k_ => (P1_ k_ ∨ w.heap.size ≤ k_)) (.slice A1 l1.length c1) l1 from Kd.V_mono hs1 (fun k_ hk => .inl hk))
 have HB := Aside0.mk (Below.refl w.heap.size w)
 have H : (some (a0, 0, 0, l1)) = some (r1, r2, r3, r4) := h
 clear h
 simp only [Option.some.injEq, Prod.mk.injEq] at H
 obtain ⟨rfl, rfl, rfl, rfl⟩ := H
 go_enter Try.func17, Try.ntmps17
 go_wp2_with (first | ((with_reducible refine gate_dst (N := 4) rfl ?_); refine bx 4 rfl rfl #[.int .i64 0, .int .i64 0, .int .i64 0, .slice none 0 0] 52 ?_; intro gb206 hg w3 hbox hb; have BK206 := Aside0.mk (hbox); have GE206 := ge HB hg; replace HO1 := Aside0.mk (Kd.V_below (Kd.V_elderB (iV HO1) gb206 (Nat.le_of_eq hg.symm)) hb); replace HB := sb HB hb; clear hb hbox hg; obtain ⟨hcz4_0, hcz4_1, hcz4_2, hcz4_3, hfz4_0, hfz4_1, hfz4_2, hfz4_3⟩ := cf4 BK206.out))
 refine bodyPost_ret (results_cell_row rfl _ _ gb206 52 #[.int .i64 a0, .int .i64 0, .int .i64 0, .slice A1 l1.length c1] (0, 0) _ rfl (by (with_reducible repeat (first | refine kdN ?_ _ | refine kdr ?_ | refine kal ?_ _)); refine blk_put (cs := #[.int .i64 a0, .int .i64 0, .int .i64 0, .slice none 0 0]) ?_ 3 _ rfl; (with_reducible repeat (first | refine kdN ?_ _ | refine kdr ?_ | refine kal ?_ _)); refine blk_put (cs := #[.int .i64 a0, .int .i64 0, .int .i64 0, .slice none 0 0]) ?_ 2 _ rfl; (with_reducible repeat (first | refine kdN ?_ _ | refine kdr ?_ | refine kal ?_ _)); refine blk_put (cs := #[.int .i64 a0, .int .i64 0, .int .i64 0, .slice none 0 0]) ?_ 1 _ rfl; (with_reducible repeat (first | refine kdN ?_ _ | refine kdr ?_ | refine kal ?_ _)); refine blk_put (cs := #[.int .i64 0, .int .i64 0, .int .i64 0, .slice none 0 0]) ?_ 0 _ rfl; (with_reducible repeat (first | refine kdN ?_ _ | refine kdr ?_ | refine kal ?_ _)); exact BK206.out) Try.underlying52 rfl (by kernel_rfl)) rfl ?_
 exact ⟨_, rr, by (with_reducible repeat (first | apply Kd.V_alloc | apply Kd.V_drewN | apply Kd.V_drew)); exact Kd.V_mono (Kd.V_far (p := ⟨gb206, 3, none⟩) (Kd.V_far (p := ⟨gb206, 2, none⟩) (Kd.V_far (p := ⟨gb206, 1, none⟩) (Kd.V_far (p := ⟨gb206, 0, none⟩) (Kd.V_mono HO1.out (fun k_ hk => (⟨hk, hk.2⟩ : _ ∧ k_ ≠ gb206))) (fun _ hk => hk.2) (.int .i64 a0)) (fun _ hk => hk.2) (.int .i64 0)) (fun _ hk => hk.2) (.int .i64 0)) (fun _ hk => hk.2) (.slice A1 l1.length c1)) (fun _ hk => hk.1.1), bb HB⟩
def r2_Read.f (a0 : Int) (a1 : Int) : Option (Int × Int × Int × (List (S52))) := some (1, a0, a1, ([] : List (S52)))
theorem r2_Read.calls (a0 : Int) (a1 : Int) (r1 : Int) (r2 : Int) (r3 : Int) (r4 : List (S52)) (w : World) (h : r2_Read.f a0 a1 = some (r1, r2, r3, r4)) :
  Calls Try.prog 18 #[.int .i64 a0, .int .i64 a1] w fun e w' => ∃ v3_ : Value, e = .returned (.agg #[.int .i64 r1, .int .i64 r2, .int .i64 r3, v3_]) ∧ Kd.R k52 52 w' w.heap.size (fun _ => True) v3_ r4 ∧ Below w.heap.size w w' := by
 have hu52 := Try.underlying52
 have HB := Aside0.mk (Below.refl w.heap.size w)
 have H : (some (1, a0, a1, ([] : List (S52)))) = some (r1, r2, r3, r4) := h
 clear h
 simp only [Option.some.injEq, Prod.mk.injEq] at H
 obtain ⟨rfl, rfl, rfl, rfl⟩ := H
 go_enter Try.func18, Try.ntmps18
 go_wp2_with (first | ((with_reducible refine gate_dst (N := 4) rfl ?_); refine bx 4 rfl rfl #[.int .i64 0, .int .i64 0, .int .i64 0, .slice none 0 0] 52 ?_; intro gb207 hg w3 hbox hb; have BK207 := Aside0.mk (hbox); have GE207 := ge HB hg; replace HB := sb HB hb; clear hb hbox hg; obtain ⟨hcz4_0, hcz4_1, hcz4_2, hcz4_3, hfz4_0, hfz4_1, hfz4_2, hfz4_3⟩ := cf4 BK207.out))
 refine bodyPost_ret (results_cell_row rfl _ _ gb207 52 #[.int .i64 1, .int .i64 a0, .int .i64 a1, .slice none 0 0] (0, 0) _ rfl (by (with_reducible repeat (first | refine kdN ?_ _ | refine kdr ?_ | refine kal ?_ _)); refine blk_put (cs := #[.int .i64 1, .int .i64 a0, .int .i64 a1, .slice none 0 0]) ?_ 3 _ rfl; (with_reducible repeat (first | refine kdN ?_ _ | refine kdr ?_ | refine kal ?_ _)); refine blk_put (cs := #[.int .i64 1, .int .i64 a0, .int .i64 0, .slice none 0 0]) ?_ 2 _ rfl; (with_reducible repeat (first | refine kdN ?_ _ | refine kdr ?_ | refine kal ?_ _)); refine blk_put (cs := #[.int .i64 1, .int .i64 0, .int .i64 0, .slice none 0 0]) ?_ 1 _ rfl; (with_reducible repeat (first | refine kdN ?_ _ | refine kdr ?_ | refine kal ?_ _)); refine blk_put (cs := #[.int .i64 0, .int .i64 0, .int .i64 0, .slice none 0 0]) ?_ 0 _ rfl; (with_reducible repeat (first | refine kdN ?_ _ | refine kdr ?_ | refine kal ?_ _)); exact BK207.out) Try.underlying52 rfl (by kernel_rfl)) rfl ?_
 exact ⟨_, rr, by first | exact Kd.R_nil _ _ _ _ _ | exact Kd.N_nil _ _ _ _ _ | exact Kd.V_nil _ _ _ _ _ | exact Kd.Q_nil _ _ _ _ _ | exact Kd.S_nil _ _ _ _ _, bb HB⟩
def r2_Const.f (a0 : Int) : Option (Int × Int × Int × (List (S52))) := some (0, a0, 0, ([] : List (S52)))
theorem r2_Const.calls (a0 : Int) (r1 : Int) (r2 : Int) (r3 : Int) (r4 : List (S52)) (w : World) (h : r2_Const.f a0 = some (r1, r2, r3, r4)) :
  Calls Try.prog 19 #[.int .i64 a0] w fun e w' => ∃ v3_ : Value, e = .returned (.agg #[.int .i64 r1, .int .i64 r2, .int .i64 r3, v3_]) ∧ Kd.R k52 52 w' w.heap.size (fun _ => True) v3_ r4 ∧ Below w.heap.size w w' := by
 have hu52 := Try.underlying52
 have HB := Aside0.mk (Below.refl w.heap.size w)
 have H : (some (0, a0, 0, ([] : List (S52)))) = some (r1, r2, r3, r4) := h
 clear h
 simp only [Option.some.injEq, Prod.mk.injEq] at H
 obtain ⟨rfl, rfl, rfl, rfl⟩ := H
 go_enter Try.func19, Try.ntmps19
 go_wp2_with (first | ((with_reducible refine gate_dst (N := 2) rfl ?_); refine bx 2 rfl rfl #[.int .i64 0, .int .i64 0, .int .i64 0, .slice none 0 0] 52 ?_; intro gb208 hg w2 hbox hb; have BK208 := Aside0.mk (hbox); have GE208 := ge HB hg; replace HB := sb HB hb; clear hb hbox hg; obtain ⟨hcz3_0, hcz3_1, hcz3_2, hcz3_3, hfz3_0, hfz3_1, hfz3_2, hfz3_3⟩ := cf4 BK208.out))
 refine bodyPost_ret (results_cell_row rfl _ _ gb208 52 #[.int .i64 0, .int .i64 a0, .int .i64 0, .slice none 0 0] (0, 0) _ rfl (by (with_reducible repeat (first | refine kdN ?_ _ | refine kdr ?_ | refine kal ?_ _)); refine blk_put (cs := #[.int .i64 0, .int .i64 a0, .int .i64 0, .slice none 0 0]) ?_ 3 _ rfl; (with_reducible repeat (first | refine kdN ?_ _ | refine kdr ?_ | refine kal ?_ _)); refine blk_put (cs := #[.int .i64 0, .int .i64 a0, .int .i64 0, .slice none 0 0]) ?_ 2 _ rfl; (with_reducible repeat (first | refine kdN ?_ _ | refine kdr ?_ | refine kal ?_ _)); refine blk_put (cs := #[.int .i64 0, .int .i64 0, .int .i64 0, .slice none 0 0]) ?_ 1 _ rfl; (with_reducible repeat (first | refine kdN ?_ _ | refine kdr ?_ | refine kal ?_ _)); refine blk_put (cs := #[.int .i64 0, .int .i64 0, .int .i64 0, .slice none 0 0]) ?_ 0 _ rfl; (with_reducible repeat (first | refine kdN ?_ _ | refine kdr ?_ | refine kal ?_ _)); exact BK208.out) Try.underlying52 rfl (by kernel_rfl)) rfl ?_
 exact ⟨_, rr, by first | exact Kd.R_nil _ _ _ _ _ | exact Kd.N_nil _ _ _ _ _ | exact Kd.V_nil _ _ _ _ _ | exact Kd.Q_nil _ _ _ _ _ | exact Kd.S_nil _ _ _ _ _, bb HB⟩
def r1_Same.l0 : Nat → List Int → List Int → Int → Option (Bool)
 | 0, _, _, _ => none
 | k + 1, x0, x1, x5 => if x5 < (x0.length : Int) then (if 0 ≤ x5 then (if x5 < (x1.length : Int) then (if (rd x0 x5) = (rd x1 x5) then (r1_Same.l0 k x0 x1 (wrap64 (x5 + 1))) else (some false)) else (none)) else (none)) else (some true)
def r1_Same.f (k : Nat) (l0 : List Int) (l1 : List Int) : Option (Bool) := if (l0.length : Int) = (l1.length : Int) then (r1_Same.l0 k l0 l1 0) else (some false)
theorem r1_Same.calls (k : Nat) (A0 : Option Addr) (c0 : Nat) (l0 : List Int) (A1 : Option Addr) (c1 : Nat) (l1 : List Int) (r : Bool) (w : World) (hr0 : Kd.C (Kd.int .i64) w A0 l0.length l0) (hc0 : l0.length ≤ c0) (hr1 : Kd.C (Kd.int .i64) w A1 l1.length l1) (hc1 : l1.length ≤ c1) (h : r1_Same.f k l0 l1 = some r) :
  Calls Try.prog 12 #[.slice A0 l0.length c0, .slice A1 l1.length c1] w fun e w' => e = .returned (.bool r) ∧ Drawn0 w w' := by
 have HR0 := Aside0.mk hr0
 have HC0 := Aside0.mk hc0
 clear hr0 hc0
 have HR1 := Aside0.mk hr1
 have HC1 := Aside0.mk hc1
 clear hr1 hc1
 have H : (if (l0.length : Int) = (l1.length : Int) then (r1_Same.l0 k l0 l1 0) else (some false)) = some r := h
 clear h
 by_cases c3 : (l0.length : Int) = (l1.length : Int)
 rotate_left
 ·rw [if_neg c3] at H
  have c3b0 : ((l0.length : Int) == (l1.length : Int)) = false := beq_eq_false_iff_ne.mpr c3
  have c3b1 : ((l0.length : Int) != (l1.length : Int)) = true := bne_iff_ne.mpr c3
  have c3b2 : (l0.length == l1.length) = false := by first | simpa using c3 | (simp at c3 ⊢; omega)
  obtain rfl := Option.some.inj H
  go_enter Try.func12, Try.ntmps12
  go_wp2
  repeat (go_quiet (fail); try go_wp2)
  go_ret
  exact ⟨rs, dr⟩
 rw [if_pos c3] at H
 have c3b0 : ((l0.length : Int) == (l1.length : Int)) = true := beq_iff_eq.mpr c3
 have c3b1 : ((l0.length : Int) != (l1.length : Int)) = false := bne_eq_false_iff_eq.mpr c3
 have c3b2 : (l0.length == l1.length) = true := by first | simpa using c3 | (simp at c3 ⊢; omega)
 clear c3
 have H' := Aside0.mk H
 clear H
 go_enter Try.func12, Try.ntmps12
 go_wp2
 repeat (go_quiet (fail); try go_wp2)
 go_loopg [5] k (fun kq v5 w' => ∃ (x5_1 : Int), v5 = .int .i64 x5_1 ∧ Aside0 (r1_Same.l0 kq l0 l1 x5_1 = some r) ∧ Aside0 (kq ≤ k) ∧ Drawn0 w w')
 case atStart => exact ⟨(0), rs, H', ⟨Nat.le_refl _⟩, dr⟩
 case round =>
  clear H'
  try clear c1
  try clear p2
  try clear c3
  try clear c3b0
  try clear c3b1
  try clear c3b2
  obtain ⟨x5_1, rfl, HA, HK1, ⟨m1, rfl⟩⟩ := hrel
  cases gk with
  | zero => exact absurd HA.out (by simp [r1_Same.l0])
  | succ k1 =>
   have H := HA.out
   clear HA
   simp only [r1_Same.l0] at H
   by_cases c4 : x5_1 < (l0.length : Int)
   rotate_left
   ·rw [if_neg c4] at H
    have c4b0 : decide (x5_1 < (l0.length : Int)) = false := decide_eq_false c4
    clear c4
    obtain rfl := Option.some.inj H
    go_wp2
    repeat (go_quiet (fail); try go_wp2)
    go_ret
    exact ⟨rs, dr⟩
   rw [if_pos c4] at H
   have c4b0 : decide (x5_1 < (l0.length : Int)) = true := decide_eq_true c4
   clear c4
   by_cases c5 : 0 ≤ x5_1
   rotate_left
   ·rw [if_neg c5] at H
    exact absurd H (by simp)
   rw [if_pos c5] at H
   have c5b0 : decide (0 ≤ x5_1) = true := decide_eq_true c5
   clear c5
   by_cases c6 : x5_1 < (l1.length : Int)
   rotate_left
   ·rw [if_neg c6] at H
    exact absurd H (by simp)
   rw [if_pos c6] at H
   have c6b0 : decide (x5_1 < (l1.length : Int)) = true := decide_eq_true c6
   clear c6
   by_cases c7 : (rd l0 x5_1) = (rd l1 x5_1)
   rotate_left
   ·rw [if_neg c7] at H
    have c7b0 : ((rd l0 x5_1) == (rd l1 x5_1)) = false := beq_eq_false_iff_ne.mpr c7
    have c7b1 : ((rd l0 x5_1) != (rd l1 x5_1)) = true := bne_iff_ne.mpr c7
    obtain rfl := Option.some.inj H
    have p204 : 0 ≤ (x5_1 : Int) := od
    have q204 : x5_1 < (l0.length : Int) := od
    obtain ⟨ad204, e204, hx204_0⟩ := Kd.at_int HR0.out x5_1 p204 q204
    cases e204
    replace p204 := eq_true p204
    replace q204 := eq_true q204
    have p205 : 0 ≤ (x5_1 : Int) := od
    have q205 : x5_1 < (l1.length : Int) := od
    obtain ⟨ad205, e205, hx205_0⟩ := Kd.at_int HR1.out x5_1 p205 q205
    cases e205
    replace p205 := eq_true p205
    replace q205 := eq_true q205
    go_wp2
    repeat (go_quiet (fail); try go_wp2)
    go_ret
    exact ⟨rs, dr⟩
   rw [if_pos c7] at H
   have c7b0 : ((rd l0 x5_1) == (rd l1 x5_1)) = true := beq_iff_eq.mpr c7
   have c7b1 : ((rd l0 x5_1) != (rd l1 x5_1)) = false := bne_eq_false_iff_eq.mpr c7
   clear c7
   have H' := Aside0.mk H
   clear H
   have p204 : 0 ≤ (x5_1 : Int) := od
   have q204 : x5_1 < (l0.length : Int) := od
   obtain ⟨ad204, e204, hx204_0⟩ := Kd.at_int HR0.out x5_1 p204 q204
   cases e204
   replace p204 := eq_true p204
   replace q204 := eq_true q204
   have p205 : 0 ≤ (x5_1 : Int) := od
   have q205 : x5_1 < (l1.length : Int) := od
   obtain ⟨ad205, e205, hx205_0⟩ := Kd.at_int HR1.out x5_1 p205 q205
   cases e205
   replace p205 := eq_true p205
   replace q205 := eq_true q205
   go_wp2
   repeat (go_quiet (fail); try go_wp2)
   go_roundg k1
   case measure => have := HK1.out; omega
   case rel => exact ⟨(wrap64 (x5_1 + 1)), rs, H', ⟨by have := HK1.out; omega⟩, dr⟩
end Go.Proofs.Ytnlekgadadifdaa.Print
namespace Go.Proofs.Ytnlekgadadifdaa.Print
open Go.RowKit Go.Proofs.YtnlekgadadifdaaW.PrintWords Go.Proofs.YtnlekgadadifdaaW.PrintLast Go.Proofs.YtnlekgadadifdaaW.PrintMore
attribute [local go_sem] max2_int min2_int max_two min_two max_three min_three max_four min_four
set_option linter.unusedVariables false
set_option linter.unusedSimpArgs false
open Go.RowKit
def aw_e0 : S52 := ⟨1, 0, 0, []⟩
def aw_e1 : S52 := ⟨0, 1, 0, []⟩
def aw_e2 : S52 := ⟨2, 0, 0, [aw_e0, aw_e1]⟩
theorem aw_read : r2_Read.f 0 0 = some (1, 0, 0, []) := rfl
theorem aw_const : r2_Const.f 1 = some (0, 1, 0, []) := rfl
theorem aw_of : r2_Of.f 2 [aw_e0, aw_e1] = some (2, 0, 0, [aw_e0, aw_e1]) := rfl
theorem each1' {α : Type} {Q : α → List Value → Prop} {x : α} {c : List Value} (h : Q x c) : ∀ (j : Nat) (y : α) (d : List Value), [x][j]? = some y → [c][j]? = some d → Q y d := by
  intro j y d hy hd
  match j with
  | 0 => simp at hy hd; subst hy; subst hd; exact h
  | j + 1 => simp at hy
theorem each2' {α : Type} {Q : α → List Value → Prop} {x1 x2 : α} {c1 c2 : List Value} (h1 : Q x1 c1) (h2 : Q x2 c2) : ∀ (j : Nat) (y : α) (d : List Value), [x1, x2][j]? = some y → [c1, c2][j]? = some d → Q y d := by
  intro j y d hy hd
  match j with
  | 0 => simp at hy hd; subst hy; subst hd; exact h1
  | 1 => simp at hy hd; subst hy; subst hd; exact h2
  | j + 2 => simp at hy
theorem C_of_row {α : Type} {d : Kd α} {W : World} {b e : Nat} {l : List α} {css : List (List Value)} (h1 : W.heap[b]? = some (.cells css.flatten.toArray e (0, 0))) (h2 : css.length = l.length) (h3 : l.length ≤ 9223372036854775807)
    (h4 : ∀ (j : Nat) (x : α) (c : List Value), l[j]? = some x → css[j]? = some c → d.K W x c) : d.C W (some ⟨b, 0, none⟩) l.length l := by
  have hlen : ∀ c ∈ css, c.length = d.sz := by
    intro c hc
    obtain ⟨j, hj, e2⟩ := List.mem_iff_getElem.1 hc
    have hj2 : j < l.length := by omega
    exact d.K_len (h4 j l[j] c (List.getElem?_eq_getElem hj2) (by rw [List.getElem?_eq_getElem hj, e2]))
  have flat : ∀ (css : List (List Value)) (j : Nat) (c : List Value) (i : Nat), (∀ c ∈ css, c.length = d.sz) → css[j]? = some c → i < d.sz → css.flatten[j * d.sz + i]? = c[i]? := by
    intro css
    induction css with
    | nil => intro j c i _ h _; simp at h
    | cons x r ih =>
      intro j c i hl h hi
      have h1 := hl x (by simp)
      cases j with
      | zero =>
        obtain rfl : x = c := by simpa using h
        simp only [List.flatten_cons, Nat.zero_mul, Nat.zero_add]
        rw [List.getElem?_append_left (by omega)]
      | succ j =>
        have e1 : (j + 1) * d.sz + i = x.length + (j * d.sz + i) := by rw [h1, Nat.succ_mul]; omega
        simp only [List.flatten_cons]
        rw [e1, List.getElem?_append_right (by omega), Nat.add_sub_cancel_left]
        exact ih j c i (fun c hc => hl c (by simp [hc])) (by simpa using h) hi
  refine ⟨rfl, h3, fun _ => ⟨_, rfl, fun j x hj => ?_⟩⟩
  have hj2 : j < css.length := by have := (List.getElem?_eq_some_iff.1 hj).1; omega
  have hc := List.getElem?_eq_getElem hj2
  refine ⟨css[j], hlen _ (List.getElem_mem hj2), h4 j x _ hj hc, fun i u hu => ?_⟩
  have hi : i < d.sz := by have := (List.getElem?_eq_some_iff.1 hu).1; rw [hlen _ (List.getElem_mem hj2)] at this; exact this
  have hg := flat css j _ i hlen hc hi
  have : (⟨b, 0, none⟩ : Addr).add (j * d.sz + i) = ⟨b, j * d.sz + i, none⟩ := by unfold Addr.add; split <;> simp_all
  rw [this, blk_cell h1 (j * d.sz + i)]
  simpa [hg] using hu
theorem aw_nilS (W : World) (A : Option Addr) : Kd.C k57 W A ([] : List S57).length [] := Kd.F_now (F_zero (W := W) A (fun _ => True))
theorem aw_args (W : World) (Ea : Option Addr) (fa : Nat) (Eb : Option Addr) (fb : Nat) : Kd.V k52 52 (W.alloc (.cells #[.int .i64 1, .int .i64 0, .int .i64 0, .slice Ea 0 fa, .int .i64 0, .int .i64 1, .int .i64 0, .slice Eb 0 fb] 52)) (W.alloc (.cells #[.int .i64 1, .int .i64 0, .int .i64 0, .slice Ea 0 fa, .int .i64 0, .int .i64 1, .int .i64 0, .slice Eb 0 fb] 52)).heap.size (fun _ => True) (.slice (some ⟨W.heap.size, 0, none⟩) [aw_e0, aw_e1].length 2) [aw_e0, aw_e1] := by
  obtain ⟨A, e1, hf⟩ := (IsRow.new (d := k52) (B := 0) (e := 52) (W := W) (l := [aw_e0, aw_e1]) (Nat.zero_le _) [[.int .i64 1, .int .i64 0, .int .i64 0, .slice Ea 0 fa], [.int .i64 0, .int .i64 1, .int .i64 0, .slice Eb 0 fb]] rfl rfl (by simp)
    (each2' (Q := fun x c => Kd.FK k52 W (fun k => 0 ≤ k ∧ k < W.heap.size) x c) (k52_mkF W _ aw_e0 (Nat.zero_le _) (F_zero Ea _)) (k52_mkF W _ aw_e1 (Nat.zero_le _) (F_zero Eb _)))).foot
  cases e1
  exact Kd.V_mk (Nat.le_refl _) (Kd.F_mono hf (fun _ _ => trivial))
theorem aw_cv {W : World} {b : Nat} (h : W.heap[b]? = some (.cells #[.string ⟨#[104]⟩, .int .i64 0, .int .i64 1] 42 (0, 0))) : Kd.C k42 W (some ⟨b, 0, none⟩) aw_v.length aw_v :=
  C_of_row (css := [[.string ⟨#[104]⟩, .int .i64 0, .int .i64 1]]) h rfl (by decide) (each1' (k42_mk W _))
theorem aw_cb {W : World} {b1 b2 : Nat} {Ec : Option Addr} {fc : Nat} (hc : Kd.C k52 W Ec 2 [aw_e0, aw_e1]) (hf : 2 ≤ fc) (h1 : W.heap[b1]? = some (.cells #[.int .i64 2, .int .i64 0, .int .i64 0, .slice Ec 2 fc] 52 (0, 0))) (h2 : W.heap[b2]? = some (.cells #[.int .i64 0, .int .i64 0, .slice (some ⟨b1, 0, none⟩) 1 1, .slice none 0 0, .slice none 0 0] 57 (0, 0))) : Kd.C k57 W (some ⟨b2, 0, none⟩) aw_b.length aw_b :=
  C_of_row (css := [[.int .i64 0, .int .i64 0, .slice (some ⟨b1, 0, none⟩) 1 1, .slice none 0 0, .slice none 0 0]]) h2 rfl (by decide)
    (each1' (k57_mk W (⟨0, 0, [aw_e2], [], []⟩ : S57) (by decide) (C_of_row (css := [[.int .i64 2, .int .i64 0, .int .i64 0, .slice Ec 2 fc]]) h1 rfl (by simp) (each1' (k52_mk W aw_e2 hf hc))) (Nat.le_refl _) (aw_nilS W _) (Nat.le_refl _) (aw_nilS W _)))
theorem aw_cmpOut : cmpOut 0 2 aw_v aw_b = (2, aw_v, aw_c, 0) := by rw [cmpOut, if_pos rfl, aw_code]
theorem aw_cmpOut0 : cmpOut 30 0 aw_v aw_b = (0, [], [], 30) := by rw [cmpOut, if_neg (by decide)]
theorem aw_plOut : plOut 0 aw_b = ([0], 0) := by rw [plOut, if_pos rfl, aw_places]
theorem aw_cmp {w : World} {A1 A2 : Option Addr} {n1 n2 : Nat} (h1 : Kd.C k42 w A1 1 aw_v) (hn1 : 1 ≤ n1) (h2 : Kd.C k57 w A2 1 aw_b) (hn2 : 1 ≤ n2) :
    Calls Try.prog 7 #[.agg #[.int .i64 2, .slice A1 1 n1, .slice A2 1 n2]] w fun e w' => ∃ D1 d1 D2 d2, e = .returned (.tuple #[.agg #[.int .i64 2, .slice D1 1 d1, .slice D2 5 d2], .int .i64 0]) ∧ Kd.F k42 w' (fun k => w.heap.size ≤ k) D1 1 aw_v ∧ 1 ≤ d1 ∧ Kd.F k40 w' (fun k => w.heap.size ≤ k) D2 5 aw_c ∧ 5 ≤ d2 ∧ Below w.heap.size w w' := by
  refine (comp_Compile.calls 60 2 A1 n1 aw_v A2 n2 aw_b 0 w h1 hn1 h2 hn2 aw_check (fun _ => aw_ok) (fun _ => by decide)).mono ?_
  rintro e w' ⟨v1, v2, rfl, r1, r2, hb⟩
  rw [aw_cmpOut] at r1 r2 ⊢
  obtain ⟨D1, d1, rfl⟩ := Kd.R_slice r1
  obtain ⟨D2, d2, rfl⟩ := Kd.R_slice r2
  exact ⟨D1, d1, D2, d2, rfl, Kd.R_F (Kd.R_mono (Kd.R_bound r1) (fun k hk => hk.2.1)), (Kd.R_reads' r1).2.1, Kd.R_F (Kd.R_mono (Kd.R_bound r2) (fun k hk => hk.2.1)), (Kd.R_reads' r2).2.1, hb⟩
theorem aw_cmp0 {w : World} {A1 A2 : Option Addr} {n1 n2 : Nat} (h1 : Kd.C k42 w A1 1 aw_v) (hn1 : 1 ≤ n1) (h2 : Kd.C k57 w A2 1 aw_b) (hn2 : 1 ≤ n2) :
    Calls Try.prog 7 #[.agg #[.int .i64 0, .slice A1 1 n1, .slice A2 1 n2]] w fun e w' => ∃ D1 d1 D2 d2, e = .returned (.tuple #[.agg #[.int .i64 0, .slice D1 0 d1, .slice D2 0 d2], .int .i64 30]) ∧ Below w.heap.size w w' := by
  refine (comp_Compile.calls 60 0 A1 n1 aw_v A2 n2 aw_b 30 w h1 hn1 h2 hn2 aw_check0 (fun h => absurd h (by decide)) (fun h => absurd h (by decide))).mono ?_
  rintro e w' ⟨v1, v2, rfl, r1, r2, hb⟩
  rw [aw_cmpOut0] at r1 r2 ⊢
  obtain ⟨D1, d1, rfl⟩ := Kd.R_slice r1
  obtain ⟨D2, d2, rfl⟩ := Kd.R_slice r2
  exact ⟨D1, d1, D2, d2, rfl, hb⟩
theorem aw_pls {w : World} {A1 A2 : Option Addr} {n1 n2 : Nat} (h1 : Kd.C k42 w A1 1 aw_v) (hn1 : 1 ≤ n1) (h2 : Kd.C k57 w A2 1 aw_b) (hn2 : 1 ≤ n2) :
    Calls Try.prog 8 #[.agg #[.int .i64 2, .slice A1 1 n1, .slice A2 1 n2]] w fun e w' => ∃ D1 d1, e = .returned (.tuple #[.slice D1 1 d1, .int .i64 0]) ∧ Below w.heap.size w w' := by
  refine (comp_Places.calls 60 2 A1 n1 aw_v A2 n2 aw_b 0 w h1 hn1 h2 hn2 aw_check (fun _ => aw_ok)).mono ?_
  rintro e w' ⟨v1, rfl, r1, hb⟩
  rw [aw_plOut] at r1 ⊢
  obtain ⟨D1, d1, rfl⟩ := Kd.R_slice r1
  exact ⟨D1, d1, rfl, hb⟩
theorem aw_is {w : World} {A1 A2 : Option Addr} {n1 n2 : Nat} (h1 : Kd.C k42 w A1 1 aw_v) (hn1 : 1 ≤ n1) (h2 : Kd.C k40 w A2 5 aw_c) (hn2 : 5 ≤ n2) :
    Calls Try.prog 20 #[.agg #[.int .i64 2, .slice A1 1 n1, .slice A2 5 n2]] w fun e w' => e = .returned (.bool true) ∧ Below w.heap.size w w' :=
  code_Is.calls 60 2 A1 n1 aw_v A2 n2 aw_c w h1 hn1 h2 hn2 aw_head (by decide) (by decide) aw_right (.inr rfl)
theorem aw_runs {w : World} {A1 A2 As : Option Addr} {n1 n2 ns : Nat} (h1 : Kd.C k42 w A1 1 aw_v) (hn1 : 1 ≤ n1) (h2 : Kd.C k40 w A2 5 aw_c) (hn2 : 5 ≤ n2) (hs : Kd.C (Kd.int .i64) w As 1 [3]) (hns : 1 ≤ ns) :
    Calls Try.prog 21 #[.agg #[.int .i64 2, .slice A1 1 n1, .slice A2 5 n2], .int .i64 100, .agg #[.slice As 1 ns, .slice none 0 0]] w fun e w' => ∃ B1 m1 B2 m2 B3 m3 B7 m7 B8 m8, e = .returned (.agg #[.int .i64 0, .slice B1 1 m1, .slice B2 0 m2, .slice B3 0 m3, .int .i64 5, .int .i64 0, .int .i64 0, .slice B7 64 m7, .slice B8 5 m8, .int .i64 4, .int .i64 95, .bool true]) ∧ Kd.C (Kd.int .i64) w' B1 1 [0] ∧ 1 ≤ m1 ∧ Below w.heap.size w w' := by
  refine (vm_run.calls 60 7 w 2 A1 n1 aw_v A2 n2 aw_c 100 As ns [3] none 0 [] [3] aw_run h1 hn1 h2 hn2 hs hns (Kd.F_now (F_zero (W := w) none (fun _ => True))) (Nat.le_refl _) aw_copy aw_loop (vAllB_spec _ _ aw_all)).mono ?_
  rintro e w' ⟨cs, rfl, ⟨B1, m1, B2, m2, B3, m3, B7, m7, B8, m8, rfl, h, _⟩, hb⟩
  exact ⟨B1, m1, B2, m2, B3, m3, B7, m7, B8, m8, rfl, (Kd.R_reads' h).2.2, (Kd.R_reads' h).2.1, hb⟩
theorem aw_sames {w : World} {A1 A2 : Option Addr} {n1 n2 : Nat} (h1 : Kd.C (Kd.int .i64) w A1 1 [0]) (hn1 : 1 ≤ n1) (h2 : Kd.C (Kd.int .i64) w A2 1 [0]) (hn2 : 1 ≤ n2) :
    Calls Try.prog 12 #[.slice A1 1 n1, .slice A2 1 n2] w fun e w' => e = .returned (.bool true) ∧ Below w.heap.size w w' := by
  refine (r1_Same.calls 60 A1 n1 [0] A2 n2 [0] true w h1 hn1 h2 hn2 (by kernel_rfl)).mono ?_
  rintro e w' ⟨rfl, nd, rfl⟩
  exact ⟨rfl, bdN (Below.refl _ _) nd⟩
def AwB (X : World) (bv b1 b2 n : Nat) (Ec : Option Addr) (fc : Nat) : Prop := X.heap[bv]? = some (.cells #[.string ⟨#[104]⟩, .int .i64 0, .int .i64 1] 42 (0, 0)) ∧ X.heap[b1]? = some (.cells #[.int .i64 2, .int .i64 0, .int .i64 0, .slice Ec 2 fc] 52 (0, 0)) ∧
  X.heap[b2]? = some (.cells #[.int .i64 0, .int .i64 0, .slice (some ⟨b1, 0, none⟩) 1 1, .slice none 0 0, .slice none 0 0] 57 (0, 0)) ∧ 2 ≤ fc ∧ Kd.F k52 X (fun k => k < n) Ec 2 [aw_e0, aw_e1]
theorem AwB.below {X Y : World} {bv b1 b2 n fc : Nat} {Ec : Option Addr} (h : AwB X bv b1 b2 n Ec fc) (hb : Below X.heap.size X Y) : AwB Y bv b1 b2 n Ec fc :=
  ⟨blk_below h.1 hb, blk_below h.2.1 hb, blk_below h.2.2.1 hb, h.2.2.2.1, Kd.F_below h.2.2.2.2 hb⟩
theorem AwB.far {X : World} {bv b1 b2 n fc : Nat} {Ec : Option Addr} (h : AwB X bv b1 b2 n Ec fc) {p : Addr} (hv : bv ≠ p.block) (h1 : b1 ≠ p.block) (h2 : b2 ≠ p.block) (hn : n ≤ p.block) (u : Value) : AwB (X.setCell p u) bv b1 b2 n Ec fc :=
  ⟨blk_far h.1 hv u, blk_far h.2.1 h1 u, blk_far h.2.2.1 h2 u, h.2.2.2.1, Kd.F_far h.2.2.2.2 (fun k hk => by omega) u⟩
theorem AwB.cv {X : World} {bv b1 b2 n fc : Nat} {Ec : Option Addr} (h : AwB X bv b1 b2 n Ec fc) : Kd.C k42 X (some ⟨bv, 0, none⟩) 1 aw_v := aw_cv h.1
theorem AwB.cb {X : World} {bv b1 b2 n fc : Nat} {Ec : Option Addr} (h : AwB X bv b1 b2 n Ec fc) : Kd.C k57 X (some ⟨b2, 0, none⟩) 1 aw_b := aw_cb (Kd.F_now h.2.2.2.2) h.2.2.2.1 h.2.1 h.2.2.1
theorem aw_field (X : World) (a0 a1 a2 a3 a4 a5 a6 a7 a8 a9 a10 a11 : Value) : Sem.run Try.prog (Instr.field 64 (.agg #[a0, a1, a2, a3, a4, a5, a6, a7, a8, a9, a10, a11]) 0) X = .ok (.agg #[a0, a1, a2, a3, a4, a5, a6]) X := by kernel_rfl
attribute [local go_sem] aw_field
theorem awake.calls (w : World) : Calls Try.prog 5 #[] w fun e w' => e = .returned (.bool true) ∧ Below w.heap.size w w' := by
  have huP := Try.underlying25
  have huS := Try.underlying57
  have huE := Try.underlying52
  have huV := Try.underlying42
  have huC := Try.underlying31
  have huR := Try.underlying62
  have huK := Try.underlying64
  go_enter Try.func5, Try.ntmps5
  go_upto_region 2 with (first
    | (go_at_call 18; (with_reducible refine (r2_Read.calls 0 0 1 0 0 [] (w.alloc (.cells #[.string ⟨#[104]⟩, .int .i64 0, .int .i64 1] 42)) aw_read).mono ?_); rintro e W1 ⟨v, rfl, o_, hb_⟩; obtain ⟨E1, f1, e_⟩ := Kd.R_slice o_; subst e_; have B1 := Aside0.mk hb_; clear hb_ o_)
    | (go_at_call 19; (with_reducible refine (r2_Const.calls 1 0 1 0 [] W1 aw_const).mono ?_); rintro e W2 ⟨v, rfl, o_, hb_⟩; obtain ⟨E2, f2, e_⟩ := Kd.R_slice o_; subst e_; have B2 := Aside0.mk hb_; clear hb_ o_)
    | (go_at_call 17; refine (r2_Of.calls 2 (fun _ => True) (some ⟨W2.heap.size, 0, none⟩) 2 [aw_e0, aw_e1] 2 0 0 [aw_e0, aw_e1] _ (aw_args W2 E1 f1 E2 f2) aw_of).mono ?_; rintro e W3 ⟨v, rfl, o_, hb_⟩; obtain ⟨Ec, fc, e_⟩ := Kd.V_slice o_; subst e_; have HO := Aside0.mk (And.intro (Kd.V_reads' o_).2.1 (Kd.V_F (Kd.V_bound o_))); have B3 := Aside0.mk hb_; clear hb_ o_))
  have B0 := Aside0.mk (bal (Below.refl w.heap.size w) (.cells #[.string ⟨#[104]⟩, .int .i64 0, .int .i64 1] 42))
  have V1 := (B1.out.block _ (by simp)).trans (blk_new w (.cells #[.string ⟨#[104]⟩, .int .i64 0, .int .i64 1] 42))
  have c1 : Below w.heap.size w W1 := B0.out.trans (B1.out.mono (by simp))
  have s1 := blk_lt V1
  have V2 := (B2.out.block _ s1).trans V1
  have c2 : Below w.heap.size w W2 := c1.trans (B2.out.mono c1.size)
  have s2 := blk_lt V2
  have V3 := (B3.out.block _ (by simp; omega)).trans (kal V2 (.cells #[.int .i64 1, .int .i64 0, .int .i64 0, .slice E1 0 f1, .int .i64 0, .int .i64 1, .int .i64 0, .slice E2 0 f2] 52))
  have c3 : Below w.heap.size w W3 := (bal c2 _).trans (B3.out.mono (by simp; exact Nat.le_trans c2.size (Nat.le_succ _)))
  have s3 := blk_lt V3
  have P1 := kal (kal (blk_new W3 (.cells #[.int .i64 2, .int .i64 0, .int .i64 0, .slice Ec 2 fc] 52)) (.cells #[.int .i64 0, .int .i64 0, .slice (some ⟨W3.heap.size, 0, none⟩) 1 1, .slice none 0 0, .slice none 0 0] 57)) (.cells #[.int .i64 2, .slice (some ⟨w.heap.size, 0, none⟩) 1 1, .slice (some ⟨W3.heap.size + 1, 0, none⟩) 1 1] 25)
  have P2 := kal (blk_new (W3.alloc (.cells #[.int .i64 2, .int .i64 0, .int .i64 0, .slice Ec 2 fc] 52)) (.cells #[.int .i64 0, .int .i64 0, .slice (some ⟨W3.heap.size, 0, none⟩) 1 1, .slice none 0 0, .slice none 0 0] 57)) (.cells #[.int .i64 2, .slice (some ⟨w.heap.size, 0, none⟩) 1 1, .slice (some ⟨W3.heap.size + 1, 0, none⟩) 1 1] 25)
  have P3 := blk_new ((W3.alloc (.cells #[.int .i64 2, .int .i64 0, .int .i64 0, .slice Ec 2 fc] 52)).alloc (.cells #[.int .i64 0, .int .i64 0, .slice (some ⟨W3.heap.size, 0, none⟩) 1 1, .slice none 0 0, .slice none 0 0] 57)) (.cells #[.int .i64 2, .slice (some ⟨w.heap.size, 0, none⟩) 1 1, .slice (some ⟨W3.heap.size + 1, 0, none⟩) 1 1] 25)
  rw [show (W3.alloc (.cells #[.int .i64 2, .int .i64 0, .int .i64 0, .slice Ec 2 fc] 52)).heap.size = W3.heap.size + 1 by simp] at P2
  rw [show ((W3.alloc (.cells #[.int .i64 2, .int .i64 0, .int .i64 0, .slice Ec 2 fc] 52)).alloc (.cells #[.int .i64 0, .int .i64 0, .slice (some ⟨W3.heap.size, 0, none⟩) 1 1, .slice none 0 0, .slice none 0 0] 57)).heap.size = W3.heap.size + 1 + 1 by simp] at P3
  have V4 := kal (kal (kal V3 (.cells #[.int .i64 2, .int .i64 0, .int .i64 0, .slice Ec 2 fc] 52)) (.cells #[.int .i64 0, .int .i64 0, .slice (some ⟨W3.heap.size, 0, none⟩) 1 1, .slice none 0 0, .slice none 0 0] 57)) (.cells #[.int .i64 2, .slice (some ⟨w.heap.size, 0, none⟩) 1 1, .slice (some ⟨W3.heap.size + 1, 0, none⟩) 1 1] 25)
  have c4 := bal (bal (bal c3 (.cells #[.int .i64 2, .int .i64 0, .int .i64 0, .slice Ec 2 fc] 52)) (.cells #[.int .i64 0, .int .i64 0, .slice (some ⟨W3.heap.size, 0, none⟩) 1 1, .slice none 0 0, .slice none 0 0] 57)) (.cells #[.int .i64 2, .slice (some ⟨w.heap.size, 0, none⟩) 1 1, .slice (some ⟨W3.heap.size + 1, 0, none⟩) 1 1] 25)
  have e4 := bal (bal (bal (Below.refl W3.heap.size W3) (.cells #[.int .i64 2, .int .i64 0, .int .i64 0, .slice Ec 2 fc] 52)) (.cells #[.int .i64 0, .int .i64 0, .slice (some ⟨W3.heap.size, 0, none⟩) 1 1, .slice none 0 0, .slice none 0 0] 57)) (.cells #[.int .i64 2, .slice (some ⟨w.heap.size, 0, none⟩) 1 1, .slice (some ⟨W3.heap.size + 1, 0, none⟩) 1 1] 25)
  have CE : Kd.F k52 _ (fun k => k < W3.heap.size) Ec 2 [aw_e0, aw_e1] := Kd.F_mono (Kd.F_below HO.out.2 e4) (fun k hk => hk.2)
  have hfc : 2 ≤ fc := HO.out.1
  generalize ((W3.alloc (.cells #[.int .i64 2, .int .i64 0, .int .i64 0, .slice Ec 2 fc] 52)).alloc (.cells #[.int .i64 0, .int .i64 0, .slice (some ⟨W3.heap.size, 0, none⟩) 1 1, .slice none 0 0, .slice none 0 0] 57)).alloc (.cells #[.int .i64 2, .slice (some ⟨w.heap.size, 0, none⟩) 1 1, .slice (some ⟨W3.heap.size + 1, 0, none⟩) 1 1] 25) = X0 at P1 P2 P3 V4 c4 CE ⊢
  have AB := Aside0.mk (show AwB X0 w.heap.size W3.heap.size (W3.heap.size + 1) W3.heap.size Ec fc from ⟨V4, P1, P2, hfc, CE⟩)
  have PP := Aside0.mk P3
  have C0 := Aside0.mk c4
  have hbw : w.heap.size < W3.heap.size ∧ W3.heap.size + 1 < W3.heap.size + 1 + 1 := by omega
  clear e4 CE hfc P1 P2 P3 V4 c4 s3 c3 V3 s2 c2 V2 s1 c1 V1 B0 B1 B2 B3 HO
  obtain ⟨bb, hbb⟩ : ∃ x, W3.heap.size + 1 = x := ⟨_, rfl⟩
  obtain ⟨bp, hbp⟩ : ∃ x, bb + 1 = x := ⟨_, rfl⟩
  rw [hbb] at AB PP hbw
  rw [hbp] at PP hbw
  simp only [hbb, hbp]
  have hb3 : W3.heap.size < bp := by omega
  have HBW := Aside0.mk (show w.heap.size < bp ∧ W3.heap.size < bp ∧ bb < bp by omega)
  clear hbw hb3
  have p0 : X0.cell? ⟨bp, 0, none⟩ = some (.int .i64 2) := (blk_cell PP.out 0).trans rfl
  have p1 : X0.cell? ⟨bp, 1, none⟩ = some (.slice (some ⟨w.heap.size, 0, none⟩) 1 1) := (blk_cell PP.out 1).trans rfl
  have p2 : X0.cell? ⟨bp, 2, none⟩ = some (.slice (some ⟨bb, 0, none⟩) 1 1) := (blk_cell PP.out 2).trans rfl
  go_upto_region 3 with (first | (go_at_call 7; refine (aw_cmp (w := X0) AB.out.cv (Nat.le_refl _) AB.out.cb (Nat.le_refl _)).mono ?_; rintro e X1 ⟨D1, d1, D2, d2, rfl, q1, q2, q3, q4, hb⟩; have Q1 := Aside0.mk q1; have Q2 := Aside0.mk q2; have Q3 := Aside0.mk q3; have Q4 := Aside0.mk q4; have B1 := Aside0.mk hb; clear q1 q2 q3 q4 hb))
  have BA := Aside0.mk (bal B1.out (.cells #[.int .i64 2, .slice D1 1 d1, .slice D2 5 d2] 31))
  have BB := Aside0.mk (bal (Below.refl X1.heap.size X1) (.cells #[.int .i64 2, .slice D1 1 d1, .slice D2 5 d2] 31))
  have CC := Aside0.mk (blk_new X1 (.cells #[.int .i64 2, .slice D1 1 d1, .slice D2 5 d2] 31))
  obtain ⟨bc, hbc⟩ : ∃ x, X1.heap.size = x := ⟨_, rfl⟩
  have HBX := Aside0.mk (blk_lt PP.out)
  have HBC := Aside0.mk (show bp < bc by have := blk_lt PP.out; have := B1.out.size; omega)
  have BB := Aside0.mk (hbc ▸ BB.out)
  have CC := Aside0.mk (hbc ▸ CC.out)
  simp only [hbc]
  clear hbc p0 p1 p2
  generalize hX2 : X1.alloc (.cells #[.int .i64 2, .slice D1 1 d1, .slice D2 5 d2] 31) = X2 at BA BB CC ⊢
  have R1 := Aside0.mk (show Kd.F k42 X2 (fun k => X0.heap.size ≤ k) D1 1 aw_v by rw [← hX2]; exact Kd.F_below Q1.out (bal (Below.refl _ _) _))
  have R3 := Aside0.mk (show Kd.F k40 X2 (fun k => X0.heap.size ≤ k) D2 5 aw_c by rw [← hX2]; exact Kd.F_below Q3.out (bal (Below.refl _ _) _))
  clear hX2 Q1 Q3 B1 BB
  have AB2 := Aside0.mk (AB.out.below BA.out)
  have PP2 := Aside0.mk (blk_below PP.out BA.out)
  have C2 := Aside0.mk (C0.out.trans (BA.out.mono C0.out.size))
  clear AB PP C0 BA
  have p0 : X2.cell? ⟨bp, 0, none⟩ = some (.int .i64 2) := (blk_cell PP2.out 0).trans rfl
  have p1 : X2.cell? ⟨bp, 1, none⟩ = some (.slice (some ⟨w.heap.size, 0, none⟩) 1 1) := (blk_cell PP2.out 1).trans rfl
  have p2 : X2.cell? ⟨bp, 2, none⟩ = some (.slice (some ⟨bb, 0, none⟩) 1 1) := (blk_cell PP2.out 2).trans rfl
  go_upto_region 5 with (first | (go_at_call 8; refine (aw_pls (w := X2) AB2.out.cv (Nat.le_refl _) AB2.out.cb (Nat.le_refl _)).mono ?_; rintro e X3 ⟨T1, t1, rfl, hb⟩; have B3 := Aside0.mk hb; clear hb; have PP3 := Aside0.mk (blk_below PP2.out B3.out); have p0' : X3.cell? ⟨bp, 0, none⟩ = some (.int .i64 2) := (blk_cell PP3.out 0).trans rfl; have g0 := blk_frozen PP3.out 0))
  clear p0 p1 p2 p0' g0
  have AB4 := Aside0.mk ((AB2.out.below B3.out).far (p := ⟨bp, 0, none⟩) (by have := HBW.out; simp; omega) (by have := HBW.out; simp; omega) (by have := HBW.out; simp; omega) (by have := HBW.out; simp; omega) (.int .i64 0))
  have PP4 := Aside0.mk (blk_set PP3.out 0 (.int .i64 0))
  have CC4 := Aside0.mk (blk_far (blk_below CC.out B3.out) (p := ⟨bp, 0, none⟩) (by have := HBC.out; simp; omega) (.int .i64 0))
  have C4 := Aside0.mk ((C2.out.trans (B3.out.mono C2.out.size)).setCell (p := ⟨bp, 0, none⟩) (by have := HBW.out; simp; omega) (.int .i64 0))
  have U1 := Aside0.mk (Kd.F_now (Kd.F_far (p := ⟨bp, 0, none⟩) (Kd.F_below R1.out B3.out) (fun k hk => by have := HBX.out; simp; omega) (.int .i64 0)))
  have U3 := Aside0.mk (Kd.F_now (Kd.F_far (p := ⟨bp, 0, none⟩) (Kd.F_below R3.out B3.out) (fun k hk => by have := HBX.out; simp; omega) (.int .i64 0)))
  clear AB2 PP2 C2 CC R1 R3 HBX
  clear B3 PP3
  generalize X3.setCell ⟨bp, 0, none⟩ (.int .i64 0) = X4 at AB4 PP4 CC4 C4 U1 U3 ⊢
  have p0 : X4.cell? ⟨bp, 0, none⟩ = some (.int .i64 0) := (blk_cell PP4.out 0).trans rfl
  have p1 : X4.cell? ⟨bp, 1, none⟩ = some (.slice (some ⟨w.heap.size, 0, none⟩) 1 1) := (blk_cell PP4.out 1).trans rfl
  have p2 : X4.cell? ⟨bp, 2, none⟩ = some (.slice (some ⟨bb, 0, none⟩) 1 1) := (blk_cell PP4.out 2).trans rfl
  go_upto_region 6 with (first | (go_at_call 7; refine (aw_cmp0 (w := X4) AB4.out.cv (Nat.le_refl _) AB4.out.cb (Nat.le_refl _)).mono ?_; rintro e X5 ⟨D3, d3, D4, d4, rfl, hb⟩; have B5 := Aside0.mk hb; clear hb))
  clear p0 p1 p2
  have B6 := Aside0.mk (bal B5.out (.cells #[.int .i64 0, .slice D3 0 d3, .slice D4 0 d4] 31))
  obtain ⟨bz, hbz⟩ : ∃ x, X5.heap.size = x := ⟨_, rfl⟩
  simp only [hbz]
  clear hbz
  generalize X5.alloc (.cells #[.int .i64 0, .slice D3 0 d3, .slice D4 0 d4] 31) = X6 at B6 ⊢
  clear B5
  have U1 := Aside0.mk (Kd.C_below U1.out B6.out)
  have U3 := Aside0.mk (Kd.C_below U3.out B6.out)
  have CC6 := Aside0.mk (blk_below CC4.out B6.out)
  have C6 := Aside0.mk (C4.out.trans (B6.out.mono C4.out.size))
  clear AB4 PP4 CC4 C4 B6
  have q0 : X6.cell? ⟨bc, 0, none⟩ = some (.int .i64 2) := (blk_cell CC6.out 0).trans rfl
  have q1 : X6.cell? ⟨bc, 1, none⟩ = some (.slice D1 1 d1) := (blk_cell CC6.out 1).trans rfl
  have q2 : X6.cell? ⟨bc, 2, none⟩ = some (.slice D2 5 d2) := (blk_cell CC6.out 2).trans rfl
  go_upto_region 8 with (first | (go_at_call 20; refine (aw_is (w := X6) U1.out Q2.out U3.out Q4.out).mono ?_; rintro e X7 ⟨rfl, hb⟩; have B7 := Aside0.mk hb; clear hb))
  clear q0 q1 q2
  have CC7 := Aside0.mk (blk_below CC6.out B7.out)
  have U1 := Aside0.mk (Kd.C_below U1.out B7.out)
  have U3 := Aside0.mk (Kd.C_below U3.out B7.out)
  have C7 := Aside0.mk (C6.out.trans (B7.out.mono C6.out.size))
  clear CC6 C6 B7
  have q0 : X7.cell? ⟨bc, 0, none⟩ = some (.int .i64 2) := (blk_cell CC7.out 0).trans rfl
  have q1 : X7.cell? ⟨bc, 1, none⟩ = some (.slice D1 1 d1) := (blk_cell CC7.out 1).trans rfl
  have q2 : X7.cell? ⟨bc, 2, none⟩ = some (.slice D2 5 d2) := (blk_cell CC7.out 2).trans rfl
  go_upto_region 9 with (first | (go_at_call 21; refine (aw_runs (w := X7.alloc (.cells #[.int .i64 3] 3)) (Kd.C_below U1.out (bal (Below.refl _ _) _)) Q2.out (Kd.C_below U3.out (bal (Below.refl _ _) _)) Q4.out (C_of_row (css := [[.int .i64 3]]) (blk_new X7 (.cells #[.int .i64 3] 3)) rfl (by decide) (each1' rfl)) (Nat.le_refl _)).mono ?_; rintro e X8 ⟨G1, m1, G2, m2, G3, m3, G7, m7, G8, m8, rfl, g1, g2, hb⟩; have B8 := Aside0.mk hb; have G1H := Aside0.mk g1; have G2H := Aside0.mk g2; clear hb g1 g2))
  clear q0 q1 q2
  have B9 := Aside0.mk (bal (Below.refl X8.heap.size X8) (.cells #[.int .i64 0, .slice G1 1 m1, .slice G2 0 m2, .slice G3 0 m3, .int .i64 5, .int .i64 0, .int .i64 0] 62))
  have RR := Aside0.mk (blk_new X8 (.cells #[.int .i64 0, .slice G1 1 m1, .slice G2 0 m2, .slice G3 0 m3, .int .i64 5, .int .i64 0, .int .i64 0] 62))
  have C8 := Aside0.mk ((bal C7.out (.cells #[.int .i64 3] 3)).trans (B8.out.mono (bal C7.out (.cells #[.int .i64 3] 3)).size))
  obtain ⟨br, hbr⟩ : ∃ x, X8.heap.size = x := ⟨_, rfl⟩
  rw [hbr] at RR
  simp only [hbr]
  have G1H := Aside0.mk (Kd.C_below G1H.out B9.out)
  have C9 := Aside0.mk (C8.out.trans (B9.out.mono C8.out.size))
  clear C8 B9 hbr
  generalize X8.alloc (.cells #[.int .i64 0, .slice G1 1 m1, .slice G2 0 m2, .slice G3 0 m3, .int .i64 5, .int .i64 0, .int .i64 0] 62) = X9 at RR G1H C9 ⊢
  have r0 : X9.cell? ⟨br, 0, none⟩ = some (.int .i64 0) := (blk_cell RR.out 0).trans rfl
  have r1 : X9.cell? ⟨br, 1, none⟩ = some (.slice G1 1 m1) := (blk_cell RR.out 1).trans rfl
  go_wp2_with (first | (go_at_call 12; refine (aw_sames (w := X9.alloc (.cells #[.int .i64 0] 3)) (Kd.C_below G1H.out (bal (Below.refl _ _) _)) G2H.out (C_of_row (css := [[.int .i64 0]]) (blk_new X9 (.cells #[.int .i64 0] 3)) rfl (by decide) (each1' rfl)) (Nat.le_refl _)).mono ?_; rintro e X10 ⟨rfl, hb⟩; have B10 := Aside0.mk hb; clear hb; have RR10 := Aside0.mk (blk_below (kal RR.out (.cells #[.int .i64 0] 3)) B10.out); have r4 : X10.cell? ⟨br, 4, none⟩ = some (.int .i64 5) := (blk_cell RR10.out 4).trans rfl))
  go_ret
  exact ⟨rfl, (bal C9.out (.cells #[.int .i64 0] 3)).trans (B10.out.mono (bal C9.out (.cells #[.int .i64 0] 3)).size)⟩
end Go.Proofs.Ytnlekgadadifdaa.Print
namespace Go.Proofs.Ytnlekgadadifdaa.Print
open Go.RowKit Go.Proofs.YtnlekgadadifdaaW.PrintWords Go.Proofs.YtnlekgadadifdaaW.PrintLast Go.Proofs.YtnlekgadadifdaaW.PrintMore
attribute [local go_sem] max2_int min2_int max_two min_two max_three min_three max_four min_four
set_option linter.unusedVariables false
set_option linter.unusedSimpArgs false
theorem eqA40 (d : Nat) (w : World) (x0 y0 : Int) (x1 y1 : Int) (x2 y2 : Int) (x3 y3 : Int) (x4 y4 : Int) :
  (Op.equalIn (d + 2) 40 (.agg #[.int .i64 x0, .int .i64 x1, .int .i64 x2, .int .i64 x3, .int .i64 x4]) (.agg #[.int .i64 y0, .int .i64 y1, .int .i64 y2, .int .i64 y3, .int .i64 y4])).run Try.prog w = .ok (x0 == y0 && (x1 == y1 && (x2 == y2 && (x3 == y3 && (x4 == y4))))) w := by
 refine eqA_of Try.underlying40 (by kernel_rfl) ?_
 refine eqf_cons (by rfl) (by go_simp; rfl) (by go_simp; rfl) (by go_simp) ?_
 refine eqf_cons (by rfl) (by go_simp; rfl) (by go_simp; rfl) (by go_simp) ?_
 refine eqf_cons (by rfl) (by go_simp; rfl) (by go_simp; rfl) (by go_simp) ?_
 refine eqf_cons (by rfl) (by go_simp; rfl) (by go_simp; rfl) (by go_simp) ?_
 exact eqf_last (by rfl) (by go_simp; rfl) (by go_simp; rfl) (by go_simp)
end Go.Proofs.Ytnlekgadadifdaa.Print
namespace Go.Proofs.Ytnlekgadadifdaa.Print
open Go.RowKit Go.Proofs.YtnlekgadadifdaaW.PrintWords Go.Proofs.YtnlekgadadifdaaW.PrintLast Go.Proofs.YtnlekgadadifdaaW.PrintMore
attribute [local go_sem] max2_int min2_int max_two min_two max_three min_three max_four min_four
set_option linter.unusedVariables false
set_option linter.unusedSimpArgs false
attribute [local go_sem high] eqA40 eqA42
mutual
def r8_Same.j0 : Nat → Bool → Int → List (S42) → List (S40) → Int → List (S42) → List (S40) → Option (Bool)
 | 0, _, _, _, _, _, _, _ => none
 | k + 1, x29, x938000, x938001, x938002, x939000, x939001, x939002 => if x29 = true then (some false) else (r8_Same.l0 k 0 x938000 x938001 x938002 x939000 x939001 x939002)
def r8_Same.l0 : Nat → Int → Int → List (S42) → List (S40) → Int → List (S42) → List (S40) → Option (Bool)
 | 0, _, _, _, _, _, _, _ => none
 | k + 1, x5, x938000, x938001, x938002, x939000, x939001, x939002 => if x5 < (x938001.length : Int) then (if 0 ≤ x5 then (if x5 < (x939001.length : Int) then (if (!((((rd_T42 x938001 x5).f0).toList) == (((rd_T42 x939001 x5).f0).toList)) || (!(((rd_T42 x938001 x5).f1) == ((rd_T42 x939001 x5).f1)) || (!(((rd_T42 x938001 x5).f2) == ((rd_T42 x939001 x5).f2))))) = true then (some false) else (r8_Same.l0 k (wrap64 (x5 + 1)) x938000 x938001 x938002 x939000 x939001 x939002)) else (none)) else (none)) else (r8_Same.l1 k 0 x938000 x938001 x938002 x939000 x939001 x939002)
def r8_Same.l1 : Nat → Int → Int → List (S42) → List (S40) → Int → List (S42) → List (S40) → Option (Bool)
 | 0, _, _, _, _, _, _, _ => none
 | k + 1, x6, x938000, x938001, x938002, x939000, x939001, x939002 => if x6 < (x938002.length : Int) then (if 0 ≤ x6 then (if x6 < (x939002.length : Int) then (if (!(((rd_T40 x938002 x6).f0) == ((rd_T40 x939002 x6).f0)) || (!(((rd_T40 x938002 x6).f1) == ((rd_T40 x939002 x6).f1)) || (!(((rd_T40 x938002 x6).f2) == ((rd_T40 x939002 x6).f2)) || (!(((rd_T40 x938002 x6).f3) == ((rd_T40 x939002 x6).f3)) || (!(((rd_T40 x938002 x6).f4) == ((rd_T40 x939002 x6).f4))))))) = true then (some false) else (r8_Same.l1 k (wrap64 (x6 + 1)) x938000 x938001 x938002 x939000 x939001 x939002)) else (none)) else (none)) else (some true)
end
def r8_Same.f (k : Nat) (a0_0 : Int) (l0_1 : List (S42)) (l0_2 : List (S40)) (a1_0 : Int) (l1_1 : List (S42)) (l1_2 : List (S40)) : Option (Bool) := if a0_0 = a1_0 then (if (l0_1.length : Int) = (l1_1.length : Int) then (r8_Same.j0 k ((l0_2.length : Int) != (l1_2.length : Int)) a0_0 l0_1 l0_2 a1_0 l1_1 l1_2) else (r8_Same.j0 k true a0_0 l0_1 l0_2 a1_0 l1_1 l1_2)) else (r8_Same.j0 k true a0_0 l0_1 l0_2 a1_0 l1_1 l1_2)
theorem r8_Same.calls (k : Nat) (a0_0 : Int) (A0_1 : Option Addr) (c0_1 : Nat) (l0_1 : List (S42)) (A0_2 : Option Addr) (c0_2 : Nat) (l0_2 : List (S40)) (a1_0 : Int) (A1_1 : Option Addr) (c1_1 : Nat) (l1_1 : List (S42)) (A1_2 : Option Addr) (c1_2 : Nat) (l1_2 : List (S40)) (r : Bool) (w : World) (hr0_1 : Kd.C k42 w A0_1 l0_1.length l0_1) (hc0_1 : l0_1.length ≤ c0_1) (hr0_2 : Kd.C k40 w A0_2 l0_2.length l0_2) (hc0_2 : l0_2.length ≤ c0_2) (hr1_1 : Kd.C k42 w A1_1 l1_1.length l1_1) (hc1_1 : l1_1.length ≤ c1_1) (hr1_2 : Kd.C k40 w A1_2 l1_2.length l1_2) (hc1_2 : l1_2.length ≤ c1_2) (h : r8_Same.f k a0_0 l0_1 l0_2 a1_0 l1_1 l1_2 = some r) :
  Calls Try.prog 11 #[.agg #[.int .i64 a0_0, .slice A0_1 l0_1.length c0_1, .slice A0_2 l0_2.length c0_2], .agg #[.int .i64 a1_0, .slice A1_1 l1_1.length c1_1, .slice A1_2 l1_2.length c1_2]] w fun e w' => e = .returned (.bool r) ∧ Below w.heap.size w w' := by
 have hu31 := Try.underlying31
 have hu42 := Try.underlying42
 have hu40 := Try.underlying40
 have HR0_1 := Aside0.mk hr0_1
 have HC0_1 := Aside0.mk hc0_1
 clear hr0_1 hc0_1
 have HR0_2 := Aside0.mk hr0_2
 have HC0_2 := Aside0.mk hc0_2
 clear hr0_2 hc0_2
 have HR1_1 := Aside0.mk hr1_1
 have HC1_1 := Aside0.mk hc1_1
 clear hr1_1 hc1_1
 have HR1_2 := Aside0.mk hr1_2
 have HC1_2 := Aside0.mk hc1_2
 clear hr1_2 hc1_2
 have HB := Aside0.mk (Below.refl w.heap.size w)
 have H : (if a0_0 = a1_0 then (if (l0_1.length : Int) = (l1_1.length : Int) then (r8_Same.j0 k ((l0_2.length : Int) != (l1_2.length : Int)) a0_0 l0_1 l0_2 a1_0 l1_1 l1_2) else (r8_Same.j0 k true a0_0 l0_1 l0_2 a1_0 l1_1 l1_2)) else (r8_Same.j0 k true a0_0 l0_1 l0_2 a1_0 l1_1 l1_2)) = some r := h
 clear h
 have HC3 := Aside0.mk H
 clear H
 go_enter Try.func11, Try.ntmps11
 go_upto_region 1 with (first | ((with_reducible refine gate_dst (N := 2) rfl ?_); (try (refine gate_guard (by rfl) ?_; dsimp only)); refine bx 2 rfl rfl #[.int .i64 a0_0, .slice A0_1 l0_1.length c0_1, .slice A0_2 l0_2.length c0_2] 31 ?_; intro gb937 hg w4 hbox hb; have BK937 := Aside0.mk (hbox); have GE937 := ge HB hg; replace HB := sb HB hb; clear hb hbox hg) | ((with_reducible refine gate_dst (N := 3) rfl ?_); (try (refine gate_guard (by rfl) ?_; dsimp only)); refine bx 3 rfl rfl #[.int .i64 a1_0, .slice A1_1 l1_1.length c1_1, .slice A1_2 l1_2.length c1_2] 31 ?_; intro gb938 hg w5 hbox hb; have BK938 := Aside0.mk (hbox); have GE938 := ge HB hg; have NB937_938 := Aside0.mk ((by rw [hg]; exact Nat.ne_of_lt (blk_lt (kk BK937)) : gb937 ≠ gb938)); have NB938_937 := Aside0.mk ((by rw [hg]; exact Nat.ne_of_gt (blk_lt (kk BK937)) : gb938 ≠ gb937)); replace BK937 := kb BK937 hb; replace HB := sb HB hb; clear hb hbox hg))
 repeat (go_quiet (first | ((with_reducible refine gate_dst (N := 2) rfl ?_); (try (refine gate_guard (by rfl) ?_; dsimp only)); refine bx 2 rfl rfl #[.int .i64 a0_0, .slice A0_1 l0_1.length c0_1, .slice A0_2 l0_2.length c0_2] 31 ?_; intro gb937 hg w4 hbox hb; have BK937 := Aside0.mk (hbox); have GE937 := ge HB hg; replace HB := sb HB hb; clear hb hbox hg) | ((with_reducible refine gate_dst (N := 3) rfl ?_); (try (refine gate_guard (by rfl) ?_; dsimp only)); refine bx 3 rfl rfl #[.int .i64 a1_0, .slice A1_1 l1_1.length c1_1, .slice A1_2 l1_2.length c1_2] 31 ?_; intro gb938 hg w5 hbox hb; have BK938 := Aside0.mk (hbox); have GE938 := ge HB hg; have NB937_938 := Aside0.mk ((by rw [hg]; exact Nat.ne_of_lt (blk_lt (kk BK937)) : gb937 ≠ gb938)); have NB938_937 := Aside0.mk ((by rw [hg]; exact Nat.ne_of_gt (blk_lt (kk BK937)) : gb938 ≠ gb937)); replace BK937 := kb BK937 hb; replace HB := sb HB hb; clear hb hbox hg)); go_upto_region 1 with (first | ((with_reducible refine gate_dst (N := 2) rfl ?_); (try (refine gate_guard (by rfl) ?_; dsimp only)); refine bx 2 rfl rfl #[.int .i64 a0_0, .slice A0_1 l0_1.length c0_1, .slice A0_2 l0_2.length c0_2] 31 ?_; intro gb937 hg w4 hbox hb; have BK937 := Aside0.mk (hbox); have GE937 := ge HB hg; replace HB := sb HB hb; clear hb hbox hg) | ((with_reducible refine gate_dst (N := 3) rfl ?_); (try (refine gate_guard (by rfl) ?_; dsimp only)); refine bx 3 rfl rfl #[.int .i64 a1_0, .slice A1_1 l1_1.length c1_1, .slice A1_2 l1_2.length c1_2] 31 ?_; intro gb938 hg w5 hbox hb; have BK938 := Aside0.mk (hbox); have GE938 := ge HB hg; have NB937_938 := Aside0.mk ((by rw [hg]; exact Nat.ne_of_lt (blk_lt (kk BK937)) : gb937 ≠ gb938)); have NB938_937 := Aside0.mk ((by rw [hg]; exact Nat.ne_of_gt (blk_lt (kk BK937)) : gb938 ≠ gb937)); replace BK937 := kb BK937 hb; replace HB := sb HB hb; clear hb hbox hg)))
 (try simp only [Act.put, List.setIfInBounds_toArray, List.set_cons_zero, List.set_cons_succ])
 go_cut [29] (fun v29 wc => ∃ (kq : Nat) (x29_2 : Bool), v29 = .bool x29_2 ∧ Aside0 (r8_Same.j0 kq x29_2 a0_0 l0_1 l0_2 a1_0 l1_1 l1_2 = some r) ∧ Aside0 (kq ≤ k) ∧ Aside0 (wc.heap[gb937]? = some (.cells #[.int .i64 a0_0, (.slice A0_1 l0_1.length c0_1), (.slice A0_2 l0_2.length c0_2)] 31 (0, 0))) ∧ Aside0 (wc.heap[gb938]? = some (.cells #[.int .i64 a1_0, (.slice A1_1 l1_1.length c1_1), (.slice A1_2 l1_2.length c1_2)] 31 (0, 0))) ∧ Aside0 (Below w.heap.size w wc))
 case first =>
  have H := HC3.out
  clear HC3
  by_cases c6 : a0_0 = a1_0
  rotate_left
  ·rw [if_neg c6] at H
   have c6b0 : (a0_0 == a1_0) = false := beq_eq_false_iff_ne.mpr c6
   have c6b1 : (a0_0 != a1_0) = true := bne_iff_ne.mpr c6
   (first | rw [c6b0] | (simp only [i64_w, i32_w]; rw [c6b0]) | skip)
   have H' := Aside0.mk H
   clear H
   have hnb14 := NB937_938.out
   have hnc14 := NB938_937.out
   obtain ⟨hcz15_0, hcz15_1, hcz15_2, hfz15_0, hfz15_1, hfz15_2⟩ := cf3 BK937.out
   obtain ⟨hcz16_0, hcz16_1, hcz16_2, hfz16_0, hfz16_1, hfz16_2⟩ := cf3 BK938.out
   go_wp2
   repeat (go_quiet (fail); try go_wp2)
   go_meet
   case rel => exact ⟨_, (true), rs, H', ⟨by first | omega | exact Nat.le_refl _⟩, ⟨kk BK937⟩, ⟨kk BK938⟩, ⟨bb HB⟩⟩
  rw [if_pos c6] at H
  have c6b0 : (a0_0 == a1_0) = true := beq_iff_eq.mpr c6
  have c6b1 : (a0_0 != a1_0) = false := bne_eq_false_iff_eq.mpr c6
  clear c6
  (first | rw [c6b0] | (simp only [i64_w, i32_w]; rw [c6b0]) | skip)
  by_cases c7 : (l0_1.length : Int) = (l1_1.length : Int)
  rotate_left
  ·rw [if_neg c7] at H
   have c7b0 : ((l0_1.length : Int) == (l1_1.length : Int)) = false := beq_eq_false_iff_ne.mpr c7
   have c7b1 : ((l0_1.length : Int) != (l1_1.length : Int)) = true := bne_iff_ne.mpr c7
   have c7b2 : (l0_1.length == l1_1.length) = false := by first | simpa using c7 | (simp at c7 ⊢; omega)
   have H' := Aside0.mk H
   clear H
   have hnb11 := NB937_938.out
   have hnc11 := NB938_937.out
   obtain ⟨hcz12_0, hcz12_1, hcz12_2, hfz12_0, hfz12_1, hfz12_2⟩ := cf3 BK937.out
   obtain ⟨hcz13_0, hcz13_1, hcz13_2, hfz13_0, hfz13_1, hfz13_2⟩ := cf3 BK938.out
   go_wp2
   repeat (go_quiet (fail); try go_wp2)
   go_meet
   case rel => exact ⟨_, (true), rs, H', ⟨by first | omega | exact Nat.le_refl _⟩, ⟨kk BK937⟩, ⟨kk BK938⟩, ⟨bb HB⟩⟩
  rw [if_pos c7] at H
  have c7b0 : ((l0_1.length : Int) == (l1_1.length : Int)) = true := beq_iff_eq.mpr c7
  have c7b1 : ((l0_1.length : Int) != (l1_1.length : Int)) = false := bne_eq_false_iff_eq.mpr c7
  have c7b2 : (l0_1.length == l1_1.length) = true := by first | simpa using c7 | (simp at c7 ⊢; omega)
  clear c7
  have H' := Aside0.mk H
  clear H
  have hnb8 := NB937_938.out
  have hnc8 := NB938_937.out
  obtain ⟨hcz9_0, hcz9_1, hcz9_2, hfz9_0, hfz9_1, hfz9_2⟩ := cf3 BK937.out
  obtain ⟨hcz10_0, hcz10_1, hcz10_2, hfz10_0, hfz10_1, hfz10_2⟩ := cf3 BK938.out
  go_wp2
  repeat (go_quiet (fail); try go_wp2)
  go_meet
  case rel => exact ⟨_, (((l0_2.length : Int) != (l1_2.length : Int))), rs, H', ⟨by first | omega | exact Nat.le_refl _⟩, ⟨kk BK937⟩, ⟨kk BK938⟩, ⟨bb HB⟩⟩
 case rest =>
  clear HC3
  try clear c1
  try clear p2
  try clear c6
  try clear c6b0
  try clear c6b1
  try clear c7
  try clear c7b0
  try clear c7b1
  try clear c7b2
  try clear c8
  try clear c11
  try clear c14
  try clear hcz10_0 hcz10_1 hcz10_2
  try clear hcz12_0 hcz12_1 hcz12_2
  try clear hcz13_0 hcz13_1 hcz13_2
  try clear hcz15_0 hcz15_1 hcz15_2
  try clear hcz16_0 hcz16_1 hcz16_2
  try clear hcz9_0 hcz9_1 hcz9_2
  try clear hfz10_0 hfz10_1 hfz10_2
  try clear hfz12_0 hfz12_1 hfz12_2
  try clear hfz13_0 hfz13_1 hfz13_2
  try clear hfz15_0 hfz15_1 hfz15_2
  try clear hfz16_0 hfz16_1 hfz16_2
  try clear hfz9_0 hfz9_1 hfz9_2
  obtain ⟨kq, x29_2, rfl, HA, HJ2, BK937, BK938, HB⟩ := hcut
  cases kq with
  | zero => exact absurd HA.out (by simp [r8_Same.j0])
  | succ kj2 =>
   have H := HA.out
   clear HA
   simp only [r8_Same.j0] at H
   by_cases c17 : x29_2 = true
   ·subst c17
    replace H := it H
    obtain rfl := Option.some.inj H
    go_wp2
    repeat (go_quiet (fail); try go_wp2)
    go_ret
    exact ⟨rr, bb HB⟩
   replace c17 := Bool.eq_false_iff.mpr c17
   subst c17
   replace H := fi H
   have H' := Aside0.mk H
   clear H
   go_wp2
   repeat (go_quiet (fail); try go_wp2)
   go_loopg [5] kj2 (fun kq v5 w' => ∃ (x5_2 : Int), v5 = .int .i64 x5_2 ∧ Aside0 (r8_Same.l0 kq x5_2 a0_0 l0_1 l0_2 a1_0 l1_1 l1_2 = some r) ∧ Aside0 (kq ≤ kj2) ∧ Aside0 (w'.heap[gb937]? = some (.cells #[.int .i64 a0_0, (.slice A0_1 l0_1.length c0_1), (.slice A0_2 l0_2.length c0_2)] 31 (0, 0))) ∧ Aside0 (w'.heap[gb938]? = some (.cells #[.int .i64 a1_0, (.slice A1_1 l1_1.length c1_1), (.slice A1_2 l1_2.length c1_2)] 31 (0, 0))) ∧ Aside0 (Below w.heap.size w w'))
   case atStart => exact ⟨(0), rs, H', ⟨Nat.le_refl _⟩, ⟨kk BK937⟩, ⟨kk BK938⟩, ⟨bb HB⟩⟩
   case round =>
    clear H'
    try clear c1
    try clear p2
    try clear c6
    try clear c6b0
    try clear c6b1
    try clear c7
    try clear c7b0
    try clear c7b1
    try clear c7b2
    try clear c8
    try clear c11
    try clear c14
    try clear c17
    try clear hcz10_0 hcz10_1 hcz10_2
    try clear hcz12_0 hcz12_1 hcz12_2
    try clear hcz13_0 hcz13_1 hcz13_2
    try clear hcz15_0 hcz15_1 hcz15_2
    try clear hcz16_0 hcz16_1 hcz16_2
    try clear hcz9_0 hcz9_1 hcz9_2
    try clear hfz10_0 hfz10_1 hfz10_2
    try clear hfz12_0 hfz12_1 hfz12_2
    try clear hfz13_0 hfz13_1 hfz13_2
    try clear hfz15_0 hfz15_1 hfz15_2
    try clear hfz16_0 hfz16_1 hfz16_2
    try clear hfz9_0 hfz9_1 hfz9_2
    try clear p2
    obtain ⟨x5_2, rfl, HA, HK2, BK937, BK938, HB⟩ := hrel
    cases gk with
    | zero => exact absurd HA.out (by simp [r8_Same.l0])
    | succ k2 =>
     have H := HA.out
     clear HA
     simp only [r8_Same.l0] at H
     by_cases c18 : x5_2 < (l0_1.length : Int)
     ·rw [if_pos c18] at H
      have c18b0 : decide (x5_2 < (l0_1.length : Int)) = true := decide_eq_true c18
      clear c18
      by_cases c19 : 0 ≤ x5_2
      rotate_left
      ·rw [if_neg c19] at H
       exact absurd H (by simp)
      rw [if_pos c19] at H
      have c19b0 : decide (0 ≤ x5_2) = true := decide_eq_true c19
      clear c19
      by_cases c20 : x5_2 < (l1_1.length : Int)
      rotate_left
      ·rw [if_neg c20] at H
       exact absurd H (by simp)
      rw [if_pos c20] at H
      have c20b0 : decide (x5_2 < (l1_1.length : Int)) = true := decide_eq_true c20
      clear c20
      by_cases c21 : (!((((rd_T42 l0_1 x5_2).f0).toList) == (((rd_T42 l1_1 x5_2).f0).toList)) || (!(((rd_T42 l0_1 x5_2).f1) == ((rd_T42 l1_1 x5_2).f1)) || (!(((rd_T42 l0_1 x5_2).f2) == ((rd_T42 l1_1 x5_2).f2))))) = true
      ·rw [if_pos c21] at H
       have c21b0 : (!((((rd_T42 l0_1 x5_2).f0).toList) == (((rd_T42 l1_1 x5_2).f0).toList)) || (!(((rd_T42 l0_1 x5_2).f1) == ((rd_T42 l1_1 x5_2).f1)) || (!(((rd_T42 l0_1 x5_2).f2) == ((rd_T42 l1_1 x5_2).f2))))) = true := c21
       clear c21
       obtain rfl := Option.some.inj H
       have hnb22 := NB937_938.out
       have hnc22 := NB938_937.out
       obtain ⟨hcz23_0, hcz23_1, hcz23_2, hfz23_0, hfz23_1, hfz23_2⟩ := cf3 BK937.out
       have p939 : 0 ≤ (x5_2 : Int) := od
       have q939 : x5_2 < (l0_1.length : Int) := od
       obtain ⟨ad939, e939, hx939_0, hx939_1, hx939_2⟩ := at_T42 HR0_1.out x5_2 p939 q939
       cases e939
       replace hx939_0 := bcell HB.out hx939_0
       replace hx939_1 := bcell HB.out hx939_1
       replace hx939_2 := bcell HB.out hx939_2
       replace p939 := eq_true p939
       replace q939 := eq_true q939
       obtain ⟨hcz24_0, hcz24_1, hcz24_2, hfz24_0, hfz24_1, hfz24_2⟩ := cf3 BK938.out
       have p940 : 0 ≤ (x5_2 : Int) := od
       have q940 : x5_2 < (l1_1.length : Int) := od
       obtain ⟨ad940, e940, hx940_0, hx940_1, hx940_2⟩ := at_T42 HR1_1.out x5_2 p940 q940
       cases e940
       replace hx940_0 := bcell HB.out hx940_0
       replace hx940_1 := bcell HB.out hx940_1
       replace hx940_2 := bcell HB.out hx940_2
       replace p940 := eq_true p940
       replace q940 := eq_true q940
       go_wp2
       repeat (go_quiet (fail); try go_wp2)
       go_ret
       exact ⟨rr, bb HB⟩
      rw [if_neg c21] at H
      have c21b0 : (!((((rd_T42 l0_1 x5_2).f0).toList) == (((rd_T42 l1_1 x5_2).f0).toList)) || (!(((rd_T42 l0_1 x5_2).f1) == ((rd_T42 l1_1 x5_2).f1)) || (!(((rd_T42 l0_1 x5_2).f2) == ((rd_T42 l1_1 x5_2).f2))))) = false := by simpa using c21
      clear c21
      have H' := Aside0.mk H
      clear H
      have hnb25 := NB937_938.out
      have hnc25 := NB938_937.out
      obtain ⟨hcz26_0, hcz26_1, hcz26_2, hfz26_0, hfz26_1, hfz26_2⟩ := cf3 BK937.out
      have p939 : 0 ≤ (x5_2 : Int) := od
      have q939 : x5_2 < (l0_1.length : Int) := od
      obtain ⟨ad939, e939, hx939_0, hx939_1, hx939_2⟩ := at_T42 HR0_1.out x5_2 p939 q939
      cases e939
      replace hx939_0 := bcell HB.out hx939_0
      replace hx939_1 := bcell HB.out hx939_1
      replace hx939_2 := bcell HB.out hx939_2
      replace p939 := eq_true p939
      replace q939 := eq_true q939
      obtain ⟨hcz27_0, hcz27_1, hcz27_2, hfz27_0, hfz27_1, hfz27_2⟩ := cf3 BK938.out
      have p940 : 0 ≤ (x5_2 : Int) := od
      have q940 : x5_2 < (l1_1.length : Int) := od
      obtain ⟨ad940, e940, hx940_0, hx940_1, hx940_2⟩ := at_T42 HR1_1.out x5_2 p940 q940
      cases e940
      replace hx940_0 := bcell HB.out hx940_0
      replace hx940_1 := bcell HB.out hx940_1
      replace hx940_2 := bcell HB.out hx940_2
      replace p940 := eq_true p940
      replace q940 := eq_true q940
      go_wp2
      repeat (go_quiet (fail); try go_wp2)
      go_roundg k2
      case measure => have := HJ2.out; have := HK2.out; omega
      case rel => exact ⟨(wrap64 (x5_2 + 1)), rs, H', ⟨by have := HJ2.out; have := HK2.out; omega⟩, ⟨kk BK937⟩, ⟨kk BK938⟩, ⟨bb HB⟩⟩
     rw [if_neg c18] at H
     have c18b0 : decide (x5_2 < (l0_1.length : Int)) = false := decide_eq_false c18
     clear c18
     have H' := Aside0.mk H
     clear H
     have hnb28 := NB937_938.out
     have hnc28 := NB938_937.out
     obtain ⟨hcz29_0, hcz29_1, hcz29_2, hfz29_0, hfz29_1, hfz29_2⟩ := cf3 BK937.out
     go_wp2
     repeat (go_quiet (fail); try go_wp2)
     go_loopg [6] k2 (fun kq v6 w' => ∃ (x6_3 : Int), v6 = .int .i64 x6_3 ∧ Aside0 (r8_Same.l1 kq x6_3 a0_0 l0_1 l0_2 a1_0 l1_1 l1_2 = some r) ∧ Aside0 (kq ≤ k2) ∧ Aside0 (w'.heap[gb937]? = some (.cells #[.int .i64 a0_0, (.slice A0_1 l0_1.length c0_1), (.slice A0_2 l0_2.length c0_2)] 31 (0, 0))) ∧ Aside0 (w'.heap[gb938]? = some (.cells #[.int .i64 a1_0, (.slice A1_1 l1_1.length c1_1), (.slice A1_2 l1_2.length c1_2)] 31 (0, 0))) ∧ Aside0 (Below w.heap.size w w'))
     case atStart => exact ⟨(0), rs, H', ⟨Nat.le_refl _⟩, ⟨kk BK937⟩, ⟨kk BK938⟩, ⟨bb HB⟩⟩
     case round =>
      clear H'
      try clear c1
      try clear c2
      try clear p2
      try clear c6
      try clear c6b0
      try clear c6b1
      try clear p6
      try clear c7
      try clear c7b0
      try clear c7b1
      try clear c7b2
      try clear c8
      try clear p9
      try clear q9
      try clear hx9
      try clear c11
      try clear c14
      try clear c17
      try clear c18
      try clear c18b0
      try clear c19
      try clear c19b0
      try clear c20
      try clear c20b0
      try clear c21
      try clear c21b0
      try clear c22
      try clear c25
      try clear c28
      try clear hcz10_0 hcz10_1 hcz10_2
      try clear hcz12_0 hcz12_1 hcz12_2
      try clear hcz13_0 hcz13_1 hcz13_2
      try clear hcz15_0 hcz15_1 hcz15_2
      try clear hcz16_0 hcz16_1 hcz16_2
      try clear hcz23_0 hcz23_1 hcz23_2
      try clear hcz24_0 hcz24_1 hcz24_2
      try clear hcz26_0 hcz26_1 hcz26_2
      try clear hcz27_0 hcz27_1 hcz27_2
      try clear hcz29_0 hcz29_1 hcz29_2
      try clear hcz9_0 hcz9_1 hcz9_2
      try clear hfz10_0 hfz10_1 hfz10_2
      try clear hfz12_0 hfz12_1 hfz12_2
      try clear hfz13_0 hfz13_1 hfz13_2
      try clear hfz15_0 hfz15_1 hfz15_2
      try clear hfz16_0 hfz16_1 hfz16_2
      try clear hfz23_0 hfz23_1 hfz23_2
      try clear hfz24_0 hfz24_1 hfz24_2
      try clear hfz26_0 hfz26_1 hfz26_2
      try clear hfz27_0 hfz27_1 hfz27_2
      try clear hfz29_0 hfz29_1 hfz29_2
      try clear hfz9_0 hfz9_1 hfz9_2
      try clear hx939_0
      try clear hx939_1
      try clear hx939_2
      try clear hx940_0
      try clear hx940_1
      try clear hx940_2
      try clear p2
      try clear p939
      try clear p940
      try clear q939
      try clear q940
      obtain ⟨x6_3, rfl, HA, HK3, BK937, BK938, HB⟩ := hrel
      cases gk with
      | zero => exact absurd HA.out (by simp [r8_Same.l1])
      | succ k3 =>
       have H := HA.out
       clear HA
       simp only [r8_Same.l1] at H
       by_cases c30 : x6_3 < (l0_2.length : Int)
       rotate_left
       ·rw [if_neg c30] at H
        have c30b0 : decide (x6_3 < (l0_2.length : Int)) = false := decide_eq_false c30
        clear c30
        obtain rfl := Option.some.inj H
        have hnb40 := NB937_938.out
        have hnc40 := NB938_937.out
        obtain ⟨hcz41_0, hcz41_1, hcz41_2, hfz41_0, hfz41_1, hfz41_2⟩ := cf3 BK937.out
        go_wp2
        repeat (go_quiet (fail); try go_wp2)
        go_ret
        exact ⟨rr, bb HB⟩
       rw [if_pos c30] at H
       have c30b0 : decide (x6_3 < (l0_2.length : Int)) = true := decide_eq_true c30
       clear c30
       by_cases c31 : 0 ≤ x6_3
       rotate_left
       ·rw [if_neg c31] at H
        exact absurd H (by simp)
       rw [if_pos c31] at H
       have c31b0 : decide (0 ≤ x6_3) = true := decide_eq_true c31
       clear c31
       by_cases c32 : x6_3 < (l1_2.length : Int)
       rotate_left
       ·rw [if_neg c32] at H
        exact absurd H (by simp)
       rw [if_pos c32] at H
       have c32b0 : decide (x6_3 < (l1_2.length : Int)) = true := decide_eq_true c32
       clear c32
       by_cases c33 : (!(((rd_T40 l0_2 x6_3).f0) == ((rd_T40 l1_2 x6_3).f0)) || (!(((rd_T40 l0_2 x6_3).f1) == ((rd_T40 l1_2 x6_3).f1)) || (!(((rd_T40 l0_2 x6_3).f2) == ((rd_T40 l1_2 x6_3).f2)) || (!(((rd_T40 l0_2 x6_3).f3) == ((rd_T40 l1_2 x6_3).f3)) || (!(((rd_T40 l0_2 x6_3).f4) == ((rd_T40 l1_2 x6_3).f4))))))) = true
       ·rw [if_pos c33] at H
        have c33b0 : (!(((rd_T40 l0_2 x6_3).f0) == ((rd_T40 l1_2 x6_3).f0)) || (!(((rd_T40 l0_2 x6_3).f1) == ((rd_T40 l1_2 x6_3).f1)) || (!(((rd_T40 l0_2 x6_3).f2) == ((rd_T40 l1_2 x6_3).f2)) || (!(((rd_T40 l0_2 x6_3).f3) == ((rd_T40 l1_2 x6_3).f3)) || (!(((rd_T40 l0_2 x6_3).f4) == ((rd_T40 l1_2 x6_3).f4))))))) = true := c33
        clear c33
        obtain rfl := Option.some.inj H
        have hnb34 := NB937_938.out
        have hnc34 := NB938_937.out
        obtain ⟨hcz35_0, hcz35_1, hcz35_2, hfz35_0, hfz35_1, hfz35_2⟩ := cf3 BK937.out
        have p941 : 0 ≤ (x6_3 : Int) := od
        have q941 : x6_3 < (l0_2.length : Int) := od
        obtain ⟨ad941, e941, hx941_0, hx941_1, hx941_2, hx941_3, hx941_4⟩ := at_T40 HR0_2.out x6_3 p941 q941
        cases e941
        replace hx941_0 := bcell HB.out hx941_0
        replace hx941_1 := bcell HB.out hx941_1
        replace hx941_2 := bcell HB.out hx941_2
        replace hx941_3 := bcell HB.out hx941_3
        replace hx941_4 := bcell HB.out hx941_4
        replace p941 := eq_true p941
        replace q941 := eq_true q941
        obtain ⟨hcz36_0, hcz36_1, hcz36_2, hfz36_0, hfz36_1, hfz36_2⟩ := cf3 BK938.out
        have p942 : 0 ≤ (x6_3 : Int) := od
        have q942 : x6_3 < (l1_2.length : Int) := od
        obtain ⟨ad942, e942, hx942_0, hx942_1, hx942_2, hx942_3, hx942_4⟩ := at_T40 HR1_2.out x6_3 p942 q942
        cases e942
        replace hx942_0 := bcell HB.out hx942_0
        replace hx942_1 := bcell HB.out hx942_1
        replace hx942_2 := bcell HB.out hx942_2
        replace hx942_3 := bcell HB.out hx942_3
        replace hx942_4 := bcell HB.out hx942_4
        replace p942 := eq_true p942
        replace q942 := eq_true q942
        go_wp2
        repeat (go_quiet (fail); try go_wp2)
        go_ret
        exact ⟨rr, bb HB⟩
       rw [if_neg c33] at H
       have c33b0 : (!(((rd_T40 l0_2 x6_3).f0) == ((rd_T40 l1_2 x6_3).f0)) || (!(((rd_T40 l0_2 x6_3).f1) == ((rd_T40 l1_2 x6_3).f1)) || (!(((rd_T40 l0_2 x6_3).f2) == ((rd_T40 l1_2 x6_3).f2)) || (!(((rd_T40 l0_2 x6_3).f3) == ((rd_T40 l1_2 x6_3).f3)) || (!(((rd_T40 l0_2 x6_3).f4) == ((rd_T40 l1_2 x6_3).f4))))))) = false := by simpa using c33
       clear c33
       have H' := Aside0.mk H
       clear H
       have hnb37 := NB937_938.out
       have hnc37 := NB938_937.out
       obtain ⟨hcz38_0, hcz38_1, hcz38_2, hfz38_0, hfz38_1, hfz38_2⟩ := cf3 BK937.out
       have p941 : 0 ≤ (x6_3 : Int) := od
       have q941 : x6_3 < (l0_2.length : Int) := od
       obtain ⟨ad941, e941, hx941_0, hx941_1, hx941_2, hx941_3, hx941_4⟩ := at_T40 HR0_2.out x6_3 p941 q941
       cases e941
       replace hx941_0 := bcell HB.out hx941_0
       replace hx941_1 := bcell HB.out hx941_1
       replace hx941_2 := bcell HB.out hx941_2
       replace hx941_3 := bcell HB.out hx941_3
       replace hx941_4 := bcell HB.out hx941_4
       replace p941 := eq_true p941
       replace q941 := eq_true q941
       obtain ⟨hcz39_0, hcz39_1, hcz39_2, hfz39_0, hfz39_1, hfz39_2⟩ := cf3 BK938.out
       have p942 : 0 ≤ (x6_3 : Int) := od
       have q942 : x6_3 < (l1_2.length : Int) := od
       obtain ⟨ad942, e942, hx942_0, hx942_1, hx942_2, hx942_3, hx942_4⟩ := at_T40 HR1_2.out x6_3 p942 q942
       cases e942
       replace hx942_0 := bcell HB.out hx942_0
       replace hx942_1 := bcell HB.out hx942_1
       replace hx942_2 := bcell HB.out hx942_2
       replace hx942_3 := bcell HB.out hx942_3
       replace hx942_4 := bcell HB.out hx942_4
       replace p942 := eq_true p942
       replace q942 := eq_true q942
       go_wp2
       repeat (go_quiet (fail); try go_wp2)
       go_roundg k3
       case measure => have := HJ2.out; have := HK2.out; have := HK3.out; omega
       case rel => exact ⟨(wrap64 (x6_3 + 1)), rs, H', ⟨by have := HJ2.out; have := HK2.out; have := HK3.out; omega⟩, ⟨kk BK937⟩, ⟨kk BK938⟩, ⟨bb HB⟩⟩
end Go.Proofs.Ytnlekgadadifdaa.Print
namespace Go.Proofs.Ytnlekgadadifdaa.Print
open Go.RowKit Go.Proofs.YtnlekgadadifdaaW.PrintWords Go.Proofs.YtnlekgadadifdaaW.PrintLast Go.Proofs.YtnlekgadadifdaaW.PrintMore
attribute [local go_sem] max2_int min2_int max_two min_two max_three min_three max_four min_four
set_option linter.unusedVariables false
set_option linter.unusedSimpArgs false
open Go.RowKit
theorem own_sized (W : World) (p : Addr) (v : Value) (hp : p.spot = none) : ∀ (b : Nat) (t : TypeId) (cur : Array Value), W.heap[b]? = some (.cells cur t (0, 0)) → ∃ cur' : Array Value, (W.setCell p v).heap[b]? = some (.cells cur' t (0, 0)) ∧ cur'.size = cur.size := by
  intro b t cur h
  by_cases e : b = p.block
  · obtain ⟨pb, po, pp⟩ := p
    simp only at hp e
    subst hp
    subst e
    exact ⟨_, blk_set h po v, by simp⟩
  · exact ⟨cur, (Below.heap_setCell _ _ _ _ e).trans h, rfl⟩
theorem own_cell {W : World} {b : Nat} {t : TypeId} {cur : Array Value} (h : W.heap[b]? = some (.cells cur t (0, 0))) {i : Nat} (hi : i < cur.size) : ∃ v, W.cell? ⟨b, i, none⟩ = some v := ⟨cur[i], (blk_cell h i).trans (Array.getElem?_eq_getElem hi)⟩
theorem own_row {α : Type} {d : Kd α} {e : Nat} {W : World} {B : Nat} {ok : Nat → Prop} {A : Option Addr} {n c : Nat} {xs : List α} {sz : Nat} (h : d.R e W B ok (.slice A n c) xs) (hs : d.sz = sz) : n ≤ 9223372036854775807 ∧ (0 < n → ∃ (b : Nat) (cur : Array Value), A = some ⟨b, 0, none⟩ ∧ B ≤ b ∧ b < W.heap.size ∧ W.heap[b]? = some (.cells cur e (0, 0)) ∧ n * sz ≤ cur.size) := by
  have hlt := Kd.R_lt h
  obtain ⟨h0, inner, ⟨_, ho⟩, _⟩ := h
  rcases ho with ⟨hv, _⟩ | ⟨b, cap, cur, hv, h1, h2, h3, h4, h5, _⟩
  · injection hv with e1 e2 e3
    subst e2
    exact ⟨Nat.zero_le _, fun hn => absurd hn (by omega)⟩
  · injection hv with e1 e2 e3
    subst e1
    subst e2
    subst e3
    have hb := hlt b (by simp [Value.ownBlock])
    unfold maxLen at h4
    refine ⟨by omega, fun _ => ⟨b, cur, rfl, h1, hb, h2, ?_⟩⟩
    rw [h5, hs]
    exact Nat.mul_le_mul h3 (Nat.le_refl _)
theorem own_at {α : Type} {d : Kd α} {e : Nat} {W Z : World} {B q : Nat} {ok : Nat → Prop} {A : Option Addr} {n c : Nat} {xs : List α} {sz : Nat} {cq : Array Value} {tq : TypeId} (h : d.R e W B ok (.slice A n c) xs) (hs : d.sz = sz) (hq : W.heap[q]? = some (.cells cq tq (0, 0))) (hne : e ≠ tq) (hb : Below W.heap.size W Z) :
    n ≤ 9223372036854775807 ∧ ∃ b, (0 < n → A = some ⟨b, 0, none⟩) ∧ (0 < n → B ≤ b ∧ b < W.heap.size ∧ b ≠ q ∧ ∃ cur : Array Value, Z.heap[b]? = some (.cells cur e (0, 0)) ∧ n * sz ≤ cur.size) := by
  obtain ⟨h1, h2⟩ := own_row h hs
  by_cases h0 : 0 < n
  · obtain ⟨b, cur, e1, e2, e3, e4, e5⟩ := h2 h0
    refine ⟨h1, b, fun _ => e1, fun _ => ⟨e2, e3, ?_, cur, blk_below e4 hb, e5⟩⟩
    rintro rfl
    rw [hq] at e4
    injection e4 with e4
    injection e4 with _ e4
    exact hne e4.symm
  · exact ⟨h1, 0, fun h => absurd h h0, fun h => absurd h h0⟩
def Sx (Z : World) (B M q : Nat) (X : World) : Prop := (∀ k, (k < B ∨ M ≤ k ∨ k = q) → X.heap[k]? = Z.heap[k]?) ∧ (∀ (b : Nat) (t : TypeId) (cur : Array Value), Z.heap[b]? = some (.cells cur t (0, 0)) → ∃ cur' : Array Value, X.heap[b]? = some (.cells cur' t (0, 0)) ∧ cur'.size = cur.size) ∧ Below B Z X
theorem Sx.refl (Z : World) (B M q : Nat) : Sx Z B M q Z := ⟨fun _ _ => rfl, fun b t cur h => ⟨cur, h, rfl⟩, Below.refl _ _⟩
theorem Sx.set {Z X : World} {B M q b : Nat} (h : Sx Z B M q X) (hB : B ≤ b) (hM : b < M) (hq : b ≠ q) (i : Nat) (v : Value) : Sx Z B M q (X.setCell ⟨b, i, none⟩ v) := by
  obtain ⟨h1, h2, h3⟩ := h
  have hm := own_sized X ⟨b, i, none⟩ v rfl
  refine ⟨fun k hk => (Below.heap_setCell _ _ _ _ (by show k ≠ b; omega)).trans (h1 k hk), fun b' t cur hc => ?_, h3.trans ((Below.refl _ _).setCell hB _)⟩
  obtain ⟨cur', q1, q2⟩ := h2 b' t cur hc
  obtain ⟨cur2, q3, q4⟩ := hm b' t cur' q1
  exact ⟨cur2, q3, q4.trans q2⟩
theorem cmpOut_ok (a0 : Int) (l1 : List S42) (l2 : List S57) : cmpOut 0 a0 l1 l2 = (a0, l1, codeOf l2, 0) := by rw [cmpOut, if_pos rfl]
theorem plOut_ok (l2 : List S57) : plOut 0 l2 = (plSs l2 0, 0) := by rw [plOut, if_pos rfl]
theorem infoInsO : (Try.prog.info? 40).map (fun i => (i.zero, i.size, i.bytes)) = some (some (.agg #[.int .i64 0, .int .i64 0, .int .i64 0, .int .i64 0, .int .i64 0]), 5, 40) := by kernel_rfl
def OwnOk (k : Nat) (a0 : Int) (l1 : List S42) (l2 : List S57) : Prop := r3_Copy.f k a0 l1 l2 = some (a0, l1, l2) ∧ prog_Check.f k a0 l1 l2 = some 0 ∧ (okSs l2 ∧ nSs l2 < 900000 ∧ kSs l2 < 900000) ∧ l1.length < 1000000 ∧ (codeOf l2).length < 1000000 ∧ r1_Copy.f k (plSs l2 0) = some (plSs l2 0) ∧
  r3_Same.f k a0 l1 l2 a0 l1 l2 = some true ∧ r8_Same.f k a0 l1 (codeOf l2) a0 l1 (codeOf l2) = some true ∧ r1_Same.f k (plSs l2 0) (plSs l2 0) = some true
theorem own_cmp {k : Nat} {w : World} {a0 : Int} {l1 : List S42} {l2 : List S57} (H : OwnOk k a0 l1 l2) {A1 A2 : Option Addr} {n1 n2 : Nat} (h1 : Kd.C k42 w A1 l1.length l1) (hn1 : l1.length ≤ n1) (h2 : Kd.C k57 w A2 l2.length l2) (hn2 : l2.length ≤ n2) :
    Calls Try.prog 7 #[.agg #[.int .i64 a0, .slice A1 l1.length n1, .slice A2 l2.length n2]] w fun e w' => ∃ D1 d1 D2 d2, e = .returned (.tuple #[.agg #[.int .i64 a0, .slice D1 l1.length d1, .slice D2 (codeOf l2).length d2], .int .i64 0]) ∧ Kd.R k42 42 w' w.heap.size (fun _ => True) (.slice D1 l1.length d1) l1 ∧ Kd.R k40 40 w' w.heap.size (fun _ => True) (.slice D2 (codeOf l2).length d2) (codeOf l2) ∧ Below w.heap.size w w' := by
  refine (comp_Compile.calls k a0 A1 n1 l1 A2 n2 l2 0 w h1 hn1 h2 hn2 H.2.1 (fun _ => H.2.2.1) (fun _ => H.2.2.2.1)).mono ?_
  rintro e w' ⟨v1, v2, rfl, r1, r2, hb⟩
  rw [cmpOut_ok] at r1 r2 ⊢
  obtain ⟨D1, d1, rfl⟩ := Kd.R_slice r1
  obtain ⟨D2, d2, rfl⟩ := Kd.R_slice r2
  exact ⟨D1, d1, D2, d2, rfl, r1, r2, hb⟩
theorem own_pls {k : Nat} {w : World} {a0 : Int} {l1 : List S42} {l2 : List S57} (H : OwnOk k a0 l1 l2) {A1 A2 : Option Addr} {n1 n2 : Nat} (h1 : Kd.C k42 w A1 l1.length l1) (hn1 : l1.length ≤ n1) (h2 : Kd.C k57 w A2 l2.length l2) (hn2 : l2.length ≤ n2) :
    Calls Try.prog 8 #[.agg #[.int .i64 a0, .slice A1 l1.length n1, .slice A2 l2.length n2]] w fun e w' => ∃ D1 d1, e = .returned (.tuple #[.slice D1 (plSs l2 0).length d1, .int .i64 0]) ∧ Kd.R (Kd.int .i64) 3 w' w.heap.size (fun _ => True) (.slice D1 (plSs l2 0).length d1) (plSs l2 0) ∧ Below w.heap.size w w' := by
  refine (comp_Places.calls k a0 A1 n1 l1 A2 n2 l2 0 w h1 hn1 h2 hn2 H.2.1 (fun _ => H.2.2.1)).mono ?_
  rintro e w' ⟨v1, rfl, r1, hb⟩
  rw [plOut_ok] at r1 ⊢
  obtain ⟨D1, d1, rfl⟩ := Kd.R_slice r1
  exact ⟨D1, d1, rfl, r1, hb⟩
theorem compOwn.walk (k : Nat) (a0 : Int) (A1 : Option Addr) (c1 : Nat) (l1 : List S42) (A2 : Option Addr) (c2 : Nat) (l2 : List S57) (b : Bool) (w : World) (hr1 : Kd.C k42 w A1 l1.length l1) (hc1 : l1.length ≤ c1) (hr2 : Kd.C k57 w A2 l2.length l2) (hc2 : l2.length ≤ c2)
    (hIs : r3_Is.f k a0 l1 l2 = some b) (hb : b = true → OwnOk k a0 l1 l2) :
    Calls Try.prog 3 #[.agg #[.int .i64 a0, .slice A1 l1.length c1, .slice A2 l2.length c2]] w fun e w' => e = .returned (.bool true) ∧ Below w.heap.size w w' := by
  have huP := Try.underlying25
  have huV := Try.underlying42
  have huC := Try.underlying31
  have huI := Try.underlying40
  have huX := Try.underlying29
  have huY := Try.underlying22
  have huZ := Try.underlying35
  have HR1 := Aside0.mk hr1
  have HC1 := Aside0.mk hc1
  have HR2 := Aside0.mk hr2
  have HC2 := Aside0.mk hc2
  have HI := Aside0.mk hIs
  have B1 := Aside0.mk (bal (Below.refl w.heap.size w) (.cells #[.int .i64 a0, .slice A1 l1.length c1, .slice A2 l2.length c2] 25))
  have P1 := Aside0.mk (blk_new w (.cells #[.int .i64 a0, .slice A1 l1.length c1, .slice A2 l2.length c2] 25))
  clear hr1 hc1 hr2 hc2 hIs
  go_enter Try.func3, Try.ntmps3
  go_upto_region 1 with (fail)
  generalize w.alloc (.cells #[.int .i64 a0, .slice A1 l1.length c1, .slice A2 l2.length c2] 25) = W1 at B1 P1 ⊢
  have p0 : W1.cell? ⟨w.heap.size, 0, none⟩ = some (.int .i64 a0) := (blk_cell P1.out 0).trans rfl
  have p1 : W1.cell? ⟨w.heap.size, 1, none⟩ = some (.slice A1 l1.length c1) := (blk_cell P1.out 1).trans rfl
  have p2 : W1.cell? ⟨w.heap.size, 2, none⟩ = some (.slice A2 l2.length c2) := (blk_cell P1.out 2).trans rfl
  cases b with
  | false =>
    go_wp2_with (first | (go_at_call 4; refine (r3_Is.calls k a0 _ _ l1 _ _ l2 false W1 (Kd.C_below HR1.out B1.out) HC1.out (Kd.C_below HR2.out B1.out) HC2.out HI.out).mono ?_; rintro e W2 ⟨rfl, hb2⟩; have B2 := Aside0.mk (B1.out.trans (hb2.mono B1.out.size)); clear hb2) | (go_at_call 5; refine (awake.calls W2).mono ?_; rintro e W3 ⟨rfl, hb3⟩; have B3 := Aside0.mk (B2.out.trans (hb3.mono B2.out.size)); clear hb3))
    go_ret
    exact ⟨rfl, B3.out⟩
  | true =>
    have HK := Aside0.mk (hb rfl)
    clear hb
    go_upto_region 3 with (first | (go_at_call 4; refine (r3_Is.calls k a0 _ _ l1 _ _ l2 true W1 (Kd.C_below HR1.out B1.out) HC1.out (Kd.C_below HR2.out B1.out) HC2.out HI.out).mono ?_; rintro e W2 ⟨rfl, hb2⟩; have B2 := Aside0.mk (B1.out.trans (hb2.mono B1.out.size)); have P2 := Aside0.mk (blk_below P1.out hb2); clear hb2))
    clear p0 p1 p2 B1 P1
    have p0 : W2.cell? ⟨w.heap.size, 0, none⟩ = some (.int .i64 a0) := (blk_cell P2.out 0).trans rfl
    have p1 : W2.cell? ⟨w.heap.size, 1, none⟩ = some (.slice A1 l1.length c1) := (blk_cell P2.out 1).trans rfl
    have p2 : W2.cell? ⟨w.heap.size, 2, none⟩ = some (.slice A2 l2.length c2) := (blk_cell P2.out 2).trans rfl
    go_upto_region 4 with (first | (go_at_call 6; refine (r3_Copy.calls k a0 _ _ l1 _ _ l2 a0 l1 l2 W2 (Kd.C_below HR1.out B2.out) HC1.out (Kd.C_below HR2.out B2.out) HC2.out HK.out.1).mono ?_; rintro e W3 ⟨v1, v2, rfl, o1, o2, hb3⟩; obtain ⟨K1, q1, e1, el1, oc1⟩ := Kd.R_reads o1; obtain ⟨K2, q2, e2, el2, oc2⟩ := Kd.R_reads o2; subst e1 e2; have B3 := Aside0.mk (B2.out.trans (hb3.mono B2.out.size)); have P3 := Aside0.mk (blk_below P2.out hb3); have OL1 := Aside0.mk el1; have OC1 := Aside0.mk oc1; have OL2 := Aside0.mk el2; have OC2 := Aside0.mk oc2; clear hb3 o1 o2 el1 el2 oc1 oc2))
    have HLT := Aside0.mk (blk_lt P3.out)
    have b4 := bal B3.out (.cells #[.int .i64 a0, .slice K1 l1.length q1, .slice K2 l2.length q2] 25)
    have k4 := blk_new W3 (.cells #[.int .i64 a0, .slice K1 l1.length q1, .slice K2 l2.length q2] 25)
    have p4 := kal P3.out (.cells #[.int .i64 a0, .slice K1 l1.length q1, .slice K2 l2.length q2] 25)
    have c41 := Kd.C_below OC1.out (bal (Below.refl W3.heap.size W3) (.cells #[.int .i64 a0, .slice K1 l1.length q1, .slice K2 l2.length q2] 25))
    have c42 := Kd.C_below OC2.out (bal (Below.refl W3.heap.size W3) (.cells #[.int .i64 a0, .slice K1 l1.length q1, .slice K2 l2.length q2] 25))
    have hz4 : (W3.alloc (.cells #[.int .i64 a0, .slice K1 l1.length q1, .slice K2 l2.length q2] 25)).heap.size = W3.heap.size + 1 := by simp
    generalize W3.alloc (.cells #[.int .i64 a0, .slice K1 l1.length q1, .slice K2 l2.length q2] 25) = W4 at b4 k4 p4 c41 c42 hz4 ⊢
    obtain ⟨bK, hbK⟩ : ∃ x, W3.heap.size = x := ⟨_, rfl⟩
    have hlt := HLT.out
    rw [hbK] at k4 hz4 hlt
    simp only [hbK]
    have B4 := Aside0.mk b4
    have K4 := Aside0.mk k4
    have P4 := Aside0.mk p4
    have OC1 := Aside0.mk c41
    have OC2 := Aside0.mk c42
    have HZ4 := Aside0.mk hz4
    have HLT := Aside0.mk hlt
    clear b4 k4 p4 c41 c42 hz4 hlt hbK p0 p1 p2 B2 P2 B3 P3
    have p0 : W4.cell? ⟨w.heap.size, 0, none⟩ = some (.int .i64 a0) := (blk_cell P4.out 0).trans rfl
    have p1 : W4.cell? ⟨w.heap.size, 1, none⟩ = some (.slice A1 l1.length c1) := (blk_cell P4.out 1).trans rfl
    have p2 : W4.cell? ⟨w.heap.size, 2, none⟩ = some (.slice A2 l2.length c2) := (blk_cell P4.out 2).trans rfl
    go_upto_region 5 with (first | (go_at_call 7; refine (own_cmp HK.out (w := W4) (Kd.C_below HR1.out B4.out) HC1.out (Kd.C_below HR2.out B4.out) HC2.out).mono ?_; rintro e W5 ⟨D1, d1, D2, d2, rfl, r1, r2, hb⟩; have R1 := Aside0.mk r1; have R2 := Aside0.mk r2; have B5 := Aside0.mk hb; clear r1 r2 hb))
    have b6 := bal B5.out (.cells #[.int .i64 a0, .slice D1 l1.length d1, .slice D2 (codeOf l2).length d2] 31)
    have k6 := blk_new W5 (.cells #[.int .i64 a0, .slice D1 l1.length d1, .slice D2 (codeOf l2).length d2] 31)
    have r61 := Kd.R_below R1.out (bal (Below.refl W5.heap.size W5) (.cells #[.int .i64 a0, .slice D1 l1.length d1, .slice D2 (codeOf l2).length d2] 31))
    have r62 := Kd.R_below R2.out (bal (Below.refl W5.heap.size W5) (.cells #[.int .i64 a0, .slice D1 l1.length d1, .slice D2 (codeOf l2).length d2] 31))
    have hz6 : (W5.alloc (.cells #[.int .i64 a0, .slice D1 l1.length d1, .slice D2 (codeOf l2).length d2] 31)).heap.size = W5.heap.size + 1 := by simp
    generalize W5.alloc (.cells #[.int .i64 a0, .slice D1 l1.length d1, .slice D2 (codeOf l2).length d2] 31) = W6 at b6 k6 r61 r62 hz6 ⊢
    obtain ⟨bC, hbC⟩ : ∃ x, W5.heap.size = x := ⟨_, rfl⟩
    have hlt := B5.out.size
    rw [hbC] at k6 hz6 hlt
    simp only [hbC]
    have B6 := Aside0.mk b6
    have K6 := Aside0.mk k6
    have R1 := Aside0.mk r61
    have R2 := Aside0.mk r62
    have HZ6 := Aside0.mk hz6
    have HL6 := Aside0.mk hlt
    have P6 := Aside0.mk (blk_below P4.out b6)
    have A6 := Aside0.mk (B4.out.trans (b6.mono B4.out.size))
    clear b6 k6 r61 r62 hz6 hlt hbC B5 p0 p1 p2
    have p0 : W6.cell? ⟨w.heap.size, 0, none⟩ = some (.int .i64 a0) := (blk_cell P6.out 0).trans rfl
    have p1 : W6.cell? ⟨w.heap.size, 1, none⟩ = some (.slice A1 l1.length c1) := (blk_cell P6.out 1).trans rfl
    have p2 : W6.cell? ⟨w.heap.size, 2, none⟩ = some (.slice A2 l2.length c2) := (blk_cell P6.out 2).trans rfl
    go_upto_region 6 with (first | (go_at_call 8; refine (own_pls HK.out (w := W6) (Kd.C_below HR1.out A6.out) HC1.out (Kd.C_below HR2.out A6.out) HC2.out).mono ?_; rintro e W7 ⟨T, t, rfl, r3, hb⟩; have R3 := Aside0.mk r3; have B7 := Aside0.mk hb; clear r3 hb))
    have R1 := Aside0.mk (Kd.R_below R1.out B7.out)
    have R2 := Aside0.mk (Kd.R_below R2.out B7.out)
    have K7 := Aside0.mk (blk_below K6.out B7.out)
    have P7 := Aside0.mk (blk_below P6.out B7.out)
    have A7 := Aside0.mk (A6.out.trans (B7.out.mono A6.out.size))
    have F7 := Aside0.mk (B6.out.trans (B7.out.mono B6.out.size))
    have HS7 := Aside0.mk B7.out.size
    clear p0 p1 p2 K6 P6 A6 B6 B7
    go_upto_region 8 with (fail)
    have HC := Aside0.mk HK.out.2.2.2.2.1
    have o1 : Kd.R k40 40 (W7.alloc (.cells #[] 40)) W7.heap.size (fun _ => True) (.slice (some ⟨W7.heap.size, 0, none⟩) 0 0) [] := ⟨fun _ _ => trivial, [], World.ownsRow_lit W7 #[] 0 (Nat.le_refl _) (by decide) rfl, ⟨rfl, fun j x hj => by simp at hj⟩⟩
    have O1 := Aside0.mk o1
    have s1 := Kd.C_below (Kd.R_reads' R2.out).2.2 (bal (Below.refl W7.heap.size W7) (.cells #[] 40))
    have S1 := Aside0.mk s1
    have s3 := Kd.C_below (Kd.R_reads' R3.out).2.2 (bal (Below.refl W7.heap.size W7) (.cells #[] 40))
    have S3 := Aside0.mk s3
    clear o1 s1 s3
    have x2 : (W7.alloc (.cells #[] 40)).cell? ⟨bC, 2, none⟩ = some (.slice D2 (codeOf l2).length d2) := (blk_cell (kal K7.out (.cells #[] 40)) 2).trans rfl
    go_upto_region 9 with (first | ((with_reducible refine gate_builtin (b := .append) (xs := #[.tmp 37, .tmp 39]) rfl ?_); at_builtin; refine Kd.R_append_rows k40 (w0 := W7) W7.heap.size rfl (.tmp 37) (.tmp 39) 29 40 (.agg #[.int .i64 0, .int .i64 0, .int .i64 0, .int .i64 0, .int .i64 0]) 40 rfl huX infoInsO rfl (by decide) (by omega) _ [] (codeOf l2) _ _ _ (fun _ => True) (fun _ => False) rfl rfl O1.out S1.out (fun x cs hk => by obtain rfl := k40_open hk; exact k40_mkM _ _ _ _) (fun _ h => h.elim) (fun _ _ => trivial) (bal (Below.refl _ _) _) (by simp) (by have := HC.out; simp only [List.length_nil]; omega) ?_; intro v8 W8 r4 hb hg hat; have R4 := Aside0.mk r4; have B8 := Aside0.mk hb; clear r4 hb hg hat) | (go_at_call 9; refine (r1_Copy.calls k T t (plSs l2 0) (plSs l2 0) W8 (Kd.C_below (Kd.R_reads' R3.out).2.2 B8.out) (Kd.R_reads' R3.out).2.1 HK.out.2.2.2.2.2.1).mono ?_; rintro e W9 ⟨v9, rfl, r5, hb⟩; have R5 := Aside0.mk r5; have B9 := Aside0.mk hb; clear r5 hb))
    clear x2 O1 S1 S3
    have hb79 := B8.out.trans (B9.out.mono B8.out.size)
    obtain ⟨hm1, b1, ha1, hf1⟩ := own_at (sz := 3) R1.out rfl K7.out (by decide) hb79
    obtain ⟨hm2, b2, ha2, hf2⟩ := own_at (sz := 5) R2.out rfl K7.out (by decide) hb79
    obtain ⟨hm3, b3, ha3, hf3⟩ := own_at (sz := 1) R3.out rfl K7.out (by decide) hb79
    rw [HZ4.out] at hf1 hf2
    have hz47 : bK + 1 ≤ W6.heap.size := by have h1 := HZ4.out; have h2 := HL6.out; have h3 := HZ6.out; omega
    have HM1 := Aside0.mk hm1
    have HM2 := Aside0.mk hm2
    have HM3 := Aside0.mk hm3
    have HA1 := Aside0.mk ha1
    have HA2 := Aside0.mk ha2
    have HA3 := Aside0.mk ha3
    have HF1 := Aside0.mk hf1
    have HF2 := Aside0.mk hf2
    have HF3 := Aside0.mk hf3
    have HZ47 := Aside0.mk hz47
    have K9 := Aside0.mk (blk_below K7.out hb79)
    have P9 := Aside0.mk (blk_below P7.out hb79)
    have A9 := Aside0.mk (A7.out.trans (hb79.mono A7.out.size))
    have F9 := Aside0.mk (F7.out.trans (hb79.mono F7.out.size))
    have R4 := Aside0.mk (Kd.R_below R4.out B9.out)
    have R5 := Aside0.mk (Kd.R_lower R5.out B8.out.size)
    obtain ⟨I4, i4, e4⟩ := Kd.R_slice R4.out
    obtain ⟨I5, i5, e5⟩ := Kd.R_slice R5.out
    subst e4 e5
    have HS9 := Aside0.mk hb79.size
    have SW := Aside0.mk (Sx.refl W9 (bK + 1) W7.heap.size bC)
    clear hb79 hm1 hm2 hm3 ha1 ha2 ha3 hf1 hf2 hf3 hz47 B8 B9 K7 P7 A7 F7 R1 R2 R3
    have x2 : W9.cell? ⟨bC, 2, none⟩ = some (.slice D2 (codeOf l2).length d2) := (blk_cell K9.out 2).trans rfl
    go_wp2
    clear x2
    go_loopw [46] (fun i X => ∃ j : Nat, i = .int .i64 j ∧ j ≤ (codeOf l2).length ∧ Aside0 (Sx W9 (bK + 1) W7.heap.size bC X)) (fun i _ => (codeOf l2).length - (intOf i).toNat)
    case atStart => exact ⟨0, rfl, Nat.zero_le _, SW⟩
    case round =>
      clear SW
      obtain ⟨j, rfl, hj, OX⟩ := hrel
      have x2 : wr.cell? ⟨bC, 2, none⟩ = some (.slice D2 (codeOf l2).length d2) := (blk_cell ((OX.out.1 bC (.inr (.inr rfl))).trans K9.out) 2).trans rfl
      have x1 : wr.cell? ⟨bC, 1, none⟩ = some (.slice D1 l1.length d1) := (blk_cell ((OX.out.1 bC (.inr (.inr rfl))).trans K9.out) 1).trans rfl
      by_cases hlt : j < (codeOf l2).length
      · have hj0 : j < 9223372036854775807 := by have := HM2.out; omega
        have hlt' : ((j : Nat) : Int) < ((codeOf l2).length : Int) := by omega
        have he := HA2.out (by omega)
        subst he
        obtain ⟨hb1, hb2, hb3, cur0, hc0, hsz0⟩ := HF2.out (by omega)
        obtain ⟨cur, hcur, hsz⟩ := OX.out.2.1 _ _ _ hc0
        have hk1 : (j + 1) * 5 ≤ (codeOf l2).length * 5 := Nat.mul_le_mul hlt (Nat.le_refl _)
        obtain ⟨w0, g0⟩ := own_cell hcur (i := j * 5) (by omega)
        have f0 := blk_frozen hcur (j * 5)
        clear hcur hsz hk1 hsz0 hc0
        go_wp2
        exact ⟨⟨j + 1, by go_num, by omega, ⟨OX.out.set hb1 hb2 hb3 _ _⟩⟩, by simp [intOf]; omega⟩
      · have hge : ¬ ((j : Nat) : Int) < ((codeOf l2).length : Int) := by omega
        clear hlt hj
        go_wp2
        clear x1 x2 hge
        go_loopw [58] (fun i X => ∃ j : Nat, i = .int .i64 j ∧ j ≤ l1.length ∧ Aside0 (Sx W9 (bK + 1) W7.heap.size bC X)) (fun i _ => l1.length - (intOf i).toNat)
        case atStart => exact ⟨0, rfl, Nat.zero_le _, OX⟩
        case round =>
          clear OX
          obtain ⟨j, rfl, hj, OX⟩ := hrel
          by_cases hlt : j < l1.length
          · have x1 : wr.cell? ⟨bC, 1, none⟩ = some (.slice D1 l1.length d1) := (blk_cell ((OX.out.1 bC (.inr (.inr rfl))).trans K9.out) 1).trans rfl
            have hj0 : j < 9223372036854775807 := by have := HM1.out; omega
            have hlt' : ((j : Nat) : Int) < (l1.length : Int) := by omega
            have he := HA1.out (by omega)
            subst he
            obtain ⟨hb1, hb2, hb3, cur0, hc0, hsz0⟩ := HF1.out (by omega)
            obtain ⟨cur, hcur, hsz⟩ := OX.out.2.1 _ _ _ hc0
            have hk1 : (j + 1) * 3 ≤ l1.length * 3 := Nat.mul_le_mul hlt (Nat.le_refl _)
            obtain ⟨w0, g0⟩ := own_cell hcur (i := j * 3 + 2) (by omega)
            have f0 := blk_frozen hcur (j * 3 + 2)
            clear hcur hsz hk1 hsz0 hc0
            go_wp2
            exact ⟨⟨j + 1, by go_num, by omega, ⟨OX.out.set hb1 hb2 hb3 _ _⟩⟩, by simp [intOf]; omega⟩
          · have hge : ¬ ((j : Nat) : Int) < (l1.length : Int) := by omega
            clear hlt hj
            go_wp2
            clear hge
            go_loopw [69] (fun i X => ∃ j : Nat, i = .int .i64 j ∧ j ≤ (plSs l2 0).length ∧ Aside0 (Sx W9 (bK + 1) W7.heap.size bC X)) (fun i _ => (plSs l2 0).length - (intOf i).toNat)
            case atStart => exact ⟨0, rfl, Nat.zero_le _, OX⟩
            case round =>
              clear OX
              obtain ⟨j, rfl, hj, OX⟩ := hrel
              by_cases hlt : j < (plSs l2 0).length
              · have hj0 : j < 9223372036854775807 := by have := HM3.out; omega
                have hlt' : ((j : Nat) : Int) < ((plSs l2 0).length : Int) := by omega
                have he := HA3.out (by omega)
                subst he
                obtain ⟨hb1, hb2, hb3, cur0, hc0, hsz0⟩ := HF3.out (by omega)
                have hb1' : bK + 1 ≤ b3 := by have := HZ47.out; omega
                obtain ⟨cur, hcur, hsz⟩ := OX.out.2.1 _ _ _ hc0
                obtain ⟨w0, g0⟩ := own_cell hcur (i := j) (by omega)
                have f0 := blk_frozen hcur j
                clear hcur hsz hsz0 hc0
                go_wp2
                exact ⟨⟨j + 1, by go_num, by omega, ⟨OX.out.set hb1' hb2 hb3 _ _⟩⟩, by simp [intOf]; omega⟩
              · have hge : ¬ ((j : Nat) : Int) < ((plSs l2 0).length : Int) := by omega
                obtain ⟨X0, rfl⟩ : ∃ X0 : World, X0 = wr := ⟨_, rfl⟩
                obtain ⟨sx1, sx2, sx3⟩ := OX.out
                have AX := Aside0.mk (A9.out.trans (sx3.mono (by have := HLT.out; omega)))
                have FX := Aside0.mk (F9.out.trans (sx3.mono (by have := HZ4.out; omega)))
                have PX := Aside0.mk ((sx1 w.heap.size (.inl (by have := HLT.out; omega))).trans P9.out)
                have KX := Aside0.mk (blk_below K4.out FX.out)
                have R4X := Aside0.mk (Kd.R_step (Kd.R_mono (Kd.R_bound R4.out) (ok' := fun q => W7.heap.size ≤ q) (fun _ hk => hk.2.1)) (fun q hq _ => sx1 q (.inr (.inl hq))))
                have R5X := Aside0.mk (Kd.R_step (Kd.R_mono (Kd.R_bound R5.out) (ok' := fun q => W7.heap.size ≤ q) (fun _ hk => hk.2.1)) (fun q hq _ => sx1 q (.inr (.inl hq))))
                clear hlt hj sx1 sx2 sx3 OX
                have p0 : X0.cell? ⟨w.heap.size, 0, none⟩ = some (.int .i64 a0) := (blk_cell PX.out 0).trans rfl
                have p1 : X0.cell? ⟨w.heap.size, 1, none⟩ = some (.slice A1 l1.length c1) := (blk_cell PX.out 1).trans rfl
                have p2 : X0.cell? ⟨w.heap.size, 2, none⟩ = some (.slice A2 l2.length c2) := (blk_cell PX.out 2).trans rfl
                go_upto_region 25 with (first | (go_at_call 7; refine (own_cmp HK.out (w := X0) (Kd.C_below HR1.out AX.out) HC1.out (Kd.C_below HR2.out AX.out) HC2.out).mono ?_; rintro e Y1 ⟨D3, d3, D4, d4, rfl, r1, r2, hb⟩; have R1 := Aside0.mk r1; have R2 := Aside0.mk r2; have B1 := Aside0.mk hb; clear r1 r2 hb))
                have b2 := bal B1.out (.cells #[.int .i64 a0, .slice D3 l1.length d3, .slice D4 (codeOf l2).length d4] 31)
                have k2 := blk_new Y1 (.cells #[.int .i64 a0, .slice D3 l1.length d3, .slice D4 (codeOf l2).length d4] 31)
                have r21 := Kd.R_below R1.out (bal (Below.refl Y1.heap.size Y1) (.cells #[.int .i64 a0, .slice D3 l1.length d3, .slice D4 (codeOf l2).length d4] 31))
                have r22 := Kd.R_below R2.out (bal (Below.refl Y1.heap.size Y1) (.cells #[.int .i64 a0, .slice D3 l1.length d3, .slice D4 (codeOf l2).length d4] 31))
                generalize Y1.alloc (.cells #[.int .i64 a0, .slice D3 l1.length d3, .slice D4 (codeOf l2).length d4] 31) = Y2 at b2 k2 r21 r22 ⊢
                obtain ⟨bD, hbD⟩ : ∃ x, Y1.heap.size = x := ⟨_, rfl⟩
                rw [hbD] at k2
                simp only [hbD]
                have B2 := Aside0.mk b2
                have K2' := Aside0.mk k2
                have R1 := Aside0.mk r21
                have R2 := Aside0.mk r22
                have P2 := Aside0.mk (blk_below PX.out b2)
                have A2' := Aside0.mk (AX.out.trans (b2.mono AX.out.size))
                clear b2 k2 r21 r22 hbD B1 p0 p1 p2
                have p0 : Y2.cell? ⟨w.heap.size, 0, none⟩ = some (.int .i64 a0) := (blk_cell P2.out 0).trans rfl
                have p1 : Y2.cell? ⟨w.heap.size, 1, none⟩ = some (.slice A1 l1.length c1) := (blk_cell P2.out 1).trans rfl
                have p2 : Y2.cell? ⟨w.heap.size, 2, none⟩ = some (.slice A2 l2.length c2) := (blk_cell P2.out 2).trans rfl
                go_upto_region 26 with (first | (go_at_call 8; refine (own_pls HK.out (w := Y2) (Kd.C_below HR1.out A2'.out) HC1.out (Kd.C_below HR2.out A2'.out) HC2.out).mono ?_; rintro e Y3 ⟨T3, t3, rfl, r3, hb⟩; have R3 := Aside0.mk r3; have B3 := Aside0.mk hb; clear r3 hb))
                have R1 := Aside0.mk (Kd.R_below R1.out B3.out)
                have R2 := Aside0.mk (Kd.R_below R2.out B3.out)
                have D3B := Aside0.mk (blk_below K2'.out B3.out)
                have P3 := Aside0.mk (blk_below P2.out B3.out)
                have E3 := Aside0.mk (B2.out.trans (B3.out.mono B2.out.size))
                have A3 := Aside0.mk (AX.out.trans (E3.out.mono AX.out.size))
                have K3 := Aside0.mk (blk_below KX.out E3.out)
                have F3 := Aside0.mk (FX.out.trans (E3.out.mono FX.out.size))
                clear p0 p1 p2 B2 K2' P2 A2' B3
                have p0 : Y3.cell? ⟨w.heap.size, 0, none⟩ = some (.int .i64 a0) := (blk_cell P3.out 0).trans rfl
                have p1 : Y3.cell? ⟨w.heap.size, 1, none⟩ = some (.slice A1 l1.length c1) := (blk_cell P3.out 1).trans rfl
                have p2 : Y3.cell? ⟨w.heap.size, 2, none⟩ = some (.slice A2 l2.length c2) := (blk_cell P3.out 2).trans rfl
                have u0 : Y3.cell? ⟨bK, 0, none⟩ = some (.int .i64 a0) := (blk_cell K3.out 0).trans rfl
                have u1 : Y3.cell? ⟨bK, 1, none⟩ = some (.slice K1 l1.length q1) := (blk_cell K3.out 1).trans rfl
                have u2 : Y3.cell? ⟨bK, 2, none⟩ = some (.slice K2 l2.length q2) := (blk_cell K3.out 2).trans rfl
                go_wp2_with (first
                  | (go_at_call 10; refine (r3_Same.calls k a0 _ _ l1 _ _ l2 a0 _ _ l1 _ _ l2 true Y3 (Kd.C_below OC1.out F3.out) OL1.out (Kd.C_below OC2.out F3.out) OL2.out (Kd.C_below HR1.out A3.out) HC1.out (Kd.C_below HR2.out A3.out) HC2.out HK.out.2.2.2.2.2.2.1).mono ?_; rintro e Y4 ⟨rfl, hb⟩; have B4 := Aside0.mk hb; have P4 := Aside0.mk (blk_below P3.out hb); have D4B := Aside0.mk (blk_below D3B.out hb); clear p0 p1 p2 u0 u1 u2 hb; have p0 : Y4.cell? ⟨w.heap.size, 0, none⟩ = some (.int .i64 a0) := (blk_cell P4.out 0).trans rfl; have p1 : Y4.cell? ⟨w.heap.size, 1, none⟩ = some (.slice A1 l1.length c1) := (blk_cell P4.out 1).trans rfl; have p2 : Y4.cell? ⟨w.heap.size, 2, none⟩ = some (.slice A2 l2.length c2) := (blk_cell P4.out 2).trans rfl; have z0 : Y4.cell? ⟨bD, 0, none⟩ = some (.int .i64 a0) := (blk_cell D4B.out 0).trans rfl; have z1 : Y4.cell? ⟨bD, 1, none⟩ = some (.slice D3 l1.length d3) := (blk_cell D4B.out 1).trans rfl; have z2 : Y4.cell? ⟨bD, 2, none⟩ = some (.slice D4 (codeOf l2).length d4) := (blk_cell D4B.out 2).trans rfl)
                  | (go_at_call 11; refine (r8_Same.calls k a0 _ _ l1 _ _ (codeOf l2) a0 _ _ l1 _ _ (codeOf l2) true Y4 (Kd.C_below (Kd.R_reads' R1.out).2.2 B4.out) (Kd.R_reads' R1.out).2.1 (Kd.C_below (Kd.R_reads' R2.out).2.2 B4.out) (Kd.R_reads' R2.out).2.1 (Kd.C_below HR1.out (A3.out.trans (B4.out.mono A3.out.size))) HC1.out (Kd.C_below (Kd.R_reads' R4X.out).2.2 (E3.out.trans (B4.out.mono E3.out.size))) (Kd.R_reads' R4X.out).2.1 HK.out.2.2.2.2.2.2.2.1).mono ?_; rintro e Y5 ⟨rfl, hb⟩; have B5 := Aside0.mk (B4.out.trans (hb.mono B4.out.size)); clear hb)
                  | (go_at_call 12; refine (r1_Same.calls k _ _ (plSs l2 0) _ _ (plSs l2 0) true Y5 (Kd.C_below (Kd.R_reads' R3.out).2.2 B5.out) (Kd.R_reads' R3.out).2.1 (Kd.C_below (Kd.R_reads' R5X.out).2.2 (E3.out.trans (B5.out.mono E3.out.size))) (Kd.R_reads' R5X.out).2.1 HK.out.2.2.2.2.2.2.2.2).mono ?_; rintro e Y6 ⟨rfl, hd⟩; have B6 := Aside0.mk (B5.out.trans (hd.below.mono B5.out.size)); clear hd)
                  | (go_at_call 5; refine (awake.calls Y6).mono ?_; rintro e Y7 ⟨rfl, hb⟩; have B7 := Aside0.mk (B6.out.trans (hb.mono B6.out.size)); clear hb))
                go_ret
                exact ⟨rfl, A3.out.trans (B7.out.mono A3.out.size)⟩
end Go.Proofs.Ytnlekgadadifdaa.Print
namespace Go.Proofs.Ytnlekgadadifdaa.Print
open Go.RowKit Go.Proofs.YtnlekgadadifdaaW.PrintWords Go.Proofs.YtnlekgadadifdaaW.PrintLast Go.Proofs.YtnlekgadadifdaaW.PrintMore
attribute [local go_sem] max2_int min2_int max_two min_two max_three min_three max_four min_four
set_option linter.unusedVariables false
set_option linter.unusedSimpArgs false
theorem rdI_mid (pre : List Int) (x : Int) (r : List Int) : rd (pre ++ x :: r) (pre.length : Int) = x := getD_mid pre x _ r
theorem rdX_mid (pre : List S40) (x : S40) (r : List S40) : rd_T40 (pre ++ x :: r) (pre.length : Int) = x := getD_mid pre x _ r
theorem isame_loop : ∀ (suf pre : List Int), (pre ++ suf).length ≤ 9223372036854775807 → Tells (fun k => r1_Same.l0 k (pre ++ suf) (pre ++ suf) (pre.length : Int)) true
  | [], pre, _ => by
    refine Tells.succ ?_
    simp only [r1_Same.l0, pre_nlt, if_false]
    exact Tells.pure _
  | s :: r, pre, hl => by
    refine Tells.succ ?_
    simp only [r1_Same.l0, pre_lt, pre_pos, if_true, rdI_mid]
    have ih := isame_loop r (pre ++ [s]) (by rw [← pre_app]; exact hl)
    rw [← pre_app] at ih
    rw [pre_next pre s r hl]
    exact ih
theorem isame_tells (l : List Int) (hl : l.length ≤ 9223372036854775807) : Tells (fun k => r1_Same.f k l l) true := by
  unfold r1_Same.f
  exact Tells.ifT rfl (isame_loop l [] hl)
theorem icopy_loop : ∀ (suf pre acc : List Int), (pre ++ suf).length ≤ 1000 → acc.length + suf.length ≤ 1000 → Tells (fun k => r1_Copy.l0 k (pre ++ suf) acc (pre.length : Int)) (acc ++ suf)
  | [], pre, acc, _, _ => by
    refine Tells.succ ?_
    simp only [r1_Copy.l0, pre_nlt, if_false]
    rw [List.append_nil]
    exact Tells.pure _
  | s :: r, pre, acc, hl, ha => by
    refine Tells.succ ?_
    rw [List.length_cons] at ha
    simp only [r1_Copy.l0, pre_lt, pre_pos, if_true, rdI_mid]
    refine Tells.ifT (by omega) ?_
    rw [pre_next pre s r (by omega)]
    have ih := icopy_loop r (pre ++ [s]) (acc ++ [s]) (by rw [← pre_app]; exact hl) (by rw [List.length_append]; simp only [List.length_cons, List.length_nil]; omega)
    rw [← pre_app, List.append_assoc, List.singleton_append] at ih
    exact ih
theorem icopy_tells (l : List Int) (h : l.length ≤ 1000) : Tells (fun k => r1_Copy.f k l) l := by
  unfold r1_Copy.f
  exact icopy_loop l [] [] h (by simp only [List.length_nil]; omega)
theorem nE_eN : (∀ x : S52, nE x = eN x) ∧ (∀ l : List S52, nAs l = eNs l) := by
  refine E_ind (fun a b c l ih => ?_) ?_ (fun x r h1 h2 => ?_)
  · rw [nE, ih]
    simp only [eN]
    omega
  · rw [nAs, eNs_nil]
  · rw [nAs, eNs_cons, h1, h2]
theorem hdE_le (a : List S52) : nE (hdE a) ≤ eNs a + 1 := by
  cases a with
  | nil => simp [hdE, nE, nAs]
  | cons x r =>
    rw [eNs_cons]
    simp only [hdE, List.headD_cons]
    rw [nE_eN.1]
    omega
theorem cT_le (op n : Int) (m : Nat) : (cT op n m).length ≤ 2 := by
  unfold cT
  repeat' split
  all_goals simp
theorem nS_le : (∀ x : S57, nS x ≤ 4 * sN x ∧ kS x ≤ sN x) ∧ (∀ l : List S57, nSs l ≤ 4 * sNs l ∧ kSs l ≤ sNs l) := by
  refine S_ind (fun a b l t e h1 h2 => ?_) ?_ (fun x r h1 h2 => ?_)
  · have hh := hdE_le l
    have hc := cT_le a b l.length
    rw [nS, kS, sN_eq, nE_eN.2]
    simp only
    constructor
    · split
      · split
        · split <;> omega
        · omega
      · omega
    · split <;> omega
  · rw [nSs, kSs, sNs_nil]
    omega
  · rw [nSs, kSs, sNs_cons]
    omega
theorem okS_of (w : Int) (vars : List S42) : (∀ x : S57, sOK w vars x = true → okS x) ∧ (∀ l : List S57, sOKs w vars l = true → okSs l) := by
  refine S_ind (fun a b l t e h1 h2 h => ?_) (fun _ => trivial) (fun x r h1 h2 h => ?_)
  · rw [sOK_eq, Bool.and_eq_true, Bool.and_eq_true, Bool.and_eq_true] at h
    obtain ⟨hh, ht, he, _⟩ := h
    refine ⟨fun ho hl => ?_, h1 ht, h2 he⟩
    simp only at hh
    subst hl
    unfold headB argVal at hh
    rw [Bool.and_eq_true, decide_eq_true_iff] at hh
    have := hh.1
    rcases ho with rfl | rfl
    · simp at this
      split at this <;> omega
    · simp at this
      split at this <;> omega
  · rw [sOKs_cons, Bool.and_eq_true] at h
    exact ⟨h1 h.1, h2 h.2⟩
theorem code8_l1 (a : Int) (l1 : List S42) : ∀ (suf pre : List S40), (pre ++ suf).length ≤ 9223372036854775807 → Tells (fun k => r8_Same.l1 k (pre.length : Int) a l1 (pre ++ suf) a l1 (pre ++ suf)) true
  | [], pre, _ => by
    refine Tells.succ ?_
    simp only [r8_Same.l1, pre_nlt, if_false]
    exact Tells.pure _
  | v :: r, pre, hl => by
    refine Tells.succ ?_
    simp only [r8_Same.l1, pre_lt, pre_pos, if_true, rdX_mid, beq_self_eq_true, Bool.not_true, Bool.or_self, Bool.false_eq_true, if_false]
    rw [pre_next pre v r hl]
    have ih := code8_l1 a l1 r (pre ++ [v]) (by rw [← pre_app]; exact hl)
    rw [← pre_app] at ih
    exact ih
theorem code8_l0 (a : Int) (c : List S40) (hc : c.length ≤ 9223372036854775807) : ∀ (suf pre : List S42), (pre ++ suf).length ≤ 9223372036854775807 → Tells (fun k => r8_Same.l0 k (pre.length : Int) a (pre ++ suf) c a (pre ++ suf) c) true
  | [], pre, _ => by
    refine Tells.succ ?_
    simp only [r8_Same.l0, pre_nlt, if_false]
    exact code8_l1 a _ c [] hc
  | v :: r, pre, hl => by
    refine Tells.succ ?_
    simp only [r8_Same.l0, pre_lt, pre_pos, if_true, rdV_mid, beq_self_eq_true, Bool.not_true, Bool.or_self, Bool.false_eq_true, if_false]
    rw [pre_next pre v r hl]
    have ih := code8_l0 a c hc r (pre ++ [v]) (by rw [← pre_app]; exact hl)
    rw [← pre_app] at ih
    exact ih
theorem code8_tells (a : Int) (l1 : List S42) (c : List S40) (h1 : l1.length ≤ 9223372036854775807) (hc : c.length ≤ 9223372036854775807) : Tells (fun k => r8_Same.f k a l1 c a l1 c) true := by
  unfold r8_Same.f
  simp only [if_true]
  refine Tells.succ ?_
  simp only [r8_Same.j0, bne_self_eq_false, Bool.false_eq_true, if_false]
  exact code8_l0 a c hc l1 [] h1
theorem own_total (w : Int) (vars : List S42) (body : List S57) (hl : body.length ≤ 9223372036854775807) (hg : goodSs body) : ∃ k, r3_Is.f k w vars body = some (pIs w vars body) ∧ (pIs w vars body = true → OwnOk k w vars body) := by
  obtain ⟨ki, hki⟩ := pIs_tells w vars body hl hg
  by_cases hp : pIs w vars body = true
  · obtain ⟨hh, hn⟩ := pIs_all hp
    obtain ⟨_, _, _, h18, _, _⟩ := hIs_all hh
    have hs : sOKs w vars body = true := by
      unfold pIs at hp
      rw [Bool.and_eq_true, Bool.and_eq_true, Bool.and_eq_true] at hp
      exact hp.2.2.2
    obtain ⟨n1, n2⟩ := nS_le.2 body
    have hcl : (codeOf body).length = nSs body + 1 := by rw [codeOf, List.length_append, cSs_len]; rfl
    have hpl : (plSs body 0).length = kSs body := plSs_len body 0
    obtain ⟨k1, h1⟩ := rcopyP w vars body hl hg (by omega) (by omega)
    obtain ⟨k2, h2⟩ := pCheck_tells w vars body hl hg
    rw [hp] at h2
    obtain ⟨k3, h3⟩ := icopy_tells (plSs body 0) (by omega)
    obtain ⟨k4, h4⟩ := sameProg w vars body (by omega) hg hl
    obtain ⟨k5, h5⟩ := code8_tells w vars (codeOf body) (by omega) (by omega)
    obtain ⟨k6, h6⟩ := isame_tells (plSs body 0) (by omega)
    obtain ⟨K, hK⟩ : ∃ K, K = ki + k1 + k2 + k3 + k4 + k5 + k6 := ⟨_, rfl⟩
    exact ⟨K, hki K (by omega), fun _ => ⟨h1 K (by omega), h2 K (by omega), ⟨(okS_of w vars).2 body hs, by omega, by omega⟩, by omega, by omega, h3 K (by omega), h4 K (by omega), h5 K (by omega), h6 K (by omega)⟩⟩
  · exact ⟨ki, hki ki (Nat.le_refl _), fun h => absurd h hp⟩
theorem own10_law (w : Int) (A1 : Option Addr) (c1 : Nat) (l1 : List S42) (A2 : Option Addr) (c2 : Nat) (l2 : List S57) (W : World) (hr1 : Kd.C k42 W A1 l1.length l1) (hc1 : l1.length ≤ c1) (hr2 : Kd.C k57 W A2 l2.length l2) (hc2 : l2.length ≤ c2) (hl : l2.length ≤ 9223372036854775807) (hg : goodSs l2) :
    Calls Try.prog 3 #[.agg #[.int .i64 w, .slice A1 l1.length c1, .slice A2 l2.length c2]] W fun e W' => e = .returned (.bool true) ∧ Below W.heap.size W W' := by
  obtain ⟨k, h1, h2⟩ := own_total w l1 l2 hl hg
  exact compOwn.walk k w A1 c1 l1 A2 c2 l2 _ W hr1 hc1 hr2 hc2 h1 h2
end Go.Proofs.Ytnlekgadadifdaa.Print
