/- For every list of outputs and number the law ProdTells returns true, and what came in reads as before. No condition. -/
import Derived.Test.YtilebfkehmecaaaB5
import Derived.ChangeArms
import Derived.ChangeSlices
import Derived.SizedLaws
namespace Go.Proofs.Ytilebfkehmecaaa.Print
open Go.RowKit Go.Proofs.YtilebfkehmecaaaW.PrintWords Go.Proofs.YtilebfkehmecaaaW.PrintLast
theorem add_add (a : Addr) (i j : Nat) : (a.add i).add j = a.add (i + j) := by
  unfold Addr.add
  by_cases hi : i = 0 <;> by_cases hj : j = 0 <;> simp [hi, hj, Nat.add_assoc]
def Opens {α : Type} (P : Program) (n : Nat) (t : TypeId) (d : Kd α) (φ : α → Prop) : Prop :=
  ∀ (H : Type) (enc : TypeId × Value → H) (W : World) (sp : Nat → Bool) (hd : Bool) (cs : List Value) (y : DataW H × List MemPlace), DataW.trod enc P W 0 sp hd n t cs = some y → ∃ x, d.K W x cs ∧ φ x
def OpensFs {α : Type} (P : Program) (n : Nat) (fs : List Field) (o : Nat) (d : Kd α) (φ : α → Prop) : Prop :=
  ∀ (H : Type) (enc : TypeId × Value → H) (W : World) (sp : Nat → Bool) (hd : Bool) (cs : List Value) (y : List (DataW H × List MemPlace)), cs.length = o + d.sz →
    fs.mapM (fun f => DataW.trod enc P W 0 sp hd n f.type ((cs.drop f.offset).take (P.cellsOf f.type))) = some y → ∃ x, d.K W x (cs.drop o) ∧ φ x
theorem opens_int {P : Program} {n : Nat} {t : TypeId} {k : IntKind} (ht : P.underlying t = some (.int k)) : Opens P n t (Kd.int k) (fun x => (Lit.int k x).wf = true) := by
  intro H enc W sp hd cs y h
  obtain ⟨x, rfl, _, hx⟩ := DataW.trod_int ht h
  exact ⟨x, rfl, hx⟩
theorem opens_slice {α : Type} {P : Program} {n : Nat} {t e : TypeId} {d : Kd α} {φ : α → Prop} (ht : P.underlying t = some (.slice e)) (hc : P.cellsOf e = d.sz) (h : Opens P n e d φ) :
    Opens P (n + 1) t (Kd.slice e d) (fun xs => xs.length ≤ maxLen ∧ ∀ x ∈ xs, φ x) := by
  intro H enc W sp hd cs y hy
  rcases DataW.trod_slice ht hy with ⟨rfl, _⟩ | ⟨a, len, cap, elems, rest, m, hf, rfl, _, hb, hl, hm, hlen, hel, _, _⟩
  · exact ⟨[], ⟨none, 0, rfl, Nat.le_refl _, rfl, by simp, fun h => absurd h (by simp)⟩, by simp [maxLen], fun x hx => absurd hx (by simp)⟩
  · injection hf with hf
    subst hf
    have one : ∀ i, i < len → ∃ x, (∃ cs', W.cells? 0 (a.add (i * P.cellsOf e)) (P.cellsOf e) = some cs' ∧ d.K W x cs') ∧ φ x := fun i hi => by
      have h1 := hel i hi
      have hi' : i < elems.length := by omega
      rw [List.getElem?_eq_getElem hi', Option.bind_eq_some_iff] at h1
      obtain ⟨cs', h2, h3⟩ := h1
      obtain ⟨x, hx, hp⟩ := h H enc W sp hd cs' _ h3
      exact ⟨x, ⟨cs', h2, hx⟩, hp⟩
    have many : ∀ k, k ≤ len → ∃ xs : List α, xs.length = k ∧ ∀ i x, xs[i]? = some x → (∃ cs', W.cells? 0 (a.add (i * P.cellsOf e)) (P.cellsOf e) = some cs' ∧ d.K W x cs') ∧ φ x := by
      intro k
      induction k with
      | zero => exact fun _ => ⟨[], rfl, fun i x hx => by simp at hx⟩
      | succ k ih =>
        intro hk
        obtain ⟨xs, hxl, hxs⟩ := ih (by omega)
        obtain ⟨x, hx⟩ := one k (by omega)
        refine ⟨xs ++ [x], by simp [hxl], fun i z hz => ?_⟩
        rcases Nat.lt_or_ge i xs.length with hi | hi
        · rw [List.getElem?_append_left hi] at hz
          exact hxs i z hz
        · rw [List.getElem?_append_right hi] at hz
          have hi0 : i - xs.length = 0 := by
            rcases Nat.eq_zero_or_pos (i - xs.length) with h0 | h0
            · exact h0
            · rw [List.getElem?_eq_none (by simp only [List.length_singleton]; omega)] at hz
              exact absurd hz (by simp)
          rw [hi0] at hz
          have hzx : x = z := by simpa using hz
          have hik : i = k := by omega
          subst hzx hik
          exact hx
    obtain ⟨xs, hxl, hxs⟩ := many len (Nat.le_refl _)
    refine ⟨xs, ⟨some a, cap, by rw [hxl], by omega, ⟨rfl, by unfold maxLen at hm; omega, fun _ => ⟨a, rfl, fun j p hj => ?_⟩⟩⟩, by omega, fun x hx => ?_⟩
    · obtain ⟨⟨cs', h2, h3⟩, _⟩ := hxs j p hj
      refine ⟨cs', d.K_len h3, h3, fun i u hu => ?_⟩
      rw [hc] at h2
      obtain ⟨_, h5, h4⟩ := World.cells?_some h2
      obtain ⟨hi, hu'⟩ := List.getElem?_eq_some_iff.1 hu
      have h6 := h4 i (by omega)
      rw [add_add] at h6
      rw [h6]
      exact hu
    · obtain ⟨i, hi⟩ := List.getElem?_of_mem hx
      exact (hxs i x hi).2
theorem opensFs_one {α : Type} {P : Program} {n : Nat} {f : Field} {o : Nat} {d : Kd α} {φ : α → Prop} (ho : f.offset = o) (hc : P.cellsOf f.type = d.sz) (h : Opens P n f.type d φ) : OpensFs P n [f] o d φ := by
  intro H enc W sp hd cs y hl hy
  simp only [List.mapM_cons, List.mapM_nil, Option.bind_eq_bind, Option.pure_def, Option.bind_eq_some_iff] at hy
  obtain ⟨a, h1, _⟩ := hy
  rw [ho, hc, List.take_of_length_le (by simp [hl])] at h1
  exact h H enc W sp hd _ _ h1
theorem opensFs_cons {α β : Type} {P : Program} {n : Nat} {f : Field} {fs : List Field} {o : Nat} {d : Kd α} {d' : Kd β} {φ : α → Prop} {ψ : β → Prop} (ho : f.offset = o) (hc : P.cellsOf f.type = d.sz) (h : Opens P n f.type d φ)
    (hs : OpensFs P n fs (o + d.sz) d' ψ) : OpensFs P n (f :: fs) o (Kd.pair d d') (fun x => φ x.1 ∧ ψ x.2) := by
  intro H enc W sp hd cs y hl hy
  have hl' : cs.length = o + (d.sz + d'.sz) := hl
  simp only [List.mapM_cons, Option.bind_eq_bind, Option.pure_def, Option.bind_eq_some_iff] at hy
  obtain ⟨a, h1, b, h2, _⟩ := hy
  rw [ho, hc] at h1
  obtain ⟨x, hx, px⟩ := h H enc W sp hd _ _ h1
  obtain ⟨z, hz, pz⟩ := hs H enc W sp hd cs b (by omega) h2
  refine ⟨(x, z), ⟨_, _, ?_, hx, hz⟩, px, pz⟩
  rw [← List.drop_drop, List.take_append_drop]
theorem opens_struct {α : Type} {P : Program} {n : Nat} {t : TypeId} {fs : Array Field} {d : Kd α} {φ : α → Prop} (ht : P.underlying t = some (.struct fs)) (hc : P.cellsOf t = d.sz) (h : OpensFs P n fs.toList 0 d φ) : Opens P (n + 1) t d φ := by
  intro H enc W sp hd cs y hy
  unfold DataW.trod at hy
  rw [ht] at hy
  simp only at hy
  split at hy
  · next hl =>
    rw [Option.map_eq_some_iff] at hy
    obtain ⟨xs, h1, _⟩ := hy
    have := h H enc W sp hd cs xs (by omega) h1
    simpa using this
  · exact absurd hy (by simp)
theorem opens_iso {α β : Type} {P : Program} {n : Nat} {t : TypeId} {d : Kd α} {φ : α → Prop} {f : β → α} (hf : ∀ x, ∃ y, f y = x) (h : Opens P n t d φ) : Opens P n t (Kd.iso d f) (fun y => φ (f y)) := by
  intro H enc W sp hd cs y hy
  obtain ⟨x, hx, px⟩ := h H enc W sp hd cs y hy
  obtain ⟨z, rfl⟩ := hf x
  exact ⟨z, hx, px⟩
theorem opens_imp {α : Type} {P : Program} {n : Nat} {t : TypeId} {d : Kd α} {φ ψ : α → Prop} (h : Opens P n t d φ) (hp : ∀ x, φ x → ψ x) : Opens P n t d ψ := by
  intro H enc W sp hd cs y hy
  obtain ⟨x, hx, px⟩ := h H enc W sp hd cs y hy
  exact ⟨x, hx, hp x px⟩
theorem opens_zero {α : Type} {P : Program} {t : TypeId} {d : Kd α} {φ : α → Prop} : Opens P 0 t d φ := by
  intro H enc W sp hd cs y hy
  simp [DataW.trod] at hy
end Go.Proofs.Ytilebfkehmecaaa.Print
namespace Go.Proofs.Ytilebfkehmecaaa.Print
open Go.RowKit Go.Proofs.YtilebfkehmecaaaW.PrintWords Go.Proofs.YtilebfkehmecaaaW.PrintLast Go.Proofs.YtilebfkehmecaaaW.PrintMore
attribute [local go_sem] max2_int min2_int max_two min_two max_three min_three max_four min_four
set_option linter.unusedVariables false
set_option linter.unusedSimpArgs false
def Tells {α : Type} (g : Nat → Option α) (v : α) : Prop := ∃ k0, ∀ k, k0 ≤ k → g k = some v
theorem Tells.pure {α : Type} (v : α) : Tells (fun _ => some v) v := ⟨0, fun _ _ => rfl⟩
theorem Tells.bind {α β : Type} {g : Nat → Option α} {h : Nat → α → Option β} {x : α} {v : β} (hg : Tells g x) (hh : Tells (fun k => h k x) v) : Tells (fun k => (g k).bind (h k)) v := by
  obtain ⟨a, ha⟩ := hg
  obtain ⟨b, hb⟩ := hh
  exact ⟨max a b, fun k hk => by show (g k).bind (h k) = some v; rw [ha k (by omega), Option.bind_some]; exact hb k (by omega)⟩
theorem Tells.succ {α : Type} {g : Nat → Option α} {v : α} (h : Tells (fun k => g (k + 1)) v) : Tells g v := by
  obtain ⟨a, ha⟩ := h
  exact ⟨a + 1, fun k hk => by
    obtain ⟨j, rfl⟩ : ∃ j, k = j + 1 := ⟨k - 1, by omega⟩
    exact ha j (by omega)⟩
theorem Tells.ifT {α : Type} {p : Prop} [Decidable p] {f g : Nat → Option α} {v : α} (hp : p) (h : Tells f v) : Tells (fun k => if p then f k else g k) v := by
  obtain ⟨a, ha⟩ := h
  exact ⟨a, fun k hk => by show (if p then f k else g k) = some v; rw [if_pos hp]; exact ha k hk⟩
theorem Tells.ifF {α : Type} {p : Prop} [Decidable p] {f g : Nat → Option α} {v : α} (hp : ¬ p) (h : Tells g v) : Tells (fun k => if p then f k else g k) v := by
  obtain ⟨a, ha⟩ := h
  exact ⟨a, fun k hk => by show (if p then f k else g k) = some v; rw [if_neg hp]; exact ha k hk⟩
theorem w64 {n : Int} (h0 : -9223372036854775808 ≤ n) (h1 : n ≤ 9223372036854775807) : wrap64 n = n := by unfold wrap64; omega
theorem pre_lt {α : Type} (pre : List α) (x : α) (r : List α) : (pre.length : Int) < ((pre ++ x :: r).length : Int) := by rw [List.length_append, List.length_cons]; omega
theorem pre_nlt {α : Type} (pre : List α) : ¬ (pre.length : Int) < ((pre ++ []).length : Int) := by rw [List.length_append, List.length_nil]; omega
theorem pre_pos {α : Type} (pre : List α) : (0 : Int) ≤ (pre.length : Int) := Int.natCast_nonneg _
theorem getD_mid {α : Type} (pre : List α) (x z : α) (r : List α) : (pre ++ x :: r).getD ((pre.length : Int)).toNat z = x := by simp
theorem pre_next {α : Type} (pre : List α) (x : α) (r : List α) (h : (pre ++ x :: r).length ≤ 9223372036854775807) : wrap64 ((pre.length : Int) + 1) = ((pre ++ [x]).length : Int) := by
  rw [List.length_append, List.length_cons] at h
  rw [List.length_append, List.length_singleton, w64 (by omega) (by omega)]
  omega
theorem pre_app {α : Type} (pre : List α) (x : α) (r : List α) : pre ++ x :: r = (pre ++ [x]) ++ r := by simp
def r3_Depth.T5 : Bool × List (List Nat × List Nat) := (true, [([], []), ([], []), ([], []), ([1, 2], [1, 2]), ([3], [3]), ([4], [4]), ([5], [5]), ([6], [6]), ([], []), ([], []), ([8, 9], [8, 9]), ([10], [10]), ([11], [11]), ([12, 6], [12]), ([13], [13]), ([0, 7, 14], [0, 7, 14]), ([15, 13, 0, 1, 2, 3, 4, 5, 6, 7, 8, 9, 10, 11, 12, 13, 14, 15], [0, 15])])
def r3_Depth.B5 : List Nat := [0, 0, 0, 6, 14, 30, 62, 126, 0, 0, 768, 1792, 3840, 8062, 16254, 32767, 65535]
theorem r3_Depth.tab5 : rtab .any (opsOf Try.f108 5) = r3_Depth.T5 := by kernel_rfl
theorem r3_Depth.bits5 : waitsOk r3_Depth.T5.2 r3_Depth.B5 = true := by kernel_rfl
end Go.Proofs.Ytilebfkehmecaaa.Print
namespace Go.Proofs.Ytilebfkehmecaaa.Print
open Go.RowKit Go.Proofs.YtilebfkehmecaaaW.PrintWords Go.Proofs.YtilebfkehmecaaaW.PrintLast Go.Proofs.YtilebfkehmecaaaW.PrintMore
attribute [local go_sem] max2_int min2_int max_two min_two max_three min_three max_four min_four
set_option linter.unusedVariables false
set_option linter.unusedSimpArgs false
open Go.ChangeShapes Go.WideShapes
theorem opens_O (n : Nat) : Opens Try.prog n 74 k74 (fun x => (Lit.int .i64 x.f0).wf = true) := by
  cases n with
  | zero => exact opens_zero
  | succ n =>
    have h1 := opensFs_one (P := Try.prog) (n := n) (f := { name := "Val", type := 3, offset := 1, embedded := false, tag := "", pkgPath := "", byteOffset := 8 }) (o := 1) rfl (by kernel_rfl) (opens_int Try.underlying3)
    have h0 := opensFs_cons (f := { name := "Level", type := 3, offset := 0, embedded := false, tag := "", pkgPath := "", byteOffset := 0 }) (o := 0) rfl (by kernel_rfl) (opens_int Try.underlying3) h1
    exact opens_imp (opens_iso (f := fun x : S74 => (x.f0, x.f1)) (fun x => ⟨⟨x.1, x.2⟩, rfl⟩) (opens_struct Try.underlying74 (by kernel_rfl) h0)) (fun x h => h.1)
theorem opens_Os (n : Nat) : Opens Try.prog n 37 (Kd.slice 74 k74) (fun xs => xs.length ≤ maxLen ∧ ∀ x ∈ xs, (Lit.int .i64 x.f0).wf = true) := by
  cases n with
  | zero => exact opens_zero
  | succ n => exact opens_slice Try.underlying37 (by kernel_rfl) (opens_O n)
theorem sized_row {H : Type} {enc : TypeId × Value → H} {P : Program} {W : World} {base : Nat} {spare : Nat → Bool} {held : Bool} {t e : TypeId} {a : Option Addr} {len cap : Nat} {d : DataW H} {ps : List MemPlace} {ts : List TypeId} {ds : List (DataW H)} {j : Nat}
    (hsz : (DataW.weightsEach P ts ds).all (· ≤ reachBytes) = true) (ht : ts[j]? = some t) (hd : ds[j]? = some d) (hu : P.underlying t = some (.slice e)) {B : Nat} (hB : P.bytesOf e = B)
    (h : DataW.Trod enc P W base spare held t (.slice a len cap) d ps) : len * B ≤ reachBytes := by
  obtain ⟨fuel, hf⟩ := h
  rcases DataW.trod_slice hu hf with ⟨hcs, _⟩ | ⟨x, l, c, elems, rest, n, _, hcs, hx, _, _, _, hl, _⟩
  · simp [Value.cells] at hcs
    obtain ⟨_, rfl, _⟩ := hcs
    simp
  · simp [Value.cells] at hcs
    obtain ⟨_, rfl, _⟩ := hcs
    obtain ⟨rfl, _⟩ := Prod.mk.inj hx
    have z := sized_slice hsz ht hd hu
    rw [hB, List.length_map, List.length_map, hl] at z
    exact Nat.le_trans (Nat.mul_le_mul_right _ (Nat.le_add_right _ _)) z
set_option maxRecDepth 100000 in
theorem open_outs {H : Type} {enc : TypeId × Value → H} {W : World} {sp : Nat → Bool} {hd : Bool} {v : Value} {d : DataW H} {ps : List MemPlace} {r : Reach} {b0 : Nat} (hval : Value.okWide Try.prog W r b0 37 v) (h : DataW.Trod enc Try.prog W 0 sp hd 37 v d ps) :
    ∃ (A1 : Option Addr) (c1 : Nat) (l1 : List S74), v = .slice A1 l1.length c1 ∧ Kd.C k74 W A1 l1.length l1 ∧ l1.length ≤ c1 ∧ l1.length ≤ 9223372036854775807 ∧ ∀ x ∈ l1, (Lit.int .i64 x.f0).wf = true := by
  obtain ⟨fuel, hf⟩ := h
  obtain ⟨a, len, cap, rfl⟩ := okWide_slice Try.underlying37 hval
  obtain ⟨l1, ⟨A1, c1, e, g1, g2⟩, hl, hx⟩ := opens_Os fuel H enc W sp hd _ _ hf
  have e' : [Value.slice a len cap] = [Value.slice A1 l1.length c1] := e
  injection e' with e'
  unfold maxLen at hl
  exact ⟨A1, c1, l1, e', g2, g1, by omega, hx⟩
end Go.Proofs.Ytilebfkehmecaaa.Print
namespace Go.Proofs.Ytilebfkehmecaaa.Print
open Go.RowKit Go.Proofs.YtilebfkehmecaaaW.PrintWords Go.Proofs.YtilebfkehmecaaaW.PrintLast Go.Proofs.YtilebfkehmecaaaW.PrintMore
attribute [local go_sem] max2_int min2_int max_two min_two max_three min_three max_four min_four
set_option linter.unusedVariables false
set_option linter.unusedSimpArgs false
mutual
def r12_Told.l0 : Nat → List (S74) → Int → List (S74) → Int → Option ((List (S74)))
 | 0, _, _, _, _ => none
 | k + 1, x0, x1, x5, x6 => if x6 < (x0.length : Int) then (if x1 ≥ 0 then (r12_Told.j1 k x0 x1 x5 x6 (decide (x1 < 3))) else (r12_Told.j1 k x0 x1 x5 x6 false)) else (r12_Told.j1 k x0 x1 x5 x6 false)
def r12_Told.j1 : Nat → List (S74) → Int → List (S74) → Int → Bool → Option ((List (S74)))
 | 0, _, _, _, _, _ => none
 | k + 1, x0, x1, x5, x6, x19 => if x19 = true then (if 0 ≤ x6 then (if x6 < (x0.length : Int) then (if (wrap64 (((rd_T74 x0 x6).f0) - (wrap64 (16 * x1)))) ≥ 0 then (if (wrap64 (((rd_T74 x0 x6).f0) - (wrap64 (16 * x1)))) ≤ 15 then (if ((rd_T74 x0 x6).f0) ≥ 0 then (if x5.length < 8796093022208 then (r12_Told.l0 k x0 x1 (x5 ++ [(⟨wrap64 (((rd_T74 x0 x6).f0) - (wrap64 (16 * x1))), (rd_T74 x0 x6).f1⟩ : S74)]) (wrap64 (x6 + 1))) else (none)) else (r12_Told.l0 k x0 x1 x5 (wrap64 (x6 + 1)))) else (r12_Told.l0 k x0 x1 x5 (wrap64 (x6 + 1)))) else (r12_Told.l0 k x0 x1 x5 (wrap64 (x6 + 1)))) else (none)) else (none)) else (some x5)
end
def r12_Told.f (k : Nat) (l0 : List (S74)) (a1 : Int) : Option ((List (S74))) := r12_Told.l0 k l0 a1 ([] : List (S74)) 0
set_option maxHeartbeats 8000000 in
set_option maxRecDepth 100000 in
theorem r12_Told.calls (k : Nat) (A0 : Option Addr) (c0 : Nat) (l0 : List (S74)) (a1 : Int) (r : List (S74)) (w : World) (hr0 : Kd.C k74 w A0 l0.length l0) (hc0 : l0.length ≤ c0) (h : r12_Told.f k l0 a1 = some r) :
  Calls Try.prog 17 #[.slice A0 l0.length c0, .int .i64 a1] w fun e w' => ∃ v0_ : Value, e = .returned (v0_) ∧ Kd.R k74 74 w' w.heap.size (fun _ => True) v0_ r ∧ Below w.heap.size w w' := by
 have hu74 := Try.underlying74
 have HR0 := Aside0.mk hr0
 have HC0 := Aside0.mk hc0
 clear hr0 hc0
 have HB := Aside0.mk (Below.refl w.heap.size w)
 have H : (r12_Told.l0 k l0 a1 ([] : List (S74)) 0) = some r := h
 clear h
 have H' := Aside0.mk H
 clear H
 go_enter Try.func17, Try.ntmps17
 go_wp2
 go_loopg [5, 6] k (fun kq v5 v6 w' => ∃ (x5_1 : List (S74)) (x6_1 : Int), v6 = .int .i64 x6_1 ∧ Aside0 (r12_Told.l0 kq l0 a1 x5_1 x6_1 = some r) ∧ Aside0 (kq ≤ k) ∧ Aside0 (Kd.R k74 74 w' w.heap.size (fun _ => True) v5 x5_1) ∧ Aside0 (Below w.heap.size w w'))
 case atStart => exact ⟨(([] : List (S74))), (0), (by first | rfl | (simp; done) | (simp [*]; done)), H', ⟨Nat.le_refl _⟩, ⟨by first | exact Kd.R_nil _ _ _ _ _ | exact Kd.N_nil _ _ _ _ _ | exact Kd.V_nil _ _ _ _ _ | exact Kd.Q_nil _ _ _ _ _ | exact Kd.S_nil _ _ _ _ _⟩, ⟨by repeat (first | (with_reducible first | exact HB.out | apply bal | apply bdN | apply bd1) | exact HB.out)⟩⟩
 case round =>
  clear H'
  try clear c1
  try clear p2
  obtain ⟨x5_1, x6_1, rfl, HA, HK1, HO_5, HB⟩ := hrel
  cases gk with
  | zero => exact absurd HA.out (by simp [r12_Told.l0])
  | succ k1 =>
   have H := HA.out
   clear HA
   simp only [r12_Told.l0] at H
   have HC3 := Aside0.mk H
   clear H
   go_upto_region 3 with (fail)
   go_cut [19] (fun v19 wc => ∃ (kq : Nat) (x19_2 : Bool), v19 = .bool x19_2 ∧ Aside0 (r12_Told.j1 kq l0 a1 x5_1 x6_1 x19_2 = some r) ∧ Aside0 (kq ≤ k1) ∧ Aside0 (Kd.R k74 74 wc w.heap.size (fun _ => True) u5 x5_1) ∧ Aside0 (Below w.heap.size w wc))
   case first =>
    have H := HC3.out
    clear HC3
    by_cases c4 : x6_1 < (l0.length : Int)
    ·rw [if_pos c4] at H
     have c4b0 : decide (x6_1 < (l0.length : Int)) = true := decide_eq_true c4
     clear c4
     (first | rw [c4b0] | (simp only [i64_w, i32_w]; rw [c4b0]) | skip)
     by_cases c5 : a1 ≥ 0
     ·rw [if_pos c5] at H
      have c5b0 : decide (0 ≤ a1) = true := decide_eq_true c5
      clear c5
      have H' := Aside0.mk H
      clear H
      go_wp2
      go_meet
      case rel => exact ⟨_, (decide (a1 < 3)), (by first | rfl | (simp; done) | (simp [*]; done)), H', ⟨by have := HK1.out; first | omega | exact Nat.le_refl _⟩, ⟨by (with_reducible repeat (first | apply Kd.R_alloc | apply Kd.R_drewN | apply Kd.R_drew)); exact HO_5.out⟩, ⟨by repeat (first | (with_reducible first | exact HB.out | apply bal | apply bdN | apply bd1) | exact HB.out)⟩⟩
     ·rw [if_neg c5] at H
      have c5b0 : decide (0 ≤ a1) = false := decide_eq_false c5
      clear c5
      have H' := Aside0.mk H
      clear H
      go_wp2
      go_meet
      case rel => exact ⟨_, (false), (by first | rfl | (simp; done) | (simp [*]; done)), H', ⟨by have := HK1.out; first | omega | exact Nat.le_refl _⟩, ⟨by (with_reducible repeat (first | apply Kd.R_alloc | apply Kd.R_drewN | apply Kd.R_drew)); exact HO_5.out⟩, ⟨by repeat (first | (with_reducible first | exact HB.out | apply bal | apply bdN | apply bd1) | exact HB.out)⟩⟩
    ·rw [if_neg c4] at H
     have c4b0 : decide (x6_1 < (l0.length : Int)) = false := decide_eq_false c4
     clear c4
     (first | rw [c4b0] | (simp only [i64_w, i32_w]; rw [c4b0]) | skip)
     have H' := Aside0.mk H
     clear H
     go_wp2
     go_meet
     case rel => exact ⟨_, (false), (by first | rfl | (simp; done) | (simp [*]; done)), H', ⟨by have := HK1.out; first | omega | exact Nat.le_refl _⟩, ⟨by (with_reducible repeat (first | apply Kd.R_alloc | apply Kd.R_drewN | apply Kd.R_drew)); exact HO_5.out⟩, ⟨by repeat (first | (with_reducible first | exact HB.out | apply bal | apply bdN | apply bd1) | exact HB.out)⟩⟩
   case rest =>
    clear HC3
    try clear c1
    try clear p2
    try clear c4
    try clear c4b0
    try clear c5
    try clear c5b0
    try clear p2
    obtain ⟨kq, x19_2, rfl, HA, HJ2, HO_5, HB⟩ := hcut
    cases kq with
    | zero => exact absurd HA.out (by simp [r12_Told.j1])
    | succ kj2 =>
     have H := HA.out
     clear HA
     simp only [r12_Told.j1] at H
     by_cases c6 : x19_2 = true
     ·subst c6
      have H1 : (if 0 ≤ x6_1 then (if x6_1 < (l0.length : Int) then (if (wrap64 (((rd_T74 l0 x6_1).f0) - (wrap64 (16 * a1)))) ≥ 0 then (if (wrap64 (((rd_T74 l0 x6_1).f0) - (wrap64 (16 * a1)))) ≤ 15 then (if ((rd_T74 l0 x6_1).f0) ≥ 0 then (if x5_1.length < 8796093022208 then (r12_Told.l0 kj2 l0 a1 (x5_1 ++ [(⟨wrap64 (((rd_T74 l0 x6_1).f0) - (wrap64 (16 * a1))), (rd_T74 l0 x6_1).f1⟩ : S74)]) (wrap64 (x6_1 + 1))) else (none)) else (r12_Told.l0 kj2 l0 a1 x5_1 (wrap64 (x6_1 + 1)))) else (r12_Told.l0 kj2 l0 a1 x5_1 (wrap64 (x6_1 + 1)))) else (r12_Told.l0 kj2 l0 a1 x5_1 (wrap64 (x6_1 + 1)))) else (none)) else (none)) = some r := by rw [if_pos rfl] at H; exact H
      clear H
      have H := H1
      clear H1
      by_cases c7 : 0 ≤ x6_1
      ·rw [if_pos c7] at H
       have c7b0 : decide (0 ≤ x6_1) = true := decide_eq_true c7
       clear c7
       by_cases c8 : x6_1 < (l0.length : Int)
       ·rw [if_pos c8] at H
        have c8b0 : decide (x6_1 < (l0.length : Int)) = true := decide_eq_true c8
        clear c8
        by_cases c9 : (wrap64 (((rd_T74 l0 x6_1).f0) - (wrap64 (16 * a1)))) ≥ 0
        ·rw [if_pos c9] at H
         have c9b0 : decide (0 ≤ (wrap64 (((rd_T74 l0 x6_1).f0) - (wrap64 (16 * a1))))) = true := decide_eq_true c9
         clear c9
         by_cases c10 : (wrap64 (((rd_T74 l0 x6_1).f0) - (wrap64 (16 * a1)))) ≤ 15
         ·rw [if_pos c10] at H
          have c10b0 : decide ((wrap64 (((rd_T74 l0 x6_1).f0) - (wrap64 (16 * a1)))) ≤ 15) = true := decide_eq_true c10
          clear c10
          by_cases c11 : ((rd_T74 l0 x6_1).f0) ≥ 0
          ·rw [if_pos c11] at H
           have c11b0 : decide (0 ≤ ((rd_T74 l0 x6_1).f0)) = true := decide_eq_true c11
           clear c11
           by_cases c12 : x5_1.length < 8796093022208
           ·rw [if_pos c12] at H
            have LMc12 := Aside0.mk c12
            clear c12
            obtain ⟨y389, hy389⟩ : ∃ y_ : List (S74), y_ = (x5_1 ++ [(⟨wrap64 (((rd_T74 l0 x6_1).f0) - (wrap64 (16 * a1))), (rd_T74 l0 x6_1).f1⟩ : S74)]) := ⟨_, rfl⟩
            replace H : (r12_Told.l0 kj2 l0 a1 y389 (wrap64 (x6_1 + 1))) = some r := by first | (rw [hy389]; with_reducible exact H) | (have H2_ := (Option.bind_some _ _).symm.trans H; rw [hy389]; with_reducible exact H2_) | (have H2_ := (Option.bind_some _ _).symm.trans H; with_reducible exact H2_) | with_reducible exact H | (rw [hy389]; exact H) | exact H
            have Ny389 := Aside0.mk hy389
            clear hy389
            have H' := Aside0.mk H
            clear H
            have p386 : 0 ≤ (x6_1 : Int) := of_decide_eq_true (by first | (with_reducible assumption) | assumption)
            have q386 : x6_1 < (l0.length : Int) := of_decide_eq_true (by first | (with_reducible assumption) | assumption)
            obtain ⟨ad386, e386, hx386_0, hx386_1⟩ := at_T74 HR0.out x6_1 p386 q386
            cases e386
            replace hx386_0 := bcell HB.out hx386_0
            replace hx386_1 := bcell HB.out hx386_1
            replace p386 := eq_true p386
            replace q386 := eq_true q386
            have p387 : 0 ≤ (x6_1 : Int) := of_decide_eq_true (by first | (with_reducible assumption) | assumption)
            have q387 : x6_1 < (l0.length : Int) := of_decide_eq_true (by first | (with_reducible assumption) | assumption)
            obtain ⟨ad387, e387, hx387_0, hx387_1⟩ := at_T74 HR0.out x6_1 p387 q387
            obtain rfl : ad386 = ad387 := (by injection e387)
            replace hx387_0 := bcell HB.out hx387_0
            replace hx387_1 := bcell HB.out hx387_1
            replace p387 := eq_true p387
            replace q387 := eq_true q387
            have p388 : 0 ≤ (x6_1 : Int) := of_decide_eq_true (by first | (with_reducible assumption) | assumption)
            have q388 : x6_1 < (l0.length : Int) := of_decide_eq_true (by first | (with_reducible assumption) | assumption)
            obtain ⟨ad388, e388, hx388_0, hx388_1⟩ := at_T74 HR0.out x6_1 p388 q388
            obtain rfl : ad386 = ad388 := (by injection e388)
            replace hx388_0 := bcell HB.out hx388_0
            replace hx388_1 := bcell HB.out hx388_1
            replace p388 := eq_true p388
            replace q388 := eq_true q388
            go_wp2_with (first | ((with_reducible refine gate_builtin (b := .append) (xs := #[.tmp 44, .tmp 52]) rfl ?_); at_builtin; refine Kd.R_append k74 (w0 := w) w.heap.size rfl (.tmp 44) (.tmp 52) 37 74 (.agg #[(.int .i64 0), (.int .i64 0)]) 16 rfl Try.underlying37 info74 rfl (by decide) (by omega) u5 x5_1 (⟨wrap64 (((rd_T74 l0 x6_1).f0) - (wrap64 (16 * a1))), (rd_T74 l0 x6_1).f1⟩ : S74) [.int .i64 (wrap64 (((rd_T74 l0 x6_1).f0) - (wrap64 (16 * a1)))), .int .i64 ((rd_T74 l0 x6_1).f1)] (fun _ => True) (fun _ => False) rfl rfl ?aP (fun _ hk => hk.elim) ?aF ?aO ?aB ?aS ?aL ?_; (case aP => exact k74_mkM _ _ _ (⟨wrap64 (((rd_T74 l0 x6_1).f0) - (wrap64 (16 * a1))), (rd_T74 l0 x6_1).f1⟩ : S74)); (case aB => exact (by repeat (first | (with_reducible first | exact HB.out | apply bal | apply bdN | apply bd1) | exact HB.out))); (case aF => exact (fun _ _ => trivial)); (case aO => exact (by (with_reducible repeat (first | apply Kd.R_alloc | apply Kd.R_drewN | apply Kd.R_drew)); exact HO_5.out)); (case aS => exact (bsz (by repeat (first | (with_reducible first | exact HB.out | apply bal | apply bdN | apply bd1) | exact HB.out)))); (case aL => have := LMc12.out; omega); intro v390 w13 ho hb hg hat; rw [← Ny389.out] at ho; have n0_ := Aside0.mk (hb); have n1_ := Aside0.mk (ho); clear HB; clear HO_5; have HB := n0_; have HO391 := n1_; clear n0_ n1_; clear ho hb hg hat))
            go_roundg kj2
            case measure => have := HK1.out; have := HJ2.out; omega
            case rel => exact ⟨(y389), (wrap64 (x6_1 + 1)), (by first | rfl | (simp; done) | (simp [*]; done)), H', ⟨by have := HK1.out; have := HJ2.out; omega⟩, ⟨by (with_reducible repeat (first | apply Kd.R_alloc | apply Kd.R_drewN | apply Kd.R_drew)); exact HO391.out⟩, ⟨by repeat (first | (with_reducible first | exact HB.out | apply bal | apply bdN | apply bd1) | exact HB.out)⟩⟩
           ·rw [if_neg c12] at H
            exact absurd H (by simp)
          ·rw [if_neg c11] at H
           have c11b0 : decide (0 ≤ ((rd_T74 l0 x6_1).f0)) = false := decide_eq_false c11
           clear c11
           have H' := Aside0.mk H
           clear H
           have p386 : 0 ≤ (x6_1 : Int) := of_decide_eq_true (by first | (with_reducible assumption) | assumption)
           have q386 : x6_1 < (l0.length : Int) := of_decide_eq_true (by first | (with_reducible assumption) | assumption)
           obtain ⟨ad386, e386, hx386_0, hx386_1⟩ := at_T74 HR0.out x6_1 p386 q386
           cases e386
           replace hx386_0 := bcell HB.out hx386_0
           replace hx386_1 := bcell HB.out hx386_1
           replace p386 := eq_true p386
           replace q386 := eq_true q386
           have p387 : 0 ≤ (x6_1 : Int) := of_decide_eq_true (by first | (with_reducible assumption) | assumption)
           have q387 : x6_1 < (l0.length : Int) := of_decide_eq_true (by first | (with_reducible assumption) | assumption)
           obtain ⟨ad387, e387, hx387_0, hx387_1⟩ := at_T74 HR0.out x6_1 p387 q387
           obtain rfl : ad386 = ad387 := (by injection e387)
           replace hx387_0 := bcell HB.out hx387_0
           replace hx387_1 := bcell HB.out hx387_1
           replace p387 := eq_true p387
           replace q387 := eq_true q387
           go_wp2
           go_roundg kj2
           case measure => have := HK1.out; have := HJ2.out; omega
           case rel => exact ⟨(x5_1), (wrap64 (x6_1 + 1)), (by first | rfl | (simp; done) | (simp [*]; done)), H', ⟨by have := HK1.out; have := HJ2.out; omega⟩, ⟨by (with_reducible repeat (first | apply Kd.R_alloc | apply Kd.R_drewN | apply Kd.R_drew)); exact HO_5.out⟩, ⟨by repeat (first | (with_reducible first | exact HB.out | apply bal | apply bdN | apply bd1) | exact HB.out)⟩⟩
         ·rw [if_neg c10] at H
          have c10b0 : decide ((wrap64 (((rd_T74 l0 x6_1).f0) - (wrap64 (16 * a1)))) ≤ 15) = false := decide_eq_false c10
          clear c10
          have H' := Aside0.mk H
          clear H
          have p386 : 0 ≤ (x6_1 : Int) := of_decide_eq_true (by first | (with_reducible assumption) | assumption)
          have q386 : x6_1 < (l0.length : Int) := of_decide_eq_true (by first | (with_reducible assumption) | assumption)
          obtain ⟨ad386, e386, hx386_0, hx386_1⟩ := at_T74 HR0.out x6_1 p386 q386
          cases e386
          replace hx386_0 := bcell HB.out hx386_0
          replace hx386_1 := bcell HB.out hx386_1
          replace p386 := eq_true p386
          replace q386 := eq_true q386
          go_wp2
          go_roundg kj2
          case measure => have := HK1.out; have := HJ2.out; omega
          case rel => exact ⟨(x5_1), (wrap64 (x6_1 + 1)), (by first | rfl | (simp; done) | (simp [*]; done)), H', ⟨by have := HK1.out; have := HJ2.out; omega⟩, ⟨by (with_reducible repeat (first | apply Kd.R_alloc | apply Kd.R_drewN | apply Kd.R_drew)); exact HO_5.out⟩, ⟨by repeat (first | (with_reducible first | exact HB.out | apply bal | apply bdN | apply bd1) | exact HB.out)⟩⟩
        ·rw [if_neg c9] at H
         have c9b0 : decide (0 ≤ (wrap64 (((rd_T74 l0 x6_1).f0) - (wrap64 (16 * a1))))) = false := decide_eq_false c9
         clear c9
         have H' := Aside0.mk H
         clear H
         have p386 : 0 ≤ (x6_1 : Int) := of_decide_eq_true (by first | (with_reducible assumption) | assumption)
         have q386 : x6_1 < (l0.length : Int) := of_decide_eq_true (by first | (with_reducible assumption) | assumption)
         obtain ⟨ad386, e386, hx386_0, hx386_1⟩ := at_T74 HR0.out x6_1 p386 q386
         cases e386
         replace hx386_0 := bcell HB.out hx386_0
         replace hx386_1 := bcell HB.out hx386_1
         replace p386 := eq_true p386
         replace q386 := eq_true q386
         go_wp2
         go_roundg kj2
         case measure => have := HK1.out; have := HJ2.out; omega
         case rel => exact ⟨(x5_1), (wrap64 (x6_1 + 1)), (by first | rfl | (simp; done) | (simp [*]; done)), H', ⟨by have := HK1.out; have := HJ2.out; omega⟩, ⟨by (with_reducible repeat (first | apply Kd.R_alloc | apply Kd.R_drewN | apply Kd.R_drew)); exact HO_5.out⟩, ⟨by repeat (first | (with_reducible first | exact HB.out | apply bal | apply bdN | apply bd1) | exact HB.out)⟩⟩
       ·rw [if_neg c8] at H
        exact absurd H (by simp)
      ·rw [if_neg c7] at H
       exact absurd H (by simp)
     ·replace c6 := Bool.eq_false_iff.mpr c6
      subst c6
      have H1 : (some x5_1) = some r := by rw [if_neg (show ¬ (false = true) by decide)] at H; exact H
      clear H
      have H := H1
      clear H1
      obtain rfl := Option.some.inj H
      go_wp2
      go_ret
      exact ⟨_, by first | rfl | (simp [*] <;> rfl), by (with_reducible repeat (first | apply Kd.R_alloc | apply Kd.R_drewN | apply Kd.R_drew)); exact HO_5.out, by repeat (first | (with_reducible first | exact HB.out | apply bal | apply bdN | apply bd1) | exact HB.out)⟩
def w12_ProdTells.f (k : Nat) (l0 : List (S74)) (a1 : Int) : Option (Bool) := (prod_Told.f k l0 a1).bind fun t392 => ((r12_Told.f k l0 a1).bind fun t395 => ((r5_Outs.f k t392 t395).bind fun t398 => (if t398 = true then ((w12_awake.f k).bind fun t399 => (some t399)) else (some false))))
set_option maxHeartbeats 8000000 in
set_option maxRecDepth 100000 in
theorem w12_ProdTells.calls (k : Nat) (A0 : Option Addr) (c0 : Nat) (l0 : List (S74)) (a1 : Int) (r : Bool) (w : World) (hr0 : Kd.C k74 w A0 l0.length l0) (hc0 : l0.length ≤ c0) (hrt : r = true) (h : w12_ProdTells.f k l0 a1 = some r) :
  Calls Try.prog 4 #[.slice A0 l0.length c0, .int .i64 a1] w fun e w' => e = .returned (.bool r) ∧ Below w.heap.size w w' := by
 have HR0 := Aside0.mk hr0
 have HC0 := Aside0.mk hc0
 clear hr0 hc0
 have HB := Aside0.mk (Below.refl w.heap.size w)
 have H : ((prod_Told.f k l0 a1).bind fun t392 => ((r12_Told.f k l0 a1).bind fun t395 => ((r5_Outs.f k t392 t395).bind fun t398 => (if t398 = true then ((w12_awake.f k).bind fun t399 => (some t399)) else (some false))))) = some r := h
 clear h
 replace H := Option.bind_eq_some_iff.mp H
 obtain ⟨t392, A30, H⟩ := H
 replace H : ((r12_Told.f k l0 a1).bind fun t395 => ((r5_Outs.f k t392 t395).bind fun t398 => (if t398 = true then ((w12_awake.f k).bind fun t399 => (some t399)) else (some false)))) = some r := H
 have A3 := Aside0.mk A30
 clear A30
 replace H := Option.bind_eq_some_iff.mp H
 obtain ⟨t395, A40, H⟩ := H
 replace H : ((r5_Outs.f k t392 t395).bind fun t398 => (if t398 = true then ((w12_awake.f k).bind fun t399 => (some t399)) else (some false))) = some r := H
 have A4 := Aside0.mk A40
 clear A40
 replace H := Option.bind_eq_some_iff.mp H
 obtain ⟨t398, A50, H⟩ := H
 replace H : (if t398 = true then ((w12_awake.f k).bind fun t399 => (some t399)) else (some false)) = some r := H
 have A5 := Aside0.mk A50
 clear A50
 by_cases c6 : t398 = true
 ·subst c6
  have H1 : ((w12_awake.f k).bind fun t399 => (some t399)) = some r := by rw [if_pos rfl] at H; exact H
  clear H
  have H := H1
  clear H1
  replace H := Option.bind_eq_some_iff.mp H
  obtain ⟨t399, A70, H⟩ := H
  replace H : (some t399) = some r := H
  have A7 := Aside0.mk A70
  clear A70
  obtain rfl := Option.some.inj H
  go_enter Try.func4, Try.ntmps4
  go_wp2_with (first | ((with_reducible refine gate_callee (f := 16) rfl ?_); refine goesL_ (some 7) rfl rfl Try.func16 (by kernel_rfl) rfl #[.slice A0 l0.length c0, .int .i64 a1] rfl (by (try simp only [List.map_toArray, List.map_cons, List.map_nil]); first | done | rfl | (simp only [List.length_drop, List.length_take]; rfl)) ?_; (with_reducible refine (prod_Told.calls k _ _ l0 a1 t392 _ ?side1 ?side2 A3.out).mono ?_); (case side1 => repeat (first | exact HR0.out | with_reducible first | apply Kd.C_alloc | apply Kd.C_drewN | apply Kd.C_drew)); (case side2 => exact HC0.out); rintro e w8 ⟨v393, rfl, ho0, hb⟩; refine ⟨_, rfl, ?_⟩; have n0_ := Aside0.mk (Kd.R_lower ho0 (bsz (by repeat (first | (with_reducible first | exact HB.out | apply bal | apply bdN | apply bd1) | exact HB.out)))); have n1_ := Aside0.mk (bsp (by repeat (first | (with_reducible first | exact HB.out | apply bal | apply bdN | apply bd1) | exact HB.out)) hb); clear HB; have HO394 := n0_; have HB := n1_; clear n0_ n1_; (try clear hb); (try clear hb2); (try clear hk); (try clear hi); (try clear ho0)) | ((with_reducible refine gate_callee (f := 17) rfl ?_); refine goesL_ (some 10) rfl rfl Try.func17 (by kernel_rfl) rfl #[.slice A0 l0.length c0, .int .i64 a1] rfl (by (try simp only [List.map_toArray, List.map_cons, List.map_nil]); first | done | rfl | (simp only [List.length_drop, List.length_take]; rfl)) ?_; (with_reducible refine (r12_Told.calls k _ _ l0 a1 t395 _ ?side1 ?side2 A4.out).mono ?_); (case side1 => repeat (first | exact (Kd.C_below HR0.out HB.out) | with_reducible first | apply Kd.C_alloc | apply Kd.C_drewN | apply Kd.C_drew)); (case side2 => exact HC0.out); rintro e w9 ⟨v396, rfl, ho0, hb⟩; refine ⟨_, rfl, ?_⟩; have n0_ := Aside0.mk (Kd.R_elder' (by (with_reducible repeat (first | apply Kd.R_alloc | apply Kd.R_drewN | apply Kd.R_drew)); exact HO394.out) (Kd.R_base ho0) hb); have n1_ := Aside0.mk (Kd.R_lower (Kd.R_new' ho0 (Kd.R_lt (by (with_reducible repeat (first | apply Kd.R_alloc | apply Kd.R_drewN | apply Kd.R_drew)); exact HO394.out))) (bsz (by repeat (first | (with_reducible first | exact HB.out | apply bal | apply bdN | apply bd1) | exact HB.out)))); have n2_ := Aside0.mk (bsp (by repeat (first | (with_reducible first | exact HB.out | apply bal | apply bdN | apply bd1) | exact HB.out)) hb); clear HO394; clear HB; have HO394 := n0_; have HO397 := n1_; have HB := n2_; clear n0_ n1_ n2_; (try clear hb); (try clear hb2); (try clear hk); (try clear hi); (try clear ho0); obtain ⟨Ao10, co10, eo10⟩ := Kd.R_slice HO394.out; subst eo10; obtain ⟨Ao11, co11, eo11⟩ := Kd.R_slice HO397.out; subst eo11) | ((with_reducible refine gate_callee (f := 15) rfl ?_); refine goesL_ (some 11) rfl rfl Try.func15 (by kernel_rfl) rfl #[.slice Ao10 t392.length co10, .slice Ao11 t395.length co11] rfl (by (try simp only [List.map_toArray, List.map_cons, List.map_nil]); first | done | rfl | (simp only [List.length_drop, List.length_take]; rfl)) ?_; (with_reducible refine (r5_Outs.calls k _ _ t392 _ _ t395 true _ ?side1 ?side2 ?side3 ?side4 A5.out).mono ?_); (case side1 => repeat (first | exact (Kd.R_reads' HO394.out).2.2 | with_reducible first | apply Kd.C_alloc | apply Kd.C_drewN | apply Kd.C_drew)); (case side2 => exact (Kd.R_reads' HO394.out).2.1); (case side3 => repeat (first | exact (Kd.R_reads' HO397.out).2.2 | with_reducible first | apply Kd.C_alloc | apply Kd.C_drewN | apply Kd.C_drew)); (case side4 => exact (Kd.R_reads' HO397.out).2.1); rintro e w' ⟨rfl, ⟨nd, rfl⟩⟩; refine ⟨_, rfl, ?_⟩) | (go_at_call 11; (with_reducible refine (w12_awake.calls k  t399 _ A7.out).mono ?_); rintro e w12 ⟨rfl, hb⟩; have n0_ := Aside0.mk (Kd.R_below (by (with_reducible repeat (first | apply Kd.R_alloc | apply Kd.R_drewN | apply Kd.R_drew)); exact HO394.out) hb); have n1_ := Aside0.mk (Kd.R_below (by (with_reducible repeat (first | apply Kd.R_alloc | apply Kd.R_drewN | apply Kd.R_drew)); exact HO397.out) hb); have n2_ := Aside0.mk (bsp (by repeat (first | (with_reducible first | exact HB.out | apply bal | apply bdN | apply bd1) | exact HB.out)) hb); clear HO394; clear HO397; clear HB; have HO394 := n0_; have HO397 := n1_; have HB := n2_; clear n0_ n1_ n2_; (try clear hb); (try clear hb2); (try clear hk); (try clear hi)))
  go_ret
  exact ⟨by first | rfl | (simp [*] <;> rfl), by repeat (first | (with_reducible first | exact HB.out | apply bal | apply bdN | apply bd1) | exact HB.out)⟩
 ·replace c6 := Bool.eq_false_iff.mpr c6
  subst c6
  have H1 : (some false) = some r := by rw [if_neg (show ¬ (false = true) by decide)] at H; exact H
  clear H
  have H := H1
  clear H1
  exact absurd ((Option.some.inj H).trans hrt) (by decide)
end Go.Proofs.Ytilebfkehmecaaa.Print
namespace Go.Proofs.Ytilebfkehmecaaa.Print
open Go.RowKit Go.Proofs.YtilebfkehmecaaaW.PrintWords Go.Proofs.YtilebfkehmecaaaW.PrintLast Go.Proofs.YtilebfkehmecaaaW.PrintMore
attribute [local go_sem] max2_int min2_int max_two min_two max_three min_three max_four min_four
set_option linter.unusedVariables false
set_option linter.unusedSimpArgs false
open Go.RowKit
theorem rdO_mid (pre : List S74) (x : S74) (r : List S74) : rd_T74 (pre ++ x :: r) (pre.length : Int) = x := getD_mid pre x _ r
def tld (i : Int) (x : S74) : Option S74 := if 16 * i ≤ x.f0 ∧ x.f0 ≤ 16 * i + 15 then some ⟨x.f0 - 16 * i, x.f1⟩ else none
theorem told_l0 (i : Int) (h0 : 0 ≤ i) (h3 : i < 3) : ∀ (suf pre acc : List S74), (∀ x ∈ suf, -9223372036854775808 ≤ x.f0 ∧ x.f0 ≤ 9223372036854775807) → (pre ++ suf).length ≤ 8796093022207 → acc.length ≤ pre.length →
    Tells (fun k => prod_Told.l0 k i acc (pre ++ suf) ((pre ++ suf).length : Int) (pre.length : Int)) (acc ++ suf.filterMap (tld i))
  | [], pre, acc, _, _, _ => by
    refine Tells.succ ?_
    simp only [prod_Told.l0, pre_nlt, if_false]
    rw [List.filterMap_nil, List.append_nil]
    exact Tells.pure _
  | x :: r, pre, acc, hw, hl, ha => by
    obtain ⟨w0, w1⟩ := hw x (by simp)
    have hl2 : (pre ++ x :: r).length = pre.length + (r.length + 1) := by rw [List.length_append, List.length_cons]
    refine Tells.succ ?_
    simp only [prod_Told.l0, pre_lt, pre_pos, if_true, rdO_mid]
    rw [w64 (n := 16 * i) (by omega) (by omega), w64 (n := 16 * i + 15) (by omega) (by omega), pre_next pre x r (by omega)]
    have ih := told_l0 i h0 h3 r (pre ++ [x])
    have e1 : (pre ++ x :: r) = (pre ++ [x]) ++ r := pre_app _ _ _
    by_cases c1 : x.f0 ≥ 16 * i
    · by_cases c2 : x.f0 ≤ 16 * i + 15
      · have ht : tld i x = some ⟨x.f0 - 16 * i, x.f1⟩ := if_pos ⟨c1, c2⟩
        rw [List.filterMap_cons_some ht, w64 (n := x.f0 - 16 * i) (by omega) (by omega)]
        refine Tells.ifT c1 (Tells.ifT c2 (Tells.ifT (by omega) ?_))
        have h := ih (acc ++ [⟨x.f0 - 16 * i, x.f1⟩]) (fun y hy => hw y (by simp [hy])) (by rw [← e1]; exact hl) (by simp; omega)
        rw [← e1, List.append_assoc, List.singleton_append] at h
        exact h
      · have ht : tld i x = none := if_neg (fun h => c2 h.2)
        rw [List.filterMap_cons_none ht]
        refine Tells.ifT c1 (Tells.ifF c2 ?_)
        have h := ih acc (fun y hy => hw y (by simp [hy])) (by rw [← e1]; exact hl) (by simp; omega)
        rw [← e1] at h
        exact h
    · have ht : tld i x = none := if_neg (fun h => c1 h.1)
      rw [List.filterMap_cons_none ht]
      refine Tells.ifF c1 ?_
      have h := ih acc (fun y hy => hw y (by simp [hy])) (by rw [← e1]; exact hl) (by simp; omega)
      rw [← e1] at h
      exact h
theorem toldR_l0 (i : Int) (h0 : 0 ≤ i) (h3 : i < 3) : ∀ (suf pre acc : List S74), (∀ x ∈ suf, -9223372036854775808 ≤ x.f0 ∧ x.f0 ≤ 9223372036854775807) → (pre ++ suf).length ≤ 8796093022207 → acc.length ≤ pre.length →
    Tells (fun k => r12_Told.l0 k (pre ++ suf) i acc (pre.length : Int)) (acc ++ suf.filterMap (tld i))
  | [], pre, acc, _, _, _ => by
    refine Tells.succ ?_
    simp only [r12_Told.l0, pre_nlt, if_false]
    refine Tells.succ ?_
    simp only [r12_Told.j1, Bool.false_eq_true, if_false]
    rw [List.filterMap_nil, List.append_nil]
    exact Tells.pure _
  | x :: r, pre, acc, hw, hl, ha => by
    obtain ⟨w0, w1⟩ := hw x (by simp)
    have hl2 : (pre ++ x :: r).length = pre.length + (r.length + 1) := by rw [List.length_append, List.length_cons]
    have d3 : decide (i < 3) = true := decide_eq_true h3
    refine Tells.succ ?_
    simp only [r12_Told.l0, pre_lt, if_true, d3]
    refine Tells.ifT h0 ?_
    refine Tells.succ ?_
    simp only [r12_Told.j1, pre_lt, pre_pos, if_true, rdO_mid]
    rw [w64 (n := 16 * i) (by omega) (by omega), pre_next pre x r (by omega)]
    have ih := toldR_l0 i h0 h3 r (pre ++ [x])
    have e1 : (pre ++ x :: r) = (pre ++ [x]) ++ r := pre_app _ _ _
    by_cases c : 16 * i ≤ x.f0 ∧ x.f0 ≤ 16 * i + 15
    · obtain ⟨c1, c2⟩ := c
      have ht : tld i x = some ⟨x.f0 - 16 * i, x.f1⟩ := if_pos ⟨c1, c2⟩
      rw [List.filterMap_cons_some ht, w64 (n := x.f0 - 16 * i) (by omega) (by omega)]
      refine Tells.ifT (by omega) (Tells.ifT (by omega) (Tells.ifT (by omega) (Tells.ifT (by omega) ?_)))
      have h := ih (acc ++ [⟨x.f0 - 16 * i, x.f1⟩]) (fun y hy => hw y (by simp [hy])) (by rw [← e1]; exact hl) (by simp; omega)
      rw [← e1, List.append_assoc, List.singleton_append] at h
      exact h
    · have ht : tld i x = none := if_neg c
      rw [List.filterMap_cons_none ht]
      have h := ih acc (fun y hy => hw y (by simp [hy])) (by rw [← e1]; exact hl) (by simp; omega)
      rw [← e1] at h
      by_cases a1 : wrap64 (x.f0 - 16 * i) ≥ 0
      · by_cases a2 : wrap64 (x.f0 - 16 * i) ≤ 15
        · by_cases a3 : x.f0 ≥ 0
          · exfalso
            rw [w64 (by omega) (by omega)] at a1 a2
            exact c ⟨by omega, by omega⟩
          · exact Tells.ifT a1 (Tells.ifT a2 (Tells.ifF a3 h))
        · exact Tells.ifT a1 (Tells.ifF a2 h)
      · exact Tells.ifF a1 h
theorem outs_l0 : ∀ (suf pre : List S74), (pre ++ suf).length ≤ 9223372036854775807 → Tells (fun k => r5_Outs.l0 k (pre ++ suf) (pre ++ suf) (pre.length : Int)) true
  | [], pre, _ => by
    refine Tells.succ ?_
    simp only [r5_Outs.l0, pre_nlt, if_false]
    exact Tells.pure _
  | x :: r, pre, hl => by
    refine Tells.succ ?_
    simp only [r5_Outs.l0, pre_lt, pre_pos, if_true, rdO_mid, beq_self_eq_true, Bool.not_true, Bool.or_self, Bool.false_eq_true, if_false]
    rw [pre_next pre x r hl, pre_app pre x r]
    exact outs_l0 r (pre ++ [x]) (by rw [← pre_app]; exact hl)
theorem outs_same (l : List S74) (hl : l.length ≤ 9223372036854775807) : Tells (fun k => r5_Outs.f k l l) true := by
  unfold r5_Outs.f
  simp only [if_true]
  exact outs_l0 l [] hl
theorem tells_law (l : List S74) (a1 : Int) (hl : l.length ≤ 8796093022207) (hw : ∀ x ∈ l, (Lit.int .i64 x.f0).wf = true) : ∃ k, ∀ k', k ≤ k' → w12_ProdTells.f k' l a1 = some true := by
  have hw' : ∀ x ∈ l, -9223372036854775808 ≤ x.f0 ∧ x.f0 ≤ 9223372036854775807 := fun x hx => by
    have := hw x hx
    simp only [Lit.wf, Bool.and_eq_true, decide_eq_true_eq] at this
    have e1 : IntKind.i64.min = -9223372036854775808 := by decide
    have e2 : IntKind.i64.max = 9223372036854775807 := by decide
    rw [e1, e2] at this
    omega
  show Tells (fun k => w12_ProdTells.f k l a1) true
  unfold w12_ProdTells.f
  obtain ⟨v, hv, h1, h2⟩ : ∃ v : List S74, v.length ≤ 9223372036854775807 ∧ Tells (fun k => prod_Told.f k l a1) v ∧ Tells (fun k => r12_Told.f k l a1) v := by
    by_cases h : 0 ≤ a1 ∧ a1 < 3
    · refine ⟨l.filterMap (tld a1), Nat.le_trans (List.length_filterMap_le _ _) (by omega), ?_, ?_⟩
      · unfold prod_Told.f
        have d : decide (a1 ≥ 3) = false := decide_eq_false (by omega)
        refine Tells.ifF (by omega) ?_
        rw [d]
        refine Tells.succ ?_
        simp only [prod_Told.j0, Bool.false_eq_true, if_false]
        exact told_l0 a1 h.1 h.2 l [] [] hw' hl (Nat.le_refl _)
      · unfold r12_Told.f
        exact toldR_l0 a1 h.1 h.2 l [] [] hw' hl (Nat.le_refl _)
    · refine ⟨[], by simp, ?_, ?_⟩
      · unfold prod_Told.f
        by_cases c : a1 < 0
        · refine Tells.ifT c (Tells.succ ?_)
          simp only [prod_Told.j0, if_true]
          exact Tells.pure _
        · have d : decide (a1 ≥ 3) = true := decide_eq_true (by omega)
          refine Tells.ifF c ?_
          rw [d]
          refine Tells.succ ?_
          simp only [prod_Told.j0, if_true]
          exact Tells.pure _
      · unfold r12_Told.f
        have key : ∀ b i, b = false → Tells (fun k => r12_Told.j1 k l a1 [] i b) [] := by
          rintro b i rfl
          refine Tells.succ ?_
          simp only [r12_Told.j1, Bool.false_eq_true, if_false]
          exact Tells.pure _
        refine Tells.succ ?_
        simp only [r12_Told.l0]
        by_cases c0 : (0 : Int) < (l.length : Int)
        · refine Tells.ifT c0 ?_
          by_cases c : a1 ≥ 0
          · exact Tells.ifT c (key _ _ (decide_eq_false (by omega)))
          · exact Tells.ifF c (key _ _ rfl)
        · exact Tells.ifF c0 (key _ _ rfl)
  refine Tells.bind h1 (Tells.bind h2 (Tells.bind (outs_same v hv) ?_))
  simp only [if_true]
  exact Tells.pure _
end Go.Proofs.Ytilebfkehmecaaa.Print
