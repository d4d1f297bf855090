/- For every program the law CompOwn returns true, and what came in reads as before. No condition. -/
import Derived.Test.YtnlekgadadifdaaO1
import Derived.ArgAppend
import Derived.Below
import Derived.BigQuiet
import Derived.ChangeArms
import Derived.ChangeSlices
import Derived.Deep.AppendLies
import Derived.Deep.CutBlock
import Derived.Deep.DeepCutAuto
import Derived.Deep.Draws
import Derived.Deep.LoopGhost
import Derived.Deep.OwnRows
import Derived.Deep.QuietTactic
import Derived.Deep.RegionHeld3
import Derived.KernelRfl
import Derived.Laws.BitsLemmas
import Derived.Laws.BytesArg
import Derived.Laws.IdiomCopy
import Derived.Laws.MakeOwn
import Derived.Laws.OwnMore
import Derived.Laws.Rows
import Derived.Laws.Slices
import Derived.Lib.AppendStr
import Derived.Lib.ConvBytes
import Derived.Maps.AppendAt
import Derived.Maps.OwnSet
import Derived.OrdersHeld
import Derived.OwnWalk
import Derived.RowKit
import Derived.RowKit3
import Derived.StringKeys
import Derived.Tactics
import Derived.Test.YtnlekgadadifdaaProg
import Derived.WalkKit
import Derived.WideLaws
set_option maxRecDepth 100000
set_option maxHeartbeats 16000000
namespace Go.Proofs.Ytnlekgadadifdaa.Print
open Go.RowKit Go.Proofs.YtnlekgadadifdaaW.PrintWords Go.Proofs.YtnlekgadadifdaaW.PrintLast
theorem add_add (a : Addr) (i j : Nat) : (a.add i).add j = a.add (i + j) := by
  unfold Addr.add
  by_cases hi : i = 0 <;> by_cases hj : j = 0 <;> simp [hi, hj, Nat.add_assoc]
def Opens {α : Type} (P : Program) (n : Nat) (t : TypeId) (d : Kd α) (φ : α → Prop) : Prop :=
  ∀ (H : Type) (enc : TypeId × Value → H) (W : World) (sp : Nat → Bool) (hd : Bool) (cs : List Value) (y : DataW H × List MemPlace), DataW.trod enc P W 0 sp hd n t cs = some y → ∃ x, d.K W x cs ∧ φ x
def OpensFs {α : Type} (P : Program) (n : Nat) (fs : List Field) (o : Nat) (d : Kd α) (φ : α → Prop) : Prop :=
  ∀ (H : Type) (enc : TypeId × Value → H) (W : World) (sp : Nat → Bool) (hd : Bool) (cs : List Value) (y : List (DataW H × List MemPlace)), cs.length = o + d.sz →
    fs.mapM (fun f => DataW.trod enc P W 0 sp hd n f.type ((cs.drop f.offset).take (P.cellsOf f.type))) = some y → ∃ x, d.K W x (cs.drop o) ∧ φ x
theorem opens_int {P : Program} {n : Nat} {t : TypeId} {k : IntKind} (ht : P.underlying t = some (.int k)) : Opens P n t (Kd.int k) (fun x => (Lit.int k x).wf = true) := by
  intro H enc W sp hd cs y h
  obtain ⟨x, rfl, _, hx⟩ := DataW.trod_int ht h
  exact ⟨x, rfl, hx⟩
theorem opens_string {P : Program} {n : Nat} {t : TypeId} (ht : P.underlying t = some .string) : Opens P n t Kd.string (fun x => x.size ≤ maxLen) := by
  intro H enc W sp hd cs y h
  cases n with
  | zero => simp [DataW.trod] at h
  | succ n =>
    unfold DataW.trod at h
    rw [ht] at h
    split at h <;> simp_all
    exact ⟨_, rfl, h.1⟩
theorem opens_slice {α : Type} {P : Program} {n : Nat} {t e : TypeId} {d : Kd α} {φ : α → Prop} (ht : P.underlying t = some (.slice e)) (hc : P.cellsOf e = d.sz) (h : Opens P n e d φ) :
    Opens P (n + 1) t (Kd.slice e d) (fun xs => xs.length ≤ maxLen ∧ ∀ x ∈ xs, φ x) := by
  intro H enc W sp hd cs y hy
  rcases DataW.trod_slice ht hy with ⟨rfl, _⟩ | ⟨a, len, cap, elems, rest, m, hf, rfl, _, hb, hl, hm, hlen, hel, _, _⟩
  · exact ⟨[], ⟨none, 0, rfl, Nat.le_refl _, rfl, by simp, fun h => absurd h (by simp)⟩, by simp [maxLen], fun x hx => absurd hx (by simp)⟩
  · injection hf with hf
    subst hf
    have one : ∀ i, i < len → ∃ x, (∃ cs', W.cells? 0 (a.add (i * P.cellsOf e)) (P.cellsOf e) = some cs' ∧ d.K W x cs') ∧ φ x := fun i hi => by
      have h1 := hel i hi
      have hi' : i < elems.length := by omega
      rw [List.getElem?_eq_getElem hi', Option.bind_eq_some_iff] at h1
      obtain ⟨cs', h2, h3⟩ := h1
      obtain ⟨x, hx, hp⟩ := h H enc W sp hd cs' _ h3
      exact ⟨x, ⟨cs', h2, hx⟩, hp⟩
    have many : ∀ k, k ≤ len → ∃ xs : List α, xs.length = k ∧ ∀ i x, xs[i]? = some x → (∃ cs', W.cells? 0 (a.add (i * P.cellsOf e)) (P.cellsOf e) = some cs' ∧ d.K W x cs') ∧ φ x := by
      intro k
      induction k with
      | zero => exact fun _ => ⟨[], rfl, fun i x hx => by simp at hx⟩
      | succ k ih =>
        intro hk
        obtain ⟨xs, hxl, hxs⟩ := ih (by omega)
        obtain ⟨x, hx⟩ := one k (by omega)
        refine ⟨xs ++ [x], by simp [hxl], fun i z hz => ?_⟩
        rcases Nat.lt_or_ge i xs.length with hi | hi
        · rw [List.getElem?_append_left hi] at hz
          exact hxs i z hz
        · rw [List.getElem?_append_right hi] at hz
          have hi0 : i - xs.length = 0 := by
            rcases Nat.eq_zero_or_pos (i - xs.length) with h0 | h0
            · exact h0
            · rw [List.getElem?_eq_none (by simp only [List.length_singleton]; omega)] at hz
              exact absurd hz (by simp)
          rw [hi0] at hz
          have hzx : x = z := by simpa using hz
          have hik : i = k := by omega
          subst hzx hik
          exact hx
    obtain ⟨xs, hxl, hxs⟩ := many len (Nat.le_refl _)
    refine ⟨xs, ⟨some a, cap, by rw [hxl], by omega, ⟨rfl, by unfold maxLen at hm; omega, fun _ => ⟨a, rfl, fun j p hj => ?_⟩⟩⟩, by omega, fun x hx => ?_⟩
    · obtain ⟨⟨cs', h2, h3⟩, _⟩ := hxs j p hj
      refine ⟨cs', d.K_len h3, h3, fun i u hu => ?_⟩
      rw [hc] at h2
      obtain ⟨_, h5, h4⟩ := World.cells?_some h2
      obtain ⟨hi, hu'⟩ := List.getElem?_eq_some_iff.1 hu
      have h6 := h4 i (by omega)
      rw [add_add] at h6
      rw [h6]
      exact hu
    · obtain ⟨i, hi⟩ := List.getElem?_of_mem hx
      exact (hxs i x hi).2
theorem opensFs_one {α : Type} {P : Program} {n : Nat} {f : Field} {o : Nat} {d : Kd α} {φ : α → Prop} (ho : f.offset = o) (hc : P.cellsOf f.type = d.sz) (h : Opens P n f.type d φ) : OpensFs P n [f] o d φ := by
  intro H enc W sp hd cs y hl hy
  simp only [List.mapM_cons, List.mapM_nil, Option.bind_eq_bind, Option.pure_def, Option.bind_eq_some_iff] at hy
  obtain ⟨a, h1, _⟩ := hy
  rw [ho, hc, List.take_of_length_le (by simp [hl])] at h1
  exact h H enc W sp hd _ _ h1
theorem opensFs_cons {α β : Type} {P : Program} {n : Nat} {f : Field} {fs : List Field} {o : Nat} {d : Kd α} {d' : Kd β} {φ : α → Prop} {ψ : β → Prop} (ho : f.offset = o) (hc : P.cellsOf f.type = d.sz) (h : Opens P n f.type d φ)
    (hs : OpensFs P n fs (o + d.sz) d' ψ) : OpensFs P n (f :: fs) o (Kd.pair d d') (fun x => φ x.1 ∧ ψ x.2) := by
  intro H enc W sp hd cs y hl hy
  have hl' : cs.length = o + (d.sz + d'.sz) := hl
  simp only [List.mapM_cons, Option.bind_eq_bind, Option.pure_def, Option.bind_eq_some_iff] at hy
  obtain ⟨a, h1, b, h2, _⟩ := hy
  rw [ho, hc] at h1
  obtain ⟨x, hx, px⟩ := h H enc W sp hd _ _ h1
  obtain ⟨z, hz, pz⟩ := hs H enc W sp hd cs b (by omega) h2
  refine ⟨(x, z), ⟨_, _, ?_, hx, hz⟩, px, pz⟩
  rw [← List.drop_drop, List.take_append_drop]
theorem opens_struct {α : Type} {P : Program} {n : Nat} {t : TypeId} {fs : Array Field} {d : Kd α} {φ : α → Prop} (ht : P.underlying t = some (.struct fs)) (hc : P.cellsOf t = d.sz) (h : OpensFs P n fs.toList 0 d φ) : Opens P (n + 1) t d φ := by
  intro H enc W sp hd cs y hy
  unfold DataW.trod at hy
  rw [ht] at hy
  simp only at hy
  split at hy
  · next hl =>
    rw [Option.map_eq_some_iff] at hy
    obtain ⟨xs, h1, _⟩ := hy
    have := h H enc W sp hd cs xs (by omega) h1
    simpa using this
  · exact absurd hy (by simp)
theorem opens_iso {α β : Type} {P : Program} {n : Nat} {t : TypeId} {d : Kd α} {φ : α → Prop} {f : β → α} (hf : ∀ x, ∃ y, f y = x) (h : Opens P n t d φ) : Opens P n t (Kd.iso d f) (fun y => φ (f y)) := by
  intro H enc W sp hd cs y hy
  obtain ⟨x, hx, px⟩ := h H enc W sp hd cs y hy
  obtain ⟨z, rfl⟩ := hf x
  exact ⟨z, hx, px⟩
theorem opens_imp {α : Type} {P : Program} {n : Nat} {t : TypeId} {d : Kd α} {φ ψ : α → Prop} (h : Opens P n t d φ) (hp : ∀ x, φ x → ψ x) : Opens P n t d ψ := by
  intro H enc W sp hd cs y hy
  obtain ⟨x, hx, px⟩ := h H enc W sp hd cs y hy
  exact ⟨x, hx, hp x px⟩
theorem opens_zero {α : Type} {P : Program} {t : TypeId} {d : Kd α} {φ : α → Prop} : Opens P 0 t d φ := by
  intro H enc W sp hd cs y hy
  simp [DataW.trod] at hy
theorem opens_fix {α : Type} {P : Program} {t : TypeId} {F : Kd α → Kd α} {sz : Nat} {E : List Nat} {hs : ∀ n, (Kd.upto F sz E n).sz = sz} {hE : ∀ n q, q ∈ (Kd.upto F sz E n).E → q ∈ E} {φ : α → Prop}
    (h : ∀ n, Opens P n t (Kd.upto F sz E n) φ) (n : Nat) : Opens P n t (Kd.fix F sz E hs hE) φ := by
  intro H enc W sp hd cs y hy
  obtain ⟨x, hx, px⟩ := h n H enc W sp hd cs y hy
  exact ⟨x, ⟨n, hx⟩, px⟩
end Go.Proofs.Ytnlekgadadifdaa.Print
namespace Go.Proofs.Ytnlekgadadifdaa.Print
open Go.RowKit Go.Proofs.YtnlekgadadifdaaW.PrintWords Go.Proofs.YtnlekgadadifdaaW.PrintLast Go.Proofs.YtnlekgadadifdaaW.PrintMore
attribute [local go_sem] max2_int min2_int max_two min_two max_three min_three max_four min_four
set_option linter.unusedVariables false
set_option linter.unusedSimpArgs false
theorem info3 : (Try.prog.info? 3).map (fun i => (i.zero, i.size, i.bytes)) = some (some (.int .i64 0), 1, 8) := by kernel_rfl
theorem info42 : (Try.prog.info? 42).map (fun i => (i.zero, i.size, i.bytes)) = some (some (.agg #[(.string ⟨#[]⟩), (.int .i64 0), (.int .i64 0)]), 3, 32) := by kernel_rfl
theorem info52 : (Try.prog.info? 52).map (fun i => (i.zero, i.size, i.bytes)) = some (some (.agg #[(.int .i64 0), (.int .i64 0), (.int .i64 0), (.slice none 0 0)]), 4, 48) := by kernel_rfl
theorem info57 : (Try.prog.info? 57).map (fun i => (i.zero, i.size, i.bytes)) = some (some (.agg #[(.int .i64 0), (.int .i64 0), (.slice none 0 0), (.slice none 0 0), (.slice none 0 0)]), 5, 88) := by kernel_rfl
structure S42 where
 f0 : ByteArray
 f1 : Int
 f2 : Int
def z42 : S42 := ⟨(⟨#[]⟩ : ByteArray), (0 : Int), (0 : Int)⟩
def k42 : Kd S42 := Kd.iso (Kd.pair Kd.string (Kd.pair (Kd.int .i64) (Kd.int .i64))) (fun x : S42 => (x.f0, x.f1, x.f2))
theorem k42_open {w : World} {x : S42} {cs : List Value} (h : k42.K w x cs) : cs = [.string x.f0, .int .i64 x.f1, .int .i64 x.f2] := by
 obtain ⟨_, _, rfl, rfl, ⟨_, _, rfl, rfl, rfl⟩⟩ := h
 exact rfl
theorem k42_mk (w : World) (x : S42)  : k42.K w x [.string x.f0, .int .i64 x.f1, .int .i64 x.f2] := ⟨[.string x.f0], [.int .i64 x.f1, .int .i64 x.f2], rfl, rfl, ⟨[.int .i64 x.f1], [.int .i64 x.f2], rfl, rfl, rfl⟩⟩
theorem k42_mkM (w : World) (base : Nat) (ok : Nat → Prop) (x : S42)  : k42.M w base ok x [.string x.f0, .int .i64 x.f1, .int .i64 x.f2] := ⟨[.string x.f0], [.int .i64 x.f1, .int .i64 x.f2], rfl, rfl, ⟨[.int .i64 x.f1], [.int .i64 x.f2], rfl, rfl, rfl⟩⟩
def rd_T42 (xs : List S42) (i : Int) : S42 := xs.getD i.toNat z42
theorem at_T42 {w : World} {A : Option Addr} {n : Nat} {xs : List S42} (h : Kd.C k42 w A n xs) (i : Int) (h0 : 0 ≤ i) (h1 : i < n) : ∃ ad , A = some ad ∧ w.cell? (ad.add (i.toNat * 3)) = some (.string (rd_T42 xs i).f0) ∧ w.cell? ⟨(ad.add (i.toNat * 3)).block, (ad.add (i.toNat * 3)).off + 1, none⟩ = some (.int .i64 (rd_T42 xs i).f1) ∧ w.cell? ⟨(ad.add (i.toNat * 3)).block, (ad.add (i.toNat * 3)).off + 2, none⟩ = some (.int .i64 (rd_T42 xs i).f2) := by
 obtain ⟨ad, c, e, _, hK, hc0⟩ := Kd.C_get h z42 i h0 h1
 have hc : ∀ j u, c[j]? = some u → w.cell? (ad.add (i.toNat * 3 + j)) = some u := hc0
 obtain rfl := k42_open hK
 exact ⟨ad, e, hc 0 _ rfl, by rw [← add_field _ _ 1 (by omega)]; exact hc 1 _ rfl, by rw [← add_field _ _ 2 (by omega)]; exact hc 2 _ rfl⟩
structure S52 where
 f0 : Int
 f1 : Int
 f2 : Int
 f3 : (List S52)
def z52 : S52 := ⟨(0 : Int), (0 : Int), (0 : Int), ([] : List S52)⟩
def F52 (d : Kd S52) : Kd S52 := Kd.iso (Kd.pair (Kd.int .i64) (Kd.pair (Kd.int .i64) (Kd.pair (Kd.int .i64) (Kd.slice 52 d)))) (fun x : S52 => (x.f0, x.f1, x.f2, x.f3))
theorem mono52 : Kd.Mono F52 := Kd.mono_iso _ (Kd.mono_pair (Kd.mono_const _) (Kd.mono_pair (Kd.mono_const _) (Kd.mono_pair (Kd.mono_const _) (Kd.mono_slice 52 Kd.mono_id))))
theorem sub52 : Kd.Sub F52 [52] := Kd.sub_iso _ (Kd.sub_pair (Kd.sub_const _ (by decide)) (Kd.sub_pair (Kd.sub_const _ (by decide)) (Kd.sub_pair (Kd.sub_const _ (by decide)) (Kd.sub_slice 52 (by decide) Kd.sub_id))))
theorem sz52 : ∀ n, (Kd.upto F52 4 [52] n).sz = 4 := Kd.upto_sz (fun _ => rfl)
def k52 : Kd S52 := Kd.fix F52 4 [52] sz52 (Kd.upto_E sub52)
theorem k52_open {w : World} {x : S52} {cs : List Value} (h : k52.K w x cs) : ∃ A3 c3, cs = [.int .i64 x.f0, .int .i64 x.f1, .int .i64 x.f2, .slice A3 x.f3.length c3] ∧ x.f3.length ≤ c3 ∧ k52.C w A3 x.f3.length x.f3 := by
 obtain ⟨n, h⟩ := h
 cases n with
 | zero => exact h.elim
 | succ n =>
  obtain ⟨_, _, rfl, rfl, ⟨_, _, rfl, rfl, ⟨_, _, rfl, rfl, ⟨A3, c3, rfl, l3, g3⟩⟩⟩⟩ := h
  exact ⟨A3, c3, rfl, l3, Kd.fix_C g3⟩
theorem k52_mk (w : World) (x : S52) {A3 : Option Addr} {c3 : Nat} (l3 : x.f3.length ≤ c3) (g3 : k52.C w A3 x.f3.length x.f3) : k52.K w x [.int .i64 x.f0, .int .i64 x.f1, .int .i64 x.f2, .slice A3 x.f3.length c3] := by
 obtain ⟨n3, q3⟩ := Kd.fix_C_back mono52 g3
 have r3 := Kd.upto_C_le mono52 sz52 (show n3 ≤ n3 by omega) q3
 exact ⟨n3 + 1, ⟨[.int .i64 x.f0], [.int .i64 x.f1, .int .i64 x.f2, .slice A3 x.f3.length c3], rfl, rfl, ⟨[.int .i64 x.f1], [.int .i64 x.f2, .slice A3 x.f3.length c3], rfl, rfl, ⟨[.int .i64 x.f2], [.slice A3 x.f3.length c3], rfl, rfl, ⟨A3, c3, rfl, l3, r3⟩⟩⟩⟩⟩
theorem k52_mkM (w : World) (base : Nat) (ok : Nat → Prop) (x : S52) {v3 : Value} (g3 : k52.R 52 w base ok v3 x.f3) : k52.M w base ok x [.int .i64 x.f0, .int .i64 x.f1, .int .i64 x.f2, v3] := by
 obtain ⟨n3, q3⟩ := Kd.fix_R_back mono52 g3
 have r3 := Kd.upto_R_le mono52 sz52 (show n3 ≤ n3 by omega) q3
 exact ⟨n3 + 1, ⟨[.int .i64 x.f0], [.int .i64 x.f1, .int .i64 x.f2, v3], rfl, rfl, ⟨[.int .i64 x.f1], [.int .i64 x.f2, v3], rfl, rfl, ⟨[.int .i64 x.f2], [v3], rfl, rfl, ⟨v3, rfl, r3⟩⟩⟩⟩⟩
theorem k52_mkF (W : World) (ok : Nat → Prop) (x : S52) {A3 : Option Addr} {c3 : Nat} (l3 : x.f3.length ≤ c3) (g3 : Kd.F k52 W ok A3 x.f3.length x.f3) : Kd.FK k52 W ok x [.int .i64 x.f0, .int .i64 x.f1, .int .i64 x.f2, .slice A3 x.f3.length c3] := fun W2 hW => k52_mk W2 x l3 (g3 W2 hW)
def rd_T52 (xs : List S52) (i : Int) : S52 := xs.getD i.toNat z52
theorem at_T52 {w : World} {A : Option Addr} {n : Nat} {xs : List S52} (h : Kd.C k52 w A n xs) (i : Int) (h0 : 0 ≤ i) (h1 : i < n) : ∃ ad A3 c3, A = some ad ∧ w.cell? (ad.add (i.toNat * 4)) = some (.int .i64 (rd_T52 xs i).f0) ∧ w.cell? ⟨(ad.add (i.toNat * 4)).block, (ad.add (i.toNat * 4)).off + 1, none⟩ = some (.int .i64 (rd_T52 xs i).f1) ∧ w.cell? ⟨(ad.add (i.toNat * 4)).block, (ad.add (i.toNat * 4)).off + 2, none⟩ = some (.int .i64 (rd_T52 xs i).f2) ∧ w.cell? ⟨(ad.add (i.toNat * 4)).block, (ad.add (i.toNat * 4)).off + 3, none⟩ = some (.slice A3 (rd_T52 xs i).f3.length c3) ∧ (rd_T52 xs i).f3.length ≤ c3 ∧ k52.C w A3 (rd_T52 xs i).f3.length (rd_T52 xs i).f3 := by
 obtain ⟨ad, c, e, _, hK, hc0⟩ := Kd.C_get h z52 i h0 h1
 have hc : ∀ j u, c[j]? = some u → w.cell? (ad.add (i.toNat * 4 + j)) = some u := hc0
 obtain ⟨A3, c3, rfl, l3, g3⟩ := k52_open hK
 exact ⟨ad, A3, c3, e, hc 0 _ rfl, by rw [← add_field _ _ 1 (by omega)]; exact hc 1 _ rfl, by rw [← add_field _ _ 2 (by omega)]; exact hc 2 _ rfl, by rw [← add_field _ _ 3 (by omega)]; exact hc 3 _ rfl, l3, g3⟩
structure S57 where
 f0 : Int
 f1 : Int
 f2 : (List S52)
 f3 : (List S57)
 f4 : (List S57)
def z57 : S57 := ⟨(0 : Int), (0 : Int), ([] : List S52), ([] : List S57), ([] : List S57)⟩
def F57 (d : Kd S57) : Kd S57 := Kd.iso (Kd.pair (Kd.int .i64) (Kd.pair (Kd.int .i64) (Kd.pair (Kd.slice 52 k52) (Kd.pair (Kd.slice 57 d) (Kd.slice 57 d))))) (fun x : S57 => (x.f0, x.f1, x.f2, x.f3, x.f4))
theorem mono57 : Kd.Mono F57 := Kd.mono_iso _ (Kd.mono_pair (Kd.mono_const _) (Kd.mono_pair (Kd.mono_const _) (Kd.mono_pair (Kd.mono_const _) (Kd.mono_pair (Kd.mono_slice 57 Kd.mono_id) (Kd.mono_slice 57 Kd.mono_id)))))
theorem sub57 : Kd.Sub F57 [52, 57] := Kd.sub_iso _ (Kd.sub_pair (Kd.sub_const _ (by decide)) (Kd.sub_pair (Kd.sub_const _ (by decide)) (Kd.sub_pair (Kd.sub_const _ (by decide)) (Kd.sub_pair (Kd.sub_slice 57 (by decide) Kd.sub_id) (Kd.sub_slice 57 (by decide) Kd.sub_id)))))
theorem sz57 : ∀ n, (Kd.upto F57 5 [52, 57] n).sz = 5 := Kd.upto_sz (fun _ => rfl)
def k57 : Kd S57 := Kd.fix F57 5 [52, 57] sz57 (Kd.upto_E sub57)
theorem k57_open {w : World} {x : S57} {cs : List Value} (h : k57.K w x cs) : ∃ A2 c2 A3 c3 A4 c4, cs = [.int .i64 x.f0, .int .i64 x.f1, .slice A2 x.f2.length c2, .slice A3 x.f3.length c3, .slice A4 x.f4.length c4] ∧ x.f2.length ≤ c2 ∧ k52.C w A2 x.f2.length x.f2 ∧ x.f3.length ≤ c3 ∧ k57.C w A3 x.f3.length x.f3 ∧ x.f4.length ≤ c4 ∧ k57.C w A4 x.f4.length x.f4 := by
 obtain ⟨n, h⟩ := h
 cases n with
 | zero => exact h.elim
 | succ n =>
  obtain ⟨_, _, rfl, rfl, ⟨_, _, rfl, rfl, ⟨_, _, rfl, ⟨A2, c2, rfl, l2, g2⟩, ⟨_, _, rfl, ⟨A3, c3, rfl, l3, g3⟩, ⟨A4, c4, rfl, l4, g4⟩⟩⟩⟩⟩ := h
  exact ⟨A2, c2, A3, c3, A4, c4, rfl, l2, g2, l3, Kd.fix_C g3, l4, Kd.fix_C g4⟩
theorem k57_mk (w : World) (x : S57) {A2 : Option Addr} {c2 : Nat} (l2 : x.f2.length ≤ c2) (g2 : k52.C w A2 x.f2.length x.f2) {A3 : Option Addr} {c3 : Nat} (l3 : x.f3.length ≤ c3) (g3 : k57.C w A3 x.f3.length x.f3) {A4 : Option Addr} {c4 : Nat} (l4 : x.f4.length ≤ c4) (g4 : k57.C w A4 x.f4.length x.f4) : k57.K w x [.int .i64 x.f0, .int .i64 x.f1, .slice A2 x.f2.length c2, .slice A3 x.f3.length c3, .slice A4 x.f4.length c4] := by
 obtain ⟨n3, q3⟩ := Kd.fix_C_back mono57 g3
 obtain ⟨n4, q4⟩ := Kd.fix_C_back mono57 g4
 have r3 := Kd.upto_C_le mono57 sz57 (show n3 ≤ (max n3 n4) by omega) q3
 have r4 := Kd.upto_C_le mono57 sz57 (show n4 ≤ (max n3 n4) by omega) q4
 exact ⟨(max n3 n4) + 1, ⟨[.int .i64 x.f0], [.int .i64 x.f1, .slice A2 x.f2.length c2, .slice A3 x.f3.length c3, .slice A4 x.f4.length c4], rfl, rfl, ⟨[.int .i64 x.f1], [.slice A2 x.f2.length c2, .slice A3 x.f3.length c3, .slice A4 x.f4.length c4], rfl, rfl, ⟨[.slice A2 x.f2.length c2], [.slice A3 x.f3.length c3, .slice A4 x.f4.length c4], rfl, ⟨A2, c2, rfl, l2, g2⟩, ⟨[.slice A3 x.f3.length c3], [.slice A4 x.f4.length c4], rfl, ⟨A3, c3, rfl, l3, r3⟩, ⟨A4, c4, rfl, l4, r4⟩⟩⟩⟩⟩⟩
theorem k57_mkM (w : World) (base : Nat) (ok : Nat → Prop) (x : S57) {v2 : Value} (g2 : k52.R 52 w base ok v2 x.f2) {v3 : Value} (g3 : k57.R 57 w base ok v3 x.f3) {v4 : Value} (g4 : k57.R 57 w base ok v4 x.f4) : k57.M w base ok x [.int .i64 x.f0, .int .i64 x.f1, v2, v3, v4] := by
 obtain ⟨n3, q3⟩ := Kd.fix_R_back mono57 g3
 obtain ⟨n4, q4⟩ := Kd.fix_R_back mono57 g4
 have r3 := Kd.upto_R_le mono57 sz57 (show n3 ≤ (max n3 n4) by omega) q3
 have r4 := Kd.upto_R_le mono57 sz57 (show n4 ≤ (max n3 n4) by omega) q4
 exact ⟨(max n3 n4) + 1, ⟨[.int .i64 x.f0], [.int .i64 x.f1, v2, v3, v4], rfl, rfl, ⟨[.int .i64 x.f1], [v2, v3, v4], rfl, rfl, ⟨[v2], [v3, v4], rfl, ⟨v2, rfl, g2⟩, ⟨[v3], [v4], rfl, ⟨v3, rfl, r3⟩, ⟨v4, rfl, r4⟩⟩⟩⟩⟩⟩
def rd_T57 (xs : List S57) (i : Int) : S57 := xs.getD i.toNat z57
theorem at_T57 {w : World} {A : Option Addr} {n : Nat} {xs : List S57} (h : Kd.C k57 w A n xs) (i : Int) (h0 : 0 ≤ i) (h1 : i < n) : ∃ ad A2 c2 A3 c3 A4 c4, A = some ad ∧ w.cell? (ad.add (i.toNat * 5)) = some (.int .i64 (rd_T57 xs i).f0) ∧ w.cell? ⟨(ad.add (i.toNat * 5)).block, (ad.add (i.toNat * 5)).off + 1, none⟩ = some (.int .i64 (rd_T57 xs i).f1) ∧ w.cell? ⟨(ad.add (i.toNat * 5)).block, (ad.add (i.toNat * 5)).off + 2, none⟩ = some (.slice A2 (rd_T57 xs i).f2.length c2) ∧ w.cell? ⟨(ad.add (i.toNat * 5)).block, (ad.add (i.toNat * 5)).off + 3, none⟩ = some (.slice A3 (rd_T57 xs i).f3.length c3) ∧ w.cell? ⟨(ad.add (i.toNat * 5)).block, (ad.add (i.toNat * 5)).off + 4, none⟩ = some (.slice A4 (rd_T57 xs i).f4.length c4) ∧ (rd_T57 xs i).f2.length ≤ c2 ∧ k52.C w A2 (rd_T57 xs i).f2.length (rd_T57 xs i).f2 ∧ (rd_T57 xs i).f3.length ≤ c3 ∧ k57.C w A3 (rd_T57 xs i).f3.length (rd_T57 xs i).f3 ∧ (rd_T57 xs i).f4.length ≤ c4 ∧ k57.C w A4 (rd_T57 xs i).f4.length (rd_T57 xs i).f4 := by
 obtain ⟨ad, c, e, _, hK, hc0⟩ := Kd.C_get h z57 i h0 h1
 have hc : ∀ j u, c[j]? = some u → w.cell? (ad.add (i.toNat * 5 + j)) = some u := hc0
 obtain ⟨A2, c2, A3, c3, A4, c4, rfl, l2, g2, l3, g3, l4, g4⟩ := k57_open hK
 exact ⟨ad, A2, c2, A3, c3, A4, c4, e, hc 0 _ rfl, by rw [← add_field _ _ 1 (by omega)]; exact hc 1 _ rfl, by rw [← add_field _ _ 2 (by omega)]; exact hc 2 _ rfl, by rw [← add_field _ _ 3 (by omega)]; exact hc 3 _ rfl, by rw [← add_field _ _ 4 (by omega)]; exact hc 4 _ rfl, l2, g2, l3, g3, l4, g4⟩
structure S40 where
 f0 : Int
 f1 : Int
 f2 : Int
 f3 : Int
 f4 : Int
def z40 : S40 := ⟨(0 : Int), (0 : Int), (0 : Int), (0 : Int), (0 : Int)⟩
def k40 : Kd S40 := Kd.iso (Kd.pair (Kd.int .i64) (Kd.pair (Kd.int .i64) (Kd.pair (Kd.int .i64) (Kd.pair (Kd.int .i64) (Kd.int .i64))))) (fun x : S40 => (x.f0, x.f1, x.f2, x.f3, x.f4))
theorem k40_open {w : World} {x : S40} {cs : List Value} (h : k40.K w x cs) : cs = [.int .i64 x.f0, .int .i64 x.f1, .int .i64 x.f2, .int .i64 x.f3, .int .i64 x.f4] := by
 obtain ⟨_, _, rfl, rfl, ⟨_, _, rfl, rfl, ⟨_, _, rfl, rfl, ⟨_, _, rfl, rfl, rfl⟩⟩⟩⟩ := h
 exact rfl
theorem k40_openM {w : World} {base : Nat} {ok : Nat → Prop} {x : S40} {cs : List Value} (h : k40.M w base ok x cs) : cs = [.int .i64 x.f0, .int .i64 x.f1, .int .i64 x.f2, .int .i64 x.f3, .int .i64 x.f4] := by
 obtain ⟨_, _, rfl, rfl, ⟨_, _, rfl, rfl, ⟨_, _, rfl, rfl, ⟨_, _, rfl, rfl, rfl⟩⟩⟩⟩ := h
 exact rfl
theorem k40_mkM (w : World) (base : Nat) (ok : Nat → Prop) (x : S40)  : k40.M w base ok x [.int .i64 x.f0, .int .i64 x.f1, .int .i64 x.f2, .int .i64 x.f3, .int .i64 x.f4] := ⟨[.int .i64 x.f0], [.int .i64 x.f1, .int .i64 x.f2, .int .i64 x.f3, .int .i64 x.f4], rfl, rfl, ⟨[.int .i64 x.f1], [.int .i64 x.f2, .int .i64 x.f3, .int .i64 x.f4], rfl, rfl, ⟨[.int .i64 x.f2], [.int .i64 x.f3, .int .i64 x.f4], rfl, rfl, ⟨[.int .i64 x.f3], [.int .i64 x.f4], rfl, rfl, rfl⟩⟩⟩⟩
def rd_T40 (xs : List S40) (i : Int) : S40 := xs.getD i.toNat z40
theorem at_T40 {w : World} {A : Option Addr} {n : Nat} {xs : List S40} (h : Kd.C k40 w A n xs) (i : Int) (h0 : 0 ≤ i) (h1 : i < n) : ∃ ad , A = some ad ∧ w.cell? (ad.add (i.toNat * 5)) = some (.int .i64 (rd_T40 xs i).f0) ∧ w.cell? ⟨(ad.add (i.toNat * 5)).block, (ad.add (i.toNat * 5)).off + 1, none⟩ = some (.int .i64 (rd_T40 xs i).f1) ∧ w.cell? ⟨(ad.add (i.toNat * 5)).block, (ad.add (i.toNat * 5)).off + 2, none⟩ = some (.int .i64 (rd_T40 xs i).f2) ∧ w.cell? ⟨(ad.add (i.toNat * 5)).block, (ad.add (i.toNat * 5)).off + 3, none⟩ = some (.int .i64 (rd_T40 xs i).f3) ∧ w.cell? ⟨(ad.add (i.toNat * 5)).block, (ad.add (i.toNat * 5)).off + 4, none⟩ = some (.int .i64 (rd_T40 xs i).f4) := by
 obtain ⟨ad, c, e, _, hK, hc0⟩ := Kd.C_get h z40 i h0 h1
 have hc : ∀ j u, c[j]? = some u → w.cell? (ad.add (i.toNat * 5 + j)) = some u := hc0
 obtain rfl := k40_open hK
 exact ⟨ad, e, hc 0 _ rfl, by rw [← add_field _ _ 1 (by omega)]; exact hc 1 _ rfl, by rw [← add_field _ _ 2 (by omega)]; exact hc 2 _ rfl, by rw [← add_field _ _ 3 (by omega)]; exact hc 3 _ rfl, by rw [← add_field _ _ 4 (by omega)]; exact hc 4 _ rfl⟩
structure S108 where
 f0 : Int
 f1 : Int
def k108 : Kd S108 := Kd.iso (Kd.pair (Kd.int .i64) (Kd.int .i64)) (fun x : S108 => (x.f0, x.f1))
theorem k108_mkM (w : World) (base : Nat) (ok : Nat → Prop) (x : S108)  : k108.M w base ok x [.int .i64 x.f0, .int .i64 x.f1] := ⟨[.int .i64 x.f0], [.int .i64 x.f1], rfl, rfl, rfl⟩
structure S123 where
 f0 : Int
 f1 : Int
 f2 : Int
def k123 : Kd S123 := Kd.iso (Kd.pair (Kd.int .i64) (Kd.pair (Kd.int .i64) (Kd.int .i64))) (fun x : S123 => (x.f0, x.f1, x.f2))
theorem k123_mkM (w : World) (base : Nat) (ok : Nat → Prop) (x : S123)  : k123.M w base ok x [.int .i64 x.f0, .int .i64 x.f1, .int .i64 x.f2] := ⟨[.int .i64 x.f0], [.int .i64 x.f1, .int .i64 x.f2], rfl, rfl, ⟨[.int .i64 x.f1], [.int .i64 x.f2], rfl, rfl, rfl⟩⟩
def expr_inName.f (a0 : Int) : Option (Bool) := if a0 ≥ 97 then (if a0 ≤ 122 then (some true) else (if a0 ≥ 48 then (if a0 ≤ 57 then (some true) else (some (a0 == 95))) else (some (a0 == 95)))) else (if a0 ≥ 48 then (if a0 ≤ 57 then (some true) else (some (a0 == 95))) else (some (a0 == 95)))
theorem expr_inName.calls (a0 : Int) (r : Bool) (w : World) (h : expr_inName.f a0 = some r) :
  Calls Try.prog 90 #[.int .u8 a0] w fun e w' => e = .returned (.bool r) ∧ Drawn0 w w' := by
 have H : (if a0 ≥ 97 then (if a0 ≤ 122 then (some true) else (if a0 ≥ 48 then (if a0 ≤ 57 then (some true) else (some (a0 == 95))) else (some (a0 == 95)))) else (if a0 ≥ 48 then (if a0 ≤ 57 then (some true) else (some (a0 == 95))) else (some (a0 == 95)))) = some r := h
 clear h
 by_cases c2 : a0 ≥ 97
 rotate_left
 ·rw [if_neg c2] at H
  have c2b0 : decide (97 ≤ a0) = false := decide_eq_false c2
  clear c2
  by_cases c6 : a0 ≥ 48
  rotate_left
  ·rw [if_neg c6] at H
   have c6b0 : decide (48 ≤ a0) = false := decide_eq_false c6
   clear c6
   obtain rfl := Option.some.inj H
   go_enter Try.func90, Try.ntmps90
   go_wp2
   go_ret
   exact ⟨rs, dr⟩
  rw [if_pos c6] at H
  have c6b0 : decide (48 ≤ a0) = true := decide_eq_true c6
  clear c6
  by_cases c7 : a0 ≤ 57
  ·rw [if_pos c7] at H
   have c7b0 : decide (a0 ≤ 57) = true := decide_eq_true c7
   clear c7
   obtain rfl := Option.some.inj H
   go_enter Try.func90, Try.ntmps90
   go_wp2
   go_ret
   exact ⟨rs, dr⟩
  rw [if_neg c7] at H
  have c7b0 : decide (a0 ≤ 57) = false := decide_eq_false c7
  clear c7
  obtain rfl := Option.some.inj H
  go_enter Try.func90, Try.ntmps90
  go_wp2
  go_ret
  exact ⟨rs, dr⟩
 rw [if_pos c2] at H
 have c2b0 : decide (97 ≤ a0) = true := decide_eq_true c2
 clear c2
 by_cases c3 : a0 ≤ 122
 ·rw [if_pos c3] at H
  have c3b0 : decide (a0 ≤ 122) = true := decide_eq_true c3
  clear c3
  obtain rfl := Option.some.inj H
  go_enter Try.func90, Try.ntmps90
  go_wp2
  go_ret
  exact ⟨rs, dr⟩
 rw [if_neg c3] at H
 have c3b0 : decide (a0 ≤ 122) = false := decide_eq_false c3
 clear c3
 by_cases c4 : a0 ≥ 48
 rotate_left
 ·rw [if_neg c4] at H
  have c4b0 : decide (48 ≤ a0) = false := decide_eq_false c4
  clear c4
  obtain rfl := Option.some.inj H
  go_enter Try.func90, Try.ntmps90
  go_wp2
  go_ret
  exact ⟨rs, dr⟩
 rw [if_pos c4] at H
 have c4b0 : decide (48 ≤ a0) = true := decide_eq_true c4
 clear c4
 by_cases c5 : a0 ≤ 57
 ·rw [if_pos c5] at H
  have c5b0 : decide (a0 ≤ 57) = true := decide_eq_true c5
  clear c5
  obtain rfl := Option.some.inj H
  go_enter Try.func90, Try.ntmps90
  go_wp2
  go_ret
  exact ⟨rs, dr⟩
 rw [if_neg c5] at H
 have c5b0 : decide (a0 ≤ 57) = false := decide_eq_false c5
 clear c5
 obtain rfl := Option.some.inj H
 go_enter Try.func90, Try.ntmps90
 go_wp2
 go_ret
 exact ⟨rs, dr⟩
mutual
def expr_isName.j0 : Nat → ByteArray → Bool → Option (Bool)
 | 0, _, _ => none
 | k + 1, x0, x20 => if x20 = true then (some false) else (expr_isName.l0 k x0 0)
def expr_isName.l0 : Nat → ByteArray → Int → Option (Bool)
 | 0, _, _ => none
 | k + 1, x0, x3 => if x3 < (x0.size : Int) then (if 0 ≤ x3 then ((expr_inName.f (bt x0 x3)).bind fun t169 => (if t169 = true then (expr_isName.l0 k x0 (wrap64 (x3 + 1))) else (some false))) else (none)) else (if x0.toList = ([119, 105, 100, 116, 104] : List UInt8) then (some false) else (if x0.toList = ([118, 97, 114] : List UInt8) then (some false) else (if x0.toList = ([105, 102] : List UInt8) then (some false) else (if x0.toList = ([101, 108, 115, 101] : List UInt8) then (some false) else (if x0.toList = ([119, 104, 105, 108, 101] : List UInt8) then (some false) else (if x0.toList = ([111, 117, 116] : List UInt8) then (some false) else (if x0.toList = ([112, 105, 99, 107] : List UInt8) then (some false) else (if x0.toList = ([110, 101, 101, 100] : List UInt8) then (some false) else (if x0.toList = ([109, 117, 115, 116] : List UInt8) then (some false) else (if x0.toList = ([108, 101, 118, 101, 108] : List UInt8) then (some false) else (if x0.toList = ([115, 101, 101, 115] : List UInt8) then (some false) else (some true))))))))))))
end
def expr_isName.f (k : Nat) (a0 : ByteArray) : Option (Bool) := if a0.toList = ([] : List UInt8) then (expr_isName.j0 k a0 true) else (if (a0.size : Int) > 12 then (expr_isName.j0 k a0 true) else (if 0 < (a0.size : Int) then (if (bt a0 0) < 97 then (expr_isName.j0 k a0 true) else (expr_isName.j0 k a0 (decide ((bt a0 0) > 122)))) else (none)))
theorem expr_isName.calls (k : Nat) (a0 : ByteArray) (r : Bool) (w : World) (h : expr_isName.f k a0 = some r) :
  Calls Try.prog 82 #[.string a0] w fun e w' => e = .returned (.bool r) ∧ Drawn0 w w' := by
 have H : (if a0.toList = ([] : List UInt8) then (expr_isName.j0 k a0 true) else (if (a0.size : Int) > 12 then (expr_isName.j0 k a0 true) else (if 0 < (a0.size : Int) then (if (bt a0 0) < 97 then (expr_isName.j0 k a0 true) else (expr_isName.j0 k a0 (decide ((bt a0 0) > 122)))) else (none)))) = some r := h
 clear h
 have HC2 := Aside0.mk H
 clear H
 go_enter Try.func82, Try.ntmps82
 go_upto_region 1 with (fail)
 go_cut [20] (fun v20 wc => ∃ (kq : Nat) (x20_1 : Bool), v20 = .bool x20_1 ∧ Aside0 (expr_isName.j0 kq a0 x20_1 = some r) ∧ Aside0 (kq ≤ k) ∧ Drawn0 w wc)
 case first =>
  have H := HC2.out
  clear HC2
  by_cases c3 : a0.toList = ([] : List UInt8)
  ·rw [if_pos c3] at H
   have c3b0 : (a0.toList == ([] : List UInt8)) = true := beq_iff_eq.mpr c3
   have c3b1 : (a0.toList != ([] : List UInt8)) = false := bne_eq_false_iff_eq.mpr c3
   clear c3
   (first | rw [c3b0] | (simp only [i64_w, i32_w]; rw [c3b0]) | skip)
   have H' := Aside0.mk H
   clear H
   go_wp2
   go_meet
   case rel => exact ⟨_, (true), rs, H', ⟨by first | omega | exact Nat.le_refl _⟩, dr⟩
  rw [if_neg c3] at H
  have c3b0 : (a0.toList == ([] : List UInt8)) = false := beq_eq_false_iff_ne.mpr c3
  have c3b1 : (a0.toList != ([] : List UInt8)) = true := bne_iff_ne.mpr c3
  (first | rw [c3b0] | (simp only [i64_w, i32_w]; rw [c3b0]) | skip)
  by_cases c4 : (a0.size : Int) > 12
  ·rw [if_pos c4] at H
   have c4b0 : decide (12 < (a0.size : Int)) = true := decide_eq_true c4
   have c4b1 : decide (12 < a0.size) = true := decide_eq_true (by omega)
   clear c4
   have H' := Aside0.mk H
   clear H
   go_wp2
   go_meet
   case rel => exact ⟨_, (true), rs, H', ⟨by first | omega | exact Nat.le_refl _⟩, dr⟩
  rw [if_neg c4] at H
  have c4b0 : decide (12 < (a0.size : Int)) = false := decide_eq_false c4
  have c4b1 : decide (12 < a0.size) = false := decide_eq_false (by omega)
  clear c4
  by_cases c5 : 0 < (a0.size : Int)
  rotate_left
  ·rw [if_neg c5] at H
   exact absurd H (by simp)
  rw [if_pos c5] at H
  have c5b0 : decide (0 < (a0.size : Int)) = true := decide_eq_true c5
  have c5b1 : decide (0 < a0.size) = true := decide_eq_true (by omega)
  clear c5
  by_cases c7 : (bt a0 0) < 97
  ·rw [if_pos c7] at H
   have c7b0 : decide ((bt a0 0) < 97) = true := decide_eq_true c7
   clear c7
   have H' := Aside0.mk H
   clear H
   have p6 : 0 ≤ (0 : Int) := (by omega)
   have q6 : 0 < a0.size := (by have : (0 : Int) < (a0.size : Int) := od; omega)
   have hx6 : ∀ h : 0 < a0.size, ((a0[0]'h).toNat : Int) = bt a0 0 := bt_at a0 0
   clear p6
   have qi6 : (0 < (a0.size : Int)) = True := eq_true (od)
   replace q6 := eq_true q6
   go_wp2
   go_meet
   case rel => exact ⟨_, (true), rs, H', ⟨by first | omega | exact Nat.le_refl _⟩, dr⟩
  rw [if_neg c7] at H
  have c7b0 : decide ((bt a0 0) < 97) = false := decide_eq_false c7
  clear c7
  have H' := Aside0.mk H
  clear H
  have p6 : 0 ≤ (0 : Int) := (by omega)
  have q6 : 0 < a0.size := (by have : (0 : Int) < (a0.size : Int) := od; omega)
  have hx6 : ∀ h : 0 < a0.size, ((a0[0]'h).toNat : Int) = bt a0 0 := bt_at a0 0
  clear p6
  have qi6 : (0 < (a0.size : Int)) = True := eq_true (od)
  replace q6 := eq_true q6
  have p8 : 0 ≤ (0 : Int) := (by omega)
  have q8 : 0 < a0.size := (by have : (0 : Int) < (a0.size : Int) := od; omega)
  have hx8 : ∀ h : 0 < a0.size, ((a0[0]'h).toNat : Int) = bt a0 0 := bt_at a0 0
  clear p8
  have qi8 : (0 < (a0.size : Int)) = True := eq_true (od)
  replace q8 := eq_true q8
  go_wp2
  go_meet
  case rel => exact ⟨_, (decide ((bt a0 0) > 122)), rs, H', ⟨by first | omega | exact Nat.le_refl _⟩, dr⟩
 case rest =>
  clear HC2
  try clear p2
  try clear c3
  try clear c3b0
  try clear c3b1
  try clear c4
  try clear c4b0
  try clear c4b1
  try clear c5
  try clear c5b0
  try clear c5b1
  try clear p6
  try clear q6
  try clear hx6
  try clear qi6
  try clear c7
  try clear c7b0
  try clear c8
  try clear p8
  try clear q8
  try clear hx8
  try clear qi8
  try clear p6
  try clear p8
  try clear q6
  try clear q8
  obtain ⟨kq, x20_1, rfl, HA, HJ1, ⟨mc1, rfl⟩⟩ := hcut
  cases kq with
  | zero => exact absurd HA.out (by simp [expr_isName.j0])
  | succ kj1 =>
   have H := HA.out
   clear HA
   simp only [expr_isName.j0] at H
   by_cases c9 : x20_1 = true
   ·subst c9
    replace H := it H
    obtain rfl := Option.some.inj H
    go_wp2
    go_ret
    exact ⟨rs, dr⟩
   replace c9 := Bool.eq_false_iff.mpr c9
   subst c9
   replace H := fi H
   have H' := Aside0.mk H
   clear H
   go_wp2
   go_loopg [3] kj1 (fun kq v3 w' => ∃ (x3_2 : Int), v3 = .int .i64 x3_2 ∧ Aside0 (expr_isName.l0 kq a0 x3_2 = some r) ∧ Aside0 (kq ≤ kj1) ∧ Drawn0 w w')
   case atStart => exact ⟨(0), rs, H', ⟨Nat.le_refl _⟩, dr⟩
   case round =>
    clear H'
    try clear c1
    try clear p2
    try clear c3
    try clear c3b0
    try clear c3b1
    try clear c4
    try clear c4b0
    try clear c4b1
    try clear c5
    try clear c5b0
    try clear c5b1
    try clear p6
    try clear q6
    try clear hx6
    try clear qi6
    try clear c7
    try clear c7b0
    try clear c8
    try clear p8
    try clear q8
    try clear hx8
    try clear qi8
    try clear c9
    try clear p2
    try clear p6
    try clear p8
    try clear q6
    try clear q8
    obtain ⟨x3_2, rfl, HA, HK2, ⟨m2, rfl⟩⟩ := hrel
    cases gk with
    | zero => exact absurd HA.out (by simp [expr_isName.l0])
    | succ k2 =>
     have H := HA.out
     clear HA
     simp only [expr_isName.l0] at H
     by_cases c10 : x3_2 < (a0.size : Int)
     ·rw [if_pos c10] at H
      have c10b0 : decide (x3_2 < (a0.size : Int)) = true := decide_eq_true c10
      clear c10
      by_cases c11 : 0 ≤ x3_2
      rotate_left
      ·rw [if_neg c11] at H
       exact absurd H (by simp)
      rw [if_pos c11] at H
      have c11b0 : decide (0 ≤ x3_2) = true := decide_eq_true c11
      clear c11
      obtain ⟨t169, A13, H⟩ := be H
      by_cases c14 : t169 = true
      rotate_left
      ·replace c14 := Bool.eq_false_iff.mpr c14
       subst c14
       replace H := fi H
       obtain rfl := Option.some.inj H
       have p12 : 0 ≤ (x3_2 : Int) := od
       have q12 : x3_2 < (a0.size : Int) := od
       have hx12 := bt_at a0 x3_2
       replace p12 := eq_true p12
       replace q12 := eq_true q12
       go_wp2_with (first | ((with_reducible refine gate_callee (f := 90) rfl ?_); refine gL (some 30) rfl rfl Try.func90 #[.int .u8 (bt a0 x3_2)] rfl ?_; (with_reducible refine (expr_inName.calls (bt a0 x3_2) false _ A13.out).mono ?_); rintro e w' ⟨rfl, ⟨nd, rfl⟩⟩; refine ⟨_, rfl, ?_⟩))
       go_ret
       exact ⟨rs, dr⟩
      subst c14
      replace H := it H
      have H' := Aside0.mk H
      clear H
      have p12 : 0 ≤ (x3_2 : Int) := od
      have q12 : x3_2 < (a0.size : Int) := od
      have hx12 := bt_at a0 x3_2
      replace p12 := eq_true p12
      replace q12 := eq_true q12
      go_wp2_with (first | ((with_reducible refine gate_callee (f := 90) rfl ?_); refine gL (some 30) rfl rfl Try.func90 #[.int .u8 (bt a0 x3_2)] rfl ?_; (with_reducible refine (expr_inName.calls (bt a0 x3_2) true _ A13.out).mono ?_); rintro e w' ⟨rfl, ⟨nd, rfl⟩⟩; refine ⟨_, rfl, ?_⟩))
      go_roundg k2
      case measure => have := HJ1.out; have := HK2.out; omega
      case rel => exact ⟨(wrap64 (x3_2 + 1)), rs, H', ⟨by have := HJ1.out; have := HK2.out; omega⟩, dr⟩
     rw [if_neg c10] at H
     have c10b0 : decide (x3_2 < (a0.size : Int)) = false := decide_eq_false c10
     clear c10
     by_cases c15 : a0.toList = ([119, 105, 100, 116, 104] : List UInt8)
     ·rw [if_pos c15] at H
      have c15b0 : (a0.toList == ([119, 105, 100, 116, 104] : List UInt8)) = true := beq_iff_eq.mpr c15
      have c15b1 : (a0.toList != ([119, 105, 100, 116, 104] : List UInt8)) = false := bne_eq_false_iff_eq.mpr c15
      clear c15
      obtain rfl := Option.some.inj H
      go_wp2
      go_ret
      exact ⟨rs, dr⟩
     rw [if_neg c15] at H
     have c15b0 : (a0.toList == ([119, 105, 100, 116, 104] : List UInt8)) = false := beq_eq_false_iff_ne.mpr c15
     have c15b1 : (a0.toList != ([119, 105, 100, 116, 104] : List UInt8)) = true := bne_iff_ne.mpr c15
     by_cases c16 : a0.toList = ([118, 97, 114] : List UInt8)
     ·rw [if_pos c16] at H
      have c16b0 : (a0.toList == ([118, 97, 114] : List UInt8)) = true := beq_iff_eq.mpr c16
      have c16b1 : (a0.toList != ([118, 97, 114] : List UInt8)) = false := bne_eq_false_iff_eq.mpr c16
      clear c16
      obtain rfl := Option.some.inj H
      go_wp2
      go_ret
      exact ⟨rs, dr⟩
     rw [if_neg c16] at H
     have c16b0 : (a0.toList == ([118, 97, 114] : List UInt8)) = false := beq_eq_false_iff_ne.mpr c16
     have c16b1 : (a0.toList != ([118, 97, 114] : List UInt8)) = true := bne_iff_ne.mpr c16
     by_cases c17 : a0.toList = ([105, 102] : List UInt8)
     ·rw [if_pos c17] at H
      have c17b0 : (a0.toList == ([105, 102] : List UInt8)) = true := beq_iff_eq.mpr c17
      have c17b1 : (a0.toList != ([105, 102] : List UInt8)) = false := bne_eq_false_iff_eq.mpr c17
      clear c17
      obtain rfl := Option.some.inj H
      go_wp2
      go_ret
      exact ⟨rs, dr⟩
     rw [if_neg c17] at H
     have c17b0 : (a0.toList == ([105, 102] : List UInt8)) = false := beq_eq_false_iff_ne.mpr c17
     have c17b1 : (a0.toList != ([105, 102] : List UInt8)) = true := bne_iff_ne.mpr c17
     by_cases c18 : a0.toList = ([101, 108, 115, 101] : List UInt8)
     ·rw [if_pos c18] at H
      have c18b0 : (a0.toList == ([101, 108, 115, 101] : List UInt8)) = true := beq_iff_eq.mpr c18
      have c18b1 : (a0.toList != ([101, 108, 115, 101] : List UInt8)) = false := bne_eq_false_iff_eq.mpr c18
      clear c18
      obtain rfl := Option.some.inj H
      go_wp2
      go_ret
      exact ⟨rs, dr⟩
     rw [if_neg c18] at H
     have c18b0 : (a0.toList == ([101, 108, 115, 101] : List UInt8)) = false := beq_eq_false_iff_ne.mpr c18
     have c18b1 : (a0.toList != ([101, 108, 115, 101] : List UInt8)) = true := bne_iff_ne.mpr c18
     by_cases c19 : a0.toList = ([119, 104, 105, 108, 101] : List UInt8)
     ·rw [if_pos c19] at H
      have c19b0 : (a0.toList == ([119, 104, 105, 108, 101] : List UInt8)) = true := beq_iff_eq.mpr c19
      have c19b1 : (a0.toList != ([119, 104, 105, 108, 101] : List UInt8)) = false := bne_eq_false_iff_eq.mpr c19
      clear c19
      obtain rfl := Option.some.inj H
      go_wp2
      go_ret
      exact ⟨rs, dr⟩
     rw [if_neg c19] at H
     have c19b0 : (a0.toList == ([119, 104, 105, 108, 101] : List UInt8)) = false := beq_eq_false_iff_ne.mpr c19
     have c19b1 : (a0.toList != ([119, 104, 105, 108, 101] : List UInt8)) = true := bne_iff_ne.mpr c19
     by_cases c20 : a0.toList = ([111, 117, 116] : List UInt8)
     ·rw [if_pos c20] at H
      have c20b0 : (a0.toList == ([111, 117, 116] : List UInt8)) = true := beq_iff_eq.mpr c20
      have c20b1 : (a0.toList != ([111, 117, 116] : List UInt8)) = false := bne_eq_false_iff_eq.mpr c20
      clear c20
      obtain rfl := Option.some.inj H
      go_wp2
      go_ret
      exact ⟨rs, dr⟩
     rw [if_neg c20] at H
     have c20b0 : (a0.toList == ([111, 117, 116] : List UInt8)) = false := beq_eq_false_iff_ne.mpr c20
     have c20b1 : (a0.toList != ([111, 117, 116] : List UInt8)) = true := bne_iff_ne.mpr c20
     by_cases c21 : a0.toList = ([112, 105, 99, 107] : List UInt8)
     ·rw [if_pos c21] at H
      have c21b0 : (a0.toList == ([112, 105, 99, 107] : List UInt8)) = true := beq_iff_eq.mpr c21
      have c21b1 : (a0.toList != ([112, 105, 99, 107] : List UInt8)) = false := bne_eq_false_iff_eq.mpr c21
      clear c21
      obtain rfl := Option.some.inj H
      go_wp2
      go_ret
      exact ⟨rs, dr⟩
     rw [if_neg c21] at H
     have c21b0 : (a0.toList == ([112, 105, 99, 107] : List UInt8)) = false := beq_eq_false_iff_ne.mpr c21
     have c21b1 : (a0.toList != ([112, 105, 99, 107] : List UInt8)) = true := bne_iff_ne.mpr c21
     by_cases c22 : a0.toList = ([110, 101, 101, 100] : List UInt8)
     ·rw [if_pos c22] at H
      have c22b0 : (a0.toList == ([110, 101, 101, 100] : List UInt8)) = true := beq_iff_eq.mpr c22
      have c22b1 : (a0.toList != ([110, 101, 101, 100] : List UInt8)) = false := bne_eq_false_iff_eq.mpr c22
      clear c22
      obtain rfl := Option.some.inj H
      go_wp2
      go_ret
      exact ⟨rs, dr⟩
     rw [if_neg c22] at H
     have c22b0 : (a0.toList == ([110, 101, 101, 100] : List UInt8)) = false := beq_eq_false_iff_ne.mpr c22
     have c22b1 : (a0.toList != ([110, 101, 101, 100] : List UInt8)) = true := bne_iff_ne.mpr c22
     by_cases c23 : a0.toList = ([109, 117, 115, 116] : List UInt8)
     ·rw [if_pos c23] at H
      have c23b0 : (a0.toList == ([109, 117, 115, 116] : List UInt8)) = true := beq_iff_eq.mpr c23
      have c23b1 : (a0.toList != ([109, 117, 115, 116] : List UInt8)) = false := bne_eq_false_iff_eq.mpr c23
      clear c23
      obtain rfl := Option.some.inj H
      go_wp2
      go_ret
      exact ⟨rs, dr⟩
     rw [if_neg c23] at H
     have c23b0 : (a0.toList == ([109, 117, 115, 116] : List UInt8)) = false := beq_eq_false_iff_ne.mpr c23
     have c23b1 : (a0.toList != ([109, 117, 115, 116] : List UInt8)) = true := bne_iff_ne.mpr c23
     by_cases c24 : a0.toList = ([108, 101, 118, 101, 108] : List UInt8)
     ·rw [if_pos c24] at H
      have c24b0 : (a0.toList == ([108, 101, 118, 101, 108] : List UInt8)) = true := beq_iff_eq.mpr c24
      have c24b1 : (a0.toList != ([108, 101, 118, 101, 108] : List UInt8)) = false := bne_eq_false_iff_eq.mpr c24
      clear c24
      obtain rfl := Option.some.inj H
      go_wp2
      go_ret
      exact ⟨rs, dr⟩
     rw [if_neg c24] at H
     have c24b0 : (a0.toList == ([108, 101, 118, 101, 108] : List UInt8)) = false := beq_eq_false_iff_ne.mpr c24
     have c24b1 : (a0.toList != ([108, 101, 118, 101, 108] : List UInt8)) = true := bne_iff_ne.mpr c24
     by_cases c25 : a0.toList = ([115, 101, 101, 115] : List UInt8)
     rotate_left
     ·rw [if_neg c25] at H
      have c25b0 : (a0.toList == ([115, 101, 101, 115] : List UInt8)) = false := beq_eq_false_iff_ne.mpr c25
      have c25b1 : (a0.toList != ([115, 101, 101, 115] : List UInt8)) = true := bne_iff_ne.mpr c25
      obtain rfl := Option.some.inj H
      go_wp2
      go_ret
      exact ⟨rs, dr⟩
     rw [if_pos c25] at H
     have c25b0 : (a0.toList == ([115, 101, 101, 115] : List UInt8)) = true := beq_iff_eq.mpr c25
     have c25b1 : (a0.toList != ([115, 101, 101, 115] : List UInt8)) = false := bne_eq_false_iff_eq.mpr c25
     clear c25
     obtain rfl := Option.some.inj H
     go_wp2
     go_ret
     exact ⟨rs, dr⟩
theorem wpList_lookup_own_bool {H : Type} {P : Program} (w : World) {ops : Array Oper} {rest : List Oper} {o : Oper} {a : Act} {Q : Exit → Act → World → Prop}
    (hg : o.guard = none) (m x : Operand) (t : TypeId) (hop : o.op = Op.lookup t m x false)
    (k e : TypeId) (K : Maps.Keyed P k) (ht : P.underlying t = some (.map k e)) (he : P.underlying e = some .bool) (hz : (zeroValue e).run P w = .ok (.bool false) w) (b n : Nat) (D : DataW H)
    (hm : a.eval m = .map (some b)) (hown : w.ownsMap P k (plainElem P e) b n D) (key : Value) (kl : Lit) (hx : a.eval x = key) (hkey : keyOf P k key = some kl)
    (c : Bool) (hat : D.atKey kl (.lit (.bool false)) = .lit (.bool c))
    (hK : wpList P ops Q rest (a.put o.dst (.bool c)) w) :
    wpList P ops Q (o :: rest) a w := by
  refine wpList_plain hg fun K' hK' => ?_
  obtain ⟨v, ps, hrun, hv⟩ := hown.lookup K ht hz (plainElem_bool he false) hkey
  rw [hat] at hv
  have hvb : v = .bool c := by
    unfold plainElem at hv
    rw [he] at hv
    cases v <;> simp at hv
    exact congrArg _ hv.1
  subst hvb
  unfold Oper.wp
  simp [execOp, hop, hm, hx, hrun, Result.andThen]
  exact hK' _ _ hK
def nameSet : List ByteArray → DataW Unit
  | [] => .map []
  | s :: r => (nameSet r).put (.string s.data.toList) (.lit (.bool true))
def met (ns : List ByteArray) (s : ByteArray) : Bool := ns.any fun n => n.data.toList == s.data.toList
theorem nameSet_map : ∀ ns, Maps.IsMap (nameSet ns)
  | [] => ⟨_, rfl⟩
  | s :: r => by
    obtain ⟨es, e⟩ := nameSet_map r
    rw [nameSet, e]
    exact ⟨_, rfl⟩
theorem keyLit_str (l : List UInt8) : WideAt.IsKeyLit (.string l) := by trivial
theorem nameSet_at (s : ByteArray) : ∀ ns, (nameSet ns).atKey (.string s.data.toList) (.lit (.bool false)) = .lit (.bool (met ns s))
  | [] => rfl
  | n :: r => by
    by_cases h : n.data.toList = s.data.toList
    · rw [nameSet, h, Maps.atKey_put_same (nameSet_map r) (keyLit_str _)]
      have hb : (n.data.toList == s.data.toList) = true := by rw [h]; exact beq_self_eq_true _
      unfold met
      rw [List.any_cons, hb, Bool.true_or]
    · rw [nameSet, Maps.atKey_put_other (by intro e; injection e with e; exact h e.symm), nameSet_at s r]
      have hb : (n.data.toList == s.data.toList) = false := by simpa using h
      unfold met
      rw [List.any_cons, hb, Bool.false_or]
def expr_Heading.l0 : Nat → List ByteArray → Int → List S42 → Int → Option Int
  | 0, _, _, _, _ => none
  | k + 1, ns, x6, x1, x28 => if x28 < (x1.length : Int) then (if 0 ≤ x28 then ((expr_isName.f k (rd_T42 x1 x28).f0).bind fun t => if t = true then (if met ns (rd_T42 x1 x28).f0 = true then some 1 else if (rd_T42 x1 x28).f1 < 0 then some 1 else if (rd_T42 x1 x28).f1 > 47 then some 1 else if (rd_T42 x1 x28).f2 < 1 then some 1 else if (rd_T42 x1 x28).f2 > 8 then some 1 else expr_Heading.l0 k ((rd_T42 x1 x28).f0 :: ns) (wrap64 (x6 + (rd_T42 x1 x28).f2)) x1 (wrap64 (x28 + 1))) else some 1) else none) else if x6 > 48 then some 1 else some 0
def expr_Heading.f (k : Nat) (a0 : Int) (l1 : List S42) : Option Int :=
  if a0 < 1 then some 1 else if a0 > 8 then some 1 else if (l1.length : Int) < 1 then some 1 else if (l1.length : Int) > 18 then some 1 else expr_Heading.l0 k [] 0 l1 0
theorem ite_b {α : Type} {c : Prop} [Decidable c] {a b r : α} (h : (if c then a else b) = r) : (decide c = true ∧ a = r) ∨ (decide c = false ∧ b = r) := by
  by_cases hc : c
  · exact .inl ⟨decide_eq_true hc, by rw [if_pos hc] at h; exact h⟩
  · exact .inr ⟨decide_eq_false hc, by rw [if_neg hc] at h; exact h⟩
theorem ite_t {α : Type} {t : Bool} {a b r : α} (h : (if t = true then a else b) = r) : (t = true ∧ a = r) ∨ (t = false ∧ b = r) := by
  cases t
  · exact .inr ⟨rfl, by simpa using h⟩
  · exact .inl ⟨rfl, by simpa using h⟩
theorem own_b {H : Type} {P : Program} {k : TypeId} {R : Value → Option (DataW H × List MemPlace)} {w w1 : World} {b n : Nat} {D : DataW H} (h : w.ownsMap P k R b n D) (hb : Below w.heap.size w w1) : w1.ownsMap P k R b n D :=
  h.kept (grown_of_below hb none) (by simp)
theorem keyed_str : Maps.Keyed Try.prog 9 := Maps.string_keyed Try.underlying9
theorem key_str {s : ByteArray} (hs : s.size ≤ maxLen) : keyOf Try.prog 9 (.string s) = some (.string s.data.toList) := Go.WideMaps.keyOf_string_mk Try.underlying9 hs
theorem zero_bool (w : World) : (zeroValue 4).run Try.prog w = .ok (.bool false) w := by kernel_rfl
theorem isName_short {k : Nat} {s : ByteArray} (h : expr_isName.f k s = some true) : s.size ≤ maxLen := by
  have hj : ∀ k, expr_isName.j0 k s true ≠ some true := by
    intro k
    cases k <;> simp [expr_isName.j0]
  have : s.size ≤ 12 := by
    unfold expr_isName.f at h
    split at h
    · exact absurd h (hj _)
    · split at h
      · exact absurd h (hj _)
      · omega
  unfold maxLen
  omega
theorem expr_Heading.calls (k : Nat) (a0 : Int) (A1 : Option Addr) (c1 : Nat) (l1 : List S42) (r : Int) (w : World) (hr1 : Kd.C k42 w A1 l1.length l1) (hc1 : l1.length ≤ c1) (h : expr_Heading.f k a0 l1 = some r) :
    Calls Try.prog 71 #[.int .i64 a0, .slice A1 l1.length c1] w fun e w' => e = .returned (.int .i64 r) ∧ Below w.heap.size w w' := by
  have hu := Try.underlying42
  have HR1 := Aside0.mk hr1
  have hmm := @run_makeMap Try.prog
  clear hr1 hc1
  unfold expr_Heading.f at h
  rcases ite_b h with ⟨b1, h⟩ | ⟨b1, h⟩
  case inl =>
    cases h
    go_enter Try.func71, Try.ntmps71
    go_wp2
    go_ret
    exact ⟨rfl, Below.refl _ _⟩
  rcases ite_b h with ⟨b2, h⟩ | ⟨b2, h⟩
  case inl =>
    cases h
    have b2' : decide (8 < a0) = true := b2
    go_enter Try.func71, Try.ntmps71
    go_wp2
    go_ret
    exact ⟨rfl, Below.refl _ _⟩
  rcases ite_b h with ⟨b3, h⟩ | ⟨b3, h⟩
  case inl =>
    cases h
    have b2' : decide (8 < a0) = false := b2
    go_enter Try.func71, Try.ntmps71
    go_wp2
    go_ret
    exact ⟨rfl, Below.refl _ _⟩
  rcases ite_b h with ⟨b4, h⟩ | ⟨b4, h⟩
  case inl =>
    cases h
    have b2' : decide (8 < a0) = false := b2
    have b4' : decide (18 < (l1.length : Int)) = true := b4
    go_enter Try.func71, Try.ntmps71
    go_wp2
    go_ret
    exact ⟨rfl, Below.refl _ _⟩
  have b2' : decide (8 < a0) = false := b2
  have b4' : decide (18 < (l1.length : Int)) = false := b4
  have H' := Aside0.mk h
  clear h
  go_enter Try.func71, Try.ntmps71
  go_wp2
  have HM0 := Aside0.mk (World.ownsMap_made (H := Unit) w Try.prog 9 (plainElem Try.prog 4))
  go_loopg [6, 28] k (fun kq v6 v28 w' => ∃ (ns : List ByteArray) (x6 x28 : Int), v6 = .int .i64 x6 ∧ v28 = .int .i64 x28 ∧ Aside0 (expr_Heading.l0 kq ns x6 l1 x28 = some r) ∧ Aside0 ((ns.length : Int) = x28) ∧ Aside0 (w'.ownsMap Try.prog 9 (plainElem (H := Unit) Try.prog 4) w.heap.size ns.length (nameSet ns)) ∧ Aside0 (Below w.heap.size w w'))
  case atStart => exact ⟨[], 0, 0, rfl, rfl, H', ⟨rfl⟩, HM0, ⟨bal (Below.refl _ _) _⟩⟩
  case round =>
    clear H' HM0
    obtain ⟨ns, x6, x28, rfl, rfl, HA, HN, HM, HB⟩ := hrel
    cases gk with
    | zero => exact absurd HA.out (by simp [expr_Heading.l0])
    | succ k1 =>
      have H := HA.out
      clear HA
      simp only [expr_Heading.l0] at H
      rcases ite_b H with ⟨t1, H⟩ | ⟨t1, H⟩
      case inr =>
        rcases ite_b H with ⟨t2, H⟩ | ⟨t2, H⟩
        · have t2' : decide (48 < x6) = true := t2
          cases H
          go_wp2
          go_ret
          exact ⟨rfl, HB.out⟩
        · have t2' : decide (48 < x6) = false := t2
          cases H
          go_wp2
          go_ret
          exact ⟨rfl, HB.out⟩
      rcases ite_b H with ⟨t2, H⟩ | ⟨t2, H⟩
      case inr => exact absurd H (by simp)
      have p0 : 0 ≤ x28 := of_decide_eq_true t2
      have p1 : x28 < (l1.length : Int) := of_decide_eq_true t1
      obtain ⟨ad, e1, q0, q1, q2⟩ := at_T42 HR1.out x28 p0 p1
      cases e1
      replace q0 := bcell HB.out q0
      replace q1 := bcell HB.out q1
      replace q2 := bcell HB.out q2
      obtain ⟨t, A0, H⟩ := Option.bind_eq_some_iff.mp H
      have A := Aside0.mk A0
      clear A0
      have HH : (t = false ∧ r = 1) ∨ (t = true ∧ met ns (rd_T42 l1 x28).f0 = true ∧ r = 1) ∨ (t = true ∧ met ns (rd_T42 l1 x28).f0 = false ∧ decide ((rd_T42 l1 x28).f1 < 0) = true ∧ r = 1) ∨
          (t = true ∧ met ns (rd_T42 l1 x28).f0 = false ∧ decide ((rd_T42 l1 x28).f1 < 0) = false ∧ decide (47 < (rd_T42 l1 x28).f1) = true ∧ r = 1) ∨
          (t = true ∧ met ns (rd_T42 l1 x28).f0 = false ∧ decide ((rd_T42 l1 x28).f1 < 0) = false ∧ decide (47 < (rd_T42 l1 x28).f1) = false ∧ decide ((rd_T42 l1 x28).f2 < 1) = true ∧ r = 1) ∨
          (t = true ∧ met ns (rd_T42 l1 x28).f0 = false ∧ decide ((rd_T42 l1 x28).f1 < 0) = false ∧ decide (47 < (rd_T42 l1 x28).f1) = false ∧ decide ((rd_T42 l1 x28).f2 < 1) = false ∧ decide (8 < (rd_T42 l1 x28).f2) = true ∧ r = 1) ∨
          (t = true ∧ met ns (rd_T42 l1 x28).f0 = false ∧ decide ((rd_T42 l1 x28).f1 < 0) = false ∧ decide (47 < (rd_T42 l1 x28).f1) = false ∧ decide ((rd_T42 l1 x28).f2 < 1) = false ∧ decide (8 < (rd_T42 l1 x28).f2) = false ∧
            Aside0 (expr_Heading.l0 k1 ((rd_T42 l1 x28).f0 :: ns) (wrap64 (x6 + (rd_T42 l1 x28).f2)) l1 (wrap64 (x28 + 1)) = some r)) := by
        rcases ite_t H with ⟨a0, H⟩ | ⟨a0, H⟩
        case inr => exact .inl ⟨a0, (Option.some.inj H).symm⟩
        rcases ite_t H with ⟨a1, H⟩ | ⟨a1, H⟩
        case inl => exact .inr (.inl ⟨a0, a1, (Option.some.inj H).symm⟩)
        rcases ite_b H with ⟨a2, H⟩ | ⟨a2, H⟩
        case inl => exact .inr (.inr (.inl ⟨a0, a1, a2, (Option.some.inj H).symm⟩))
        rcases ite_b H with ⟨a3, H⟩ | ⟨a3, H⟩
        case inl => exact .inr (.inr (.inr (.inl ⟨a0, a1, a2, a3, (Option.some.inj H).symm⟩)))
        rcases ite_b H with ⟨a4, H⟩ | ⟨a4, H⟩
        case inl => exact .inr (.inr (.inr (.inr (.inl ⟨a0, a1, a2, a3, a4, (Option.some.inj H).symm⟩))))
        rcases ite_b H with ⟨a5, H⟩ | ⟨a5, H⟩
        case inl => exact .inr (.inr (.inr (.inr (.inr (.inl ⟨a0, a1, a2, a3, a4, a5, (Option.some.inj H).symm⟩)))))
        exact .inr (.inr (.inr (.inr (.inr (.inr ⟨a0, a1, a2, a3, a4, a5, ⟨H⟩⟩)))))
      clear H t1 t2
      have hn : Aside0 (ns.length < maxLen) := ⟨by have := HN.out; have := of_decide_eq_false b4; unfold maxLen; omega⟩
      have hsz := HB.out.size
      have hlt := HM.out.lt
      rcases HH with ⟨rfl, rfl⟩ | ⟨rfl, a1, rfl⟩ | ⟨rfl, a1, a2, rfl⟩ | ⟨rfl, a1, a2, a3, rfl⟩ | ⟨rfl, a1, a2, a3, a4, rfl⟩ | ⟨rfl, a1, a2, a3, a4, a5, rfl⟩ | ⟨rfl, a1, a2, a3, a4, a5, HA⟩
      all_goals have hp1 := eq_true p1
      all_goals have hp0 := eq_true p0
      all_goals go_wp2_with (first
        | (go_at_call 82; (with_reducible refine (expr_isName.calls k1 _ _ _ A.out).mono ?_); rintro e w' ⟨rfl, ⟨nd, rfl⟩⟩)
        | ((try (refine gate_guard (by rfl) ?_; dsimp only)); at_lookup; refine wpList_lookup_own_bool _ rfl _ _ 130 rfl 9 4 keyed_str Try.underlying130 Try.underlying4 (zero_bool _) w.heap.size ns.length (nameSet ns) rfl (own_b HM.out (by repeat (first | exact Below.refl _ _ | apply bal | apply bdN | apply bd1))) _ _ rfl (key_str (isName_short A.out)) _ ((nameSet_at _ _).trans (by rw [a1])) ?_)
        | (at_mapUpdate; refine wpList_mapUpdate_own _ rfl _ _ _ 130 rfl 9 4 keyed_str Try.underlying130 _ w.heap.size _ _ rfl (own_b HM.out (by repeat (first | exact Below.refl _ _ | apply bal | apply bdN | apply bd1))) hn.out _ _ _ rfl rfl (key_str (isName_short A.out)) _ [] (plainElem_bool Try.underlying4 true) ?_; intro w1 hown1 hgrow1; have hc2 : w1.cell? ⟨wr.heap.size, 2, none⟩ = some (.int .i64 (rd_T42 l1 x28).f2) := (World.cell?_of_block (a := ⟨wr.heap.size, 2, none⟩) (hgrow1.block wr.heap.size (by simp) (by intro e; injection e with e; omega))).trans (by go_simp)))
      iterate 6 (go_ret; exact ⟨rfl, by repeat (first | exact HB.out | apply bal | apply bdN | apply bd1)⟩)
      go_roundg k1
      case measure => omega
      case rel => exact ⟨_ :: ns, _, _, rfl, rfl, HA, ⟨by have := HN.out; have := of_decide_eq_false b4; rw [List.length_cons]; unfold wrap64; omega⟩, ⟨hown1⟩, ⟨Below.grown (by repeat (first | exact HB.out | apply bal | apply bdN | apply bd1)) hgrow1 (by simp; omega) (fun k e => by cases e; exact Nat.le_refl _)⟩⟩
mutual
def expr_head_arity.j0 : Nat → Bool → Int → List (S42) → Int → Int → Int → Int → List (S52) → Option (Int)
 | 0, _, _, _, _, _, _, _, _ => none
 | k + 1, x9, x174000, x174001, x174002, x175000, x175001, x175002, x175003 => if x9 = true then (if 0 ≤ x175001 then (if x175001 < (x174001.length : Int) then (if ((rd_T42 x174001 x175001).f2) > 1 then (some 1) else (some 0)) else (none)) else (none)) else (if x175000 ≥ 2 then (expr_head_arity.j1 k (decide (x175000 ≤ 11)) x175000 x175001 x175002 x175003) else (expr_head_arity.j1 k false x175000 x175001 x175002 x175003))
def expr_head_arity.j1 : Nat → Bool → Int → Int → Int → List (S52) → Option (Int)
 | 0, _, _, _, _, _ => none
 | k + 1, x34, x175000, x175001, x175002, x175003 => if x34 = true then (expr_head_arity.j2 k x34 x175000 x175001 x175002 x175003) else (if x175000 = 13 then (expr_head_arity.j2 k (x175000 == 13) x175000 x175001 x175002 x175003) else (expr_head_arity.j2 k (x175000 == 14) x175000 x175001 x175002 x175003))
def expr_head_arity.j2 : Nat → Bool → Int → Int → Int → List (S52) → Option (Int)
 | 0, _, _, _, _, _ => none
 | k + 1, x34, x175000, x175001, x175002, x175003 => if x34 = true then (some 2) else (if x175000 = 12 then (some 1) else (if x175000 = 15 then (some 3) else (some (-1))))
end
def expr_head_arity.f (k : Nat) (a0_0 : Int) (l0_1 : List (S42)) (a0_2 : Int) (a1_0 : Int) (a1_1 : Int) (a1_2 : Int) (l1_3 : List (S52)) : Option (Int) := if a1_0 = 0 then (some 0) else (if a1_0 = 1 then (if a1_1 ≥ 0 then (expr_head_arity.j0 k (decide (a1_1 < (l0_1.length : Int))) a0_0 l0_1 a0_2 a1_0 a1_1 a1_2 l1_3) else (expr_head_arity.j0 k false a0_0 l0_1 a0_2 a1_0 a1_1 a1_2 l1_3)) else (expr_head_arity.j0 k false a0_0 l0_1 a0_2 a1_0 a1_1 a1_2 l1_3))
theorem expr_head_arity.calls (k : Nat) (a0_0 : Int) (A0_1 : Option Addr) (c0_1 : Nat) (l0_1 : List (S42)) (a0_2 : Int) (a1_0 : Int) (a1_1 : Int) (a1_2 : Int) (A1_3 : Option Addr) (c1_3 : Nat) (l1_3 : List (S52)) (r : Int) (w : World) (hr0_1 : Kd.C k42 w A0_1 l0_1.length l0_1) (hc0_1 : l0_1.length ≤ c0_1) (hr1_3 : Kd.C k52 w A1_3 l1_3.length l1_3) (hc1_3 : l1_3.length ≤ c1_3) (h : expr_head_arity.f k a0_0 l0_1 a0_2 a1_0 a1_1 a1_2 l1_3 = some r) :
  Calls Try.prog 94 #[.agg #[.int .i64 a0_0, .slice A0_1 l0_1.length c0_1, .int .i64 a0_2], .agg #[.int .i64 a1_0, .int .i64 a1_1, .int .i64 a1_2, .slice A1_3 l1_3.length c1_3]] w fun e w' => e = .returned (.int .i64 r) ∧ Below w.heap.size w w' := by
 have hu138 := Try.underlying138
 have hu52 := Try.underlying52
 have HR0_1 := Aside0.mk hr0_1
 have HC0_1 := Aside0.mk hc0_1
 clear hr0_1 hc0_1
 have HR1_3 := Aside0.mk hr1_3
 have HC1_3 := Aside0.mk hc1_3
 clear hr1_3 hc1_3
 have HB := Aside0.mk (Below.refl w.heap.size w)
 have H : (if a1_0 = 0 then (some 0) else (if a1_0 = 1 then (if a1_1 ≥ 0 then (expr_head_arity.j0 k (decide (a1_1 < (l0_1.length : Int))) a0_0 l0_1 a0_2 a1_0 a1_1 a1_2 l1_3) else (expr_head_arity.j0 k false a0_0 l0_1 a0_2 a1_0 a1_1 a1_2 l1_3)) else (expr_head_arity.j0 k false a0_0 l0_1 a0_2 a1_0 a1_1 a1_2 l1_3))) = some r := h
 clear h
 by_cases c3 : a1_0 = 0
 ·rw [if_pos c3] at H
  have c3b0 : (a1_0 == 0) = true := beq_iff_eq.mpr c3
  have c3b1 : (a1_0 != 0) = false := bne_eq_false_iff_eq.mpr c3
  clear c3
  obtain rfl := Option.some.inj H
  go_enter Try.func94, Try.ntmps94
  go_wp2_with (first | ((with_reducible refine gate_dst (N := 2) rfl ?_); (try (refine gate_guard (by rfl) ?_; dsimp only)); refine bx 2 rfl rfl #[.int .i64 a0_0, .slice A0_1 l0_1.length c0_1, .int .i64 a0_2] 138 ?_; intro gb173 hg w4 hbox hb; have BK173 := Aside0.mk (hbox); have GE173 := ge HB hg; replace HB := sb HB hb; clear hb hbox hg) | ((with_reducible refine gate_dst (N := 3) rfl ?_); (try (refine gate_guard (by rfl) ?_; dsimp only)); refine bx 3 rfl rfl #[.int .i64 a1_0, .int .i64 a1_1, .int .i64 a1_2, .slice A1_3 l1_3.length c1_3] 52 ?_; intro gb174 hg w5 hbox hb; have BK174 := Aside0.mk (hbox); have GE174 := ge HB hg; have NB173_174 := Aside0.mk ((by rw [hg]; exact Nat.ne_of_lt (blk_lt (kk BK173)) : gb173 ≠ gb174)); have NB174_173 := Aside0.mk ((by rw [hg]; exact Nat.ne_of_gt (blk_lt (kk BK173)) : gb174 ≠ gb173)); replace BK173 := kb BK173 hb; replace HB := sb HB hb; clear hb hbox hg; have hnb6 := NB174_173.out; have hnc6 := NB173_174.out; obtain ⟨hcz7_0, hcz7_1, hcz7_2, hcz7_3, hfz7_0, hfz7_1, hfz7_2, hfz7_3⟩ := cf4 BK174.out))
  go_ret
  exact ⟨rr, bb HB⟩
 rw [if_neg c3] at H
 have c3b0 : (a1_0 == 0) = false := beq_eq_false_iff_ne.mpr c3
 have c3b1 : (a1_0 != 0) = true := bne_iff_ne.mpr c3
 have HC8 := Aside0.mk H
 clear H
 go_enter Try.func94, Try.ntmps94
 go_upto_region 3 with (first | ((with_reducible refine gate_dst (N := 2) rfl ?_); (try (refine gate_guard (by rfl) ?_; dsimp only)); refine bx 2 rfl rfl #[.int .i64 a0_0, .slice A0_1 l0_1.length c0_1, .int .i64 a0_2] 138 ?_; intro gb173 hg w9 hbox hb; have BK173 := Aside0.mk (hbox); have GE173 := ge HB hg; replace HB := sb HB hb; clear hb hbox hg) | ((with_reducible refine gate_dst (N := 3) rfl ?_); (try (refine gate_guard (by rfl) ?_; dsimp only)); refine bx 3 rfl rfl #[.int .i64 a1_0, .int .i64 a1_1, .int .i64 a1_2, .slice A1_3 l1_3.length c1_3] 52 ?_; intro gb174 hg w10 hbox hb; have BK174 := Aside0.mk (hbox); have GE174 := ge HB hg; have NB173_174 := Aside0.mk ((by rw [hg]; exact Nat.ne_of_lt (blk_lt (kk BK173)) : gb173 ≠ gb174)); have NB174_173 := Aside0.mk ((by rw [hg]; exact Nat.ne_of_gt (blk_lt (kk BK173)) : gb174 ≠ gb173)); replace BK173 := kb BK173 hb; replace HB := sb HB hb; clear hb hbox hg; have hnb11 := NB174_173.out; have hnc11 := NB173_174.out; obtain ⟨hcz12_0, hcz12_1, hcz12_2, hcz12_3, hfz12_0, hfz12_1, hfz12_2, hfz12_3⟩ := cf4 BK174.out))
 (try simp only [Act.put, List.setIfInBounds_toArray, List.set_cons_zero, List.set_cons_succ])
 go_cut [9] (fun v9 wc => ∃ (kq : Nat) (x9_7 : Bool), v9 = .bool x9_7 ∧ Aside0 (expr_head_arity.j0 kq x9_7 a0_0 l0_1 a0_2 a1_0 a1_1 a1_2 l1_3 = some r) ∧ Aside0 (kq ≤ k) ∧ Aside0 (wc.heap[gb173]? = some (.cells #[.int .i64 a0_0, (.slice A0_1 l0_1.length c0_1), .int .i64 a0_2] 138 (0, 0))) ∧ Aside0 (wc.heap[gb174]? = some (.cells #[.int .i64 a1_0, .int .i64 a1_1, .int .i64 a1_2, (.slice A1_3 l1_3.length c1_3)] 52 (0, 0))) ∧ Aside0 (Below w.heap.size w wc))
 case first =>
  have H := HC8.out
  clear HC8
  by_cases c13 : a1_0 = 1
  rotate_left
  ·rw [if_neg c13] at H
   have c13b0 : (a1_0 == 1) = false := beq_eq_false_iff_ne.mpr c13
   have c13b1 : (a1_0 != 1) = true := bne_iff_ne.mpr c13
   (first | rw [c13b0] | (simp only [i64_w, i32_w]; rw [c13b0]) | skip)
   have H' := Aside0.mk H
   clear H
   have hnb20 := NB174_173.out
   have hnc20 := NB173_174.out
   obtain ⟨hcz21_0, hcz21_1, hcz21_2, hcz21_3, hfz21_0, hfz21_1, hfz21_2, hfz21_3⟩ := cf4 BK174.out
   go_wp2
   go_meet
   case rel => exact ⟨_, (false), rs, H', ⟨by first | omega | exact Nat.le_refl _⟩, ⟨kk BK173⟩, ⟨kk BK174⟩, ⟨bb HB⟩⟩
  rw [if_pos c13] at H
  have c13b0 : (a1_0 == 1) = true := beq_iff_eq.mpr c13
  have c13b1 : (a1_0 != 1) = false := bne_eq_false_iff_eq.mpr c13
  clear c13
  (first | rw [c13b0] | (simp only [i64_w, i32_w]; rw [c13b0]) | skip)
  by_cases c14 : a1_1 ≥ 0
  rotate_left
  ·rw [if_neg c14] at H
   have c14b0 : decide (0 ≤ a1_1) = false := decide_eq_false c14
   clear c14
   have H' := Aside0.mk H
   clear H
   have hnb18 := NB174_173.out
   have hnc18 := NB173_174.out
   obtain ⟨hcz19_0, hcz19_1, hcz19_2, hcz19_3, hfz19_0, hfz19_1, hfz19_2, hfz19_3⟩ := cf4 BK174.out
   go_wp2
   go_meet
   case rel => exact ⟨_, (false), rs, H', ⟨by first | omega | exact Nat.le_refl _⟩, ⟨kk BK173⟩, ⟨kk BK174⟩, ⟨bb HB⟩⟩
  rw [if_pos c14] at H
  have c14b0 : decide (0 ≤ a1_1) = true := decide_eq_true c14
  clear c14
  have H' := Aside0.mk H
  clear H
  have hnb15 := NB174_173.out
  have hnc15 := NB173_174.out
  obtain ⟨hcz16_0, hcz16_1, hcz16_2, hcz16_3, hfz16_0, hfz16_1, hfz16_2, hfz16_3⟩ := cf4 BK174.out
  obtain ⟨hcz17_0, hcz17_1, hcz17_2, hfz17_0, hfz17_1, hfz17_2⟩ := cf3 BK173.out
  go_wp2
  go_meet
  case rel => exact ⟨_, (decide (a1_1 < (l0_1.length : Int))), rs, H', ⟨by first | omega | exact Nat.le_refl _⟩, ⟨kk BK173⟩, ⟨kk BK174⟩, ⟨bb HB⟩⟩
 case rest =>
  clear HC8
  try clear c1
  try clear c2
  try clear p2
  try clear c3
  try clear c3b0
  try clear c3b1
  try clear c6
  try clear c9
  try clear c11
  try clear c13
  try clear c13b0
  try clear c13b1
  try clear c14
  try clear c14b0
  try clear c15
  try clear c18
  try clear c20
  try clear hcz12_0 hcz12_1 hcz12_2 hcz12_3
  try clear hcz16_0 hcz16_1 hcz16_2 hcz16_3
  try clear hcz17_0 hcz17_1 hcz17_2
  try clear hcz19_0 hcz19_1 hcz19_2 hcz19_3
  try clear hcz21_0 hcz21_1 hcz21_2 hcz21_3
  try clear hcz7_0 hcz7_1 hcz7_2 hcz7_3
  try clear hfz12_0 hfz12_1 hfz12_2 hfz12_3
  try clear hfz16_0 hfz16_1 hfz16_2 hfz16_3
  try clear hfz17_0 hfz17_1 hfz17_2
  try clear hfz19_0 hfz19_1 hfz19_2 hfz19_3
  try clear hfz21_0 hfz21_1 hfz21_2 hfz21_3
  try clear hfz7_0 hfz7_1 hfz7_2 hfz7_3
  obtain ⟨kq, x9_7, rfl, HA, HJ7, BK173, BK174, HB⟩ := hcut
  cases kq with
  | zero => exact absurd HA.out (by simp [expr_head_arity.j0])
  | succ kj7 =>
   have H := HA.out
   clear HA
   simp only [expr_head_arity.j0] at H
   by_cases c22 : x9_7 = true
   ·subst c22
    replace H := it H
    by_cases c23 : 0 ≤ a1_1
    rotate_left
    ·rw [if_neg c23] at H
     exact absurd H (by simp)
    rw [if_pos c23] at H
    have c23b0 : decide (0 ≤ a1_1) = true := decide_eq_true c23
    clear c23
    by_cases c24 : a1_1 < (l0_1.length : Int)
    rotate_left
    ·rw [if_neg c24] at H
     exact absurd H (by simp)
    rw [if_pos c24] at H
    have c24b0 : decide (a1_1 < (l0_1.length : Int)) = true := decide_eq_true c24
    clear c24
    by_cases c25 : ((rd_T42 l0_1 a1_1).f2) > 1
    ·rw [if_pos c25] at H
     have c25b0 : decide (1 < ((rd_T42 l0_1 a1_1).f2)) = true := decide_eq_true c25
     clear c25
     obtain rfl := Option.some.inj H
     have hnb26 := NB173_174.out
     have hnc26 := NB174_173.out
     obtain ⟨hcz27_0, hcz27_1, hcz27_2, hfz27_0, hfz27_1, hfz27_2⟩ := cf3 BK173.out
     obtain ⟨hcz28_0, hcz28_1, hcz28_2, hcz28_3, hfz28_0, hfz28_1, hfz28_2, hfz28_3⟩ := cf4 BK174.out
     have p175 : 0 ≤ (a1_1 : Int) := od
     have q175 : a1_1 < (l0_1.length : Int) := od
     obtain ⟨ad175, e175, hx175_0, hx175_1, hx175_2⟩ := at_T42 HR0_1.out a1_1 p175 q175
     cases e175
     replace hx175_0 := bcell HB.out hx175_0
     replace hx175_1 := bcell HB.out hx175_1
     replace hx175_2 := bcell HB.out hx175_2
     replace p175 := eq_true p175
     replace q175 := eq_true q175
     go_wp2
     go_ret
     exact ⟨rr, bb HB⟩
    rw [if_neg c25] at H
    have c25b0 : decide (1 < ((rd_T42 l0_1 a1_1).f2)) = false := decide_eq_false c25
    clear c25
    obtain rfl := Option.some.inj H
    have hnb29 := NB173_174.out
    have hnc29 := NB174_173.out
    obtain ⟨hcz30_0, hcz30_1, hcz30_2, hfz30_0, hfz30_1, hfz30_2⟩ := cf3 BK173.out
    obtain ⟨hcz31_0, hcz31_1, hcz31_2, hcz31_3, hfz31_0, hfz31_1, hfz31_2, hfz31_3⟩ := cf4 BK174.out
    have p175 : 0 ≤ (a1_1 : Int) := od
    have q175 : a1_1 < (l0_1.length : Int) := od
    obtain ⟨ad175, e175, hx175_0, hx175_1, hx175_2⟩ := at_T42 HR0_1.out a1_1 p175 q175
    cases e175
    replace hx175_0 := bcell HB.out hx175_0
    replace hx175_1 := bcell HB.out hx175_1
    replace hx175_2 := bcell HB.out hx175_2
    replace p175 := eq_true p175
    replace q175 := eq_true q175
    go_wp2
    go_ret
    exact ⟨rr, bb HB⟩
   replace c22 := Bool.eq_false_iff.mpr c22
   subst c22
   replace H := fi H
   have HC32 := Aside0.mk H
   clear H
   go_upto_region 7 with (fail)
   go_cut [34] (fun v34 wc => ∃ (kq : Nat) (x34_31 : Bool), v34 = .bool x34_31 ∧ Aside0 (expr_head_arity.j1 kq x34_31 a1_0 a1_1 a1_2 l1_3 = some r) ∧ Aside0 (kq ≤ kj7) ∧ Aside0 (wc.heap[gb173]? = some (.cells #[.int .i64 a0_0, (.slice A0_1 l0_1.length c0_1), .int .i64 a0_2] 138 (0, 0))) ∧ Aside0 (wc.heap[gb174]? = some (.cells #[.int .i64 a1_0, .int .i64 a1_1, .int .i64 a1_2, (.slice A1_3 l1_3.length c1_3)] 52 (0, 0))) ∧ Aside0 (Below w.heap.size w wc))
   case first =>
    have H := HC32.out
    clear HC32
    by_cases c33 : a1_0 ≥ 2
    rotate_left
    ·rw [if_neg c33] at H
     have c33b0 : decide (2 ≤ a1_0) = false := decide_eq_false c33
     clear c33
     (first | rw [c33b0] | (simp only [i64_w, i32_w]; rw [c33b0]) | skip)
     have H' := Aside0.mk H
     clear H
     have hnb36 := NB174_173.out
     have hnc36 := NB173_174.out
     obtain ⟨hcz37_0, hcz37_1, hcz37_2, hcz37_3, hfz37_0, hfz37_1, hfz37_2, hfz37_3⟩ := cf4 BK174.out
     go_wp2
     go_meet
     case rel => exact ⟨_, (false), rs, H', ⟨by have := HJ7.out; first | omega | exact Nat.le_refl _⟩, ⟨kk BK173⟩, ⟨kk BK174⟩, ⟨bb HB⟩⟩
    rw [if_pos c33] at H
    have c33b0 : decide (2 ≤ a1_0) = true := decide_eq_true c33
    clear c33
    (first | rw [c33b0] | (simp only [i64_w, i32_w]; rw [c33b0]) | skip)
    have H' := Aside0.mk H
    clear H
    have hnb34 := NB174_173.out
    have hnc34 := NB173_174.out
    obtain ⟨hcz35_0, hcz35_1, hcz35_2, hcz35_3, hfz35_0, hfz35_1, hfz35_2, hfz35_3⟩ := cf4 BK174.out
    go_wp2
    go_meet
    case rel => exact ⟨_, (decide (a1_0 ≤ 11)), rs, H', ⟨by have := HJ7.out; first | omega | exact Nat.le_refl _⟩, ⟨kk BK173⟩, ⟨kk BK174⟩, ⟨bb HB⟩⟩
   case rest =>
    clear HC32
    try clear c1
    try clear p1
    try clear q1
    try clear hx1
    try clear c2
    try clear p2
    try clear c3
    try clear c3b0
    try clear c3b1
    try clear c6
    try clear c9
    try clear c11
    try clear c13
    try clear c13b0
    try clear c13b1
    try clear c14
    try clear c14b0
    try clear c15
    try clear p17
    try clear q17
    try clear hx17
    try clear c18
    try clear c20
    try clear c22
    try clear c23
    try clear c23b0
    try clear c24
    try clear c24b0
    try clear c25
    try clear c25b0
    try clear c26
    try clear c29
    try clear c33
    try clear c33b0
    try clear c34
    try clear c36
    try clear hcz12_0 hcz12_1 hcz12_2 hcz12_3
    try clear hcz16_0 hcz16_1 hcz16_2 hcz16_3
    try clear hcz17_0 hcz17_1 hcz17_2
    try clear hcz19_0 hcz19_1 hcz19_2 hcz19_3
    try clear hcz21_0 hcz21_1 hcz21_2 hcz21_3
    try clear hcz27_0 hcz27_1 hcz27_2
    try clear hcz28_0 hcz28_1 hcz28_2 hcz28_3
    try clear hcz30_0 hcz30_1 hcz30_2
    try clear hcz31_0 hcz31_1 hcz31_2 hcz31_3
    try clear hcz35_0 hcz35_1 hcz35_2 hcz35_3
    try clear hcz37_0 hcz37_1 hcz37_2 hcz37_3
    try clear hcz7_0 hcz7_1 hcz7_2 hcz7_3
    try clear hfz12_0 hfz12_1 hfz12_2 hfz12_3
    try clear hfz16_0 hfz16_1 hfz16_2 hfz16_3
    try clear hfz17_0 hfz17_1 hfz17_2
    try clear hfz19_0 hfz19_1 hfz19_2 hfz19_3
    try clear hfz21_0 hfz21_1 hfz21_2 hfz21_3
    try clear hfz27_0 hfz27_1 hfz27_2
    try clear hfz28_0 hfz28_1 hfz28_2 hfz28_3
    try clear hfz30_0 hfz30_1 hfz30_2
    try clear hfz31_0 hfz31_1 hfz31_2 hfz31_3
    try clear hfz35_0 hfz35_1 hfz35_2 hfz35_3
    try clear hfz37_0 hfz37_1 hfz37_2 hfz37_3
    try clear hfz7_0 hfz7_1 hfz7_2 hfz7_3
    try clear hx175_0
    try clear hx175_1
    try clear hx175_2
    try clear p175
    try clear p2
    try clear q175
    obtain ⟨kq, x34_31, rfl, HA, HJ31, BK173, BK174, HB⟩ := hcut
    cases kq with
    | zero => exact absurd HA.out (by simp [expr_head_arity.j1])
    | succ kj31 =>
     have H := HA.out
     clear HA
     simp only [expr_head_arity.j1] at H
     have HC38 := Aside0.mk H
     clear H
     go_upto_if 34 with (fail)
     go_cut [34] (fun v34 wc => ∃ (kq : Nat) (x34_37 : Bool), v34 = .bool x34_37 ∧ Aside0 (expr_head_arity.j2 kq x34_37 a1_0 a1_1 a1_2 l1_3 = some r) ∧ Aside0 (kq ≤ kj31) ∧ Aside0 (wc.heap[gb173]? = some (.cells #[.int .i64 a0_0, (.slice A0_1 l0_1.length c0_1), .int .i64 a0_2] 138 (0, 0))) ∧ Aside0 (wc.heap[gb174]? = some (.cells #[.int .i64 a1_0, .int .i64 a1_1, .int .i64 a1_2, (.slice A1_3 l1_3.length c1_3)] 52 (0, 0))) ∧ Aside0 (Below w.heap.size w wc))
     case first =>
      have H := HC38.out
      clear HC38
      by_cases c39 : x34_31 = true
      ·subst c39
       replace H := it H
       have H' := Aside0.mk H
       clear H
       go_wp2
       go_meet
       case rel => exact ⟨_, (true), rs, H', ⟨by have := HJ7.out; have := HJ31.out; first | omega | exact Nat.le_refl _⟩, ⟨kk BK173⟩, ⟨kk BK174⟩, ⟨bb HB⟩⟩
      replace c39 := Bool.eq_false_iff.mpr c39
      subst c39
      replace H := fi H
      by_cases c40 : a1_0 = 13
      rotate_left
      ·rw [if_neg c40] at H
       have c40b0 : (a1_0 == 13) = false := beq_eq_false_iff_ne.mpr c40
       have c40b1 : (a1_0 != 13) = true := bne_iff_ne.mpr c40
       (first | rw [c40b0] | (simp only [i64_w, i32_w]; rw [c40b0]) | skip)
       have H' := Aside0.mk H
       clear H
       have hnb43 := NB174_173.out
       have hnc43 := NB173_174.out
       obtain ⟨hcz44_0, hcz44_1, hcz44_2, hcz44_3, hfz44_0, hfz44_1, hfz44_2, hfz44_3⟩ := cf4 BK174.out
       go_wp2
       go_meet
       case rel => exact ⟨_, ((a1_0 == 14)), rs, H', ⟨by have := HJ7.out; have := HJ31.out; first | omega | exact Nat.le_refl _⟩, ⟨kk BK173⟩, ⟨kk BK174⟩, ⟨bb HB⟩⟩
      rw [if_pos c40] at H
      have c40b0 : (a1_0 == 13) = true := beq_iff_eq.mpr c40
      have c40b1 : (a1_0 != 13) = false := bne_eq_false_iff_eq.mpr c40
      clear c40
      (first | rw [c40b0] | (simp only [i64_w, i32_w]; rw [c40b0]) | skip)
      have H' := Aside0.mk H
      clear H
      have hnb41 := NB174_173.out
      have hnc41 := NB173_174.out
      obtain ⟨hcz42_0, hcz42_1, hcz42_2, hcz42_3, hfz42_0, hfz42_1, hfz42_2, hfz42_3⟩ := cf4 BK174.out
      go_wp2
      go_meet
      case rel => exact ⟨_, ((a1_0 == 13)), rs, H', ⟨by have := HJ7.out; have := HJ31.out; first | omega | exact Nat.le_refl _⟩, ⟨kk BK173⟩, ⟨kk BK174⟩, ⟨bb HB⟩⟩
     case rest =>
      clear HC38
      try clear c1
      try clear p1
      try clear q1
      try clear hx1
      try clear c2
      try clear p2
      try clear c3
      try clear c3b0
      try clear c3b1
      try clear c4
      try clear c6
      try clear c9
      try clear c11
      try clear c13
      try clear c13b0
      try clear c13b1
      try clear c14
      try clear c14b0
      try clear c15
      try clear p17
      try clear q17
      try clear hx17
      try clear c18
      try clear c20
      try clear c22
      try clear c23
      try clear c23b0
      try clear c24
      try clear c24b0
      try clear c25
      try clear c25b0
      try clear c26
      try clear c29
      try clear c33
      try clear c33b0
      try clear c34
      try clear c36
      try clear c39
      try clear c40
      try clear c40b0
      try clear c40b1
      try clear c41
      try clear c43
      try clear hcz12_0 hcz12_1 hcz12_2 hcz12_3
      try clear hcz16_0 hcz16_1 hcz16_2 hcz16_3
      try clear hcz17_0 hcz17_1 hcz17_2
      try clear hcz19_0 hcz19_1 hcz19_2 hcz19_3
      try clear hcz21_0 hcz21_1 hcz21_2 hcz21_3
      try clear hcz27_0 hcz27_1 hcz27_2
      try clear hcz28_0 hcz28_1 hcz28_2 hcz28_3
      try clear hcz30_0 hcz30_1 hcz30_2
      try clear hcz31_0 hcz31_1 hcz31_2 hcz31_3
      try clear hcz35_0 hcz35_1 hcz35_2 hcz35_3
      try clear hcz37_0 hcz37_1 hcz37_2 hcz37_3
      try clear hcz42_0 hcz42_1 hcz42_2 hcz42_3
      try clear hcz44_0 hcz44_1 hcz44_2 hcz44_3
      try clear hcz7_0 hcz7_1 hcz7_2 hcz7_3
      try clear hfz12_0 hfz12_1 hfz12_2 hfz12_3
      try clear hfz16_0 hfz16_1 hfz16_2 hfz16_3
      try clear hfz17_0 hfz17_1 hfz17_2
      try clear hfz19_0 hfz19_1 hfz19_2 hfz19_3
      try clear hfz21_0 hfz21_1 hfz21_2 hfz21_3
      try clear hfz27_0 hfz27_1 hfz27_2
      try clear hfz28_0 hfz28_1 hfz28_2 hfz28_3
      try clear hfz30_0 hfz30_1 hfz30_2
      try clear hfz31_0 hfz31_1 hfz31_2 hfz31_3
      try clear hfz35_0 hfz35_1 hfz35_2 hfz35_3
      try clear hfz37_0 hfz37_1 hfz37_2 hfz37_3
      try clear hfz42_0 hfz42_1 hfz42_2 hfz42_3
      try clear hfz44_0 hfz44_1 hfz44_2 hfz44_3
      try clear hfz7_0 hfz7_1 hfz7_2 hfz7_3
      try clear hx175_0
      try clear hx175_1
      try clear hx175_2
      try clear p1
      try clear p17
      try clear p175
      try clear p2
      try clear q1
      try clear q17
      try clear q175
      obtain ⟨kq, x34_37, rfl, HA, HJ37, BK173, BK174, HB⟩ := hcut
      cases kq with
      | zero => exact absurd HA.out (by simp [expr_head_arity.j2])
      | succ kj37 =>
       have H := HA.out
       clear HA
       simp only [expr_head_arity.j2] at H
       by_cases c45 : x34_37 = true
       ·subst c45
        replace H := it H
        obtain rfl := Option.some.inj H
        go_wp2
        go_ret
        exact ⟨rr, bb HB⟩
       replace c45 := Bool.eq_false_iff.mpr c45
       subst c45
       replace H := fi H
       by_cases c46 : a1_0 = 12
       ·rw [if_pos c46] at H
        have c46b0 : (a1_0 == 12) = true := beq_iff_eq.mpr c46
        have c46b1 : (a1_0 != 12) = false := bne_eq_false_iff_eq.mpr c46
        clear c46
        obtain rfl := Option.some.inj H
        have hnb47 := NB174_173.out
        have hnc47 := NB173_174.out
        obtain ⟨hcz48_0, hcz48_1, hcz48_2, hcz48_3, hfz48_0, hfz48_1, hfz48_2, hfz48_3⟩ := cf4 BK174.out
        go_wp2
        go_ret
        exact ⟨rr, bb HB⟩
       rw [if_neg c46] at H
       have c46b0 : (a1_0 == 12) = false := beq_eq_false_iff_ne.mpr c46
       have c46b1 : (a1_0 != 12) = true := bne_iff_ne.mpr c46
       by_cases c49 : a1_0 = 15
       rotate_left
       ·rw [if_neg c49] at H
        have c49b0 : (a1_0 == 15) = false := beq_eq_false_iff_ne.mpr c49
        have c49b1 : (a1_0 != 15) = true := bne_iff_ne.mpr c49
        obtain rfl := Option.some.inj H
        have hnb52 := NB174_173.out
        have hnc52 := NB173_174.out
        obtain ⟨hcz53_0, hcz53_1, hcz53_2, hcz53_3, hfz53_0, hfz53_1, hfz53_2, hfz53_3⟩ := cf4 BK174.out
        go_wp2
        go_ret
        exact ⟨rr, bb HB⟩
       rw [if_pos c49] at H
       have c49b0 : (a1_0 == 15) = true := beq_iff_eq.mpr c49
       have c49b1 : (a1_0 != 15) = false := bne_eq_false_iff_eq.mpr c49
       clear c49
       obtain rfl := Option.some.inj H
       have hnb50 := NB174_173.out
       have hnc50 := NB173_174.out
       obtain ⟨hcz51_0, hcz51_1, hcz51_2, hcz51_3, hfz51_0, hfz51_1, hfz51_2, hfz51_3⟩ := cf4 BK174.out
       go_wp2
       go_ret
       exact ⟨rr, bb HB⟩
def nodeOk (a0 a2 op n c : Int) : Bool :=
  if op = 0 then (if n < 0 then false else if wrap64 (2 ^ a0.toNat) ≤ n then false else if c = 0 then true else false)
  else if op = 1 then (if c < 0 then false else if a2 ≤ c then false else true) else (if n = 0 then (if c = 0 then true else false) else false)
theorem nodeOk_cases (a0 a2 op n c : Int) :
    (nodeOk a0 a2 op n c = false ∧ ((op = 0 ∧ decide (n < 0) = true) ∨ (op = 0 ∧ decide (n < 0) = false ∧ decide (wrap64 (2 ^ a0.toNat) ≤ n) = true) ∨ (op = 0 ∧ decide (n < 0) = false ∧ decide (wrap64 (2 ^ a0.toNat) ≤ n) = false ∧ (c != 0) = true) ∨
      (op = 1 ∧ decide (c < 0) = true) ∨ (op = 1 ∧ decide (c < 0) = false ∧ decide (a2 ≤ c) = true) ∨
      ((op == 0) = false ∧ (op == 1) = false ∧ (n != 0) = true) ∨ ((op == 0) = false ∧ (op == 1) = false ∧ (n != 0) = false ∧ (c != 0) = true))) ∨
    (nodeOk a0 a2 op n c = true ∧ ((op = 0 ∧ decide (n < 0) = false ∧ decide (wrap64 (2 ^ a0.toNat) ≤ n) = false ∧ (c != 0) = false) ∨ (op = 1 ∧ decide (c < 0) = false ∧ decide (a2 ≤ c) = false) ∨
      ((op == 0) = false ∧ (op == 1) = false ∧ (n != 0) = false ∧ (c != 0) = false))) := by
  unfold nodeOk
  by_cases o0 : op = 0
  · subst o0
    by_cases h1 : n < 0
    · simp [h1]
    · by_cases h2 : wrap64 (2 ^ a0.toNat) ≤ n
      · simp [h1, h2]
      · by_cases h3 : c = 0 <;> simp [h1, h2, h3]
  · by_cases o1 : op = 1
    · subst o1
      by_cases h1 : c < 0
      · simp [h1]
      · by_cases h2 : a2 ≤ c <;> simp [h1, h2]
    · by_cases h1 : n = 0
      · by_cases h2 : c = 0 <;> simp [o0, o1, h1, h2]
      · simp [o0, o1, h1]
mutual
def expr_head_fine.l0 : Nat → Int → List S42 → Int → List S52 → Int → Int → Int → Option (Bool × Int)
  | 0, _, _, _, _, _, _, _ => none
  | k + 1, a0, l1, a2, l3, deep, i, left => if i < (l3.length : Int) then (if 0 ≤ i then (expr_head_fine.f k a0 l1 a2 (rd_T52 l3 i).f0 (rd_T52 l3 i).f1 (rd_T52 l3 i).f2 (rd_T52 l3 i).f3 (wrap64 (deep + 1)) left).bind fun p => (if p.1 = true then expr_head_fine.l0 k a0 l1 a2 l3 deep (wrap64 (i + 1)) p.2 else some (false, p.2)) else none) else some (true, left)
def expr_head_fine.f : Nat → Int → List S42 → Int → Int → Int → Int → List S52 → Int → Int → Option (Bool × Int)
  | 0, _, _, _, _, _, _, _, _, _ => none
  | k + 1, a0, l1, a2, op, n, c, l3, deep, left => if wrap64 (left - 1) < 0 then some (false, wrap64 (left - 1)) else if 16 < deep then some (false, wrap64 (left - 1)) else
      (expr_head_arity.f k a0 l1 a2 op n c l3).bind fun ar => if ar = (l3.length : Int) then (if nodeOk a0 a2 op n c = true then expr_head_fine.l0 k a0 l1 a2 l3 deep 0 (wrap64 (left - 1)) else some (false, wrap64 (left - 1))) else some (false, wrap64 (left - 1))
end
theorem grown_blk {w w' : World} {G : Nat} {o : Obj} {g : Nat} (h : w.heap[g]? = some o) (hg : w.grownBy w' (some G)) (hne : g ≠ G) : w'.heap[g]? = some o :=
  blk_grown h hg (by intro e; injection e with e; exact hne e)
theorem gtrans {w a b : World} {G : Nat} (h : w.grownBy a (some G)) (k : a.grownBy b (some G)) : w.grownBy b (some G) :=
  ⟨k.os.trans h.os, k.tape.trans h.tape, k.output.trans h.output, Nat.le_trans h.size k.size, fun i hi hne => (k.block i (Nat.lt_of_lt_of_le hi h.size) hne).trans (h.block i hi hne)⟩
theorem below_gr {w0 w wl : World} {G : Nat} (HB : Below w0.heap.size w0 w) (g : w.grownBy wl (some G)) (HG0 : w0.heap.size ≤ G) : Below w0.heap.size w0 wl := pw_below_grown HB (some G) HB.size g (fun k e => by cases e; exact HG0)
theorem fine_end {w W1 w' : World} {G : Nat} {o : Obj} (GW : w.grownBy W1 (some G)) (BG : W1.heap[G]? = some o) (hb : Below W1.heap.size W1 w') : w'.heap[G]? = some o ∧ w.grownBy w' (some G) :=
  ⟨(hb.block G (blk_lt BG)).trans BG, ⟨hb.os.trans GW.os, hb.tape.trans GW.tape, hb.output.trans GW.output, Nat.le_trans GW.size hb.size, fun i hi hne => (hb.block i (Nat.lt_of_lt_of_le hi GW.size)).trans (GW.block i hi hne)⟩⟩
theorem expr_head_fine.calls (k : Nat) : ∀ (a0 : Int) (A1 : Option Addr) (c1 : Nat) (l1 : List S42) (a2 op n c : Int) (A3 : Option Addr) (c3 : Nat) (l3 : List S52) (deep left : Int) (G : Nat) (r : Bool) (left' : Int) (w0 w : World)
    (hr1 : Kd.C k42 w0 A1 l1.length l1) (hc1 : l1.length ≤ c1) (hr3 : Kd.C k52 w0 A3 l3.length l3) (hc3 : l3.length ≤ c3) (hB : Below w0.heap.size w0 w) (hG0 : w0.heap.size ≤ G) (hG : w.heap[G]? = some (.cells #[.int .i64 left] 3 (0, 0)))
    (hw1 : 1 ≤ a0) (hw8 : a0 ≤ 8) (h : expr_head_fine.f k a0 l1 a2 op n c l3 deep left = some (r, left')),
    Calls Try.prog 93 #[.agg #[.int .i64 a0, .slice A1 l1.length c1, .int .i64 a2], .agg #[.int .i64 op, .int .i64 n, .int .i64 c, .slice A3 l3.length c3], .int .i64 deep, .pointer (some ⟨G, 0, none⟩)] w fun e w' =>
      e = .returned (.bool r) ∧ w'.heap[G]? = some (.cells #[.int .i64 left'] 3 (0, 0)) ∧ w.grownBy w' (some G) := by
  induction k using Nat.strongRecOn with
  | _ k ih =>
  intro a0 A1 c1 l1 a2 op n c A3 c3 l3 deep left G r left' w0 w hr1 hc1 hr3 hc3 hB hG0 hG hw1 hw8 h
  cases k with
  | zero => exact absurd h (by simp [expr_head_fine.f])
  | succ k =>
  simp only [expr_head_fine.f] at h
  have huE := Try.underlying52
  have huH := Try.underlying138
  have HR1 := Aside0.mk hr1
  have HC1 := Aside0.mk hc1
  have HR3 := Aside0.mk hr3
  have HC3 := Aside0.mk hc3
  have HB := Aside0.mk hB
  have HG0 := Aside0.mk hG0
  have hGl := blk_lt hG
  have HG := Aside0.mk hG
  have H := Aside0.mk h
  have ih' := Aside0.mk ih
  have hgc := blk_cell hG 0
  have hgf := blk_frozen hG 0
  clear hr1 hc1 hr3 hc3 hB hG0 hG h ih
  simp only [List.getElem?_toArray, List.getElem?_cons_zero] at hgc
  go_enter Try.func93, Try.ntmps93
  go_wp2
  have h12 : w.heap.size + 1 < (((w.setCell ⟨G, 0, none⟩ (.int .i64 (wrap64 (left - 1)))).alloc (.cells #[.int .i64 a0, .slice A1 l1.length c1, .int .i64 a2] 138)).alloc (.cells #[.int .i64 op, .int .i64 n, .int .i64 c, .slice A3 l3.length c3] 52)).heap.size := by simp
  have bG : (((w.setCell ⟨G, 0, none⟩ (.int .i64 (wrap64 (left - 1)))).alloc (.cells #[.int .i64 a0, .slice A1 l1.length c1, .int .i64 a2] 138)).alloc (.cells #[.int .i64 op, .int .i64 n, .int .i64 c, .slice A3 l3.length c3] 52)).heap[G]? = some (.cells #[.int .i64 (wrap64 (left - 1))] 3 (0, 0)) := kal (kal (blk_set HG.out 0 _) _) _
  have bH : (((w.setCell ⟨G, 0, none⟩ (.int .i64 (wrap64 (left - 1)))).alloc (.cells #[.int .i64 a0, .slice A1 l1.length c1, .int .i64 a2] 138)).alloc (.cells #[.int .i64 op, .int .i64 n, .int .i64 c, .slice A3 l3.length c3] 52)).heap[w.heap.size]? = some (.cells #[.int .i64 a0, .slice A1 l1.length c1, .int .i64 a2] 138 (0, 0)) := kal (by have := heap_alloc_new (w.setCell ⟨G, 0, none⟩ (.int .i64 (wrap64 (left - 1)))) (.cells #[.int .i64 a0, .slice A1 l1.length c1, .int .i64 a2] 138); simpa using this) _
  have bE : (((w.setCell ⟨G, 0, none⟩ (.int .i64 (wrap64 (left - 1)))).alloc (.cells #[.int .i64 a0, .slice A1 l1.length c1, .int .i64 a2] 138)).alloc (.cells #[.int .i64 op, .int .i64 n, .int .i64 c, .slice A3 l3.length c3] 52)).heap[w.heap.size + 1]? = some (.cells #[.int .i64 op, .int .i64 n, .int .i64 c, .slice A3 l3.length c3] 52 (0, 0)) := by have := heap_alloc_new ((w.setCell ⟨G, 0, none⟩ (.int .i64 (wrap64 (left - 1)))).alloc (.cells #[.int .i64 a0, .slice A1 l1.length c1, .int .i64 a2] 138)) (.cells #[.int .i64 op, .int .i64 n, .int .i64 c, .slice A3 l3.length c3] 52); simpa using this
  have gW : w.grownBy (((w.setCell ⟨G, 0, none⟩ (.int .i64 (wrap64 (left - 1)))).alloc (.cells #[.int .i64 a0, .slice A1 l1.length c1, .int .i64 a2] 138)).alloc (.cells #[.int .i64 op, .int .i64 n, .int .i64 c, .slice A3 l3.length c3] 52)) (some G) := ⟨rfl, rfl, rfl, by simp; omega, fun i hi hne => by
    have hne' : i ≠ G := fun e => hne (by rw [e])
    rw [Below.heap_alloc _ _ _ (by simp; omega), Below.heap_alloc _ _ _ (by simpa using hi), Below.heap_setCell _ _ _ _ hne']⟩
  generalize (((w.setCell ⟨G, 0, none⟩ (.int .i64 (wrap64 (left - 1)))).alloc (.cells #[.int .i64 a0, .slice A1 l1.length c1, .int .i64 a2] 138)).alloc (.cells #[.int .i64 op, .int .i64 n, .int .i64 c, .slice A3 l3.length c3] 52)) = W1 at h12 bG bH bE gW ⊢
  generalize wrap64 (left - 1) = lf at H bG ⊢
  have cG : W1.cell? ⟨G, 0, none⟩ = some (.int .i64 lf) := (blk_cell bG 0).trans rfl
  have cH0 : W1.cell? ⟨w.heap.size, 0, none⟩ = some (.int .i64 a0) := (blk_cell bH 0).trans rfl
  have cH1 : W1.cell? ⟨w.heap.size, 1, none⟩ = some (.slice A1 l1.length c1) := (blk_cell bH 1).trans rfl
  have cH2 : W1.cell? ⟨w.heap.size, 2, none⟩ = some (.int .i64 a2) := (blk_cell bH 2).trans rfl
  have cE0 : W1.cell? ⟨w.heap.size + 1, 0, none⟩ = some (.int .i64 op) := (blk_cell bE 0).trans rfl
  have cE1 : W1.cell? ⟨w.heap.size + 1, 1, none⟩ = some (.int .i64 n) := (blk_cell bE 1).trans rfl
  have cE2 : W1.cell? ⟨w.heap.size + 1, 2, none⟩ = some (.int .i64 c) := (blk_cell bE 2).trans rfl
  have cE3 : W1.cell? ⟨w.heap.size + 1, 3, none⟩ = some (.slice A3 l3.length c3) := (blk_cell bE 3).trans rfl
  have BW : Aside0 (Below w0.heap.size w0 W1) := ⟨HB.out.trans ⟨gW.os, gW.tape, gW.output, gW.size, fun i hi => gW.block i (by have := HB.out.size; omega) (by intro e; injection e with e; have := HG0.out; omega)⟩⟩
  have GW := Aside0.mk gW
  have BG := Aside0.mk bG
  have BH := Aside0.mk bH
  have BE := Aside0.mk bE
  clear gW bG bH bE hgc hgf HG
  have H1 := H.out
  clear H
  have H2 := ite_b H1
  clear H1
  rcases H2 with ⟨d1, H1⟩ | ⟨d1, H1⟩
  case inl =>
    injection (Option.some.inj H1) with e1 e2
    subst e1 e2
    go_quiet (fail)
    go_wp2
    go_ret
    exact ⟨rfl, BG.out, ⟨GW.out.os, GW.out.tape, GW.out.output, GW.out.size, GW.out.block⟩⟩
  have H2 := ite_b H1
  clear H1
  rcases H2 with ⟨d2, H1⟩ | ⟨d2, H1⟩
  case inl =>
    injection (Option.some.inj H1) with e1 e2
    subst e1 e2
    go_quiet (fail)
    go_wp2
    go_ret
    exact ⟨rfl, BG.out, ⟨GW.out.os, GW.out.tape, GW.out.output, GW.out.size, GW.out.block⟩⟩
  replace H1 := Option.bind_eq_some_iff.mp H1
  obtain ⟨ar, AR0, H1⟩ := H1
  have AR := Aside0.mk AR0
  clear AR0
  have H2 := ite_b H1
  clear H1
  rcases H2 with ⟨d3, H1⟩ | ⟨d3, H1⟩
  case inr =>
    injection (Option.some.inj H1) with e1 e2
    subst e1 e2
    have d3a : (ar == (l3.length : Int)) = false := beq_eq_false_iff_ne.mpr (of_decide_eq_false d3)
    have d3b : (ar != (l3.length : Int)) = true := bne_iff_ne.mpr (of_decide_eq_false d3)
    clear d3
    go_region_held3 (fun w' => Below W1.heap.size W1 w' ∧ w'.cell? ⟨G, 0, none⟩ = some (.int .i64 lf) ∧ w'.cell? ⟨w.heap.size, 0, none⟩ = some (.int .i64 a0) ∧ w'.cell? ⟨w.heap.size, 1, none⟩ = some (.slice A1 l1.length c1) ∧ w'.cell? ⟨w.heap.size, 2, none⟩ = some (.int .i64 a2) ∧
        w'.cell? ⟨w.heap.size + 1, 0, none⟩ = some (.int .i64 op) ∧ w'.cell? ⟨w.heap.size + 1, 1, none⟩ = some (.int .i64 n) ∧ w'.cell? ⟨w.heap.size + 1, 2, none⟩ = some (.int .i64 c) ∧ w'.cell? ⟨w.heap.size + 1, 3, none⟩ = some (.slice A3 l3.length c3))
      (first
        | exact ⟨below_drew (Below.refl _ _), cG, cH0, cH1, cH2, cE0, cE1, cE2, cE3⟩
        | (go_split_ands; exact ⟨below_then (by assumption) (Below.size (by assumption)) hb, pw_cell_below hb (by assumption), pw_cell_below hb (by assumption), pw_cell_below hb (by assumption), pw_cell_below hb (by assumption), pw_cell_below hb (by assumption), pw_cell_below hb (by assumption), pw_cell_below hb (by assumption), pw_cell_below hb (by assumption)⟩))
      (first | (go_at_call 94; (with_reducible refine (expr_head_arity.calls k a0 _ _ l1 a2 op n c _ _ l3 ar _ ?s1 HC1.out ?s2 HC3.out AR.out).mono ?_); (case s1 => exact Kd.C_below HR1.out (by repeat (first | exact BW.out | apply below_drew))); (case s2 => exact Kd.C_below HR3.out (by repeat (first | exact BW.out | apply below_drew))); rintro e w' ⟨rfl, hb⟩))
    obtain ⟨hBw, _⟩ := ‹Below W1.heap.size W1 _ ∧ _›
    go_wp2
    go_ret
    exact ⟨rfl, fine_end GW.out BG.out hBw⟩
  have d3a : (ar == (l3.length : Int)) = true := beq_iff_eq.mpr (of_decide_eq_true d3)
  have d3b : (ar != (l3.length : Int)) = false := bne_eq_false_iff_eq.mpr (of_decide_eq_true d3)
  clear d3
  go_region_held3 (fun w' => Below W1.heap.size W1 w' ∧ w'.cell? ⟨G, 0, none⟩ = some (.int .i64 lf) ∧ w'.cell? ⟨w.heap.size, 0, none⟩ = some (.int .i64 a0) ∧ w'.cell? ⟨w.heap.size, 1, none⟩ = some (.slice A1 l1.length c1) ∧ w'.cell? ⟨w.heap.size, 2, none⟩ = some (.int .i64 a2) ∧
      w'.cell? ⟨w.heap.size + 1, 0, none⟩ = some (.int .i64 op) ∧ w'.cell? ⟨w.heap.size + 1, 1, none⟩ = some (.int .i64 n) ∧ w'.cell? ⟨w.heap.size + 1, 2, none⟩ = some (.int .i64 c) ∧ w'.cell? ⟨w.heap.size + 1, 3, none⟩ = some (.slice A3 l3.length c3))
    (first
      | exact ⟨below_drew (Below.refl _ _), cG, cH0, cH1, cH2, cE0, cE1, cE2, cE3⟩
      | (go_split_ands; exact ⟨below_then (by assumption) (Below.size (by assumption)) hb, pw_cell_below hb (by assumption), pw_cell_below hb (by assumption), pw_cell_below hb (by assumption), pw_cell_below hb (by assumption), pw_cell_below hb (by assumption), pw_cell_below hb (by assumption), pw_cell_below hb (by assumption), pw_cell_below hb (by assumption)⟩))
    (first | (go_at_call 94; (with_reducible refine (expr_head_arity.calls k a0 _ _ l1 a2 op n c _ _ l3 ar _ ?s1 HC1.out ?s2 HC3.out AR.out).mono ?_); (case s1 => exact Kd.C_below HR1.out (by repeat (first | exact BW.out | apply below_drew))); (case s2 => exact Kd.C_below HR3.out (by repeat (first | exact BW.out | apply below_drew))); rintro e w' ⟨rfl, hb⟩))
  obtain ⟨hBw, hcG, hcH0, hcH1, hcH2, hcE0, hcE1, hcE2, hcE3⟩ := ‹Below W1.heap.size W1 _ ∧ _›
  have hBw' := Aside0.mk hBw
  clear hBw hb
  rcases nodeOk_cases a0 a2 op n c with ⟨hno, hcs⟩ | ⟨hno, hcs⟩
  · rw [hno] at H1
    injection (Option.some.inj (show some (false, lf) = some (r, left') from H1)) with e1 e2
    subst e1 e2
    clear H1 hno
    rcases hcs with ⟨rfl, g1⟩ | ⟨rfl, g1, g2⟩ | ⟨rfl, g1, g2, g3⟩ | ⟨rfl, g1⟩ | ⟨rfl, g1, g2⟩ | ⟨g1, g2, g3⟩ | ⟨g1, g2, g3, g4⟩
    all_goals go_wp2
    all_goals (go_ret; exact ⟨rfl, fine_end GW.out BG.out hBw'.out⟩)
  · rw [hno] at H1
    have HL := Aside0.mk (show expr_head_fine.l0 k a0 l1 a2 l3 deep 0 lf = some (r, left') from H1)
    clear H1 hno
    rcases hcs with ⟨rfl, g1, g2, g3⟩ | ⟨rfl, g1, g2⟩ | ⟨g1, g2, g3, g4⟩
    all_goals
      clear hcG hcH0 hcH1 hcH2 hcE0 hcE1 hcE2 hcE3 cG cH0 cH1 cH2 cE0 cE1 cE2 cE3
      go_wp2
      go_loopg [77] k (fun kq v77 wl => ∃ (i lf' : Int), v77 = .int .i64 i ∧ Aside0 (expr_head_fine.l0 kq a0 l1 a2 l3 deep i lf' = some (r, left')) ∧ Aside0 (kq ≤ k) ∧ Aside0 (wl.heap[G]? = some (.cells #[.int .i64 lf'] 3 (0, 0))) ∧
        Aside0 (wl.heap[w.heap.size]? = some (.cells #[.int .i64 a0, .slice A1 l1.length c1, .int .i64 a2] 138 (0, 0))) ∧ Aside0 (w.grownBy wl (some G)))
      case atStart => exact ⟨0, lf, rfl, HL, ⟨Nat.le_refl _⟩, ⟨(fine_end GW.out BG.out hBw'.out).1⟩, ⟨(hBw'.out.block _ (blk_lt BH.out)).trans BH.out⟩, ⟨(fine_end GW.out BG.out hBw'.out).2⟩⟩
      case round =>
        clear HL hBw' BE BH BG GW BW AR d1 d2 d3a d3b
        obtain ⟨i, lf', rfl, HA, HK, BG, BH, GW⟩ := hrel
        cases gk with
        | zero => exact absurd HA.out (by simp [expr_head_fine.l0])
        | succ k1 =>
          have H := HA.out
          clear HA
          simp only [expr_head_fine.l0] at H
          have H2 := ite_b H
          clear H
          rcases H2 with ⟨t1, H⟩ | ⟨t1, H⟩
          case inr =>
            injection (Option.some.inj H) with e1 e2
            subst e1 e2
            clear H
            go_wp2
            go_ret
            exact ⟨rfl, BG.out, GW.out⟩
          have H2 := ite_b H
          clear H
          rcases H2 with ⟨t2, H⟩ | ⟨t2, H⟩
          case inr => exact absurd H (by simp)
          have p0 : 0 ≤ i := of_decide_eq_true t2
          have p1 : i < (l3.length : Int) := of_decide_eq_true t1
          have B0 := Aside0.mk (below_gr HB.out GW.out HG0.out)
          obtain ⟨ad, A4, c4, e1, q0, q1, q2, q3, ql, qr⟩ := at_T52 HR3.out i p0 p1
          cases e1
          replace q0 := (B0.out.cell (World.block_lt_of_cell? w0 _ q0)).trans q0
          replace q1 := (B0.out.cell (World.block_lt_of_cell? w0 _ q1)).trans q1
          replace q2 := (B0.out.cell (World.block_lt_of_cell? w0 _ q2)).trans q2
          replace q3 := (B0.out.cell (World.block_lt_of_cell? w0 _ q3)).trans q3
          have QL := Aside0.mk ql
          have QR := Aside0.mk qr
          replace H := Option.bind_eq_some_iff.mp H
          obtain ⟨⟨r1, lf1⟩, A0, H⟩ := H
          have A := Aside0.mk A0
          have h0 : wr.cell? ⟨w.heap.size, 0, none⟩ = some (.int .i64 a0) := (blk_cell BH.out 0).trans rfl
          have h1 : wr.cell? ⟨w.heap.size, 1, none⟩ = some (.slice A1 l1.length c1) := (blk_cell BH.out 1).trans rfl
          have h2 : wr.cell? ⟨w.heap.size, 2, none⟩ = some (.int .i64 a2) := (blk_cell BH.out 2).trans rfl
          have hGlt := blk_lt BG.out
          have hHlt := blk_lt BH.out
          clear A0 ql qr
          have HK1 := HK.out
          have H2 := ite_t (t := r1) H
          clear H
          rcases H2 with ⟨rfl, H⟩ | ⟨rfl, H⟩
          · have H' := Aside0.mk H
            clear H
            go_wp2_with (first | (go_at_call 93; (with_reducible refine (ih'.out k1 (by omega) a0 _ _ l1 a2 _ _ _ _ _ _ (wrap64 (deep + 1)) lf' G true lf1 w0 _ HR1.out HC1.out QR.out QL.out (bal B0.out _) HG0.out (kal BG.out _) hw1 hw8 A.out).mono ?_); rintro e w2 ⟨rfl, hG2, hgr2⟩))
            go_roundg k1
            case measure => omega
            case rel => exact ⟨_, lf1, rfl, H', ⟨by omega⟩, ⟨hG2⟩, ⟨grown_blk (kal BH.out _) hgr2 (by omega)⟩, ⟨gtrans (gtrans GW.out (World.grownBy_alloc _ _ _)) hgr2⟩⟩
          · injection (Option.some.inj H) with e1 e2
            subst e1 e2
            clear H
            go_wp2_with (first | (go_at_call 93; (with_reducible refine (ih'.out k1 (by omega) a0 _ _ l1 a2 _ _ _ _ _ _ (wrap64 (deep + 1)) lf' G false lf1 w0 _ HR1.out HC1.out QR.out QL.out (bal B0.out _) HG0.out (kal BG.out _) hw1 hw8 A.out).mono ?_); rintro e w2 ⟨rfl, hG2, hgr2⟩))
            go_ret
            exact ⟨rfl, hG2, gtrans (gtrans GW.out (World.grownBy_alloc _ _ _)) hgr2⟩
def expr_head_check.f (k : Nat) (a0 : Int) (l1 : List S42) (a2 op n c : Int) (l3 : List S52) : Option Int :=
  (expr_Heading.f k a0 l1).bind fun t => if t = 0 then (if a2 < 1 then some 1 else if 3 < a2 then some 1 else (expr_head_fine.f k a0 l1 a2 op n c l3 1 400).bind fun p => if p.1 = true then some 0 else some 20) else some 1
theorem heading_width {k : Nat} {a0 : Int} {l1 : List S42} (h : expr_Heading.f k a0 l1 = some 0) : 1 ≤ a0 ∧ a0 ≤ 8 := by
  unfold expr_Heading.f at h
  split at h
  · cases h
  · split at h
    · cases h
    · omega
theorem two_boxes {w w1 : World} {x0 x1 x2 y0 y1 y2 y3 : Value} {t1 t2 : TypeId} (hb : Below ((w.alloc (.cells #[x0, x1, x2] t1)).alloc (.cells #[y0, y1, y2, y3] t2)).heap.size ((w.alloc (.cells #[x0, x1, x2] t1)).alloc (.cells #[y0, y1, y2, y3] t2)) w1) :
    w.heap.size + 1 < w1.heap.size ∧ w1.cell? ⟨w.heap.size, 0, none⟩ = some x0 ∧ w1.cell? ⟨w.heap.size, 1, none⟩ = some x1 ∧ w1.cell? ⟨w.heap.size, 2, none⟩ = some x2 ∧ w1.cell? ⟨w.heap.size + 1, 0, none⟩ = some y0 ∧ w1.cell? ⟨w.heap.size + 1, 1, none⟩ = some y1 ∧
      w1.cell? ⟨w.heap.size + 1, 2, none⟩ = some y2 ∧ w1.cell? ⟨w.heap.size + 1, 3, none⟩ = some y3 ∧ Below w.heap.size w w1 := by
  have b1 : ((w.alloc (.cells #[x0, x1, x2] t1)).alloc (.cells #[y0, y1, y2, y3] t2)).heap[w.heap.size]? = some (.cells #[x0, x1, x2] t1 (0, 0)) := kal (heap_alloc_new w _) _
  have b2 : ((w.alloc (.cells #[x0, x1, x2] t1)).alloc (.cells #[y0, y1, y2, y3] t2)).heap[w.heap.size + 1]? = some (.cells #[y0, y1, y2, y3] t2 (0, 0)) := by have := heap_alloc_new (w.alloc (.cells #[x0, x1, x2] t1)) (.cells #[y0, y1, y2, y3] t2); simpa using this
  exact ⟨by have := hb.size; simp at this; omega, pw_cell_below hb ((blk_cell b1 0).trans rfl), pw_cell_below hb ((blk_cell b1 1).trans rfl), pw_cell_below hb ((blk_cell b1 2).trans rfl), pw_cell_below hb ((blk_cell b2 0).trans rfl), pw_cell_below hb ((blk_cell b2 1).trans rfl), pw_cell_below hb ((blk_cell b2 2).trans rfl), pw_cell_below hb ((blk_cell b2 3).trans rfl),
    below_then (bal (bal (Below.refl _ _) _) _) (by simp; omega) hb⟩
theorem expr_head_check.calls (k : Nat) (a0 : Int) (A1 : Option Addr) (c1 : Nat) (l1 : List S42) (a2 op n c : Int) (A3 : Option Addr) (c3 : Nat) (l3 : List S52) (r : Int) (w : World)
    (hr1 : Kd.C k42 w A1 l1.length l1) (hc1 : l1.length ≤ c1) (hr3 : Kd.C k52 w A3 l3.length l3) (hc3 : l3.length ≤ c3) (h : expr_head_check.f k a0 l1 a2 op n c l3 = some r) :
    Calls Try.prog 91 #[.agg #[.int .i64 a0, .slice A1 l1.length c1, .int .i64 a2], .agg #[.int .i64 op, .int .i64 n, .int .i64 c, .slice A3 l3.length c3]] w fun e w' =>
      e = .returned (.int .i64 r) ∧ Below w.heap.size w w' := by
  have huE := Try.underlying52
  have huH := Try.underlying138
  have HR1 := Aside0.mk hr1
  have HC1 := Aside0.mk hc1
  have HR3 := Aside0.mk hr3
  have HC3 := Aside0.mk hc3
  clear hr1 hc1 hr3 hc3
  unfold expr_head_check.f at h
  obtain ⟨t, T0, H⟩ := Option.bind_eq_some_iff.mp h
  have T := Aside0.mk T0
  clear T0 h
  have HH : ((t == 0) = false ∧ (t != 0) = true ∧ r = 1) ∨ (t = 0 ∧ decide (a2 < 1) = true ∧ r = 1) ∨ (t = 0 ∧ decide (a2 < 1) = false ∧ decide (3 < a2) = true ∧ r = 1) ∨
      (t = 0 ∧ decide (a2 < 1) = false ∧ decide (3 < a2) = false ∧ ∃ q lf, Aside0 (expr_head_fine.f k a0 l1 a2 op n c l3 1 400 = some (q, lf)) ∧ ((q = true ∧ r = 0) ∨ (q = false ∧ r = 20))) := by
    by_cases ht : t = 0
    · rw [if_pos ht] at H
      rcases ite_b H with ⟨d1, H⟩ | ⟨d1, H⟩
      · exact .inr (.inl ⟨ht, d1, (Option.some.inj H).symm⟩)
      · rcases ite_b H with ⟨d2, H⟩ | ⟨d2, H⟩
        · exact .inr (.inr (.inl ⟨ht, d1, d2, (Option.some.inj H).symm⟩))
        · obtain ⟨⟨q, lf⟩, F, H⟩ := Option.bind_eq_some_iff.mp H
          refine .inr (.inr (.inr ⟨ht, d1, d2, q, lf, ⟨F⟩, ?_⟩))
          rcases ite_t (t := q) H with ⟨e, H⟩ | ⟨e, H⟩
          · exact .inl ⟨e, (Option.some.inj H).symm⟩
          · exact .inr ⟨e, (Option.some.inj H).symm⟩
    · rw [if_neg ht] at H
      exact .inl ⟨beq_eq_false_iff_ne.mpr ht, bne_iff_ne.mpr ht, (Option.some.inj H).symm⟩
  clear H
  have HB := Aside0.mk (Below.refl w.heap.size w)
  rcases HH with ⟨d0, d1, rfl⟩ | ⟨rfl, d1, rfl⟩ | ⟨rfl, d1, d2, rfl⟩ | ⟨rfl, d1, d2, q, lf, F, hq⟩
  case inr.inr.inr =>
    have hw := heading_width T.out
    have hw1 := hw.1
    have hw8 := hw.2
    clear hw
    rcases hq with ⟨rfl, rfl⟩ | ⟨rfl, rfl⟩
    all_goals
      go_enter Try.func91, Try.ntmps91
      go_wp2_with (first
        | (go_at_call 71; (with_reducible refine (expr_Heading.calls k a0 _ _ l1 _ _ ?side1 HC1.out T.out).mono ?_); (case side1 => exact Kd.C_below HR1.out (by repeat (first | exact HB.out | apply bal | apply bd1))); rintro e w1 ⟨rfl, hb⟩; obtain ⟨z0, h0, h1, h2, e0, e1, e2, e3, hb1⟩ := two_boxes hb; have z1 : w.heap.size < w1.heap.size := Nat.lt_of_succ_lt z0; have B1 := Aside0.mk hb1; clear hb hb1)
        | (go_at_call 93; (with_reducible refine (expr_head_fine.calls k a0 _ _ l1 a2 _ _ _ _ _ l3 1 400 w1.heap.size _ lf w _ HR1.out HC1.out HR3.out HC3.out (bal B1.out _) B1.out.size (heap_alloc_new _ _) hw1 hw8 F.out).mono ?_); rintro e w2 ⟨rfl, hG2, hgr2⟩; have hb2 := Aside0.mk (below_gr (bal B1.out _) hgr2 B1.out.size); clear hG2 hgr2))
      go_ret
      exact ⟨rfl, hb2.out⟩
  all_goals
    go_enter Try.func91, Try.ntmps91
    go_wp2_with (first
      | (go_at_call 71; (with_reducible refine (expr_Heading.calls k a0 _ _ l1 _ _ ?side1 HC1.out T.out).mono ?_); (case side1 => exact Kd.C_below HR1.out (by repeat (first | exact HB.out | apply bal | apply bd1))); rintro e w1 ⟨rfl, hb⟩; obtain ⟨z0, h0, h1, h2, e0, e1, e2, e3, hb1⟩ := two_boxes hb; have z1 : w.heap.size < w1.heap.size := Nat.lt_of_succ_lt z0; have B1 := Aside0.mk hb1; clear hb hb1))
    go_ret
    exact ⟨rfl, B1.out⟩
def expr_Check.f (k : Nat) (a0 : Int) (l1 : List (S42)) (a2 : Int) (a3_0 : Int) (a3_1 : Int) (a3_2 : Int) (l3_3 : List (S52)) : Option (Int) := (expr_head_check.f k a0 l1 a2 a3_0 a3_1 a3_2 l3_3).bind fun t184 => (some t184)
theorem expr_Check.calls (k : Nat) (a0 : Int) (A1 : Option Addr) (c1 : Nat) (l1 : List (S42)) (a2 : Int) (a3_0 : Int) (a3_1 : Int) (a3_2 : Int) (A3_3 : Option Addr) (c3_3 : Nat) (l3_3 : List (S52)) (r : Int) (w : World) (hr1 : Kd.C k42 w A1 l1.length l1) (hc1 : l1.length ≤ c1) (hr3_3 : Kd.C k52 w A3_3 l3_3.length l3_3) (hc3_3 : l3_3.length ≤ c3_3) (h : expr_Check.f k a0 l1 a2 a3_0 a3_1 a3_2 l3_3 = some r) :
  Calls Try.prog 84 #[.int .i64 a0, .slice A1 l1.length c1, .int .i64 a2, .agg #[.int .i64 a3_0, .int .i64 a3_1, .int .i64 a3_2, .slice A3_3 l3_3.length c3_3]] w fun e w' => e = .returned (.int .i64 r) ∧ Below w.heap.size w w' := by
 have hu52 := Try.underlying52
 have hu138 := Try.underlying138
 have HR1 := Aside0.mk hr1
 have HC1 := Aside0.mk hc1
 clear hr1 hc1
 have HR3_3 := Aside0.mk hr3_3
 have HC3_3 := Aside0.mk hc3_3
 clear hr3_3 hc3_3
 have HB := Aside0.mk (Below.refl w.heap.size w)
 have H : ((expr_head_check.f k a0 l1 a2 a3_0 a3_1 a3_2 l3_3).bind fun t184 => (some t184)) = some r := h
 clear h
 obtain ⟨t184, A5, H⟩ := be H
 obtain rfl := Option.some.inj H
 go_enter Try.func84, Try.ntmps84
 go_wp2_with (first | ((with_reducible refine gate_dst (N := 7) rfl ?_); refine bx 7 rfl rfl #[.int .i64 a3_0, .int .i64 a3_1, .int .i64 a3_2, .slice A3_3 l3_3.length c3_3] 52 ?_; intro gb183 hg w6 hbox hb; have BK183 := Aside0.mk (hbox); have GE183 := ge HB hg; replace HB := sb HB hb; clear hb hbox hg; obtain ⟨hcz7_0, hcz7_1, hcz7_2, hcz7_3, hfz7_0, hfz7_1, hfz7_2, hfz7_3⟩ := cf4 BK183.out) | ((with_reducible refine gate_callee (f := 91) rfl ?_); refine gL (some 14) rfl rfl Try.func91 #[.agg #[.int .i64 a0, .slice A1 l1.length c1, .int .i64 a2], .agg #[.int .i64 a3_0, .int .i64 a3_1, .int .i64 a3_2, .slice A3_3 l3_3.length c3_3]] rfl ?_; (with_reducible refine (expr_head_check.calls k a0 _ _ l1 a2 a3_0 a3_1 a3_2 _ _ l3_3 t184 _ ?side1 ?side2 ?side3 ?side4 A5.out).mono ?_); (case side1 => exact cb HR1 HB); (case side2 => exact HC1.out); (case side3 => exact cb HR3_3 HB); (case side4 => exact HC3_3.out); rintro e w8 ⟨rfl, hb⟩; refine ⟨_, rfl, ?_⟩; replace BK183 := kb BK183 hb; replace HB := sb HB hb; (try clear hb)))
 go_ret
 exact ⟨rr, bb HB⟩
mutual
def expr_Nodes.l0 : Nat → Int → List (S52) → Int → Int → Option (Int)
 | 0, _, _, _, _ => none
 | k + 1, x3, x7, x8, x9 => if x9 < x8 then (if 0 ≤ x9 then (if x9 < (x7.length : Int) then ((expr_Nodes.f k ((rd_T52 x7 x9).f0) ((rd_T52 x7 x9).f1) ((rd_T52 x7 x9).f2) ((rd_T52 x7 x9).f3)).bind fun t188 => (expr_Nodes.l0 k (wrap64 (x3 + t188)) x7 x8 (wrap64 (x9 + 1)))) else (none)) else (none)) else (some x3)
def expr_Nodes.f : Nat → Int → Int → Int → List (S52) → Option (Int)
 | 0, _, _, _, _ => none
 | k + 1, a0_0, a0_1, a0_2, l0_3 => expr_Nodes.l0 k 1 l0_3 (l0_3.length : Int) 0
end
theorem expr_Nodes.calls (k : Nat) : ∀ (a0_0 : Int) (a0_1 : Int) (a0_2 : Int) (A0_3 : Option Addr) (c0_3 : Nat) (l0_3 : List (S52)) (r : Int) (w : World) (hr0_3 : Kd.C k52 w A0_3 l0_3.length l0_3) (hc0_3 : l0_3.length ≤ c0_3) (h : expr_Nodes.f k a0_0 a0_1 a0_2 l0_3 = some r),
  Calls Try.prog 85 #[.agg #[.int .i64 a0_0, .int .i64 a0_1, .int .i64 a0_2, .slice A0_3 l0_3.length c0_3]] w fun e w' => e = .returned (.int .i64 r) ∧ Below w.heap.size w w' := by
 induction k using Nat.strongRecOn with
 | _ k ih =>
 intro a0_0 a0_1 a0_2 A0_3 c0_3 l0_3 r w hr0_3 hc0_3 h
 cases k with
 | zero => exact absurd h (by simp [expr_Nodes.f])
 | succ k =>
 simp only [expr_Nodes.f] at h
 have hu52 := Try.underlying52
 have HR0_3 := Aside0.mk hr0_3
 have HC0_3 := Aside0.mk hc0_3
 clear hr0_3 hc0_3
 have HB := Aside0.mk (Below.refl w.heap.size w)
 have H : (expr_Nodes.l0 k 1 l0_3 (l0_3.length : Int) 0) = some r := h
 clear h
 have H' := Aside0.mk H
 clear H
 go_enter Try.func85, Try.ntmps85
 go_wp2_with (first | ((with_reducible refine gate_dst (N := 1) rfl ?_); refine bx 1 rfl rfl #[.int .i64 a0_0, .int .i64 a0_1, .int .i64 a0_2, .slice A0_3 l0_3.length c0_3] 52 ?_; intro gb185 hg w2 hbox hb; have BK185 := Aside0.mk (hbox); have GE185 := ge HB hg; replace HB := sb HB hb; clear hb hbox hg; obtain ⟨hcz3_0, hcz3_1, hcz3_2, hcz3_3, hfz3_0, hfz3_1, hfz3_2, hfz3_3⟩ := cf4 BK185.out))
 go_loopg [3, 9] k (fun kq v3 v9 w' => ∃ (x3_1 : Int) (x9_1 : Int), v3 = .int .i64 x3_1 ∧ v9 = .int .i64 x9_1 ∧ Aside0 (expr_Nodes.l0 kq x3_1 l0_3 (l0_3.length : Int) x9_1 = some r) ∧ Aside0 (kq ≤ k) ∧ Aside0 (w'.heap[gb185]? = some (.cells #[.int .i64 a0_0, .int .i64 a0_1, .int .i64 a0_2, (.slice A0_3 l0_3.length c0_3)] 52 (0, 0))) ∧ Aside0 (Below w.heap.size w w'))
 case atStart => exact ⟨(1), (0), rs, rs, H', ⟨Nat.le_refl _⟩, ⟨kk BK185⟩, ⟨bb HB⟩⟩
 case round =>
  clear H'
  try clear p2
  try clear hcz3_0 hcz3_1 hcz3_2 hcz3_3 hfz3_0 hfz3_1 hfz3_2 hfz3_3
  obtain ⟨x3_1, x9_1, rfl, rfl, HA, HK1, BK185, HB⟩ := hrel
  cases gk with
  | zero => exact absurd HA.out (by simp [expr_Nodes.l0])
  | succ k1 =>
   have H := HA.out
   clear HA
   simp only [expr_Nodes.l0] at H
   by_cases c4 : x9_1 < (l0_3.length : Int)
   rotate_left
   ·rw [if_neg c4] at H
    have c4b0 : decide (x9_1 < (l0_3.length : Int)) = false := decide_eq_false c4
    clear c4
    obtain rfl := Option.some.inj H
    go_wp2
    go_ret
    exact ⟨rr, bb HB⟩
   rw [if_pos c4] at H
   have c4b0 : decide (x9_1 < (l0_3.length : Int)) = true := decide_eq_true c4
   clear c4
   by_cases c5 : 0 ≤ x9_1
   rotate_left
   ·rw [if_neg c5] at H
    exact absurd H (by simp)
   rw [if_pos c5] at H
   have c5b0 : decide (0 ≤ x9_1) = true := decide_eq_true c5
   clear c5
   by_cases c6 : x9_1 < (l0_3.length : Int)
   rotate_left
   ·rw [if_neg c6] at H
    exact absurd H (by simp)
   rw [if_pos c6] at H
   have c6b0 : decide (x9_1 < (l0_3.length : Int)) = true := decide_eq_true c6
   clear c6
   obtain ⟨t188, A7, H⟩ := be H
   have H' := Aside0.mk H
   clear H
   have p186 : 0 ≤ (x9_1 : Int) := od
   have q186 : x9_1 < (l0_3.length : Int) := od
   obtain ⟨ad186, A186_3, c186_3, e186, hx186_0, hx186_1, hx186_2, hx186_3, hl186_3, hi186_3⟩ := at_T52 HR0_3.out x9_1 p186 q186
   cases e186
   replace hx186_0 := bcell HB.out hx186_0
   replace hx186_1 := bcell HB.out hx186_1
   replace hx186_2 := bcell HB.out hx186_2
   replace hx186_3 := bcell HB.out hx186_3
   have HR186_3 := Aside0.mk hi186_3
   have HC186_3 := Aside0.mk hl186_3
   clear hi186_3 hl186_3
   replace p186 := eq_true p186
   replace q186 := eq_true q186
   go_wp2_with (first | ((with_reducible refine gate_dst (N := 5) rfl ?_); refine bx 5 rfl rfl #[.int .i64 0, .int .i64 0, .int .i64 0, .slice none 0 0] 52 ?_; intro gb187 hg w8 hbox hb; have BK187 := Aside0.mk (hbox); have GE187 := ge HB hg; have NB185_187 := Aside0.mk ((by rw [hg]; exact Nat.ne_of_lt (blk_lt (kk BK185)) : gb185 ≠ gb187)); have NB187_185 := Aside0.mk ((by rw [hg]; exact Nat.ne_of_gt (blk_lt (kk BK185)) : gb187 ≠ gb185)); replace BK185 := kb BK185 hb; replace HB := sb HB hb; clear hb hbox hg; have hnb9 := NB187_185.out; have hnc9 := NB185_187.out; obtain ⟨hcz10_0, hcz10_1, hcz10_2, hcz10_3, hfz10_0, hfz10_1, hfz10_2, hfz10_3⟩ := cf4 BK187.out) | ((with_reducible refine gate_callee (f := 85) rfl ?_); refine gL (some 15) rfl rfl Try.func85 #[.agg #[.int .i64 ((rd_T52 l0_3 x9_1).f0), .int .i64 ((rd_T52 l0_3 x9_1).f1), .int .i64 ((rd_T52 l0_3 x9_1).f2), .slice A186_3 ((rd_T52 l0_3 x9_1).f3).length c186_3]] rfl ?_; (with_reducible refine (ih k1 (by have := HK1.out; omega) ((rd_T52 l0_3 x9_1).f0) ((rd_T52 l0_3 x9_1).f1) ((rd_T52 l0_3 x9_1).f2) _ _ ((rd_T52 l0_3 x9_1).f3) t188 _ ?side1 ?side2 A7.out).mono ?_); (case side1 => exact Kd.C_below HR186_3.out (bb HB)); (case side2 => exact HC186_3.out); rintro e w11 ⟨rfl, hb⟩; refine ⟨_, rfl, ?_⟩; replace BK185 := kb BK185 hb; replace BK187 := Aside0.mk (blk_below (g := gb187) (o := .cells #[.int .i64 ((rd_T52 l0_3 x9_1).f0), .int .i64 ((rd_T52 l0_3 x9_1).f1), .int .i64 ((rd_T52 l0_3 x9_1).f2), .slice A186_3 ((rd_T52 l0_3 x9_1).f3).length c186_3] 52 (0, 0)) (by (with_reducible repeat (first | refine kdN ?_ _ | refine kdr ?_ | refine kal ?_ _)); refine blk_put (cs := #[.int .i64 ((rd_T52 l0_3 x9_1).f0), .int .i64 ((rd_T52 l0_3 x9_1).f1), .int .i64 ((rd_T52 l0_3 x9_1).f2), .slice none 0 0]) ?_ 3 _ rfl; (with_reducible repeat (first | refine kdN ?_ _ | refine kdr ?_ | refine kal ?_ _)); refine blk_put (cs := #[.int .i64 ((rd_T52 l0_3 x9_1).f0), .int .i64 ((rd_T52 l0_3 x9_1).f1), .int .i64 0, .slice none 0 0]) ?_ 2 _ rfl; (with_reducible repeat (first | refine kdN ?_ _ | refine kdr ?_ | refine kal ?_ _)); refine blk_put (cs := #[.int .i64 ((rd_T52 l0_3 x9_1).f0), .int .i64 0, .int .i64 0, .slice none 0 0]) ?_ 1 _ rfl; (with_reducible repeat (first | refine kdN ?_ _ | refine kdr ?_ | refine kal ?_ _)); refine blk_put (cs := #[.int .i64 0, .int .i64 0, .int .i64 0, .slice none 0 0]) ?_ 0 _ rfl; (with_reducible repeat (first | refine kdN ?_ _ | refine kdr ?_ | refine kal ?_ _)); exact BK187.out) hb); replace HB := sb HB hb; (try clear hb)))
   go_roundg k1
   case measure => have := HK1.out; omega
   case rel => exact ⟨(wrap64 (x3_1 + t188)), (wrap64 (x9_1 + 1)), rs, rs, H', ⟨by have := HK1.out; omega⟩, ⟨kk BK185⟩, ⟨bb HB⟩⟩
mutual
def r2_Depth.l0 : Nat → Int → Int → Int → Int → Int → List (S52) → Option (Int)
 | 0, _, _, _, _, _, _ => none
 | k + 1, x3, x4, x136000, x136001, x136002, x136003 => if x4 < (x136003.length : Int) then (if 0 ≤ x4 then ((r2_Depth.f k ((rd_T52 x136003 x4).f0) ((rd_T52 x136003 x4).f1) ((rd_T52 x136003 x4).f2) ((rd_T52 x136003 x4).f3)).bind fun t137 => (r2_Depth.l0 k (mx x3 t137) (wrap64 (x4 + 1)) x136000 x136001 x136002 x136003)) else (none)) else (some (wrap64 (x3 + 1)))
def r2_Depth.f : Nat → Int → Int → Int → List (S52) → Option (Int)
 | 0, _, _, _, _ => none
 | k + 1, a0_0, a0_1, a0_2, l0_3 => r2_Depth.l0 k 0 0 a0_0 a0_1 a0_2 l0_3
end
theorem r2_Depth.calls (k : Nat) : ∀ (a0_0 : Int) (a0_1 : Int) (a0_2 : Int) (A0_3 : Option Addr) (c0_3 : Nat) (l0_3 : List (S52)) (r : Int) (w : World) (hr0_3 : Kd.C k52 w A0_3 l0_3.length l0_3) (hc0_3 : l0_3.length ≤ c0_3) (h : r2_Depth.f k a0_0 a0_1 a0_2 l0_3 = some r),
  Calls Try.prog 47 #[.agg #[.int .i64 a0_0, .int .i64 a0_1, .int .i64 a0_2, .slice A0_3 l0_3.length c0_3]] w fun e w' => e = .returned (.int .i64 r) ∧ Below w.heap.size w w' := by
 induction k using Nat.strongRecOn with
 | _ k ih =>
 intro a0_0 a0_1 a0_2 A0_3 c0_3 l0_3 r w hr0_3 hc0_3 h
 cases k with
 | zero => exact absurd h (by simp [r2_Depth.f])
 | succ k =>
 simp only [r2_Depth.f] at h
 have hu52 := Try.underlying52
 have HR0_3 := Aside0.mk hr0_3
 have HC0_3 := Aside0.mk hc0_3
 clear hr0_3 hc0_3
 have HB := Aside0.mk (Below.refl w.heap.size w)
 have H : (r2_Depth.l0 k 0 0 a0_0 a0_1 a0_2 l0_3) = some r := h
 clear h
 have H' := Aside0.mk H
 clear H
 go_enter Try.func47, Try.ntmps47
 go_wp2_with (first | ((with_reducible refine gate_dst (N := 1) rfl ?_); refine bx 1 rfl rfl #[.int .i64 a0_0, .int .i64 a0_1, .int .i64 a0_2, .slice A0_3 l0_3.length c0_3] 52 ?_; intro gb135 hg w2 hbox hb; have BK135 := Aside0.mk (hbox); have GE135 := ge HB hg; replace HB := sb HB hb; clear hb hbox hg))
 go_loopg [3, 4] k (fun kq v3 v4 w' => ∃ (x3_1 : Int) (x4_1 : Int), v3 = .int .i64 x3_1 ∧ v4 = .int .i64 x4_1 ∧ Aside0 (r2_Depth.l0 kq x3_1 x4_1 a0_0 a0_1 a0_2 l0_3 = some r) ∧ Aside0 (kq ≤ k) ∧ Aside0 (w'.heap[gb135]? = some (.cells #[.int .i64 a0_0, .int .i64 a0_1, .int .i64 a0_2, (.slice A0_3 l0_3.length c0_3)] 52 (0, 0))) ∧ Aside0 (Below w.heap.size w w'))
 case atStart => exact ⟨(0), (0), rs, rs, H', ⟨Nat.le_refl _⟩, ⟨kk BK135⟩, ⟨bb HB⟩⟩
 case round =>
  clear H'
  try clear p2
  obtain ⟨x3_1, x4_1, rfl, rfl, HA, HK1, BK135, HB⟩ := hrel
  cases gk with
  | zero => exact absurd HA.out (by simp [r2_Depth.l0])
  | succ k1 =>
   have H := HA.out
   clear HA
   simp only [r2_Depth.l0] at H
   by_cases c3 : x4_1 < (l0_3.length : Int)
   rotate_left
   ·rw [if_neg c3] at H
    have c3b0 : decide (x4_1 < (l0_3.length : Int)) = false := decide_eq_false c3
    clear c3
    obtain rfl := Option.some.inj H
    obtain ⟨hcz9_0, hcz9_1, hcz9_2, hcz9_3, hfz9_0, hfz9_1, hfz9_2, hfz9_3⟩ := cf4 BK135.out
    go_wp2
    go_ret
    exact ⟨rr, bb HB⟩
   rw [if_pos c3] at H
   have c3b0 : decide (x4_1 < (l0_3.length : Int)) = true := decide_eq_true c3
   clear c3
   by_cases c4 : 0 ≤ x4_1
   rotate_left
   ·rw [if_neg c4] at H
    exact absurd H (by simp)
   rw [if_pos c4] at H
   have c4b0 : decide (0 ≤ x4_1) = true := decide_eq_true c4
   clear c4
   obtain ⟨t137, A5, H⟩ := be H
   obtain ⟨ji6, hji6⟩ : ∃ j_ : Int, (mx x3_1 t137) = j_ := ⟨_, rfl⟩
   replace H : (r2_Depth.l0 k1 ji6 (wrap64 (x4_1 + 1)) a0_0 a0_1 a0_2 l0_3) = some r := by first | (rw [hji6] at H; exact H) | (simp only [hji6] at H ⊢; exact H)
   (try rw [hji6] at A5)
   have hji6_ : (if x3_1 < t137 then t137 else x3_1) = ji6 := hji6
   have H' := Aside0.mk H
   clear H
   obtain ⟨hcz7_0, hcz7_1, hcz7_2, hcz7_3, hfz7_0, hfz7_1, hfz7_2, hfz7_3⟩ := cf4 BK135.out
   have p136 : 0 ≤ (x4_1 : Int) := od
   have q136 : x4_1 < (l0_3.length : Int) := od
   obtain ⟨ad136, A136_3, c136_3, e136, hx136_0, hx136_1, hx136_2, hx136_3, hl136_3, hi136_3⟩ := at_T52 HR0_3.out x4_1 p136 q136
   cases e136
   replace hx136_0 := bcell HB.out hx136_0
   replace hx136_1 := bcell HB.out hx136_1
   replace hx136_2 := bcell HB.out hx136_2
   replace hx136_3 := bcell HB.out hx136_3
   have HR136_3 := Aside0.mk hi136_3
   have HC136_3 := Aside0.mk hl136_3
   clear hi136_3 hl136_3
   replace p136 := eq_true p136
   replace q136 := eq_true q136
   go_wp2_with (first | ((with_reducible refine gate_callee (f := 47) rfl ?_); refine gL (some 18) rfl rfl Try.func47 #[.agg #[.int .i64 ((rd_T52 l0_3 x4_1).f0), .int .i64 ((rd_T52 l0_3 x4_1).f1), .int .i64 ((rd_T52 l0_3 x4_1).f2), .slice A136_3 ((rd_T52 l0_3 x4_1).f3).length c136_3]] rfl ?_; (with_reducible refine (ih k1 (by have := HK1.out; omega) ((rd_T52 l0_3 x4_1).f0) ((rd_T52 l0_3 x4_1).f1) ((rd_T52 l0_3 x4_1).f2) _ _ ((rd_T52 l0_3 x4_1).f3) t137 _ ?side1 ?side2 A5.out).mono ?_); (case side1 => exact cb HR136_3 HB); (case side2 => exact HC136_3.out); rintro e w8 ⟨rfl, hb⟩; refine ⟨_, rfl, ?_⟩; replace BK135 := kb BK135 hb; replace HB := sb HB hb; (try clear hb)))
   go_roundg k1
   case measure => have := HK1.out; omega
   case rel => exact ⟨(ji6), (wrap64 (x4_1 + 1)), (by first | rfl | (simp; done) | (simp only [← hji6] <;> (first | rfl | simp)) | (simp [*]; done)), rs, H', ⟨by have := HK1.out; omega⟩, ⟨kk BK135⟩, ⟨bb HB⟩⟩
mutual
def r2_Left.l0 : Nat → Int → Int → Int → Int → Int → List (S52) → Option (Int)
 | 0, _, _, _, _, _, _ => none
 | k + 1, x5, x6, x112000, x112001, x112002, x112003 => if x6 < (x112003.length : Int) then (if 0 ≤ x6 then ((r2_Left.f k ((rd_T52 x112003 x6).f0) ((rd_T52 x112003 x6).f1) ((rd_T52 x112003 x6).f2) ((rd_T52 x112003 x6).f3) x5).bind fun t113 => (r2_Left.l0 k t113 (wrap64 (x6 + 1)) x112000 x112001 x112002 x112003)) else (none)) else (some x5)
def r2_Left.f : Nat → Int → Int → Int → List (S52) → Int → Option (Int)
 | 0, _, _, _, _, _ => none
 | k + 1, a0_0, a0_1, a0_2, l0_3, a1 => if a1 < 1 then (some 0) else (r2_Left.l0 k (wrap64 (a1 - 1)) 0 a0_0 a0_1 a0_2 l0_3)
end
theorem r2_Left.calls (k : Nat) : ∀ (a0_0 : Int) (a0_1 : Int) (a0_2 : Int) (A0_3 : Option Addr) (c0_3 : Nat) (l0_3 : List (S52)) (a1 : Int) (r : Int) (w : World) (hr0_3 : Kd.C k52 w A0_3 l0_3.length l0_3) (hc0_3 : l0_3.length ≤ c0_3) (h : r2_Left.f k a0_0 a0_1 a0_2 l0_3 a1 = some r),
  Calls Try.prog 44 #[.agg #[.int .i64 a0_0, .int .i64 a0_1, .int .i64 a0_2, .slice A0_3 l0_3.length c0_3], .int .i64 a1] w fun e w' => e = .returned (.int .i64 r) ∧ Below w.heap.size w w' := by
 induction k using Nat.strongRecOn with
 | _ k ih =>
 intro a0_0 a0_1 a0_2 A0_3 c0_3 l0_3 a1 r w hr0_3 hc0_3 h
 cases k with
 | zero => exact absurd h (by simp [r2_Left.f])
 | succ k =>
 simp only [r2_Left.f] at h
 have hu52 := Try.underlying52
 have HR0_3 := Aside0.mk hr0_3
 have HC0_3 := Aside0.mk hc0_3
 clear hr0_3 hc0_3
 have HB := Aside0.mk (Below.refl w.heap.size w)
 have H : (if a1 < 1 then (some 0) else (r2_Left.l0 k (wrap64 (a1 - 1)) 0 a0_0 a0_1 a0_2 l0_3)) = some r := h
 clear h
 by_cases c3 : a1 < 1
 ·rw [if_pos c3] at H
  have c3b0 : decide (a1 < 1) = true := decide_eq_true c3
  clear c3
  obtain rfl := Option.some.inj H
  go_enter Try.func44, Try.ntmps44
  go_wp2_with (first | ((with_reducible refine gate_dst (N := 2) rfl ?_); refine bx 2 rfl rfl #[.int .i64 a0_0, .int .i64 a0_1, .int .i64 a0_2, .slice A0_3 l0_3.length c0_3] 52 ?_; intro gb111 hg w4 hbox hb; have BK111 := Aside0.mk (hbox); have GE111 := ge HB hg; replace HB := sb HB hb; clear hb hbox hg))
  go_ret
  exact ⟨rr, bb HB⟩
 rw [if_neg c3] at H
 have c3b0 : decide (a1 < 1) = false := decide_eq_false c3
 clear c3
 have H' := Aside0.mk H
 clear H
 go_enter Try.func44, Try.ntmps44
 go_wp2_with (first | ((with_reducible refine gate_dst (N := 2) rfl ?_); refine bx 2 rfl rfl #[.int .i64 a0_0, .int .i64 a0_1, .int .i64 a0_2, .slice A0_3 l0_3.length c0_3] 52 ?_; intro gb111 hg w5 hbox hb; have BK111 := Aside0.mk (hbox); have GE111 := ge HB hg; replace HB := sb HB hb; clear hb hbox hg))
 go_loopg [5, 6] k (fun kq v5 v6 w' => ∃ (x5_1 : Int) (x6_1 : Int), v5 = .int .i64 x5_1 ∧ v6 = .int .i64 x6_1 ∧ Aside0 (r2_Left.l0 kq x5_1 x6_1 a0_0 a0_1 a0_2 l0_3 = some r) ∧ Aside0 (kq ≤ k) ∧ Aside0 (w'.heap[gb111]? = some (.cells #[.int .i64 a0_0, .int .i64 a0_1, .int .i64 a0_2, (.slice A0_3 l0_3.length c0_3)] 52 (0, 0))) ∧ Aside0 (Below w.heap.size w w'))
 case atStart => exact ⟨(wrap64 (a1 - 1)), (0), rs, rs, H', ⟨Nat.le_refl _⟩, ⟨kk BK111⟩, ⟨bb HB⟩⟩
 case round =>
  clear H'
  try clear p2
  try clear c3
  try clear c3b0
  try clear c4
  obtain ⟨x5_1, x6_1, rfl, rfl, HA, HK1, BK111, HB⟩ := hrel
  cases gk with
  | zero => exact absurd HA.out (by simp [r2_Left.l0])
  | succ k1 =>
   have H := HA.out
   clear HA
   simp only [r2_Left.l0] at H
   by_cases c6 : x6_1 < (l0_3.length : Int)
   rotate_left
   ·rw [if_neg c6] at H
    have c6b0 : decide (x6_1 < (l0_3.length : Int)) = false := decide_eq_false c6
    clear c6
    obtain rfl := Option.some.inj H
    obtain ⟨hcz11_0, hcz11_1, hcz11_2, hcz11_3, hfz11_0, hfz11_1, hfz11_2, hfz11_3⟩ := cf4 BK111.out
    go_wp2
    go_ret
    exact ⟨rr, bb HB⟩
   rw [if_pos c6] at H
   have c6b0 : decide (x6_1 < (l0_3.length : Int)) = true := decide_eq_true c6
   clear c6
   by_cases c7 : 0 ≤ x6_1
   rotate_left
   ·rw [if_neg c7] at H
    exact absurd H (by simp)
   rw [if_pos c7] at H
   have c7b0 : decide (0 ≤ x6_1) = true := decide_eq_true c7
   clear c7
   obtain ⟨t113, A8, H⟩ := be H
   have H' := Aside0.mk H
   clear H
   obtain ⟨hcz9_0, hcz9_1, hcz9_2, hcz9_3, hfz9_0, hfz9_1, hfz9_2, hfz9_3⟩ := cf4 BK111.out
   have p112 : 0 ≤ (x6_1 : Int) := od
   have q112 : x6_1 < (l0_3.length : Int) := od
   obtain ⟨ad112, A112_3, c112_3, e112, hx112_0, hx112_1, hx112_2, hx112_3, hl112_3, hi112_3⟩ := at_T52 HR0_3.out x6_1 p112 q112
   cases e112
   replace hx112_0 := bcell HB.out hx112_0
   replace hx112_1 := bcell HB.out hx112_1
   replace hx112_2 := bcell HB.out hx112_2
   replace hx112_3 := bcell HB.out hx112_3
   have HR112_3 := Aside0.mk hi112_3
   have HC112_3 := Aside0.mk hl112_3
   clear hi112_3 hl112_3
   replace p112 := eq_true p112
   replace q112 := eq_true q112
   go_wp2_with (first | ((with_reducible refine gate_callee (f := 44) rfl ?_); refine gL (some 24) rfl rfl Try.func44 #[.agg #[.int .i64 ((rd_T52 l0_3 x6_1).f0), .int .i64 ((rd_T52 l0_3 x6_1).f1), .int .i64 ((rd_T52 l0_3 x6_1).f2), .slice A112_3 ((rd_T52 l0_3 x6_1).f3).length c112_3], .int .i64 x5_1] rfl ?_; (with_reducible refine (ih k1 (by have := HK1.out; omega) ((rd_T52 l0_3 x6_1).f0) ((rd_T52 l0_3 x6_1).f1) ((rd_T52 l0_3 x6_1).f2) _ _ ((rd_T52 l0_3 x6_1).f3) x5_1 t113 _ ?side1 ?side2 A8.out).mono ?_); (case side1 => exact cb HR112_3 HB); (case side2 => exact HC112_3.out); rintro e w10 ⟨rfl, hb⟩; refine ⟨_, rfl, ?_⟩; replace BK111 := kb BK111 hb; replace HB := sb HB hb; (try clear hb)))
   go_roundg k1
   case measure => have := HK1.out; omega
   case rel => exact ⟨(t113), (wrap64 (x6_1 + 1)), rs, rs, H', ⟨by have := HK1.out; omega⟩, ⟨kk BK111⟩, ⟨bb HB⟩⟩
def r2_Fits.f (k : Nat) (a0_0 : Int) (a0_1 : Int) (a0_2 : Int) (l0_3 : List (S52)) (a1 : Int) : Option (Bool) := (r2_Left.f k a0_0 a0_1 a0_2 l0_3 (wrap64 (a1 + 1))).bind fun t134 => (some (decide (t134 > 0)))
theorem r2_Fits.calls (k : Nat) (a0_0 : Int) (a0_1 : Int) (a0_2 : Int) (A0_3 : Option Addr) (c0_3 : Nat) (l0_3 : List (S52)) (a1 : Int) (r : Bool) (w : World) (hr0_3 : Kd.C k52 w A0_3 l0_3.length l0_3) (hc0_3 : l0_3.length ≤ c0_3) (h : r2_Fits.f k a0_0 a0_1 a0_2 l0_3 a1 = some r) :
  Calls Try.prog 46 #[.agg #[.int .i64 a0_0, .int .i64 a0_1, .int .i64 a0_2, .slice A0_3 l0_3.length c0_3], .int .i64 a1] w fun e w' => e = .returned (.bool r) ∧ Below w.heap.size w w' := by
 have hu52 := Try.underlying52
 have HR0_3 := Aside0.mk hr0_3
 have HC0_3 := Aside0.mk hc0_3
 clear hr0_3 hc0_3
 have HB := Aside0.mk (Below.refl w.heap.size w)
 have H : ((r2_Left.f k a0_0 a0_1 a0_2 l0_3 (wrap64 (a1 + 1))).bind fun t134 => (some (decide (t134 > 0)))) = some r := h
 clear h
 obtain ⟨t134, A3, H⟩ := be H
 obtain rfl := Option.some.inj H
 go_enter Try.func46, Try.ntmps46
 go_wp2_with (first | ((with_reducible refine gate_dst (N := 2) rfl ?_); refine bx 2 rfl rfl #[.int .i64 a0_0, .int .i64 a0_1, .int .i64 a0_2, .slice A0_3 l0_3.length c0_3] 52 ?_; intro gb133 hg w4 hbox hb; have BK133 := Aside0.mk (hbox); have GE133 := ge HB hg; replace HB := sb HB hb; clear hb hbox hg; obtain ⟨hcz5_0, hcz5_1, hcz5_2, hcz5_3, hfz5_0, hfz5_1, hfz5_2, hfz5_3⟩ := cf4 BK133.out) | ((with_reducible refine gate_callee (f := 44) rfl ?_); refine gL (some 8) rfl rfl Try.func44 #[.agg #[.int .i64 a0_0, .int .i64 a0_1, .int .i64 a0_2, .slice A0_3 l0_3.length c0_3], .int .i64 (wrap64 (a1 + 1))] rfl ?_; (with_reducible refine (r2_Left.calls k a0_0 a0_1 a0_2 _ _ l0_3 (wrap64 (a1 + 1)) t134 _ ?side1 ?side2 A3.out).mono ?_); (case side1 => exact cb HR0_3 HB); (case side2 => exact HC0_3.out); rintro e w6 ⟨rfl, hb⟩; refine ⟨_, rfl, ?_⟩; replace BK133 := kb BK133 hb; replace HB := sb HB hb; (try clear hb)))
 go_ret
 exact ⟨rr, bb HB⟩
def r1_One.f (a0 : Bool) : Option (Int) := if a0 = true then (some 1) else (some 0)
theorem r1_One.calls (a0 : Bool) (r : Int) (w : World) (h : r1_One.f a0 = some r) :
  Calls Try.prog 60 #[.bool a0] w fun e w' => e = .returned (.int .i64 r) ∧ Drawn0 w w' := by
 have H : (if a0 = true then (some 1) else (some 0)) = some r := h
 clear h
 by_cases c2 : a0 = true
 ·subst c2
  replace H := it H
  obtain rfl := Option.some.inj H
  go_enter Try.func60, Try.ntmps60
  go_wp2
  go_ret
  exact ⟨rs, dr⟩
 replace c2 := Bool.eq_false_iff.mpr c2
 subst c2
 replace H := fi H
 obtain rfl := Option.some.inj H
 go_enter Try.func60, Try.ntmps60
 go_wp2
 go_ret
 exact ⟨rs, dr⟩
def r1_Pow.l0 : Nat → Int → Int → Int → Option (Int)
 | 0, _, _, _ => none
 | k + 1, x0, x3, x4 => if x4 < x0 then (r1_Pow.l0 k x0 (wrap64 (2 * x3)) (wrap64 (x4 + 1))) else (some x3)
def r1_Pow.f (k : Nat) (a0 : Int) : Option (Int) := r1_Pow.l0 k a0 1 0
theorem r1_Pow.calls (k : Nat) (a0 : Int) (r : Int) (w : World) (h : r1_Pow.f k a0 = some r) :
  Calls Try.prog 66 #[.int .i64 a0] w fun e w' => e = .returned (.int .i64 r) ∧ Drawn0 w w' := by
 have H : (r1_Pow.l0 k a0 1 0) = some r := h
 clear h
 have H' := Aside0.mk H
 clear H
 go_enter Try.func66, Try.ntmps66
 go_wp2
 go_loopg [3, 4] k (fun kq v3 v4 w' => ∃ (x3_1 : Int) (x4_1 : Int), v3 = .int .i64 x3_1 ∧ v4 = .int .i64 x4_1 ∧ Aside0 (r1_Pow.l0 kq a0 x3_1 x4_1 = some r) ∧ Aside0 (kq ≤ k) ∧ Drawn0 w w')
 case atStart => exact ⟨(1), (0), rs, rs, H', ⟨Nat.le_refl _⟩, dr⟩
 case round =>
  clear H'
  obtain ⟨x3_1, x4_1, rfl, rfl, HA, HK1, ⟨m1, rfl⟩⟩ := hrel
  cases gk with
  | zero => exact absurd HA.out (by simp [r1_Pow.l0])
  | succ k1 =>
   have H := HA.out
   clear HA
   simp only [r1_Pow.l0] at H
   by_cases c2 : x4_1 < a0
   rotate_left
   ·rw [if_neg c2] at H
    have c2b0 : decide (x4_1 < a0) = false := decide_eq_false c2
    clear c2
    obtain rfl := Option.some.inj H
    go_wp2
    go_ret
    exact ⟨rs, dr⟩
   rw [if_pos c2] at H
   have c2b0 : decide (x4_1 < a0) = true := decide_eq_true c2
   clear c2
   have H' := Aside0.mk H
   clear H
   go_wp2
   go_roundg k1
   case measure => have := HK1.out; omega
   case rel => exact ⟨(wrap64 (2 * x3_1)), (wrap64 (x4_1 + 1)), rs, rs, H', ⟨by have := HK1.out; omega⟩, dr⟩
def r1_Width.f (a0 : Int) : Option (Bool) := if a0 ≥ 1 then (some (decide (a0 ≤ 8))) else (some false)
theorem r1_Width.calls (a0 : Int) (r : Bool) (w : World) (h : r1_Width.f a0 = some r) :
  Calls Try.prog 26 #[.int .i64 a0] w fun e w' => e = .returned (.bool r) ∧ Drawn0 w w' := by
 have H : (if a0 ≥ 1 then (some (decide (a0 ≤ 8))) else (some false)) = some r := h
 clear h
 by_cases c2 : a0 ≥ 1
 ·rw [if_pos c2] at H
  have c2b0 : decide (1 ≤ a0) = true := decide_eq_true c2
  clear c2
  obtain rfl := Option.some.inj H
  go_enter Try.func26, Try.ntmps26
  go_wp2
  go_ret
  exact ⟨rs, dr⟩
 rw [if_neg c2] at H
 have c2b0 : decide (1 ≤ a0) = false := decide_eq_false c2
 clear c2
 obtain rfl := Option.some.inj H
 go_enter Try.func26, Try.ntmps26
 go_wp2
 go_ret
 exact ⟨rs, dr⟩
def r1_Word.f (k : Nat) (a0 : Int) (a1 : Int) : Option (Bool) := (r1_Width.f a0).bind fun t138 => (if t138 = true then (if a1 ≥ 0 then ((r1_Pow.f k a0).bind fun t139 => (some (decide (a1 < t139)))) else (some false)) else (some false))
theorem r1_Word.calls (k : Nat) (a0 : Int) (a1 : Int) (r : Bool) (w : World) (h : r1_Word.f k a0 a1 = some r) :
  Calls Try.prog 50 #[.int .i64 a0, .int .i64 a1] w fun e w' => e = .returned (.bool r) ∧ Drawn0 w w' := by
 have H : ((r1_Width.f a0).bind fun t138 => (if t138 = true then (if a1 ≥ 0 then ((r1_Pow.f k a0).bind fun t139 => (some (decide (a1 < t139)))) else (some false)) else (some false))) = some r := h
 clear h
 obtain ⟨t138, A3, H⟩ := be H
 by_cases c4 : t138 = true
 rotate_left
 ·replace c4 := Bool.eq_false_iff.mpr c4
  subst c4
  replace H := fi H
  obtain rfl := Option.some.inj H
  go_enter Try.func50, Try.ntmps50
  go_wp2_with (first | ((with_reducible refine gate_callee (f := 26) rfl ?_); refine gL (some 6) rfl rfl Try.func26 #[.int .i64 a0] rfl ?_; (with_reducible refine (r1_Width.calls a0 false _ A3.out).mono ?_); rintro e w' ⟨rfl, ⟨nd, rfl⟩⟩; refine ⟨_, rfl, ?_⟩))
  go_ret
  exact ⟨rs, dr⟩
 subst c4
 replace H := it H
 by_cases c5 : a1 ≥ 0
 rotate_left
 ·rw [if_neg c5] at H
  have c5b0 : decide (0 ≤ a1) = false := decide_eq_false c5
  clear c5
  obtain rfl := Option.some.inj H
  go_enter Try.func50, Try.ntmps50
  go_wp2_with (first | ((with_reducible refine gate_callee (f := 26) rfl ?_); refine gL (some 6) rfl rfl Try.func26 #[.int .i64 a0] rfl ?_; (with_reducible refine (r1_Width.calls a0 true _ A3.out).mono ?_); rintro e w' ⟨rfl, ⟨nd, rfl⟩⟩; refine ⟨_, rfl, ?_⟩))
  go_ret
  exact ⟨rs, dr⟩
 rw [if_pos c5] at H
 have c5b0 : decide (0 ≤ a1) = true := decide_eq_true c5
 clear c5
 obtain ⟨t139, A6, H⟩ := be H
 obtain rfl := Option.some.inj H
 go_enter Try.func50, Try.ntmps50
 go_wp2_with (first | ((with_reducible refine gate_callee (f := 26) rfl ?_); refine gL (some 6) rfl rfl Try.func26 #[.int .i64 a0] rfl ?_; (with_reducible refine (r1_Width.calls a0 true _ A3.out).mono ?_); rintro e w' ⟨rfl, ⟨nd, rfl⟩⟩; refine ⟨_, rfl, ?_⟩) | (go_at_call 66; (with_reducible refine (r1_Pow.calls k a0 t139 _ A6.out).mono ?_); rintro e w' ⟨rfl, ⟨nd, rfl⟩⟩))
 go_ret
 exact ⟨rs, dr⟩
def r1_Two.f (a0 : Int) : Option (Bool) := if a0 ≥ 2 then (if a0 ≤ 11 then (some true) else (if a0 = 13 then (some true) else (some (a0 == 14)))) else (if a0 = 13 then (some true) else (some (a0 == 14)))
theorem r1_Two.calls (a0 : Int) (r : Bool) (w : World) (h : r1_Two.f a0 = some r) :
  Calls Try.prog 51 #[.int .i64 a0] w fun e w' => e = .returned (.bool r) ∧ Drawn0 w w' := by
 have H : (if a0 ≥ 2 then (if a0 ≤ 11 then (some true) else (if a0 = 13 then (some true) else (some (a0 == 14)))) else (if a0 = 13 then (some true) else (some (a0 == 14)))) = some r := h
 clear h
 by_cases c2 : a0 ≥ 2
 rotate_left
 ·rw [if_neg c2] at H
  have c2b0 : decide (2 ≤ a0) = false := decide_eq_false c2
  clear c2
  by_cases c5 : a0 = 13
  rotate_left
  ·rw [if_neg c5] at H
   have c5b0 : (a0 == 13) = false := beq_eq_false_iff_ne.mpr c5
   have c5b1 : (a0 != 13) = true := bne_iff_ne.mpr c5
   obtain rfl := Option.some.inj H
   go_enter Try.func51, Try.ntmps51
   go_wp2
   go_ret
   exact ⟨rs, dr⟩
  rw [if_pos c5] at H
  have c5b0 : (a0 == 13) = true := beq_iff_eq.mpr c5
  have c5b1 : (a0 != 13) = false := bne_eq_false_iff_eq.mpr c5
  clear c5
  obtain rfl := Option.some.inj H
  go_enter Try.func51, Try.ntmps51
  go_wp2
  go_ret
  exact ⟨rs, dr⟩
 rw [if_pos c2] at H
 have c2b0 : decide (2 ≤ a0) = true := decide_eq_true c2
 clear c2
 by_cases c3 : a0 ≤ 11
 ·rw [if_pos c3] at H
  have c3b0 : decide (a0 ≤ 11) = true := decide_eq_true c3
  clear c3
  obtain rfl := Option.some.inj H
  go_enter Try.func51, Try.ntmps51
  go_wp2
  go_ret
  exact ⟨rs, dr⟩
 rw [if_neg c3] at H
 have c3b0 : decide (a0 ≤ 11) = false := decide_eq_false c3
 clear c3
 by_cases c4 : a0 = 13
 rotate_left
 ·rw [if_neg c4] at H
  have c4b0 : (a0 == 13) = false := beq_eq_false_iff_ne.mpr c4
  have c4b1 : (a0 != 13) = true := bne_iff_ne.mpr c4
  obtain rfl := Option.some.inj H
  go_enter Try.func51, Try.ntmps51
  go_wp2
  go_ret
  exact ⟨rs, dr⟩
 rw [if_pos c4] at H
 have c4b0 : (a0 == 13) = true := beq_iff_eq.mpr c4
 have c4b1 : (a0 != 13) = false := bne_eq_false_iff_eq.mpr c4
 clear c4
 obtain rfl := Option.some.inj H
 go_enter Try.func51, Try.ntmps51
 go_wp2
 go_ret
 exact ⟨rs, dr⟩
def r2_args.f (a0 : Int) : Option (Int) := if a0 = 0 then (some 0) else (if a0 = 12 then (some 1) else (if a0 = 15 then (some 3) else ((r1_Two.f a0).bind fun t140 => (if t140 = true then (some 2) else (some (-1))))))
theorem r2_args.calls (a0 : Int) (r : Int) (w : World) (h : r2_args.f a0 = some r) :
  Calls Try.prog 79 #[.int .i64 a0] w fun e w' => e = .returned (.int .i64 r) ∧ Drawn0 w w' := by
 have H : (if a0 = 0 then (some 0) else (if a0 = 12 then (some 1) else (if a0 = 15 then (some 3) else ((r1_Two.f a0).bind fun t140 => (if t140 = true then (some 2) else (some (-1))))))) = some r := h
 clear h
 by_cases c2 : a0 = 0
 ·rw [if_pos c2] at H
  have c2b0 : (a0 == 0) = true := beq_iff_eq.mpr c2
  have c2b1 : (a0 != 0) = false := bne_eq_false_iff_eq.mpr c2
  clear c2
  obtain rfl := Option.some.inj H
  go_enter Try.func79, Try.ntmps79
  go_wp2
  go_ret
  exact ⟨rs, dr⟩
 rw [if_neg c2] at H
 have c2b0 : (a0 == 0) = false := beq_eq_false_iff_ne.mpr c2
 have c2b1 : (a0 != 0) = true := bne_iff_ne.mpr c2
 by_cases c3 : a0 = 12
 ·rw [if_pos c3] at H
  have c3b0 : (a0 == 12) = true := beq_iff_eq.mpr c3
  have c3b1 : (a0 != 12) = false := bne_eq_false_iff_eq.mpr c3
  clear c3
  obtain rfl := Option.some.inj H
  go_enter Try.func79, Try.ntmps79
  go_wp2
  go_ret
  exact ⟨rs, dr⟩
 rw [if_neg c3] at H
 have c3b0 : (a0 == 12) = false := beq_eq_false_iff_ne.mpr c3
 have c3b1 : (a0 != 12) = true := bne_iff_ne.mpr c3
 by_cases c4 : a0 = 15
 ·rw [if_pos c4] at H
  have c4b0 : (a0 == 15) = true := beq_iff_eq.mpr c4
  have c4b1 : (a0 != 15) = false := bne_eq_false_iff_eq.mpr c4
  clear c4
  obtain rfl := Option.some.inj H
  go_enter Try.func79, Try.ntmps79
  go_wp2
  go_ret
  exact ⟨rs, dr⟩
 rw [if_neg c4] at H
 have c4b0 : (a0 == 15) = false := beq_eq_false_iff_ne.mpr c4
 have c4b1 : (a0 != 15) = true := bne_iff_ne.mpr c4
 obtain ⟨t140, A5, H⟩ := be H
 by_cases c6 : t140 = true
 ·subst c6
  replace H := it H
  obtain rfl := Option.some.inj H
  go_enter Try.func79, Try.ntmps79
  go_wp2_with (first | ((with_reducible refine gate_callee (f := 51) rfl ?_); refine gL (some 11) rfl rfl Try.func51 #[.int .i64 a0] rfl ?_; (with_reducible refine (r1_Two.calls a0 true _ A5.out).mono ?_); rintro e w' ⟨rfl, ⟨nd, rfl⟩⟩; refine ⟨_, rfl, ?_⟩))
  go_ret
  exact ⟨rs, dr⟩
 replace c6 := Bool.eq_false_iff.mpr c6
 subst c6
 replace H := fi H
 obtain rfl := Option.some.inj H
 go_enter Try.func79, Try.ntmps79
 go_wp2_with (first | ((with_reducible refine gate_callee (f := 51) rfl ?_); refine gL (some 11) rfl rfl Try.func51 #[.int .i64 a0] rfl ?_; (with_reducible refine (r1_Two.calls a0 false _ A5.out).mono ?_); rintro e w' ⟨rfl, ⟨nd, rfl⟩⟩; refine ⟨_, rfl, ?_⟩))
 go_ret
 exact ⟨rs, dr⟩
def r2_node.j0 : Nat → Int → Bool → Int → Int → Int → List (S52) → Option (Bool)
 | 0, _, _, _, _, _, _ => none
 | k + 1, x0, x56, x142000, x142001, x142002, x142003 => if x56 = true then (some false) else (if x142000 = 0 then ((r1_Word.f k x0 x142001).bind fun t145 => (some t145)) else (some (x142001 == 0)))
def r2_node.f (k : Nat) (a0 : Int) (l1 : List (S42)) (a2 : Int) (a3_0 : Int) (a3_1 : Int) (a3_2 : Int) (l3_3 : List (S52)) : Option (Bool) := if a3_0 = 1 then (if a3_1 < 0 then (some false) else (if a3_1 ≥ (l1.length : Int) then (some false) else (if a3_2 < 0 then (some false) else (if a3_2 ≥ a2 then (some false) else (if 0 ≤ a3_1 then (if a3_1 < (l1.length : Int) then ((r1_One.f (decide (((rd_T42 l1 a3_1).f2) > 1))).bind fun t143 => (some ((l3_3.length : Int) == t143))) else (none)) else (none)))))) else (if a3_2 = 0 then ((r2_args.f a3_0).bind fun t144 => (r2_node.j0 k a0 ((l3_3.length : Int) != t144) a3_0 a3_1 a3_2 l3_3)) else (r2_node.j0 k a0 true a3_0 a3_1 a3_2 l3_3))
theorem r2_node.calls (k : Nat) (a0 : Int) (A1 : Option Addr) (c1 : Nat) (l1 : List (S42)) (a2 : Int) (a3_0 : Int) (a3_1 : Int) (a3_2 : Int) (A3_3 : Option Addr) (c3_3 : Nat) (l3_3 : List (S52)) (r : Bool) (w : World) (hr1 : Kd.C k42 w A1 l1.length l1) (hc1 : l1.length ≤ c1) (hr3_3 : Kd.C k52 w A3_3 l3_3.length l3_3) (hc3_3 : l3_3.length ≤ c3_3) (h : r2_node.f k a0 l1 a2 a3_0 a3_1 a3_2 l3_3 = some r) :
  Calls Try.prog 65 #[.int .i64 a0, .slice A1 l1.length c1, .int .i64 a2, .agg #[.int .i64 a3_0, .int .i64 a3_1, .int .i64 a3_2, .slice A3_3 l3_3.length c3_3]] w fun e w' => e = .returned (.bool r) ∧ Below w.heap.size w w' := by
 have hu52 := Try.underlying52
 have HR1 := Aside0.mk hr1
 have HC1 := Aside0.mk hc1
 clear hr1 hc1
 have HR3_3 := Aside0.mk hr3_3
 have HC3_3 := Aside0.mk hc3_3
 clear hr3_3 hc3_3
 have HB := Aside0.mk (Below.refl w.heap.size w)
 have H : (if a3_0 = 1 then (if a3_1 < 0 then (some false) else (if a3_1 ≥ (l1.length : Int) then (some false) else (if a3_2 < 0 then (some false) else (if a3_2 ≥ a2 then (some false) else (if 0 ≤ a3_1 then (if a3_1 < (l1.length : Int) then ((r1_One.f (decide (((rd_T42 l1 a3_1).f2) > 1))).bind fun t143 => (some ((l3_3.length : Int) == t143))) else (none)) else (none)))))) else (if a3_2 = 0 then ((r2_args.f a3_0).bind fun t144 => (r2_node.j0 k a0 ((l3_3.length : Int) != t144) a3_0 a3_1 a3_2 l3_3)) else (r2_node.j0 k a0 true a3_0 a3_1 a3_2 l3_3))) = some r := h
 clear h
 by_cases c5 : a3_0 = 1
 rotate_left
 ·rw [if_neg c5] at H
  have c5b0 : (a3_0 == 1) = false := beq_eq_false_iff_ne.mpr c5
  have c5b1 : (a3_0 != 1) = true := bne_iff_ne.mpr c5
  have HC23 := Aside0.mk H
  clear H
  go_enter Try.func65, Try.ntmps65
  go_upto_region 5 with (first | ((with_reducible refine gate_dst (N := 7) rfl ?_); (try (refine gate_guard (by rfl) ?_; dsimp only)); refine bx 7 rfl rfl #[.int .i64 a3_0, .int .i64 a3_1, .int .i64 a3_2, .slice A3_3 l3_3.length c3_3] 52 ?_; intro gb141 hg w24 hbox hb; have BK141 := Aside0.mk (hbox); have GE141 := ge HB hg; replace HB := sb HB hb; clear hb hbox hg; obtain ⟨hcz25_0, hcz25_1, hcz25_2, hcz25_3, hfz25_0, hfz25_1, hfz25_2, hfz25_3⟩ := cf4 BK141.out))
  repeat (go_quiet (first | ((with_reducible refine gate_dst (N := 7) rfl ?_); (try (refine gate_guard (by rfl) ?_; dsimp only)); refine bx 7 rfl rfl #[.int .i64 a3_0, .int .i64 a3_1, .int .i64 a3_2, .slice A3_3 l3_3.length c3_3] 52 ?_; intro gb141 hg w24 hbox hb; have BK141 := Aside0.mk (hbox); have GE141 := ge HB hg; replace HB := sb HB hb; clear hb hbox hg; obtain ⟨hcz25_0, hcz25_1, hcz25_2, hcz25_3, hfz25_0, hfz25_1, hfz25_2, hfz25_3⟩ := cf4 BK141.out)); go_upto_region 5 with (first | ((with_reducible refine gate_dst (N := 7) rfl ?_); (try (refine gate_guard (by rfl) ?_; dsimp only)); refine bx 7 rfl rfl #[.int .i64 a3_0, .int .i64 a3_1, .int .i64 a3_2, .slice A3_3 l3_3.length c3_3] 52 ?_; intro gb141 hg w24 hbox hb; have BK141 := Aside0.mk (hbox); have GE141 := ge HB hg; replace HB := sb HB hb; clear hb hbox hg; obtain ⟨hcz25_0, hcz25_1, hcz25_2, hcz25_3, hfz25_0, hfz25_1, hfz25_2, hfz25_3⟩ := cf4 BK141.out)))
  (try simp only [Act.put, List.setIfInBounds_toArray, List.set_cons_zero, List.set_cons_succ])
  go_cut [56] (fun v56 wc => ∃ (kq : Nat) (x56_22 : Bool), v56 = .bool x56_22 ∧ Aside0 (r2_node.j0 kq a0 x56_22 a3_0 a3_1 a3_2 l3_3 = some r) ∧ Aside0 (kq ≤ k) ∧ Aside0 (wc.heap[gb141]? = some (.cells #[.int .i64 a3_0, .int .i64 a3_1, .int .i64 a3_2, (.slice A3_3 l3_3.length c3_3)] 52 (0, 0))) ∧ Aside0 (Below w.heap.size w wc))
  case first =>
   have H := HC23.out
   clear HC23
   by_cases c26 : a3_2 = 0
   rotate_left
   ·rw [if_neg c26] at H
    have c26b0 : (a3_2 == 0) = false := beq_eq_false_iff_ne.mpr c26
    have c26b1 : (a3_2 != 0) = true := bne_iff_ne.mpr c26
    (first | rw [c26b0] | (simp only [i64_w, i32_w]; rw [c26b0]) | skip)
    have H' := Aside0.mk H
    clear H
    obtain ⟨hcz29_0, hcz29_1, hcz29_2, hcz29_3, hfz29_0, hfz29_1, hfz29_2, hfz29_3⟩ := cf4 BK141.out
    go_wp2
    repeat (go_quiet (fail); try go_wp2)
    go_meet
    case rel => exact ⟨_, (true), rs, H', ⟨by first | omega | exact Nat.le_refl _⟩, ⟨kk BK141⟩, ⟨bb HB⟩⟩
   rw [if_pos c26] at H
   have c26b0 : (a3_2 == 0) = true := beq_iff_eq.mpr c26
   have c26b1 : (a3_2 != 0) = false := bne_eq_false_iff_eq.mpr c26
   clear c26
   (first | rw [c26b0] | (simp only [i64_w, i32_w]; rw [c26b0]) | skip)
   obtain ⟨t144, A27, H⟩ := be H
   have H' := Aside0.mk H
   clear H
   obtain ⟨hcz28_0, hcz28_1, hcz28_2, hcz28_3, hfz28_0, hfz28_1, hfz28_2, hfz28_3⟩ := cf4 BK141.out
   go_wp2_with (first | (go_at_call 79; (with_reducible refine (r2_args.calls a3_0 t144 _ A27.out).mono ?_); rintro e w' ⟨rfl, ⟨nd, rfl⟩⟩; (try first | exact ⟨rfl, _, World.drewN_drewN _ _ _⟩ | exact ⟨rfl, _, Eq.trans (World.drewN_drewN _ _ _) (congrArg (World.drewN _) (Nat.add_assoc _ _ _))⟩)))
   repeat (go_quiet (first | (go_at_call 79; (with_reducible refine (r2_args.calls a3_0 t144 _ A27.out).mono ?_); rintro e w' ⟨rfl, ⟨nd, rfl⟩⟩; (try first | exact ⟨rfl, _, World.drewN_drewN _ _ _⟩ | exact ⟨rfl, _, Eq.trans (World.drewN_drewN _ _ _) (congrArg (World.drewN _) (Nat.add_assoc _ _ _))⟩))); try go_wp2_with (first | (go_at_call 79; (with_reducible refine (r2_args.calls a3_0 t144 _ A27.out).mono ?_); rintro e w' ⟨rfl, ⟨nd, rfl⟩⟩; (try first | exact ⟨rfl, _, World.drewN_drewN _ _ _⟩ | exact ⟨rfl, _, Eq.trans (World.drewN_drewN _ _ _) (congrArg (World.drewN _) (Nat.add_assoc _ _ _))⟩))))
   go_meet
   case rel => exact ⟨_, (((l3_3.length : Int) != t144)), rs, H', ⟨by first | omega | exact Nat.le_refl _⟩, ⟨kk BK141⟩, ⟨bb HB⟩⟩
  case rest =>
   clear HC23
   try clear c1
   try clear p1
   try clear q1
   try clear hx1
   try clear c2
   try clear p2
   try clear c3
   try clear c5
   try clear c5b0
   try clear c5b1
   try clear c6
   try clear c6b0
   try clear c9
   try clear c9b0
   try clear c12
   try clear c12b0
   try clear p14
   try clear q14
   try clear hx14
   try clear c15
   try clear c15b0
   try clear c18
   try clear c18b0
   try clear c19
   try clear c19b0
   try clear c26
   try clear c26b0
   try clear c26b1
   try clear hcz11_0 hcz11_1 hcz11_2 hcz11_3
   try clear hcz14_0 hcz14_1 hcz14_2 hcz14_3
   try clear hcz17_0 hcz17_1 hcz17_2 hcz17_3
   try clear hcz22_0 hcz22_1 hcz22_2 hcz22_3
   try clear hcz25_0 hcz25_1 hcz25_2 hcz25_3
   try clear hcz28_0 hcz28_1 hcz28_2 hcz28_3
   try clear hcz29_0 hcz29_1 hcz29_2 hcz29_3
   try clear hcz8_0 hcz8_1 hcz8_2 hcz8_3
   try clear hfz11_0 hfz11_1 hfz11_2 hfz11_3
   try clear hfz14_0 hfz14_1 hfz14_2 hfz14_3
   try clear hfz17_0 hfz17_1 hfz17_2 hfz17_3
   try clear hfz22_0 hfz22_1 hfz22_2 hfz22_3
   try clear hfz25_0 hfz25_1 hfz25_2 hfz25_3
   try clear hfz28_0 hfz28_1 hfz28_2 hfz28_3
   try clear hfz29_0 hfz29_1 hfz29_2 hfz29_3
   try clear hfz8_0 hfz8_1 hfz8_2 hfz8_3
   try clear hx142_0
   try clear hx142_1
   try clear hx142_2
   try clear p142
   try clear q142
   obtain ⟨kq, x56_22, rfl, HA, HJ22, BK141, HB⟩ := hcut
   cases kq with
   | zero => exact absurd HA.out (by simp [r2_node.j0])
   | succ kj22 =>
    have H := HA.out
    clear HA
    simp only [r2_node.j0] at H
    by_cases c30 : x56_22 = true
    ·subst c30
     replace H := it H
     obtain rfl := Option.some.inj H
     go_wp2
     repeat (go_quiet (fail); try go_wp2)
     go_ret
     exact ⟨rr, bb HB⟩
    replace c30 := Bool.eq_false_iff.mpr c30
    subst c30
    replace H := fi H
    by_cases c31 : a3_0 = 0
    rotate_left
    ·rw [if_neg c31] at H
     have c31b0 : (a3_0 == 0) = false := beq_eq_false_iff_ne.mpr c31
     have c31b1 : (a3_0 != 0) = true := bne_iff_ne.mpr c31
     obtain rfl := Option.some.inj H
     obtain ⟨hcz34_0, hcz34_1, hcz34_2, hcz34_3, hfz34_0, hfz34_1, hfz34_2, hfz34_3⟩ := cf4 BK141.out
     go_wp2
     repeat (go_quiet (fail); try go_wp2)
     go_ret
     exact ⟨rr, bb HB⟩
    rw [if_pos c31] at H
    have c31b0 : (a3_0 == 0) = true := beq_iff_eq.mpr c31
    have c31b1 : (a3_0 != 0) = false := bne_eq_false_iff_eq.mpr c31
    clear c31
    obtain ⟨t145, A32, H⟩ := be H
    obtain rfl := Option.some.inj H
    obtain ⟨hcz33_0, hcz33_1, hcz33_2, hcz33_3, hfz33_0, hfz33_1, hfz33_2, hfz33_3⟩ := cf4 BK141.out
    go_wp2_with (first | (go_at_call 50; (with_reducible refine (r1_Word.calls kj22 a0 a3_1 t145 _ A32.out).mono ?_); rintro e w' ⟨rfl, ⟨nd, rfl⟩⟩; (try first | exact ⟨rfl, _, World.drewN_drewN _ _ _⟩ | exact ⟨rfl, _, Eq.trans (World.drewN_drewN _ _ _) (congrArg (World.drewN _) (Nat.add_assoc _ _ _))⟩)))
    repeat (go_quiet (first | (go_at_call 50; (with_reducible refine (r1_Word.calls kj22 a0 a3_1 t145 _ A32.out).mono ?_); rintro e w' ⟨rfl, ⟨nd, rfl⟩⟩; (try first | exact ⟨rfl, _, World.drewN_drewN _ _ _⟩ | exact ⟨rfl, _, Eq.trans (World.drewN_drewN _ _ _) (congrArg (World.drewN _) (Nat.add_assoc _ _ _))⟩))); try go_wp2_with (first | (go_at_call 50; (with_reducible refine (r1_Word.calls kj22 a0 a3_1 t145 _ A32.out).mono ?_); rintro e w' ⟨rfl, ⟨nd, rfl⟩⟩; (try first | exact ⟨rfl, _, World.drewN_drewN _ _ _⟩ | exact ⟨rfl, _, Eq.trans (World.drewN_drewN _ _ _) (congrArg (World.drewN _) (Nat.add_assoc _ _ _))⟩))))
    go_ret
    exact ⟨rr, bb HB⟩
 rw [if_pos c5] at H
 have c5b0 : (a3_0 == 1) = true := beq_iff_eq.mpr c5
 have c5b1 : (a3_0 != 1) = false := bne_eq_false_iff_eq.mpr c5
 clear c5
 by_cases c6 : a3_1 < 0
 ·rw [if_pos c6] at H
  have c6b0 : decide (a3_1 < 0) = true := decide_eq_true c6
  clear c6
  obtain rfl := Option.some.inj H
  go_enter Try.func65, Try.ntmps65
  go_wp2_with (first | ((with_reducible refine gate_dst (N := 7) rfl ?_); (try (refine gate_guard (by rfl) ?_; dsimp only)); refine bx 7 rfl rfl #[.int .i64 a3_0, .int .i64 a3_1, .int .i64 a3_2, .slice A3_3 l3_3.length c3_3] 52 ?_; intro gb141 hg w7 hbox hb; have BK141 := Aside0.mk (hbox); have GE141 := ge HB hg; replace HB := sb HB hb; clear hb hbox hg; obtain ⟨hcz8_0, hcz8_1, hcz8_2, hcz8_3, hfz8_0, hfz8_1, hfz8_2, hfz8_3⟩ := cf4 BK141.out))
  repeat (go_quiet (first | ((with_reducible refine gate_dst (N := 7) rfl ?_); (try (refine gate_guard (by rfl) ?_; dsimp only)); refine bx 7 rfl rfl #[.int .i64 a3_0, .int .i64 a3_1, .int .i64 a3_2, .slice A3_3 l3_3.length c3_3] 52 ?_; intro gb141 hg w7 hbox hb; have BK141 := Aside0.mk (hbox); have GE141 := ge HB hg; replace HB := sb HB hb; clear hb hbox hg; obtain ⟨hcz8_0, hcz8_1, hcz8_2, hcz8_3, hfz8_0, hfz8_1, hfz8_2, hfz8_3⟩ := cf4 BK141.out)); try go_wp2_with (first | ((with_reducible refine gate_dst (N := 7) rfl ?_); (try (refine gate_guard (by rfl) ?_; dsimp only)); refine bx 7 rfl rfl #[.int .i64 a3_0, .int .i64 a3_1, .int .i64 a3_2, .slice A3_3 l3_3.length c3_3] 52 ?_; intro gb141 hg w7 hbox hb; have BK141 := Aside0.mk (hbox); have GE141 := ge HB hg; replace HB := sb HB hb; clear hb hbox hg; obtain ⟨hcz8_0, hcz8_1, hcz8_2, hcz8_3, hfz8_0, hfz8_1, hfz8_2, hfz8_3⟩ := cf4 BK141.out)))
  go_ret
  exact ⟨rr, bb HB⟩
 rw [if_neg c6] at H
 have c6b0 : decide (a3_1 < 0) = false := decide_eq_false c6
 clear c6
 by_cases c9 : a3_1 ≥ (l1.length : Int)
 ·rw [if_pos c9] at H
  have c9b0 : decide ((l1.length : Int) ≤ a3_1) = true := decide_eq_true c9
  clear c9
  obtain rfl := Option.some.inj H
  go_enter Try.func65, Try.ntmps65
  go_wp2_with (first | ((with_reducible refine gate_dst (N := 7) rfl ?_); (try (refine gate_guard (by rfl) ?_; dsimp only)); refine bx 7 rfl rfl #[.int .i64 a3_0, .int .i64 a3_1, .int .i64 a3_2, .slice A3_3 l3_3.length c3_3] 52 ?_; intro gb141 hg w10 hbox hb; have BK141 := Aside0.mk (hbox); have GE141 := ge HB hg; replace HB := sb HB hb; clear hb hbox hg; obtain ⟨hcz11_0, hcz11_1, hcz11_2, hcz11_3, hfz11_0, hfz11_1, hfz11_2, hfz11_3⟩ := cf4 BK141.out))
  repeat (go_quiet (first | ((with_reducible refine gate_dst (N := 7) rfl ?_); (try (refine gate_guard (by rfl) ?_; dsimp only)); refine bx 7 rfl rfl #[.int .i64 a3_0, .int .i64 a3_1, .int .i64 a3_2, .slice A3_3 l3_3.length c3_3] 52 ?_; intro gb141 hg w10 hbox hb; have BK141 := Aside0.mk (hbox); have GE141 := ge HB hg; replace HB := sb HB hb; clear hb hbox hg; obtain ⟨hcz11_0, hcz11_1, hcz11_2, hcz11_3, hfz11_0, hfz11_1, hfz11_2, hfz11_3⟩ := cf4 BK141.out)); try go_wp2_with (first | ((with_reducible refine gate_dst (N := 7) rfl ?_); (try (refine gate_guard (by rfl) ?_; dsimp only)); refine bx 7 rfl rfl #[.int .i64 a3_0, .int .i64 a3_1, .int .i64 a3_2, .slice A3_3 l3_3.length c3_3] 52 ?_; intro gb141 hg w10 hbox hb; have BK141 := Aside0.mk (hbox); have GE141 := ge HB hg; replace HB := sb HB hb; clear hb hbox hg; obtain ⟨hcz11_0, hcz11_1, hcz11_2, hcz11_3, hfz11_0, hfz11_1, hfz11_2, hfz11_3⟩ := cf4 BK141.out)))
  go_ret
  exact ⟨rr, bb HB⟩
 rw [if_neg c9] at H
 have c9b0 : decide ((l1.length : Int) ≤ a3_1) = false := decide_eq_false c9
 clear c9
 by_cases c12 : a3_2 < 0
 ·rw [if_pos c12] at H
  have c12b0 : decide (a3_2 < 0) = true := decide_eq_true c12
  clear c12
  obtain rfl := Option.some.inj H
  go_enter Try.func65, Try.ntmps65
  go_wp2_with (first | ((with_reducible refine gate_dst (N := 7) rfl ?_); (try (refine gate_guard (by rfl) ?_; dsimp only)); refine bx 7 rfl rfl #[.int .i64 a3_0, .int .i64 a3_1, .int .i64 a3_2, .slice A3_3 l3_3.length c3_3] 52 ?_; intro gb141 hg w13 hbox hb; have BK141 := Aside0.mk (hbox); have GE141 := ge HB hg; replace HB := sb HB hb; clear hb hbox hg; obtain ⟨hcz14_0, hcz14_1, hcz14_2, hcz14_3, hfz14_0, hfz14_1, hfz14_2, hfz14_3⟩ := cf4 BK141.out))
  repeat (go_quiet (first | ((with_reducible refine gate_dst (N := 7) rfl ?_); (try (refine gate_guard (by rfl) ?_; dsimp only)); refine bx 7 rfl rfl #[.int .i64 a3_0, .int .i64 a3_1, .int .i64 a3_2, .slice A3_3 l3_3.length c3_3] 52 ?_; intro gb141 hg w13 hbox hb; have BK141 := Aside0.mk (hbox); have GE141 := ge HB hg; replace HB := sb HB hb; clear hb hbox hg; obtain ⟨hcz14_0, hcz14_1, hcz14_2, hcz14_3, hfz14_0, hfz14_1, hfz14_2, hfz14_3⟩ := cf4 BK141.out)); try go_wp2_with (first | ((with_reducible refine gate_dst (N := 7) rfl ?_); (try (refine gate_guard (by rfl) ?_; dsimp only)); refine bx 7 rfl rfl #[.int .i64 a3_0, .int .i64 a3_1, .int .i64 a3_2, .slice A3_3 l3_3.length c3_3] 52 ?_; intro gb141 hg w13 hbox hb; have BK141 := Aside0.mk (hbox); have GE141 := ge HB hg; replace HB := sb HB hb; clear hb hbox hg; obtain ⟨hcz14_0, hcz14_1, hcz14_2, hcz14_3, hfz14_0, hfz14_1, hfz14_2, hfz14_3⟩ := cf4 BK141.out)))
  go_ret
  exact ⟨rr, bb HB⟩
 rw [if_neg c12] at H
 have c12b0 : decide (a3_2 < 0) = false := decide_eq_false c12
 clear c12
 by_cases c15 : a3_2 ≥ a2
 ·rw [if_pos c15] at H
  have c15b0 : decide (a2 ≤ a3_2) = true := decide_eq_true c15
  clear c15
  obtain rfl := Option.some.inj H
  go_enter Try.func65, Try.ntmps65
  go_wp2_with (first | ((with_reducible refine gate_dst (N := 7) rfl ?_); (try (refine gate_guard (by rfl) ?_; dsimp only)); refine bx 7 rfl rfl #[.int .i64 a3_0, .int .i64 a3_1, .int .i64 a3_2, .slice A3_3 l3_3.length c3_3] 52 ?_; intro gb141 hg w16 hbox hb; have BK141 := Aside0.mk (hbox); have GE141 := ge HB hg; replace HB := sb HB hb; clear hb hbox hg; obtain ⟨hcz17_0, hcz17_1, hcz17_2, hcz17_3, hfz17_0, hfz17_1, hfz17_2, hfz17_3⟩ := cf4 BK141.out))
  repeat (go_quiet (first | ((with_reducible refine gate_dst (N := 7) rfl ?_); (try (refine gate_guard (by rfl) ?_; dsimp only)); refine bx 7 rfl rfl #[.int .i64 a3_0, .int .i64 a3_1, .int .i64 a3_2, .slice A3_3 l3_3.length c3_3] 52 ?_; intro gb141 hg w16 hbox hb; have BK141 := Aside0.mk (hbox); have GE141 := ge HB hg; replace HB := sb HB hb; clear hb hbox hg; obtain ⟨hcz17_0, hcz17_1, hcz17_2, hcz17_3, hfz17_0, hfz17_1, hfz17_2, hfz17_3⟩ := cf4 BK141.out)); try go_wp2_with (first | ((with_reducible refine gate_dst (N := 7) rfl ?_); (try (refine gate_guard (by rfl) ?_; dsimp only)); refine bx 7 rfl rfl #[.int .i64 a3_0, .int .i64 a3_1, .int .i64 a3_2, .slice A3_3 l3_3.length c3_3] 52 ?_; intro gb141 hg w16 hbox hb; have BK141 := Aside0.mk (hbox); have GE141 := ge HB hg; replace HB := sb HB hb; clear hb hbox hg; obtain ⟨hcz17_0, hcz17_1, hcz17_2, hcz17_3, hfz17_0, hfz17_1, hfz17_2, hfz17_3⟩ := cf4 BK141.out)))
  go_ret
  exact ⟨rr, bb HB⟩
 rw [if_neg c15] at H
 have c15b0 : decide (a2 ≤ a3_2) = false := decide_eq_false c15
 clear c15
 by_cases c18 : 0 ≤ a3_1
 rotate_left
 ·rw [if_neg c18] at H
  exact absurd H (by simp)
 rw [if_pos c18] at H
 have c18b0 : decide (0 ≤ a3_1) = true := decide_eq_true c18
 clear c18
 by_cases c19 : a3_1 < (l1.length : Int)
 rotate_left
 ·rw [if_neg c19] at H
  exact absurd H (by simp)
 rw [if_pos c19] at H
 have c19b0 : decide (a3_1 < (l1.length : Int)) = true := decide_eq_true c19
 clear c19
 obtain ⟨t143, A20, H⟩ := be H
 obtain rfl := Option.some.inj H
 go_enter Try.func65, Try.ntmps65
 go_wp2_with (first | ((with_reducible refine gate_dst (N := 7) rfl ?_); (try (refine gate_guard (by rfl) ?_; dsimp only)); refine bx 7 rfl rfl #[.int .i64 a3_0, .int .i64 a3_1, .int .i64 a3_2, .slice A3_3 l3_3.length c3_3] 52 ?_; intro gb141 hg w21 hbox hb; have BK141 := Aside0.mk (hbox); have GE141 := ge HB hg; replace HB := sb HB hb; clear hb hbox hg; obtain ⟨hcz22_0, hcz22_1, hcz22_2, hcz22_3, hfz22_0, hfz22_1, hfz22_2, hfz22_3⟩ := cf4 BK141.out; have p142 : 0 ≤ (a3_1 : Int) := od; have q142 : a3_1 < (l1.length : Int) := od; obtain ⟨ad142, e142, hx142_0, hx142_1, hx142_2⟩ := at_T42 HR1.out a3_1 p142 q142; cases e142; replace hx142_0 := bcell HB.out hx142_0; replace hx142_1 := bcell HB.out hx142_1; replace hx142_2 := bcell HB.out hx142_2; replace p142 := eq_true p142; replace q142 := eq_true q142) | (go_at_call 60; (with_reducible refine (r1_One.calls (decide (((rd_T42 l1 a3_1).f2) > 1)) t143 _ A20.out).mono ?_); rintro e w' ⟨rfl, ⟨nd, rfl⟩⟩; (try first | exact ⟨rfl, _, World.drewN_drewN _ _ _⟩ | exact ⟨rfl, _, Eq.trans (World.drewN_drewN _ _ _) (congrArg (World.drewN _) (Nat.add_assoc _ _ _))⟩)))
 repeat (go_quiet (first | ((with_reducible refine gate_dst (N := 7) rfl ?_); (try (refine gate_guard (by rfl) ?_; dsimp only)); refine bx 7 rfl rfl #[.int .i64 a3_0, .int .i64 a3_1, .int .i64 a3_2, .slice A3_3 l3_3.length c3_3] 52 ?_; intro gb141 hg w21 hbox hb; have BK141 := Aside0.mk (hbox); have GE141 := ge HB hg; replace HB := sb HB hb; clear hb hbox hg; obtain ⟨hcz22_0, hcz22_1, hcz22_2, hcz22_3, hfz22_0, hfz22_1, hfz22_2, hfz22_3⟩ := cf4 BK141.out; have p142 : 0 ≤ (a3_1 : Int) := od; have q142 : a3_1 < (l1.length : Int) := od; obtain ⟨ad142, e142, hx142_0, hx142_1, hx142_2⟩ := at_T42 HR1.out a3_1 p142 q142; cases e142; replace hx142_0 := bcell HB.out hx142_0; replace hx142_1 := bcell HB.out hx142_1; replace hx142_2 := bcell HB.out hx142_2; replace p142 := eq_true p142; replace q142 := eq_true q142) | (go_at_call 60; (with_reducible refine (r1_One.calls (decide (((rd_T42 l1 a3_1).f2) > 1)) t143 _ A20.out).mono ?_); rintro e w' ⟨rfl, ⟨nd, rfl⟩⟩; (try first | exact ⟨rfl, _, World.drewN_drewN _ _ _⟩ | exact ⟨rfl, _, Eq.trans (World.drewN_drewN _ _ _) (congrArg (World.drewN _) (Nat.add_assoc _ _ _))⟩))); try go_wp2_with (first | ((with_reducible refine gate_dst (N := 7) rfl ?_); (try (refine gate_guard (by rfl) ?_; dsimp only)); refine bx 7 rfl rfl #[.int .i64 a3_0, .int .i64 a3_1, .int .i64 a3_2, .slice A3_3 l3_3.length c3_3] 52 ?_; intro gb141 hg w21 hbox hb; have BK141 := Aside0.mk (hbox); have GE141 := ge HB hg; replace HB := sb HB hb; clear hb hbox hg; obtain ⟨hcz22_0, hcz22_1, hcz22_2, hcz22_3, hfz22_0, hfz22_1, hfz22_2, hfz22_3⟩ := cf4 BK141.out; have p142 : 0 ≤ (a3_1 : Int) := od; have q142 : a3_1 < (l1.length : Int) := od; obtain ⟨ad142, e142, hx142_0, hx142_1, hx142_2⟩ := at_T42 HR1.out a3_1 p142 q142; cases e142; replace hx142_0 := bcell HB.out hx142_0; replace hx142_1 := bcell HB.out hx142_1; replace hx142_2 := bcell HB.out hx142_2; replace p142 := eq_true p142; replace q142 := eq_true q142) | (go_at_call 60; (with_reducible refine (r1_One.calls (decide (((rd_T42 l1 a3_1).f2) > 1)) t143 _ A20.out).mono ?_); rintro e w' ⟨rfl, ⟨nd, rfl⟩⟩; (try first | exact ⟨rfl, _, World.drewN_drewN _ _ _⟩ | exact ⟨rfl, _, Eq.trans (World.drewN_drewN _ _ _) (congrArg (World.drewN _) (Nat.add_assoc _ _ _))⟩))))
 go_ret
 exact ⟨rr, bb HB⟩
mutual
def r2_form.l0 : Nat → Int → List (S42) → Int → Int → Int → Int → Int → List (S52) → Option (Bool)
 | 0, _, _, _, _, _, _, _, _ => none
 | k + 1, x0, x1, x2, x9, x147000, x147001, x147002, x147003 => if x9 < (x147003.length : Int) then (if 0 ≤ x9 then ((r2_form.f k x0 x1 x2 ((rd_T52 x147003 x9).f0) ((rd_T52 x147003 x9).f1) ((rd_T52 x147003 x9).f2) ((rd_T52 x147003 x9).f3)).bind fun t149 => (if t149 = true then (r2_form.l0 k x0 x1 x2 (wrap64 (x9 + 1)) x147000 x147001 x147002 x147003) else (some false))) else (none)) else (some true)
def r2_form.f : Nat → Int → List (S42) → Int → Int → Int → Int → List (S52) → Option (Bool)
 | 0, _, _, _, _, _, _, _ => none
 | k + 1, a0, l1, a2, a3_0, a3_1, a3_2, l3_3 => (r2_node.f k a0 l1 a2 a3_0 a3_1 a3_2 l3_3).bind fun t147 => (if t147 = true then (r2_form.l0 k a0 l1 a2 0 a3_0 a3_1 a3_2 l3_3) else (some false))
end
theorem r2_form.calls (k : Nat) : ∀ (a0 : Int) (A1 : Option Addr) (c1 : Nat) (l1 : List (S42)) (a2 : Int) (a3_0 : Int) (a3_1 : Int) (a3_2 : Int) (A3_3 : Option Addr) (c3_3 : Nat) (l3_3 : List (S52)) (r : Bool) (w : World) (hr1 : Kd.C k42 w A1 l1.length l1) (hc1 : l1.length ≤ c1) (hr3_3 : Kd.C k52 w A3_3 l3_3.length l3_3) (hc3_3 : l3_3.length ≤ c3_3) (h : r2_form.f k a0 l1 a2 a3_0 a3_1 a3_2 l3_3 = some r),
  Calls Try.prog 48 #[.int .i64 a0, .slice A1 l1.length c1, .int .i64 a2, .agg #[.int .i64 a3_0, .int .i64 a3_1, .int .i64 a3_2, .slice A3_3 l3_3.length c3_3]] w fun e w' => e = .returned (.bool r) ∧ Below w.heap.size w w' := by
 induction k using Nat.strongRecOn with
 | _ k ih =>
 intro a0 A1 c1 l1 a2 a3_0 a3_1 a3_2 A3_3 c3_3 l3_3 r w hr1 hc1 hr3_3 hc3_3 h
 cases k with
 | zero => exact absurd h (by simp [r2_form.f])
 | succ k =>
 simp only [r2_form.f] at h
 have hu52 := Try.underlying52
 have HR1 := Aside0.mk hr1
 have HC1 := Aside0.mk hc1
 clear hr1 hc1
 have HR3_3 := Aside0.mk hr3_3
 have HC3_3 := Aside0.mk hc3_3
 clear hr3_3 hc3_3
 have HB := Aside0.mk (Below.refl w.heap.size w)
 have H : ((r2_node.f k a0 l1 a2 a3_0 a3_1 a3_2 l3_3).bind fun t147 => (if t147 = true then (r2_form.l0 k a0 l1 a2 0 a3_0 a3_1 a3_2 l3_3) else (some false))) = some r := h
 clear h
 obtain ⟨t147, A5, H⟩ := be H
 by_cases c6 : t147 = true
 rotate_left
 ·replace c6 := Bool.eq_false_iff.mpr c6
  subst c6
  replace H := fi H
  obtain rfl := Option.some.inj H
  go_enter Try.func48, Try.ntmps48
  go_wp2_with (first | ((with_reducible refine gate_dst (N := 7) rfl ?_); refine bx 7 rfl rfl #[.int .i64 a3_0, .int .i64 a3_1, .int .i64 a3_2, .slice A3_3 l3_3.length c3_3] 52 ?_; intro gb146 hg w19 hbox hb; have BK146 := Aside0.mk (hbox); have GE146 := ge HB hg; replace HB := sb HB hb; clear hb hbox hg; obtain ⟨hcz20_0, hcz20_1, hcz20_2, hcz20_3, hfz20_0, hfz20_1, hfz20_2, hfz20_3⟩ := cf4 BK146.out) | ((with_reducible refine gate_callee (f := 65) rfl ?_); refine gL (some 14) rfl rfl Try.func65 #[.int .i64 a0, .slice A1 l1.length c1, .int .i64 a2, .agg #[.int .i64 a3_0, .int .i64 a3_1, .int .i64 a3_2, .slice A3_3 l3_3.length c3_3]] rfl ?_; (with_reducible refine (r2_node.calls k a0 _ _ l1 a2 a3_0 a3_1 a3_2 _ _ l3_3 false _ ?side1 ?side2 ?side3 ?side4 A5.out).mono ?_); (case side1 => exact cb HR1 HB); (case side2 => exact HC1.out); (case side3 => exact cb HR3_3 HB); (case side4 => exact HC3_3.out); rintro e w21 ⟨rfl, hb⟩; refine ⟨_, rfl, ?_⟩; replace BK146 := kb BK146 hb; replace HB := sb HB hb; (try clear hb)))
  go_ret
  exact ⟨rr, bb HB⟩
 subst c6
 replace H := it H
 have H' := Aside0.mk H
 clear H
 go_enter Try.func48, Try.ntmps48
 go_wp2_with (first | ((with_reducible refine gate_dst (N := 7) rfl ?_); refine bx 7 rfl rfl #[.int .i64 a3_0, .int .i64 a3_1, .int .i64 a3_2, .slice A3_3 l3_3.length c3_3] 52 ?_; intro gb146 hg w7 hbox hb; have BK146 := Aside0.mk (hbox); have GE146 := ge HB hg; replace HB := sb HB hb; clear hb hbox hg; obtain ⟨hcz8_0, hcz8_1, hcz8_2, hcz8_3, hfz8_0, hfz8_1, hfz8_2, hfz8_3⟩ := cf4 BK146.out) | ((with_reducible refine gate_callee (f := 65) rfl ?_); refine gL (some 14) rfl rfl Try.func65 #[.int .i64 a0, .slice A1 l1.length c1, .int .i64 a2, .agg #[.int .i64 a3_0, .int .i64 a3_1, .int .i64 a3_2, .slice A3_3 l3_3.length c3_3]] rfl ?_; (with_reducible refine (r2_node.calls k a0 _ _ l1 a2 a3_0 a3_1 a3_2 _ _ l3_3 true _ ?side1 ?side2 ?side3 ?side4 A5.out).mono ?_); (case side1 => exact cb HR1 HB); (case side2 => exact HC1.out); (case side3 => exact cb HR3_3 HB); (case side4 => exact HC3_3.out); rintro e w9 ⟨rfl, hb⟩; refine ⟨_, rfl, ?_⟩; replace BK146 := kb BK146 hb; replace HB := sb HB hb; (try clear hb)))
 go_loopg [9] k (fun kq v9 w' => ∃ (x9_1 : Int), v9 = .int .i64 x9_1 ∧ Aside0 (r2_form.l0 kq a0 l1 a2 x9_1 a3_0 a3_1 a3_2 l3_3 = some r) ∧ Aside0 (kq ≤ k) ∧ Aside0 (w'.heap[gb146]? = some (.cells #[.int .i64 a3_0, .int .i64 a3_1, .int .i64 a3_2, (.slice A3_3 l3_3.length c3_3)] 52 (0, 0))) ∧ Aside0 (Below w.heap.size w w'))
 case atStart => exact ⟨(0), rs, H', ⟨Nat.le_refl _⟩, ⟨kk BK146⟩, ⟨bb HB⟩⟩
 case round =>
  clear H'
  try clear c1
  try clear p2
  try clear c3
  try clear c4
  try clear c6
  try clear hcz8_0 hcz8_1 hcz8_2 hcz8_3 hfz8_0 hfz8_1 hfz8_2 hfz8_3
  obtain ⟨x9_1, rfl, HA, HK1, BK146, HB⟩ := hrel
  cases gk with
  | zero => exact absurd HA.out (by simp [r2_form.l0])
  | succ k1 =>
   have H := HA.out
   clear HA
   simp only [r2_form.l0] at H
   by_cases c10 : x9_1 < (l3_3.length : Int)
   rotate_left
   ·rw [if_neg c10] at H
    have c10b0 : decide (x9_1 < (l3_3.length : Int)) = false := decide_eq_false c10
    clear c10
    obtain rfl := Option.some.inj H
    obtain ⟨hcz18_0, hcz18_1, hcz18_2, hcz18_3, hfz18_0, hfz18_1, hfz18_2, hfz18_3⟩ := cf4 BK146.out
    go_wp2
    go_ret
    exact ⟨rr, bb HB⟩
   rw [if_pos c10] at H
   have c10b0 : decide (x9_1 < (l3_3.length : Int)) = true := decide_eq_true c10
   clear c10
   by_cases c11 : 0 ≤ x9_1
   rotate_left
   ·rw [if_neg c11] at H
    exact absurd H (by simp)
   rw [if_pos c11] at H
   have c11b0 : decide (0 ≤ x9_1) = true := decide_eq_true c11
   clear c11
   obtain ⟨t149, A12, H⟩ := be H
   by_cases c13 : t149 = true
   rotate_left
   ·replace c13 := Bool.eq_false_iff.mpr c13
    subst c13
    replace H := fi H
    obtain rfl := Option.some.inj H
    obtain ⟨hcz16_0, hcz16_1, hcz16_2, hcz16_3, hfz16_0, hfz16_1, hfz16_2, hfz16_3⟩ := cf4 BK146.out
    have p148 : 0 ≤ (x9_1 : Int) := od
    have q148 : x9_1 < (l3_3.length : Int) := od
    obtain ⟨ad148, A148_3, c148_3, e148, hx148_0, hx148_1, hx148_2, hx148_3, hl148_3, hi148_3⟩ := at_T52 HR3_3.out x9_1 p148 q148
    cases e148
    replace hx148_0 := bcell HB.out hx148_0
    replace hx148_1 := bcell HB.out hx148_1
    replace hx148_2 := bcell HB.out hx148_2
    replace hx148_3 := bcell HB.out hx148_3
    have HR148_3 := Aside0.mk hi148_3
    have HC148_3 := Aside0.mk hl148_3
    clear hi148_3 hl148_3
    replace p148 := eq_true p148
    replace q148 := eq_true q148
    go_wp2_with (first | ((with_reducible refine gate_callee (f := 48) rfl ?_); refine gL (some 31) rfl rfl Try.func48 #[.int .i64 a0, .slice A1 l1.length c1, .int .i64 a2, .agg #[.int .i64 ((rd_T52 l3_3 x9_1).f0), .int .i64 ((rd_T52 l3_3 x9_1).f1), .int .i64 ((rd_T52 l3_3 x9_1).f2), .slice A148_3 ((rd_T52 l3_3 x9_1).f3).length c148_3]] rfl ?_; (with_reducible refine (ih k1 (by have := HK1.out; omega) a0 _ _ l1 a2 ((rd_T52 l3_3 x9_1).f0) ((rd_T52 l3_3 x9_1).f1) ((rd_T52 l3_3 x9_1).f2) _ _ ((rd_T52 l3_3 x9_1).f3) false _ ?side1 ?side2 ?side3 ?side4 A12.out).mono ?_); (case side1 => exact cb HR1 HB); (case side2 => exact HC1.out); (case side3 => exact cb HR148_3 HB); (case side4 => exact HC148_3.out); rintro e w17 ⟨rfl, hb⟩; refine ⟨_, rfl, ?_⟩; replace BK146 := kb BK146 hb; replace HB := sb HB hb; (try clear hb)))
    go_ret
    exact ⟨rr, bb HB⟩
   subst c13
   replace H := it H
   have H' := Aside0.mk H
   clear H
   obtain ⟨hcz14_0, hcz14_1, hcz14_2, hcz14_3, hfz14_0, hfz14_1, hfz14_2, hfz14_3⟩ := cf4 BK146.out
   have p148 : 0 ≤ (x9_1 : Int) := od
   have q148 : x9_1 < (l3_3.length : Int) := od
   obtain ⟨ad148, A148_3, c148_3, e148, hx148_0, hx148_1, hx148_2, hx148_3, hl148_3, hi148_3⟩ := at_T52 HR3_3.out x9_1 p148 q148
   cases e148
   replace hx148_0 := bcell HB.out hx148_0
   replace hx148_1 := bcell HB.out hx148_1
   replace hx148_2 := bcell HB.out hx148_2
   replace hx148_3 := bcell HB.out hx148_3
   have HR148_3 := Aside0.mk hi148_3
   have HC148_3 := Aside0.mk hl148_3
   clear hi148_3 hl148_3
   replace p148 := eq_true p148
   replace q148 := eq_true q148
   go_wp2_with (first | ((with_reducible refine gate_callee (f := 48) rfl ?_); refine gL (some 31) rfl rfl Try.func48 #[.int .i64 a0, .slice A1 l1.length c1, .int .i64 a2, .agg #[.int .i64 ((rd_T52 l3_3 x9_1).f0), .int .i64 ((rd_T52 l3_3 x9_1).f1), .int .i64 ((rd_T52 l3_3 x9_1).f2), .slice A148_3 ((rd_T52 l3_3 x9_1).f3).length c148_3]] rfl ?_; (with_reducible refine (ih k1 (by have := HK1.out; omega) a0 _ _ l1 a2 ((rd_T52 l3_3 x9_1).f0) ((rd_T52 l3_3 x9_1).f1) ((rd_T52 l3_3 x9_1).f2) _ _ ((rd_T52 l3_3 x9_1).f3) true _ ?side1 ?side2 ?side3 ?side4 A12.out).mono ?_); (case side1 => exact cb HR1 HB); (case side2 => exact HC1.out); (case side3 => exact cb HR148_3 HB); (case side4 => exact HC148_3.out); rintro e w15 ⟨rfl, hb⟩; refine ⟨_, rfl, ?_⟩; replace BK146 := kb BK146 hb; replace HB := sb HB hb; (try clear hb)))
   go_roundg k1
   case measure => have := HK1.out; omega
   case rel => exact ⟨(wrap64 (x9_1 + 1)), rs, H', ⟨by have := HK1.out; omega⟩, ⟨kk BK146⟩, ⟨bb HB⟩⟩
def r2_Is.f (k : Nat) (a0 : Int) (l1 : List (S42)) (a2 : Int) (a3_0 : Int) (a3_1 : Int) (a3_2 : Int) (l3_3 : List (S52)) : Option (Bool) := (r2_Fits.f k a3_0 a3_1 a3_2 l3_3 400).bind fun t151 => (if t151 = true then ((r2_Depth.f k a3_0 a3_1 a3_2 l3_3).bind fun t152 => (if t152 ≤ 16 then ((r2_form.f k a0 l1 a2 a3_0 a3_1 a3_2 l3_3).bind fun t153 => (some t153)) else (some false))) else (some false))
theorem r2_Is.calls (k : Nat) (a0 : Int) (A1 : Option Addr) (c1 : Nat) (l1 : List (S42)) (a2 : Int) (a3_0 : Int) (a3_1 : Int) (a3_2 : Int) (A3_3 : Option Addr) (c3_3 : Nat) (l3_3 : List (S52)) (r : Bool) (w : World) (hr1 : Kd.C k42 w A1 l1.length l1) (hc1 : l1.length ≤ c1) (hr3_3 : Kd.C k52 w A3_3 l3_3.length l3_3) (hc3_3 : l3_3.length ≤ c3_3) (h : r2_Is.f k a0 l1 a2 a3_0 a3_1 a3_2 l3_3 = some r) :
  Calls Try.prog 31 #[.int .i64 a0, .slice A1 l1.length c1, .int .i64 a2, .agg #[.int .i64 a3_0, .int .i64 a3_1, .int .i64 a3_2, .slice A3_3 l3_3.length c3_3]] w fun e w' => e = .returned (.bool r) ∧ Below w.heap.size w w' := by
 have hu52 := Try.underlying52
 have HR1 := Aside0.mk hr1
 have HC1 := Aside0.mk hc1
 clear hr1 hc1
 have HR3_3 := Aside0.mk hr3_3
 have HC3_3 := Aside0.mk hc3_3
 clear hr3_3 hc3_3
 have HB := Aside0.mk (Below.refl w.heap.size w)
 have H : ((r2_Fits.f k a3_0 a3_1 a3_2 l3_3 400).bind fun t151 => (if t151 = true then ((r2_Depth.f k a3_0 a3_1 a3_2 l3_3).bind fun t152 => (if t152 ≤ 16 then ((r2_form.f k a0 l1 a2 a3_0 a3_1 a3_2 l3_3).bind fun t153 => (some t153)) else (some false))) else (some false))) = some r := h
 clear h
 obtain ⟨t151, A5, H⟩ := be H
 by_cases c6 : t151 = true
 rotate_left
 ·replace c6 := Bool.eq_false_iff.mpr c6
  subst c6
  replace H := fi H
  obtain rfl := Option.some.inj H
  go_enter Try.func31, Try.ntmps31
  go_wp2_with (first | ((with_reducible refine gate_dst (N := 7) rfl ?_); refine bx 7 rfl rfl #[.int .i64 a3_0, .int .i64 a3_1, .int .i64 a3_2, .slice A3_3 l3_3.length c3_3] 52 ?_; intro gb150 hg w22 hbox hb; have BK150 := Aside0.mk (hbox); have GE150 := ge HB hg; replace HB := sb HB hb; clear hb hbox hg; obtain ⟨hcz23_0, hcz23_1, hcz23_2, hcz23_3, hfz23_0, hfz23_1, hfz23_2, hfz23_3⟩ := cf4 BK150.out) | ((with_reducible refine gate_callee (f := 46) rfl ?_); refine gL (some 10) rfl rfl Try.func46 #[.agg #[.int .i64 a3_0, .int .i64 a3_1, .int .i64 a3_2, .slice A3_3 l3_3.length c3_3], .int .i64 400] rfl ?_; (with_reducible refine (r2_Fits.calls k a3_0 a3_1 a3_2 _ _ l3_3 400 false _ ?side1 ?side2 A5.out).mono ?_); (case side1 => exact cb HR3_3 HB); (case side2 => exact HC3_3.out); rintro e w24 ⟨rfl, hb⟩; refine ⟨_, rfl, ?_⟩; replace BK150 := kb BK150 hb; replace HB := sb HB hb; (try clear hb)))
  go_ret
  exact ⟨rr, bb HB⟩
 subst c6
 replace H := it H
 obtain ⟨t152, A7, H⟩ := be H
 by_cases c8 : t152 ≤ 16
 rotate_left
 ·rw [if_neg c8] at H
  have c8b0 : decide (t152 ≤ 16) = false := decide_eq_false c8
  clear c8
  obtain rfl := Option.some.inj H
  go_enter Try.func31, Try.ntmps31
  go_wp2_with (first | ((with_reducible refine gate_dst (N := 7) rfl ?_); refine bx 7 rfl rfl #[.int .i64 a3_0, .int .i64 a3_1, .int .i64 a3_2, .slice A3_3 l3_3.length c3_3] 52 ?_; intro gb150 hg w17 hbox hb; have BK150 := Aside0.mk (hbox); have GE150 := ge HB hg; replace HB := sb HB hb; clear hb hbox hg; obtain ⟨hcz18_0, hcz18_1, hcz18_2, hcz18_3, hfz18_0, hfz18_1, hfz18_2, hfz18_3⟩ := cf4 BK150.out) | ((with_reducible refine gate_callee (f := 46) rfl ?_); refine gL (some 10) rfl rfl Try.func46 #[.agg #[.int .i64 a3_0, .int .i64 a3_1, .int .i64 a3_2, .slice A3_3 l3_3.length c3_3], .int .i64 400] rfl ?_; (with_reducible refine (r2_Fits.calls k a3_0 a3_1 a3_2 _ _ l3_3 400 true _ ?side1 ?side2 A5.out).mono ?_); (case side1 => exact cb HR3_3 HB); (case side2 => exact HC3_3.out); rintro e w19 ⟨rfl, hb⟩; refine ⟨_, rfl, ?_⟩; replace BK150 := kb BK150 hb; replace HB := sb HB hb; (try clear hb); obtain ⟨hcz20_0, hcz20_1, hcz20_2, hcz20_3, hfz20_0, hfz20_1, hfz20_2, hfz20_3⟩ := cf4 BK150.out) | (go_at_call 47; (with_reducible refine (r2_Depth.calls k a3_0 a3_1 a3_2 _ _ l3_3 t152 _ ?side1 ?side2 A7.out).mono ?_); (case side1 => exact cb HR3_3 HB); (case side2 => exact HC3_3.out); rintro e w21 ⟨rfl, hb⟩; replace BK150 := kb BK150 hb; replace HB := sb HB hb; (try clear hb)))
  go_ret
  exact ⟨rr, bb HB⟩
 rw [if_pos c8] at H
 have c8b0 : decide (t152 ≤ 16) = true := decide_eq_true c8
 clear c8
 obtain ⟨t153, A9, H⟩ := be H
 obtain rfl := Option.some.inj H
 go_enter Try.func31, Try.ntmps31
 go_wp2_with (first | ((with_reducible refine gate_dst (N := 7) rfl ?_); refine bx 7 rfl rfl #[.int .i64 a3_0, .int .i64 a3_1, .int .i64 a3_2, .slice A3_3 l3_3.length c3_3] 52 ?_; intro gb150 hg w10 hbox hb; have BK150 := Aside0.mk (hbox); have GE150 := ge HB hg; replace HB := sb HB hb; clear hb hbox hg; obtain ⟨hcz11_0, hcz11_1, hcz11_2, hcz11_3, hfz11_0, hfz11_1, hfz11_2, hfz11_3⟩ := cf4 BK150.out) | ((with_reducible refine gate_callee (f := 46) rfl ?_); refine gL (some 10) rfl rfl Try.func46 #[.agg #[.int .i64 a3_0, .int .i64 a3_1, .int .i64 a3_2, .slice A3_3 l3_3.length c3_3], .int .i64 400] rfl ?_; (with_reducible refine (r2_Fits.calls k a3_0 a3_1 a3_2 _ _ l3_3 400 true _ ?side1 ?side2 A5.out).mono ?_); (case side1 => exact cb HR3_3 HB); (case side2 => exact HC3_3.out); rintro e w12 ⟨rfl, hb⟩; refine ⟨_, rfl, ?_⟩; replace BK150 := kb BK150 hb; replace HB := sb HB hb; (try clear hb); obtain ⟨hcz13_0, hcz13_1, hcz13_2, hcz13_3, hfz13_0, hfz13_1, hfz13_2, hfz13_3⟩ := cf4 BK150.out) | (go_at_call 47; (with_reducible refine (r2_Depth.calls k a3_0 a3_1 a3_2 _ _ l3_3 t152 _ ?side1 ?side2 A7.out).mono ?_); (case side1 => exact cb HR3_3 HB); (case side2 => exact HC3_3.out); rintro e w14 ⟨rfl, hb⟩; replace BK150 := kb BK150 hb; replace HB := sb HB hb; (try clear hb); obtain ⟨hcz15_0, hcz15_1, hcz15_2, hcz15_3, hfz15_0, hfz15_1, hfz15_2, hfz15_3⟩ := cf4 BK150.out) | (go_at_call 48; (with_reducible refine (r2_form.calls k a0 _ _ l1 a2 a3_0 a3_1 a3_2 _ _ l3_3 t153 _ ?side1 ?side2 ?side3 ?side4 A9.out).mono ?_); (case side1 => exact cb HR1 HB); (case side2 => exact HC1.out); (case side3 => exact cb HR3_3 HB); (case side4 => exact HC3_3.out); rintro e w16 ⟨rfl, hb⟩; replace BK150 := kb BK150 hb; replace HB := sb HB hb; (try clear hb)))
 go_ret
 exact ⟨rr, bb HB⟩
def Tells {α : Type} (g : Nat → Option α) (v : α) : Prop := ∃ k0, ∀ k, k0 ≤ k → g k = some v
theorem Tells.pure {α : Type} (v : α) : Tells (fun _ => some v) v := ⟨0, fun _ _ => rfl⟩
theorem Tells.bind {α β : Type} {g : Nat → Option α} {h : Nat → α → Option β} {x : α} {v : β} (hg : Tells g x) (hh : Tells (fun k => h k x) v) : Tells (fun k => (g k).bind (h k)) v := by
  obtain ⟨a, ha⟩ := hg
  obtain ⟨b, hb⟩ := hh
  exact ⟨max a b, fun k hk => by show (g k).bind (h k) = some v; rw [ha k (by omega), Option.bind_some]; exact hb k (by omega)⟩
theorem Tells.succ {α : Type} {g : Nat → Option α} {v : α} (h : Tells (fun k => g (k + 1)) v) : Tells g v := by
  obtain ⟨a, ha⟩ := h
  exact ⟨a + 1, fun k hk => by
    obtain ⟨j, rfl⟩ : ∃ j, k = j + 1 := ⟨k - 1, by omega⟩
    exact ha j (by omega)⟩
theorem Tells.ifT {α : Type} {p : Prop} [Decidable p] {f g : Nat → Option α} {v : α} (hp : p) (h : Tells f v) : Tells (fun k => if p then f k else g k) v := by
  obtain ⟨a, ha⟩ := h
  exact ⟨a, fun k hk => by show (if p then f k else g k) = some v; rw [if_pos hp]; exact ha k hk⟩
theorem Tells.ifF {α : Type} {p : Prop} [Decidable p] {f g : Nat → Option α} {v : α} (hp : ¬ p) (h : Tells g v) : Tells (fun k => if p then f k else g k) v := by
  obtain ⟨a, ha⟩ := h
  exact ⟨a, fun k hk => by show (if p then f k else g k) = some v; rw [if_neg hp]; exact ha k hk⟩
theorem w64 {n : Int} (h0 : -9223372036854775808 ≤ n) (h1 : n ≤ 9223372036854775807) : wrap64 n = n := by unfold wrap64; omega
theorem pre_lt {α : Type} (pre : List α) (x : α) (r : List α) : (pre.length : Int) < ((pre ++ x :: r).length : Int) := by rw [List.length_append, List.length_cons]; omega
theorem pre_nlt {α : Type} (pre : List α) : ¬ (pre.length : Int) < ((pre ++ []).length : Int) := by rw [List.length_append, List.length_nil]; omega
theorem pre_pos {α : Type} (pre : List α) : (0 : Int) ≤ (pre.length : Int) := Int.natCast_nonneg _
theorem getD_mid {α : Type} (pre : List α) (x z : α) (r : List α) : (pre ++ x :: r).getD ((pre.length : Int)).toNat z = x := by simp
theorem rdE_mid (pre : List S52) (x : S52) (r : List S52) : rd_T52 (pre ++ x :: r) (pre.length : Int) = x := getD_mid pre x _ r
theorem rdV_mid (pre : List S42) (x : S42) (r : List S42) : rd_T42 (pre ++ x :: r) (pre.length : Int) = x := getD_mid pre x _ r
theorem pre_next {α : Type} (pre : List α) (x : α) (r : List α) (h : (pre ++ x :: r).length ≤ 9223372036854775807) : wrap64 ((pre.length : Int) + 1) = ((pre ++ [x]).length : Int) := by
  rw [List.length_append, List.length_cons] at h
  rw [List.length_append, List.length_singleton, w64 (by omega) (by omega)]
  omega
theorem pre_app {α : Type} (pre : List α) (x : α) (r : List α) : pre ++ x :: r = (pre ++ [x]) ++ r := by simp
theorem E_ind {P : S52 → Prop} {Q : List S52 → Prop} (node : ∀ a b c l, Q l → P ⟨a, b, c, l⟩) (nil : Q []) (cons : ∀ x r, P x → Q r → Q (x :: r)) : (∀ x, P x) ∧ (∀ l, Q l) :=
  ⟨fun x => S52.rec (motive_1 := P) (motive_2 := Q) node nil cons x, fun l => S52.rec_1 (motive_1 := P) (motive_2 := Q) node nil cons l⟩
mutual
def eN : S52 → Nat
  | ⟨_, _, _, l⟩ => 1 + eNs l
def eNs : List S52 → Nat
  | [] => 0
  | x :: r => eN x + eNs r
end
mutual
def eD : S52 → Nat
  | ⟨_, _, _, l⟩ => eDs l + 1
def eDs : List S52 → Nat
  | [] => 0
  | x :: r => max (eD x) (eDs r)
end
def goodE : S52 → Prop := S52.rec (motive_1 := fun _ => Prop) (motive_2 := fun _ => Prop) (fun _ _ _ l q => l.length ≤ 9223372036854775807 ∧ q) True (fun _ _ p q => p ∧ q)
def goodEs : List S52 → Prop := S52.rec_1 (motive_1 := fun _ => Prop) (motive_2 := fun _ => Prop) (fun _ _ _ l q => l.length ≤ 9223372036854775807 ∧ q) True (fun _ _ p q => p ∧ q)
theorem goodEs_all : ∀ {l : List S52}, (∀ x ∈ l, goodE x) → goodEs l
  | [], _ => trivial
  | x :: r, h => ⟨h x (by simp), goodEs_all fun y hy => h y (by simp [hy])⟩
theorem eD_le : (∀ x, eD x ≤ eN x) ∧ (∀ l, eDs l ≤ eNs l) := by
  refine E_ind (fun a b c l h => ?_) (Nat.le_refl _) (fun x r h1 h2 => ?_)
  · simp only [eD, eN]; omega
  · simp only [eDs, eNs]; omega
theorem eN_pos : ∀ x, 1 ≤ eN x
  | ⟨_, _, _, _⟩ => by simp only [eN]; omega
def leftOf (m : Int) (n : Nat) : Int := if m < n then 0 else m - n
theorem leftOf_nonneg (m : Int) (n : Nat) : 0 ≤ leftOf m n := by unfold leftOf; split <;> omega
theorem leftOf_le {m : Int} (h : 0 ≤ m) (n : Nat) : leftOf m n ≤ m := by unfold leftOf; split <;> omega
theorem leftOf_zero {m : Int} (h0 : 0 ≤ m) (h : m < 1) (n : Nat) : leftOf m (1 + n) = 0 := by unfold leftOf; split <;> omega
theorem leftOf_succ {m : Int} (h : ¬ m < 1) (n : Nat) : leftOf m (1 + n) = leftOf (m - 1) n := by unfold leftOf; repeat' split <;> omega
theorem leftOf_nil {m : Int} (h0 : 0 ≤ m) : leftOf m 0 = m := by unfold leftOf; split <;> omega
theorem leftOf_add {m : Int} (h : 0 ≤ m) (a b : Nat) : leftOf (leftOf m a) b = leftOf m (a + b) := by unfold leftOf; repeat' split <;> omega
theorem left_tells : (∀ x, ∀ m : Int, goodE x → 0 ≤ m → m ≤ 1000000 → Tells (fun k => r2_Left.f k x.f0 x.f1 x.f2 x.f3 m) (leftOf m (eN x))) ∧
    (∀ suf, ∀ (pre : List S52) (m a b c : Int), goodEs suf → (pre ++ suf).length ≤ 9223372036854775807 → 0 ≤ m → m ≤ 1000000 → Tells (fun k => r2_Left.l0 k m (pre.length : Int) a b c (pre ++ suf)) (leftOf m (eNs suf))) := by
  refine E_ind (fun a b c l ih => ?_) ?_ (fun x r ih1 ih2 => ?_)
  · intro m hg h0 h1
    refine Tells.succ ?_
    simp only [r2_Left.f]
    by_cases hm : m < 1
    · simp only [hm, if_true]
      have : leftOf m (eN ⟨a, b, c, l⟩) = 0 := leftOf_zero h0 hm _
      rw [this]
      exact Tells.pure _
    · simp only [hm, if_false]
      rw [w64 (by omega) (by omega)]
      have h2 := ih [] (m - 1) a b c hg.2 hg.1 (by omega) (by omega)
      have : leftOf m (eN ⟨a, b, c, l⟩) = leftOf (m - 1) (eNs l) := leftOf_succ hm _
      rw [this]
      exact h2
  · intro pre m a b c _ _ h0 h1
    refine Tells.succ ?_
    simp only [r2_Left.l0, pre_nlt, if_false]
    have : leftOf m (eNs []) = m := leftOf_nil h0
    rw [this]
    exact Tells.pure _
  · intro pre m a b c hg hl h0 h1
    refine Tells.succ ?_
    simp only [r2_Left.l0, pre_lt, pre_pos, if_true, rdE_mid]
    refine Tells.bind (ih1 m hg.1 h0 h1) ?_
    have h2 := ih2 (pre ++ [x]) (leftOf m (eN x)) a b c hg.2 (by rw [← pre_app]; exact hl) (leftOf_nonneg _ _) (Int.le_trans (leftOf_le h0 _) h1)
    rw [leftOf_add h0, ← pre_app] at h2
    rw [pre_next pre x r hl]
    exact h2
theorem fitsE (x : S52) (m : Int) (hg : goodE x) (h0 : 0 ≤ m) (h1 : m ≤ 1000) : Tells (fun k => r2_Fits.f k x.f0 x.f1 x.f2 x.f3 m) (decide ((eN x : Int) ≤ m)) := by
  unfold r2_Fits.f
  rw [w64 (by omega) (by omega)]
  refine Tells.bind (left_tells.1 x (m + 1) hg (by omega) (by omega)) ?_
  have : decide (leftOf (m + 1) (eN x) > 0) = decide ((eN x : Int) ≤ m) := by
    apply decide_eq_decide.2
    unfold leftOf
    split <;> omega
  rw [this]
  exact Tells.pure _
theorem mx_nat (a b : Nat) : mx (a : Int) (b : Int) = ((max a b : Nat) : Int) := by unfold mx; split <;> omega
theorem depthE : (∀ x, goodE x → eN x ≤ 1000000 → Tells (fun k => r2_Depth.f k x.f0 x.f1 x.f2 x.f3) (eD x : Int)) ∧
    (∀ suf, ∀ (pre : List S52) (n : Nat) (a b c : Int), goodEs suf → (pre ++ suf).length ≤ 9223372036854775807 → eNs suf ≤ 1000000 → n ≤ 1000000 → Tells (fun k => r2_Depth.l0 k (n : Int) (pre.length : Int) a b c (pre ++ suf)) ((max n (eDs suf) + 1 : Nat) : Int)) := by
  refine E_ind (fun a b c l ih => ?_) ?_ (fun x r ih1 ih2 => ?_)
  · intro hg hn
    refine Tells.succ ?_
    simp only [r2_Depth.f]
    simp only [eN] at hn
    have h2 := ih [] 0 a b c hg.2 hg.1 (by omega) (by omega)
    have : (max 0 (eDs l) + 1 : Nat) = eD ⟨a, b, c, l⟩ := by simp only [eD]; omega
    rw [this] at h2
    exact h2
  · intro pre n a b c _ _ _ hn
    refine Tells.succ ?_
    simp only [r2_Depth.l0, pre_nlt, if_false, eDs]
    rw [w64 (by omega) (by omega)]
    have : ((n : Int) + 1) = ((max n 0 + 1 : Nat) : Int) := by omega
    rw [this]
    exact Tells.pure _
  · intro pre n a b c hg hl hs hn
    simp only [eNs] at hs
    refine Tells.succ ?_
    simp only [r2_Depth.l0, pre_lt, pre_pos, if_true, rdE_mid]
    refine Tells.bind (ih1 hg.1 (by omega)) ?_
    have hd := eD_le.1 x
    have h2 := ih2 (pre ++ [x]) (max n (eD x)) a b c hg.2 (by rw [← pre_app]; exact hl) (by omega) (by omega)
    rw [← pre_app] at h2
    rw [pre_next pre x r hl, mx_nat]
    have : max (max n (eD x)) (eDs r) = max n (eDs (x :: r)) := by simp only [eDs]; omega
    rw [this] at h2
    exact h2
theorem nodesE' : (∀ x, goodE x → eN x ≤ 1000000 → Tells (fun k => expr_Nodes.f k x.f0 x.f1 x.f2 x.f3) (eN x : Int)) ∧
    (∀ suf, ∀ (pre : List S52) (n : Nat), goodEs suf → (pre ++ suf).length ≤ 9223372036854775807 → n + eNs suf ≤ 1000000 → Tells (fun k => expr_Nodes.l0 k (n : Int) (pre ++ suf) ((pre ++ suf).length : Int) (pre.length : Int)) ((n + eNs suf : Nat) : Int)) := by
  refine E_ind (fun a b c l ih => ?_) ?_ (fun x r ih1 ih2 => ?_)
  · intro hg hn
    refine Tells.succ ?_
    simp only [expr_Nodes.f]
    simp only [eN] at hn
    exact ih [] 1 hg.2 hg.1 (by omega)
  · intro pre n _ _ hn
    refine Tells.succ ?_
    simp only [expr_Nodes.l0, pre_nlt, if_false, eNs]
    exact Tells.pure _
  · intro pre n hg hl hs
    simp only [eNs] at hs
    refine Tells.succ ?_
    simp only [expr_Nodes.l0, pre_lt, pre_pos, if_true, rdE_mid]
    refine Tells.bind (ih1 hg.1 (by omega)) ?_
    have h2 := ih2 (pre ++ [x]) (n + eN x) hg.2 (by rw [← pre_app]; exact hl) (by omega)
    rw [← pre_app] at h2
    rw [pre_next pre x r hl, w64 (by omega) (by omega)]
    have : n + eN x + eNs r = n + eNs (x :: r) := by simp only [eNs]; omega
    rw [this] at h2
    exact h2
def arVal (vars : List S42) (op n : Int) : Int :=
  if op = 0 then 0 else if op = 1 then (if 0 ≤ n ∧ n < (vars.length : Int) then (if (rd_T42 vars n).f2 > 1 then 1 else 0) else -1)
  else if (2 ≤ op ∧ op ≤ 11) ∨ op = 13 ∨ op = 14 then 2 else if op = 12 then 1 else if op = 15 then 3 else -1
theorem arity_tells (w : Int) (vars : List S42) (kk op n c : Int) (l : List S52) : Tells (fun k => expr_head_arity.f k w vars kk op n c l) (arVal vars op n) := by
  refine ⟨5, fun k hk => ?_⟩
  obtain ⟨j, rfl⟩ : ∃ j, k = j + 5 := ⟨k - 5, by omega⟩
  unfold arVal
  simp only [expr_head_arity.f, expr_head_arity.j0, expr_head_arity.j1, expr_head_arity.j2]
  by_cases o0 : op = 0
  · simp [o0]
  by_cases o1 : op = 1
  · subst o1
    by_cases hn0 : 0 ≤ n
    · by_cases hn1 : n < (vars.length : Int)
      · simp [hn0, hn1]
        split <;> rfl
      · simp [hn0, hn1]
    · simp [hn0]
  simp only [o0, o1, if_false]
  by_cases o2 : 2 ≤ op ∧ op ≤ 11
  · simp [o2, show op ≥ 2 from o2.1]
  · by_cases o3 : op = 13
    · subst o3; simp
    · by_cases o4 : op = 14
      · subst o4; simp
      · by_cases h2 : op ≥ 2
        · have h11 : ¬ op ≤ 11 := fun h => o2 ⟨h2, h⟩
          simp [h2, h11, o3, o4]
          by_cases o5 : op = 12
          · simp [o5]
          · by_cases o6 : op = 15 <;> simp [o5, o6]
        · have : ¬ 2 ≤ op := h2
          simp [this, o3, o4]
          have e1 : op ≠ 12 := by omega
          have e2 : op ≠ 15 := by omega
          simp [e1, e2]
def nodeIs (w : Int) (vars : List S42) (kk op n c len : Int) : Bool := decide (arVal vars op n = len) && nodeOk w kk op n c
theorem pow_le8 {w : Int} (h1 : 1 ≤ w) (h8 : w ≤ 8) : (1 : Int) ≤ 2 ^ w.toNat ∧ (2 : Int) ^ w.toNat ≤ 256 := by
  obtain ⟨n, rfl⟩ : ∃ n : Nat, w = n := ⟨w.toNat, by omega⟩
  rw [Int.toNat_natCast]
  have h := Nat.pow_le_pow_right (show 0 < 2 by decide) (show n ≤ 8 by omega)
  have h0 := Nat.pow_pos (n := n) (show 0 < 2 by decide)
  have e : ((2 : Int) ^ n) = ((2 ^ n : Nat) : Int) := by simp
  rw [e]
  omega
theorem pow_tells : ∀ (j : Nat) (i : Nat) (n : Nat), i + j = n → n ≤ 60 → Tells (fun k => r1_Pow.l0 k (n : Int) (2 ^ i : Int) (i : Int)) (2 ^ n : Int)
  | 0, i, n, h, hn => by
    refine Tells.succ ?_
    have : ¬ (i : Int) < (n : Int) := by omega
    simp only [r1_Pow.l0, this, if_false]
    have : i = n := by omega
    rw [this]
    exact Tells.pure _
  | j + 1, i, n, h, hn => by
    refine Tells.succ ?_
    have hlt : (i : Int) < (n : Int) := by omega
    have hp : (2 : Int) ^ (i + 1) ≤ 1152921504606846976 := by
      have h := Nat.pow_le_pow_right (show 0 < 2 by decide) (show i + 1 ≤ 60 by omega)
      have e : ((2 : Int) ^ (i + 1)) = ((2 ^ (i + 1) : Nat) : Int) := by simp
      rw [e]
      have : (2 : Nat) ^ 60 = 1152921504606846976 := by decide
      omega
    have h0 : (0 : Int) ≤ 2 ^ (i + 1) := Int.pow_nonneg (by decide)
    have e : (2 : Int) * 2 ^ i = 2 ^ (i + 1) := by rw [Int.pow_succ, Int.mul_comm]
    simp only [r1_Pow.l0, hlt, if_true]
    rw [w64 (n := (i : Int) + 1) (by omega) (by omega), e, w64 (by omega) (by omega)]
    exact pow_tells j (i + 1) n (by omega) hn
theorem Pow_tells (n : Int) (h0 : 0 ≤ n) (h : n ≤ 60) : Tells (fun k => r1_Pow.f k n) (2 ^ n.toNat) := by
  obtain ⟨m, rfl⟩ : ∃ m : Nat, n = m := ⟨n.toNat, by omega⟩
  exact pow_tells m 0 m (by omega) (by omega)
theorem Word_tells (w a : Int) (h1 : 1 ≤ w) (h8 : w ≤ 8) : Tells (fun k => r1_Word.f k w a) (decide (0 ≤ a ∧ a < 2 ^ w.toNat)) := by
  unfold r1_Word.f r1_Width.f
  have : w ≥ 1 := h1
  simp only [this, if_true, h8, decide_true, Option.bind_some]
  by_cases h : a ≥ 0
  · have : decide (0 ≤ a ∧ a < 2 ^ w.toNat) = decide (a < 2 ^ w.toNat) := by
      apply decide_eq_decide.2
      exact ⟨fun h => h.2, fun h' => ⟨h, h'⟩⟩
    rw [this]
    simp only [h, if_true]
    exact Tells.bind (Pow_tells w (by omega) (by omega)) (Tells.pure _)
  · have : decide (0 ≤ a ∧ a < 2 ^ w.toNat) = false := by
      apply decide_eq_false
      exact fun h' => h h'.1
    rw [this]
    simp only [h, if_false]
    exact Tells.pure _
theorem nodeOk_eq (w kk op n c : Int) (h1 : 1 ≤ w) (h8 : w ≤ 8) : nodeOk w kk op n c = if op = 0 then decide (c = 0) && decide (0 ≤ n ∧ n < 2 ^ w.toNat) else if op = 1 then decide (0 ≤ c ∧ c < kk) else decide (c = 0) && decide (n = 0) := by
  have hp := pow_le8 h1 h8
  unfold nodeOk
  rw [w64 (by omega) (by omega)]
  generalize (2 : Int) ^ w.toNat = p
  by_cases o0 : op = 0
  · simp only [o0, if_true]
    by_cases a1 : n < 0
    · have : ¬ (0 ≤ n ∧ n < p) := by omega
      simp [a1, this]
    · by_cases a2 : p ≤ n
      · have : ¬ (0 ≤ n ∧ n < p) := by omega
        simp [a1, a2, this]
      · have : (0 ≤ n ∧ n < p) := by omega
        by_cases a3 : c = 0 <;> simp [a1, a2, a3, this]
  · by_cases o1 : op = 1
    · subst o1
      by_cases a1 : c < 0
      · have : ¬ (0 ≤ c ∧ c < kk) := by omega
        simp [a1, this]
      · by_cases a2 : kk ≤ c
        · have : ¬ (0 ≤ c ∧ c < kk) := by omega
          simp [a1, a2, this]
        · have : (0 ≤ c ∧ c < kk) := by omega
          simp [a1, a2, this]
    · simp only [o0, o1, if_false]
      by_cases a1 : n = 0 <;> by_cases a2 : c = 0 <;> simp [a1, a2]
theorem node_tells (w : Int) (vars : List S42) (kk op n c : Int) (l : List S52) (h1 : 1 ≤ w) (h8 : w ≤ 8) : Tells (fun k => r2_node.f k w vars kk op n c l) (nodeIs w vars kk op n c (l.length : Int)) := by
  unfold nodeIs
  rw [nodeOk_eq w kk op n c h1 h8]
  unfold r2_node.f
  by_cases o1 : op = 1
  · subst o1
    simp only [if_true]
    by_cases a1 : n < 0
    · have e : ¬ (0 ≤ n ∧ n < (vars.length : Int)) := by omega
      have e2 : ¬ ((-1 : Int) = (l.length : Int)) := by omega
      simp only [a1, if_true, arVal, e, if_false]
      simp [e2]
      exact Tells.pure _
    · by_cases a2 : n ≥ (vars.length : Int)
      · have e : ¬ (0 ≤ n ∧ n < (vars.length : Int)) := by omega
        have e2 : ¬ ((-1 : Int) = (l.length : Int)) := by omega
        simp only [a1, a2, if_true, arVal, e, if_false]
        simp [e2]
        exact Tells.pure _
      · have e : (0 ≤ n ∧ n < (vars.length : Int)) := by omega
        by_cases a3 : c < 0
        · have e3 : ¬ (0 ≤ c ∧ c < kk) := by omega
          simp [a1, a2, a3, e3]
          exact Tells.pure _
        · by_cases a4 : c ≥ kk
          · have e3 : ¬ (0 ≤ c ∧ c < kk) := by omega
            simp [a1, a2, a3, a4, e3]
            exact Tells.pure _
          · have e3 : (0 ≤ c ∧ c < kk) := by omega
            simp only [a1, a2, a3, a4, e.1, e.2, if_true, if_false, r1_One.f, arVal, e, e3]
            by_cases a5 : (rd_T42 vars n).f2 > 1
            · refine ⟨0, fun k _ => ?_⟩
              simp only [a5, decide_true, if_true, Option.bind_some, and_self, show ¬ ((1 : Int) = 0) by decide, if_false, Bool.and_true]
              congr 1
              rw [Bool.eq_iff_iff, beq_iff_eq, decide_eq_true_iff]
              exact eq_comm
            · refine ⟨0, fun k _ => ?_⟩
              simp only [a5, decide_true, decide_false, Bool.false_eq_true, if_true, Option.bind_some, and_self, show ¬ ((1 : Int) = 0) by decide, if_false, Bool.and_true]
              congr 1
              rw [Bool.eq_iff_iff, beq_iff_eq, decide_eq_true_iff]
              exact eq_comm
  · simp only [o1, if_false]
    by_cases a1 : c = 0
    · refine Tells.ifT a1 ?_
      have har : r2_args.f op = some (arVal vars op n) := by
        unfold r2_args.f r1_Two.f arVal
        by_cases o0 : op = 0
        · simp [o0]
        by_cases o2 : op = 12
        · subst o2; simp
        by_cases o3 : op = 15
        · subst o3; simp
        by_cases o4 : op = 13
        · subst o4; simp
        by_cases o5 : op = 14
        · subst o5; simp
        by_cases a : op ≥ 2
        · by_cases b : op ≤ 11
          · have : (2 ≤ op ∧ op ≤ 11) := ⟨a, b⟩
            simp [o0, o1, o2, o3, o4, o5, this]
          · have : ¬ (2 ≤ op ∧ op ≤ 11) := by omega
            simp [o0, o1, o2, o3, o4, o5, a, b]
        · have : ¬ (2 ≤ op ∧ op ≤ 11) := by omega
          simp [o0, o1, o2, o3, o4, o5, a]
      simp only [har, Option.bind_some, o1, if_false]
      have hc : decide (c = 0) = true := decide_eq_true a1
      rw [hc]
      simp only [Bool.true_and]
      refine Tells.succ ?_
      simp only [r2_node.j0]
      by_cases b1 : arVal vars op n = (l.length : Int)
      · have hb : ((l.length : Int) != arVal vars op n) = false := by rw [b1]; simp
        simp only [hb, Bool.false_eq_true, if_false]
        rw [decide_eq_true b1, Bool.true_and]
        by_cases o0 : op = 0
        · simp only [o0, if_true]
          exact Tells.bind (h := fun k t => some t) (Word_tells w n h1 h8) (Tells.pure _)
        · simp only [o0, if_false]
          have e : (n == 0) = decide (n = 0) := by rw [Bool.eq_iff_iff, beq_iff_eq, decide_eq_true_iff]
          rw [e]
          exact Tells.pure _
      · have hb : ((l.length : Int) != arVal vars op n) = true := bne_iff_ne.2 (fun e => b1 e.symm)
        simp only [hb, if_true]
        rw [decide_eq_false b1, Bool.false_and]
        exact Tells.pure _
    · refine Tells.ifF a1 ?_
      have hc : decide (c = 0) = false := decide_eq_false a1
      rw [hc]
      refine Tells.succ ?_
      simp only [r2_node.j0, if_true, Bool.false_and]
      have : (if op = 0 then false else false) = false := by split <;> rfl
      rw [this, Bool.and_false]
      exact Tells.pure _
theorem Tells.ifB {b : Bool} {f : Nat → Option Bool} {v : Bool} (h : Tells f v) : Tells (fun k => if b = true then f k else some false) (b && v) := by
  cases b
  · exact Tells.pure false
  · exact h
theorem Tells.id' {g : Nat → Option Bool} {v : Bool} (h : Tells g v) : Tells (fun k => (g k).bind fun t => some t) v := Tells.bind (h := fun _ t => some t) h (Tells.pure v)
def okInt : Bool → Int → Int
  | true, _ => 0
  | false, e => e
mutual
def eOK (w : Int) (vars : List S42) (kk : Int) : S52 → Bool
  | ⟨a, b, c, l⟩ => nodeIs w vars kk a b c (l.length : Int) && eOKs w vars kk l
def eOKs (w : Int) (vars : List S42) (kk : Int) : List S52 → Bool
  | [] => true
  | x :: r => eOK w vars kk x && eOKs w vars kk r
end
theorem form_tells (w : Int) (vars : List S42) (kk : Int) (h1 : 1 ≤ w) (h8 : w ≤ 8) : (∀ x, goodE x → Tells (fun k => r2_form.f k w vars kk x.f0 x.f1 x.f2 x.f3) (eOK w vars kk x)) ∧
    (∀ suf, ∀ (pre : List S52) (a b c : Int), goodEs suf → (pre ++ suf).length ≤ 9223372036854775807 → Tells (fun k => r2_form.l0 k w vars kk (pre.length : Int) a b c (pre ++ suf)) (eOKs w vars kk suf)) := by
  refine E_ind (fun a b c l ih => ?_) ?_ (fun x r ih1 ih2 => ?_)
  · intro hg
    refine Tells.succ ?_
    simp only [r2_form.f, eOK]
    exact Tells.bind (node_tells w vars kk a b c l h1 h8) (Tells.ifB (ih [] a b c hg.2 hg.1))
  · intro pre a b c _ _
    refine Tells.succ ?_
    simp only [r2_form.l0, pre_nlt, if_false, eOKs]
    exact Tells.pure _
  · intro pre a b c hg hl
    refine Tells.succ ?_
    simp only [r2_form.l0, pre_lt, pre_pos, if_true, rdE_mid, eOKs]
    refine Tells.bind (ih1 hg.1) (Tells.ifB ?_)
    rw [pre_next pre x r hl]
    have h2 := ih2 (pre ++ [x]) a b c hg.2 (by rw [← pre_app]; exact hl)
    rw [← pre_app] at h2
    exact h2
def eIs (w : Int) (vars : List S42) (kk : Int) (x : S52) : Bool := decide (eN x ≤ 400) && (decide (eD x ≤ 16) && eOK w vars kk x)
theorem Is_tells (w : Int) (vars : List S42) (kk : Int) (h1 : 1 ≤ w) (h8 : w ≤ 8) (x : S52) (hg : goodE x) : Tells (fun k => r2_Is.f k w vars kk x.f0 x.f1 x.f2 x.f3) (eIs w vars kk x) := by
  unfold r2_Is.f eIs
  have hf := fitsE x 400 hg (by decide) (by decide)
  have e : decide ((eN x : Int) ≤ 400) = decide (eN x ≤ 400) := decide_eq_decide.2 (by omega)
  rw [e] at hf
  refine Tells.bind hf ?_
  by_cases hn : eN x ≤ 400
  · simp only [hn, decide_true, if_true, Bool.true_and]
    refine Tells.bind (depthE.1 x hg (by omega)) ?_
    by_cases hd : eD x ≤ 16
    · have hd' : (eD x : Int) ≤ 16 := by omega
      simp only [hd, hd', decide_true, if_true, Bool.true_and]
      exact Tells.id' ((form_tells w vars kk h1 h8).1 x hg)
    · have hd' : ¬ (eD x : Int) ≤ 16 := by omega
      simp only [hd, hd', decide_false, if_false, Bool.false_and]
      exact Tells.pure _
  · simp only [hn, decide_false, if_false, Bool.false_and, Bool.false_eq_true]
    exact Tells.pure _
def fineB (w : Int) (vars : List S42) (kk : Int) (x : S52) (deep left : Int) : Bool := decide ((eN x : Int) ≤ left) && (decide (deep + eD x ≤ 17) && eOK w vars kk x)
def fineBs (w : Int) (vars : List S42) (kk : Int) (l : List S52) (deep left : Int) : Bool := decide ((eNs l : Int) ≤ left) && (decide (deep + 1 + eDs l ≤ 17) && eOKs w vars kk l)
theorem fine_tells (w : Int) (vars : List S42) (kk : Int) (h1 : 1 ≤ w) (h8 : w ≤ 8) :
    (∀ x, ∀ deep left : Int, goodE x → 1 ≤ deep → deep ≤ 17 → 0 ≤ left → left ≤ 400 → ∃ l', Tells (fun k => expr_head_fine.f k w vars kk x.f0 x.f1 x.f2 x.f3 deep left) (fineB w vars kk x deep left, l') ∧ (fineB w vars kk x deep left = true → l' = left - eN x)) ∧
    (∀ suf, ∀ (pre : List S52) (deep left : Int), goodEs suf → (pre ++ suf).length ≤ 9223372036854775807 → 1 ≤ deep → deep ≤ 16 → 0 ≤ left → left ≤ 400 →
      ∃ l', Tells (fun k => expr_head_fine.l0 k w vars kk (pre ++ suf) deep (pre.length : Int) left) (fineBs w vars kk suf deep left, l') ∧ (fineBs w vars kk suf deep left = true → l' = left - eNs suf)) := by
  refine E_ind (fun a b c l ih => ?_) ?_ (fun x r ih1 ih2 => ?_)
  · intro deep left hg d1 d17 l0 l400
    by_cases hl : left = 0
    · have e : fineB w vars kk ⟨a, b, c, l⟩ deep left = false := by
        unfold fineB
        rw [decide_eq_false (by simp only [eN]; omega), Bool.false_and]
      rw [e]
      refine ⟨-1, Tells.succ ?_, fun h => absurd h (by decide)⟩
      subst hl
      simp only [expr_head_fine.f, show wrap64 (0 - 1) = -1 from w64 (by decide) (by decide)]
      exact Tells.ifT (by decide) (Tells.pure _)
    · have hw : wrap64 (left - 1) = left - 1 := w64 (by omega) (by omega)
      by_cases hd : 16 < deep
      · have e : fineB w vars kk ⟨a, b, c, l⟩ deep left = false := by
          unfold fineB
          rw [decide_eq_false (p := deep + ↑(eD ⟨a, b, c, l⟩) ≤ 17) (by simp only [eD]; omega), Bool.false_and, Bool.and_false]
        rw [e]
        refine ⟨left - 1, Tells.succ ?_, fun h => absurd h (by decide)⟩
        simp only [expr_head_fine.f, hw]
        exact Tells.ifF (by omega) (Tells.ifT hd (Tells.pure _))
      · have e : fineB w vars kk ⟨a, b, c, l⟩ deep left = (nodeIs w vars kk a b c (l.length : Int) && fineBs w vars kk l deep (left - 1)) := by
          unfold fineB fineBs
          have n1 : eN ⟨a, b, c, l⟩ = 1 + eNs l := by simp only [eN]
          have n2 : eD ⟨a, b, c, l⟩ = eDs l + 1 := by simp only [eD]
          have n3 : eOK w vars kk ⟨a, b, c, l⟩ = (nodeIs w vars kk a b c (l.length : Int) && eOKs w vars kk l) := by simp only [eOK]
          rw [decide_eq_decide.2 (show ((eN ⟨a, b, c, l⟩ : Int) ≤ left) ↔ ((eNs l : Int) ≤ left - 1) by omega), decide_eq_decide.2 (show (deep + (eD ⟨a, b, c, l⟩ : Int) ≤ 17) ↔ (deep + 1 + (eDs l : Int) ≤ 17) by omega), n3]
          cases decide ((eNs l : Int) ≤ left - 1) <;> cases decide (deep + 1 + (eDs l : Int) ≤ 17) <;> cases nodeIs w vars kk a b c (l.length : Int) <;> rfl
        rw [e]
        obtain ⟨l', t, q⟩ := ih [] deep (left - 1) hg.2 hg.1 d1 (by omega) (by omega) (by omega)
        by_cases hn : nodeIs w vars kk a b c (l.length : Int) = true
        · refine ⟨l', Tells.succ ?_, fun h => ?_⟩
          · simp only [expr_head_fine.f, hw]
            refine Tells.ifF (by omega) (Tells.ifF hd ?_)
            refine Tells.bind (arity_tells w vars kk a b c l) ?_
            unfold nodeIs at hn
            rw [Bool.and_eq_true, decide_eq_true_eq] at hn
            refine Tells.ifT hn.1 (Tells.ifT hn.2 ?_)
            have : nodeIs w vars kk a b c (l.length : Int) = true := by unfold nodeIs; rw [hn.2, decide_eq_true hn.1]; rfl
            rw [this, Bool.true_and]
            exact t
          · rw [hn, Bool.true_and] at h
            have := q h
            simp only [eN]
            omega
        · have hn' := Bool.eq_false_iff.2 hn
          refine ⟨left - 1, Tells.succ ?_, fun h => by rw [hn', Bool.false_and] at h; cases h⟩
          rw [hn', Bool.false_and]
          simp only [expr_head_fine.f, hw]
          refine Tells.ifF (by omega) (Tells.ifF hd ?_)
          refine Tells.bind (arity_tells w vars kk a b c l) ?_
          by_cases ha : arVal vars a b = (l.length : Int)
          · refine Tells.ifT ha (Tells.ifF ?_ (Tells.pure _))
            intro hk
            apply hn
            unfold nodeIs
            rw [hk, decide_eq_true ha]
            rfl
          · exact Tells.ifF ha (Tells.pure _)
  · intro pre deep left _ _ d1 d16 l0 l400
    have e : fineBs w vars kk [] deep left = true := by
      unfold fineBs
      have n1 : eNs [] = 0 := by simp only [eNs]
      have n2 : eDs [] = 0 := by simp only [eDs]
      rw [decide_eq_true (p := (eNs [] : Int) ≤ left) (by omega), decide_eq_true (p := deep + 1 + (eDs [] : Int) ≤ 17) (by omega)]
      simp only [eOKs]
      rfl
    rw [e]
    refine ⟨left, Tells.succ ?_, fun _ => by simp only [eNs]; omega⟩
    simp only [expr_head_fine.l0, pre_nlt, if_false]
    exact Tells.pure _
  · intro pre deep left hg hl d1 d16 l0 l400
    obtain ⟨m, t1, q1⟩ := ih1 (deep + 1) left hg.1 (by omega) (by omega) l0 l400
    by_cases hb : fineB w vars kk x (deep + 1) left = true
    · have hm := q1 hb
      have hc := hb
      unfold fineB at hc
      simp only [Bool.and_eq_true, decide_eq_true_eq] at hc
      obtain ⟨c1, c2, c3⟩ := hc
      have e : fineBs w vars kk (x :: r) deep left = fineBs w vars kk r deep m := by
        unfold fineBs
        have n1 : eNs (x :: r) = eN x + eNs r := by simp only [eNs]
        have n2 : eDs (x :: r) = max (eD x) (eDs r) := by simp only [eDs]
        have n3 : eOKs w vars kk (x :: r) = eOKs w vars kk r := by simp only [eOKs, c3, Bool.true_and]
        rw [decide_eq_decide.2 (show ((eNs (x :: r) : Int) ≤ left) ↔ ((eNs r : Int) ≤ m) by omega), decide_eq_decide.2 (show (deep + 1 + (eDs (x :: r) : Int) ≤ 17) ↔ (deep + 1 + (eDs r : Int) ≤ 17) by omega), n3]
      rw [e]
      obtain ⟨l', t2, q2⟩ := ih2 (pre ++ [x]) deep m hg.2 (by rw [← pre_app]; exact hl) d1 d16 (by omega) (by omega)
      rw [← pre_app] at t2
      refine ⟨l', Tells.succ ?_, fun h => by have := q2 h; simp only [eNs]; omega⟩
      simp only [expr_head_fine.l0, pre_lt, pre_pos, if_true, rdE_mid]
      rw [w64 (n := deep + 1) (by omega) (by omega), pre_next pre x r hl]
      refine Tells.bind t1 ?_
      rw [hb]
      exact t2
    · have hb' := Bool.eq_false_iff.2 hb
      have e : fineBs w vars kk (x :: r) deep left = false := by
        rw [Bool.eq_false_iff]
        intro h
        apply hb
        unfold fineBs at h
        unfold fineB
        have n1 : eNs (x :: r) = eN x + eNs r := by simp only [eNs]
        have n2 : eDs (x :: r) = max (eD x) (eDs r) := by simp only [eDs]
        simp only [Bool.and_eq_true, decide_eq_true_eq] at h ⊢
        obtain ⟨q1, q2, q3⟩ := h
        simp only [eOKs, Bool.and_eq_true] at q3
        exact ⟨by omega, by omega, q3.1⟩
      rw [e]
      refine ⟨m, Tells.succ ?_, fun h => absurd h (by decide)⟩
      simp only [expr_head_fine.l0, pre_lt, pre_pos, if_true, rdE_mid]
      rw [w64 (n := deep + 1) (by omega) (by omega)]
      refine Tells.bind t1 ?_
      rw [hb']
      exact Tells.pure _
theorem Check_tells (w : Int) (vars : List S42) (kk : Int) (h1 : 1 ≤ w) (h8 : w ≤ 8) (k1 : 1 ≤ kk) (k3 : kk ≤ 3) (hh : Tells (fun k => expr_Heading.f k w vars) 0) (x : S52) (hg : goodE x) :
    Tells (fun k => expr_Check.f k w vars kk x.f0 x.f1 x.f2 x.f3) (okInt (eIs w vars kk x) 20) := by
  unfold expr_Check.f
  refine Tells.bind (x := okInt (eIs w vars kk x) 20) ?_ (Tells.pure _)
  unfold expr_head_check.f
  refine Tells.bind hh (Tells.ifT rfl (Tells.ifF (by omega) (Tells.ifF (by omega) ?_)))
  obtain ⟨l', t, _⟩ := (fine_tells w vars kk h1 h8).1 x 1 400 hg (by decide) (by decide) (by decide) (by decide)
  refine Tells.bind t ?_
  have e : fineB w vars kk x 1 400 = eIs w vars kk x := by
    unfold fineB eIs
    rw [decide_eq_decide.2 (show ((eN x : Int) ≤ 400) ↔ (eN x ≤ 400) by omega), decide_eq_decide.2 (show ((1 : Int) + eD x ≤ 17) ↔ (eD x ≤ 16) by omega)]
  rw [e]
  by_cases h : eIs w vars kk x = true
  · rw [h]; exact Tells.pure _
  · rw [Bool.eq_false_iff.2 h]; exact Tells.pure _
def r2_Find.l0 : Nat → List (S42) → ByteArray → Int → Option (Int)
 | 0, _, _, _ => none
 | k + 1, x0, x1, x5 => if x5 < (x0.length : Int) then (if 0 ≤ x5 then (if ((rd_T42 x0 x5).f0).toList = x1.toList then (some x5) else (r2_Find.l0 k x0 x1 (wrap64 (x5 + 1)))) else (none)) else (some (-1))
def r2_Find.f (k : Nat) (l0 : List (S42)) (a1 : ByteArray) : Option (Int) := r2_Find.l0 k l0 a1 0
theorem r2_Find.calls (k : Nat) (A0 : Option Addr) (c0 : Nat) (l0 : List (S42)) (a1 : ByteArray) (r : Int) (w : World) (hr0 : Kd.C k42 w A0 l0.length l0) (hc0 : l0.length ≤ c0) (h : r2_Find.f k l0 a1 = some r) :
  Calls Try.prog 28 #[.slice A0 l0.length c0, .string a1] w fun e w' => e = .returned (.int .i64 r) ∧ Drawn0 w w' := by
 have HR0 := Aside0.mk hr0
 have HC0 := Aside0.mk hc0
 clear hr0 hc0
 have H : (r2_Find.l0 k l0 a1 0) = some r := h
 clear h
 have H' := Aside0.mk H
 clear H
 go_enter Try.func28, Try.ntmps28
 go_wp2
 go_loopg [5] k (fun kq v5 w' => ∃ (x5_1 : Int), v5 = .int .i64 x5_1 ∧ Aside0 (r2_Find.l0 kq l0 a1 x5_1 = some r) ∧ Aside0 (kq ≤ k) ∧ Drawn0 w w')
 case atStart => exact ⟨(0), rs, H', ⟨Nat.le_refl _⟩, dr⟩
 case round =>
  clear H'
  try clear c2
  try clear p2
  obtain ⟨x5_1, rfl, HA, HK1, ⟨m1, rfl⟩⟩ := hrel
  cases gk with
  | zero => exact absurd HA.out (by simp [r2_Find.l0])
  | succ k1 =>
   have H := HA.out
   clear HA
   simp only [r2_Find.l0] at H
   by_cases c3 : x5_1 < (l0.length : Int)
   rotate_left
   ·rw [if_neg c3] at H
    have c3b0 : decide (x5_1 < (l0.length : Int)) = false := decide_eq_false c3
    clear c3
    obtain rfl := Option.some.inj H
    go_wp2
    go_ret
    exact ⟨rs, dr⟩
   rw [if_pos c3] at H
   have c3b0 : decide (x5_1 < (l0.length : Int)) = true := decide_eq_true c3
   clear c3
   by_cases c4 : 0 ≤ x5_1
   rotate_left
   ·rw [if_neg c4] at H
    exact absurd H (by simp)
   rw [if_pos c4] at H
   have c4b0 : decide (0 ≤ x5_1) = true := decide_eq_true c4
   clear c4
   by_cases c5 : ((rd_T42 l0 x5_1).f0).toList = a1.toList
   ·rw [if_pos c5] at H
    have c5b0 : (((rd_T42 l0 x5_1).f0).toList == a1.toList) = true := beq_iff_eq.mpr c5
    have c5b1 : (((rd_T42 l0 x5_1).f0).toList != a1.toList) = false := bne_eq_false_iff_eq.mpr c5
    clear c5
    obtain rfl := Option.some.inj H
    have p105 : 0 ≤ (x5_1 : Int) := od
    have q105 : x5_1 < (l0.length : Int) := od
    obtain ⟨ad105, e105, hx105_0, hx105_1, hx105_2⟩ := at_T42 HR0.out x5_1 p105 q105
    cases e105
    replace p105 := eq_true p105
    replace q105 := eq_true q105
    go_wp2
    go_ret
    exact ⟨rs, dr⟩
   rw [if_neg c5] at H
   have c5b0 : (((rd_T42 l0 x5_1).f0).toList == a1.toList) = false := beq_eq_false_iff_ne.mpr c5
   have c5b1 : (((rd_T42 l0 x5_1).f0).toList != a1.toList) = true := bne_iff_ne.mpr c5
   have H' := Aside0.mk H
   clear H
   have p105 : 0 ≤ (x5_1 : Int) := od
   have q105 : x5_1 < (l0.length : Int) := od
   obtain ⟨ad105, e105, hx105_0, hx105_1, hx105_2⟩ := at_T42 HR0.out x5_1 p105 q105
   cases e105
   replace p105 := eq_true p105
   replace q105 := eq_true q105
   go_wp2
   go_roundg k1
   case measure => have := HK1.out; omega
   case rel => exact ⟨(wrap64 (x5_1 + 1)), rs, H', ⟨by have := HK1.out; omega⟩, dr⟩
def r2_digit.f (a0 : Int) : Option (Bool) := if a0 ≥ 48 then (some (decide (a0 ≤ 57))) else (some false)
theorem r2_digit.calls (a0 : Int) (r : Bool) (w : World) (h : r2_digit.f a0 = some r) :
  Calls Try.prog 43 #[.int .u8 a0] w fun e w' => e = .returned (.bool r) ∧ Drawn0 w w' := by
 have H : (if a0 ≥ 48 then (some (decide (a0 ≤ 57))) else (some false)) = some r := h
 clear h
 by_cases c2 : a0 ≥ 48
 ·rw [if_pos c2] at H
  have c2b0 : decide (48 ≤ a0) = true := decide_eq_true c2
  clear c2
  obtain rfl := Option.some.inj H
  go_enter Try.func43, Try.ntmps43
  go_wp2
  go_ret
  exact ⟨rs, dr⟩
 rw [if_neg c2] at H
 have c2b0 : decide (48 ≤ a0) = false := decide_eq_false c2
 clear c2
 obtain rfl := Option.some.inj H
 go_enter Try.func43, Try.ntmps43
 go_wp2
 go_ret
 exact ⟨rs, dr⟩
def r2_letter.f (a0 : Int) : Option (Bool) := if a0 ≥ 97 then (some (decide (a0 ≤ 122))) else (some false)
theorem r2_letter.calls (a0 : Int) (r : Bool) (w : World) (h : r2_letter.f a0 = some r) :
  Calls Try.prog 41 #[.int .u8 a0] w fun e w' => e = .returned (.bool r) ∧ Drawn0 w w' := by
 have H : (if a0 ≥ 97 then (some (decide (a0 ≤ 122))) else (some false)) = some r := h
 clear h
 by_cases c2 : a0 ≥ 97
 ·rw [if_pos c2] at H
  have c2b0 : decide (97 ≤ a0) = true := decide_eq_true c2
  clear c2
  obtain rfl := Option.some.inj H
  go_enter Try.func41, Try.ntmps41
  go_wp2
  go_ret
  exact ⟨rs, dr⟩
 rw [if_neg c2] at H
 have c2b0 : decide (97 ≤ a0) = false := decide_eq_false c2
 clear c2
 obtain rfl := Option.some.inj H
 go_enter Try.func41, Try.ntmps41
 go_wp2
 go_ret
 exact ⟨rs, dr⟩
def r2_Taken.f (a0 : ByteArray) : Option (Bool) := if a0.toList = ([119, 105, 100, 116, 104] : List UInt8) then (some true) else (if a0.toList = ([118, 97, 114] : List UInt8) then (some true) else (if a0.toList = ([105, 102] : List UInt8) then (some true) else (if a0.toList = ([101, 108, 115, 101] : List UInt8) then (some true) else (if a0.toList = ([119, 104, 105, 108, 101] : List UInt8) then (some true) else (if a0.toList = ([111, 117, 116] : List UInt8) then (some true) else (if a0.toList = ([112, 105, 99, 107] : List UInt8) then (some true) else (if a0.toList = ([110, 101, 101, 100] : List UInt8) then (some true) else (if a0.toList = ([109, 117, 115, 116] : List UInt8) then (some true) else (if a0.toList = ([108, 101, 118, 101, 108] : List UInt8) then (some true) else (if a0.toList = ([115, 101, 101, 115] : List UInt8) then (some true) else (some false)))))))))))
theorem r2_Taken.calls (a0 : ByteArray) (r : Bool) (w : World) (h : r2_Taken.f a0 = some r) :
  Calls Try.prog 42 #[.string a0] w fun e w' => e = .returned (.bool r) ∧ Drawn0 w w' := by
 have H : (if a0.toList = ([119, 105, 100, 116, 104] : List UInt8) then (some true) else (if a0.toList = ([118, 97, 114] : List UInt8) then (some true) else (if a0.toList = ([105, 102] : List UInt8) then (some true) else (if a0.toList = ([101, 108, 115, 101] : List UInt8) then (some true) else (if a0.toList = ([119, 104, 105, 108, 101] : List UInt8) then (some true) else (if a0.toList = ([111, 117, 116] : List UInt8) then (some true) else (if a0.toList = ([112, 105, 99, 107] : List UInt8) then (some true) else (if a0.toList = ([110, 101, 101, 100] : List UInt8) then (some true) else (if a0.toList = ([109, 117, 115, 116] : List UInt8) then (some true) else (if a0.toList = ([108, 101, 118, 101, 108] : List UInt8) then (some true) else (if a0.toList = ([115, 101, 101, 115] : List UInt8) then (some true) else (some false)))))))))))) = some r := h
 clear h
 by_cases c2 : a0.toList = ([119, 105, 100, 116, 104] : List UInt8)
 ·rw [if_pos c2] at H
  have c2b0 : (a0.toList == ([119, 105, 100, 116, 104] : List UInt8)) = true := beq_iff_eq.mpr c2
  have c2b1 : (a0.toList != ([119, 105, 100, 116, 104] : List UInt8)) = false := bne_eq_false_iff_eq.mpr c2
  clear c2
  obtain rfl := Option.some.inj H
  go_enter Try.func42, Try.ntmps42
  go_wp2
  go_ret
  exact ⟨rs, dr⟩
 rw [if_neg c2] at H
 have c2b0 : (a0.toList == ([119, 105, 100, 116, 104] : List UInt8)) = false := beq_eq_false_iff_ne.mpr c2
 have c2b1 : (a0.toList != ([119, 105, 100, 116, 104] : List UInt8)) = true := bne_iff_ne.mpr c2
 by_cases c3 : a0.toList = ([118, 97, 114] : List UInt8)
 ·rw [if_pos c3] at H
  have c3b0 : (a0.toList == ([118, 97, 114] : List UInt8)) = true := beq_iff_eq.mpr c3
  have c3b1 : (a0.toList != ([118, 97, 114] : List UInt8)) = false := bne_eq_false_iff_eq.mpr c3
  clear c3
  obtain rfl := Option.some.inj H
  go_enter Try.func42, Try.ntmps42
  go_wp2
  go_ret
  exact ⟨rs, dr⟩
 rw [if_neg c3] at H
 have c3b0 : (a0.toList == ([118, 97, 114] : List UInt8)) = false := beq_eq_false_iff_ne.mpr c3
 have c3b1 : (a0.toList != ([118, 97, 114] : List UInt8)) = true := bne_iff_ne.mpr c3
 by_cases c4 : a0.toList = ([105, 102] : List UInt8)
 ·rw [if_pos c4] at H
  have c4b0 : (a0.toList == ([105, 102] : List UInt8)) = true := beq_iff_eq.mpr c4
  have c4b1 : (a0.toList != ([105, 102] : List UInt8)) = false := bne_eq_false_iff_eq.mpr c4
  clear c4
  obtain rfl := Option.some.inj H
  go_enter Try.func42, Try.ntmps42
  go_wp2
  go_ret
  exact ⟨rs, dr⟩
 rw [if_neg c4] at H
 have c4b0 : (a0.toList == ([105, 102] : List UInt8)) = false := beq_eq_false_iff_ne.mpr c4
 have c4b1 : (a0.toList != ([105, 102] : List UInt8)) = true := bne_iff_ne.mpr c4
 by_cases c5 : a0.toList = ([101, 108, 115, 101] : List UInt8)
 ·rw [if_pos c5] at H
  have c5b0 : (a0.toList == ([101, 108, 115, 101] : List UInt8)) = true := beq_iff_eq.mpr c5
  have c5b1 : (a0.toList != ([101, 108, 115, 101] : List UInt8)) = false := bne_eq_false_iff_eq.mpr c5
  clear c5
  obtain rfl := Option.some.inj H
  go_enter Try.func42, Try.ntmps42
  go_wp2
  go_ret
  exact ⟨rs, dr⟩
 rw [if_neg c5] at H
 have c5b0 : (a0.toList == ([101, 108, 115, 101] : List UInt8)) = false := beq_eq_false_iff_ne.mpr c5
 have c5b1 : (a0.toList != ([101, 108, 115, 101] : List UInt8)) = true := bne_iff_ne.mpr c5
 by_cases c6 : a0.toList = ([119, 104, 105, 108, 101] : List UInt8)
 ·rw [if_pos c6] at H
  have c6b0 : (a0.toList == ([119, 104, 105, 108, 101] : List UInt8)) = true := beq_iff_eq.mpr c6
  have c6b1 : (a0.toList != ([119, 104, 105, 108, 101] : List UInt8)) = false := bne_eq_false_iff_eq.mpr c6
  clear c6
  obtain rfl := Option.some.inj H
  go_enter Try.func42, Try.ntmps42
  go_wp2
  go_ret
  exact ⟨rs, dr⟩
 rw [if_neg c6] at H
 have c6b0 : (a0.toList == ([119, 104, 105, 108, 101] : List UInt8)) = false := beq_eq_false_iff_ne.mpr c6
 have c6b1 : (a0.toList != ([119, 104, 105, 108, 101] : List UInt8)) = true := bne_iff_ne.mpr c6
 by_cases c7 : a0.toList = ([111, 117, 116] : List UInt8)
 ·rw [if_pos c7] at H
  have c7b0 : (a0.toList == ([111, 117, 116] : List UInt8)) = true := beq_iff_eq.mpr c7
  have c7b1 : (a0.toList != ([111, 117, 116] : List UInt8)) = false := bne_eq_false_iff_eq.mpr c7
  clear c7
  obtain rfl := Option.some.inj H
  go_enter Try.func42, Try.ntmps42
  go_wp2
  go_ret
  exact ⟨rs, dr⟩
 rw [if_neg c7] at H
 have c7b0 : (a0.toList == ([111, 117, 116] : List UInt8)) = false := beq_eq_false_iff_ne.mpr c7
 have c7b1 : (a0.toList != ([111, 117, 116] : List UInt8)) = true := bne_iff_ne.mpr c7
 by_cases c8 : a0.toList = ([112, 105, 99, 107] : List UInt8)
 ·rw [if_pos c8] at H
  have c8b0 : (a0.toList == ([112, 105, 99, 107] : List UInt8)) = true := beq_iff_eq.mpr c8
  have c8b1 : (a0.toList != ([112, 105, 99, 107] : List UInt8)) = false := bne_eq_false_iff_eq.mpr c8
  clear c8
  obtain rfl := Option.some.inj H
  go_enter Try.func42, Try.ntmps42
  go_wp2
  go_ret
  exact ⟨rs, dr⟩
 rw [if_neg c8] at H
 have c8b0 : (a0.toList == ([112, 105, 99, 107] : List UInt8)) = false := beq_eq_false_iff_ne.mpr c8
 have c8b1 : (a0.toList != ([112, 105, 99, 107] : List UInt8)) = true := bne_iff_ne.mpr c8
 by_cases c9 : a0.toList = ([110, 101, 101, 100] : List UInt8)
 ·rw [if_pos c9] at H
  have c9b0 : (a0.toList == ([110, 101, 101, 100] : List UInt8)) = true := beq_iff_eq.mpr c9
  have c9b1 : (a0.toList != ([110, 101, 101, 100] : List UInt8)) = false := bne_eq_false_iff_eq.mpr c9
  clear c9
  obtain rfl := Option.some.inj H
  go_enter Try.func42, Try.ntmps42
  go_wp2
  go_ret
  exact ⟨rs, dr⟩
 rw [if_neg c9] at H
 have c9b0 : (a0.toList == ([110, 101, 101, 100] : List UInt8)) = false := beq_eq_false_iff_ne.mpr c9
 have c9b1 : (a0.toList != ([110, 101, 101, 100] : List UInt8)) = true := bne_iff_ne.mpr c9
 by_cases c10 : a0.toList = ([109, 117, 115, 116] : List UInt8)
 ·rw [if_pos c10] at H
  have c10b0 : (a0.toList == ([109, 117, 115, 116] : List UInt8)) = true := beq_iff_eq.mpr c10
  have c10b1 : (a0.toList != ([109, 117, 115, 116] : List UInt8)) = false := bne_eq_false_iff_eq.mpr c10
  clear c10
  obtain rfl := Option.some.inj H
  go_enter Try.func42, Try.ntmps42
  go_wp2
  go_ret
  exact ⟨rs, dr⟩
 rw [if_neg c10] at H
 have c10b0 : (a0.toList == ([109, 117, 115, 116] : List UInt8)) = false := beq_eq_false_iff_ne.mpr c10
 have c10b1 : (a0.toList != ([109, 117, 115, 116] : List UInt8)) = true := bne_iff_ne.mpr c10
 by_cases c11 : a0.toList = ([108, 101, 118, 101, 108] : List UInt8)
 ·rw [if_pos c11] at H
  have c11b0 : (a0.toList == ([108, 101, 118, 101, 108] : List UInt8)) = true := beq_iff_eq.mpr c11
  have c11b1 : (a0.toList != ([108, 101, 118, 101, 108] : List UInt8)) = false := bne_eq_false_iff_eq.mpr c11
  clear c11
  obtain rfl := Option.some.inj H
  go_enter Try.func42, Try.ntmps42
  go_wp2
  go_ret
  exact ⟨rs, dr⟩
 rw [if_neg c11] at H
 have c11b0 : (a0.toList == ([108, 101, 118, 101, 108] : List UInt8)) = false := beq_eq_false_iff_ne.mpr c11
 have c11b1 : (a0.toList != ([108, 101, 118, 101, 108] : List UInt8)) = true := bne_iff_ne.mpr c11
 by_cases c12 : a0.toList = ([115, 101, 101, 115] : List UInt8)
 rotate_left
 ·rw [if_neg c12] at H
  have c12b0 : (a0.toList == ([115, 101, 101, 115] : List UInt8)) = false := beq_eq_false_iff_ne.mpr c12
  have c12b1 : (a0.toList != ([115, 101, 101, 115] : List UInt8)) = true := bne_iff_ne.mpr c12
  obtain rfl := Option.some.inj H
  go_enter Try.func42, Try.ntmps42
  go_wp2
  go_ret
  exact ⟨rs, dr⟩
 rw [if_pos c12] at H
 have c12b0 : (a0.toList == ([115, 101, 101, 115] : List UInt8)) = true := beq_iff_eq.mpr c12
 have c12b1 : (a0.toList != ([115, 101, 101, 115] : List UInt8)) = false := bne_eq_false_iff_eq.mpr c12
 clear c12
 obtain rfl := Option.some.inj H
 go_enter Try.func42, Try.ntmps42
 go_wp2
 go_ret
 exact ⟨rs, dr⟩
mutual
def r2_Name.j0 : Nat → ByteArray → Bool → Option (Bool)
 | 0, _, _ => none
 | k + 1, x0, x21 => if x21 = true then (some false) else (r2_Name.l0 k x0 0)
def r2_Name.l0 : Nat → ByteArray → Int → Option (Bool)
 | 0, _, _ => none
 | k + 1, x0, x3 => if x3 < (x0.size : Int) then (if 0 ≤ x3 then ((r2_letter.f (bt x0 x3)).bind fun t103 => (if t103 = true then (r2_Name.l0 k x0 (wrap64 (x3 + 1))) else ((r2_digit.f (bt x0 x3)).bind fun t104 => (if t104 = true then (r2_Name.l0 k x0 (wrap64 (x3 + 1))) else (if (bt x0 x3) = 95 then (r2_Name.l0 k x0 (wrap64 (x3 + 1))) else (some false)))))) else (none)) else (some true)
end
def r2_Name.f (k : Nat) (a0 : ByteArray) : Option (Bool) := if (a0.size : Int) < 1 then (r2_Name.j0 k a0 true) else (if (a0.size : Int) > 12 then (r2_Name.j0 k a0 true) else (if 0 < (a0.size : Int) then ((r2_letter.f (bt a0 0)).bind fun t101 => (if t101 = true then ((r2_Taken.f a0).bind fun t102 => (r2_Name.j0 k a0 t102)) else (r2_Name.j0 k a0 true))) else (none)))
theorem r2_Name.calls (k : Nat) (a0 : ByteArray) (r : Bool) (w : World) (h : r2_Name.f k a0 = some r) :
  Calls Try.prog 27 #[.string a0] w fun e w' => e = .returned (.bool r) ∧ Drawn0 w w' := by
 have H : (if (a0.size : Int) < 1 then (r2_Name.j0 k a0 true) else (if (a0.size : Int) > 12 then (r2_Name.j0 k a0 true) else (if 0 < (a0.size : Int) then ((r2_letter.f (bt a0 0)).bind fun t101 => (if t101 = true then ((r2_Taken.f a0).bind fun t102 => (r2_Name.j0 k a0 t102)) else (r2_Name.j0 k a0 true))) else (none)))) = some r := h
 clear h
 have HC2 := Aside0.mk H
 clear H
 go_enter Try.func27, Try.ntmps27
 go_upto_region 1 with (fail)
 go_cut [21] (fun v21 wc => ∃ (kq : Nat) (x21_1 : Bool), v21 = .bool x21_1 ∧ Aside0 (r2_Name.j0 kq a0 x21_1 = some r) ∧ Aside0 (kq ≤ k) ∧ Drawn0 w wc)
 case first =>
  have H := HC2.out
  clear HC2
  by_cases c3 : (a0.size : Int) < 1
  ·rw [if_pos c3] at H
   have c3b0 : decide ((a0.size : Int) < 1) = true := decide_eq_true c3
   have c3b1 : decide (a0.size < 1) = true := decide_eq_true (by omega)
   clear c3
   (first | rw [c3b0] | (simp only [i64_w, i32_w]; rw [c3b0]) | skip)
   have H' := Aside0.mk H
   clear H
   go_wp2
   go_meet
   case rel => exact ⟨_, (true), rs, H', ⟨by first | omega | exact Nat.le_refl _⟩, dr⟩
  rw [if_neg c3] at H
  have c3b0 : decide ((a0.size : Int) < 1) = false := decide_eq_false c3
  have c3b1 : decide (a0.size < 1) = false := decide_eq_false (by omega)
  clear c3
  (first | rw [c3b0] | (simp only [i64_w, i32_w]; rw [c3b0]) | skip)
  by_cases c4 : (a0.size : Int) > 12
  ·rw [if_pos c4] at H
   have c4b0 : decide (12 < (a0.size : Int)) = true := decide_eq_true c4
   have c4b1 : decide (12 < a0.size) = true := decide_eq_true (by omega)
   clear c4
   have H' := Aside0.mk H
   clear H
   go_wp2
   go_meet
   case rel => exact ⟨_, (true), rs, H', ⟨by first | omega | exact Nat.le_refl _⟩, dr⟩
  rw [if_neg c4] at H
  have c4b0 : decide (12 < (a0.size : Int)) = false := decide_eq_false c4
  have c4b1 : decide (12 < a0.size) = false := decide_eq_false (by omega)
  clear c4
  by_cases c5 : 0 < (a0.size : Int)
  rotate_left
  ·rw [if_neg c5] at H
   exact absurd H (by simp)
  rw [if_pos c5] at H
  have c5b0 : decide (0 < (a0.size : Int)) = true := decide_eq_true c5
  have c5b1 : decide (0 < a0.size) = true := decide_eq_true (by omega)
  clear c5
  obtain ⟨t101, A7, H⟩ := be H
  by_cases c8 : t101 = true
  rotate_left
  ·replace c8 := Bool.eq_false_iff.mpr c8
   subst c8
   replace H := fi H
   have H' := Aside0.mk H
   clear H
   have p6 : 0 ≤ (0 : Int) := (by omega)
   have q6 : 0 < a0.size := (by have : (0 : Int) < (a0.size : Int) := od; omega)
   have hx6 : ∀ h : 0 < a0.size, ((a0[0]'h).toNat : Int) = bt a0 0 := bt_at a0 0
   clear p6
   have qi6 : (0 < (a0.size : Int)) = True := eq_true (od)
   replace q6 := eq_true q6
   go_wp2_with (first | (go_at_call 41; (with_reducible refine (r2_letter.calls (bt a0 0) false _ A7.out).mono ?_); rintro e w' ⟨rfl, ⟨nd, rfl⟩⟩))
   go_meet
   case rel => exact ⟨_, (true), rs, H', ⟨by first | omega | exact Nat.le_refl _⟩, dr⟩
  subst c8
  replace H := it H
  obtain ⟨t102, A9, H⟩ := be H
  have H' := Aside0.mk H
  clear H
  have p6 : 0 ≤ (0 : Int) := (by omega)
  have q6 : 0 < a0.size := (by have : (0 : Int) < (a0.size : Int) := od; omega)
  have hx6 : ∀ h : 0 < a0.size, ((a0[0]'h).toNat : Int) = bt a0 0 := bt_at a0 0
  clear p6
  have qi6 : (0 < (a0.size : Int)) = True := eq_true (od)
  replace q6 := eq_true q6
  go_wp2_with (first | (go_at_call 41; (with_reducible refine (r2_letter.calls (bt a0 0) true _ A7.out).mono ?_); rintro e w' ⟨rfl, ⟨nd, rfl⟩⟩) | (go_at_call 42; (with_reducible refine (r2_Taken.calls a0 t102 _ A9.out).mono ?_); rintro e w' ⟨rfl, ⟨nd, rfl⟩⟩))
  go_meet
  case rel => exact ⟨_, (t102), rs, H', ⟨by first | omega | exact Nat.le_refl _⟩, dr⟩
 case rest =>
  clear HC2
  try clear c2
  try clear p2
  try clear c3
  try clear c3b0
  try clear c3b1
  try clear c4
  try clear c4b0
  try clear c4b1
  try clear c5
  try clear c5b0
  try clear c5b1
  try clear p6
  try clear q6
  try clear hx6
  try clear qi6
  try clear c8
  try clear p6
  try clear q6
  obtain ⟨kq, x21_1, rfl, HA, HJ1, ⟨mc1, rfl⟩⟩ := hcut
  cases kq with
  | zero => exact absurd HA.out (by simp [r2_Name.j0])
  | succ kj1 =>
   have H := HA.out
   clear HA
   simp only [r2_Name.j0] at H
   by_cases c10 : x21_1 = true
   ·subst c10
    replace H := it H
    obtain rfl := Option.some.inj H
    go_wp2
    go_ret
    exact ⟨rs, dr⟩
   replace c10 := Bool.eq_false_iff.mpr c10
   subst c10
   replace H := fi H
   have H' := Aside0.mk H
   clear H
   go_wp2
   go_loopg [3] kj1 (fun kq v3 w' => ∃ (x3_2 : Int), v3 = .int .i64 x3_2 ∧ Aside0 (r2_Name.l0 kq a0 x3_2 = some r) ∧ Aside0 (kq ≤ kj1) ∧ Drawn0 w w')
   case atStart => exact ⟨(0), rs, H', ⟨Nat.le_refl _⟩, dr⟩
   case round =>
    clear H'
    try clear c1
    try clear c2
    try clear p2
    try clear c3
    try clear c3b0
    try clear c3b1
    try clear c4
    try clear c4b0
    try clear c4b1
    try clear c5
    try clear c5b0
    try clear c5b1
    try clear p6
    try clear q6
    try clear hx6
    try clear qi6
    try clear c8
    try clear c10
    try clear p2
    try clear p6
    try clear q6
    obtain ⟨x3_2, rfl, HA, HK2, ⟨m2, rfl⟩⟩ := hrel
    cases gk with
    | zero => exact absurd HA.out (by simp [r2_Name.l0])
    | succ k2 =>
     have H := HA.out
     clear HA
     simp only [r2_Name.l0] at H
     by_cases c11 : x3_2 < (a0.size : Int)
     rotate_left
     ·rw [if_neg c11] at H
      have c11b0 : decide (x3_2 < (a0.size : Int)) = false := decide_eq_false c11
      clear c11
      obtain rfl := Option.some.inj H
      go_wp2
      go_ret
      exact ⟨rs, dr⟩
     rw [if_pos c11] at H
     have c11b0 : decide (x3_2 < (a0.size : Int)) = true := decide_eq_true c11
     clear c11
     by_cases c12 : 0 ≤ x3_2
     rotate_left
     ·rw [if_neg c12] at H
      exact absurd H (by simp)
     rw [if_pos c12] at H
     have c12b0 : decide (0 ≤ x3_2) = true := decide_eq_true c12
     clear c12
     obtain ⟨t103, A14, H⟩ := be H
     by_cases c15 : t103 = true
     ·subst c15
      replace H := it H
      have H' := Aside0.mk H
      clear H
      have p13 : 0 ≤ (x3_2 : Int) := od
      have q13 : x3_2 < (a0.size : Int) := od
      have hx13 := bt_at a0 x3_2
      replace p13 := eq_true p13
      replace q13 := eq_true q13
      go_wp2_with (first | ((with_reducible refine gate_callee (f := 41) rfl ?_); refine gL (some 31) rfl rfl Try.func41 #[.int .u8 (bt a0 x3_2)] rfl ?_; (with_reducible refine (r2_letter.calls (bt a0 x3_2) true _ A14.out).mono ?_); rintro e w' ⟨rfl, ⟨nd, rfl⟩⟩; refine ⟨_, rfl, ?_⟩))
      go_roundg k2
      case measure => have := HJ1.out; have := HK2.out; omega
      case rel => exact ⟨(wrap64 (x3_2 + 1)), rs, H', ⟨by have := HJ1.out; have := HK2.out; omega⟩, dr⟩
     replace c15 := Bool.eq_false_iff.mpr c15
     subst c15
     replace H := fi H
     obtain ⟨t104, A17, H⟩ := be H
     by_cases c18 : t104 = true
     ·subst c18
      replace H := it H
      have H' := Aside0.mk H
      clear H
      have p13 : 0 ≤ (x3_2 : Int) := od
      have q13 : x3_2 < (a0.size : Int) := od
      have hx13 := bt_at a0 x3_2
      replace p13 := eq_true p13
      replace q13 := eq_true q13
      go_wp2_with (first | ((with_reducible refine gate_callee (f := 41) rfl ?_); refine gL (some 31) rfl rfl Try.func41 #[.int .u8 (bt a0 x3_2)] rfl ?_; (with_reducible refine (r2_letter.calls (bt a0 x3_2) false _ A14.out).mono ?_); rintro e w' ⟨rfl, ⟨nd, rfl⟩⟩; refine ⟨_, rfl, ?_⟩; have p16 : 0 ≤ (x3_2 : Int) := od; have q16 : x3_2 < (a0.size : Int) := od; have hx16 := bt_at a0 x3_2; replace p16 := eq_true p16; replace q16 := eq_true q16) | (go_at_call 43; (with_reducible refine (r2_digit.calls (bt a0 x3_2) true _ A17.out).mono ?_); rintro e w' ⟨rfl, ⟨nd, rfl⟩⟩))
      go_roundg k2
      case measure => have := HJ1.out; have := HK2.out; omega
      case rel => exact ⟨(wrap64 (x3_2 + 1)), rs, H', ⟨by have := HJ1.out; have := HK2.out; omega⟩, dr⟩
     replace c18 := Bool.eq_false_iff.mpr c18
     subst c18
     replace H := fi H
     by_cases c20 : (bt a0 x3_2) = 95
     rotate_left
     ·rw [if_neg c20] at H
      have c20b0 : ((bt a0 x3_2) == 95) = false := beq_eq_false_iff_ne.mpr c20
      have c20b1 : ((bt a0 x3_2) != 95) = true := bne_iff_ne.mpr c20
      obtain rfl := Option.some.inj H
      have p13 : 0 ≤ (x3_2 : Int) := od
      have q13 : x3_2 < (a0.size : Int) := od
      have hx13 := bt_at a0 x3_2
      replace p13 := eq_true p13
      replace q13 := eq_true q13
      go_wp2_with (first | ((with_reducible refine gate_callee (f := 41) rfl ?_); refine gL (some 31) rfl rfl Try.func41 #[.int .u8 (bt a0 x3_2)] rfl ?_; (with_reducible refine (r2_letter.calls (bt a0 x3_2) false _ A14.out).mono ?_); rintro e w' ⟨rfl, ⟨nd, rfl⟩⟩; refine ⟨_, rfl, ?_⟩; have p16 : 0 ≤ (x3_2 : Int) := od; have q16 : x3_2 < (a0.size : Int) := od; have hx16 := bt_at a0 x3_2; replace p16 := eq_true p16; replace q16 := eq_true q16) | (go_at_call 43; (with_reducible refine (r2_digit.calls (bt a0 x3_2) false _ A17.out).mono ?_); rintro e w' ⟨rfl, ⟨nd, rfl⟩⟩; have p19 : 0 ≤ (x3_2 : Int) := od; have q19 : x3_2 < (a0.size : Int) := od; have hx19 := bt_at a0 x3_2; replace p19 := eq_true p19; replace q19 := eq_true q19))
      go_ret
      exact ⟨rs, dr⟩
     rw [if_pos c20] at H
     have c20b0 : ((bt a0 x3_2) == 95) = true := beq_iff_eq.mpr c20
     have c20b1 : ((bt a0 x3_2) != 95) = false := bne_eq_false_iff_eq.mpr c20
     clear c20
     have H' := Aside0.mk H
     clear H
     have p13 : 0 ≤ (x3_2 : Int) := od
     have q13 : x3_2 < (a0.size : Int) := od
     have hx13 := bt_at a0 x3_2
     replace p13 := eq_true p13
     replace q13 := eq_true q13
     go_wp2_with (first | ((with_reducible refine gate_callee (f := 41) rfl ?_); refine gL (some 31) rfl rfl Try.func41 #[.int .u8 (bt a0 x3_2)] rfl ?_; (with_reducible refine (r2_letter.calls (bt a0 x3_2) false _ A14.out).mono ?_); rintro e w' ⟨rfl, ⟨nd, rfl⟩⟩; refine ⟨_, rfl, ?_⟩; have p16 : 0 ≤ (x3_2 : Int) := od; have q16 : x3_2 < (a0.size : Int) := od; have hx16 := bt_at a0 x3_2; replace p16 := eq_true p16; replace q16 := eq_true q16) | (go_at_call 43; (with_reducible refine (r2_digit.calls (bt a0 x3_2) false _ A17.out).mono ?_); rintro e w' ⟨rfl, ⟨nd, rfl⟩⟩; have p19 : 0 ≤ (x3_2 : Int) := od; have q19 : x3_2 < (a0.size : Int) := od; have hx19 := bt_at a0 x3_2; replace p19 := eq_true p19; replace q19 := eq_true q19))
     go_roundg k2
     case measure => have := HJ1.out; have := HK2.out; omega
     case rel => exact ⟨(wrap64 (x3_2 + 1)), rs, H', ⟨by have := HJ1.out; have := HK2.out; omega⟩, dr⟩
mutual
def r2_Heading.j0 : Nat → List (S42) → Bool → Option (Bool)
 | 0, _, _ => none
 | k + 1, x1, x20 => if x20 = true then (some false) else (r2_Heading.l0 k x1 0 0)
def r2_Heading.l0 : Nat → List (S42) → Int → Int → Option (Bool)
 | 0, _, _, _ => none
 | k + 1, x1, x5, x6 => if x6 < (x1.length : Int) then (if 0 ≤ x6 then ((r2_Name.f k ((rd_T42 x1 x6).f0)).bind fun t109 => (if t109 = true then (if ((rd_T42 x1 x6).f1) < 0 then (some false) else (if ((rd_T42 x1 x6).f1) > 47 then (some false) else (if ((rd_T42 x1 x6).f2) < 1 then (some false) else (if ((rd_T42 x1 x6).f2) > 8 then (some false) else ((r2_Find.f k x1 ((rd_T42 x1 x6).f0)).bind fun t110 => (if t110 = x6 then (r2_Heading.l0 k x1 (wrap64 (x5 + ((rd_T42 x1 x6).f2))) (wrap64 (x6 + 1))) else (some false))))))) else (some false))) else (none)) else (some (decide (x5 ≤ 48)))
end
def r2_Heading.f (k : Nat) (a0 : Int) (l1 : List (S42)) : Option (Bool) := (r1_Width.f a0).bind fun t106 => (if t106 = true then (if (l1.length : Int) < 1 then (r2_Heading.j0 k l1 true) else (r2_Heading.j0 k l1 (decide ((l1.length : Int) > 18)))) else (r2_Heading.j0 k l1 true))
theorem r2_Heading.calls (k : Nat) (a0 : Int) (A1 : Option Addr) (c1 : Nat) (l1 : List (S42)) (r : Bool) (w : World) (hr1 : Kd.C k42 w A1 l1.length l1) (hc1 : l1.length ≤ c1) (h : r2_Heading.f k a0 l1 = some r) :
  Calls Try.prog 13 #[.int .i64 a0, .slice A1 l1.length c1] w fun e w' => e = .returned (.bool r) ∧ Below w.heap.size w w' := by
 have hu42 := Try.underlying42
 have HR1 := Aside0.mk hr1
 have HC1 := Aside0.mk hc1
 clear hr1 hc1
 have HB := Aside0.mk (Below.refl w.heap.size w)
 have H : ((r1_Width.f a0).bind fun t106 => (if t106 = true then (if (l1.length : Int) < 1 then (r2_Heading.j0 k l1 true) else (r2_Heading.j0 k l1 (decide ((l1.length : Int) > 18)))) else (r2_Heading.j0 k l1 true))) = some r := h
 clear h
 have HC3 := Aside0.mk H
 clear H
 go_enter Try.func13, Try.ntmps13
 go_upto_region 1 with (fail)
 go_cut [20] (fun v20 wc => ∃ (kq : Nat) (x20_2 : Bool), v20 = .bool x20_2 ∧ Aside0 (r2_Heading.j0 kq l1 x20_2 = some r) ∧ Aside0 (kq ≤ k) ∧ Aside0 (Below w.heap.size w wc))
 case first =>
  have H := HC3.out
  clear HC3
  obtain ⟨t106, A4, H⟩ := be H
  by_cases c5 : t106 = true
  rotate_left
  ·replace c5 := Bool.eq_false_iff.mpr c5
   subst c5
   replace H := fi H
   have H' := Aside0.mk H
   clear H
   go_wp2_with (first | ((with_reducible refine gate_callee (f := 26) rfl ?_); refine gL (some 9) rfl rfl Try.func26 #[.int .i64 a0] rfl ?_; (with_reducible refine (r1_Width.calls a0 false _ A4.out).mono ?_); rintro e w' ⟨rfl, ⟨nd, rfl⟩⟩; refine ⟨_, rfl, ?_⟩))
   go_meet
   case rel => exact ⟨_, (true), rs, H', ⟨by first | omega | exact Nat.le_refl _⟩, ⟨bb HB⟩⟩
  subst c5
  replace H := it H
  by_cases c6 : (l1.length : Int) < 1
  ·rw [if_pos c6] at H
   have c6b0 : decide ((l1.length : Int) < 1) = true := decide_eq_true c6
   have c6b1 : decide (l1.length < 1) = true := decide_eq_true (by omega)
   clear c6
   (first | rw [c6b0] | (simp only [i64_w, i32_w]; rw [c6b0]) | skip)
   have H' := Aside0.mk H
   clear H
   go_wp2_with (first | ((with_reducible refine gate_callee (f := 26) rfl ?_); refine gL (some 9) rfl rfl Try.func26 #[.int .i64 a0] rfl ?_; (with_reducible refine (r1_Width.calls a0 true _ A4.out).mono ?_); rintro e w' ⟨rfl, ⟨nd, rfl⟩⟩; refine ⟨_, rfl, ?_⟩))
   go_meet
   case rel => exact ⟨_, (true), rs, H', ⟨by first | omega | exact Nat.le_refl _⟩, ⟨bb HB⟩⟩
  rw [if_neg c6] at H
  have c6b0 : decide ((l1.length : Int) < 1) = false := decide_eq_false c6
  have c6b1 : decide (l1.length < 1) = false := decide_eq_false (by omega)
  clear c6
  (first | rw [c6b0] | (simp only [i64_w, i32_w]; rw [c6b0]) | skip)
  have H' := Aside0.mk H
  clear H
  go_wp2_with (first | ((with_reducible refine gate_callee (f := 26) rfl ?_); refine gL (some 9) rfl rfl Try.func26 #[.int .i64 a0] rfl ?_; (with_reducible refine (r1_Width.calls a0 true _ A4.out).mono ?_); rintro e w' ⟨rfl, ⟨nd, rfl⟩⟩; refine ⟨_, rfl, ?_⟩))
  go_meet
  case rel => exact ⟨_, (decide ((l1.length : Int) > 18)), rs, H', ⟨by first | omega | exact Nat.le_refl _⟩, ⟨bb HB⟩⟩
 case rest =>
  clear HC3
  try clear c1
  try clear c2
  try clear p2
  try clear c5
  try clear c6
  try clear c6b0
  try clear c6b1
  obtain ⟨kq, x20_2, rfl, HA, HJ2, HB⟩ := hcut
  cases kq with
  | zero => exact absurd HA.out (by simp [r2_Heading.j0])
  | succ kj2 =>
   have H := HA.out
   clear HA
   simp only [r2_Heading.j0] at H
   by_cases c7 : x20_2 = true
   ·subst c7
    replace H := it H
    obtain rfl := Option.some.inj H
    go_wp2
    go_ret
    exact ⟨rr, bb HB⟩
   replace c7 := Bool.eq_false_iff.mpr c7
   subst c7
   replace H := fi H
   have H' := Aside0.mk H
   clear H
   go_wp2
   go_loopg [5, 6] kj2 (fun kq v5 v6 w' => ∃ (x5_2 : Int) (x6_2 : Int), v5 = .int .i64 x5_2 ∧ v6 = .int .i64 x6_2 ∧ Aside0 (r2_Heading.l0 kq l1 x5_2 x6_2 = some r) ∧ Aside0 (kq ≤ kj2) ∧ Aside0 (Below w.heap.size w w'))
   case atStart => exact ⟨(0), (0), rs, rs, H', ⟨Nat.le_refl _⟩, ⟨bb HB⟩⟩
   case round =>
    clear H'
    try clear c1
    try clear c2
    try clear p2
    try clear c5
    try clear c6
    try clear c6b0
    try clear c6b1
    try clear c7
    try clear p2
    obtain ⟨x5_2, x6_2, rfl, rfl, HA, HK2, HB⟩ := hrel
    cases gk with
    | zero => exact absurd HA.out (by simp [r2_Heading.l0])
    | succ k2 =>
     have H := HA.out
     clear HA
     simp only [r2_Heading.l0] at H
     by_cases c8 : x6_2 < (l1.length : Int)
     rotate_left
     ·rw [if_neg c8] at H
      have c8b0 : decide (x6_2 < (l1.length : Int)) = false := decide_eq_false c8
      clear c8
      obtain rfl := Option.some.inj H
      go_wp2
      go_ret
      exact ⟨rr, bb HB⟩
     rw [if_pos c8] at H
     have c8b0 : decide (x6_2 < (l1.length : Int)) = true := decide_eq_true c8
     clear c8
     by_cases c9 : 0 ≤ x6_2
     rotate_left
     ·rw [if_neg c9] at H
      exact absurd H (by simp)
     rw [if_pos c9] at H
     have c9b0 : decide (0 ≤ x6_2) = true := decide_eq_true c9
     clear c9
     obtain ⟨t109, A10, H⟩ := be H
     by_cases c11 : t109 = true
     rotate_left
     ·replace c11 := Bool.eq_false_iff.mpr c11
      subst c11
      replace H := fi H
      obtain rfl := Option.some.inj H
      have p107 : 0 ≤ (x6_2 : Int) := od
      have q107 : x6_2 < (l1.length : Int) := od
      obtain ⟨ad107, e107, hx107_0, hx107_1, hx107_2⟩ := at_T42 HR1.out x6_2 p107 q107
      cases e107
      replace hx107_0 := bcell HB.out hx107_0
      replace hx107_1 := bcell HB.out hx107_1
      replace hx107_2 := bcell HB.out hx107_2
      replace p107 := eq_true p107
      replace q107 := eq_true q107
      go_wp2_with (first | ((with_reducible refine gate_dst (N := 7) rfl ?_); (try (refine gate_guard (by rfl) ?_; dsimp only)); refine bx 7 rfl rfl #[.string (⟨#[]⟩ : ByteArray), .int .i64 0, .int .i64 0] 42 ?_; intro gb108 hg w30 hbox hb; have BK108 := Aside0.mk (hbox); have GE108 := ge HB hg; replace HB := sb HB hb; clear hb hbox hg; obtain ⟨hcz31_0, hcz31_1, hcz31_2, hfz31_0, hfz31_1, hfz31_2⟩ := cf3 BK108.out) | ((with_reducible refine gate_callee (f := 27) rfl ?_); refine gL (some 33) rfl rfl Try.func27 #[.string ((rd_T42 l1 x6_2).f0)] rfl ?_; (with_reducible refine (r2_Name.calls k2 ((rd_T42 l1 x6_2).f0) false _ A10.out).mono ?_); rintro e w' ⟨rfl, ⟨nd, rfl⟩⟩; refine ⟨_, rfl, ?_⟩))
      go_ret
      exact ⟨rr, bb HB⟩
     subst c11
     replace H := it H
     by_cases c12 : ((rd_T42 l1 x6_2).f1) < 0
     ·rw [if_pos c12] at H
      have c12b0 : decide (((rd_T42 l1 x6_2).f1) < 0) = true := decide_eq_true c12
      clear c12
      obtain rfl := Option.some.inj H
      have p107 : 0 ≤ (x6_2 : Int) := od
      have q107 : x6_2 < (l1.length : Int) := od
      obtain ⟨ad107, e107, hx107_0, hx107_1, hx107_2⟩ := at_T42 HR1.out x6_2 p107 q107
      cases e107
      replace hx107_0 := bcell HB.out hx107_0
      replace hx107_1 := bcell HB.out hx107_1
      replace hx107_2 := bcell HB.out hx107_2
      replace p107 := eq_true p107
      replace q107 := eq_true q107
      go_wp2_with (first | ((with_reducible refine gate_dst (N := 7) rfl ?_); (try (refine gate_guard (by rfl) ?_; dsimp only)); refine bx 7 rfl rfl #[.string (⟨#[]⟩ : ByteArray), .int .i64 0, .int .i64 0] 42 ?_; intro gb108 hg w13 hbox hb; have BK108 := Aside0.mk (hbox); have GE108 := ge HB hg; replace HB := sb HB hb; clear hb hbox hg; obtain ⟨hcz14_0, hcz14_1, hcz14_2, hfz14_0, hfz14_1, hfz14_2⟩ := cf3 BK108.out) | ((with_reducible refine gate_callee (f := 27) rfl ?_); refine gL (some 33) rfl rfl Try.func27 #[.string ((rd_T42 l1 x6_2).f0)] rfl ?_; (with_reducible refine (r2_Name.calls k2 ((rd_T42 l1 x6_2).f0) true _ A10.out).mono ?_); rintro e w' ⟨rfl, ⟨nd, rfl⟩⟩; refine ⟨_, rfl, ?_⟩))
      go_ret
      exact ⟨rr, bb HB⟩
     rw [if_neg c12] at H
     have c12b0 : decide (((rd_T42 l1 x6_2).f1) < 0) = false := decide_eq_false c12
     clear c12
     by_cases c15 : ((rd_T42 l1 x6_2).f1) > 47
     ·rw [if_pos c15] at H
      have c15b0 : decide (47 < ((rd_T42 l1 x6_2).f1)) = true := decide_eq_true c15
      clear c15
      obtain rfl := Option.some.inj H
      have p107 : 0 ≤ (x6_2 : Int) := od
      have q107 : x6_2 < (l1.length : Int) := od
      obtain ⟨ad107, e107, hx107_0, hx107_1, hx107_2⟩ := at_T42 HR1.out x6_2 p107 q107
      cases e107
      replace hx107_0 := bcell HB.out hx107_0
      replace hx107_1 := bcell HB.out hx107_1
      replace hx107_2 := bcell HB.out hx107_2
      replace p107 := eq_true p107
      replace q107 := eq_true q107
      go_wp2_with (first | ((with_reducible refine gate_dst (N := 7) rfl ?_); (try (refine gate_guard (by rfl) ?_; dsimp only)); refine bx 7 rfl rfl #[.string (⟨#[]⟩ : ByteArray), .int .i64 0, .int .i64 0] 42 ?_; intro gb108 hg w16 hbox hb; have BK108 := Aside0.mk (hbox); have GE108 := ge HB hg; replace HB := sb HB hb; clear hb hbox hg; obtain ⟨hcz17_0, hcz17_1, hcz17_2, hfz17_0, hfz17_1, hfz17_2⟩ := cf3 BK108.out) | ((with_reducible refine gate_callee (f := 27) rfl ?_); refine gL (some 33) rfl rfl Try.func27 #[.string ((rd_T42 l1 x6_2).f0)] rfl ?_; (with_reducible refine (r2_Name.calls k2 ((rd_T42 l1 x6_2).f0) true _ A10.out).mono ?_); rintro e w' ⟨rfl, ⟨nd, rfl⟩⟩; refine ⟨_, rfl, ?_⟩))
      go_ret
      exact ⟨rr, bb HB⟩
     rw [if_neg c15] at H
     have c15b0 : decide (47 < ((rd_T42 l1 x6_2).f1)) = false := decide_eq_false c15
     clear c15
     by_cases c18 : ((rd_T42 l1 x6_2).f2) < 1
     ·rw [if_pos c18] at H
      have c18b0 : decide (((rd_T42 l1 x6_2).f2) < 1) = true := decide_eq_true c18
      clear c18
      obtain rfl := Option.some.inj H
      have p107 : 0 ≤ (x6_2 : Int) := od
      have q107 : x6_2 < (l1.length : Int) := od
      obtain ⟨ad107, e107, hx107_0, hx107_1, hx107_2⟩ := at_T42 HR1.out x6_2 p107 q107
      cases e107
      replace hx107_0 := bcell HB.out hx107_0
      replace hx107_1 := bcell HB.out hx107_1
      replace hx107_2 := bcell HB.out hx107_2
      replace p107 := eq_true p107
      replace q107 := eq_true q107
      go_wp2_with (first | ((with_reducible refine gate_dst (N := 7) rfl ?_); (try (refine gate_guard (by rfl) ?_; dsimp only)); refine bx 7 rfl rfl #[.string (⟨#[]⟩ : ByteArray), .int .i64 0, .int .i64 0] 42 ?_; intro gb108 hg w19 hbox hb; have BK108 := Aside0.mk (hbox); have GE108 := ge HB hg; replace HB := sb HB hb; clear hb hbox hg; obtain ⟨hcz20_0, hcz20_1, hcz20_2, hfz20_0, hfz20_1, hfz20_2⟩ := cf3 BK108.out) | ((with_reducible refine gate_callee (f := 27) rfl ?_); refine gL (some 33) rfl rfl Try.func27 #[.string ((rd_T42 l1 x6_2).f0)] rfl ?_; (with_reducible refine (r2_Name.calls k2 ((rd_T42 l1 x6_2).f0) true _ A10.out).mono ?_); rintro e w' ⟨rfl, ⟨nd, rfl⟩⟩; refine ⟨_, rfl, ?_⟩))
      go_ret
      exact ⟨rr, bb HB⟩
     rw [if_neg c18] at H
     have c18b0 : decide (((rd_T42 l1 x6_2).f2) < 1) = false := decide_eq_false c18
     clear c18
     by_cases c21 : ((rd_T42 l1 x6_2).f2) > 8
     ·rw [if_pos c21] at H
      have c21b0 : decide (8 < ((rd_T42 l1 x6_2).f2)) = true := decide_eq_true c21
      clear c21
      obtain rfl := Option.some.inj H
      have p107 : 0 ≤ (x6_2 : Int) := od
      have q107 : x6_2 < (l1.length : Int) := od
      obtain ⟨ad107, e107, hx107_0, hx107_1, hx107_2⟩ := at_T42 HR1.out x6_2 p107 q107
      cases e107
      replace hx107_0 := bcell HB.out hx107_0
      replace hx107_1 := bcell HB.out hx107_1
      replace hx107_2 := bcell HB.out hx107_2
      replace p107 := eq_true p107
      replace q107 := eq_true q107
      go_wp2_with (first | ((with_reducible refine gate_dst (N := 7) rfl ?_); (try (refine gate_guard (by rfl) ?_; dsimp only)); refine bx 7 rfl rfl #[.string (⟨#[]⟩ : ByteArray), .int .i64 0, .int .i64 0] 42 ?_; intro gb108 hg w22 hbox hb; have BK108 := Aside0.mk (hbox); have GE108 := ge HB hg; replace HB := sb HB hb; clear hb hbox hg; obtain ⟨hcz23_0, hcz23_1, hcz23_2, hfz23_0, hfz23_1, hfz23_2⟩ := cf3 BK108.out) | ((with_reducible refine gate_callee (f := 27) rfl ?_); refine gL (some 33) rfl rfl Try.func27 #[.string ((rd_T42 l1 x6_2).f0)] rfl ?_; (with_reducible refine (r2_Name.calls k2 ((rd_T42 l1 x6_2).f0) true _ A10.out).mono ?_); rintro e w' ⟨rfl, ⟨nd, rfl⟩⟩; refine ⟨_, rfl, ?_⟩))
      go_ret
      exact ⟨rr, bb HB⟩
     rw [if_neg c21] at H
     have c21b0 : decide (8 < ((rd_T42 l1 x6_2).f2)) = false := decide_eq_false c21
     clear c21
     obtain ⟨t110, A24, H⟩ := be H
     by_cases c25 : t110 = x6_2
     rotate_left
     ·rw [if_neg c25] at H
      have c25b0 : (t110 == x6_2) = false := beq_eq_false_iff_ne.mpr c25
      have c25b1 : (t110 != x6_2) = true := bne_iff_ne.mpr c25
      obtain rfl := Option.some.inj H
      have p107 : 0 ≤ (x6_2 : Int) := od
      have q107 : x6_2 < (l1.length : Int) := od
      obtain ⟨ad107, e107, hx107_0, hx107_1, hx107_2⟩ := at_T42 HR1.out x6_2 p107 q107
      cases e107
      replace hx107_0 := bcell HB.out hx107_0
      replace hx107_1 := bcell HB.out hx107_1
      replace hx107_2 := bcell HB.out hx107_2
      replace p107 := eq_true p107
      replace q107 := eq_true q107
      go_wp2_with (first | ((with_reducible refine gate_dst (N := 7) rfl ?_); (try (refine gate_guard (by rfl) ?_; dsimp only)); refine bx 7 rfl rfl #[.string (⟨#[]⟩ : ByteArray), .int .i64 0, .int .i64 0] 42 ?_; intro gb108 hg w28 hbox hb; have BK108 := Aside0.mk (hbox); have GE108 := ge HB hg; replace HB := sb HB hb; clear hb hbox hg; obtain ⟨hcz29_0, hcz29_1, hcz29_2, hfz29_0, hfz29_1, hfz29_2⟩ := cf3 BK108.out) | ((with_reducible refine gate_callee (f := 27) rfl ?_); refine gL (some 33) rfl rfl Try.func27 #[.string ((rd_T42 l1 x6_2).f0)] rfl ?_; (with_reducible refine (r2_Name.calls k2 ((rd_T42 l1 x6_2).f0) true _ A10.out).mono ?_); rintro e w' ⟨rfl, ⟨nd, rfl⟩⟩; refine ⟨_, rfl, ?_⟩) | (go_at_call 28; (with_reducible refine (r2_Find.calls k2 _ _ l1 ((rd_T42 l1 x6_2).f0) t110 _ ?side1 ?side2 A24.out).mono ?_); (case side1 => exact Kd.C_below HR1.out (bb HB)); (case side2 => exact HC1.out); rintro e w' ⟨rfl, ⟨nd, rfl⟩⟩))
      go_ret
      exact ⟨rr, bb HB⟩
     rw [if_pos c25] at H
     have c25b0 : (t110 == x6_2) = true := beq_iff_eq.mpr c25
     have c25b1 : (t110 != x6_2) = false := bne_eq_false_iff_eq.mpr c25
     clear c25
     have H' := Aside0.mk H
     clear H
     have p107 : 0 ≤ (x6_2 : Int) := od
     have q107 : x6_2 < (l1.length : Int) := od
     obtain ⟨ad107, e107, hx107_0, hx107_1, hx107_2⟩ := at_T42 HR1.out x6_2 p107 q107
     cases e107
     replace hx107_0 := bcell HB.out hx107_0
     replace hx107_1 := bcell HB.out hx107_1
     replace hx107_2 := bcell HB.out hx107_2
     replace p107 := eq_true p107
     replace q107 := eq_true q107
     go_wp2_with (first | ((with_reducible refine gate_dst (N := 7) rfl ?_); (try (refine gate_guard (by rfl) ?_; dsimp only)); refine bx 7 rfl rfl #[.string (⟨#[]⟩ : ByteArray), .int .i64 0, .int .i64 0] 42 ?_; intro gb108 hg w26 hbox hb; have BK108 := Aside0.mk (hbox); have GE108 := ge HB hg; replace HB := sb HB hb; clear hb hbox hg; obtain ⟨hcz27_0, hcz27_1, hcz27_2, hfz27_0, hfz27_1, hfz27_2⟩ := cf3 BK108.out) | ((with_reducible refine gate_callee (f := 27) rfl ?_); refine gL (some 33) rfl rfl Try.func27 #[.string ((rd_T42 l1 x6_2).f0)] rfl ?_; (with_reducible refine (r2_Name.calls k2 ((rd_T42 l1 x6_2).f0) true _ A10.out).mono ?_); rintro e w' ⟨rfl, ⟨nd, rfl⟩⟩; refine ⟨_, rfl, ?_⟩) | (go_at_call 28; (with_reducible refine (r2_Find.calls k2 _ _ l1 ((rd_T42 l1 x6_2).f0) t110 _ ?side1 ?side2 A24.out).mono ?_); (case side1 => exact Kd.C_below HR1.out (bb HB)); (case side2 => exact HC1.out); rintro e w' ⟨rfl, ⟨nd, rfl⟩⟩))
     go_roundg k2
     case measure => have := HJ2.out; have := HK2.out; omega
     case rel => exact ⟨(wrap64 (x5_2 + ((rd_T42 l1 x6_2).f2))), (wrap64 (x6_2 + 1)), rs, rs, H', ⟨by have := HJ2.out; have := HK2.out; omega⟩, ⟨bb HB⟩⟩
def takenB (s : ByteArray) : Bool := (r2_Taken.f s).getD true
theorem taken_some (s : ByteArray) : r2_Taken.f s = some (takenB s) := by
  unfold takenB r2_Taken.f
  repeat' split
  all_goals rfl
theorem nest11 (p1 p2 p3 p4 p5 p6 p7 p8 p9 p10 p11 : Prop) [Decidable p1] [Decidable p2] [Decidable p3] [Decidable p4] [Decidable p5] [Decidable p6] [Decidable p7] [Decidable p8] [Decidable p9] [Decidable p10] [Decidable p11] : (if p1 then some false else (if p2 then some false else (if p3 then some false else (if p4 then some false else (if p5 then some false else (if p6 then some false else (if p7 then some false else (if p8 then some false else (if p9 then some false else (if p10 then some false else (if p11 then some false else (some true)))))))))))) = some (!((if p1 then some true else (if p2 then some true else (if p3 then some true else (if p4 then some true else (if p5 then some true else (if p6 then some true else (if p7 then some true else (if p8 then some true else (if p9 then some true else (if p10 then some true else (if p11 then some true else (some false)))))))))))).getD true)) := by
  by_cases h1 : p1
  · simp [h1]
  by_cases h2 : p2
  · simp [h1, h2]
  by_cases h3 : p3
  · simp [h1, h2, h3]
  by_cases h4 : p4
  · simp [h1, h2, h3, h4]
  by_cases h5 : p5
  · simp [h1, h2, h3, h4, h5]
  by_cases h6 : p6
  · simp [h1, h2, h3, h4, h5, h6]
  by_cases h7 : p7
  · simp [h1, h2, h3, h4, h5, h6, h7]
  by_cases h8 : p8
  · simp [h1, h2, h3, h4, h5, h6, h7, h8]
  by_cases h9 : p9
  · simp [h1, h2, h3, h4, h5, h6, h7, h8, h9]
  by_cases h10 : p10
  · simp [h1, h2, h3, h4, h5, h6, h7, h8, h9, h10]
  by_cases h11 : p11
  · simp [h1, h2, h3, h4, h5, h6, h7, h8, h9, h10, h11]
  simp [h1, h2, h3, h4, h5, h6, h7, h8, h9, h10, h11]
def chOK (c : Int) : Bool := decide (97 ≤ c ∧ c ≤ 122) || (decide (48 ≤ c ∧ c ≤ 57) || decide (c = 95))
def allOK (s : ByteArray) : Nat → Nat → Bool
  | _, 0 => true
  | i, j + 1 => chOK (bt s (i : Int)) && allOK s (i + 1) j
theorem inName_eq (c : Int) : expr_inName.f c = some (chOK c) := by
  have e : (c == 95) = decide (c = 95) := by rw [Bool.eq_iff_iff, beq_iff_eq, decide_eq_true_iff]
  unfold expr_inName.f chOK
  rw [e]
  by_cases h1 : c ≥ 97
  · by_cases h2 : c ≤ 122
    · have : (97 ≤ c ∧ c ≤ 122) := ⟨h1, h2⟩
      simp [h1, h2]
    · have a1 : ¬ c ≤ 57 := by omega
      have a2 : c ≥ 48 := by omega
      simp [h1, h2, a1, a2]
  · by_cases h3 : c ≥ 48
    · by_cases h4 : c ≤ 57
      · simp [h1, h3, h4]
      · simp [h1, h3, h4]
    · simp [h1, h3]
theorem isName_loop (s : ByteArray) (hs : s.size ≤ 12) : ∀ j i : Nat, i + j = s.size → Tells (fun k => expr_isName.l0 k s (i : Int)) (allOK s i j && !takenB s)
  | 0, i, h => by
    refine Tells.succ ?_
    have hn : ¬ (i : Int) < (s.size : Int) := by omega
    simp only [expr_isName.l0, hn, if_false, allOK, Bool.true_and]
    refine ⟨0, fun k _ => ?_⟩
    unfold takenB r2_Taken.f
    exact nest11 _ _ _ _ _ _ _ _ _ _ _
  | j + 1, i, h => by
    refine Tells.succ ?_
    have hn : (i : Int) < (s.size : Int) := by omega
    have h0 : (0 : Int) ≤ (i : Int) := Int.natCast_nonneg _
    simp only [expr_isName.l0, hn, h0, if_true, allOK, inName_eq, Option.bind_some]
    rw [w64 (n := (i : Int) + 1) (by omega) (by omega), Bool.and_assoc]
    exact Tells.ifB (isName_loop s hs j (i + 1) (by omega))
theorem Name_loop (s : ByteArray) (hs : s.size ≤ 12) : ∀ j i : Nat, i + j = s.size → Tells (fun k => r2_Name.l0 k s (i : Int)) (allOK s i j)
  | 0, i, h => by
    refine Tells.succ ?_
    have hn : ¬ (i : Int) < (s.size : Int) := by omega
    simp only [r2_Name.l0, hn, if_false, allOK]
    exact Tells.pure _
  | j + 1, i, h => by
    refine Tells.succ ?_
    have hn : (i : Int) < (s.size : Int) := by omega
    have h0 : (0 : Int) ≤ (i : Int) := Int.natCast_nonneg _
    have ih := Name_loop s hs j (i + 1) (by omega)
    simp only [r2_Name.l0, hn, h0, if_true, allOK, r2_letter.f, r2_digit.f]
    rw [w64 (n := (i : Int) + 1) (by omega) (by omega)]
    have ih' : Tells (fun k => r2_Name.l0 k s ((i : Int) + 1)) (allOK s (i + 1) j) := ih
    generalize bt s (i : Int) = c
    unfold chOK
    by_cases h1 : c ≥ 97
    · by_cases h2 : c ≤ 122
      · have e : decide (97 ≤ c ∧ c ≤ 122) = true := decide_eq_true ⟨h1, h2⟩
        simp only [h1, h2, if_true, decide_true, Option.bind_some, Bool.true_or, Bool.true_and, and_self]
        exact ih'
      · have a1 : ¬ c ≤ 57 := by omega
        have a2 : c ≥ 48 := by omega
        have a3 : ¬ c = 95 := by omega
        simp [h1, h2, a1, a2, a3]
        exact Tells.pure _
    · by_cases h3 : c ≥ 48
      · by_cases h4 : c ≤ 57
        · simp [h1, h3, h4]
          exact ih'
        · by_cases h5 : c = 95
          · subst h5
            simp
            exact ih'
          · simp [h1, h3, h4, h5]
            exact Tells.pure _
      · have h5 : ¬ c = 95 := by omega
        simp [h1, h3, h5]
        exact Tells.pure _
def nameOK (s : ByteArray) : Bool := decide (1 ≤ s.size ∧ s.size ≤ 12) && (decide (97 ≤ bt s 0 ∧ bt s 0 ≤ 122) && (allOK s 0 s.size && !takenB s))
theorem bytes_nil (s : ByteArray) : s.toList = ([] : List UInt8) ↔ s.size = 0 := by
  rw [ByteArray.toList_eq]
  constructor
  · intro h
    have := congrArg List.length h
    simpa using this
  · intro h
    have : s.data.toList.length = 0 := by simpa using h
    exact List.length_eq_zero_iff.1 this
theorem isName_tells (s : ByteArray) : Tells (fun k => expr_isName.f k s) (nameOK s) := by
  have j0 : ∀ b : Bool, s.size ≤ 12 → Tells (fun k => expr_isName.j0 k s b) (!b && (allOK s 0 s.size && !takenB s)) := by
    intro b hs
    refine Tells.succ ?_
    simp only [expr_isName.j0]
    cases b
    · exact isName_loop s hs s.size 0 (by omega)
    · exact Tells.pure false
  have jt : Tells (fun k => expr_isName.j0 k s true) false := by
    refine Tells.succ ?_
    simp only [expr_isName.j0]
    exact Tells.pure false
  unfold expr_isName.f nameOK
  by_cases h0 : s.size = 0
  · rw [decide_eq_false (p := 1 ≤ s.size ∧ s.size ≤ 12) (by omega), Bool.false_and]
    exact Tells.ifT ((bytes_nil s).2 h0) jt
  · refine Tells.ifF (fun h => h0 ((bytes_nil s).1 h)) ?_
    by_cases h12 : (s.size : Int) > 12
    · rw [decide_eq_false (p := 1 ≤ s.size ∧ s.size ≤ 12) (by omega), Bool.false_and]
      exact Tells.ifT h12 jt
    · rw [decide_eq_true (p := 1 ≤ s.size ∧ s.size ≤ 12) (by omega), Bool.true_and]
      refine Tells.ifF h12 (Tells.ifT (by omega) ?_)
      by_cases h97 : bt s 0 < 97
      · rw [decide_eq_false (p := 97 ≤ bt s 0 ∧ bt s 0 ≤ 122) (by omega), Bool.false_and]
        exact Tells.ifT h97 jt
      · refine Tells.ifF h97 ?_
        have := j0 (decide (bt s 0 > 122)) (by omega)
        have e : (!decide (bt s 0 > 122)) = decide (97 ≤ bt s 0 ∧ bt s 0 ≤ 122) := by
          rw [← decide_not]
          exact decide_eq_decide.2 (by omega)
        rw [e] at this
        exact this
theorem Name_tells (s : ByteArray) : Tells (fun k => r2_Name.f k s) (nameOK s) := by
  have jt : Tells (fun k => r2_Name.j0 k s true) false := by
    refine Tells.succ ?_
    simp only [r2_Name.j0]
    exact Tells.pure false
  unfold r2_Name.f nameOK
  by_cases h0 : (s.size : Int) < 1
  · rw [decide_eq_false (p := 1 ≤ s.size ∧ s.size ≤ 12) (by omega), Bool.false_and]
    exact Tells.ifT h0 jt
  · refine Tells.ifF h0 ?_
    by_cases h12 : (s.size : Int) > 12
    · rw [decide_eq_false (p := 1 ≤ s.size ∧ s.size ≤ 12) (by omega), Bool.false_and]
      exact Tells.ifT h12 jt
    · rw [decide_eq_true (p := 1 ≤ s.size ∧ s.size ≤ 12) (by omega), Bool.true_and]
      refine Tells.ifF h12 (Tells.ifT (by omega) ?_)
      have hl : r2_letter.f (bt s 0) = some (decide (97 ≤ bt s 0 ∧ bt s 0 ≤ 122)) := by
        unfold r2_letter.f
        by_cases h : bt s 0 ≥ 97
        · rw [if_pos h]; congr 1; exact decide_eq_decide.2 (by omega)
        · rw [if_neg h]; congr 1; exact (decide_eq_false (by omega)).symm
      rw [hl]
      refine Tells.bind (Tells.pure _) ?_
      by_cases hd : (97 ≤ bt s 0 ∧ bt s 0 ≤ 122)
      · rw [decide_eq_true hd, Bool.true_and]
        simp only [if_true]
        rw [taken_some]
        refine Tells.bind (Tells.pure _) (Tells.succ ?_)
        simp only [r2_Name.j0]
        cases takenB s
        · simp only [Bool.false_eq_true, if_false, Bool.not_false, Bool.and_true]
          exact Name_loop s (by omega) s.size 0 (by omega)
        · simp only [if_true, Bool.not_true, Bool.and_false]
          exact Tells.pure _
      · rw [decide_eq_false hd, Bool.false_and]
        exact jt
def varOK (v : S42) : Bool := nameOK v.f0 && (decide (0 ≤ v.f1 ∧ v.f1 ≤ 47) && decide (1 ≤ v.f2 ∧ v.f2 ≤ 8))
def metIn (pre : List S42) (s : ByteArray) : Bool := pre.any fun u => decide (u.f0.toList = s.toList)
def hOK : List S42 → List S42 → Int → Bool
  | _, [], sum => decide (sum ≤ 48)
  | pre, v :: r, sum => varOK v && (!(metIn pre v.f0) && hOK (pre ++ [v]) r (sum + v.f2))
def hIs (w : Int) (vars : List S42) : Bool := decide (1 ≤ w ∧ w ≤ 8) && (decide (1 ≤ vars.length ∧ vars.length ≤ 18) && hOK [] vars 0)
theorem met_metIn (ns : List ByteArray) (s : ByteArray) : met ns s = ns.any fun n => decide (n.toList = s.toList) := by
  unfold met
  congr 1
  funext n
  rw [ByteArray.toList_eq, ByteArray.toList_eq, Bool.eq_iff_iff, beq_iff_eq, decide_eq_true_iff]
theorem Heading_loop (vars : List S42) (hv : vars.length ≤ 18) : ∀ (suf pre : List S42) (ns : List ByteArray) (sum : Int), vars = pre ++ suf → (∀ s, met ns s = metIn pre s) → 0 ≤ sum → sum ≤ 8 * pre.length →
    Tells (fun k => expr_Heading.l0 k ns sum vars (pre.length : Int)) (okInt (hOK pre suf sum) 1) := by
  intro suf
  induction suf with
  | nil =>
    intro pre ns sum hvs hm h0 h8
    refine Tells.succ ?_
    subst hvs
    simp only [expr_Heading.l0, pre_nlt, if_false, hOK]
    by_cases h : sum ≤ 48
    · have : ¬ sum > 48 := by omega
      simp only [h, this, if_false, decide_true, if_true]
      exact Tells.pure _
    · have : sum > 48 := by omega
      simp only [h, this, if_true, decide_false]
      exact Tells.pure _
  | cons v r ih =>
    intro pre ns sum hvs hm h0 h8
    refine Tells.succ ?_
    have hl : pre.length + 1 + r.length ≤ 18 := by
      rw [hvs, List.length_append, List.length_cons] at hv
      omega
    have h2 := ih (pre ++ [v]) (v.f0 :: ns) (sum + v.f2) (by rw [hvs, pre_app])
    subst hvs
    simp only [expr_Heading.l0, pre_lt, pre_pos, if_true, rdV_mid, hOK]
    refine Tells.bind (isName_tells v.f0) ?_
    unfold varOK
    cases hn : nameOK v.f0
    · simp only [Bool.false_eq_true, if_false, Bool.false_and]
      exact Tells.pure _
    · simp only [if_true, Bool.true_and]
      rw [hm]
      cases hmt : metIn pre v.f0
      · simp only [Bool.false_eq_true, if_false, Bool.not_false, Bool.true_and]
        by_cases a1 : v.f1 < 0
        · rw [decide_eq_false (p := 0 ≤ v.f1 ∧ v.f1 ≤ 47) (by omega), Bool.false_and, Bool.false_and]
          exact Tells.ifT a1 (Tells.pure _)
        · refine Tells.ifF a1 ?_
          by_cases a2 : v.f1 > 47
          · rw [decide_eq_false (p := 0 ≤ v.f1 ∧ v.f1 ≤ 47) (by omega), Bool.false_and, Bool.false_and]
            exact Tells.ifT a2 (Tells.pure _)
          · refine Tells.ifF a2 ?_
            rw [decide_eq_true (p := 0 ≤ v.f1 ∧ v.f1 ≤ 47) (by omega), Bool.true_and]
            by_cases a3 : v.f2 < 1
            · rw [decide_eq_false (p := 1 ≤ v.f2 ∧ v.f2 ≤ 8) (by omega), Bool.false_and]
              exact Tells.ifT a3 (Tells.pure _)
            · refine Tells.ifF a3 ?_
              by_cases a4 : v.f2 > 8
              · rw [decide_eq_false (p := 1 ≤ v.f2 ∧ v.f2 ≤ 8) (by omega), Bool.false_and]
                exact Tells.ifT a4 (Tells.pure _)
              · refine Tells.ifF a4 ?_
                rw [decide_eq_true (p := 1 ≤ v.f2 ∧ v.f2 ≤ 8) (by omega), Bool.true_and, w64 (n := sum + v.f2) (by omega) (by omega), pre_next pre v r (by rw [List.length_append, List.length_cons]; omega)]
                refine h2 (fun s => ?_) (by omega) (by rw [List.length_append, List.length_singleton]; omega)
                have := hm s
                rw [met_metIn] at this ⊢
                unfold metIn at this ⊢
                rw [List.any_cons, List.any_append, this, Bool.or_comm]
                simp only [List.any_cons, List.any_nil, Bool.or_false]
      · simp only [if_true, Bool.not_true, Bool.false_and, Bool.and_false, Bool.false_eq_true, if_false]
        exact Tells.pure _
theorem Heading_tells (w : Int) (vars : List S42) : Tells (fun k => expr_Heading.f k w vars) (okInt (hIs w vars) 1) := by
  unfold expr_Heading.f hIs
  by_cases a1 : w < 1
  · rw [decide_eq_false (p := 1 ≤ w ∧ w ≤ 8) (by omega), Bool.false_and]
    exact Tells.ifT a1 (Tells.pure _)
  refine Tells.ifF a1 ?_
  by_cases a2 : w > 8
  · rw [decide_eq_false (p := 1 ≤ w ∧ w ≤ 8) (by omega), Bool.false_and]
    exact Tells.ifT a2 (Tells.pure _)
  refine Tells.ifF a2 ?_
  rw [decide_eq_true (p := 1 ≤ w ∧ w ≤ 8) (by omega), Bool.true_and]
  by_cases a3 : (vars.length : Int) < 1
  · rw [decide_eq_false (p := 1 ≤ vars.length ∧ vars.length ≤ 18) (by omega), Bool.false_and]
    exact Tells.ifT a3 (Tells.pure _)
  refine Tells.ifF a3 ?_
  by_cases a4 : (vars.length : Int) > 18
  · rw [decide_eq_false (p := 1 ≤ vars.length ∧ vars.length ≤ 18) (by omega), Bool.false_and]
    exact Tells.ifT a4 (Tells.pure _)
  refine Tells.ifF a4 ?_
  rw [decide_eq_true (p := 1 ≤ vars.length ∧ vars.length ≤ 18) (by omega), Bool.true_and]
  exact Heading_loop vars (by omega) vars [] [] 0 rfl (fun s => rfl) (by decide) (by simp)
theorem Find_loop (name : ByteArray) (tail : List S42) : ∀ (mid pre : List S42), (pre ++ (mid ++ tail)).length ≤ 18 → ∃ t, Tells (fun k => r2_Find.l0 k (pre ++ (mid ++ tail)) name (pre.length : Int)) t ∧
    ((∃ v r, tail = v :: r ∧ v.f0 = name) → (t = ((pre.length + mid.length : Nat) : Int) ↔ metIn mid name = false)) := by
  intro mid
  induction mid with
  | nil =>
    intro pre hl
    cases tail with
    | nil =>
      refine ⟨-1, Tells.succ ?_, fun ⟨_, _, h, _⟩ => by cases h⟩
      simp only [r2_Find.l0, List.append_nil, Int.lt_irrefl, if_false]
      exact Tells.pure _
    | cons v r =>
      by_cases he : v.f0.toList = name.toList
      · refine ⟨(pre.length : Int), Tells.succ ?_, fun _ => ?_⟩
        · simp only [r2_Find.l0, List.nil_append, pre_lt, pre_pos, if_true, rdV_mid, he]
          exact Tells.pure _
        · simp only [List.length_nil, Nat.add_zero, true_iff]
          rfl
      · have hl' : (pre ++ v :: r).length ≤ 18 := hl
        rw [List.length_append, List.length_cons] at hl'
        have go : ∀ (suf p1 : List S42), (p1 ++ suf).length ≤ 18 → ∃ t, Tells (fun k => r2_Find.l0 k (p1 ++ suf) name (p1.length : Int)) t := by
          intro suf
          induction suf with
          | nil =>
            intro p1 _
            refine ⟨-1, Tells.succ ?_⟩
            simp only [r2_Find.l0, pre_nlt, if_false]
            exact Tells.pure _
          | cons u q ihq =>
            intro p1 hp
            by_cases hu : u.f0.toList = name.toList
            · refine ⟨(p1.length : Int), Tells.succ ?_⟩
              simp only [r2_Find.l0, pre_lt, pre_pos, if_true, rdV_mid, hu]
              exact Tells.pure _
            · obtain ⟨t, ht⟩ := ihq (p1 ++ [u]) (by rw [← pre_app]; exact hp)
              refine ⟨t, Tells.succ ?_⟩
              simp only [r2_Find.l0, pre_lt, pre_pos, if_true, rdV_mid, hu, if_false]
              rw [pre_next p1 u q (by omega)]
              rw [← pre_app] at ht
              exact ht
        obtain ⟨t, ht⟩ := go (v :: r) pre hl
        exact ⟨t, ht, fun ⟨v', r', e, hv⟩ => by injection e with e1 e2; subst e1; rw [hv] at he; exact absurd rfl he⟩
  | cons u q ih =>
    intro pre hl
    have hl' : (pre ++ u :: (q ++ tail)).length ≤ 18 := hl
    by_cases hu : u.f0.toList = name.toList
    · refine ⟨(pre.length : Int), Tells.succ ?_, fun _ => ?_⟩
      · simp only [r2_Find.l0, List.cons_append, pre_lt, pre_pos, if_true, rdV_mid, hu]
        exact Tells.pure _
      · have : metIn (u :: q) name = true := by unfold metIn; rw [List.any_cons, decide_eq_true hu, Bool.true_or]
        rw [this]
        simp only [List.length_cons, Bool.true_eq_false, iff_false]
        omega
    · obtain ⟨t, ht, hq⟩ := ih (pre ++ [u]) (by rw [← pre_app]; exact hl')
      refine ⟨t, Tells.succ ?_, fun h => ?_⟩
      · simp only [r2_Find.l0, List.cons_append, pre_lt, pre_pos, if_true, rdV_mid, hu, if_false]
        rw [pre_next pre u (q ++ tail) (by omega)]
        rw [← pre_app] at ht
        exact ht
      · have := hq h
        have e : metIn (u :: q) name = metIn q name := by unfold metIn; rw [List.any_cons, decide_eq_false hu, Bool.false_or]
        rw [e, ← this, List.length_append, List.length_singleton, List.length_cons]
        constructor <;> intro h <;> omega
theorem RHeading_loop (vars : List S42) (hv : vars.length ≤ 18) : ∀ (suf pre : List S42) (sum : Int), vars = pre ++ suf → 0 ≤ sum → sum ≤ 8 * pre.length →
    Tells (fun k => r2_Heading.l0 k vars sum (pre.length : Int)) (hOK pre suf sum) := by
  intro suf
  induction suf with
  | nil =>
    intro pre sum hvs h0 h8
    refine Tells.succ ?_
    subst hvs
    simp only [r2_Heading.l0, pre_nlt, if_false, hOK]
    exact Tells.pure _
  | cons v r ih =>
    intro pre sum hvs h0 h8
    refine Tells.succ ?_
    have hl : pre.length + 1 + r.length ≤ 18 := by
      rw [hvs, List.length_append, List.length_cons] at hv
      omega
    have h2 := ih (pre ++ [v]) (sum + v.f2) (by rw [hvs, pre_app])
    obtain ⟨t, ht, hq⟩ := Find_loop v.f0 (v :: r) pre [] (by rw [List.nil_append, ← hvs]; exact hv)
    have hq' := hq ⟨v, r, rfl, rfl⟩
    rw [List.nil_append, ← hvs] at ht
    subst hvs
    simp only [r2_Heading.l0, pre_lt, pre_pos, if_true, rdV_mid, hOK]
    refine Tells.bind (Name_tells v.f0) ?_
    unfold varOK
    cases hn : nameOK v.f0
    · simp only [Bool.false_eq_true, if_false, Bool.false_and]
      exact Tells.pure _
    · simp only [if_true, Bool.true_and]
      by_cases a1 : v.f1 < 0
      · rw [decide_eq_false (p := 0 ≤ v.f1 ∧ v.f1 ≤ 47) (by omega), Bool.false_and, Bool.false_and]
        exact Tells.ifT a1 (Tells.pure _)
      · refine Tells.ifF a1 ?_
        by_cases a2 : v.f1 > 47
        · rw [decide_eq_false (p := 0 ≤ v.f1 ∧ v.f1 ≤ 47) (by omega), Bool.false_and, Bool.false_and]
          exact Tells.ifT a2 (Tells.pure _)
        · refine Tells.ifF a2 ?_
          rw [decide_eq_true (p := 0 ≤ v.f1 ∧ v.f1 ≤ 47) (by omega), Bool.true_and]
          by_cases a3 : v.f2 < 1
          · rw [decide_eq_false (p := 1 ≤ v.f2 ∧ v.f2 ≤ 8) (by omega), Bool.false_and]
            exact Tells.ifT a3 (Tells.pure _)
          · refine Tells.ifF a3 ?_
            by_cases a4 : v.f2 > 8
            · rw [decide_eq_false (p := 1 ≤ v.f2 ∧ v.f2 ≤ 8) (by omega), Bool.false_and]
              exact Tells.ifT a4 (Tells.pure _)
            · refine Tells.ifF a4 ?_
              rw [decide_eq_true (p := 1 ≤ v.f2 ∧ v.f2 ≤ 8) (by omega), Bool.true_and]
              refine Tells.bind (g := fun k => r2_Find.f k (pre ++ v :: r) v.f0) ht ?_
              by_cases hm : metIn pre v.f0 = false
              · rw [hm, Bool.not_false, Bool.true_and]
                have : t = (pre.length : Int) := by rw [hq'.2 hm]; simp
                refine Tells.ifT this ?_
                rw [w64 (n := sum + v.f2) (by omega) (by omega), pre_next pre v r (by rw [List.length_append, List.length_cons]; omega)]
                exact h2 (by omega) (by rw [List.length_append, List.length_singleton]; omega)
              · rw [Bool.not_eq_false] at hm
                rw [hm, Bool.not_true, Bool.false_and]
                refine Tells.ifF (fun e => ?_) (Tells.pure _)
                have := hq'.1 (by rw [e]; simp)
                rw [hm] at this
                cases this
theorem RHeading_tells (w : Int) (vars : List S42) : Tells (fun k => r2_Heading.f k w vars) (hIs w vars) := by
  have jt : Tells (fun k => r2_Heading.j0 k vars true) false := by
    refine Tells.succ ?_
    simp only [r2_Heading.j0]
    exact Tells.pure false
  unfold r2_Heading.f hIs
  have hw : r1_Width.f w = some (decide (1 ≤ w ∧ w ≤ 8)) := by
    unfold r1_Width.f
    by_cases h : w ≥ 1
    · rw [if_pos h]; congr 1; exact decide_eq_decide.2 (by omega)
    · rw [if_neg h]; congr 1; exact (decide_eq_false (by omega)).symm
  rw [hw]
  refine Tells.bind (Tells.pure _) ?_
  by_cases a1 : (1 ≤ w ∧ w ≤ 8)
  · rw [decide_eq_true a1, Bool.true_and]
    simp only [if_true]
    by_cases a3 : (vars.length : Int) < 1
    · rw [decide_eq_false (p := 1 ≤ vars.length ∧ vars.length ≤ 18) (by omega), Bool.false_and]
      exact Tells.ifT a3 jt
    refine Tells.ifF a3 (Tells.succ ?_)
    simp only [r2_Heading.j0]
    by_cases a4 : (vars.length : Int) > 18
    · rw [decide_eq_false (p := 1 ≤ vars.length ∧ vars.length ≤ 18) (by omega), Bool.false_and]
      exact Tells.ifT (decide_eq_true a4) (Tells.pure _)
    rw [decide_eq_true (p := 1 ≤ vars.length ∧ vars.length ≤ 18) (by omega), Bool.true_and]
    exact Tells.ifF (by rw [decide_eq_true_eq]; exact a4) (RHeading_loop vars (by omega) vars [] 0 rfl (by decide) (by simp))
  · rw [decide_eq_false a1, Bool.false_and]
    exact jt
theorem hOK_all : ∀ (suf pre : List S42) (sum : Int), hOK pre suf sum = true → (∀ v ∈ suf, varOK v = true) ∧ sum + (suf.map (·.f2)).sum ≤ 48
  | [], pre, sum, h => ⟨fun v hv => absurd hv (by simp), by simp only [hOK, decide_eq_true_eq] at h; simpa using h⟩
  | u :: r, pre, sum, h => by
    simp only [hOK, Bool.and_eq_true] at h
    obtain ⟨h1, h2⟩ := hOK_all r _ _ h.2.2
    refine ⟨fun v hv => ?_, ?_⟩
    · rcases List.mem_cons.1 hv with rfl | hv
      · exact h.1
      · exact h1 v hv
    · rw [List.map_cons, List.sum_cons]
      omega
theorem hIs_all {w : Int} {vars : List S42} (h : hIs w vars = true) : 1 ≤ w ∧ w ≤ 8 ∧ 1 ≤ vars.length ∧ vars.length ≤ 18 ∧ (∀ v ∈ vars, 0 ≤ v.f1 ∧ v.f1 ≤ 47 ∧ 1 ≤ v.f2 ∧ v.f2 ≤ 8) ∧ (vars.map (·.f2)).sum ≤ 48 := by
  unfold hIs at h
  simp only [Bool.and_eq_true, decide_eq_true_eq] at h
  obtain ⟨a, b, c⟩ := h
  obtain ⟨d, e⟩ := hOK_all vars [] 0 c
  refine ⟨a.1, a.2, b.1, b.2, fun v hv => ?_, by omega⟩
  have := d v hv
  unfold varOK at this
  simp only [Bool.and_eq_true, decide_eq_true_eq] at this
  omega
end Go.Proofs.Ytnlekgadadifdaa.Print
