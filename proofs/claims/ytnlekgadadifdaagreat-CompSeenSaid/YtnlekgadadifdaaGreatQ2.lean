/- For two starts whose runs are Done, the runs of a program have equal events exactly if the runs of the code that comp.Compile makes have, and the code then has equal costs; programs of at most 600 nodes. -/
import Derived.Test.YtnlekgadadifdaaGreatQ1
import Derived.ArgAppend
import Derived.Below
import Derived.BigQuiet
import Derived.ChangeArms
import Derived.ChangeSlices
import Derived.Deep.AppendLies
import Derived.Deep.CutBlock
import Derived.Deep.DeepCutAuto
import Derived.Deep.Draws
import Derived.Deep.LoopGhost
import Derived.Deep.OwnRows
import Derived.Deep.QuietTactic
import Derived.Deep.RegionHeld3
import Derived.Deep.RegionWith
import Derived.KernelRfl
import Derived.Laws.BitsLemmas
import Derived.Laws.BytesArg
import Derived.Laws.IdiomCopy
import Derived.Laws.MakeOwn
import Derived.Laws.OwnMore
import Derived.Laws.Rows
import Derived.Laws.Slices
import Derived.Lib.AppendStr
import Derived.Lib.ConvBytes
import Derived.Maps.AppendAt
import Derived.Maps.OwnSet
import Derived.OrdersHeld
import Derived.OwnWalk
import Derived.RowKit
import Derived.RowKit3
import Derived.StringKeys
import Derived.Tactics
import Derived.Test.YtnlekgadadifdaaGreatProg
import Derived.WalkKit
import Derived.WideLaws
set_option maxRecDepth 100000
set_option maxHeartbeats 16000000
namespace Go.Proofs.YtnlekgadadifdaaGreat.Print
open Go.RowKit Go.Proofs.YtnlekgadadifdaaGreatW.PrintWords Go.Proofs.YtnlekgadadifdaaGreatW.PrintLast
theorem z49 (a : Addr) (i j : Nat) : (a.add i).add j = a.add (i + j) := by
 unfold Addr.add
 by_cases hi : i = 0 <;> by_cases hj : j = 0 <;> simp [hi, hj, Nat.add_assoc]
def yv {α : Type} (P : Program) (n : Nat) (t : TypeId) (d : Kd α) (φ : α -> Prop) : Prop :=
 ∀ (H : Type) (enc : TypeId × Value -> H) (W : World) (sp : Nat -> Bool) (hd : Bool) (cs : List Value) (y : DataW H × List MemPlace), DataW.trod enc P W 0 sp hd n t cs = some y -> ∃ x, d.K W x cs /\ φ x
def z1W {α : Type} (P : Program) (n : Nat) (fs : List Field) (o : Nat) (d : Kd α) (φ : α -> Prop) : Prop :=
 ∀ (H : Type) (enc : TypeId × Value -> H) (W : World) (sp : Nat -> Bool) (hd : Bool) (cs : List Value) (y : List (DataW H × List MemPlace)), cs.length = o + d.sz ->
  fs.mapM (fun f => DataW.trod enc P W 0 sp hd n f.type ((cs.drop f.offset).take (P.cellsOf f.type))) = some y -> ∃ x, d.K W x (cs.drop o) /\ φ x
theorem yK {P : Program} {n : Nat} {t : TypeId} {k : IntKind} (ht : P.underlying t = some (.int k)) : yv P n t (Kd.int k) (fun x => (Lit.int k x).wf = true) := by
 intro H enc W sp hd cs y h
 obtain ⟨x, rfl, _, hx⟩ := DataW.trod_int ht h
 exact ⟨x, rfl, hx⟩
theorem z3V {P : Program} {n : Nat} {t : TypeId} (ht : P.underlying t = some .string) : yv P n t Kd.string (fun x => x.size <= maxLen) := by
 intro H enc W sp hd cs y h
 cases n with
 | zero => simp [DataW.trod] at h
 | succ n =>
  unfold DataW.trod at h
  rw [ht] at h
  split at h <;> simp_all
  exact ⟨_, rfl, h.1⟩
theorem yY {α : Type} {P : Program} {n : Nat} {t e : TypeId} {d : Kd α} {φ : α -> Prop} (ht : P.underlying t = some (.slice e)) (hc : P.cellsOf e = d.sz) (h : yv P n e d φ) :
  yv P (n + 1) t (Kd.slice e d) (fun xs => xs.length <= maxLen /\ ∀ x ∈ xs, φ x) := by
 intro H enc W sp hd cs y hy
 rcases DataW.trod_slice ht hy with ⟨rfl, _⟩ | ⟨a, len, cap, elems, rest, m, hf, rfl, _, hb, hl, hm, hlen, hel, _, _⟩
 ·exact ⟨[], ⟨none, 0, rfl, jk _, rfl, by simp, fun h => jm h (by simp)⟩, by simp [maxLen], fun x hx => jm hx (by simp)⟩
 ·injection hf with hf
  subst hf
  have one : ∀ i, i < len -> ∃ x, (∃ cs', W.cells? 0 (a.add (i * P.cellsOf e)) (P.cellsOf e) = some cs' /\ d.K W x cs') /\ φ x := fun i hi => by
   have h1 := hel i hi
   have hi' : i < elems.length := by omega
   rw [jn hi', Option.bind_eq_some_iff] at h1
   obtain ⟨cs', h2, h3⟩ := h1
   obtain ⟨x, hx, hp⟩ := h H enc W sp hd cs' _ h3
   exact ⟨x, ⟨cs', h2, hx⟩, hp⟩
  have many : ∀ k, k <= len -> ∃ xs : List α, xs.length = k /\ ∀ i x, xs[i]? = some x -> (∃ cs', W.cells? 0 (a.add (i * P.cellsOf e)) (P.cellsOf e) = some cs' /\ d.K W x cs') /\ φ x := by
   intro k
   induction k with
   | zero => exact fun _ => ⟨[], rfl, fun i x hx => by simp at hx⟩
   | succ k ih =>
    intro hk
    obtain ⟨xs, hxl, hxs⟩ := ih (by omega)
    obtain ⟨x, hx⟩ := one k (by omega)
    refine ⟨xs ++ [x], by simp [hxl], fun i z hz => ?_⟩
    rcases Nat.lt_or_ge i xs.length with hi | hi
    ·rw [List.getElem?_append_left hi] at hz
     exact hxs i z hz
    ·rw [List.getElem?_append_right hi] at hz
     have hi0 : i - xs.length = 0 := by
      rcases Nat.eq_zero_or_pos (i - xs.length) with h0 | h0
      ·exact h0
      ·rw [List.getElem?_eq_none (by simp only [List.length_singleton]; omega)] at hz
       exact jm hz (by simp)
     rw [hi0] at hz
     have hzx : x = z := by simpa using hz
     have hik : i = k := by omega
     subst hzx hik
     exact hx
  obtain ⟨xs, hxl, hxs⟩ := many len (jk _)
  refine ⟨xs, ⟨some a, cap, by rw [hxl], by omega, ⟨rfl, by unfold maxLen at hm; omega, fun _ => ⟨a, rfl, fun j p hj => ?_⟩⟩⟩, by omega, fun x hx => ?_⟩
  ·obtain ⟨⟨cs', h2, h3⟩, _⟩ := hxs j p hj
   refine ⟨cs', d.K_len h3, h3, fun i u hu => ?_⟩
   rw [hc] at h2
   obtain ⟨_, h5, h4⟩ := World.cells?_some h2
   obtain ⟨hi, hu'⟩ := List.getElem?_eq_some_iff.1 hu
   have h6 := h4 i (by omega)
   rw [z49] at h6
   rw [h6]
   exact hu
  ·obtain ⟨i, hi⟩ := List.getElem?_of_mem hx
   exact (hxs i x hi).2
theorem Yu {α : Type} {P : Program} {n : Nat} {f : Field} {o : Nat} {d : Kd α} {φ : α -> Prop} (ho : f.offset = o) (hc : P.cellsOf f.type = d.sz) (h : yv P n f.type d φ) : z1W P n [f] o d φ := by
 intro H enc W sp hd cs y hl hy
 simp only [List.mapM_cons, List.mapM_nil, Option.bind_eq_bind, Option.pure_def, Option.bind_eq_some_iff] at hy
 obtain ⟨a, h1, _⟩ := hy
 rw [ho, hc, List.take_of_length_le (by simp [hl])] at h1
 exact h H enc W sp hd _ _ h1
theorem Zp {α β : Type} {P : Program} {n : Nat} {f : Field} {fs : List Field} {o : Nat} {d : Kd α} {d' : Kd β} {φ : α -> Prop} {ψ : β -> Prop} (ho : f.offset = o) (hc : P.cellsOf f.type = d.sz) (h : yv P n f.type d φ)
  (hs : z1W P n fs (o + d.sz) d' ψ) : z1W P n (f :: fs) o (Kd.pair d d') (fun x => φ x.1 /\ ψ x.2) := by
 intro H enc W sp hd cs y hl hy
 have hl' : cs.length = o + (d.sz + d'.sz) := hl
 simp only [List.mapM_cons, Option.bind_eq_bind, Option.pure_def, Option.bind_eq_some_iff] at hy
 obtain ⟨a, h1, b, h2, _⟩ := hy
 rw [ho, hc] at h1
 obtain ⟨x, hx, px⟩ := h H enc W sp hd _ _ h1
 obtain ⟨z, hz, pz⟩ := hs H enc W sp hd cs b (by omega) h2
 refine ⟨(x, z), ⟨_, _, ?_, hx, hz⟩, px, pz⟩
 rw [<- List.drop_drop, List.take_append_drop]
theorem Y8 {α : Type} {P : Program} {n : Nat} {t : TypeId} {fs : Array Field} {d : Kd α} {φ : α -> Prop} (ht : P.underlying t = some (.struct fs)) (hc : P.cellsOf t = d.sz) (h : z1W P n fs.toList 0 d φ) : yv P (n + 1) t d φ := by
 intro H enc W sp hd cs y hy
 unfold DataW.trod at hy
 rw [ht] at hy
 simp only at hy
 split at hy
 ·next hl =>
  rw [Option.map_eq_some_iff] at hy
  obtain ⟨xs, h1, _⟩ := hy
  have := h H enc W sp hd cs xs (by omega) h1
  simpa using this
 ·exact jm hy (by simp)
theorem z25 {α β : Type} {P : Program} {n : Nat} {t : TypeId} {d : Kd α} {φ : α -> Prop} {f : β -> α} (hf : ∀ x, ∃ y, f y = x) (h : yv P n t d φ) : yv P n t (Kd.iso d f) (fun y => φ (f y)) := by
 intro H enc W sp hd cs y hy
 obtain ⟨x, hx, px⟩ := h H enc W sp hd cs y hy
 obtain ⟨z, rfl⟩ := hf x
 exact ⟨z, hx, px⟩
theorem z1a {α : Type} {P : Program} {n : Nat} {t : TypeId} {d : Kd α} {φ ψ : α -> Prop} (h : yv P n t d φ) (hp : ∀ x, φ x -> ψ x) : yv P n t d ψ := by
 intro H enc W sp hd cs y hy
 obtain ⟨x, hx, px⟩ := h H enc W sp hd cs y hy
 exact ⟨x, hx, hp x px⟩
theorem yq {α : Type} {P : Program} {t : TypeId} {d : Kd α} {φ : α -> Prop} : yv P 0 t d φ := by
 intro H enc W sp hd cs y hy
 simp [DataW.trod] at hy
theorem z3y {α : Type} {P : Program} {t : TypeId} {F : Kd α -> Kd α} {sz : Nat} {E : List Nat} {hs : ∀ n, (Kd.upto F sz E n).sz = sz} {hE : ∀ n q, q ∈ (Kd.upto F sz E n).E -> q ∈ E} {φ : α -> Prop}
  (h : ∀ n, yv P n t (Kd.upto F sz E n) φ) (n : Nat) : yv P n t (Kd.fix F sz E hs hE) φ := by
 intro H enc W sp hd cs y hy
 obtain ⟨x, hx, px⟩ := h n H enc W sp hd cs y hy
 exact ⟨x, ⟨n, hx⟩, px⟩
end Go.Proofs.YtnlekgadadifdaaGreat.Print
set_option linter.unusedVariables false
set_option linter.unusedSimpArgs false
namespace Go.Proofs.YtnlekgadadifdaaGreat.Print
open Go.RowKit Go.Proofs.YtnlekgadadifdaaGreatW.PrintWords Go.Proofs.YtnlekgadadifdaaGreatW.PrintLast Go.Proofs.YtnlekgadadifdaaGreatW.PrintMore
attribute [local go_sem] zn zl zr zq zh zg zm zk 
theorem z5X : (Tryz.prog.info? 3).map (fun i => (i.zero, i.size, i.bytes)) = some (some (.int .i64 0), 1, 8) := by kernel_rfl
theorem z5Y : (Tryz.prog.info? 144).map (fun i => (i.zero, i.size, i.bytes)) = some (some (.agg #[(.int .i64 0), (.int .i64 0), (.int .i64 0)]), 3, 24) := by kernel_rfl
structure S62 where
 f0 : Int
 f1 : Int
 f2 : Int
 f3 : (List S62)
def z62 : S62 := ⟨(0 : Int), (0 : Int), (0 : Int), ([] : List S62)⟩
def F62 (d : Kd S62) : Kd S62 := Kd.iso (Kd.pair (Kd.int .i64) (Kd.pair (Kd.int .i64) (Kd.pair (Kd.int .i64) (Kd.slice 62 d)))) (fun x : S62 => (x.f0, x.f1, x.f2, x.f3))
theorem z5e : Kd.Mono F62 := Kd.mono_iso _ (Kd.mono_pair (Kd.mono_const _) (Kd.mono_pair (Kd.mono_const _) (Kd.mono_pair (Kd.mono_const _) (Kd.mono_slice 62 Kd.mono_id))))
theorem sub62 : Kd.Sub F62 [62] := Kd.sub_iso _ (Kd.sub_pair (Kd.sub_const _ (by decide)) (Kd.sub_pair (Kd.sub_const _ (by decide)) (Kd.sub_pair (Kd.sub_const _ (by decide)) (Kd.sub_slice 62 (by decide) Kd.sub_id))))
theorem sz62 : ∀ n, (Kd.upto F62 4 [62] n).sz = 4 := Kd.upto_sz (fun _ => rfl)
def k62 : Kd S62 := Kd.fix F62 4 [62] sz62 (Kd.upto_E sub62)
theorem z7q {w : World} {x : S62} {cs : List Value} (h : k62.K w x cs) : ∃ A3 c3, cs = [.int .i64 x.f0, .int .i64 x.f1, .int .i64 x.f2, .slice A3 x.f3.length c3] /\ x.f3.length <= c3 /\ k62.C w A3 x.f3.length x.f3 := by
 obtain ⟨n, h⟩ := h
 cases n with
 | zero => exact h.elim
 | succ n =>
  obtain ⟨_, _, rfl, rfl, ⟨_, _, rfl, rfl, ⟨_, _, rfl, rfl, ⟨A3, c3, rfl, l3, g3⟩⟩⟩⟩ := h
  exact ⟨A3, c3, rfl, l3, Kd.fix_C g3⟩
theorem z7r (w : World) (x : S62) {A3 : Option Addr} {c3 : Nat} (l3 : x.f3.length <= c3) (g3 : k62.C w A3 x.f3.length x.f3) : k62.K w x [.int .i64 x.f0, .int .i64 x.f1, .int .i64 x.f2, .slice A3 x.f3.length c3] := by
 obtain ⟨n3, q3⟩ := Kd.fix_C_back z5e g3
 have r3 := Kd.upto_C_le z5e sz62 (show n3 <= n3 by omega) q3
 exact ⟨n3 + 1, ⟨[.int .i64 x.f0], [.int .i64 x.f1, .int .i64 x.f2, .slice A3 x.f3.length c3], rfl, rfl, ⟨[.int .i64 x.f1], [.int .i64 x.f2, .slice A3 x.f3.length c3], rfl, rfl, ⟨[.int .i64 x.f2], [.slice A3 x.f3.length c3], rfl, rfl, ⟨A3, c3, rfl, l3, r3⟩⟩⟩⟩⟩
theorem z5T (W : World) (ok : Nat -> Prop) (x : S62) {A3 : Option Addr} {c3 : Nat} (l3 : x.f3.length <= c3) (g3 : Kd.F k62 W ok A3 x.f3.length x.f3) : Kd.FK k62 W ok x [.int .i64 x.f0, .int .i64 x.f1, .int .i64 x.f2, .slice A3 x.f3.length c3] := fun W2 hW => z7r W2 x l3 (g3 W2 hW)
def zi (xs : List S62) (i : Int) : S62 := xs.getD i.toNat z62
theorem Zk {w : World} {A : Option Addr} {n : Nat} {xs : List S62} (h : Kd.C k62 w A n xs) (i : Int) (h0 : 0 <= i) (h1 : i < n) : ∃ ad A3 c3, A = some ad /\ w.cell? (ad.add (i.toNat * 4)) = some (.int .i64 (zi xs i).f0) /\ w.cell? ⟨(ad.add (i.toNat * 4)).block, (ad.add (i.toNat * 4)).off + 1, none⟩ = some (.int .i64 (zi xs i).f1) /\ w.cell? ⟨(ad.add (i.toNat * 4)).block, (ad.add (i.toNat * 4)).off + 2, none⟩ = some (.int .i64 (zi xs i).f2) /\ w.cell? ⟨(ad.add (i.toNat * 4)).block, (ad.add (i.toNat * 4)).off + 3, none⟩ = some (.slice A3 (zi xs i).f3.length c3) /\ (zi xs i).f3.length <= c3 /\ k62.C w A3 (zi xs i).f3.length (zi xs i).f3 := by
 obtain ⟨ad, c, e, _, hK, hc0⟩ := Kd.C_get h z62 i h0 h1
 have hc : ∀ j u, c[j]? = some u -> w.cell? (ad.add (i.toNat * 4 + j)) = some u := hc0
 obtain ⟨A3, c3, rfl, l3, g3⟩ := z7q hK
 exact ⟨ad, A3, c3, e, hc 0 _ rfl, by rw [<- Zz _ _ 1 (by omega)]; exact hc 1 _ rfl, by rw [<- Zz _ _ 2 (by omega)]; exact hc 2 _ rfl, by rw [<- Zz _ _ 3 (by omega)]; exact hc 3 _ rfl, l3, g3⟩
structure S81 where
 f0 : Int
 f1 : Int
 f2 : (List S62)
 f3 : (List S81)
 f4 : (List S81)
def z81 : S81 := ⟨(0 : Int), (0 : Int), ([] : List S62), ([] : List S81), ([] : List S81)⟩
def F81 (d : Kd S81) : Kd S81 := Kd.iso (Kd.pair (Kd.int .i64) (Kd.pair (Kd.int .i64) (Kd.pair (Kd.slice 62 k62) (Kd.pair (Kd.slice 81 d) (Kd.slice 81 d))))) (fun x : S81 => (x.f0, x.f1, x.f2, x.f3, x.f4))
theorem z2Z : Kd.Mono F81 := Kd.mono_iso _ (Kd.mono_pair (Kd.mono_const _) (Kd.mono_pair (Kd.mono_const _) (Kd.mono_pair (Kd.mono_const _) (Kd.mono_pair (Kd.mono_slice 81 Kd.mono_id) (Kd.mono_slice 81 Kd.mono_id)))))
theorem sub81 : Kd.Sub F81 [62, 81] := Kd.sub_iso _ (Kd.sub_pair (Kd.sub_const _ (by decide)) (Kd.sub_pair (Kd.sub_const _ (by decide)) (Kd.sub_pair (Kd.sub_const _ (by decide)) (Kd.sub_pair (Kd.sub_slice 81 (by decide) Kd.sub_id) (Kd.sub_slice 81 (by decide) Kd.sub_id)))))
theorem z6U : ∀ n, (Kd.upto F81 5 [62, 81] n).sz = 5 := Kd.upto_sz (fun _ => rfl)
def k81 : Kd S81 := Kd.fix F81 5 [62, 81] z6U (Kd.upto_E sub81)
theorem z4G {w : World} {x : S81} {cs : List Value} (h : k81.K w x cs) : ∃ A2 c2 A3 c3 A4 c4, cs = [.int .i64 x.f0, .int .i64 x.f1, .slice A2 x.f2.length c2, .slice A3 x.f3.length c3, .slice A4 x.f4.length c4] /\ x.f2.length <= c2 /\ k62.C w A2 x.f2.length x.f2 /\ x.f3.length <= c3 /\ k81.C w A3 x.f3.length x.f3 /\ x.f4.length <= c4 /\ k81.C w A4 x.f4.length x.f4 := by
 obtain ⟨n, h⟩ := h
 cases n with
 | zero => exact h.elim
 | succ n =>
  obtain ⟨_, _, rfl, rfl, ⟨_, _, rfl, rfl, ⟨_, _, rfl, ⟨A2, c2, rfl, l2, g2⟩, ⟨_, _, rfl, ⟨A3, c3, rfl, l3, g3⟩, ⟨A4, c4, rfl, l4, g4⟩⟩⟩⟩⟩ := h
  exact ⟨A2, c2, A3, c3, A4, c4, rfl, l2, g2, l3, Kd.fix_C g3, l4, Kd.fix_C g4⟩
theorem z7p (w : World) (x : S81) {A2 : Option Addr} {c2 : Nat} (l2 : x.f2.length <= c2) (g2 : k62.C w A2 x.f2.length x.f2) {A3 : Option Addr} {c3 : Nat} (l3 : x.f3.length <= c3) (g3 : k81.C w A3 x.f3.length x.f3) {A4 : Option Addr} {c4 : Nat} (l4 : x.f4.length <= c4) (g4 : k81.C w A4 x.f4.length x.f4) : k81.K w x [.int .i64 x.f0, .int .i64 x.f1, .slice A2 x.f2.length c2, .slice A3 x.f3.length c3, .slice A4 x.f4.length c4] := by
 obtain ⟨n3, q3⟩ := Kd.fix_C_back z2Z g3
 obtain ⟨n4, q4⟩ := Kd.fix_C_back z2Z g4
 have r3 := Kd.upto_C_le z2Z z6U (show n3 <= (max n3 n4) by omega) q3
 have r4 := Kd.upto_C_le z2Z z6U (show n4 <= (max n3 n4) by omega) q4
 exact ⟨(max n3 n4) + 1, ⟨[.int .i64 x.f0], [.int .i64 x.f1, .slice A2 x.f2.length c2, .slice A3 x.f3.length c3, .slice A4 x.f4.length c4], rfl, rfl, ⟨[.int .i64 x.f1], [.slice A2 x.f2.length c2, .slice A3 x.f3.length c3, .slice A4 x.f4.length c4], rfl, rfl, ⟨[.slice A2 x.f2.length c2], [.slice A3 x.f3.length c3, .slice A4 x.f4.length c4], rfl, ⟨A2, c2, rfl, l2, g2⟩, ⟨[.slice A3 x.f3.length c3], [.slice A4 x.f4.length c4], rfl, ⟨A3, c3, rfl, l3, r3⟩, ⟨A4, c4, rfl, l4, r4⟩⟩⟩⟩⟩⟩
def zu (xs : List S81) (i : Int) : S81 := xs.getD i.toNat z81
theorem yH {w : World} {A : Option Addr} {n : Nat} {xs : List S81} (h : Kd.C k81 w A n xs) (i : Int) (h0 : 0 <= i) (h1 : i < n) : ∃ ad A2 c2 A3 c3 A4 c4, A = some ad /\ w.cell? (ad.add (i.toNat * 5)) = some (.int .i64 (zu xs i).f0) /\ w.cell? ⟨(ad.add (i.toNat * 5)).block, (ad.add (i.toNat * 5)).off + 1, none⟩ = some (.int .i64 (zu xs i).f1) /\ w.cell? ⟨(ad.add (i.toNat * 5)).block, (ad.add (i.toNat * 5)).off + 2, none⟩ = some (.slice A2 (zu xs i).f2.length c2) /\ w.cell? ⟨(ad.add (i.toNat * 5)).block, (ad.add (i.toNat * 5)).off + 3, none⟩ = some (.slice A3 (zu xs i).f3.length c3) /\ w.cell? ⟨(ad.add (i.toNat * 5)).block, (ad.add (i.toNat * 5)).off + 4, none⟩ = some (.slice A4 (zu xs i).f4.length c4) /\ (zu xs i).f2.length <= c2 /\ k62.C w A2 (zu xs i).f2.length (zu xs i).f2 /\ (zu xs i).f3.length <= c3 /\ k81.C w A3 (zu xs i).f3.length (zu xs i).f3 /\ (zu xs i).f4.length <= c4 /\ k81.C w A4 (zu xs i).f4.length (zu xs i).f4 := by
 obtain ⟨ad, c, e, _, hK, hc0⟩ := Kd.C_get h z81 i h0 h1
 have hc : ∀ j u, c[j]? = some u -> w.cell? (ad.add (i.toNat * 5 + j)) = some u := hc0
 obtain ⟨A2, c2, A3, c3, A4, c4, rfl, l2, g2, l3, g3, l4, g4⟩ := z4G hK
 exact ⟨ad, A2, c2, A3, c3, A4, c4, e, hc 0 _ rfl, by rw [<- Zz _ _ 1 (by omega)]; exact hc 1 _ rfl, by rw [<- Zz _ _ 2 (by omega)]; exact hc 2 _ rfl, by rw [<- Zz _ _ 3 (by omega)]; exact hc 3 _ rfl, by rw [<- Zz _ _ 4 (by omega)]; exact hc 4 _ rfl, l2, g2, l3, g3, l4, g4⟩
structure S76 where
 f0 : ByteArray
 f1 : Int
 f2 : Int
def z76 : S76 := ⟨(⟨#[]⟩ : ByteArray), (0 : Int), (0 : Int)⟩
def k76 : Kd S76 := Kd.iso (Kd.pair Kd.string (Kd.pair (Kd.int .i64) (Kd.int .i64))) (fun x : S76 => (x.f0, x.f1, x.f2))
theorem z4H {w : World} {x : S76} {cs : List Value} (h : k76.K w x cs) : cs = [.string x.f0, .int .i64 x.f1, .int .i64 x.f2] := by
 obtain ⟨_, _, rfl, rfl, ⟨_, _, rfl, rfl, rfl⟩⟩ := h
 exact rfl
theorem k76_mk (w : World) (x : S76)  : k76.K w x [.string x.f0, .int .i64 x.f1, .int .i64 x.f2] := ⟨[.string x.f0], [.int .i64 x.f1, .int .i64 x.f2], rfl, rfl, ⟨[.int .i64 x.f1], [.int .i64 x.f2], rfl, rfl, rfl⟩⟩
theorem k76_mkM (w : World) (base : Nat) (ok : Nat -> Prop) (x : S76)  : k76.M w base ok x [.string x.f0, .int .i64 x.f1, .int .i64 x.f2] := ⟨[.string x.f0], [.int .i64 x.f1, .int .i64 x.f2], rfl, rfl, ⟨[.int .i64 x.f1], [.int .i64 x.f2], rfl, rfl, rfl⟩⟩
def zp (xs : List S76) (i : Int) : S76 := xs.getD i.toNat z76
theorem Zs {w : World} {A : Option Addr} {n : Nat} {xs : List S76} (h : Kd.C k76 w A n xs) (i : Int) (h0 : 0 <= i) (h1 : i < n) : ∃ ad , A = some ad /\ w.cell? (ad.add (i.toNat * 3)) = some (.string (zp xs i).f0) /\ w.cell? ⟨(ad.add (i.toNat * 3)).block, (ad.add (i.toNat * 3)).off + 1, none⟩ = some (.int .i64 (zp xs i).f1) /\ w.cell? ⟨(ad.add (i.toNat * 3)).block, (ad.add (i.toNat * 3)).off + 2, none⟩ = some (.int .i64 (zp xs i).f2) := by
 obtain ⟨ad, c, e, _, hK, hc0⟩ := Kd.C_get h z76 i h0 h1
 have hc : ∀ j u, c[j]? = some u -> w.cell? (ad.add (i.toNat * 3 + j)) = some u := hc0
 obtain rfl := z4H hK
 exact ⟨ad, e, hc 0 _ rfl, by rw [<- Zz _ _ 1 (by omega)]; exact hc 1 _ rfl, by rw [<- Zz _ _ 2 (by omega)]; exact hc 2 _ rfl⟩
structure S93 where
 f0 : Int
 f1 : Int
 f2 : Int
 f3 : Int
 f4 : Int
def z93 : S93 := ⟨(0 : Int), (0 : Int), (0 : Int), (0 : Int), (0 : Int)⟩
def k93 : Kd S93 := Kd.iso (Kd.pair (Kd.int .i64) (Kd.pair (Kd.int .i64) (Kd.pair (Kd.int .i64) (Kd.pair (Kd.int .i64) (Kd.int .i64))))) (fun x : S93 => (x.f0, x.f1, x.f2, x.f3, x.f4))
theorem z7o {w : World} {x : S93} {cs : List Value} (h : k93.K w x cs) : cs = [.int .i64 x.f0, .int .i64 x.f1, .int .i64 x.f2, .int .i64 x.f3, .int .i64 x.f4] := by
 obtain ⟨_, _, rfl, rfl, ⟨_, _, rfl, rfl, ⟨_, _, rfl, rfl, ⟨_, _, rfl, rfl, rfl⟩⟩⟩⟩ := h
 exact rfl
theorem z6s {w : World} {base : Nat} {ok : Nat -> Prop} {x : S93} {cs : List Value} (h : k93.M w base ok x cs) : cs = [.int .i64 x.f0, .int .i64 x.f1, .int .i64 x.f2, .int .i64 x.f3, .int .i64 x.f4] := by
 obtain ⟨_, _, rfl, rfl, ⟨_, _, rfl, rfl, ⟨_, _, rfl, rfl, ⟨_, _, rfl, rfl, rfl⟩⟩⟩⟩ := h
 exact rfl
theorem z5S (w : World) (base : Nat) (ok : Nat -> Prop) (x : S93)  : k93.M w base ok x [.int .i64 x.f0, .int .i64 x.f1, .int .i64 x.f2, .int .i64 x.f3, .int .i64 x.f4] := ⟨[.int .i64 x.f0], [.int .i64 x.f1, .int .i64 x.f2, .int .i64 x.f3, .int .i64 x.f4], rfl, rfl, ⟨[.int .i64 x.f1], [.int .i64 x.f2, .int .i64 x.f3, .int .i64 x.f4], rfl, rfl, ⟨[.int .i64 x.f2], [.int .i64 x.f3, .int .i64 x.f4], rfl, rfl, ⟨[.int .i64 x.f3], [.int .i64 x.f4], rfl, rfl, rfl⟩⟩⟩⟩
def ya (xs : List S93) (i : Int) : S93 := xs.getD i.toNat z93
theorem z5q {w : World} {A : Option Addr} {n : Nat} {xs : List S93} (h : Kd.C k93 w A n xs) (i : Int) (h0 : 0 <= i) (h1 : i < n) : ∃ ad , A = some ad /\ w.cell? (ad.add (i.toNat * 5)) = some (.int .i64 (ya xs i).f0) /\ w.cell? ⟨(ad.add (i.toNat * 5)).block, (ad.add (i.toNat * 5)).off + 1, none⟩ = some (.int .i64 (ya xs i).f1) /\ w.cell? ⟨(ad.add (i.toNat * 5)).block, (ad.add (i.toNat * 5)).off + 2, none⟩ = some (.int .i64 (ya xs i).f2) /\ w.cell? ⟨(ad.add (i.toNat * 5)).block, (ad.add (i.toNat * 5)).off + 3, none⟩ = some (.int .i64 (ya xs i).f3) /\ w.cell? ⟨(ad.add (i.toNat * 5)).block, (ad.add (i.toNat * 5)).off + 4, none⟩ = some (.int .i64 (ya xs i).f4) := by
 obtain ⟨ad, c, e, _, hK, hc0⟩ := Kd.C_get h z93 i h0 h1
 have hc : ∀ j u, c[j]? = some u -> w.cell? (ad.add (i.toNat * 5 + j)) = some u := hc0
 obtain rfl := z7o hK
 exact ⟨ad, e, hc 0 _ rfl, by rw [<- Zz _ _ 1 (by omega)]; exact hc 1 _ rfl, by rw [<- Zz _ _ 2 (by omega)]; exact hc 2 _ rfl, by rw [<- Zz _ _ 3 (by omega)]; exact hc 3 _ rfl, by rw [<- Zz _ _ 4 (by omega)]; exact hc 4 _ rfl⟩
structure z1v where
 f0 : Int
 f1 : Int
def z32 : Kd z1v := Kd.iso (Kd.pair (Kd.int .i64) (Kd.int .i64)) (fun x : z1v => (x.f0, x.f1))
theorem z4I (w : World) (base : Nat) (ok : Nat -> Prop) (x : z1v)  : z32.M w base ok x [.int .i64 x.f0, .int .i64 x.f1] := ⟨[.int .i64 x.f0], [.int .i64 x.f1], rfl, rfl, rfl⟩
structure Z4 where
 f0 : Int
 f1 : Int
 f2 : Int
def z144 : Z4 := ⟨(0 : Int), (0 : Int), (0 : Int)⟩
def Ye : Kd Z4 := Kd.iso (Kd.pair (Kd.int .i64) (Kd.pair (Kd.int .i64) (Kd.int .i64))) (fun x : Z4 => (x.f0, x.f1, x.f2))
theorem z3D {w : World} {x : Z4} {cs : List Value} (h : Ye.K w x cs) : cs = [.int .i64 x.f0, .int .i64 x.f1, .int .i64 x.f2] := by
 obtain ⟨_, _, rfl, rfl, ⟨_, _, rfl, rfl, rfl⟩⟩ := h
 exact rfl
theorem z1O (w : World) (base : Nat) (ok : Nat -> Prop) (x : Z4)  : Ye.M w base ok x [.int .i64 x.f0, .int .i64 x.f1, .int .i64 x.f2] := ⟨[.int .i64 x.f0], [.int .i64 x.f1, .int .i64 x.f2], rfl, rfl, ⟨[.int .i64 x.f1], [.int .i64 x.f2], rfl, rfl, rfl⟩⟩
def Zl (xs : List Z4) (i : Int) : Z4 := xs.getD i.toNat z144
theorem z2A {w : World} {A : Option Addr} {n : Nat} {xs : List Z4} (h : Kd.C Ye w A n xs) (i : Int) (h0 : 0 <= i) (h1 : i < n) : ∃ ad , A = some ad /\ w.cell? (ad.add (i.toNat * 3)) = some (.int .i64 (Zl xs i).f0) /\ w.cell? ⟨(ad.add (i.toNat * 3)).block, (ad.add (i.toNat * 3)).off + 1, none⟩ = some (.int .i64 (Zl xs i).f1) /\ w.cell? ⟨(ad.add (i.toNat * 3)).block, (ad.add (i.toNat * 3)).off + 2, none⟩ = some (.int .i64 (Zl xs i).f2) := by
 obtain ⟨ad, c, e, _, hK, hc0⟩ := Kd.C_get h z144 i h0 h1
 have hc : ∀ j u, c[j]? = some u -> w.cell? (ad.add (i.toNat * 3 + j)) = some u := hc0
 obtain rfl := z3D hK
 exact ⟨ad, e, hc 0 _ rfl, by rw [<- Zz _ _ 1 (by omega)]; exact hc 1 _ rfl, by rw [<- Zz _ _ 2 (by omega)]; exact hc 2 _ rfl⟩
def Y5 (xs : List (List Int)) (i : Int) : (List Int) := xs.getD i.toNat ([] : List Int)
theorem z48 {w : World} {A : Option Addr} {n : Nat} {xs : List (List Int)} (h : Kd.C (Kd.slice 3 (Kd.int .i64)) w A n xs) (i : Int) (h0 : 0 <= i) (h1 : i < n) : ∃ ad A0 c0, A = some ad /\ w.cell? (ad.add i.toNat) = some (.slice A0 (Y5 xs i).length c0) /\ (Y5 xs i).length <= c0 /\ (Kd.int .i64).C w A0 (Y5 xs i).length (Y5 xs i) := by
 obtain ⟨ad, c, e, _, hK, hc0⟩ := Kd.C_get h ([] : List Int) i h0 h1
 have hc : ∀ j u, c[j]? = some u -> w.cell? (ad.add (i.toNat * 1 + j)) = some u := hc0
 obtain ⟨A0, c0, rfl, l0, g0⟩ := hK
 exact ⟨ad, A0, c0, e, by have hq := hc 0 _ rfl; rwa [Nat.mul_one, Nat.add_zero] at hq, l0, g0⟩
structure ZT where
 f0 : Int
 f1 : S81
def Y4 : Kd ZT := Kd.iso (Kd.pair (Kd.int .i64) k81) (fun x : ZT => (x.f0, x.f1))
theorem z6t {w : World} {x : ZT} {cs : List Value} (h : Y4.K w x cs) : ∃ A3 c3 A4 c4 A5 c5, cs = (Vbq x.f0 x.f1.f0 x.f1.f1 A3 x.f1.f2 c3 A4 x.f1.f3 c4 A5 x.f1.f4 c5) /\ x.f1.f2.length <= c3 /\ k62.C w A3 x.f1.f2.length x.f1.f2 /\ x.f1.f3.length <= c4 /\ k81.C w A4 x.f1.f3.length x.f1.f3 /\ x.f1.f4.length <= c5 /\ k81.C w A5 x.f1.f4.length x.f1.f4 := by
 obtain ⟨_, _, rfl, rfl, s1⟩ := h
 obtain ⟨A3, c3, A4, c4, A5, c5, rfl, l3, g3, l4, g4, l5, g5⟩ := z4G s1
 exact ⟨A3, c3, A4, c4, A5, c5, rfl, l3, g3, l4, g4, l5, g5⟩
theorem z5U (w : World) (x : ZT) {A3 : Option Addr} {c3 : Nat} (l3 : x.f1.f2.length <= c3) (g3 : k62.C w A3 x.f1.f2.length x.f1.f2) {A4 : Option Addr} {c4 : Nat} (l4 : x.f1.f3.length <= c4) (g4 : k81.C w A4 x.f1.f3.length x.f1.f3) {A5 : Option Addr} {c5 : Nat} (l5 : x.f1.f4.length <= c5) (g5 : k81.C w A5 x.f1.f4.length x.f1.f4) : Y4.K w x (Vbq x.f0 x.f1.f0 x.f1.f1 A3 x.f1.f2 c3 A4 x.f1.f3 c4 A5 x.f1.f4 c5) := ⟨[.int .i64 x.f0], [.int .i64 x.f1.f0, .int .i64 x.f1.f1, .slice A3 x.f1.f2.length c3, .slice A4 x.f1.f3.length c4, .slice A5 x.f1.f4.length c5], rfl, rfl, (z7p w x.f1 l3 g3 l4 g4 l5 g5)⟩
def yG.f (a0 : Int) : Option (Bool) := if a0 >= 97 then (if a0 <= 122 then (some true) else (if a0 >= 48 then (if a0 <= 57 then (some true) else (some (a0 == 95))) else (some (a0 == 95)))) else (if a0 >= 48 then (if a0 <= 57 then (some true) else (some (a0 == 95))) else (some (a0 == 95)))
theorem yG.calls (a0 : Int) (r : Bool) (w : World) (h : yG.f a0 = some r) :
  Calls Tryz.prog 129 #[.int .u8 a0] w fun e w' => e = .returned (.bool r) /\ zT w w' := by
 have H := h
 clear h
 obtain ⟨c2b0, H⟩ | ⟨c2b0, H⟩ := ei H
 ·obtain ⟨c6b0, H⟩ | ⟨c6b0, H⟩ := ei H
  ·obtain rfl := sj H
   go_enter Tryz.func129, Tryz.ntmps129
   go_wp2
   go_ret
   exact ⟨rs, dr⟩
  obtain ⟨c7b0, H⟩ | ⟨c7b0, H⟩ := iE H
  ·obtain rfl := sj H
   go_enter Tryz.func129, Tryz.ntmps129
   go_wp2
   go_ret
   exact ⟨rs, dr⟩
  obtain rfl := sj H
  go_enter Tryz.func129, Tryz.ntmps129
  go_wp2
  go_ret
  exact ⟨rs, dr⟩
 obtain ⟨c3b0, H⟩ | ⟨c3b0, H⟩ := iE H
 ·obtain rfl := sj H
  go_enter Tryz.func129, Tryz.ntmps129
  go_wp2
  go_ret
  exact ⟨rs, dr⟩
 obtain ⟨c4b0, H⟩ | ⟨c4b0, H⟩ := ei H
 ·obtain rfl := sj H
  go_enter Tryz.func129, Tryz.ntmps129
  go_wp2
  go_ret
  exact ⟨rs, dr⟩
 obtain ⟨c5b0, H⟩ | ⟨c5b0, H⟩ := iE H
 ·obtain rfl := sj H
  go_enter Tryz.func129, Tryz.ntmps129
  go_wp2
  go_ret
  exact ⟨rs, dr⟩
 obtain rfl := sj H
 go_enter Tryz.func129, Tryz.ntmps129
 go_wp2
 go_ret
 exact ⟨rs, dr⟩
mutual
def zF.j0 : Nat -> ByteArray -> Bool -> Option (Bool)
 | 0, _, _ => none
 | k + 1, x0, x20 => if x20 = true then (some false) else (zF.l0 k x0 0)
def zF.l0 : Nat -> ByteArray -> Int -> Option (Bool)
 | 0, _, _ => none
 | k + 1, x0, x3 => if x3 < (x0.size : Int) then (if 0 <= x3 then ((yG.f (bt x0 x3)).bind fun t113 => (if t113 = true then (zF.l0 k x0 (wrap64 (x3 + 1))) else (some false))) else (none)) else (if x0.toList = ([119, 105, 100, 116, 104] : List UInt8) then (some false) else (if x0.toList = ([118, 97, 114] : List UInt8) then (some false) else (if x0.toList = ([105, 102] : List UInt8) then (some false) else (if x0.toList = ([101, 108, 115, 101] : List UInt8) then (some false) else (if x0.toList = ([119, 104, 105, 108, 101] : List UInt8) then (some false) else (if x0.toList = ([111, 117, 116] : List UInt8) then (some false) else (if x0.toList = ([112, 105, 99, 107] : List UInt8) then (some false) else (if x0.toList = ([110, 101, 101, 100] : List UInt8) then (some false) else (if x0.toList = ([109, 117, 115, 116] : List UInt8) then (some false) else (if x0.toList = ([108, 101, 118, 101, 108] : List UInt8) then (some false) else (if x0.toList = ([115, 101, 101, 115] : List UInt8) then (some false) else (some true))))))))))))
end
def zF.f (k : Nat) (a0 : ByteArray) : Option (Bool) := if a0.toList = ([] : List UInt8) then (zF.j0 k a0 true) else (if (a0.size : Int) > 12 then (zF.j0 k a0 true) else (if 0 < (a0.size : Int) then (if (bt a0 0) < 97 then (zF.j0 k a0 true) else (zF.j0 k a0 (decide ((bt a0 0) > 122)))) else (none)))
theorem zF.calls (k : Nat) (a0 : ByteArray) (r : Bool) (w : World) (h : zF.f k a0 = some r) :
  Calls Tryz.prog 123 #[.string a0] w fun e w' => e = .returned (.bool r) /\ zT w w' := by
 have H := h
 clear h
 have HC2 := am H
 clear H
 go_enter Tryz.func123, Tryz.ntmps123
 go_upto_region 1 with (fail)
 go_cut [20] (fun v20 wc => ∃ (kq : Nat) (x20_1 : Bool), v20 = .bool x20_1 /\ Aside0 (zF.j0 kq a0 x20_1 = some r) /\ Aside0 (kq <= k) /\ zT w wc)
 case first =>
  have H := HC2.out
  clear HC2
  obtain ⟨c3b0, c3b1, H⟩ | ⟨c3, c3b0, c3b1, H⟩ := iq H
  ·(first | rw [c3b0] | (simp only [zP, Zr]; rw [c3b0]) | skip)
   have H' := am H
   clear H
   go_wp2
   go_meet
   case rel => exact ⟨_, (true), rs, H', ⟨by first | omega | exact jk _⟩, dr⟩
  (first | rw [c3b0] | (simp only [zP, Zr]; rw [c3b0]) | skip)
  obtain ⟨c4b0, H⟩ | ⟨c4b0, H⟩ := iE H
  ·have c4 := of_decide_eq_true c4b0
   have c4b1 : decide (12 < a0.size) = true := dT (by omega)
   clear c4
   have H' := am H
   clear H
   go_wp2
   go_meet
   case rel => exact ⟨_, (true), rs, H', ⟨by first | omega | exact jk _⟩, dr⟩
  have c4 := of_decide_eq_false c4b0
  have c4b1 : decide (12 < a0.size) = false := dF (by omega)
  clear c4
  obtain ⟨c5b0, H⟩ := pd H
  have c5 := of_decide_eq_true c5b0
  have c5b1 : decide (0 < a0.size) = true := dT (by omega)
  clear c5
  obtain ⟨c7b0, H⟩ | ⟨c7b0, H⟩ := iE H
  ·have H' := am H
   clear H
   have p6 : 0 <= (0 : Int) := (by omega)
   have q6 : 0 < a0.size := (by have : (0 : Int) < (a0.size : Int) := od; omega)
   have hx6 : ∀ h : 0 < a0.size, ((a0[0]'h).toNat : Int) = bt a0 0 := YH a0 0
   clear p6
   have qi6 : (0 < (a0.size : Int)) = True := eT (od)
   replace q6 := eT q6
   go_wp2
   go_meet
   case rel => exact ⟨_, (true), rs, H', ⟨by first | omega | exact jk _⟩, dr⟩
  have H' := am H
  clear H
  have p6 : 0 <= (0 : Int) := (by omega)
  have q6 : 0 < a0.size := (by have : (0 : Int) < (a0.size : Int) := od; omega)
  have hx6 : ∀ h : 0 < a0.size, ((a0[0]'h).toNat : Int) = bt a0 0 := YH a0 0
  clear p6
  have qi6 : (0 < (a0.size : Int)) = True := eT (od)
  replace q6 := eT q6
  have p8 : 0 <= (0 : Int) := (by omega)
  have q8 : 0 < a0.size := (by have : (0 : Int) < (a0.size : Int) := od; omega)
  have hx8 : ∀ h : 0 < a0.size, ((a0[0]'h).toNat : Int) = bt a0 0 := YH a0 0
  clear p8
  have qi8 : (0 < (a0.size : Int)) = True := eT (od)
  replace q8 := eT q8
  go_wp2
  go_meet
  case rel => exact ⟨_, (decide ((bt a0 0) > 122)), rs, H', ⟨by first | omega | exact jk _⟩, dr⟩
 case rest =>
  clear HC2
  obtain ⟨kq, x20_1, rfl, HA, HJ1, ⟨mc1, rfl⟩⟩ := hcut
  cases kq with
  | zero => exact jm HA.out (by simp [zF.j0])
  | succ kj1 =>
   have H := HA.out
   clear HA
   simp only [zF.j0] at H
   replace H := bo H
   obtain ⟨rfl, H⟩ | ⟨rfl, H⟩ := H
   ·obtain rfl := sj H
    go_wp2
    go_ret
    exact ⟨rs, dr⟩
   have H' := am H
   clear H
   go_wp2
   go_loopg [3] kj1 (fun kq v3 w' => ∃ (x3_2 : Int), v3 = .int .i64 x3_2 /\ Aside0 (zF.l0 kq a0 x3_2 = some r) /\ Aside0 (kq <= kj1) /\ zT w w')
   case atStart => exact ⟨(0), rs, H', ⟨jk _⟩, dr⟩
   case round =>
    clear H'
    obtain ⟨x3_2, rfl, HA, HK2, ⟨m2, rfl⟩⟩ := hrel
    cases gk with
    | zero => exact jm HA.out (by simp [zF.l0])
    | succ k2 =>
     have H := HA.out
     clear HA
     simp only [zF.l0] at H
     obtain ⟨c10b0, H⟩ | ⟨c10b0, H⟩ := iE H
     ·obtain ⟨c11b0, H⟩ := pd H
      obtain ⟨t113, A13, H⟩ := be H
      replace H := ob H
      obtain ⟨rfl, H⟩ | ⟨rfl, H⟩ := H
      ·obtain rfl := sj H
       have p12 : 0 <= (x3_2 : Int) := od
       have q12 : x3_2 < (a0.size : Int) := od
       have hx12 := YH a0 x3_2
       replace p12 := eT p12
       replace q12 := eT q12
       go_wp2_with (first | ((with_reducible refine zz (f := 129) rfl ?_); refine gL (some 30) rfl rfl Tryz.func129 #[.int .u8 (bt a0 x3_2)] rfl ?_; (with_reducible refine (yG.calls (bt a0 x3_2) false _ A13.out).mono ?_); rintro e w' ⟨rfl, ⟨nd, rfl⟩⟩; refine ⟨_, rfl, ?_⟩))
       go_ret
       exact ⟨rs, dr⟩
      have H' := am H
      clear H
      have p12 : 0 <= (x3_2 : Int) := od
      have q12 : x3_2 < (a0.size : Int) := od
      have hx12 := YH a0 x3_2
      replace p12 := eT p12
      replace q12 := eT q12
      go_wp2_with (first | ((with_reducible refine zz (f := 129) rfl ?_); refine gL (some 30) rfl rfl Tryz.func129 #[.int .u8 (bt a0 x3_2)] rfl ?_; (with_reducible refine (yG.calls (bt a0 x3_2) true _ A13.out).mono ?_); rintro e w' ⟨rfl, ⟨nd, rfl⟩⟩; refine ⟨_, rfl, ?_⟩))
      go_roundg k2
      case measure => have := HJ1.out; have := HK2.out; omega
      case rel => exact ⟨(wrap64 (x3_2 + 1)), rs, H', ⟨by have := HJ1.out; have := HK2.out; omega⟩, dr⟩
     obtain ⟨c15b0, c15b1, H⟩ | ⟨c15, c15b0, c15b1, H⟩ := iq H
     ·obtain rfl := sj H
      go_wp2
      go_ret
      exact ⟨rs, dr⟩
     obtain ⟨c16b0, c16b1, H⟩ | ⟨c16, c16b0, c16b1, H⟩ := iq H
     ·obtain rfl := sj H
      go_wp2
      go_ret
      exact ⟨rs, dr⟩
     obtain ⟨c17b0, c17b1, H⟩ | ⟨c17, c17b0, c17b1, H⟩ := iq H
     ·obtain rfl := sj H
      go_wp2
      go_ret
      exact ⟨rs, dr⟩
     obtain ⟨c18b0, c18b1, H⟩ | ⟨c18, c18b0, c18b1, H⟩ := iq H
     ·obtain rfl := sj H
      go_wp2
      go_ret
      exact ⟨rs, dr⟩
     obtain ⟨c19b0, c19b1, H⟩ | ⟨c19, c19b0, c19b1, H⟩ := iq H
     ·obtain rfl := sj H
      go_wp2
      go_ret
      exact ⟨rs, dr⟩
     obtain ⟨c20b0, c20b1, H⟩ | ⟨c20, c20b0, c20b1, H⟩ := iq H
     ·obtain rfl := sj H
      go_wp2
      go_ret
      exact ⟨rs, dr⟩
     obtain ⟨c21b0, c21b1, H⟩ | ⟨c21, c21b0, c21b1, H⟩ := iq H
     ·obtain rfl := sj H
      go_wp2
      go_ret
      exact ⟨rs, dr⟩
     obtain ⟨c22b0, c22b1, H⟩ | ⟨c22, c22b0, c22b1, H⟩ := iq H
     ·obtain rfl := sj H
      go_wp2
      go_ret
      exact ⟨rs, dr⟩
     obtain ⟨c23b0, c23b1, H⟩ | ⟨c23, c23b0, c23b1, H⟩ := iq H
     ·obtain rfl := sj H
      go_wp2
      go_ret
      exact ⟨rs, dr⟩
     obtain ⟨c24b0, c24b1, H⟩ | ⟨c24, c24b0, c24b1, H⟩ := iq H
     ·obtain rfl := sj H
      go_wp2
      go_ret
      exact ⟨rs, dr⟩
     obtain ⟨c25, c25b0, c25b1, H⟩ | ⟨c25b0, c25b1, H⟩ := qi H
     ·obtain rfl := sj H
      go_wp2
      go_ret
      exact ⟨rs, dr⟩
     obtain rfl := sj H
     go_wp2
     go_ret
     exact ⟨rs, dr⟩
theorem z0t {H : Type} {P : Program} (w : World) {ops : Array Oper} {rest : List Oper} {o : Oper} {a : Act} {Q : Exit -> Act -> World -> Prop}
  (hg : o.guard = none) (m x : Operand) (t : TypeId) (hop : o.op = Op.lookup t m x false)
  (k e : TypeId) (K : Maps.Keyed P k) (ht : P.underlying t = some (.map k e)) (he : P.underlying e = some .bool) (hz : (zeroValue e).run P w = .ok (.bool false) w) (b n : Nat) (D : DataW H)
  (hm : a.eval m = .map (some b)) (hown : w.ownsMap P k (plainElem P e) b n D) (key : Value) (kl : Lit) (hx : a.eval x = key) (hkey : keyOf P k key = some kl)
  (c : Bool) (hat : D.atKey kl (.lit (.bool false)) = .lit (.bool c))
  (hK : wpList P ops Q rest (a.put o.dst (.bool c)) w) :
  wpList P ops Q (o :: rest) a w := by
 refine wpList_plain hg fun K' hK' => ?_
 obtain ⟨v, ps, hrun, hv⟩ := hown.lookup K ht hz (plainElem_bool he false) hkey
 rw [hat] at hv
 have hvb : v = .bool c := by
  unfold plainElem at hv
  rw [he] at hv
  cases v <;> simp at hv
  exact congrArg _ hv.1
 subst hvb
 unfold Oper.wp
 simp [execOp, hop, hm, hx, hrun, Result.andThen]
 exact hK' _ _ hK
def z0b : List ByteArray -> DataW Unit
 | [] => .map []
 | s :: r => (z0b r).put (.string s.data.toList) (.lit (.bool true))
def met (ns : List ByteArray) (s : ByteArray) : Bool := ns.any fun n => n.data.toList == s.data.toList
theorem z2i : ∀ ns, Maps.IsMap (z0b ns)
 | [] => ⟨_, rfl⟩
 | s :: r => by
  obtain ⟨es, e⟩ := z2i r
  rw [z0b, e]
  exact ⟨_, rfl⟩
theorem z5h (l : List UInt8) : WideAt.IsKeyLit (.string l) := by trivial
theorem z2W (s : ByteArray) : ∀ ns, (z0b ns).atKey (.string s.data.toList) (.lit (.bool false)) = .lit (.bool (met ns s))
 | [] => rfl
 | n :: r => by
  by_cases h : n.data.toList = s.data.toList
  ·rw [z0b, h, Maps.atKey_put_same (z2i r) (z5h _)]
   have hb : (n.data.toList == s.data.toList) = true := by rw [h]; exact beq_self_eq_true _
   unfold met
   rw [List.any_cons, hb, Bool.true_or]
  ·rw [z0b, Maps.atKey_put_other (by intro e; injection e with e; exact h e.symm), z2W s r]
   have hb : (n.data.toList == s.data.toList) = false := by simpa using h
   unfold met
   rw [List.any_cons, hb, Bool.false_or]
def zH.l0 : Nat -> List ByteArray -> Int -> List S76 -> Int -> Option Int
 | 0, _, _, _, _ => none
 | k + 1, ns, x6, x1, x28 => if x28 < (x1.length : Int) then (if 0 <= x28 then ((zF.f k (zp x1 x28).f0).bind fun t => if t = true then (if met ns (zp x1 x28).f0 = true then some 1 else if (zp x1 x28).f1 < 0 then some 1 else if (zp x1 x28).f1 > 47 then some 1 else if (zp x1 x28).f2 < 1 then some 1 else if (zp x1 x28).f2 > 8 then some 1 else zH.l0 k ((zp x1 x28).f0 :: ns) (wrap64 (x6 + (zp x1 x28).f2)) x1 (wrap64 (x28 + 1))) else some 1) else none) else if x6 > 48 then some 1 else some 0
def zH.f (k : Nat) (a0 : Int) (l1 : List S76) : Option Int :=
 if a0 < 1 then some 1 else if a0 > 8 then some 1 else if (l1.length : Int) < 1 then some 1 else if (l1.length : Int) > 18 then some 1 else zH.l0 k [] 0 l1 0
theorem yu {α : Type} {c : Prop} [Decidable c] {a b r : α} (h : (if c then a else b) = r) : (decide c = true /\ a = r) \/ (decide c = false /\ b = r) := by
 by_cases hc : c
 ·exact .inl ⟨dT hc, by rw [jb hc] at h; exact h⟩
 ·exact .inr ⟨dF hc, by rw [ja hc] at h; exact h⟩
theorem z33 {α : Type} {t : Bool} {a b r : α} (h : (if t = true then a else b) = r) : (t = true /\ a = r) \/ (t = false /\ b = r) := by
 cases t
 ·exact .inr ⟨rfl, by simpa using h⟩
 ·exact .inl ⟨rfl, by simpa using h⟩
theorem own_b {H : Type} {P : Program} {k : TypeId} {R : Value -> Option (DataW H × List MemPlace)} {w w1 : World} {b n : Nat} {D : DataW H} (h : w.ownsMap P k R b n D) (hb : Below w.heap.size w w1) : w1.ownsMap P k R b n D :=
 h.kept (z0Y hb none) (by simp)
theorem z3C : Maps.Keyed Tryz.prog 9 := Maps.string_keyed Tryz.underlying9
theorem z5R {s : ByteArray} (hs : s.size <= maxLen) : keyOf Tryz.prog 9 (.string s) = some (.string s.data.toList) := Go.WideMaps.keyOf_string_mk Tryz.underlying9 hs
theorem z6e (w : World) : (zeroValue 4).run Tryz.prog w = .ok (.bool false) w := by kernel_rfl
theorem z1P {k : Nat} {s : ByteArray} (h : zF.f k s = some true) : s.size <= maxLen := by
 have hj : ∀ k, zF.j0 k s true ≠ some true := by
  intro k
  cases k <;> simp [zF.j0]
 have : s.size <= 12 := by
  unfold zF.f at h
  split at h
  ·exact jm h (hj _)
  ·split at h
   ·exact jm h (hj _)
   ·omega
 unfold maxLen
 omega
theorem zH.calls (k : Nat) (a0 : Int) (A1 : Option Addr) (c1 : Nat) (l1 : List S76) (r : Int) (w : World) (hr1 : Kd.C k76 w A1 l1.length l1) (hc1 : l1.length <= c1) (h : zH.f k a0 l1 = some r) :
  Calls Tryz.prog 110 #[.int .i64 a0, .slice A1 l1.length c1] w fun e w' => e = .returned (.int .i64 r) /\ Below w.heap.size w w' := by
 have hu := Tryz.underlying76
 have HR1 := am hr1
 have hmm := @run_makeMap Tryz.prog
 clear hr1 hc1
 unfold zH.f at h
 rcases yu h with ⟨b1, h⟩ | ⟨b1, h⟩
 case inl =>
  cases h
  go_enter Tryz.func110, Tryz.ntmps110
  go_wp2
  go_ret
  exact ⟨rfl, jc _ _⟩
 rcases yu h with ⟨b2, h⟩ | ⟨b2, h⟩
 case inl =>
  cases h
  have b2' : decide (8 < a0) = true := b2
  go_enter Tryz.func110, Tryz.ntmps110
  go_wp2
  go_ret
  exact ⟨rfl, jc _ _⟩
 rcases yu h with ⟨b3, h⟩ | ⟨b3, h⟩
 case inl =>
  cases h
  have b2' : decide (8 < a0) = false := b2
  go_enter Tryz.func110, Tryz.ntmps110
  go_wp2
  go_ret
  exact ⟨rfl, jc _ _⟩
 rcases yu h with ⟨b4, h⟩ | ⟨b4, h⟩
 case inl =>
  cases h
  have b2' : decide (8 < a0) = false := b2
  have b4' : decide (18 < (l1.length : Int)) = true := b4
  go_enter Tryz.func110, Tryz.ntmps110
  go_wp2
  go_ret
  exact ⟨rfl, jc _ _⟩
 have b2' : decide (8 < a0) = false := b2
 have b4' : decide (18 < (l1.length : Int)) = false := b4
 have H' := am h
 clear h
 go_enter Tryz.func110, Tryz.ntmps110
 go_wp2
 have HM0 := am (World.ownsMap_made (H := Unit) w Tryz.prog 9 (plainElem Tryz.prog 4))
 go_loopg [6, 28] k (fun kq v6 v28 w' => ∃ (ns : List ByteArray) (x6 x28 : Int), v6 = .int .i64 x6 /\ v28 = .int .i64 x28 /\ Aside0 (zH.l0 kq ns x6 l1 x28 = some r) /\ Aside0 ((ns.length : Int) = x28) /\ Aside0 (w'.ownsMap Tryz.prog 9 (plainElem (H := Unit) Tryz.prog 4) w.heap.size ns.length (z0b ns)) /\ Aside0 (Below w.heap.size w w'))
 case atStart => exact ⟨[], 0, 0, rfl, rfl, H', ⟨rfl⟩, HM0, ⟨bal (jc _ _) _⟩⟩
 case round =>
  clear H' HM0
  obtain ⟨ns, x6, x28, rfl, rfl, HA, HN, HM, HB⟩ := hrel
  cases gk with
  | zero => exact jm HA.out (by simp [zH.l0])
  | succ k1 =>
   have H := HA.out
   clear HA
   simp only [zH.l0] at H
   rcases yu H with ⟨t1, H⟩ | ⟨t1, H⟩
   case inr =>
    rcases yu H with ⟨t2, H⟩ | ⟨t2, H⟩
    ·have t2' : decide (48 < x6) = true := t2
     cases H
     go_wp2
     go_ret
     exact ⟨rfl, HB.out⟩
    ·have t2' : decide (48 < x6) = false := t2
     cases H
     go_wp2
     go_ret
     exact ⟨rfl, HB.out⟩
   rcases yu H with ⟨t2, H⟩ | ⟨t2, H⟩
   case inr => exact jm H (by simp)
   have p0 : 0 <= x28 := of_decide_eq_true t2
   have p1 : x28 < (l1.length : Int) := of_decide_eq_true t1
   obtain ⟨ad, e1, q0, q1, q2⟩ := Zs HR1.out x28 p0 p1
   cases e1
   replace q0 := zo HB.out q0
   replace q1 := zo HB.out q1
   replace q2 := zo HB.out q2
   obtain ⟨t, A0, H⟩ := Option.bind_eq_some_iff.mp H
   have A := am A0
   clear A0
   have HH : (t = false /\ r = 1) \/ (t = true /\ met ns (zp l1 x28).f0 = true /\ r = 1) \/ (t = true /\ met ns (zp l1 x28).f0 = false /\ decide ((zp l1 x28).f1 < 0) = true /\ r = 1) \/
     (t = true /\ met ns (zp l1 x28).f0 = false /\ decide ((zp l1 x28).f1 < 0) = false /\ decide (47 < (zp l1 x28).f1) = true /\ r = 1) \/
     (t = true /\ met ns (zp l1 x28).f0 = false /\ decide ((zp l1 x28).f1 < 0) = false /\ decide (47 < (zp l1 x28).f1) = false /\ decide ((zp l1 x28).f2 < 1) = true /\ r = 1) \/
     (t = true /\ met ns (zp l1 x28).f0 = false /\ decide ((zp l1 x28).f1 < 0) = false /\ decide (47 < (zp l1 x28).f1) = false /\ decide ((zp l1 x28).f2 < 1) = false /\ decide (8 < (zp l1 x28).f2) = true /\ r = 1) \/
     (t = true /\ met ns (zp l1 x28).f0 = false /\ decide ((zp l1 x28).f1 < 0) = false /\ decide (47 < (zp l1 x28).f1) = false /\ decide ((zp l1 x28).f2 < 1) = false /\ decide (8 < (zp l1 x28).f2) = false /\
      Aside0 (zH.l0 k1 ((zp l1 x28).f0 :: ns) (wrap64 (x6 + (zp l1 x28).f2)) l1 (wrap64 (x28 + 1)) = some r)) := by
    rcases z33 H with ⟨a0, H⟩ | ⟨a0, H⟩
    case inr => exact .inl ⟨a0, (sj H).symm⟩
    rcases z33 H with ⟨a1, H⟩ | ⟨a1, H⟩
    case inl => exact .inr (.inl ⟨a0, a1, (sj H).symm⟩)
    rcases yu H with ⟨a2, H⟩ | ⟨a2, H⟩
    case inl => exact .inr (.inr (.inl ⟨a0, a1, a2, (sj H).symm⟩))
    rcases yu H with ⟨a3, H⟩ | ⟨a3, H⟩
    case inl => exact .inr (.inr (.inr (.inl ⟨a0, a1, a2, a3, (sj H).symm⟩)))
    rcases yu H with ⟨a4, H⟩ | ⟨a4, H⟩
    case inl => exact .inr (.inr (.inr (.inr (.inl ⟨a0, a1, a2, a3, a4, (sj H).symm⟩))))
    rcases yu H with ⟨a5, H⟩ | ⟨a5, H⟩
    case inl => exact .inr (.inr (.inr (.inr (.inr (.inl ⟨a0, a1, a2, a3, a4, a5, (sj H).symm⟩)))))
    exact .inr (.inr (.inr (.inr (.inr (.inr ⟨a0, a1, a2, a3, a4, a5, ⟨H⟩⟩)))))
   clear H t1 t2
   have hn : Aside0 (ns.length < maxLen) := ⟨by have := HN.out; have := of_decide_eq_false b4; unfold maxLen; omega⟩
   have hsz := HB.out.size
   have hlt := HM.out.lt
   rcases HH with ⟨rfl, rfl⟩ | ⟨rfl, a1, rfl⟩ | ⟨rfl, a1, a2, rfl⟩ | ⟨rfl, a1, a2, a3, rfl⟩ | ⟨rfl, a1, a2, a3, a4, rfl⟩ | ⟨rfl, a1, a2, a3, a4, a5, rfl⟩ | ⟨rfl, a1, a2, a3, a4, a5, HA⟩
   all_goals have hp1 := eT p1
   all_goals have hp0 := eT p0
   all_goals go_wp2_with (first
    | (go_at_call 123; (with_reducible refine (zF.calls k1 _ _ _ A.out).mono ?_); rintro e w' ⟨rfl, ⟨nd, rfl⟩⟩)
    | ((try (refine zB (by rfl) ?_; dsimp only)); at_lookup; refine z0t _ rfl _ _ 173 rfl 9 4 z3C Tryz.underlying173 Tryz.underlying4 (z6e _) w.heap.size ns.length (z0b ns) rfl (own_b HM.out (by repeat (first | exact jc _ _ | apply bal | apply bdN | apply bd1))) _ _ rfl (z5R (z1P A.out)) _ ((z2W _ _).trans (by rw [a1])) ?_)
    | (at_mapUpdate; refine wpList_mapUpdate_own _ rfl _ _ _ 173 rfl 9 4 z3C Tryz.underlying173 _ w.heap.size _ _ rfl (own_b HM.out (by repeat (first | exact jc _ _ | apply bal | apply bdN | apply bd1))) hn.out _ _ _ rfl rfl (z5R (z1P A.out)) _ [] (plainElem_bool Tryz.underlying4 true) ?_; intro w1 hown1 hgrow1; have hc2 : w1.cell? ⟨wr.heap.size, 2, none⟩ = some (.int .i64 (zp l1 x28).f2) := (World.cell?_of_block (a := ⟨wr.heap.size, 2, none⟩) (hgrow1.block wr.heap.size (by simp) (by intro e; injection e with e; omega))).trans (by go_simp)))
   iterate 6 (go_ret; exact ⟨rfl, by repeat (first | exact HB.out | apply bal | apply bdN | apply bd1)⟩)
   go_roundg k1
   case measure => omega
   case rel => exact ⟨_ :: ns, _, _, rfl, rfl, HA, ⟨by have := HN.out; have := of_decide_eq_false b4; rw [jp]; unfold wrap64; omega⟩, ⟨hown1⟩, ⟨Below.grown (by repeat (first | exact HB.out | apply bal | apply bdN | apply bd1)) hgrow1 (by simp; omega) (fun k e => by cases e; exact jk _)⟩⟩
mutual
def zA.j0 : Nat -> Bool -> Int -> List (S76) -> Int -> Int -> Int -> Int -> List (S62) -> Option (Int)
 | 0, _, _, _, _, _, _, _, _ => none
 | k + 1, x9, x118000, x118001, x118002, x119000, x119001, x119002, x119003 => if x9 = true then (if 0 <= x119001 then (if x119001 < (x118001.length : Int) then (if ((zp x118001 x119001).f2) > 1 then (some 1) else (some 0)) else (none)) else (none)) else (if x119000 >= 2 then (zA.j1 k (decide (x119000 <= 11)) x119000 x119001 x119002 x119003) else (zA.j1 k false x119000 x119001 x119002 x119003))
def zA.j1 : Nat -> Bool -> Int -> Int -> Int -> List (S62) -> Option (Int)
 | 0, _, _, _, _, _ => none
 | k + 1, x34, x119000, x119001, x119002, x119003 => if x34 = true then (zA.j2 k x34 x119000 x119001 x119002 x119003) else (if x119000 = 13 then (zA.j2 k (x119000 == 13) x119000 x119001 x119002 x119003) else (zA.j2 k (x119000 == 14) x119000 x119001 x119002 x119003))
def zA.j2 : Nat -> Bool -> Int -> Int -> Int -> List (S62) -> Option (Int)
 | 0, _, _, _, _, _ => none
 | k + 1, x34, x119000, x119001, x119002, x119003 => if x34 = true then (some 2) else (if x119000 = 12 then (some 1) else (if x119000 = 15 then (some 3) else (some (-1))))
end
def zA.f (k : Nat) (a0_0 : Int) (l0_1 : List (S76)) (a0_2 : Int) (a1_0 : Int) (a1_1 : Int) (a1_2 : Int) (l1_3 : List (S62)) : Option (Int) := if a1_0 = 0 then (some 0) else (if a1_0 = 1 then (if a1_1 >= 0 then (zA.j0 k (decide (a1_1 < (l0_1.length : Int))) a0_0 l0_1 a0_2 a1_0 a1_1 a1_2 l1_3) else (zA.j0 k false a0_0 l0_1 a0_2 a1_0 a1_1 a1_2 l1_3)) else (zA.j0 k false a0_0 l0_1 a0_2 a1_0 a1_1 a1_2 l1_3))
theorem zA.calls (k : Nat) (a0_0 : Int) (A0_1 : Option Addr) (c0_1 : Nat) (l0_1 : List (S76)) (a0_2 : Int) (a1_0 : Int) (a1_1 : Int) (a1_2 : Int) (A1_3 : Option Addr) (c1_3 : Nat) (l1_3 : List (S62)) (r : Int) (w : World) (hr0_1 : Kd.C k76 w A0_1 l0_1.length l0_1) (hc0_1 : l0_1.length <= c0_1) (hr1_3 : Kd.C k62 w A1_3 l1_3.length l1_3) (hc1_3 : l1_3.length <= c1_3) (h : zA.f k a0_0 l0_1 a0_2 a1_0 a1_1 a1_2 l1_3 = some r) :
  Calls Tryz.prog 133 #[.agg (Vv a0_0 A0_1 l0_1 c0_1 a0_2), .agg (Ve a1_0 a1_1 a1_2 A1_3 l1_3 c1_3)] w fun e w' => e = .returned (.int .i64 r) /\ Below w.heap.size w w' := by
 have hu179 := Tryz.underlying179
 have hu62 := Tryz.underlying62
 have HR0_1 := am hr0_1
 have HC0_1 := am hc0_1
 clear hr0_1 hc0_1
 have HR1_3 := am hr1_3
 have HC1_3 := am hc1_3
 clear hr1_3 hc1_3
 have HB := am (jc w.heap.size w)
 have H := h
 clear h
 obtain ⟨c3b0, c3b1, H⟩ | ⟨c3, c3b0, c3b1, H⟩ := iq H
 ·obtain rfl := sj H
  go_enter Tryz.func133, Tryz.ntmps133
  go_wp2_with (first | ((with_reducible refine zw (N := 2) rfl ?_); (try (refine zB (by rfl) ?_; dsimp only)); refine bx 2 rfl rfl (Vv a0_0 A0_1 l0_1 c0_1 a0_2) 179 ?_; intro gb117 hg w4 hbox hb; have BK117 := am (hbox); have GE117 := ge HB hg; replace HB := sb HB hb; clear hb hbox hg) | ((with_reducible refine zw (N := 3) rfl ?_); (try (refine zB (by rfl) ?_; dsimp only)); refine bx 3 rfl rfl (Ve a1_0 a1_1 a1_2 A1_3 l1_3 c1_3) 62 ?_; intro gb118 hg w5 hbox hb; have BK118 := am (hbox); have GE118 := ge HB hg; have NB117_118 := nl BK117 hg; have NB118_117 := ng BK117 hg; replace BK117 := kb BK117 hb; replace HB := sb HB hb; clear hb hbox hg; have hnb6 := NB118_117.out; have hnc6 := NB117_118.out; have hz7 := cf4 BK118.out))
  go_ret
  exact ⟨rr, bb HB⟩
 have HC8 := am H
 clear H
 go_enter Tryz.func133, Tryz.ntmps133
 go_upto_region 3 with (first | ((with_reducible refine zw (N := 2) rfl ?_); (try (refine zB (by rfl) ?_; dsimp only)); refine bx 2 rfl rfl (Vv a0_0 A0_1 l0_1 c0_1 a0_2) 179 ?_; intro gb117 hg w9 hbox hb; have BK117 := am (hbox); have GE117 := ge HB hg; replace HB := sb HB hb; clear hb hbox hg) | ((with_reducible refine zw (N := 3) rfl ?_); (try (refine zB (by rfl) ?_; dsimp only)); refine bx 3 rfl rfl (Ve a1_0 a1_1 a1_2 A1_3 l1_3 c1_3) 62 ?_; intro gb118 hg w10 hbox hb; have BK118 := am (hbox); have GE118 := ge HB hg; have NB117_118 := nl BK117 hg; have NB118_117 := ng BK117 hg; replace BK117 := kb BK117 hb; replace HB := sb HB hb; clear hb hbox hg; have hnb11 := NB118_117.out; have hnc11 := NB117_118.out; have hz12 := cf4 BK118.out))
 (try simp only [Act.put, List.setIfInBounds_toArray, List.set_cons_zero, List.set_cons_succ])
 go_cut [9] (fun v9 wc => ∃ (kq : Nat) (x9_7 : Bool), v9 = .bool x9_7 /\ Aside0 (zA.j0 kq x9_7 a0_0 l0_1 a0_2 a1_0 a1_1 a1_2 l1_3 = some r) /\ Aside0 (kq <= k) /\ Aside0 (wc.heap[gb117]? = some (.cells #[.int .i64 a0_0, (.slice A0_1 l0_1.length c0_1), .int .i64 a0_2] 179 (0, 0))) /\ Aside0 (wc.heap[gb118]? = some (.cells #[.int .i64 a1_0, .int .i64 a1_1, .int .i64 a1_2, (.slice A1_3 l1_3.length c1_3)] 62 (0, 0))) /\ Aside0 (Below w.heap.size w wc))
 case first =>
  have H := HC8.out
  clear HC8
  obtain ⟨c13, c13b0, c13b1, H⟩ | ⟨c13b0, c13b1, H⟩ := qi H
  ·(first | rw [c13b0] | (simp only [zP, Zr]; rw [c13b0]) | skip)
   have H' := am H
   clear H
   have hnb20 := NB118_117.out
   have hnc20 := NB117_118.out
   have hz21 := cf4 BK118.out
   go_wp2
   go_meet
   case rel => exact ⟨_, (false), rs, H', ⟨by first | omega | exact jk _⟩, ⟨kk BK117⟩, ⟨kk BK118⟩, ⟨bb HB⟩⟩
  (first | rw [c13b0] | (simp only [zP, Zr]; rw [c13b0]) | skip)
  obtain ⟨c14b0, H⟩ | ⟨c14b0, H⟩ := ei H
  ·have H' := am H
   clear H
   have hnb18 := NB118_117.out
   have hnc18 := NB117_118.out
   have hz19 := cf4 BK118.out
   go_wp2
   go_meet
   case rel => exact ⟨_, (false), rs, H', ⟨by first | omega | exact jk _⟩, ⟨kk BK117⟩, ⟨kk BK118⟩, ⟨bb HB⟩⟩
  have H' := am H
  clear H
  have hnb15 := NB118_117.out
  have hnc15 := NB117_118.out
  have hz16 := cf4 BK118.out
  have hz17 := cf3 BK117.out
  go_wp2
  go_meet
  case rel => exact ⟨_, (decide (a1_1 < (l0_1.length : Int))), rs, H', ⟨by first | omega | exact jk _⟩, ⟨kk BK117⟩, ⟨kk BK118⟩, ⟨bb HB⟩⟩
 case rest =>
  clear HC8
  obtain ⟨kq, x9_7, rfl, HA, HJ7, BK117, BK118, HB⟩ := hcut
  cases kq with
  | zero => exact jm HA.out (by simp [zA.j0])
  | succ kj7 =>
   have H := HA.out
   clear HA
   simp only [zA.j0] at H
   replace H := bo H
   obtain ⟨rfl, H⟩ | ⟨rfl, H⟩ := H
   ·obtain ⟨c23b0, H⟩ := pd H
    obtain ⟨c24b0, H⟩ := pd H
    obtain ⟨c25b0, H⟩ | ⟨c25b0, H⟩ := iE H
    ·obtain rfl := sj H
     have hnb26 := NB117_118.out
     have hnc26 := NB118_117.out
     have hz27 := cf3 BK117.out
     have hz28 := cf4 BK118.out
     have p119 : 0 <= (a1_1 : Int) := od
     have q119 : a1_1 < (l0_1.length : Int) := od
     obtain ⟨ad119, e119, hx119_0, hx119_1, hx119_2⟩ := Zs HR0_1.out a1_1 p119 q119
     cases e119
     replace hx119_0 := zo HB.out hx119_0
     replace hx119_1 := zo HB.out hx119_1
     replace hx119_2 := zo HB.out hx119_2
     replace p119 := eT p119
     replace q119 := eT q119
     go_wp2
     go_ret
     exact ⟨rr, bb HB⟩
    obtain rfl := sj H
    have hnb29 := NB117_118.out
    have hnc29 := NB118_117.out
    have hz30 := cf3 BK117.out
    have hz31 := cf4 BK118.out
    have p119 : 0 <= (a1_1 : Int) := od
    have q119 : a1_1 < (l0_1.length : Int) := od
    obtain ⟨ad119, e119, hx119_0, hx119_1, hx119_2⟩ := Zs HR0_1.out a1_1 p119 q119
    cases e119
    replace hx119_0 := zo HB.out hx119_0
    replace hx119_1 := zo HB.out hx119_1
    replace hx119_2 := zo HB.out hx119_2
    replace p119 := eT p119
    replace q119 := eT q119
    go_wp2
    go_ret
    exact ⟨rr, bb HB⟩
   have HC32 := am H
   clear H
   go_upto_region 7 with (fail)
   go_cut [34] (fun v34 wc => ∃ (kq : Nat) (x34_31 : Bool), v34 = .bool x34_31 /\ Aside0 (zA.j1 kq x34_31 a1_0 a1_1 a1_2 l1_3 = some r) /\ Aside0 (kq <= kj7) /\ Aside0 (wc.heap[gb117]? = some (.cells #[.int .i64 a0_0, (.slice A0_1 l0_1.length c0_1), .int .i64 a0_2] 179 (0, 0))) /\ Aside0 (wc.heap[gb118]? = some (.cells #[.int .i64 a1_0, .int .i64 a1_1, .int .i64 a1_2, (.slice A1_3 l1_3.length c1_3)] 62 (0, 0))) /\ Aside0 (Below w.heap.size w wc))
   case first =>
    have H := HC32.out
    clear HC32
    obtain ⟨c33b0, H⟩ | ⟨c33b0, H⟩ := ei H
    ·(first | rw [c33b0] | (simp only [zP, Zr]; rw [c33b0]) | skip)
     have H' := am H
     clear H
     have hnb36 := NB118_117.out
     have hnc36 := NB117_118.out
     have hz37 := cf4 BK118.out
     go_wp2
     go_meet
     case rel => exact ⟨_, (false), rs, H', ⟨by have := HJ7.out; first | omega | exact jk _⟩, ⟨kk BK117⟩, ⟨kk BK118⟩, ⟨bb HB⟩⟩
    (first | rw [c33b0] | (simp only [zP, Zr]; rw [c33b0]) | skip)
    have H' := am H
    clear H
    have hnb34 := NB118_117.out
    have hnc34 := NB117_118.out
    have hz35 := cf4 BK118.out
    go_wp2
    go_meet
    case rel => exact ⟨_, (decide (a1_0 <= 11)), rs, H', ⟨by have := HJ7.out; first | omega | exact jk _⟩, ⟨kk BK117⟩, ⟨kk BK118⟩, ⟨bb HB⟩⟩
   case rest =>
    clear HC32
    obtain ⟨kq, x34_31, rfl, HA, HJ31, BK117, BK118, HB⟩ := hcut
    cases kq with
    | zero => exact jm HA.out (by simp [zA.j1])
    | succ kj31 =>
     have H := HA.out
     clear HA
     simp only [zA.j1] at H
     have HC38 := am H
     clear H
     go_upto_if 34 with (fail)
     go_cut [34] (fun v34 wc => ∃ (kq : Nat) (x34_37 : Bool), v34 = .bool x34_37 /\ Aside0 (zA.j2 kq x34_37 a1_0 a1_1 a1_2 l1_3 = some r) /\ Aside0 (kq <= kj31) /\ Aside0 (wc.heap[gb117]? = some (.cells #[.int .i64 a0_0, (.slice A0_1 l0_1.length c0_1), .int .i64 a0_2] 179 (0, 0))) /\ Aside0 (wc.heap[gb118]? = some (.cells #[.int .i64 a1_0, .int .i64 a1_1, .int .i64 a1_2, (.slice A1_3 l1_3.length c1_3)] 62 (0, 0))) /\ Aside0 (Below w.heap.size w wc))
     case first =>
      have H := HC38.out
      clear HC38
      replace H := bo H
      obtain ⟨rfl, H⟩ | ⟨rfl, H⟩ := H
      ·have H' := am H
       clear H
       go_wp2
       go_meet
       case rel => exact ⟨_, (true), rs, H', ⟨by have := HJ7.out; have := HJ31.out; first | omega | exact jk _⟩, ⟨kk BK117⟩, ⟨kk BK118⟩, ⟨bb HB⟩⟩
      obtain ⟨c40, c40b0, c40b1, H⟩ | ⟨c40b0, c40b1, H⟩ := qi H
      ·(first | rw [c40b0] | (simp only [zP, Zr]; rw [c40b0]) | skip)
       have H' := am H
       clear H
       have hnb43 := NB118_117.out
       have hnc43 := NB117_118.out
       have hz44 := cf4 BK118.out
       go_wp2
       go_meet
       case rel => exact ⟨_, ((a1_0 == 14)), rs, H', ⟨by have := HJ7.out; have := HJ31.out; first | omega | exact jk _⟩, ⟨kk BK117⟩, ⟨kk BK118⟩, ⟨bb HB⟩⟩
      (first | rw [c40b0] | (simp only [zP, Zr]; rw [c40b0]) | skip)
      have H' := am H
      clear H
      have hnb41 := NB118_117.out
      have hnc41 := NB117_118.out
      have hz42 := cf4 BK118.out
      go_wp2
      go_meet
      case rel => exact ⟨_, ((a1_0 == 13)), rs, H', ⟨by have := HJ7.out; have := HJ31.out; first | omega | exact jk _⟩, ⟨kk BK117⟩, ⟨kk BK118⟩, ⟨bb HB⟩⟩
     case rest =>
      clear HC38
      obtain ⟨kq, x34_37, rfl, HA, HJ37, BK117, BK118, HB⟩ := hcut
      cases kq with
      | zero => exact jm HA.out (by simp [zA.j2])
      | succ kj37 =>
       have H := HA.out
       clear HA
       simp only [zA.j2] at H
       replace H := bo H
       obtain ⟨rfl, H⟩ | ⟨rfl, H⟩ := H
       ·obtain rfl := sj H
        go_wp2
        go_ret
        exact ⟨rr, bb HB⟩
       obtain ⟨c46b0, c46b1, H⟩ | ⟨c46, c46b0, c46b1, H⟩ := iq H
       ·obtain rfl := sj H
        have hnb47 := NB118_117.out
        have hnc47 := NB117_118.out
        have hz48 := cf4 BK118.out
        go_wp2
        go_ret
        exact ⟨rr, bb HB⟩
       obtain ⟨c49, c49b0, c49b1, H⟩ | ⟨c49b0, c49b1, H⟩ := qi H
       ·obtain rfl := sj H
        have hnb52 := NB118_117.out
        have hnc52 := NB117_118.out
        have hz53 := cf4 BK118.out
        go_wp2
        go_ret
        exact ⟨rr, bb HB⟩
       obtain rfl := sj H
       have hnb50 := NB118_117.out
       have hnc50 := NB117_118.out
       have hz51 := cf4 BK118.out
       go_wp2
       go_ret
       exact ⟨rr, bb HB⟩
def YF (a0 a2 op n c : Int) : Bool :=
 if op = 0 then (if n < 0 then false else if wrap64 (2 ^ a0.toNat) <= n then false else if c = 0 then true else false)
 else if op = 1 then (if c < 0 then false else if a2 <= c then false else true) else (if n = 0 then (if c = 0 then true else false) else false)
theorem z3W (a0 a2 op n c : Int) :
  (YF a0 a2 op n c = false /\ ((op = 0 /\ decide (n < 0) = true) \/ (op = 0 /\ decide (n < 0) = false /\ decide (wrap64 (2 ^ a0.toNat) <= n) = true) \/ (op = 0 /\ decide (n < 0) = false /\ decide (wrap64 (2 ^ a0.toNat) <= n) = false /\ (c != 0) = true) \/
   (op = 1 /\ decide (c < 0) = true) \/ (op = 1 /\ decide (c < 0) = false /\ decide (a2 <= c) = true) \/
   ((op == 0) = false /\ (op == 1) = false /\ (n != 0) = true) \/ ((op == 0) = false /\ (op == 1) = false /\ (n != 0) = false /\ (c != 0) = true))) \/
  (YF a0 a2 op n c = true /\ ((op = 0 /\ decide (n < 0) = false /\ decide (wrap64 (2 ^ a0.toNat) <= n) = false /\ (c != 0) = false) \/ (op = 1 /\ decide (c < 0) = false /\ decide (a2 <= c) = false) \/
   ((op == 0) = false /\ (op == 1) = false /\ (n != 0) = false /\ (c != 0) = false))) := by
 unfold YF
 by_cases o0 : op = 0
 ·subst o0
  by_cases h1 : n < 0
  ·simp [h1]
  ·by_cases h2 : wrap64 (2 ^ a0.toNat) <= n
   ·simp [h1, h2]
   ·by_cases h3 : c = 0 <;> simp [h1, h2, h3]
 ·by_cases o1 : op = 1
  ·subst o1
   by_cases h1 : c < 0
   ·simp [h1]
   ·by_cases h2 : a2 <= c <;> simp [h1, h2]
  ·by_cases h1 : n = 0
   ·by_cases h2 : c = 0 <;> simp [o0, o1, h1, h2]
   ·simp [o0, o1, h1]
mutual
def zE.l0 : Nat -> Int -> List S76 -> Int -> List S62 -> Int -> Int -> Int -> Option (Bool × Int)
 | 0, _, _, _, _, _, _, _ => none
 | k + 1, a0, l1, a2, l3, deep, i, left => if i < (l3.length : Int) then (if 0 <= i then (zE.f k a0 l1 a2 (zi l3 i).f0 (zi l3 i).f1 (zi l3 i).f2 (zi l3 i).f3 (wrap64 (deep + 1)) left).bind fun p => (if p.1 = true then zE.l0 k a0 l1 a2 l3 deep (wrap64 (i + 1)) p.2 else some (false, p.2)) else none) else some (true, left)
def zE.f : Nat -> Int -> List S76 -> Int -> Int -> Int -> Int -> List S62 -> Int -> Int -> Option (Bool × Int)
 | 0, _, _, _, _, _, _, _, _, _ => none
 | k + 1, a0, l1, a2, op, n, c, l3, deep, left => if wrap64 (left - 1) < 0 then some (false, wrap64 (left - 1)) else if 16 < deep then some (false, wrap64 (left - 1)) else
   (zA.f k a0 l1 a2 op n c l3).bind fun ar => if ar = (l3.length : Int) then (if YF a0 a2 op n c = true then zE.l0 k a0 l1 a2 l3 deep 0 (wrap64 (left - 1)) else some (false, wrap64 (left - 1))) else some (false, wrap64 (left - 1))
end
theorem YN {w w' : World} {G : Nat} {o : Obj} {g : Nat} (h : w.heap[g]? = some o) (hg : w.grownBy w' (some G)) (hne : g ≠ G) : w'.heap[g]? = some o :=
 zO h hg (by intro e; injection e with e; exact hne e)
theorem Yl {w a b : World} {G : Nat} (h : w.grownBy a (some G)) (k : a.grownBy b (some G)) : w.grownBy b (some G) :=
 ⟨k.os.trans h.os, k.tape.trans h.tape, k.output.trans h.output, Nat.le_trans h.size k.size, fun i hi hne => (k.block i (ltl hi h.size) hne).trans (h.block i hi hne)⟩
theorem yS {w0 w wl : World} {G : Nat} (HB : Below w0.heap.size w0 w) (g : w.grownBy wl (some G)) (HG0 : w0.heap.size <= G) : Below w0.heap.size w0 wl := z2P HB (some G) HB.size g (fun k e => by cases e; exact HG0)
theorem Yb {w W1 w' : World} {G : Nat} {o : Obj} (GW : w.grownBy W1 (some G)) (BG : W1.heap[G]? = some o) (hb : Below W1.heap.size W1 w') : w'.heap[G]? = some o /\ w.grownBy w' (some G) :=
 ⟨(hb.block G (zM BG)).trans BG, ⟨hb.os.trans GW.os, hb.tape.trans GW.tape, hb.output.trans GW.output, Nat.le_trans GW.size hb.size, fun i hi hne => (hb.block i (ltl hi GW.size)).trans (GW.block i hi hne)⟩⟩
theorem zE.calls (k : Nat) : ∀ (a0 : Int) (A1 : Option Addr) (c1 : Nat) (l1 : List S76) (a2 op n c : Int) (A3 : Option Addr) (c3 : Nat) (l3 : List S62) (deep left : Int) (G : Nat) (r : Bool) (left' : Int) (w0 w : World)
  (hr1 : Kd.C k76 w0 A1 l1.length l1) (hc1 : l1.length <= c1) (hr3 : Kd.C k62 w0 A3 l3.length l3) (hc3 : l3.length <= c3) (hB : Below w0.heap.size w0 w) (hG0 : w0.heap.size <= G) (hG : w.heap[G]? = some (.cells #[.int .i64 left] 3 (0, 0)))
  (hw1 : 1 <= a0) (hw8 : a0 <= 8) (h : zE.f k a0 l1 a2 op n c l3 deep left = some (r, left')),
  Calls Tryz.prog 132 #[.agg (Vv a0 A1 l1 c1 a2), .agg (Ve op n c A3 l3 c3), .int .i64 deep, .pointer (some ⟨G, 0, none⟩)] w fun e w' =>
   e = .returned (.bool r) /\ w'.heap[G]? = some (.cells #[.int .i64 left'] 3 (0, 0)) /\ w.grownBy w' (some G) := by
 induction k using Nat.strongRecOn with
 | _ k ih =>
 intro a0 A1 c1 l1 a2 op n c A3 c3 l3 deep left G r left' w0 w hr1 hc1 hr3 hc3 hB hG0 hG hw1 hw8 h
 cases k with
 | zero => exact jm h (by simp [zE.f])
 | succ k =>
 simp only [zE.f] at h
 have huE := Tryz.underlying62
 have huH := Tryz.underlying179
 have HR1 := am hr1
 have HC1 := am hc1
 have HR3 := am hr3
 have HC3 := am hc3
 have HB := am hB
 have HG0 := am hG0
 have hGl := zM hG
 have HG := am hG
 have H := am h
 have ih' := am ih
 have hgc := za hG 0
 have hgf := zf hG 0
 clear hr1 hc1 hr3 hc3 hB hG0 hG h ih
 simp only [List.getElem?_toArray, List.getElem?_cons_zero] at hgc
 go_enter Tryz.func132, Tryz.ntmps132
 go_wp2
 have h12 : w.heap.size + 1 < (((w.setCell ⟨G, 0, none⟩ (.int .i64 (wrap64 (left - 1)))).alloc (.cells (Vv a0 A1 l1 c1 a2) 179)).alloc (.cells (Ve op n c A3 l3 c3) 62)).heap.size := by simp
 have bG : (((w.setCell ⟨G, 0, none⟩ (.int .i64 (wrap64 (left - 1)))).alloc (.cells (Vv a0 A1 l1 c1 a2) 179)).alloc (.cells (Ve op n c A3 l3 c3) 62)).heap[G]? = some (.cells #[.int .i64 (wrap64 (left - 1))] 3 (0, 0)) := kal (kal (yD HG.out 0 _) _) _
 have bH : (((w.setCell ⟨G, 0, none⟩ (.int .i64 (wrap64 (left - 1)))).alloc (.cells (Vv a0 A1 l1 c1 a2) 179)).alloc (.cells (Ve op n c A3 l3 c3) 62)).heap[w.heap.size]? = some (.cells (Vv a0 A1 l1 c1 a2) 179 (0, 0)) := kal (by have := heap_alloc_new (w.setCell ⟨G, 0, none⟩ (.int .i64 (wrap64 (left - 1)))) (.cells (Vv a0 A1 l1 c1 a2) 179); simpa using this) _
 have bE : (((w.setCell ⟨G, 0, none⟩ (.int .i64 (wrap64 (left - 1)))).alloc (.cells (Vv a0 A1 l1 c1 a2) 179)).alloc (.cells (Ve op n c A3 l3 c3) 62)).heap[w.heap.size + 1]? = some (.cells (Ve op n c A3 l3 c3) 62 (0, 0)) := by have := heap_alloc_new ((w.setCell ⟨G, 0, none⟩ (.int .i64 (wrap64 (left - 1)))).alloc (.cells (Vv a0 A1 l1 c1 a2) 179)) (.cells (Ve op n c A3 l3 c3) 62); simpa using this
 have gW : w.grownBy (((w.setCell ⟨G, 0, none⟩ (.int .i64 (wrap64 (left - 1)))).alloc (.cells (Vv a0 A1 l1 c1 a2) 179)).alloc (.cells (Ve op n c A3 l3 c3) 62)) (some G) := ⟨rfl, rfl, rfl, by simp; omega, fun i hi hne => by
  have hne' : i ≠ G := fun e => hne (by rw [e])
  rw [Below.heap_alloc _ _ _ (by simp; omega), Below.heap_alloc _ _ _ (by simpa using hi), jl _ _ _ _ hne']⟩
 generalize (((w.setCell ⟨G, 0, none⟩ (.int .i64 (wrap64 (left - 1)))).alloc (.cells (Vv a0 A1 l1 c1 a2) 179)).alloc (.cells (Ve op n c A3 l3 c3) 62)) = W1 at h12 bG bH bE gW ⊢
 generalize wrap64 (left - 1) = lf at H bG ⊢
 have cG : W1.cell? ⟨G, 0, none⟩ = some (.int .i64 lf) := (za bG 0).trans rfl
 have cH0 : W1.cell? ⟨w.heap.size, 0, none⟩ = some (.int .i64 a0) := (za bH 0).trans rfl
 have cH1 : W1.cell? ⟨w.heap.size, 1, none⟩ = some (.slice A1 l1.length c1) := (za bH 1).trans rfl
 have cH2 : W1.cell? ⟨w.heap.size, 2, none⟩ = some (.int .i64 a2) := (za bH 2).trans rfl
 have cE0 : W1.cell? ⟨w.heap.size + 1, 0, none⟩ = some (.int .i64 op) := (za bE 0).trans rfl
 have cE1 : W1.cell? ⟨w.heap.size + 1, 1, none⟩ = some (.int .i64 n) := (za bE 1).trans rfl
 have cE2 : W1.cell? ⟨w.heap.size + 1, 2, none⟩ = some (.int .i64 c) := (za bE 2).trans rfl
 have cE3 : W1.cell? ⟨w.heap.size + 1, 3, none⟩ = some (.slice A3 l3.length c3) := (za bE 3).trans rfl
 have BW : Aside0 (Below w0.heap.size w0 W1) := ⟨HB.out.trans ⟨gW.os, gW.tape, gW.output, gW.size, fun i hi => gW.block i (by have := HB.out.size; omega) (by intro e; injection e with e; have := HG0.out; omega)⟩⟩
 have GW := am gW
 have BG := am bG
 have BH := am bH
 have BE := am bE
 clear gW bG bH bE hgc hgf HG
 have H1 := H.out
 clear H
 have H2 := yu H1
 clear H1
 rcases H2 with ⟨d1, H1⟩ | ⟨d1, H1⟩
 case inl =>
  injection (sj H1) with e1 e2
  subst e1 e2
  go_quiet (fail)
  go_wp2
  go_ret
  exact ⟨rfl, BG.out, ⟨GW.out.os, GW.out.tape, GW.out.output, GW.out.size, GW.out.block⟩⟩
 have H2 := yu H1
 clear H1
 rcases H2 with ⟨d2, H1⟩ | ⟨d2, H1⟩
 case inl =>
  injection (sj H1) with e1 e2
  subst e1 e2
  go_quiet (fail)
  go_wp2
  go_ret
  exact ⟨rfl, BG.out, ⟨GW.out.os, GW.out.tape, GW.out.output, GW.out.size, GW.out.block⟩⟩
 replace H1 := Option.bind_eq_some_iff.mp H1
 obtain ⟨ar, AR0, H1⟩ := H1
 have AR := am AR0
 clear AR0
 have H2 := yu H1
 clear H1
 rcases H2 with ⟨d3, H1⟩ | ⟨d3, H1⟩
 case inr =>
  injection (sj H1) with e1 e2
  subst e1 e2
  have d3a : (ar == (l3.length : Int)) = false := bF (of_decide_eq_false d3)
  have d3b : (ar != (l3.length : Int)) = true := bN (of_decide_eq_false d3)
  clear d3
  go_region_held3 (fun w' => Below W1.heap.size W1 w' /\ w'.cell? ⟨G, 0, none⟩ = some (.int .i64 lf) /\ w'.cell? ⟨w.heap.size, 0, none⟩ = some (.int .i64 a0) /\ w'.cell? ⟨w.heap.size, 1, none⟩ = some (.slice A1 l1.length c1) /\ w'.cell? ⟨w.heap.size, 2, none⟩ = some (.int .i64 a2) /\
    w'.cell? ⟨w.heap.size + 1, 0, none⟩ = some (.int .i64 op) /\ w'.cell? ⟨w.heap.size + 1, 1, none⟩ = some (.int .i64 n) /\ w'.cell? ⟨w.heap.size + 1, 2, none⟩ = some (.int .i64 c) /\ w'.cell? ⟨w.heap.size + 1, 3, none⟩ = some (.slice A3 l3.length c3))
   (first
    | exact ⟨zj (jc _ _), cG, cH0, cH1, cH2, cE0, cE1, cE2, cE3⟩
    | (go_split_ands; exact ⟨yW (by assumption) (Below.size (by assumption)) hb, zx hb (by assumption), zx hb (by assumption), zx hb (by assumption), zx hb (by assumption), zx hb (by assumption), zx hb (by assumption), zx hb (by assumption), zx hb (by assumption)⟩))
   (first | (go_at_call 133; (with_reducible refine (zA.calls k a0 _ _ l1 a2 op n c _ _ l3 ar _ ?s1 HC1.out ?s2 HC3.out AR.out).mono ?_); (case s1 => exact ji HR1.out (by repeat (first | exact BW.out | apply zj))); (case s2 => exact ji HR3.out (by repeat (first | exact BW.out | apply zj))); rintro e w' ⟨rfl, hb⟩))
  obtain ⟨hBw, _⟩ := ‹Below W1.heap.size W1 _ /\ _›
  go_wp2
  go_ret
  exact ⟨rfl, Yb GW.out BG.out hBw⟩
 have d3a : (ar == (l3.length : Int)) = true := bT (of_decide_eq_true d3)
 have d3b : (ar != (l3.length : Int)) = false := bQ (of_decide_eq_true d3)
 clear d3
 go_region_held3 (fun w' => Below W1.heap.size W1 w' /\ w'.cell? ⟨G, 0, none⟩ = some (.int .i64 lf) /\ w'.cell? ⟨w.heap.size, 0, none⟩ = some (.int .i64 a0) /\ w'.cell? ⟨w.heap.size, 1, none⟩ = some (.slice A1 l1.length c1) /\ w'.cell? ⟨w.heap.size, 2, none⟩ = some (.int .i64 a2) /\
   w'.cell? ⟨w.heap.size + 1, 0, none⟩ = some (.int .i64 op) /\ w'.cell? ⟨w.heap.size + 1, 1, none⟩ = some (.int .i64 n) /\ w'.cell? ⟨w.heap.size + 1, 2, none⟩ = some (.int .i64 c) /\ w'.cell? ⟨w.heap.size + 1, 3, none⟩ = some (.slice A3 l3.length c3))
  (first
   | exact ⟨zj (jc _ _), cG, cH0, cH1, cH2, cE0, cE1, cE2, cE3⟩
   | (go_split_ands; exact ⟨yW (by assumption) (Below.size (by assumption)) hb, zx hb (by assumption), zx hb (by assumption), zx hb (by assumption), zx hb (by assumption), zx hb (by assumption), zx hb (by assumption), zx hb (by assumption), zx hb (by assumption)⟩))
  (first | (go_at_call 133; (with_reducible refine (zA.calls k a0 _ _ l1 a2 op n c _ _ l3 ar _ ?s1 HC1.out ?s2 HC3.out AR.out).mono ?_); (case s1 => exact ji HR1.out (by repeat (first | exact BW.out | apply zj))); (case s2 => exact ji HR3.out (by repeat (first | exact BW.out | apply zj))); rintro e w' ⟨rfl, hb⟩))
 obtain ⟨hBw, hcG, hcH0, hcH1, hcH2, hcE0, hcE1, hcE2, hcE3⟩ := ‹Below W1.heap.size W1 _ /\ _›
 have hBw' := am hBw
 clear hBw hb
 rcases z3W a0 a2 op n c with ⟨hno, hcs⟩ | ⟨hno, hcs⟩
 ·rw [hno] at H1
  injection (sj (show some (false, lf) = some (r, left') from H1)) with e1 e2
  subst e1 e2
  clear H1 hno
  rcases hcs with ⟨rfl, g1⟩ | ⟨rfl, g1, g2⟩ | ⟨rfl, g1, g2, g3⟩ | ⟨rfl, g1⟩ | ⟨rfl, g1, g2⟩ | ⟨g1, g2, g3⟩ | ⟨g1, g2, g3, g4⟩
  all_goals go_wp2
  all_goals (go_ret; exact ⟨rfl, Yb GW.out BG.out hBw'.out⟩)
 ·rw [hno] at H1
  have HL := am (show zE.l0 k a0 l1 a2 l3 deep 0 lf = some (r, left') from H1)
  clear H1 hno
  rcases hcs with ⟨rfl, g1, g2, g3⟩ | ⟨rfl, g1, g2⟩ | ⟨g1, g2, g3, g4⟩
  all_goals
   clear hcG hcH0 hcH1 hcH2 hcE0 hcE1 hcE2 hcE3 cG cH0 cH1 cH2 cE0 cE1 cE2 cE3
   go_wp2
   go_loopg [77] k (fun kq v77 wl => ∃ (i lf' : Int), v77 = .int .i64 i /\ Aside0 (zE.l0 kq a0 l1 a2 l3 deep i lf' = some (r, left')) /\ Aside0 (kq <= k) /\ Aside0 (wl.heap[G]? = some (.cells #[.int .i64 lf'] 3 (0, 0))) /\
    Aside0 (wl.heap[w.heap.size]? = some (.cells (Vv a0 A1 l1 c1 a2) 179 (0, 0))) /\ Aside0 (w.grownBy wl (some G)))
   case atStart => exact ⟨0, lf, rfl, HL, ⟨jk _⟩, ⟨(Yb GW.out BG.out hBw'.out).1⟩, ⟨(hBw'.out.block _ (zM BH.out)).trans BH.out⟩, ⟨(Yb GW.out BG.out hBw'.out).2⟩⟩
   case round =>
    clear HL hBw' BE BH BG GW BW AR d1 d2 d3a d3b
    obtain ⟨i, lf', rfl, HA, HK, BG, BH, GW⟩ := hrel
    cases gk with
    | zero => exact jm HA.out (by simp [zE.l0])
    | succ k1 =>
     have H := HA.out
     clear HA
     simp only [zE.l0] at H
     have H2 := yu H
     clear H
     rcases H2 with ⟨t1, H⟩ | ⟨t1, H⟩
     case inr =>
      injection (sj H) with e1 e2
      subst e1 e2
      clear H
      go_wp2
      go_ret
      exact ⟨rfl, BG.out, GW.out⟩
     have H2 := yu H
     clear H
     rcases H2 with ⟨t2, H⟩ | ⟨t2, H⟩
     case inr => exact jm H (by simp)
     have p0 : 0 <= i := of_decide_eq_true t2
     have p1 : i < (l3.length : Int) := of_decide_eq_true t1
     have B0 := am (yS HB.out GW.out HG0.out)
     obtain ⟨ad, A4, c4, e1, q0, q1, q2, q3, ql, qr⟩ := Zk HR3.out i p0 p1
     cases e1
     replace q0 := (B0.out.cell (jd w0 _ q0)).trans q0
     replace q1 := (B0.out.cell (jd w0 _ q1)).trans q1
     replace q2 := (B0.out.cell (jd w0 _ q2)).trans q2
     replace q3 := (B0.out.cell (jd w0 _ q3)).trans q3
     have QL := am ql
     have QR := am qr
     replace H := Option.bind_eq_some_iff.mp H
     obtain ⟨⟨r1, lf1⟩, A0, H⟩ := H
     have A := am A0
     have h0 : wr.cell? ⟨w.heap.size, 0, none⟩ = some (.int .i64 a0) := (za BH.out 0).trans rfl
     have h1 : wr.cell? ⟨w.heap.size, 1, none⟩ = some (.slice A1 l1.length c1) := (za BH.out 1).trans rfl
     have h2 : wr.cell? ⟨w.heap.size, 2, none⟩ = some (.int .i64 a2) := (za BH.out 2).trans rfl
     have hGlt := zM BG.out
     have hHlt := zM BH.out
     clear A0 ql qr
     have HK1 := HK.out
     have H2 := z33 (t := r1) H
     clear H
     rcases H2 with ⟨rfl, H⟩ | ⟨rfl, H⟩
     ·have H' := am H
      clear H
      go_wp2_with (first | (go_at_call 132; (with_reducible refine (ih'.out k1 (by omega) a0 _ _ l1 a2 _ _ _ _ _ _ (wrap64 (deep + 1)) lf' G true lf1 w0 _ HR1.out HC1.out QR.out QL.out (bal B0.out _) HG0.out (kal BG.out _) hw1 hw8 A.out).mono ?_); rintro e w2 ⟨rfl, hG2, hgr2⟩))
      go_roundg k1
      case measure => omega
      case rel => exact ⟨_, lf1, rfl, H', ⟨by omega⟩, ⟨hG2⟩, ⟨YN (kal BH.out _) hgr2 (by omega)⟩, ⟨Yl (Yl GW.out (World.grownBy_alloc _ _ _)) hgr2⟩⟩
     ·injection (sj H) with e1 e2
      subst e1 e2
      clear H
      go_wp2_with (first | (go_at_call 132; (with_reducible refine (ih'.out k1 (by omega) a0 _ _ l1 a2 _ _ _ _ _ _ (wrap64 (deep + 1)) lf' G false lf1 w0 _ HR1.out HC1.out QR.out QL.out (bal B0.out _) HG0.out (kal BG.out _) hw1 hw8 A.out).mono ?_); rintro e w2 ⟨rfl, hG2, hgr2⟩))
      go_ret
      exact ⟨rfl, hG2, Yl (Yl GW.out (World.grownBy_alloc _ _ _)) hgr2⟩
def ZW.f (k : Nat) (a0 : Int) (l1 : List S76) (a2 op n c : Int) (l3 : List S62) : Option Int :=
 (zH.f k a0 l1).bind fun t => if t = 0 then (if a2 < 1 then some 1 else if 3 < a2 then some 1 else (zE.f k a0 l1 a2 op n c l3 1 400).bind fun p => if p.1 = true then some 0 else some 20) else some 1
theorem z3m {k : Nat} {a0 : Int} {l1 : List S76} (h : zH.f k a0 l1 = some 0) : 1 <= a0 /\ a0 <= 8 := by
 unfold zH.f at h
 split at h
 ·cases h
 ·split at h
  ·cases h
  ·omega
theorem z3t {w w1 : World} {x0 x1 x2 y0 y1 y2 y3 : Value} {t1 t2 : TypeId} (hb : Below ((w.alloc (.cells #[x0, x1, x2] t1)).alloc (.cells #[y0, y1, y2, y3] t2)).heap.size ((w.alloc (.cells #[x0, x1, x2] t1)).alloc (.cells #[y0, y1, y2, y3] t2)) w1) :
  w.heap.size + 1 < w1.heap.size /\ w1.cell? ⟨w.heap.size, 0, none⟩ = some x0 /\ w1.cell? ⟨w.heap.size, 1, none⟩ = some x1 /\ w1.cell? ⟨w.heap.size, 2, none⟩ = some x2 /\ w1.cell? ⟨w.heap.size + 1, 0, none⟩ = some y0 /\ w1.cell? ⟨w.heap.size + 1, 1, none⟩ = some y1 /\
   w1.cell? ⟨w.heap.size + 1, 2, none⟩ = some y2 /\ w1.cell? ⟨w.heap.size + 1, 3, none⟩ = some y3 /\ Below w.heap.size w w1 := by
 have b1 : ((w.alloc (.cells #[x0, x1, x2] t1)).alloc (.cells #[y0, y1, y2, y3] t2)).heap[w.heap.size]? = some (.cells #[x0, x1, x2] t1 (0, 0)) := kal (heap_alloc_new w _) _
 have b2 : ((w.alloc (.cells #[x0, x1, x2] t1)).alloc (.cells #[y0, y1, y2, y3] t2)).heap[w.heap.size + 1]? = some (.cells #[y0, y1, y2, y3] t2 (0, 0)) := by have := heap_alloc_new (w.alloc (.cells #[x0, x1, x2] t1)) (.cells #[y0, y1, y2, y3] t2); simpa using this
 exact ⟨by have := hb.size; simp at this; omega, zx hb ((za b1 0).trans rfl), zx hb ((za b1 1).trans rfl), zx hb ((za b1 2).trans rfl), zx hb ((za b2 0).trans rfl), zx hb ((za b2 1).trans rfl), zx hb ((za b2 2).trans rfl), zx hb ((za b2 3).trans rfl),
  yW (bal (bal (jc _ _) _) _) (by simp; omega) hb⟩
theorem ZW.calls (k : Nat) (a0 : Int) (A1 : Option Addr) (c1 : Nat) (l1 : List S76) (a2 op n c : Int) (A3 : Option Addr) (c3 : Nat) (l3 : List S62) (r : Int) (w : World)
  (hr1 : Kd.C k76 w A1 l1.length l1) (hc1 : l1.length <= c1) (hr3 : Kd.C k62 w A3 l3.length l3) (hc3 : l3.length <= c3) (h : ZW.f k a0 l1 a2 op n c l3 = some r) :
  Calls Tryz.prog 130 #[.agg (Vv a0 A1 l1 c1 a2), .agg (Ve op n c A3 l3 c3)] w fun e w' =>
   e = .returned (.int .i64 r) /\ Below w.heap.size w w' := by
 have huE := Tryz.underlying62
 have huH := Tryz.underlying179
 have HR1 := am hr1
 have HC1 := am hc1
 have HR3 := am hr3
 have HC3 := am hc3
 clear hr1 hc1 hr3 hc3
 unfold ZW.f at h
 obtain ⟨t, T0, H⟩ := Option.bind_eq_some_iff.mp h
 have T := am T0
 clear T0 h
 have HH : ((t == 0) = false /\ (t != 0) = true /\ r = 1) \/ (t = 0 /\ decide (a2 < 1) = true /\ r = 1) \/ (t = 0 /\ decide (a2 < 1) = false /\ decide (3 < a2) = true /\ r = 1) \/
   (t = 0 /\ decide (a2 < 1) = false /\ decide (3 < a2) = false /\ ∃ q lf, Aside0 (zE.f k a0 l1 a2 op n c l3 1 400 = some (q, lf)) /\ ((q = true /\ r = 0) \/ (q = false /\ r = 20))) := by
  by_cases ht : t = 0
  ·rw [jb ht] at H
   rcases yu H with ⟨d1, H⟩ | ⟨d1, H⟩
   ·exact .inr (.inl ⟨ht, d1, (sj H).symm⟩)
   ·rcases yu H with ⟨d2, H⟩ | ⟨d2, H⟩
    ·exact .inr (.inr (.inl ⟨ht, d1, d2, (sj H).symm⟩))
    ·obtain ⟨⟨q, lf⟩, F, H⟩ := Option.bind_eq_some_iff.mp H
     refine .inr (.inr (.inr ⟨ht, d1, d2, q, lf, ⟨F⟩, ?_⟩))
     rcases z33 (t := q) H with ⟨e, H⟩ | ⟨e, H⟩
     ·exact .inl ⟨e, (sj H).symm⟩
     ·exact .inr ⟨e, (sj H).symm⟩
  ·rw [ja ht] at H
   exact .inl ⟨bF ht, bN ht, (sj H).symm⟩
 clear H
 have HB := am (jc w.heap.size w)
 rcases HH with ⟨d0, d1, rfl⟩ | ⟨rfl, d1, rfl⟩ | ⟨rfl, d1, d2, rfl⟩ | ⟨rfl, d1, d2, q, lf, F, hq⟩
 case inr.inr.inr =>
  have hw := z3m T.out
  have hw1 := hw.1
  have hw8 := hw.2
  clear hw
  rcases hq with ⟨rfl, rfl⟩ | ⟨rfl, rfl⟩
  all_goals
   go_enter Tryz.func130, Tryz.ntmps130
   go_wp2_with (first
    | (go_at_call 110; (with_reducible refine (zH.calls k a0 _ _ l1 _ _ ?side1 HC1.out T.out).mono ?_); (case side1 => exact ji HR1.out (by repeat (first | exact HB.out | apply bal | apply bd1))); rintro e w1 ⟨rfl, hb⟩; obtain ⟨z0, h0, h1, h2, e0, e1, e2, e3, hb1⟩ := z3t hb; have z1 : w.heap.size < w1.heap.size := Nat.lt_of_succ_lt z0; have B1 := am hb1; clear hb hb1)
    | (go_at_call 132; (with_reducible refine (zE.calls k a0 _ _ l1 a2 _ _ _ _ _ l3 1 400 w1.heap.size _ lf w _ HR1.out HC1.out HR3.out HC3.out (bal B1.out _) B1.out.size (heap_alloc_new _ _) hw1 hw8 F.out).mono ?_); rintro e w2 ⟨rfl, hG2, hgr2⟩; have hb2 := am (yS (bal B1.out _) hgr2 B1.out.size); clear hG2 hgr2))
   go_ret
   exact ⟨rfl, hb2.out⟩
 all_goals
  go_enter Tryz.func130, Tryz.ntmps130
  go_wp2_with (first
   | (go_at_call 110; (with_reducible refine (zH.calls k a0 _ _ l1 _ _ ?side1 HC1.out T.out).mono ?_); (case side1 => exact ji HR1.out (by repeat (first | exact HB.out | apply bal | apply bd1))); rintro e w1 ⟨rfl, hb⟩; obtain ⟨z0, h0, h1, h2, e0, e1, e2, e3, hb1⟩ := z3t hb; have z1 : w.heap.size < w1.heap.size := Nat.lt_of_succ_lt z0; have B1 := am hb1; clear hb hb1))
  go_ret
  exact ⟨rfl, B1.out⟩
def yV.f (k : Nat) (a0 : Int) (l1 : List (S76)) (a2 : Int) (a3_0 : Int) (a3_1 : Int) (a3_2 : Int) (l3_3 : List (S62)) : Option (Int) := (ZW.f k a0 l1 a2 a3_0 a3_1 a3_2 l3_3).bind fun t128 => (some t128)
theorem yV.calls (k : Nat) (a0 : Int) (A1 : Option Addr) (c1 : Nat) (l1 : List (S76)) (a2 : Int) (a3_0 : Int) (a3_1 : Int) (a3_2 : Int) (A3_3 : Option Addr) (c3_3 : Nat) (l3_3 : List (S62)) (r : Int) (w : World) (hr1 : Kd.C k76 w A1 l1.length l1) (hc1 : l1.length <= c1) (hr3_3 : Kd.C k62 w A3_3 l3_3.length l3_3) (hc3_3 : l3_3.length <= c3_3) (h : yV.f k a0 l1 a2 a3_0 a3_1 a3_2 l3_3 = some r) :
  Calls Tryz.prog 125 #[.int .i64 a0, .slice A1 l1.length c1, .int .i64 a2, .agg (Ve a3_0 a3_1 a3_2 A3_3 l3_3 c3_3)] w fun e w' => e = .returned (.int .i64 r) /\ Below w.heap.size w w' := by
 have hu62 := Tryz.underlying62
 have hu179 := Tryz.underlying179
 have HR1 := am hr1
 have HC1 := am hc1
 clear hr1 hc1
 have HR3_3 := am hr3_3
 have HC3_3 := am hc3_3
 clear hr3_3 hc3_3
 have HB := am (jc w.heap.size w)
 have H := h
 clear h
 obtain ⟨t128, A5, H⟩ := be H
 obtain rfl := sj H
 go_enter Tryz.func125, Tryz.ntmps125
 go_wp2_with (first | ((with_reducible refine zw (N := 7) rfl ?_); refine bz HB 7 rfl rfl (Ve a3_0 a3_1 a3_2 A3_3 l3_3 c3_3) 62 ?_; intro gb127 w6 BK127 GE127 HB; have hz7 := cf4 BK127.out) | (go_at_call 130; (with_reducible refine (ZW.calls k a0 _ _ l1 a2 a3_0 a3_1 a3_2 _ _ l3_3 t128 _ (cb HR1 HB) HC1.out (cb HR3_3 HB) HC3_3.out A5.out).mono ?_); rintro e w8 ⟨rfl, hb⟩; replace BK127 := kb BK127 hb; replace HB := sb HB hb))
 go_ret
 exact ⟨rr, bb HB⟩
mutual
def Zf.l0 : Nat -> Int -> List (S62) -> Int -> Int -> Option (Int)
 | 0, _, _, _, _ => none
 | k + 1, x3, x7, x8, x9 => if x9 < x8 then (if 0 <= x9 then (if x9 < (x7.length : Int) then ((Zf.f k ((zi x7 x9).f0) ((zi x7 x9).f1) ((zi x7 x9).f2) ((zi x7 x9).f3)).bind fun t132 => (Zf.l0 k (wrap64 (x3 + t132)) x7 x8 (wrap64 (x9 + 1)))) else (none)) else (none)) else (some x3)
def Zf.f : Nat -> Int -> Int -> Int -> List (S62) -> Option (Int)
 | 0, _, _, _, _ => none
 | k + 1, a0_0, a0_1, a0_2, l0_3 => Zf.l0 k 1 l0_3 (l0_3.length : Int) 0
end
theorem Zf.calls (k : Nat) : ∀ (a0_0 : Int) (a0_1 : Int) (a0_2 : Int) (A0_3 : Option Addr) (c0_3 : Nat) (l0_3 : List (S62)) (r : Int) (w : World) (hr0_3 : Kd.C k62 w A0_3 l0_3.length l0_3) (hc0_3 : l0_3.length <= c0_3) (h : Zf.f k a0_0 a0_1 a0_2 l0_3 = some r),
  Calls Tryz.prog 126 #[.agg (Ve a0_0 a0_1 a0_2 A0_3 l0_3 c0_3)] w fun e w' => e = .returned (.int .i64 r) /\ Below w.heap.size w w' := by
 induction k using Nat.strongRecOn with
 | _ k ih =>
 intro a0_0 a0_1 a0_2 A0_3 c0_3 l0_3 r w hr0_3 hc0_3 h
 cases k with
 | zero => exact jm h (by simp [Zf.f])
 | succ k =>
 simp only [Zf.f] at h
 have hu62 := Tryz.underlying62
 have HR0_3 := am hr0_3
 have HC0_3 := am hc0_3
 clear hr0_3 hc0_3
 have HB := am (jc w.heap.size w)
 have H := h
 clear h
 have H' := am H
 clear H
 go_enter Tryz.func126, Tryz.ntmps126
 go_wp2_with (first | ((with_reducible refine zw (N := 1) rfl ?_); refine bz HB 1 rfl rfl (Ve a0_0 a0_1 a0_2 A0_3 l0_3 c0_3) 62 ?_; intro gb129 w2 BK129 GE129 HB; have hz3 := cf4 BK129.out))
 go_loopg [3, 9] k (fun kq v3 v9 w' => ∃ (x3_1 : Int) (x9_1 : Int), v3 = .int .i64 x3_1 /\ v9 = .int .i64 x9_1 /\ Aside0 (Zf.l0 kq x3_1 l0_3 (l0_3.length : Int) x9_1 = some r) /\ Aside0 (kq <= k) /\ Aside0 (w'.heap[gb129]? = some (.cells #[.int .i64 a0_0, .int .i64 a0_1, .int .i64 a0_2, (.slice A0_3 l0_3.length c0_3)] 62 (0, 0))) /\ Aside0 (Below w.heap.size w w'))
 case atStart => exact ⟨(1), (0), rs, rs, H', ⟨jk _⟩, ⟨kk BK129⟩, ⟨bb HB⟩⟩
 case round =>
  clear H'
  obtain ⟨x3_1, x9_1, rfl, rfl, HA, HK1, BK129, HB⟩ := hrel
  cases gk with
  | zero => exact jm HA.out (by simp [Zf.l0])
  | succ k1 =>
   have H := HA.out
   clear HA
   simp only [Zf.l0] at H
   obtain ⟨c4b0, H⟩ | ⟨c4b0, H⟩ := ei H
   ·obtain rfl := sj H
    go_wp2
    go_ret
    exact ⟨rr, bb HB⟩
   obtain ⟨c5b0, H⟩ := pd H
   obtain ⟨c6b0, H⟩ := pd H
   obtain ⟨t132, A7, H⟩ := be H
   have H' := am H
   clear H
   have p130 : 0 <= (x9_1 : Int) := od
   have q130 : x9_1 < (l0_3.length : Int) := od
   obtain ⟨ad130, A130_3, c130_3, e130, hx130_0, hx130_1, hx130_2, hx130_3, hl130_3, hi130_3⟩ := Zk HR0_3.out x9_1 p130 q130
   cases e130
   replace hx130_0 := zo HB.out hx130_0
   replace hx130_1 := zo HB.out hx130_1
   replace hx130_2 := zo HB.out hx130_2
   replace hx130_3 := zo HB.out hx130_3
   have HR130_3 := am hi130_3
   have HC130_3 := am hl130_3
   clear hi130_3 hl130_3
   replace p130 := eT p130
   replace q130 := eT q130
   go_wp2_with (first | ((with_reducible refine zw (N := 5) rfl ?_); refine bx 5 rfl rfl Vx 62 ?_; intro gb131 hg w8 hbox hb; have BK131 := am (hbox); have GE131 := ge HB hg; have NB129_131 := nl BK129 hg; have NB131_129 := ng BK129 hg; replace BK129 := kb BK129 hb; replace HB := sb HB hb; clear hb hbox hg; have hnb9 := NB131_129.out; have hnc9 := NB129_131.out; have hz10 := cf4 BK131.out) | (go_at_call 126; (with_reducible refine (ih k1 (by have := HK1.out; omega) ((zi l0_3 x9_1).f0) ((zi l0_3 x9_1).f1) ((zi l0_3 x9_1).f2) _ _ ((zi l0_3 x9_1).f3) t132 _ (ji HR130_3.out (bb HB)) HC130_3.out A7.out).mono ?_); rintro e w11 ⟨rfl, hb⟩; replace BK129 := kb BK129 hb; replace BK131 := am (zd (g := gb131) (o := .cells (Ve ((zi l0_3 x9_1).f0) ((zi l0_3 x9_1).f1) ((zi l0_3 x9_1).f2) A130_3 ((zi l0_3 x9_1).f3) c130_3) 62 (0, 0)) (by (with_reducible repeat (first | refine kdN ?_ _ | refine kdr ?_ | refine kal ?_ _)); refine zJ (cs := #[.int .i64 ((zi l0_3 x9_1).f0), .int .i64 ((zi l0_3 x9_1).f1), .int .i64 ((zi l0_3 x9_1).f2), .slice none 0 0]) ?_ 3 _ rfl; (with_reducible repeat (first | refine kdN ?_ _ | refine kdr ?_ | refine kal ?_ _)); refine zJ (cs := #[.int .i64 ((zi l0_3 x9_1).f0), .int .i64 ((zi l0_3 x9_1).f1), .int .i64 0, .slice none 0 0]) ?_ 2 _ rfl; (with_reducible repeat (first | refine kdN ?_ _ | refine kdr ?_ | refine kal ?_ _)); refine zJ (cs := (Vkq ((zi l0_3 x9_1).f0))) ?_ 1 _ rfl; (with_reducible repeat (first | refine kdN ?_ _ | refine kdr ?_ | refine kal ?_ _)); refine zJ (cs := Vx) ?_ 0 _ rfl; (with_reducible repeat (first | refine kdN ?_ _ | refine kdr ?_ | refine kal ?_ _)); exact BK131.out) hb); replace HB := sb HB hb))
   go_roundg k1
   case measure => have := HK1.out; omega
   case rel => exact ⟨(wrap64 (x3_1 + t132)), (wrap64 (x9_1 + 1)), rs, rs, H', ⟨by have := HK1.out; omega⟩, ⟨kk BK129⟩, ⟨bb HB⟩⟩
mutual
def Zt.l0 : Nat -> Int -> Int -> Int -> Int -> Int -> List (S62) -> Option (Int)
 | 0, _, _, _, _, _, _ => none
 | k + 1, x3, x4, x843000, x843001, x843002, x843003 => if x4 < (x843003.length : Int) then (if 0 <= x4 then ((Zt.f k ((zi x843003 x4).f0) ((zi x843003 x4).f1) ((zi x843003 x4).f2) ((zi x843003 x4).f3)).bind fun t844 => (Zt.l0 k (mx x3 t844) (wrap64 (x4 + 1)) x843000 x843001 x843002 x843003)) else (none)) else (some (wrap64 (x3 + 1)))
def Zt.f : Nat -> Int -> Int -> Int -> List (S62) -> Option (Int)
 | 0, _, _, _, _ => none
 | k + 1, a0_0, a0_1, a0_2, l0_3 => Zt.l0 k 0 0 a0_0 a0_1 a0_2 l0_3
end
theorem Zt.calls (k : Nat) : ∀ (a0_0 : Int) (a0_1 : Int) (a0_2 : Int) (A0_3 : Option Addr) (c0_3 : Nat) (l0_3 : List (S62)) (r : Int) (w : World) (hr0_3 : Kd.C k62 w A0_3 l0_3.length l0_3) (hc0_3 : l0_3.length <= c0_3) (h : Zt.f k a0_0 a0_1 a0_2 l0_3 = some r),
  Calls Tryz.prog 98 #[.agg (Ve a0_0 a0_1 a0_2 A0_3 l0_3 c0_3)] w fun e w' => e = .returned (.int .i64 r) /\ Below w.heap.size w w' := by
 induction k using Nat.strongRecOn with
 | _ k ih =>
 intro a0_0 a0_1 a0_2 A0_3 c0_3 l0_3 r w hr0_3 hc0_3 h
 cases k with
 | zero => exact jm h (by simp [Zt.f])
 | succ k =>
 simp only [Zt.f] at h
 have hu62 := Tryz.underlying62
 have HR0_3 := am hr0_3
 have HC0_3 := am hc0_3
 clear hr0_3 hc0_3
 have HB := am (jc w.heap.size w)
 have H := h
 clear h
 have H' := am H
 clear H
 go_enter Tryz.func98, Tryz.ntmps98
 go_wp2_with (first | ((with_reducible refine zw (N := 1) rfl ?_); refine bz HB 1 rfl rfl (Ve a0_0 a0_1 a0_2 A0_3 l0_3 c0_3) 62 ?_; intro gb842 w2 BK842 GE842 HB))
 go_loopg [3, 4] k (fun kq v3 v4 w' => ∃ (x3_1 : Int) (x4_1 : Int), v3 = .int .i64 x3_1 /\ v4 = .int .i64 x4_1 /\ Aside0 (Zt.l0 kq x3_1 x4_1 a0_0 a0_1 a0_2 l0_3 = some r) /\ Aside0 (kq <= k) /\ Aside0 (w'.heap[gb842]? = some (.cells #[.int .i64 a0_0, .int .i64 a0_1, .int .i64 a0_2, (.slice A0_3 l0_3.length c0_3)] 62 (0, 0))) /\ Aside0 (Below w.heap.size w w'))
 case atStart => exact ⟨(0), (0), rs, rs, H', ⟨jk _⟩, ⟨kk BK842⟩, ⟨bb HB⟩⟩
 case round =>
  clear H'
  obtain ⟨x3_1, x4_1, rfl, rfl, HA, HK1, BK842, HB⟩ := hrel
  cases gk with
  | zero => exact jm HA.out (by simp [Zt.l0])
  | succ k1 =>
   have H := HA.out
   clear HA
   simp only [Zt.l0] at H
   obtain ⟨c3b0, H⟩ | ⟨c3b0, H⟩ := ei H
   ·obtain rfl := sj H
    have hz9 := cf4 BK842.out
    go_wp2
    go_ret
    exact ⟨rr, bb HB⟩
   obtain ⟨c4b0, H⟩ := pd H
   obtain ⟨t844, A5, H⟩ := be H
   obtain ⟨ji6, hji6⟩ : ∃ j_ : Int, (mx x3_1 t844) = j_ := ⟨_, rfl⟩
   replace H : (Zt.l0 k1 ji6 (wrap64 (x4_1 + 1)) a0_0 a0_1 a0_2 l0_3) = some r := by first | (rw [hji6] at H; exact H) | (simp only [hji6] at H ⊢; exact H)
   (try rw [hji6] at A5)
   have hji6_ : (if x3_1 < t844 then t844 else x3_1) = ji6 := hji6
   have H' := am H
   clear H
   have hz7 := cf4 BK842.out
   have p843 : 0 <= (x4_1 : Int) := od
   have q843 : x4_1 < (l0_3.length : Int) := od
   obtain ⟨ad843, A843_3, c843_3, e843, hx843_0, hx843_1, hx843_2, hx843_3, hl843_3, hi843_3⟩ := Zk HR0_3.out x4_1 p843 q843
   cases e843
   replace hx843_0 := zo HB.out hx843_0
   replace hx843_1 := zo HB.out hx843_1
   replace hx843_2 := zo HB.out hx843_2
   replace hx843_3 := zo HB.out hx843_3
   have HR843_3 := am hi843_3
   have HC843_3 := am hl843_3
   clear hi843_3 hl843_3
   replace p843 := eT p843
   replace q843 := eT q843
   go_wp2_with (first | (go_at_call 98; (with_reducible refine (ih k1 (by have := HK1.out; omega) ((zi l0_3 x4_1).f0) ((zi l0_3 x4_1).f1) ((zi l0_3 x4_1).f2) _ _ ((zi l0_3 x4_1).f3) t844 _ (cb HR843_3 HB) HC843_3.out A5.out).mono ?_); rintro e w8 ⟨rfl, hb⟩; replace BK842 := kb BK842 hb; replace HB := sb HB hb))
   go_roundg k1
   case measure => have := HK1.out; omega
   case rel => exact ⟨(ji6), (wrap64 (x4_1 + 1)), (by first | rfl | (simp; done) | (simp only [<- hji6] <;> (first | rfl | simp)) | (simp [*]; done)), rs, H', ⟨by have := HK1.out; omega⟩, ⟨kk BK842⟩, ⟨bb HB⟩⟩
mutual
def ZF.l0 : Nat -> Int -> Int -> Int -> Int -> Int -> List (S62) -> Option (Int)
 | 0, _, _, _, _, _, _ => none
 | k + 1, x5, x6, x102000, x102001, x102002, x102003 => if x6 < (x102003.length : Int) then (if 0 <= x6 then ((ZF.f k ((zi x102003 x6).f0) ((zi x102003 x6).f1) ((zi x102003 x6).f2) ((zi x102003 x6).f3) x5).bind fun t103 => (ZF.l0 k t103 (wrap64 (x6 + 1)) x102000 x102001 x102002 x102003)) else (none)) else (some x5)
def ZF.f : Nat -> Int -> Int -> Int -> List (S62) -> Int -> Option (Int)
 | 0, _, _, _, _, _ => none
 | k + 1, a0_0, a0_1, a0_2, l0_3, a1 => if a1 < 1 then (some 0) else (ZF.l0 k (wrap64 (a1 - 1)) 0 a0_0 a0_1 a0_2 l0_3)
end
theorem ZF.calls (k : Nat) : ∀ (a0_0 : Int) (a0_1 : Int) (a0_2 : Int) (A0_3 : Option Addr) (c0_3 : Nat) (l0_3 : List (S62)) (a1 : Int) (r : Int) (w : World) (hr0_3 : Kd.C k62 w A0_3 l0_3.length l0_3) (hc0_3 : l0_3.length <= c0_3) (h : ZF.f k a0_0 a0_1 a0_2 l0_3 a1 = some r),
  Calls Tryz.prog 59 #[.agg (Ve a0_0 a0_1 a0_2 A0_3 l0_3 c0_3), .int .i64 a1] w fun e w' => e = .returned (.int .i64 r) /\ Below w.heap.size w w' := by
 induction k using Nat.strongRecOn with
 | _ k ih =>
 intro a0_0 a0_1 a0_2 A0_3 c0_3 l0_3 a1 r w hr0_3 hc0_3 h
 cases k with
 | zero => exact jm h (by simp [ZF.f])
 | succ k =>
 simp only [ZF.f] at h
 have hu62 := Tryz.underlying62
 have HR0_3 := am hr0_3
 have HC0_3 := am hc0_3
 clear hr0_3 hc0_3
 have HB := am (jc w.heap.size w)
 have H := h
 clear h
 obtain ⟨c3b0, H⟩ | ⟨c3b0, H⟩ := iE H
 ·obtain rfl := sj H
  go_enter Tryz.func59, Tryz.ntmps59
  go_wp2_with (first | ((with_reducible refine zw (N := 2) rfl ?_); refine bz HB 2 rfl rfl (Ve a0_0 a0_1 a0_2 A0_3 l0_3 c0_3) 62 ?_; intro gb101 w4 BK101 GE101 HB))
  go_ret
  exact ⟨rr, bb HB⟩
 have H' := am H
 clear H
 go_enter Tryz.func59, Tryz.ntmps59
 go_wp2_with (first | ((with_reducible refine zw (N := 2) rfl ?_); refine bz HB 2 rfl rfl (Ve a0_0 a0_1 a0_2 A0_3 l0_3 c0_3) 62 ?_; intro gb101 w5 BK101 GE101 HB))
 go_loopg [5, 6] k (fun kq v5 v6 w' => ∃ (x5_1 : Int) (x6_1 : Int), v5 = .int .i64 x5_1 /\ v6 = .int .i64 x6_1 /\ Aside0 (ZF.l0 kq x5_1 x6_1 a0_0 a0_1 a0_2 l0_3 = some r) /\ Aside0 (kq <= k) /\ Aside0 (w'.heap[gb101]? = some (.cells #[.int .i64 a0_0, .int .i64 a0_1, .int .i64 a0_2, (.slice A0_3 l0_3.length c0_3)] 62 (0, 0))) /\ Aside0 (Below w.heap.size w w'))
 case atStart => exact ⟨(wrap64 (a1 - 1)), (0), rs, rs, H', ⟨jk _⟩, ⟨kk BK101⟩, ⟨bb HB⟩⟩
 case round =>
  clear H'
  obtain ⟨x5_1, x6_1, rfl, rfl, HA, HK1, BK101, HB⟩ := hrel
  cases gk with
  | zero => exact jm HA.out (by simp [ZF.l0])
  | succ k1 =>
   have H := HA.out
   clear HA
   simp only [ZF.l0] at H
   obtain ⟨c6b0, H⟩ | ⟨c6b0, H⟩ := ei H
   ·obtain rfl := sj H
    have hz11 := cf4 BK101.out
    go_wp2
    go_ret
    exact ⟨rr, bb HB⟩
   obtain ⟨c7b0, H⟩ := pd H
   obtain ⟨t103, A8, H⟩ := be H
   have H' := am H
   clear H
   have hz9 := cf4 BK101.out
   have p102 : 0 <= (x6_1 : Int) := od
   have q102 : x6_1 < (l0_3.length : Int) := od
   obtain ⟨ad102, A102_3, c102_3, e102, hx102_0, hx102_1, hx102_2, hx102_3, hl102_3, hi102_3⟩ := Zk HR0_3.out x6_1 p102 q102
   cases e102
   replace hx102_0 := zo HB.out hx102_0
   replace hx102_1 := zo HB.out hx102_1
   replace hx102_2 := zo HB.out hx102_2
   replace hx102_3 := zo HB.out hx102_3
   have HR102_3 := am hi102_3
   have HC102_3 := am hl102_3
   clear hi102_3 hl102_3
   replace p102 := eT p102
   replace q102 := eT q102
   go_wp2_with (first | (go_at_call 59; (with_reducible refine (ih k1 (by have := HK1.out; omega) ((zi l0_3 x6_1).f0) ((zi l0_3 x6_1).f1) ((zi l0_3 x6_1).f2) _ _ ((zi l0_3 x6_1).f3) x5_1 t103 _ (cb HR102_3 HB) HC102_3.out A8.out).mono ?_); rintro e w10 ⟨rfl, hb⟩; replace BK101 := kb BK101 hb; replace HB := sb HB hb))
   go_roundg k1
   case measure => have := HK1.out; omega
   case rel => exact ⟨(t103), (wrap64 (x6_1 + 1)), rs, rs, H', ⟨by have := HK1.out; omega⟩, ⟨kk BK101⟩, ⟨bb HB⟩⟩
def z08.f (k : Nat) (a0_0 : Int) (a0_1 : Int) (a0_2 : Int) (l0_3 : List (S62)) (a1 : Int) : Option (Bool) := (ZF.f k a0_0 a0_1 a0_2 l0_3 (wrap64 (a1 + 1))).bind fun t841 => (some (decide (t841 > 0)))
theorem z08.calls (k : Nat) (a0_0 : Int) (a0_1 : Int) (a0_2 : Int) (A0_3 : Option Addr) (c0_3 : Nat) (l0_3 : List (S62)) (a1 : Int) (r : Bool) (w : World) (hr0_3 : Kd.C k62 w A0_3 l0_3.length l0_3) (hc0_3 : l0_3.length <= c0_3) (h : z08.f k a0_0 a0_1 a0_2 l0_3 a1 = some r) :
  Calls Tryz.prog 51 #[.agg (Ve a0_0 a0_1 a0_2 A0_3 l0_3 c0_3), .int .i64 a1] w fun e w' => e = .returned (.bool r) /\ Below w.heap.size w w' := by
 have hu62 := Tryz.underlying62
 have HR0_3 := am hr0_3
 have HC0_3 := am hc0_3
 clear hr0_3 hc0_3
 have HB := am (jc w.heap.size w)
 have H := h
 clear h
 obtain ⟨t841, A3, H⟩ := be H
 obtain rfl := sj H
 go_enter Tryz.func51, Tryz.ntmps51
 go_wp2_with (first | ((with_reducible refine zw (N := 2) rfl ?_); refine bz HB 2 rfl rfl (Ve a0_0 a0_1 a0_2 A0_3 l0_3 c0_3) 62 ?_; intro gb840 w4 BK840 GE840 HB; have hz5 := cf4 BK840.out) | (go_at_call 59; (with_reducible refine (ZF.calls k a0_0 a0_1 a0_2 _ _ l0_3 (wrap64 (a1 + 1)) t841 _ (cb HR0_3 HB) HC0_3.out A3.out).mono ?_); rintro e w6 ⟨rfl, hb⟩; replace BK840 := kb BK840 hb; replace HB := sb HB hb))
 go_ret
 exact ⟨rr, bb HB⟩
def ZG.f (a0 : Bool) : Option (Int) := if a0 = true then (some 1) else (some 0)
theorem ZG.calls (a0 : Bool) (r : Int) (w : World) (h : ZG.f a0 = some r) :
  Calls Tryz.prog 80 #[.bool a0] w fun e w' => e = .returned (.int .i64 r) /\ zT w w' := by
 have H := h
 clear h
 replace H := bo H
 obtain ⟨rfl, H⟩ | ⟨rfl, H⟩ := H
 ·obtain rfl := sj H
  go_enter Tryz.func80, Tryz.ntmps80
  go_wp2
  go_ret
  exact ⟨rs, dr⟩
 obtain rfl := sj H
 go_enter Tryz.func80, Tryz.ntmps80
 go_wp2
 go_ret
 exact ⟨rs, dr⟩
def Ze.l0 : Nat -> Int -> Int -> Int -> Option (Int)
 | 0, _, _, _ => none
 | k + 1, x0, x3, x4 => if x4 < x0 then (Ze.l0 k x0 (wrap64 (2 * x3)) (wrap64 (x4 + 1))) else (some x3)
def Ze.f (k : Nat) (a0 : Int) : Option (Int) := Ze.l0 k a0 1 0
theorem Ze.calls (k : Nat) (a0 : Int) (r : Int) (w : World) (h : Ze.f k a0 = some r) :
  Calls Tryz.prog 105 #[.int .i64 a0] w fun e w' => e = .returned (.int .i64 r) /\ zT w w' := by
 have H := h
 clear h
 have H' := am H
 clear H
 go_enter Tryz.func105, Tryz.ntmps105
 go_wp2
 go_loopg [3, 4] k (fun kq v3 v4 w' => ∃ (x3_1 : Int) (x4_1 : Int), v3 = .int .i64 x3_1 /\ v4 = .int .i64 x4_1 /\ Aside0 (Ze.l0 kq a0 x3_1 x4_1 = some r) /\ Aside0 (kq <= k) /\ zT w w')
 case atStart => exact ⟨(1), (0), rs, rs, H', ⟨jk _⟩, dr⟩
 case round =>
  clear H'
  obtain ⟨x3_1, x4_1, rfl, rfl, HA, HK1, ⟨m1, rfl⟩⟩ := hrel
  cases gk with
  | zero => exact jm HA.out (by simp [Ze.l0])
  | succ k1 =>
   have H := HA.out
   clear HA
   simp only [Ze.l0] at H
   obtain ⟨c2b0, H⟩ | ⟨c2b0, H⟩ := ei H
   ·obtain rfl := sj H
    go_wp2
    go_ret
    exact ⟨rs, dr⟩
   have H' := am H
   clear H
   go_wp2
   go_roundg k1
   case measure => have := HK1.out; omega
   case rel => exact ⟨(wrap64 (2 * x3_1)), (wrap64 (x4_1 + 1)), rs, rs, H', ⟨by have := HK1.out; omega⟩, dr⟩
def yh.f (a0 : Int) : Option (Bool) := if a0 >= 1 then (some (decide (a0 <= 8))) else (some false)
theorem yh.calls (a0 : Int) (r : Bool) (w : World) (h : yh.f a0 = some r) :
  Calls Tryz.prog 63 #[.int .i64 a0] w fun e w' => e = .returned (.bool r) /\ zT w w' := by
 have H := h
 clear h
 obtain ⟨c2b0, H⟩ | ⟨c2b0, H⟩ := iE H
 ·obtain rfl := sj H
  go_enter Tryz.func63, Tryz.ntmps63
  go_wp2
  go_ret
  exact ⟨rs, dr⟩
 obtain rfl := sj H
 go_enter Tryz.func63, Tryz.ntmps63
 go_wp2
 go_ret
 exact ⟨rs, dr⟩
def yJ.f (k : Nat) (a0 : Int) (a1 : Int) : Option (Bool) := (yh.f a0).bind fun t791 => (if t791 = true then (if a1 >= 0 then ((Ze.f k a0).bind fun t792 => (some (decide (a1 < t792)))) else (some false)) else (some false))
theorem yJ.calls (k : Nat) (a0 : Int) (a1 : Int) (r : Bool) (w : World) (h : yJ.f k a0 a1 = some r) :
  Calls Tryz.prog 82 (Veq a0 a1) w fun e w' => e = .returned (.bool r) /\ zT w w' := by
 have H := h
 clear h
 obtain ⟨t791, A3, H⟩ := be H
 replace H := ob H
 obtain ⟨rfl, H⟩ | ⟨rfl, H⟩ := H
 ·obtain rfl := sj H
  go_enter Tryz.func82, Tryz.ntmps82
  go_wp2_with (first | ((with_reducible refine zz (f := 63) rfl ?_); refine gL (some 6) rfl rfl Tryz.func63 #[.int .i64 a0] rfl ?_; (with_reducible refine (yh.calls a0 false _ A3.out).mono ?_); rintro e w' ⟨rfl, ⟨nd, rfl⟩⟩; refine ⟨_, rfl, ?_⟩))
  go_ret
  exact ⟨rs, dr⟩
 obtain ⟨c5b0, H⟩ | ⟨c5b0, H⟩ := ei H
 ·obtain rfl := sj H
  go_enter Tryz.func82, Tryz.ntmps82
  go_wp2_with (first | ((with_reducible refine zz (f := 63) rfl ?_); refine gL (some 6) rfl rfl Tryz.func63 #[.int .i64 a0] rfl ?_; (with_reducible refine (yh.calls a0 true _ A3.out).mono ?_); rintro e w' ⟨rfl, ⟨nd, rfl⟩⟩; refine ⟨_, rfl, ?_⟩))
  go_ret
  exact ⟨rs, dr⟩
 obtain ⟨t792, A6, H⟩ := be H
 obtain rfl := sj H
 go_enter Tryz.func82, Tryz.ntmps82
 go_wp2_with (first | ((with_reducible refine zz (f := 63) rfl ?_); refine gL (some 6) rfl rfl Tryz.func63 #[.int .i64 a0] rfl ?_; (with_reducible refine (yh.calls a0 true _ A3.out).mono ?_); rintro e w' ⟨rfl, ⟨nd, rfl⟩⟩; refine ⟨_, rfl, ?_⟩) | (go_at_call 105; (with_reducible refine (Ze.calls k a0 t792 _ A6.out).mono ?_); rintro e w' ⟨rfl, ⟨nd, rfl⟩⟩))
 go_ret
 exact ⟨rs, dr⟩
def YD.f (a0 : Int) : Option (Bool) := if a0 >= 2 then (if a0 <= 11 then (some true) else (if a0 = 13 then (some true) else (some (a0 == 14)))) else (if a0 = 13 then (some true) else (some (a0 == 14)))
theorem YD.calls (a0 : Int) (r : Bool) (w : World) (h : YD.f a0 = some r) :
  Calls Tryz.prog 83 #[.int .i64 a0] w fun e w' => e = .returned (.bool r) /\ zT w w' := by
 have H := h
 clear h
 obtain ⟨c2b0, H⟩ | ⟨c2b0, H⟩ := ei H
 ·obtain ⟨c5, c5b0, c5b1, H⟩ | ⟨c5b0, c5b1, H⟩ := qi H
  ·obtain rfl := sj H
   go_enter Tryz.func83, Tryz.ntmps83
   go_wp2
   go_ret
   exact ⟨rs, dr⟩
  obtain rfl := sj H
  go_enter Tryz.func83, Tryz.ntmps83
  go_wp2
  go_ret
  exact ⟨rs, dr⟩
 obtain ⟨c3b0, H⟩ | ⟨c3b0, H⟩ := iE H
 ·obtain rfl := sj H
  go_enter Tryz.func83, Tryz.ntmps83
  go_wp2
  go_ret
  exact ⟨rs, dr⟩
 obtain ⟨c4, c4b0, c4b1, H⟩ | ⟨c4b0, c4b1, H⟩ := qi H
 ·obtain rfl := sj H
  go_enter Tryz.func83, Tryz.ntmps83
  go_wp2
  go_ret
  exact ⟨rs, dr⟩
 obtain rfl := sj H
 go_enter Tryz.func83, Tryz.ntmps83
 go_wp2
 go_ret
 exact ⟨rs, dr⟩
def z0B.f (a0 : Int) : Option (Int) := if a0 = 0 then (some 0) else (if a0 = 12 then (some 1) else (if a0 = 15 then (some 3) else ((YD.f a0).bind fun t845 => (if t845 = true then (some 2) else (some (-1))))))
theorem z0B.calls (a0 : Int) (r : Int) (w : World) (h : z0B.f a0 = some r) :
  Calls Tryz.prog 128 #[.int .i64 a0] w fun e w' => e = .returned (.int .i64 r) /\ zT w w' := by
 have H := h
 clear h
 obtain ⟨c2b0, c2b1, H⟩ | ⟨c2, c2b0, c2b1, H⟩ := iq H
 ·obtain rfl := sj H
  go_enter Tryz.func128, Tryz.ntmps128
  go_wp2
  go_ret
  exact ⟨rs, dr⟩
 obtain ⟨c3b0, c3b1, H⟩ | ⟨c3, c3b0, c3b1, H⟩ := iq H
 ·obtain rfl := sj H
  go_enter Tryz.func128, Tryz.ntmps128
  go_wp2
  go_ret
  exact ⟨rs, dr⟩
 obtain ⟨c4b0, c4b1, H⟩ | ⟨c4, c4b0, c4b1, H⟩ := iq H
 ·obtain rfl := sj H
  go_enter Tryz.func128, Tryz.ntmps128
  go_wp2
  go_ret
  exact ⟨rs, dr⟩
 obtain ⟨t845, A5, H⟩ := be H
 replace H := bo H
 obtain ⟨rfl, H⟩ | ⟨rfl, H⟩ := H
 ·obtain rfl := sj H
  go_enter Tryz.func128, Tryz.ntmps128
  go_wp2_with (first | ((with_reducible refine zz (f := 83) rfl ?_); refine gL (some 11) rfl rfl Tryz.func83 #[.int .i64 a0] rfl ?_; (with_reducible refine (YD.calls a0 true _ A5.out).mono ?_); rintro e w' ⟨rfl, ⟨nd, rfl⟩⟩; refine ⟨_, rfl, ?_⟩))
  go_ret
  exact ⟨rs, dr⟩
 obtain rfl := sj H
 go_enter Tryz.func128, Tryz.ntmps128
 go_wp2_with (first | ((with_reducible refine zz (f := 83) rfl ?_); refine gL (some 11) rfl rfl Tryz.func83 #[.int .i64 a0] rfl ?_; (with_reducible refine (YD.calls a0 false _ A5.out).mono ?_); rintro e w' ⟨rfl, ⟨nd, rfl⟩⟩; refine ⟨_, rfl, ?_⟩))
 go_ret
 exact ⟨rs, dr⟩
def yp.j0 : Nat -> Int -> Bool -> Int -> Int -> Int -> List (S62) -> Option (Bool)
 | 0, _, _, _, _, _, _ => none
 | k + 1, x0, x56, x847000, x847001, x847002, x847003 => if x56 = true then (some false) else (if x847000 = 0 then ((yJ.f k x0 x847001).bind fun t850 => (some t850)) else (some (x847001 == 0)))
def yp.f (k : Nat) (a0 : Int) (l1 : List (S76)) (a2 : Int) (a3_0 : Int) (a3_1 : Int) (a3_2 : Int) (l3_3 : List (S62)) : Option (Bool) := if a3_0 = 1 then (if a3_1 < 0 then (some false) else (if a3_1 >= (l1.length : Int) then (some false) else (if a3_2 < 0 then (some false) else (if a3_2 >= a2 then (some false) else (if 0 <= a3_1 then (if a3_1 < (l1.length : Int) then ((ZG.f (decide (((zp l1 a3_1).f2) > 1))).bind fun t848 => (some ((l3_3.length : Int) == t848))) else (none)) else (none)))))) else (if a3_2 = 0 then ((z0B.f a3_0).bind fun t849 => (yp.j0 k a0 ((l3_3.length : Int) != t849) a3_0 a3_1 a3_2 l3_3)) else (yp.j0 k a0 true a3_0 a3_1 a3_2 l3_3))
theorem yp.calls (k : Nat) (a0 : Int) (A1 : Option Addr) (c1 : Nat) (l1 : List (S76)) (a2 : Int) (a3_0 : Int) (a3_1 : Int) (a3_2 : Int) (A3_3 : Option Addr) (c3_3 : Nat) (l3_3 : List (S62)) (r : Bool) (w : World) (hr1 : Kd.C k76 w A1 l1.length l1) (hc1 : l1.length <= c1) (hr3_3 : Kd.C k62 w A3_3 l3_3.length l3_3) (hc3_3 : l3_3.length <= c3_3) (h : yp.f k a0 l1 a2 a3_0 a3_1 a3_2 l3_3 = some r) :
  Calls Tryz.prog 117 #[.int .i64 a0, .slice A1 l1.length c1, .int .i64 a2, .agg (Ve a3_0 a3_1 a3_2 A3_3 l3_3 c3_3)] w fun e w' => e = .returned (.bool r) /\ Below w.heap.size w w' := by
 have hu62 := Tryz.underlying62
 have HR1 := am hr1
 have HC1 := am hc1
 clear hr1 hc1
 have HR3_3 := am hr3_3
 have HC3_3 := am hc3_3
 clear hr3_3 hc3_3
 have HB := am (jc w.heap.size w)
 have H := h
 clear h
 obtain ⟨c5, c5b0, c5b1, H⟩ | ⟨c5b0, c5b1, H⟩ := qi H
 ·have HC23 := am H
  clear H
  go_enter Tryz.func117, Tryz.ntmps117
  go_upto_region 5 with (first | ((with_reducible refine zw (N := 7) rfl ?_); (try (refine zB (by rfl) ?_; dsimp only)); refine bx 7 rfl rfl (Ve a3_0 a3_1 a3_2 A3_3 l3_3 c3_3) 62 ?_; intro gb846 hg w24 hbox hb; have BK846 := am (hbox); have GE846 := ge HB hg; replace HB := sb HB hb; clear hb hbox hg; have hz25 := cf4 BK846.out))
  repeat (go_quiet (first | ((with_reducible refine zw (N := 7) rfl ?_); (try (refine zB (by rfl) ?_; dsimp only)); refine bx 7 rfl rfl (Ve a3_0 a3_1 a3_2 A3_3 l3_3 c3_3) 62 ?_; intro gb846 hg w24 hbox hb; have BK846 := am (hbox); have GE846 := ge HB hg; replace HB := sb HB hb; clear hb hbox hg; have hz25 := cf4 BK846.out)); go_upto_region 5 with (first | ((with_reducible refine zw (N := 7) rfl ?_); (try (refine zB (by rfl) ?_; dsimp only)); refine bx 7 rfl rfl (Ve a3_0 a3_1 a3_2 A3_3 l3_3 c3_3) 62 ?_; intro gb846 hg w24 hbox hb; have BK846 := am (hbox); have GE846 := ge HB hg; replace HB := sb HB hb; clear hb hbox hg; have hz25 := cf4 BK846.out)))
  (try simp only [Act.put, List.setIfInBounds_toArray, List.set_cons_zero, List.set_cons_succ])
  go_cut [56] (fun v56 wc => ∃ (kq : Nat) (x56_22 : Bool), v56 = .bool x56_22 /\ Aside0 (yp.j0 kq a0 x56_22 a3_0 a3_1 a3_2 l3_3 = some r) /\ Aside0 (kq <= k) /\ Aside0 (wc.heap[gb846]? = some (.cells #[.int .i64 a3_0, .int .i64 a3_1, .int .i64 a3_2, (.slice A3_3 l3_3.length c3_3)] 62 (0, 0))) /\ Aside0 (Below w.heap.size w wc))
  case first =>
   have H := HC23.out
   clear HC23
   obtain ⟨c26, c26b0, c26b1, H⟩ | ⟨c26b0, c26b1, H⟩ := qi H
   ·(first | rw [c26b0] | (simp only [zP, Zr]; rw [c26b0]) | skip)
    have H' := am H
    clear H
    have hz29 := cf4 BK846.out
    go_wp2
    repeat (go_quiet (fail); try go_wp2)
    go_meet
    case rel => exact ⟨_, (true), rs, H', ⟨by first | omega | exact jk _⟩, ⟨kk BK846⟩, ⟨bb HB⟩⟩
   (first | rw [c26b0] | (simp only [zP, Zr]; rw [c26b0]) | skip)
   obtain ⟨t849, A27, H⟩ := be H
   have H' := am H
   clear H
   have hz28 := cf4 BK846.out
   go_wp2_with (first | (go_at_call 128; (with_reducible refine (z0B.calls a3_0 t849 _ A27.out).mono ?_); rintro e w' ⟨rfl, ⟨nd, rfl⟩⟩; (try first | exact ⟨rfl, _, jo _ _ _⟩ | exact ⟨rfl, _, Eq.trans (jo _ _ _) (congrArg (World.drewN _) (Nat.add_assoc _ _ _))⟩)))
   repeat (go_quiet (first | (go_at_call 128; (with_reducible refine (z0B.calls a3_0 t849 _ A27.out).mono ?_); rintro e w' ⟨rfl, ⟨nd, rfl⟩⟩; (try first | exact ⟨rfl, _, jo _ _ _⟩ | exact ⟨rfl, _, Eq.trans (jo _ _ _) (congrArg (World.drewN _) (Nat.add_assoc _ _ _))⟩))); try go_wp2)
   go_meet
   case rel => exact ⟨_, (((l3_3.length : Int) != t849)), rs, H', ⟨by first | omega | exact jk _⟩, ⟨kk BK846⟩, ⟨bb HB⟩⟩
  case rest =>
   clear HC23
   obtain ⟨kq, x56_22, rfl, HA, HJ22, BK846, HB⟩ := hcut
   cases kq with
   | zero => exact jm HA.out (by simp [yp.j0])
   | succ kj22 =>
    have H := HA.out
    clear HA
    simp only [yp.j0] at H
    replace H := bo H
    obtain ⟨rfl, H⟩ | ⟨rfl, H⟩ := H
    ·obtain rfl := sj H
     go_wp2
     repeat (go_quiet (fail); try go_wp2)
     go_ret
     exact ⟨rr, bb HB⟩
    obtain ⟨c31, c31b0, c31b1, H⟩ | ⟨c31b0, c31b1, H⟩ := qi H
    ·obtain rfl := sj H
     have hz34 := cf4 BK846.out
     go_wp2
     repeat (go_quiet (fail); try go_wp2)
     go_ret
     exact ⟨rr, bb HB⟩
    obtain ⟨t850, A32, H⟩ := be H
    obtain rfl := sj H
    have hz33 := cf4 BK846.out
    go_wp2_with (first | (go_at_call 82; (with_reducible refine (yJ.calls kj22 a0 a3_1 t850 _ A32.out).mono ?_); rintro e w' ⟨rfl, ⟨nd, rfl⟩⟩; (try first | exact ⟨rfl, _, jo _ _ _⟩ | exact ⟨rfl, _, Eq.trans (jo _ _ _) (congrArg (World.drewN _) (Nat.add_assoc _ _ _))⟩)))
    repeat (go_quiet (first | (go_at_call 82; (with_reducible refine (yJ.calls kj22 a0 a3_1 t850 _ A32.out).mono ?_); rintro e w' ⟨rfl, ⟨nd, rfl⟩⟩; (try first | exact ⟨rfl, _, jo _ _ _⟩ | exact ⟨rfl, _, Eq.trans (jo _ _ _) (congrArg (World.drewN _) (Nat.add_assoc _ _ _))⟩))); try go_wp2)
    go_ret
    exact ⟨rr, bb HB⟩
 obtain ⟨c6b0, H⟩ | ⟨c6b0, H⟩ := iE H
 ·obtain rfl := sj H
  go_enter Tryz.func117, Tryz.ntmps117
  go_wp2_with (first | ((with_reducible refine zw (N := 7) rfl ?_); (try (refine zB (by rfl) ?_; dsimp only)); refine bx 7 rfl rfl (Ve a3_0 a3_1 a3_2 A3_3 l3_3 c3_3) 62 ?_; intro gb846 hg w7 hbox hb; have BK846 := am (hbox); have GE846 := ge HB hg; replace HB := sb HB hb; clear hb hbox hg; have hz8 := cf4 BK846.out))
  repeat (go_quiet (first | ((with_reducible refine zw (N := 7) rfl ?_); (try (refine zB (by rfl) ?_; dsimp only)); refine bx 7 rfl rfl (Ve a3_0 a3_1 a3_2 A3_3 l3_3 c3_3) 62 ?_; intro gb846 hg w7 hbox hb; have BK846 := am (hbox); have GE846 := ge HB hg; replace HB := sb HB hb; clear hb hbox hg; have hz8 := cf4 BK846.out)); try go_wp2)
  go_ret
  exact ⟨rr, bb HB⟩
 obtain ⟨c9b0, H⟩ | ⟨c9b0, H⟩ := iE H
 ·obtain rfl := sj H
  go_enter Tryz.func117, Tryz.ntmps117
  go_wp2_with (first | ((with_reducible refine zw (N := 7) rfl ?_); (try (refine zB (by rfl) ?_; dsimp only)); refine bx 7 rfl rfl (Ve a3_0 a3_1 a3_2 A3_3 l3_3 c3_3) 62 ?_; intro gb846 hg w10 hbox hb; have BK846 := am (hbox); have GE846 := ge HB hg; replace HB := sb HB hb; clear hb hbox hg; have hz11 := cf4 BK846.out))
  repeat (go_quiet (first | ((with_reducible refine zw (N := 7) rfl ?_); (try (refine zB (by rfl) ?_; dsimp only)); refine bx 7 rfl rfl (Ve a3_0 a3_1 a3_2 A3_3 l3_3 c3_3) 62 ?_; intro gb846 hg w10 hbox hb; have BK846 := am (hbox); have GE846 := ge HB hg; replace HB := sb HB hb; clear hb hbox hg; have hz11 := cf4 BK846.out)); try go_wp2)
  go_ret
  exact ⟨rr, bb HB⟩
 obtain ⟨c12b0, H⟩ | ⟨c12b0, H⟩ := iE H
 ·obtain rfl := sj H
  go_enter Tryz.func117, Tryz.ntmps117
  go_wp2_with (first | ((with_reducible refine zw (N := 7) rfl ?_); (try (refine zB (by rfl) ?_; dsimp only)); refine bx 7 rfl rfl (Ve a3_0 a3_1 a3_2 A3_3 l3_3 c3_3) 62 ?_; intro gb846 hg w13 hbox hb; have BK846 := am (hbox); have GE846 := ge HB hg; replace HB := sb HB hb; clear hb hbox hg; have hz14 := cf4 BK846.out))
  repeat (go_quiet (first | ((with_reducible refine zw (N := 7) rfl ?_); (try (refine zB (by rfl) ?_; dsimp only)); refine bx 7 rfl rfl (Ve a3_0 a3_1 a3_2 A3_3 l3_3 c3_3) 62 ?_; intro gb846 hg w13 hbox hb; have BK846 := am (hbox); have GE846 := ge HB hg; replace HB := sb HB hb; clear hb hbox hg; have hz14 := cf4 BK846.out)); try go_wp2)
  go_ret
  exact ⟨rr, bb HB⟩
 obtain ⟨c15b0, H⟩ | ⟨c15b0, H⟩ := iE H
 ·obtain rfl := sj H
  go_enter Tryz.func117, Tryz.ntmps117
  go_wp2_with (first | ((with_reducible refine zw (N := 7) rfl ?_); (try (refine zB (by rfl) ?_; dsimp only)); refine bx 7 rfl rfl (Ve a3_0 a3_1 a3_2 A3_3 l3_3 c3_3) 62 ?_; intro gb846 hg w16 hbox hb; have BK846 := am (hbox); have GE846 := ge HB hg; replace HB := sb HB hb; clear hb hbox hg; have hz17 := cf4 BK846.out))
  repeat (go_quiet (first | ((with_reducible refine zw (N := 7) rfl ?_); (try (refine zB (by rfl) ?_; dsimp only)); refine bx 7 rfl rfl (Ve a3_0 a3_1 a3_2 A3_3 l3_3 c3_3) 62 ?_; intro gb846 hg w16 hbox hb; have BK846 := am (hbox); have GE846 := ge HB hg; replace HB := sb HB hb; clear hb hbox hg; have hz17 := cf4 BK846.out)); try go_wp2)
  go_ret
  exact ⟨rr, bb HB⟩
 obtain ⟨c18b0, H⟩ := pd H
 obtain ⟨c19b0, H⟩ := pd H
 obtain ⟨t848, A20, H⟩ := be H
 obtain rfl := sj H
 go_enter Tryz.func117, Tryz.ntmps117
 go_wp2_with (first | ((with_reducible refine zw (N := 7) rfl ?_); (try (refine zB (by rfl) ?_; dsimp only)); refine bx 7 rfl rfl (Ve a3_0 a3_1 a3_2 A3_3 l3_3 c3_3) 62 ?_; intro gb846 hg w21 hbox hb; have BK846 := am (hbox); have GE846 := ge HB hg; replace HB := sb HB hb; clear hb hbox hg; have hz22 := cf4 BK846.out; have p847 : 0 <= (a3_1 : Int) := od; have q847 : a3_1 < (l1.length : Int) := od; obtain ⟨ad847, e847, hx847_0, hx847_1, hx847_2⟩ := Zs HR1.out a3_1 p847 q847; cases e847; replace hx847_0 := zo HB.out hx847_0; replace hx847_1 := zo HB.out hx847_1; replace hx847_2 := zo HB.out hx847_2; replace p847 := eT p847; replace q847 := eT q847) | (go_at_call 80; (with_reducible refine (ZG.calls (decide (((zp l1 a3_1).f2) > 1)) t848 _ A20.out).mono ?_); rintro e w' ⟨rfl, ⟨nd, rfl⟩⟩; (try first | exact ⟨rfl, _, jo _ _ _⟩ | exact ⟨rfl, _, Eq.trans (jo _ _ _) (congrArg (World.drewN _) (Nat.add_assoc _ _ _))⟩)))
 repeat (go_quiet (first | ((with_reducible refine zw (N := 7) rfl ?_); (try (refine zB (by rfl) ?_; dsimp only)); refine bx 7 rfl rfl (Ve a3_0 a3_1 a3_2 A3_3 l3_3 c3_3) 62 ?_; intro gb846 hg w21 hbox hb; have BK846 := am (hbox); have GE846 := ge HB hg; replace HB := sb HB hb; clear hb hbox hg; have hz22 := cf4 BK846.out; have p847 : 0 <= (a3_1 : Int) := od; have q847 : a3_1 < (l1.length : Int) := od; obtain ⟨ad847, e847, hx847_0, hx847_1, hx847_2⟩ := Zs HR1.out a3_1 p847 q847; cases e847; replace hx847_0 := zo HB.out hx847_0; replace hx847_1 := zo HB.out hx847_1; replace hx847_2 := zo HB.out hx847_2; replace p847 := eT p847; replace q847 := eT q847) | (go_at_call 80; (with_reducible refine (ZG.calls (decide (((zp l1 a3_1).f2) > 1)) t848 _ A20.out).mono ?_); rintro e w' ⟨rfl, ⟨nd, rfl⟩⟩; (try first | exact ⟨rfl, _, jo _ _ _⟩ | exact ⟨rfl, _, Eq.trans (jo _ _ _) (congrArg (World.drewN _) (Nat.add_assoc _ _ _))⟩))); try go_wp2)
 go_ret
 exact ⟨rr, bb HB⟩
mutual
def ZS.l0 : Nat -> Int -> List (S76) -> Int -> Int -> Int -> Int -> Int -> List (S62) -> Option (Bool)
 | 0, _, _, _, _, _, _, _, _ => none
 | k + 1, x0, x1, x2, x9, x852000, x852001, x852002, x852003 => if x9 < (x852003.length : Int) then (if 0 <= x9 then ((ZS.f k x0 x1 x2 ((zi x852003 x9).f0) ((zi x852003 x9).f1) ((zi x852003 x9).f2) ((zi x852003 x9).f3)).bind fun t854 => (if t854 = true then (ZS.l0 k x0 x1 x2 (wrap64 (x9 + 1)) x852000 x852001 x852002 x852003) else (some false))) else (none)) else (some true)
def ZS.f : Nat -> Int -> List (S76) -> Int -> Int -> Int -> Int -> List (S62) -> Option (Bool)
 | 0, _, _, _, _, _, _, _ => none
 | k + 1, a0, l1, a2, a3_0, a3_1, a3_2, l3_3 => (yp.f k a0 l1 a2 a3_0 a3_1 a3_2 l3_3).bind fun t852 => (if t852 = true then (ZS.l0 k a0 l1 a2 0 a3_0 a3_1 a3_2 l3_3) else (some false))
end
theorem ZS.calls (k : Nat) : ∀ (a0 : Int) (A1 : Option Addr) (c1 : Nat) (l1 : List (S76)) (a2 : Int) (a3_0 : Int) (a3_1 : Int) (a3_2 : Int) (A3_3 : Option Addr) (c3_3 : Nat) (l3_3 : List (S62)) (r : Bool) (w : World) (hr1 : Kd.C k76 w A1 l1.length l1) (hc1 : l1.length <= c1) (hr3_3 : Kd.C k62 w A3_3 l3_3.length l3_3) (hc3_3 : l3_3.length <= c3_3) (h : ZS.f k a0 l1 a2 a3_0 a3_1 a3_2 l3_3 = some r),
  Calls Tryz.prog 99 #[.int .i64 a0, .slice A1 l1.length c1, .int .i64 a2, .agg (Ve a3_0 a3_1 a3_2 A3_3 l3_3 c3_3)] w fun e w' => e = .returned (.bool r) /\ Below w.heap.size w w' := by
 induction k using Nat.strongRecOn with
 | _ k ih =>
 intro a0 A1 c1 l1 a2 a3_0 a3_1 a3_2 A3_3 c3_3 l3_3 r w hr1 hc1 hr3_3 hc3_3 h
 cases k with
 | zero => exact jm h (by simp [ZS.f])
 | succ k =>
 simp only [ZS.f] at h
 have hu62 := Tryz.underlying62
 have HR1 := am hr1
 have HC1 := am hc1
 clear hr1 hc1
 have HR3_3 := am hr3_3
 have HC3_3 := am hc3_3
 clear hr3_3 hc3_3
 have HB := am (jc w.heap.size w)
 have H := h
 clear h
 obtain ⟨t852, A5, H⟩ := be H
 replace H := ob H
 obtain ⟨rfl, H⟩ | ⟨rfl, H⟩ := H
 ·obtain rfl := sj H
  go_enter Tryz.func99, Tryz.ntmps99
  go_wp2_with (first | ((with_reducible refine zw (N := 7) rfl ?_); refine bz HB 7 rfl rfl (Ve a3_0 a3_1 a3_2 A3_3 l3_3 c3_3) 62 ?_; intro gb851 w19 BK851 GE851 HB; have hz20 := cf4 BK851.out) | (go_at_call 117; (with_reducible refine (yp.calls k a0 _ _ l1 a2 a3_0 a3_1 a3_2 _ _ l3_3 false _ (cb HR1 HB) HC1.out (cb HR3_3 HB) HC3_3.out A5.out).mono ?_); rintro e w21 ⟨rfl, hb⟩; replace BK851 := kb BK851 hb; replace HB := sb HB hb))
  go_ret
  exact ⟨rr, bb HB⟩
 have H' := am H
 clear H
 go_enter Tryz.func99, Tryz.ntmps99
 go_wp2_with (first | ((with_reducible refine zw (N := 7) rfl ?_); refine bz HB 7 rfl rfl (Ve a3_0 a3_1 a3_2 A3_3 l3_3 c3_3) 62 ?_; intro gb851 w7 BK851 GE851 HB; have hz8 := cf4 BK851.out) | (go_at_call 117; (with_reducible refine (yp.calls k a0 _ _ l1 a2 a3_0 a3_1 a3_2 _ _ l3_3 true _ (cb HR1 HB) HC1.out (cb HR3_3 HB) HC3_3.out A5.out).mono ?_); rintro e w9 ⟨rfl, hb⟩; replace BK851 := kb BK851 hb; replace HB := sb HB hb))
 go_loopg [9] k (fun kq v9 w' => ∃ (x9_1 : Int), v9 = .int .i64 x9_1 /\ Aside0 (ZS.l0 kq a0 l1 a2 x9_1 a3_0 a3_1 a3_2 l3_3 = some r) /\ Aside0 (kq <= k) /\ Aside0 (w'.heap[gb851]? = some (.cells #[.int .i64 a3_0, .int .i64 a3_1, .int .i64 a3_2, (.slice A3_3 l3_3.length c3_3)] 62 (0, 0))) /\ Aside0 (Below w.heap.size w w'))
 case atStart => exact ⟨(0), rs, H', ⟨jk _⟩, ⟨kk BK851⟩, ⟨bb HB⟩⟩
 case round =>
  clear H'
  obtain ⟨x9_1, rfl, HA, HK1, BK851, HB⟩ := hrel
  cases gk with
  | zero => exact jm HA.out (by simp [ZS.l0])
  | succ k1 =>
   have H := HA.out
   clear HA
   simp only [ZS.l0] at H
   obtain ⟨c10b0, H⟩ | ⟨c10b0, H⟩ := ei H
   ·obtain rfl := sj H
    have hz18 := cf4 BK851.out
    go_wp2
    go_ret
    exact ⟨rr, bb HB⟩
   obtain ⟨c11b0, H⟩ := pd H
   obtain ⟨t854, A12, H⟩ := be H
   replace H := ob H
   obtain ⟨rfl, H⟩ | ⟨rfl, H⟩ := H
   ·obtain rfl := sj H
    have hz16 := cf4 BK851.out
    have p853 : 0 <= (x9_1 : Int) := od
    have q853 : x9_1 < (l3_3.length : Int) := od
    obtain ⟨ad853, A853_3, c853_3, e853, hx853_0, hx853_1, hx853_2, hx853_3, hl853_3, hi853_3⟩ := Zk HR3_3.out x9_1 p853 q853
    cases e853
    replace hx853_0 := zo HB.out hx853_0
    replace hx853_1 := zo HB.out hx853_1
    replace hx853_2 := zo HB.out hx853_2
    replace hx853_3 := zo HB.out hx853_3
    have HR853_3 := am hi853_3
    have HC853_3 := am hl853_3
    clear hi853_3 hl853_3
    replace p853 := eT p853
    replace q853 := eT q853
    go_wp2_with (first | (go_at_call 99; (with_reducible refine (ih k1 (by have := HK1.out; omega) a0 _ _ l1 a2 ((zi l3_3 x9_1).f0) ((zi l3_3 x9_1).f1) ((zi l3_3 x9_1).f2) _ _ ((zi l3_3 x9_1).f3) false _ (cb HR1 HB) HC1.out (cb HR853_3 HB) HC853_3.out A12.out).mono ?_); rintro e w17 ⟨rfl, hb⟩; replace BK851 := kb BK851 hb; replace HB := sb HB hb))
    go_ret
    exact ⟨rr, bb HB⟩
   have H' := am H
   clear H
   have hz14 := cf4 BK851.out
   have p853 : 0 <= (x9_1 : Int) := od
   have q853 : x9_1 < (l3_3.length : Int) := od
   obtain ⟨ad853, A853_3, c853_3, e853, hx853_0, hx853_1, hx853_2, hx853_3, hl853_3, hi853_3⟩ := Zk HR3_3.out x9_1 p853 q853
   cases e853
   replace hx853_0 := zo HB.out hx853_0
   replace hx853_1 := zo HB.out hx853_1
   replace hx853_2 := zo HB.out hx853_2
   replace hx853_3 := zo HB.out hx853_3
   have HR853_3 := am hi853_3
   have HC853_3 := am hl853_3
   clear hi853_3 hl853_3
   replace p853 := eT p853
   replace q853 := eT q853
   go_wp2_with (first | (go_at_call 99; (with_reducible refine (ih k1 (by have := HK1.out; omega) a0 _ _ l1 a2 ((zi l3_3 x9_1).f0) ((zi l3_3 x9_1).f1) ((zi l3_3 x9_1).f2) _ _ ((zi l3_3 x9_1).f3) true _ (cb HR1 HB) HC1.out (cb HR853_3 HB) HC853_3.out A12.out).mono ?_); rintro e w15 ⟨rfl, hb⟩; replace BK851 := kb BK851 hb; replace HB := sb HB hb))
   go_roundg k1
   case measure => have := HK1.out; omega
   case rel => exact ⟨(wrap64 (x9_1 + 1)), rs, H', ⟨by have := HK1.out; omega⟩, ⟨kk BK851⟩, ⟨bb HB⟩⟩
def z2O.f (k : Nat) (a0 : Int) (l1 : List (S76)) (a2 : Int) (a3_0 : Int) (a3_1 : Int) (a3_2 : Int) (l3_3 : List (S62)) : Option (Bool) := (z08.f k a3_0 a3_1 a3_2 l3_3 400).bind fun t856 => (if t856 = true then ((Zt.f k a3_0 a3_1 a3_2 l3_3).bind fun t857 => (if t857 <= 16 then ((ZS.f k a0 l1 a2 a3_0 a3_1 a3_2 l3_3).bind fun t858 => (some t858)) else (some false))) else (some false))
theorem z2O.calls (k : Nat) (a0 : Int) (A1 : Option Addr) (c1 : Nat) (l1 : List (S76)) (a2 : Int) (a3_0 : Int) (a3_1 : Int) (a3_2 : Int) (A3_3 : Option Addr) (c3_3 : Nat) (l3_3 : List (S62)) (r : Bool) (w : World) (hr1 : Kd.C k76 w A1 l1.length l1) (hc1 : l1.length <= c1) (hr3_3 : Kd.C k62 w A3_3 l3_3.length l3_3) (hc3_3 : l3_3.length <= c3_3) (h : z2O.f k a0 l1 a2 a3_0 a3_1 a3_2 l3_3 = some r) :
  Calls Tryz.prog 67 #[.int .i64 a0, .slice A1 l1.length c1, .int .i64 a2, .agg (Ve a3_0 a3_1 a3_2 A3_3 l3_3 c3_3)] w fun e w' => e = .returned (.bool r) /\ Below w.heap.size w w' := by
 have hu62 := Tryz.underlying62
 have HR1 := am hr1
 have HC1 := am hc1
 clear hr1 hc1
 have HR3_3 := am hr3_3
 have HC3_3 := am hc3_3
 clear hr3_3 hc3_3
 have HB := am (jc w.heap.size w)
 have H := h
 clear h
 obtain ⟨t856, A5, H⟩ := be H
 replace H := ob H
 obtain ⟨rfl, H⟩ | ⟨rfl, H⟩ := H
 ·obtain rfl := sj H
  go_enter Tryz.func67, Tryz.ntmps67
  go_wp2_with (first | ((with_reducible refine zw (N := 7) rfl ?_); refine bz HB 7 rfl rfl (Ve a3_0 a3_1 a3_2 A3_3 l3_3 c3_3) 62 ?_; intro gb855 w22 BK855 GE855 HB; have hz23 := cf4 BK855.out) | (go_at_call 51; (with_reducible refine (z08.calls k a3_0 a3_1 a3_2 _ _ l3_3 400 false _ (cb HR3_3 HB) HC3_3.out A5.out).mono ?_); rintro e w24 ⟨rfl, hb⟩; replace BK855 := kb BK855 hb; replace HB := sb HB hb))
  go_ret
  exact ⟨rr, bb HB⟩
 obtain ⟨t857, A7, H⟩ := be H
 obtain ⟨c8b0, H⟩ | ⟨c8b0, H⟩ := ei H
 ·obtain rfl := sj H
  go_enter Tryz.func67, Tryz.ntmps67
  go_wp2_with (first | ((with_reducible refine zw (N := 7) rfl ?_); refine bz HB 7 rfl rfl (Ve a3_0 a3_1 a3_2 A3_3 l3_3 c3_3) 62 ?_; intro gb855 w17 BK855 GE855 HB; have hz18 := cf4 BK855.out) | (go_at_call 51; (with_reducible refine (z08.calls k a3_0 a3_1 a3_2 _ _ l3_3 400 true _ (cb HR3_3 HB) HC3_3.out A5.out).mono ?_); rintro e w19 ⟨rfl, hb⟩; replace BK855 := kb BK855 hb; replace HB := sb HB hb; have hz20 := cf4 BK855.out) | (go_at_call 98; (with_reducible refine (Zt.calls k a3_0 a3_1 a3_2 _ _ l3_3 t857 _ (cb HR3_3 HB) HC3_3.out A7.out).mono ?_); rintro e w21 ⟨rfl, hb⟩; replace BK855 := kb BK855 hb; replace HB := sb HB hb))
  go_ret
  exact ⟨rr, bb HB⟩
 obtain ⟨t858, A9, H⟩ := be H
 obtain rfl := sj H
 go_enter Tryz.func67, Tryz.ntmps67
 go_wp2_with (first | ((with_reducible refine zw (N := 7) rfl ?_); refine bz HB 7 rfl rfl (Ve a3_0 a3_1 a3_2 A3_3 l3_3 c3_3) 62 ?_; intro gb855 w10 BK855 GE855 HB; have hz11 := cf4 BK855.out) | (go_at_call 51; (with_reducible refine (z08.calls k a3_0 a3_1 a3_2 _ _ l3_3 400 true _ (cb HR3_3 HB) HC3_3.out A5.out).mono ?_); rintro e w12 ⟨rfl, hb⟩; replace BK855 := kb BK855 hb; replace HB := sb HB hb; have hz13 := cf4 BK855.out) | (go_at_call 98; (with_reducible refine (Zt.calls k a3_0 a3_1 a3_2 _ _ l3_3 t857 _ (cb HR3_3 HB) HC3_3.out A7.out).mono ?_); rintro e w14 ⟨rfl, hb⟩; replace BK855 := kb BK855 hb; replace HB := sb HB hb; have hz15 := cf4 BK855.out) | (go_at_call 99; (with_reducible refine (ZS.calls k a0 _ _ l1 a2 a3_0 a3_1 a3_2 _ _ l3_3 t858 _ (cb HR1 HB) HC1.out (cb HR3_3 HB) HC3_3.out A9.out).mono ?_); rintro e w16 ⟨rfl, hb⟩; replace BK855 := kb BK855 hb; replace HB := sb HB hb))
 go_ret
 exact ⟨rr, bb HB⟩
mutual
def Zx.l0 : Nat -> Int -> Int -> Int -> Int -> Int -> List (S62) -> Option (Int)
 | 0, _, _, _, _, _, _ => none
 | k + 1, x3, x4, x944000, x944001, x944002, x944003 => if x4 < (x944003.length : Int) then (if 0 <= x4 then ((Zx.f k ((zi x944003 x4).f0) ((zi x944003 x4).f1) ((zi x944003 x4).f2) ((zi x944003 x4).f3)).bind fun t945 => (Zx.l0 k (wrap64 (x3 + t945)) (wrap64 (x4 + 1)) x944000 x944001 x944002 x944003)) else (none)) else (some x3)
def Zx.f : Nat -> Int -> Int -> Int -> List (S62) -> Option (Int)
 | 0, _, _, _, _ => none
 | k + 1, a0_0, a0_1, a0_2, l0_3 => Zx.l0 k 1 0 a0_0 a0_1 a0_2 l0_3
end
theorem Zx.calls (k : Nat) : ∀ (a0_0 : Int) (a0_1 : Int) (a0_2 : Int) (A0_3 : Option Addr) (c0_3 : Nat) (l0_3 : List (S62)) (r : Int) (w : World) (hr0_3 : Kd.C k62 w A0_3 l0_3.length l0_3) (hc0_3 : l0_3.length <= c0_3) (h : Zx.f k a0_0 a0_1 a0_2 l0_3 = some r),
  Calls Tryz.prog 71 #[.agg (Ve a0_0 a0_1 a0_2 A0_3 l0_3 c0_3)] w fun e w' => e = .returned (.int .i64 r) /\ Below w.heap.size w w' := by
 induction k using Nat.strongRecOn with
 | _ k ih =>
 intro a0_0 a0_1 a0_2 A0_3 c0_3 l0_3 r w hr0_3 hc0_3 h
 cases k with
 | zero => exact jm h (by simp [Zx.f])
 | succ k =>
 simp only [Zx.f] at h
 have hu62 := Tryz.underlying62
 have HR0_3 := am hr0_3
 have HC0_3 := am hc0_3
 clear hr0_3 hc0_3
 have HB := am (jc w.heap.size w)
 have H := h
 clear h
 have H' := am H
 clear H
 go_enter Tryz.func71, Tryz.ntmps71
 go_wp2_with (first | ((with_reducible refine zw (N := 1) rfl ?_); refine bz HB 1 rfl rfl (Ve a0_0 a0_1 a0_2 A0_3 l0_3 c0_3) 62 ?_; intro gb943 w2 BK943 GE943 HB))
 go_loopg [3, 4] k (fun kq v3 v4 w' => ∃ (x3_1 : Int) (x4_1 : Int), v3 = .int .i64 x3_1 /\ v4 = .int .i64 x4_1 /\ Aside0 (Zx.l0 kq x3_1 x4_1 a0_0 a0_1 a0_2 l0_3 = some r) /\ Aside0 (kq <= k) /\ Aside0 (w'.heap[gb943]? = some (.cells #[.int .i64 a0_0, .int .i64 a0_1, .int .i64 a0_2, (.slice A0_3 l0_3.length c0_3)] 62 (0, 0))) /\ Aside0 (Below w.heap.size w w'))
 case atStart => exact ⟨(1), (0), rs, rs, H', ⟨jk _⟩, ⟨kk BK943⟩, ⟨bb HB⟩⟩
 case round =>
  clear H'
  obtain ⟨x3_1, x4_1, rfl, rfl, HA, HK1, BK943, HB⟩ := hrel
  cases gk with
  | zero => exact jm HA.out (by simp [Zx.l0])
  | succ k1 =>
   have H := HA.out
   clear HA
   simp only [Zx.l0] at H
   obtain ⟨c3b0, H⟩ | ⟨c3b0, H⟩ := ei H
   ·obtain rfl := sj H
    have hz8 := cf4 BK943.out
    go_wp2
    go_ret
    exact ⟨rr, bb HB⟩
   obtain ⟨c4b0, H⟩ := pd H
   obtain ⟨t945, A5, H⟩ := be H
   have H' := am H
   clear H
   have hz6 := cf4 BK943.out
   have p944 : 0 <= (x4_1 : Int) := od
   have q944 : x4_1 < (l0_3.length : Int) := od
   obtain ⟨ad944, A944_3, c944_3, e944, hx944_0, hx944_1, hx944_2, hx944_3, hl944_3, hi944_3⟩ := Zk HR0_3.out x4_1 p944 q944
   cases e944
   replace hx944_0 := zo HB.out hx944_0
   replace hx944_1 := zo HB.out hx944_1
   replace hx944_2 := zo HB.out hx944_2
   replace hx944_3 := zo HB.out hx944_3
   have HR944_3 := am hi944_3
   have HC944_3 := am hl944_3
   clear hi944_3 hl944_3
   replace p944 := eT p944
   replace q944 := eT q944
   go_wp2_with (first | (go_at_call 71; (with_reducible refine (ih k1 (by have := HK1.out; omega) ((zi l0_3 x4_1).f0) ((zi l0_3 x4_1).f1) ((zi l0_3 x4_1).f2) _ _ ((zi l0_3 x4_1).f3) t945 _ (cb HR944_3 HB) HC944_3.out A5.out).mono ?_); rintro e w7 ⟨rfl, hb⟩; replace BK943 := kb BK943 hb; replace HB := sb HB hb))
   go_roundg k1
   case measure => have := HK1.out; omega
   case rel => exact ⟨(wrap64 (x3_1 + t945)), (wrap64 (x4_1 + 1)), rs, rs, H', ⟨by have := HK1.out; omega⟩, ⟨kk BK943⟩, ⟨bb HB⟩⟩
def zc {α : Type} (g : Nat -> Option α) (v : α) : Prop := ∃ k0, ∀ k, k0 <= k -> g k = some v
theorem zc.pure {α : Type} (v : α) : zc (fun _ => some v) v := ⟨0, fun _ _ => rfl⟩
theorem zc.bind {α β : Type} {g : Nat -> Option α} {h : Nat -> α -> Option β} {x : α} {v : β} (hg : zc g x) (hh : zc (fun k => h k x) v) : zc (fun k => (g k).bind (h k)) v := by
 obtain ⟨a, ha⟩ := hg
 obtain ⟨b, hb⟩ := hh
 exact ⟨max a b, fun k hk => by show (g k).bind (h k) = some v; rw [ha k (by omega), jv]; exact hb k (by omega)⟩
theorem zc.succ {α : Type} {g : Nat -> Option α} {v : α} (h : zc (fun k => g (k + 1)) v) : zc g v := by
 obtain ⟨a, ha⟩ := h
 exact ⟨a + 1, fun k hk => by
  obtain ⟨j, rfl⟩ : ∃ j, k = j + 1 := ⟨k - 1, by omega⟩
  exact ha j (by omega)⟩
theorem zc.ifT {α : Type} {p : Prop} [Decidable p] {f g : Nat -> Option α} {v : α} (hp : p) (h : zc f v) : zc (fun k => if p then f k else g k) v := by
 obtain ⟨a, ha⟩ := h
 exact ⟨a, fun k hk => by show (if p then f k else g k) = some v; rw [jb hp]; exact ha k hk⟩
theorem zc.ifF {α : Type} {p : Prop} [Decidable p] {f g : Nat -> Option α} {v : α} (hp : ¬ p) (h : zc g v) : zc (fun k => if p then f k else g k) v := by
 obtain ⟨a, ha⟩ := h
 exact ⟨a, fun k hk => by show (if p then f k else g k) = some v; rw [ja hp]; exact ha k hk⟩
theorem w64 {n : Int} (h0 : -9223372036854775808 <= n) (h1 : n <= 9223372036854775807) : wrap64 n = n := by unfold wrap64; omega
theorem Zo {α : Type} (pre : List α) (x : α) (r : List α) : (pre.length : Int) < ((pre ++ x :: r).length : Int) := by rw [je, jp]; omega
theorem ZL {α : Type} (pre : List α) : ¬ (pre.length : Int) < ((pre ++ []).length : Int) := by rw [je, List.length_nil]; omega
theorem Z6 {α : Type} (pre : List α) : (0 : Int) <= (pre.length : Int) := Int.natCast_nonneg _
theorem z0Z {α : Type} (pre : List α) (x z : α) (r : List α) : (pre ++ x :: r).getD ((pre.length : Int)).toNat z = x := by simp
theorem Y6 (pre : List S62) (x : S62) (r : List S62) : zi (pre ++ x :: r) (pre.length : Int) = x := z0Z pre x _ r
theorem YJ (pre : List S76) (x : S76) (r : List S76) : zp (pre ++ x :: r) (pre.length : Int) = x := z0Z pre x _ r
theorem Zi {α : Type} (pre : List α) (x : α) (r : List α) (h : (pre ++ x :: r).length <= 9223372036854775807) : wrap64 ((pre.length : Int) + 1) = ((pre ++ [x]).length : Int) := by
 rw [je, jp] at h
 rw [je, List.length_singleton, w64 (by omega) (by omega)]
 omega
theorem zQ {α : Type} (pre : List α) (x : α) (r : List α) : pre ++ x :: r = (pre ++ [x]) ++ r := by simp
theorem z15 {P : S62 -> Prop} {Q : List S62 -> Prop} (node : ∀ a b c l, Q l -> P ⟨a, b, c, l⟩) (nil : Q []) (cons : ∀ x r, P x -> Q r -> Q (x :: r)) : (∀ x, P x) /\ (∀ l, Q l) :=
 ⟨fun x => S62.rec (motive_1 := P) (motive_2 := Q) node nil cons x, fun l => S62.rec_1 (motive_1 := P) (motive_2 := Q) node nil cons l⟩
mutual
def eN : S62 -> Nat
 | ⟨_, _, _, l⟩ => 1 + eNs l
def eNs : List S62 -> Nat
 | [] => 0
 | x :: r => eN x + eNs r
end
mutual
def eD : S62 -> Nat
 | ⟨_, _, _, l⟩ => eDs l + 1
def eDs : List S62 -> Nat
 | [] => 0
 | x :: r => max (eD x) (eDs r)
end
def Yg : S62 -> Prop := S62.rec (motive_1 := fun _ => Prop) (motive_2 := fun _ => Prop) (fun _ _ _ l q => l.length <= 9223372036854775807 /\ q) True (fun _ _ p q => p /\ q)
def yU : List S62 -> Prop := S62.rec_1 (motive_1 := fun _ => Prop) (motive_2 := fun _ => Prop) (fun _ _ _ l q => l.length <= 9223372036854775807 /\ q) True (fun _ _ p q => p /\ q)
theorem z1s : ∀ {l : List S62}, (∀ x ∈ l, Yg x) -> yU l
 | [], _ => trivial
 | x :: r, h => ⟨h x (by simp), z1s fun y hy => h y (by simp [hy])⟩
theorem z34 : ∀ {l : List S62}, yU l -> ∀ x ∈ l, Yg x
 | x :: r, h, y, hy => by
  rcases List.mem_cons.1 hy with rfl | hy
  ·exact h.1
  ·exact z34 h.2 y hy
theorem eD_le : (∀ x, eD x <= eN x) /\ (∀ l, eDs l <= eNs l) := by
 refine z15 (fun a b c l h => ?_) (jk _) (fun x r h1 h2 => ?_)
 ·simp only [eD, eN]; omega
 ·simp only [eDs, eNs]; omega
def Z9 (m : Int) (n : Nat) : Int := if m < n then 0 else m - n
theorem Yp (m : Int) (n : Nat) : 0 <= Z9 m n := by unfold Z9; split <;> omega
theorem z1c {m : Int} (h : 0 <= m) (n : Nat) : Z9 m n <= m := by unfold Z9; split <;> omega
theorem z4E {m : Int} (h0 : 0 <= m) (h : m < 1) (n : Nat) : Z9 m (1 + n) = 0 := by unfold Z9; split <;> omega
theorem z2k {m : Int} (h : ¬ m < 1) (n : Nat) : Z9 m (1 + n) = Z9 (m - 1) n := by unfold Z9; repeat' split <;> omega
theorem z31 {m : Int} (h0 : 0 <= m) : Z9 m 0 = m := by unfold Z9; split <;> omega
theorem z0D {m : Int} (h : 0 <= m) (a b : Nat) : Z9 (Z9 m a) b = Z9 m (a + b) := by unfold Z9; repeat' split <;> omega
theorem z30 : (∀ x, ∀ m : Int, Yg x -> 0 <= m -> m <= 1000000 -> zc (fun k => ZF.f k x.f0 x.f1 x.f2 x.f3 m) (Z9 m (eN x))) /\
  (∀ suf, ∀ (pre : List S62) (m a b c : Int), yU suf -> (pre ++ suf).length <= 9223372036854775807 -> 0 <= m -> m <= 1000000 -> zc (fun k => ZF.l0 k m (pre.length : Int) a b c (pre ++ suf)) (Z9 m (eNs suf))) := by
 refine z15 (fun a b c l ih => ?_) ?_ (fun x r ih1 ih2 => ?_)
 ·intro m hg h0 h1
  refine zc.succ ?_
  simp only [ZF.f]
  by_cases hm : m < 1
  ·simp only [hm, if_true]
   have : Z9 m (eN ⟨a, b, c, l⟩) = 0 := z4E h0 hm _
   rw [this]
   exact zc.pure _
  ·simp only [hm, if_false]
   rw [w64 (by omega) (by omega)]
   have h2 := ih [] (m - 1) a b c hg.2 hg.1 (by omega) (by omega)
   have : Z9 m (eN ⟨a, b, c, l⟩) = Z9 (m - 1) (eNs l) := z2k hm _
   rw [this]
   exact h2
 ·intro pre m a b c _ _ h0 h1
  refine zc.succ ?_
  simp only [ZF.l0, ZL, if_false]
  have : Z9 m (eNs []) = m := z31 h0
  rw [this]
  exact zc.pure _
 ·intro pre m a b c hg hl h0 h1
  refine zc.succ ?_
  simp only [ZF.l0, Zo, Z6, if_true, Y6]
  refine zc.bind (ih1 m hg.1 h0 h1) ?_
  have h2 := ih2 (pre ++ [x]) (Z9 m (eN x)) a b c hg.2 (by rw [<- zQ]; exact hl) (Yp _ _) (Int.le_trans (z1c h0 _) h1)
  rw [z0D h0, <- zQ] at h2
  rw [Zi pre x r hl]
  exact h2
theorem fitsE (x : S62) (m : Int) (hg : Yg x) (h0 : 0 <= m) (h1 : m <= 1000) : zc (fun k => z08.f k x.f0 x.f1 x.f2 x.f3 m) (decide ((eN x : Int) <= m)) := by
 unfold z08.f
 rw [w64 (by omega) (by omega)]
 refine zc.bind (z30.1 x (m + 1) hg (by omega) (by omega)) ?_
 have : decide (Z9 (m + 1) (eN x) > 0) = decide ((eN x : Int) <= m) := by
  apply decide_eq_decide.2
  unfold Z9
  split <;> omega
 rw [this]
 exact zc.pure _
theorem z5d (a b : Nat) : mx (a : Int) (b : Int) = ((max a b : Nat) : Int) := by unfold mx; split <;> omega
theorem depthE : (∀ x, Yg x -> eN x <= 1000000 -> zc (fun k => Zt.f k x.f0 x.f1 x.f2 x.f3) (eD x : Int)) /\
  (∀ suf, ∀ (pre : List S62) (n : Nat) (a b c : Int), yU suf -> (pre ++ suf).length <= 9223372036854775807 -> eNs suf <= 1000000 -> n <= 1000000 -> zc (fun k => Zt.l0 k (n : Int) (pre.length : Int) a b c (pre ++ suf)) ((max n (eDs suf) + 1 : Nat) : Int)) := by
 refine z15 (fun a b c l ih => ?_) ?_ (fun x r ih1 ih2 => ?_)
 ·intro hg hn
  refine zc.succ ?_
  simp only [Zt.f]
  simp only [eN] at hn
  have h2 := ih [] 0 a b c hg.2 hg.1 (by omega) (by omega)
  have : (max 0 (eDs l) + 1 : Nat) = eD ⟨a, b, c, l⟩ := by simp only [eD]; omega
  rw [this] at h2
  exact h2
 ·intro pre n a b c _ _ _ hn
  refine zc.succ ?_
  simp only [Zt.l0, ZL, if_false, eDs]
  rw [w64 (by omega) (by omega)]
  have : ((n : Int) + 1) = ((max n 0 + 1 : Nat) : Int) := by omega
  rw [this]
  exact zc.pure _
 ·intro pre n a b c hg hl hs hn
  simp only [eNs] at hs
  refine zc.succ ?_
  simp only [Zt.l0, Zo, Z6, if_true, Y6]
  refine zc.bind (ih1 hg.1 (by omega)) ?_
  have hd := eD_le.1 x
  have h2 := ih2 (pre ++ [x]) (max n (eD x)) a b c hg.2 (by rw [<- zQ]; exact hl) (by omega) (by omega)
  rw [<- zQ] at h2
  rw [Zi pre x r hl, z5d]
  have : max (max n (eD x)) (eDs r) = max n (eDs (x :: r)) := by simp only [eDs]; omega
  rw [this] at h2
  exact h2
theorem nodesE : (∀ x, Yg x -> eN x <= 1000000 -> zc (fun k => Zx.f k x.f0 x.f1 x.f2 x.f3) (eN x : Int)) /\
  (∀ suf, ∀ (pre : List S62) (n : Nat) (a b c : Int), yU suf -> (pre ++ suf).length <= 9223372036854775807 -> n + eNs suf <= 1000000 -> zc (fun k => Zx.l0 k (n : Int) (pre.length : Int) a b c (pre ++ suf)) ((n + eNs suf : Nat) : Int)) := by
 refine z15 (fun a b c l ih => ?_) ?_ (fun x r ih1 ih2 => ?_)
 ·intro hg hn
  refine zc.succ ?_
  simp only [Zx.f]
  simp only [eN] at hn
  exact ih [] 1 a b c hg.2 hg.1 (by omega)
 ·intro pre n a b c _ _ hn
  refine zc.succ ?_
  simp only [Zx.l0, ZL, if_false, eNs]
  exact zc.pure _
 ·intro pre n a b c hg hl hs
  simp only [eNs] at hs
  refine zc.succ ?_
  simp only [Zx.l0, Zo, Z6, if_true, Y6]
  refine zc.bind (ih1 hg.1 (by omega)) ?_
  have h2 := ih2 (pre ++ [x]) (n + eN x) a b c hg.2 (by rw [<- zQ]; exact hl) (by omega)
  rw [<- zQ] at h2
  rw [Zi pre x r hl, w64 (by omega) (by omega)]
  have : n + eN x + eNs r = n + eNs (x :: r) := by simp only [eNs]; omega
  rw [this] at h2
  exact h2
theorem nodesE' : (∀ x, Yg x -> eN x <= 1000000 -> zc (fun k => Zf.f k x.f0 x.f1 x.f2 x.f3) (eN x : Int)) /\
  (∀ suf, ∀ (pre : List S62) (n : Nat), yU suf -> (pre ++ suf).length <= 9223372036854775807 -> n + eNs suf <= 1000000 -> zc (fun k => Zf.l0 k (n : Int) (pre ++ suf) ((pre ++ suf).length : Int) (pre.length : Int)) ((n + eNs suf : Nat) : Int)) := by
 refine z15 (fun a b c l ih => ?_) ?_ (fun x r ih1 ih2 => ?_)
 ·intro hg hn
  refine zc.succ ?_
  simp only [Zf.f]
  simp only [eN] at hn
  exact ih [] 1 hg.2 hg.1 (by omega)
 ·intro pre n _ _ hn
  refine zc.succ ?_
  simp only [Zf.l0, ZL, if_false, eNs]
  exact zc.pure _
 ·intro pre n hg hl hs
  simp only [eNs] at hs
  refine zc.succ ?_
  simp only [Zf.l0, Zo, Z6, if_true, Y6]
  refine zc.bind (ih1 hg.1 (by omega)) ?_
  have h2 := ih2 (pre ++ [x]) (n + eN x) hg.2 (by rw [<- zQ]; exact hl) (by omega)
  rw [<- zQ] at h2
  rw [Zi pre x r hl, w64 (by omega) (by omega)]
  have : n + eN x + eNs r = n + eNs (x :: r) := by simp only [eNs]; omega
  rw [this] at h2
  exact h2
def YI (vars : List S76) (op n : Int) : Int :=
 if op = 0 then 0 else if op = 1 then (if 0 <= n /\ n < (vars.length : Int) then (if (zp vars n).f2 > 1 then 1 else 0) else -1)
 else if (2 <= op /\ op <= 11) \/ op = 13 \/ op = 14 then 2 else if op = 12 then 1 else if op = 15 then 3 else -1
theorem z2r (w : Int) (vars : List S76) (kk op n c : Int) (l : List S62) : zc (fun k => zA.f k w vars kk op n c l) (YI vars op n) := by
 refine ⟨5, fun k hk => ?_⟩
 obtain ⟨j, rfl⟩ : ∃ j, k = j + 5 := ⟨k - 5, by omega⟩
 unfold YI
 simp only [zA.f, zA.j0, zA.j1, zA.j2]
 by_cases o0 : op = 0
 ·simp [o0]
 by_cases o1 : op = 1
 ·subst o1
  by_cases hn0 : 0 <= n
  ·by_cases hn1 : n < (vars.length : Int)
   ·simp [hn0, hn1]
    split <;> rfl
   ·simp [hn0, hn1]
  ·simp [hn0]
 simp only [o0, o1, if_false]
 by_cases o2 : 2 <= op /\ op <= 11
 ·simp [o2, show op >= 2 from o2.1]
 ·by_cases o3 : op = 13
  ·subst o3; simp
  ·by_cases o4 : op = 14
   ·subst o4; simp
   ·by_cases h2 : op >= 2
    ·have h11 : ¬ op <= 11 := fun h => o2 ⟨h2, h⟩
     simp [h2, h11, o3, o4]
     by_cases o5 : op = 12
     ·simp [o5]
     ·by_cases o6 : op = 15 <;> simp [o5, o6]
    ·have : ¬ 2 <= op := h2
     simp [this, o3, o4]
     have e1 : op ≠ 12 := by omega
     have e2 : op ≠ 15 := by omega
     simp [e1, e2]
def Yj (w : Int) (vars : List S76) (kk op n c len : Int) : Bool := decide (YI vars op n = len) && YF w kk op n c
theorem pow_le8 {w : Int} (h1 : 1 <= w) (h8 : w <= 8) : (1 : Int) <= 2 ^ w.toNat /\ (2 : Int) ^ w.toNat <= 256 := by
 obtain ⟨n, rfl⟩ : ∃ n : Nat, w = n := ⟨w.toNat, by omega⟩
 rw [jh]
 have h := Nat.pow_le_pow_right (show 0 < 2 by decide) (show n <= 8 by omega)
 have h0 := Nat.pow_pos (n := n) (show 0 < 2 by decide)
 have e : ((2 : Int) ^ n) = ((2 ^ n : Nat) : Int) := by simp
 rw [e]
 omega
theorem z24 : ∀ (j : Nat) (i : Nat) (n : Nat), i + j = n -> n <= 60 -> zc (fun k => Ze.l0 k (n : Int) (2 ^ i : Int) (i : Int)) (2 ^ n : Int)
 | 0, i, n, h, hn => by
  refine zc.succ ?_
  have : ¬ (i : Int) < (n : Int) := by omega
  simp only [Ze.l0, this, if_false]
  have : i = n := by omega
  rw [this]
  exact zc.pure _
 | j + 1, i, n, h, hn => by
  refine zc.succ ?_
  have hlt : (i : Int) < (n : Int) := by omega
  have hp : (2 : Int) ^ (i + 1) <= 1152921504606846976 := by
   have h := Nat.pow_le_pow_right (show 0 < 2 by decide) (show i + 1 <= 60 by omega)
   have e : ((2 : Int) ^ (i + 1)) = ((2 ^ (i + 1) : Nat) : Int) := by simp
   rw [e]
   have : (2 : Nat) ^ 60 = 1152921504606846976 := by decide
   omega
  have h0 : (0 : Int) <= 2 ^ (i + 1) := Int.pow_nonneg (by decide)
  have e : (2 : Int) * 2 ^ i = 2 ^ (i + 1) := by rw [Int.pow_succ, Int.mul_comm]
  simp only [Ze.l0, hlt, if_true]
  rw [w64 (n := (i : Int) + 1) (by omega) (by omega), e, w64 (by omega) (by omega)]
  exact z24 j (i + 1) n (by omega) hn
theorem z6J (n : Int) (h0 : 0 <= n) (h : n <= 60) : zc (fun k => Ze.f k n) (2 ^ n.toNat) := by
 obtain ⟨m, rfl⟩ : ∃ m : Nat, n = m := ⟨n.toNat, by omega⟩
 exact z24 m 0 m (by omega) (by omega)
theorem z1u (w a : Int) (h1 : 1 <= w) (h8 : w <= 8) : zc (fun k => yJ.f k w a) (decide (0 <= a /\ a < 2 ^ w.toNat)) := by
 unfold yJ.f yh.f
 have : w >= 1 := h1
 simp only [this, if_true, h8, decide_true, jv]
 by_cases h : a >= 0
 ·have : decide (0 <= a /\ a < 2 ^ w.toNat) = decide (a < 2 ^ w.toNat) := by
   apply decide_eq_decide.2
   exact ⟨fun h => h.2, fun h' => ⟨h, h'⟩⟩
  rw [this]
  simp only [h, if_true]
  exact zc.bind (z6J w (by omega) (by omega)) (zc.pure _)
 ·have : decide (0 <= a /\ a < 2 ^ w.toNat) = false := by
   apply dF
   exact fun h' => h h'.1
  rw [this]
  simp only [h, if_false]
  exact zc.pure _
theorem z6n (w kk op n c : Int) (h1 : 1 <= w) (h8 : w <= 8) : YF w kk op n c = if op = 0 then decide (c = 0) && decide (0 <= n /\ n < 2 ^ w.toNat) else if op = 1 then decide (0 <= c /\ c < kk) else decide (c = 0) && decide (n = 0) := by
 have hp := pow_le8 h1 h8
 unfold YF
 rw [w64 (by omega) (by omega)]
 generalize (2 : Int) ^ w.toNat = p
 by_cases o0 : op = 0
 ·simp only [o0, if_true]
  by_cases a1 : n < 0
  ·have : ¬ (0 <= n /\ n < p) := by omega
   simp [a1, this]
  ·by_cases a2 : p <= n
   ·have : ¬ (0 <= n /\ n < p) := by omega
    simp [a1, a2, this]
   ·have : (0 <= n /\ n < p) := by omega
    by_cases a3 : c = 0 <;> simp [a1, a2, a3, this]
 ·by_cases o1 : op = 1
  ·subst o1
   by_cases a1 : c < 0
   ·have : ¬ (0 <= c /\ c < kk) := by omega
    simp [a1, this]
   ·by_cases a2 : kk <= c
    ·have : ¬ (0 <= c /\ c < kk) := by omega
     simp [a1, a2, this]
    ·have : (0 <= c /\ c < kk) := by omega
     simp [a1, a2, this]
  ·simp only [o0, o1, if_false]
   by_cases a1 : n = 0 <;> by_cases a2 : c = 0 <;> simp [a1, a2]
theorem z5c (w : Int) (vars : List S76) (kk op n c : Int) (l : List S62) (h1 : 1 <= w) (h8 : w <= 8) : zc (fun k => yp.f k w vars kk op n c l) (Yj w vars kk op n c (l.length : Int)) := by
 unfold Yj
 rw [z6n w kk op n c h1 h8]
 unfold yp.f
 by_cases o1 : op = 1
 ·subst o1
  simp only [if_true]
  by_cases a1 : n < 0
  ·have e : ¬ (0 <= n /\ n < (vars.length : Int)) := by omega
   have e2 : ¬ ((-1 : Int) = (l.length : Int)) := by omega
   simp only [a1, if_true, YI, e, if_false]
   simp [e2]
   exact zc.pure _
  ·by_cases a2 : n >= (vars.length : Int)
   ·have e : ¬ (0 <= n /\ n < (vars.length : Int)) := by omega
    have e2 : ¬ ((-1 : Int) = (l.length : Int)) := by omega
    simp only [a1, a2, if_true, YI, e, if_false]
    simp [e2]
    exact zc.pure _
   ·have e : (0 <= n /\ n < (vars.length : Int)) := by omega
    by_cases a3 : c < 0
    ·have e3 : ¬ (0 <= c /\ c < kk) := by omega
     simp [a1, a2, a3, e3]
     exact zc.pure _
    ·by_cases a4 : c >= kk
     ·have e3 : ¬ (0 <= c /\ c < kk) := by omega
      simp [a1, a2, a3, a4, e3]
      exact zc.pure _
     ·have e3 : (0 <= c /\ c < kk) := by omega
      simp only [a1, a2, a3, a4, e.1, e.2, if_true, if_false, ZG.f, YI, e, e3]
      by_cases a5 : (zp vars n).f2 > 1
      ·refine ⟨0, fun k _ => ?_⟩
       simp only [a5, decide_true, if_true, jv, and_self, show ¬ ((1 : Int) = 0) by decide, if_false, Bool.and_true]
       congr 1
       rw [Bool.eq_iff_iff, beq_iff_eq, decide_eq_true_iff]
       exact eq_comm
      ·refine ⟨0, fun k _ => ?_⟩
       simp only [a5, decide_true, decide_false, Bool.false_eq_true, if_true, jv, and_self, show ¬ ((1 : Int) = 0) by decide, if_false, Bool.and_true]
       congr 1
       rw [Bool.eq_iff_iff, beq_iff_eq, decide_eq_true_iff]
       exact eq_comm
 ·simp only [o1, if_false]
  by_cases a1 : c = 0
  ·refine zc.ifT a1 ?_
   have har : z0B.f op = some (YI vars op n) := by
    unfold z0B.f YD.f YI
    by_cases o0 : op = 0
    ·simp [o0]
    by_cases o2 : op = 12
    ·subst o2; simp
    by_cases o3 : op = 15
    ·subst o3; simp
    by_cases o4 : op = 13
    ·subst o4; simp
    by_cases o5 : op = 14
    ·subst o5; simp
    by_cases a : op >= 2
    ·by_cases b : op <= 11
     ·have : (2 <= op /\ op <= 11) := ⟨a, b⟩
      simp [o0, o1, o2, o3, o4, o5, this]
     ·have : ¬ (2 <= op /\ op <= 11) := by omega
      simp [o0, o1, o2, o3, o4, o5, a, b]
    ·have : ¬ (2 <= op /\ op <= 11) := by omega
     simp [o0, o1, o2, o3, o4, o5, a]
   simp only [har, jv, o1, if_false]
   have hc : decide (c = 0) = true := dT a1
   rw [hc]
   simp only [Bool.true_and]
   refine zc.succ ?_
   simp only [yp.j0]
   by_cases b1 : YI vars op n = (l.length : Int)
   ·have hb : ((l.length : Int) != YI vars op n) = false := by rw [b1]; simp
    simp only [hb, Bool.false_eq_true, if_false]
    rw [decide_eq_true b1, Bool.true_and]
    by_cases o0 : op = 0
    ·simp only [o0, if_true]
     exact zc.bind (h := fun k t => some t) (z1u w n h1 h8) (zc.pure _)
    ·simp only [o0, if_false]
     have e : (n == 0) = decide (n = 0) := by rw [Bool.eq_iff_iff, beq_iff_eq, decide_eq_true_iff]
     rw [e]
     exact zc.pure _
   ·have hb : ((l.length : Int) != YI vars op n) = true := bne_iff_ne.2 (fun e => b1 e.symm)
    simp only [hb, if_true]
    rw [decide_eq_false b1, jx]
    exact zc.pure _
  ·refine zc.ifF a1 ?_
   have hc : decide (c = 0) = false := dF a1
   rw [hc]
   refine zc.succ ?_
   simp only [yp.j0, if_true, jx]
   have : (if op = 0 then false else false) = false := by split <;> rfl
   rw [this, Bool.and_false]
   exact zc.pure _
theorem zc.ifB {b : Bool} {f : Nat -> Option Bool} {v : Bool} (h : zc f v) : zc (fun k => if b = true then f k else some false) (b && v) := by
 cases b
 ·exact zc.pure false
 ·exact h
theorem zc.id' {g : Nat -> Option Bool} {v : Bool} (h : zc g v) : zc (fun k => (g k).bind fun t => some t) v := zc.bind (h := fun _ t => some t) h (zc.pure v)
def z4z : Bool -> Int -> Int
 | true, _ => 0
 | false, e => e
mutual
def eOK (w : Int) (vars : List S76) (kk : Int) : S62 -> Bool
 | ⟨a, b, c, l⟩ => Yj w vars kk a b c (l.length : Int) && z0L w vars kk l
def z0L (w : Int) (vars : List S76) (kk : Int) : List S62 -> Bool
 | [] => true
 | x :: r => eOK w vars kk x && z0L w vars kk r
end
theorem z5k (w : Int) (vars : List S76) (kk : Int) (h1 : 1 <= w) (h8 : w <= 8) : (∀ x, Yg x -> zc (fun k => ZS.f k w vars kk x.f0 x.f1 x.f2 x.f3) (eOK w vars kk x)) /\
  (∀ suf, ∀ (pre : List S62) (a b c : Int), yU suf -> (pre ++ suf).length <= 9223372036854775807 -> zc (fun k => ZS.l0 k w vars kk (pre.length : Int) a b c (pre ++ suf)) (z0L w vars kk suf)) := by
 refine z15 (fun a b c l ih => ?_) ?_ (fun x r ih1 ih2 => ?_)
 ·intro hg
  refine zc.succ ?_
  simp only [ZS.f, eOK]
  exact zc.bind (z5c w vars kk a b c l h1 h8) (zc.ifB (ih [] a b c hg.2 hg.1))
 ·intro pre a b c _ _
  refine zc.succ ?_
  simp only [ZS.l0, ZL, if_false, z0L]
  exact zc.pure _
 ·intro pre a b c hg hl
  refine zc.succ ?_
  simp only [ZS.l0, Zo, Z6, if_true, Y6, z0L]
  refine zc.bind (ih1 hg.1) (zc.ifB ?_)
  rw [Zi pre x r hl]
  have h2 := ih2 (pre ++ [x]) a b c hg.2 (by rw [<- zQ]; exact hl)
  rw [<- zQ] at h2
  exact h2
def eIs (w : Int) (vars : List S76) (kk : Int) (x : S62) : Bool := decide (eN x <= 400) && (decide (eD x <= 16) && eOK w vars kk x)
theorem z7X (w : Int) (vars : List S76) (kk : Int) (h1 : 1 <= w) (h8 : w <= 8) (x : S62) (hg : Yg x) : zc (fun k => z2O.f k w vars kk x.f0 x.f1 x.f2 x.f3) (eIs w vars kk x) := by
 unfold z2O.f eIs
 have hf := fitsE x 400 hg (by decide) (by decide)
 have e : decide ((eN x : Int) <= 400) = decide (eN x <= 400) := decide_eq_decide.2 (by omega)
 rw [e] at hf
 refine zc.bind hf ?_
 by_cases hn : eN x <= 400
 ·simp only [hn, decide_true, if_true, Bool.true_and]
  refine zc.bind (depthE.1 x hg (by omega)) ?_
  by_cases hd : eD x <= 16
  ·have hd' : (eD x : Int) <= 16 := by omega
   simp only [hd, hd', decide_true, if_true, Bool.true_and]
   exact zc.id' ((z5k w vars kk h1 h8).1 x hg)
  ·have hd' : ¬ (eD x : Int) <= 16 := by omega
   simp only [hd, hd', decide_false, if_false, jx]
   exact zc.pure _
 ·simp only [hn, decide_false, if_false, jx, Bool.false_eq_true]
  exact zc.pure _
def z0o (w : Int) (vars : List S76) (kk : Int) (x : S62) (deep left : Int) : Bool := decide ((eN x : Int) <= left) && (decide (deep + eD x <= 17) && eOK w vars kk x)
def YU (w : Int) (vars : List S76) (kk : Int) (l : List S62) (deep left : Int) : Bool := decide ((eNs l : Int) <= left) && (decide (deep + 1 + eDs l <= 17) && z0L w vars kk l)
theorem z5l (w : Int) (vars : List S76) (kk : Int) (h1 : 1 <= w) (h8 : w <= 8) :
  (∀ x, ∀ deep left : Int, Yg x -> 1 <= deep -> deep <= 17 -> 0 <= left -> left <= 400 -> ∃ l', zc (fun k => zE.f k w vars kk x.f0 x.f1 x.f2 x.f3 deep left) (z0o w vars kk x deep left, l') /\ (z0o w vars kk x deep left = true -> l' = left - eN x)) /\
  (∀ suf, ∀ (pre : List S62) (deep left : Int), yU suf -> (pre ++ suf).length <= 9223372036854775807 -> 1 <= deep -> deep <= 16 -> 0 <= left -> left <= 400 ->
   ∃ l', zc (fun k => zE.l0 k w vars kk (pre ++ suf) deep (pre.length : Int) left) (YU w vars kk suf deep left, l') /\ (YU w vars kk suf deep left = true -> l' = left - eNs suf)) := by
 refine z15 (fun a b c l ih => ?_) ?_ (fun x r ih1 ih2 => ?_)
 ·intro deep left hg d1 d17 l0 l400
  by_cases hl : left = 0
  ·have e : z0o w vars kk ⟨a, b, c, l⟩ deep left = false := by
    unfold z0o
    rw [decide_eq_false (by simp only [eN]; omega), jx]
   rw [e]
   refine ⟨-1, zc.succ ?_, fun h => jm h (by decide)⟩
   subst hl
   simp only [zE.f, show wrap64 (0 - 1) = -1 from w64 (by decide) (by decide)]
   exact zc.ifT (by decide) (zc.pure _)
  ·have hw : wrap64 (left - 1) = left - 1 := w64 (by omega) (by omega)
   by_cases hd : 16 < deep
   ·have e : z0o w vars kk ⟨a, b, c, l⟩ deep left = false := by
     unfold z0o
     rw [decide_eq_false (p := deep + ↑(eD ⟨a, b, c, l⟩) <= 17) (by simp only [eD]; omega), jx, Bool.and_false]
    rw [e]
    refine ⟨left - 1, zc.succ ?_, fun h => jm h (by decide)⟩
    simp only [zE.f, hw]
    exact zc.ifF (by omega) (zc.ifT hd (zc.pure _))
   ·have e : z0o w vars kk ⟨a, b, c, l⟩ deep left = (Yj w vars kk a b c (l.length : Int) && YU w vars kk l deep (left - 1)) := by
     unfold z0o YU
     have n1 : eN ⟨a, b, c, l⟩ = 1 + eNs l := by simp only [eN]
     have n2 : eD ⟨a, b, c, l⟩ = eDs l + 1 := by simp only [eD]
     have n3 : eOK w vars kk ⟨a, b, c, l⟩ = (Yj w vars kk a b c (l.length : Int) && z0L w vars kk l) := by simp only [eOK]
     rw [decide_eq_decide.2 (show ((eN ⟨a, b, c, l⟩ : Int) <= left) ↔ ((eNs l : Int) <= left - 1) by omega), decide_eq_decide.2 (show (deep + (eD ⟨a, b, c, l⟩ : Int) <= 17) ↔ (deep + 1 + (eDs l : Int) <= 17) by omega), n3]
     cases decide ((eNs l : Int) <= left - 1) <;> cases decide (deep + 1 + (eDs l : Int) <= 17) <;> cases Yj w vars kk a b c (l.length : Int) <;> rfl
    rw [e]
    obtain ⟨l', t, q⟩ := ih [] deep (left - 1) hg.2 hg.1 d1 (by omega) (by omega) (by omega)
    by_cases hn : Yj w vars kk a b c (l.length : Int) = true
    ·refine ⟨l', zc.succ ?_, fun h => ?_⟩
     ·simp only [zE.f, hw]
      refine zc.ifF (by omega) (zc.ifF hd ?_)
      refine zc.bind (z2r w vars kk a b c l) ?_
      unfold Yj at hn
      rw [jg, decide_eq_true_eq] at hn
      refine zc.ifT hn.1 (zc.ifT hn.2 ?_)
      have : Yj w vars kk a b c (l.length : Int) = true := by unfold Yj; rw [hn.2, decide_eq_true hn.1]; rfl
      rw [this, Bool.true_and]
      exact t
     ·rw [hn, Bool.true_and] at h
      have := q h
      simp only [eN]
      omega
    ·have hn' := Bool.eq_false_iff.2 hn
     refine ⟨left - 1, zc.succ ?_, fun h => by rw [hn', jx] at h; cases h⟩
     rw [hn', jx]
     simp only [zE.f, hw]
     refine zc.ifF (by omega) (zc.ifF hd ?_)
     refine zc.bind (z2r w vars kk a b c l) ?_
     by_cases ha : YI vars a b = (l.length : Int)
     ·refine zc.ifT ha (zc.ifF ?_ (zc.pure _))
      intro hk
      apply hn
      unfold Yj
      rw [hk, decide_eq_true ha]
      rfl
     ·exact zc.ifF ha (zc.pure _)
 ·intro pre deep left _ _ d1 d16 l0 l400
  have e : YU w vars kk [] deep left = true := by
   unfold YU
   have n1 : eNs [] = 0 := by simp only [eNs]
   have n2 : eDs [] = 0 := by simp only [eDs]
   rw [decide_eq_true (p := (eNs [] : Int) <= left) (by omega), decide_eq_true (p := deep + 1 + (eDs [] : Int) <= 17) (by omega)]
   simp only [z0L]
   rfl
  rw [e]
  refine ⟨left, zc.succ ?_, fun _ => by simp only [eNs]; omega⟩
  simp only [zE.l0, ZL, if_false]
  exact zc.pure _
 ·intro pre deep left hg hl d1 d16 l0 l400
  obtain ⟨m, t1, q1⟩ := ih1 (deep + 1) left hg.1 (by omega) (by omega) l0 l400
  by_cases hb : z0o w vars kk x (deep + 1) left = true
  ·have hm := q1 hb
   have hc := hb
   unfold z0o at hc
   simp only [jg, decide_eq_true_eq] at hc
   obtain ⟨c1, c2, c3⟩ := hc
   have e : YU w vars kk (x :: r) deep left = YU w vars kk r deep m := by
    unfold YU
    have n1 : eNs (x :: r) = eN x + eNs r := by simp only [eNs]
    have n2 : eDs (x :: r) = max (eD x) (eDs r) := by simp only [eDs]
    have n3 : z0L w vars kk (x :: r) = z0L w vars kk r := by simp only [z0L, c3, Bool.true_and]
    rw [decide_eq_decide.2 (show ((eNs (x :: r) : Int) <= left) ↔ ((eNs r : Int) <= m) by omega), decide_eq_decide.2 (show (deep + 1 + (eDs (x :: r) : Int) <= 17) ↔ (deep + 1 + (eDs r : Int) <= 17) by omega), n3]
   rw [e]
   obtain ⟨l', t2, q2⟩ := ih2 (pre ++ [x]) deep m hg.2 (by rw [<- zQ]; exact hl) d1 d16 (by omega) (by omega)
   rw [<- zQ] at t2
   refine ⟨l', zc.succ ?_, fun h => by have := q2 h; simp only [eNs]; omega⟩
   simp only [zE.l0, Zo, Z6, if_true, Y6]
   rw [w64 (n := deep + 1) (by omega) (by omega), Zi pre x r hl]
   refine zc.bind t1 ?_
   rw [hb]
   exact t2
  ·have hb' := Bool.eq_false_iff.2 hb
   have e : YU w vars kk (x :: r) deep left = false := by
    rw [Bool.eq_false_iff]
    intro h
    apply hb
    unfold YU at h
    unfold z0o
    have n1 : eNs (x :: r) = eN x + eNs r := by simp only [eNs]
    have n2 : eDs (x :: r) = max (eD x) (eDs r) := by simp only [eDs]
    simp only [jg, decide_eq_true_eq] at h ⊢
    obtain ⟨q1, q2, q3⟩ := h
    simp only [z0L, jg] at q3
    exact ⟨by omega, by omega, q3.1⟩
   rw [e]
   refine ⟨m, zc.succ ?_, fun h => jm h (by decide)⟩
   simp only [zE.l0, Zo, Z6, if_true, Y6]
   rw [w64 (n := deep + 1) (by omega) (by omega)]
   refine zc.bind t1 ?_
   rw [hb']
   exact zc.pure _
theorem z4W (w : Int) (vars : List S76) (kk : Int) (h1 : 1 <= w) (h8 : w <= 8) (k1 : 1 <= kk) (k3 : kk <= 3) (hh : zc (fun k => zH.f k w vars) 0) (x : S62) (hg : Yg x) :
  zc (fun k => yV.f k w vars kk x.f0 x.f1 x.f2 x.f3) (z4z (eIs w vars kk x) 20) := by
 unfold yV.f
 refine zc.bind (x := z4z (eIs w vars kk x) 20) ?_ (zc.pure _)
 unfold ZW.f
 refine zc.bind hh (zc.ifT rfl (zc.ifF (by omega) (zc.ifF (by omega) ?_)))
 obtain ⟨l', t, _⟩ := (z5l w vars kk h1 h8).1 x 1 400 hg (by decide) (by decide) (by decide) (by decide)
 refine zc.bind t ?_
 have e : z0o w vars kk x 1 400 = eIs w vars kk x := by
  unfold z0o eIs
  rw [decide_eq_decide.2 (show ((eN x : Int) <= 400) ↔ (eN x <= 400) by omega), decide_eq_decide.2 (show ((1 : Int) + eD x <= 17) ↔ (eD x <= 16) by omega)]
 rw [e]
 by_cases h : eIs w vars kk x = true
 ·rw [h]; exact zc.pure _
 ·rw [Bool.eq_false_iff.2 h]; exact zc.pure _
def ZC.l0 : Nat -> List (S76) -> ByteArray -> Int -> Option (Int)
 | 0, _, _, _ => none
 | k + 1, x0, x1, x5 => if x5 < (x0.length : Int) then (if 0 <= x5 then (if ((zp x0 x5).f0).toList = x1.toList then (some x5) else (ZC.l0 k x0 x1 (wrap64 (x5 + 1)))) else (none)) else (some (-1))
def ZC.f (k : Nat) (l0 : List (S76)) (a1 : ByteArray) : Option (Int) := ZC.l0 k l0 a1 0
theorem ZC.calls (k : Nat) (A0 : Option Addr) (c0 : Nat) (l0 : List (S76)) (a1 : ByteArray) (r : Int) (w : World) (hr0 : Kd.C k76 w A0 l0.length l0) (hc0 : l0.length <= c0) (h : ZC.f k l0 a1 = some r) :
  Calls Tryz.prog 65 #[.slice A0 l0.length c0, .string a1] w fun e w' => e = .returned (.int .i64 r) /\ zT w w' := by
 have HR0 := am hr0
 have HC0 := am hc0
 clear hr0 hc0
 have H := h
 clear h
 have H' := am H
 clear H
 go_enter Tryz.func65, Tryz.ntmps65
 go_wp2
 go_loopg [5] k (fun kq v5 w' => ∃ (x5_1 : Int), v5 = .int .i64 x5_1 /\ Aside0 (ZC.l0 kq l0 a1 x5_1 = some r) /\ Aside0 (kq <= k) /\ zT w w')
 case atStart => exact ⟨(0), rs, H', ⟨jk _⟩, dr⟩
 case round =>
  clear H'
  obtain ⟨x5_1, rfl, HA, HK1, ⟨m1, rfl⟩⟩ := hrel
  cases gk with
  | zero => exact jm HA.out (by simp [ZC.l0])
  | succ k1 =>
   have H := HA.out
   clear HA
   simp only [ZC.l0] at H
   obtain ⟨c3b0, H⟩ | ⟨c3b0, H⟩ := ei H
   ·obtain rfl := sj H
    go_wp2
    go_ret
    exact ⟨rs, dr⟩
   obtain ⟨c4b0, H⟩ := pd H
   obtain ⟨c5b0, c5b1, H⟩ | ⟨c5, c5b0, c5b1, H⟩ := iq H
   ·obtain rfl := sj H
    have p785 : 0 <= (x5_1 : Int) := od
    have q785 : x5_1 < (l0.length : Int) := od
    obtain ⟨ad785, e785, hx785_0, hx785_1, hx785_2⟩ := Zs HR0.out x5_1 p785 q785
    cases e785
    replace p785 := eT p785
    replace q785 := eT q785
    go_wp2
    go_ret
    exact ⟨rs, dr⟩
   have H' := am H
   clear H
   have p785 : 0 <= (x5_1 : Int) := od
   have q785 : x5_1 < (l0.length : Int) := od
   obtain ⟨ad785, e785, hx785_0, hx785_1, hx785_2⟩ := Zs HR0.out x5_1 p785 q785
   cases e785
   replace p785 := eT p785
   replace q785 := eT q785
   go_wp2
   go_roundg k1
   case measure => have := HK1.out; omega
   case rel => exact ⟨(wrap64 (x5_1 + 1)), rs, H', ⟨by have := HK1.out; omega⟩, dr⟩
def YO.f (a0 : Int) : Option (Bool) := if a0 >= 48 then (some (decide (a0 <= 57))) else (some false)
theorem YO.calls (a0 : Int) (r : Bool) (w : World) (h : YO.f a0 = some r) :
  Calls Tryz.prog 96 #[.int .u8 a0] w fun e w' => e = .returned (.bool r) /\ zT w w' := by
 have H := h
 clear h
 obtain ⟨c2b0, H⟩ | ⟨c2b0, H⟩ := iE H
 ·obtain rfl := sj H
  go_enter Tryz.func96, Tryz.ntmps96
  go_wp2
  go_ret
  exact ⟨rs, dr⟩
 obtain rfl := sj H
 go_enter Tryz.func96, Tryz.ntmps96
 go_wp2
 go_ret
 exact ⟨rs, dr⟩
def ZP.f (a0 : Int) : Option (Bool) := if a0 >= 97 then (some (decide (a0 <= 122))) else (some false)
theorem ZP.calls (a0 : Int) (r : Bool) (w : World) (h : ZP.f a0 = some r) :
  Calls Tryz.prog 94 #[.int .u8 a0] w fun e w' => e = .returned (.bool r) /\ zT w w' := by
 have H := h
 clear h
 obtain ⟨c2b0, H⟩ | ⟨c2b0, H⟩ := iE H
 ·obtain rfl := sj H
  go_enter Tryz.func94, Tryz.ntmps94
  go_wp2
  go_ret
  exact ⟨rs, dr⟩
 obtain rfl := sj H
 go_enter Tryz.func94, Tryz.ntmps94
 go_wp2
 go_ret
 exact ⟨rs, dr⟩
def Ys.f (a0 : ByteArray) : Option (Bool) := if a0.toList = ([119, 105, 100, 116, 104] : List UInt8) then (some true) else (if a0.toList = ([118, 97, 114] : List UInt8) then (some true) else (if a0.toList = ([105, 102] : List UInt8) then (some true) else (if a0.toList = ([101, 108, 115, 101] : List UInt8) then (some true) else (if a0.toList = ([119, 104, 105, 108, 101] : List UInt8) then (some true) else (if a0.toList = ([111, 117, 116] : List UInt8) then (some true) else (if a0.toList = ([112, 105, 99, 107] : List UInt8) then (some true) else (if a0.toList = ([110, 101, 101, 100] : List UInt8) then (some true) else (if a0.toList = ([109, 117, 115, 116] : List UInt8) then (some true) else (if a0.toList = ([108, 101, 118, 101, 108] : List UInt8) then (some true) else (if a0.toList = ([115, 101, 101, 115] : List UInt8) then (some true) else (some false)))))))))))
theorem Ys.calls (a0 : ByteArray) (r : Bool) (w : World) (h : Ys.f a0 = some r) :
  Calls Tryz.prog 95 #[.string a0] w fun e w' => e = .returned (.bool r) /\ zT w w' := by
 have H := h
 clear h
 obtain ⟨c2b0, c2b1, H⟩ | ⟨c2, c2b0, c2b1, H⟩ := iq H
 ·obtain rfl := sj H
  go_enter Tryz.func95, Tryz.ntmps95
  go_wp2
  go_ret
  exact ⟨rs, dr⟩
 obtain ⟨c3b0, c3b1, H⟩ | ⟨c3, c3b0, c3b1, H⟩ := iq H
 ·obtain rfl := sj H
  go_enter Tryz.func95, Tryz.ntmps95
  go_wp2
  go_ret
  exact ⟨rs, dr⟩
 obtain ⟨c4b0, c4b1, H⟩ | ⟨c4, c4b0, c4b1, H⟩ := iq H
 ·obtain rfl := sj H
  go_enter Tryz.func95, Tryz.ntmps95
  go_wp2
  go_ret
  exact ⟨rs, dr⟩
 obtain ⟨c5b0, c5b1, H⟩ | ⟨c5, c5b0, c5b1, H⟩ := iq H
 ·obtain rfl := sj H
  go_enter Tryz.func95, Tryz.ntmps95
  go_wp2
  go_ret
  exact ⟨rs, dr⟩
 obtain ⟨c6b0, c6b1, H⟩ | ⟨c6, c6b0, c6b1, H⟩ := iq H
 ·obtain rfl := sj H
  go_enter Tryz.func95, Tryz.ntmps95
  go_wp2
  go_ret
  exact ⟨rs, dr⟩
 obtain ⟨c7b0, c7b1, H⟩ | ⟨c7, c7b0, c7b1, H⟩ := iq H
 ·obtain rfl := sj H
  go_enter Tryz.func95, Tryz.ntmps95
  go_wp2
  go_ret
  exact ⟨rs, dr⟩
 obtain ⟨c8b0, c8b1, H⟩ | ⟨c8, c8b0, c8b1, H⟩ := iq H
 ·obtain rfl := sj H
  go_enter Tryz.func95, Tryz.ntmps95
  go_wp2
  go_ret
  exact ⟨rs, dr⟩
 obtain ⟨c9b0, c9b1, H⟩ | ⟨c9, c9b0, c9b1, H⟩ := iq H
 ·obtain rfl := sj H
  go_enter Tryz.func95, Tryz.ntmps95
  go_wp2
  go_ret
  exact ⟨rs, dr⟩
 obtain ⟨c10b0, c10b1, H⟩ | ⟨c10, c10b0, c10b1, H⟩ := iq H
 ·obtain rfl := sj H
  go_enter Tryz.func95, Tryz.ntmps95
  go_wp2
  go_ret
  exact ⟨rs, dr⟩
 obtain ⟨c11b0, c11b1, H⟩ | ⟨c11, c11b0, c11b1, H⟩ := iq H
 ·obtain rfl := sj H
  go_enter Tryz.func95, Tryz.ntmps95
  go_wp2
  go_ret
  exact ⟨rs, dr⟩
 obtain ⟨c12, c12b0, c12b1, H⟩ | ⟨c12b0, c12b1, H⟩ := qi H
 ·obtain rfl := sj H
  go_enter Tryz.func95, Tryz.ntmps95
  go_wp2
  go_ret
  exact ⟨rs, dr⟩
 obtain rfl := sj H
 go_enter Tryz.func95, Tryz.ntmps95
 go_wp2
 go_ret
 exact ⟨rs, dr⟩
mutual
def Z5.j0 : Nat -> ByteArray -> Bool -> Option (Bool)
 | 0, _, _ => none
 | k + 1, x0, x21 => if x21 = true then (some false) else (Z5.l0 k x0 0)
def Z5.l0 : Nat -> ByteArray -> Int -> Option (Bool)
 | 0, _, _ => none
 | k + 1, x0, x3 => if x3 < (x0.size : Int) then (if 0 <= x3 then ((ZP.f (bt x0 x3)).bind fun t783 => (if t783 = true then (Z5.l0 k x0 (wrap64 (x3 + 1))) else ((YO.f (bt x0 x3)).bind fun t784 => (if t784 = true then (Z5.l0 k x0 (wrap64 (x3 + 1))) else (if (bt x0 x3) = 95 then (Z5.l0 k x0 (wrap64 (x3 + 1))) else (some false)))))) else (none)) else (some true)
end
def Z5.f (k : Nat) (a0 : ByteArray) : Option (Bool) := if (a0.size : Int) < 1 then (Z5.j0 k a0 true) else (if (a0.size : Int) > 12 then (Z5.j0 k a0 true) else (if 0 < (a0.size : Int) then ((ZP.f (bt a0 0)).bind fun t781 => (if t781 = true then ((Ys.f a0).bind fun t782 => (Z5.j0 k a0 t782)) else (Z5.j0 k a0 true))) else (none)))
theorem Z5.calls (k : Nat) (a0 : ByteArray) (r : Bool) (w : World) (h : Z5.f k a0 = some r) :
  Calls Tryz.prog 64 #[.string a0] w fun e w' => e = .returned (.bool r) /\ zT w w' := by
 have H := h
 clear h
 have HC2 := am H
 clear H
 go_enter Tryz.func64, Tryz.ntmps64
 go_upto_region 1 with (fail)
 go_cut [21] (fun v21 wc => ∃ (kq : Nat) (x21_1 : Bool), v21 = .bool x21_1 /\ Aside0 (Z5.j0 kq a0 x21_1 = some r) /\ Aside0 (kq <= k) /\ zT w wc)
 case first =>
  have H := HC2.out
  clear HC2
  obtain ⟨c3b0, H⟩ | ⟨c3b0, H⟩ := iE H
  ·have c3 := of_decide_eq_true c3b0
   have c3b1 : decide (a0.size < 1) = true := dT (by omega)
   clear c3
   (first | rw [c3b0] | (simp only [zP, Zr]; rw [c3b0]) | skip)
   have H' := am H
   clear H
   go_wp2
   go_meet
   case rel => exact ⟨_, (true), rs, H', ⟨by first | omega | exact jk _⟩, dr⟩
  have c3 := of_decide_eq_false c3b0
  have c3b1 : decide (a0.size < 1) = false := dF (by omega)
  clear c3
  (first | rw [c3b0] | (simp only [zP, Zr]; rw [c3b0]) | skip)
  obtain ⟨c4b0, H⟩ | ⟨c4b0, H⟩ := iE H
  ·have c4 := of_decide_eq_true c4b0
   have c4b1 : decide (12 < a0.size) = true := dT (by omega)
   clear c4
   have H' := am H
   clear H
   go_wp2
   go_meet
   case rel => exact ⟨_, (true), rs, H', ⟨by first | omega | exact jk _⟩, dr⟩
  have c4 := of_decide_eq_false c4b0
  have c4b1 : decide (12 < a0.size) = false := dF (by omega)
  clear c4
  obtain ⟨c5b0, H⟩ := pd H
  have c5 := of_decide_eq_true c5b0
  have c5b1 : decide (0 < a0.size) = true := dT (by omega)
  clear c5
  obtain ⟨t781, A7, H⟩ := be H
  replace H := ob H
  obtain ⟨rfl, H⟩ | ⟨rfl, H⟩ := H
  ·have H' := am H
   clear H
   have p6 : 0 <= (0 : Int) := (by omega)
   have q6 : 0 < a0.size := (by have : (0 : Int) < (a0.size : Int) := od; omega)
   have hx6 : ∀ h : 0 < a0.size, ((a0[0]'h).toNat : Int) = bt a0 0 := YH a0 0
   clear p6
   have qi6 : (0 < (a0.size : Int)) = True := eT (od)
   replace q6 := eT q6
   go_wp2_with (first | (go_at_call 94; (with_reducible refine (ZP.calls (bt a0 0) false _ A7.out).mono ?_); rintro e w' ⟨rfl, ⟨nd, rfl⟩⟩))
   go_meet
   case rel => exact ⟨_, (true), rs, H', ⟨by first | omega | exact jk _⟩, dr⟩
  obtain ⟨t782, A9, H⟩ := be H
  have H' := am H
  clear H
  have p6 : 0 <= (0 : Int) := (by omega)
  have q6 : 0 < a0.size := (by have : (0 : Int) < (a0.size : Int) := od; omega)
  have hx6 : ∀ h : 0 < a0.size, ((a0[0]'h).toNat : Int) = bt a0 0 := YH a0 0
  clear p6
  have qi6 : (0 < (a0.size : Int)) = True := eT (od)
  replace q6 := eT q6
  go_wp2_with (first | (go_at_call 94; (with_reducible refine (ZP.calls (bt a0 0) true _ A7.out).mono ?_); rintro e w' ⟨rfl, ⟨nd, rfl⟩⟩) | (go_at_call 95; (with_reducible refine (Ys.calls a0 t782 _ A9.out).mono ?_); rintro e w' ⟨rfl, ⟨nd, rfl⟩⟩))
  go_meet
  case rel => exact ⟨_, (t782), rs, H', ⟨by first | omega | exact jk _⟩, dr⟩
 case rest =>
  clear HC2
  obtain ⟨kq, x21_1, rfl, HA, HJ1, ⟨mc1, rfl⟩⟩ := hcut
  cases kq with
  | zero => exact jm HA.out (by simp [Z5.j0])
  | succ kj1 =>
   have H := HA.out
   clear HA
   simp only [Z5.j0] at H
   replace H := bo H
   obtain ⟨rfl, H⟩ | ⟨rfl, H⟩ := H
   ·obtain rfl := sj H
    go_wp2
    go_ret
    exact ⟨rs, dr⟩
   have H' := am H
   clear H
   go_wp2
   go_loopg [3] kj1 (fun kq v3 w' => ∃ (x3_2 : Int), v3 = .int .i64 x3_2 /\ Aside0 (Z5.l0 kq a0 x3_2 = some r) /\ Aside0 (kq <= kj1) /\ zT w w')
   case atStart => exact ⟨(0), rs, H', ⟨jk _⟩, dr⟩
   case round =>
    clear H'
    obtain ⟨x3_2, rfl, HA, HK2, ⟨m2, rfl⟩⟩ := hrel
    cases gk with
    | zero => exact jm HA.out (by simp [Z5.l0])
    | succ k2 =>
     have H := HA.out
     clear HA
     simp only [Z5.l0] at H
     obtain ⟨c11b0, H⟩ | ⟨c11b0, H⟩ := ei H
     ·obtain rfl := sj H
      go_wp2
      go_ret
      exact ⟨rs, dr⟩
     obtain ⟨c12b0, H⟩ := pd H
     obtain ⟨t783, A14, H⟩ := be H
     replace H := bo H
     obtain ⟨rfl, H⟩ | ⟨rfl, H⟩ := H
     ·have H' := am H
      clear H
      have p13 : 0 <= (x3_2 : Int) := od
      have q13 : x3_2 < (a0.size : Int) := od
      have hx13 := YH a0 x3_2
      replace p13 := eT p13
      replace q13 := eT q13
      go_wp2_with (first | ((with_reducible refine zz (f := 94) rfl ?_); refine gL (some 31) rfl rfl Tryz.func94 #[.int .u8 (bt a0 x3_2)] rfl ?_; (with_reducible refine (ZP.calls (bt a0 x3_2) true _ A14.out).mono ?_); rintro e w' ⟨rfl, ⟨nd, rfl⟩⟩; refine ⟨_, rfl, ?_⟩))
      go_roundg k2
      case measure => have := HJ1.out; have := HK2.out; omega
      case rel => exact ⟨(wrap64 (x3_2 + 1)), rs, H', ⟨by have := HJ1.out; have := HK2.out; omega⟩, dr⟩
     obtain ⟨t784, A17, H⟩ := be H
     replace H := bo H
     obtain ⟨rfl, H⟩ | ⟨rfl, H⟩ := H
     ·have H' := am H
      clear H
      have p13 : 0 <= (x3_2 : Int) := od
      have q13 : x3_2 < (a0.size : Int) := od
      have hx13 := YH a0 x3_2
      replace p13 := eT p13
      replace q13 := eT q13
      go_wp2_with (first | (go_at_call 94; (with_reducible refine (ZP.calls (bt a0 x3_2) false _ A14.out).mono ?_); rintro e w' ⟨rfl, ⟨nd, rfl⟩⟩; have p16 : 0 <= (x3_2 : Int) := od; have q16 : x3_2 < (a0.size : Int) := od; have hx16 := YH a0 x3_2; replace p16 := eT p16; replace q16 := eT q16) | (go_at_call 96; (with_reducible refine (YO.calls (bt a0 x3_2) true _ A17.out).mono ?_); rintro e w' ⟨rfl, ⟨nd, rfl⟩⟩))
      go_roundg k2
      case measure => have := HJ1.out; have := HK2.out; omega
      case rel => exact ⟨(wrap64 (x3_2 + 1)), rs, H', ⟨by have := HJ1.out; have := HK2.out; omega⟩, dr⟩
     obtain ⟨c20, c20b0, c20b1, H⟩ | ⟨c20b0, c20b1, H⟩ := qi H
     ·obtain rfl := sj H
      have p13 : 0 <= (x3_2 : Int) := od
      have q13 : x3_2 < (a0.size : Int) := od
      have hx13 := YH a0 x3_2
      replace p13 := eT p13
      replace q13 := eT q13
      go_wp2_with (first | (go_at_call 94; (with_reducible refine (ZP.calls (bt a0 x3_2) false _ A14.out).mono ?_); rintro e w' ⟨rfl, ⟨nd, rfl⟩⟩; have p16 : 0 <= (x3_2 : Int) := od; have q16 : x3_2 < (a0.size : Int) := od; have hx16 := YH a0 x3_2; replace p16 := eT p16; replace q16 := eT q16) | (go_at_call 96; (with_reducible refine (YO.calls (bt a0 x3_2) false _ A17.out).mono ?_); rintro e w' ⟨rfl, ⟨nd, rfl⟩⟩; have p19 : 0 <= (x3_2 : Int) := od; have q19 : x3_2 < (a0.size : Int) := od; have hx19 := YH a0 x3_2; replace p19 := eT p19; replace q19 := eT q19))
      go_ret
      exact ⟨rs, dr⟩
     have H' := am H
     clear H
     have p13 : 0 <= (x3_2 : Int) := od
     have q13 : x3_2 < (a0.size : Int) := od
     have hx13 := YH a0 x3_2
     replace p13 := eT p13
     replace q13 := eT q13
     go_wp2_with (first | (go_at_call 94; (with_reducible refine (ZP.calls (bt a0 x3_2) false _ A14.out).mono ?_); rintro e w' ⟨rfl, ⟨nd, rfl⟩⟩; have p16 : 0 <= (x3_2 : Int) := od; have q16 : x3_2 < (a0.size : Int) := od; have hx16 := YH a0 x3_2; replace p16 := eT p16; replace q16 := eT q16) | (go_at_call 96; (with_reducible refine (YO.calls (bt a0 x3_2) false _ A17.out).mono ?_); rintro e w' ⟨rfl, ⟨nd, rfl⟩⟩; have p19 : 0 <= (x3_2 : Int) := od; have q19 : x3_2 < (a0.size : Int) := od; have hx19 := YH a0 x3_2; replace p19 := eT p19; replace q19 := eT q19))
     go_roundg k2
     case measure => have := HJ1.out; have := HK2.out; omega
     case rel => exact ⟨(wrap64 (x3_2 + 1)), rs, H', ⟨by have := HJ1.out; have := HK2.out; omega⟩, dr⟩
mutual
def zK.j0 : Nat -> List (S76) -> Bool -> Option (Bool)
 | 0, _, _ => none
 | k + 1, x1, x20 => if x20 = true then (some false) else (zK.l0 k x1 0 0)
def zK.l0 : Nat -> List (S76) -> Int -> Int -> Option (Bool)
 | 0, _, _, _ => none
 | k + 1, x1, x5, x6 => if x6 < (x1.length : Int) then (if 0 <= x6 then ((Z5.f k ((zp x1 x6).f0)).bind fun t789 => (if t789 = true then (if ((zp x1 x6).f1) < 0 then (some false) else (if ((zp x1 x6).f1) > 47 then (some false) else (if ((zp x1 x6).f2) < 1 then (some false) else (if ((zp x1 x6).f2) > 8 then (some false) else ((ZC.f k x1 ((zp x1 x6).f0)).bind fun t790 => (if t790 = x6 then (zK.l0 k x1 (wrap64 (x5 + ((zp x1 x6).f2))) (wrap64 (x6 + 1))) else (some false))))))) else (some false))) else (none)) else (some (decide (x5 <= 48)))
end
def zK.f (k : Nat) (a0 : Int) (l1 : List (S76)) : Option (Bool) := (yh.f a0).bind fun t786 => (if t786 = true then (if (l1.length : Int) < 1 then (zK.j0 k l1 true) else (zK.j0 k l1 (decide ((l1.length : Int) > 18)))) else (zK.j0 k l1 true))
theorem zK.calls (k : Nat) (a0 : Int) (A1 : Option Addr) (c1 : Nat) (l1 : List (S76)) (r : Bool) (w : World) (hr1 : Kd.C k76 w A1 l1.length l1) (hc1 : l1.length <= c1) (h : zK.f k a0 l1 = some r) :
  Calls Tryz.prog 35 #[.int .i64 a0, .slice A1 l1.length c1] w fun e w' => e = .returned (.bool r) /\ Below w.heap.size w w' := by
 have hu76 := Tryz.underlying76
 have HR1 := am hr1
 have HC1 := am hc1
 clear hr1 hc1
 have HB := am (jc w.heap.size w)
 have H := h
 clear h
 have HC3 := am H
 clear H
 go_enter Tryz.func35, Tryz.ntmps35
 go_upto_region 1 with (fail)
 go_cut [20] (fun v20 wc => ∃ (kq : Nat) (x20_2 : Bool), v20 = .bool x20_2 /\ Aside0 (zK.j0 kq l1 x20_2 = some r) /\ Aside0 (kq <= k) /\ Aside0 (Below w.heap.size w wc))
 case first =>
  have H := HC3.out
  clear HC3
  obtain ⟨t786, A4, H⟩ := be H
  replace H := ob H
  obtain ⟨rfl, H⟩ | ⟨rfl, H⟩ := H
  ·have H' := am H
   clear H
   go_wp2_with (first | ((with_reducible refine zz (f := 63) rfl ?_); refine gL (some 9) rfl rfl Tryz.func63 #[.int .i64 a0] rfl ?_; (with_reducible refine (yh.calls a0 false _ A4.out).mono ?_); rintro e w' ⟨rfl, ⟨nd, rfl⟩⟩; refine ⟨_, rfl, ?_⟩))
   go_meet
   case rel => exact ⟨_, (true), rs, H', ⟨by first | omega | exact jk _⟩, ⟨bb HB⟩⟩
  obtain ⟨c6b0, H⟩ | ⟨c6b0, H⟩ := iE H
  ·have c6 := of_decide_eq_true c6b0
   have c6b1 : decide (l1.length < 1) = true := dT (by omega)
   clear c6
   (first | rw [c6b0] | (simp only [zP, Zr]; rw [c6b0]) | skip)
   have H' := am H
   clear H
   go_wp2_with (first | ((with_reducible refine zz (f := 63) rfl ?_); refine gL (some 9) rfl rfl Tryz.func63 #[.int .i64 a0] rfl ?_; (with_reducible refine (yh.calls a0 true _ A4.out).mono ?_); rintro e w' ⟨rfl, ⟨nd, rfl⟩⟩; refine ⟨_, rfl, ?_⟩))
   go_meet
   case rel => exact ⟨_, (true), rs, H', ⟨by first | omega | exact jk _⟩, ⟨bb HB⟩⟩
  have c6 := of_decide_eq_false c6b0
  have c6b1 : decide (l1.length < 1) = false := dF (by omega)
  clear c6
  (first | rw [c6b0] | (simp only [zP, Zr]; rw [c6b0]) | skip)
  have H' := am H
  clear H
  go_wp2_with (first | ((with_reducible refine zz (f := 63) rfl ?_); refine gL (some 9) rfl rfl Tryz.func63 #[.int .i64 a0] rfl ?_; (with_reducible refine (yh.calls a0 true _ A4.out).mono ?_); rintro e w' ⟨rfl, ⟨nd, rfl⟩⟩; refine ⟨_, rfl, ?_⟩))
  go_meet
  case rel => exact ⟨_, (decide ((l1.length : Int) > 18)), rs, H', ⟨by first | omega | exact jk _⟩, ⟨bb HB⟩⟩
 case rest =>
  clear HC3
  obtain ⟨kq, x20_2, rfl, HA, HJ2, HB⟩ := hcut
  cases kq with
  | zero => exact jm HA.out (by simp [zK.j0])
  | succ kj2 =>
   have H := HA.out
   clear HA
   simp only [zK.j0] at H
   replace H := bo H
   obtain ⟨rfl, H⟩ | ⟨rfl, H⟩ := H
   ·obtain rfl := sj H
    go_wp2
    go_ret
    exact ⟨rr, bb HB⟩
   have H' := am H
   clear H
   go_wp2
   go_loopg [5, 6] kj2 (fun kq v5 v6 w' => ∃ (x5_2 : Int) (x6_2 : Int), v5 = .int .i64 x5_2 /\ v6 = .int .i64 x6_2 /\ Aside0 (zK.l0 kq l1 x5_2 x6_2 = some r) /\ Aside0 (kq <= kj2) /\ Aside0 (Below w.heap.size w w'))
   case atStart => exact ⟨(0), (0), rs, rs, H', ⟨jk _⟩, ⟨bb HB⟩⟩
   case round =>
    clear H'
    obtain ⟨x5_2, x6_2, rfl, rfl, HA, HK2, HB⟩ := hrel
    cases gk with
    | zero => exact jm HA.out (by simp [zK.l0])
    | succ k2 =>
     have H := HA.out
     clear HA
     simp only [zK.l0] at H
     obtain ⟨c8b0, H⟩ | ⟨c8b0, H⟩ := ei H
     ·obtain rfl := sj H
      go_wp2
      go_ret
      exact ⟨rr, bb HB⟩
     obtain ⟨c9b0, H⟩ := pd H
     obtain ⟨t789, A10, H⟩ := be H
     replace H := ob H
     obtain ⟨rfl, H⟩ | ⟨rfl, H⟩ := H
     ·obtain rfl := sj H
      have p787 : 0 <= (x6_2 : Int) := od
      have q787 : x6_2 < (l1.length : Int) := od
      obtain ⟨ad787, e787, hx787_0, hx787_1, hx787_2⟩ := Zs HR1.out x6_2 p787 q787
      cases e787
      replace hx787_0 := zo HB.out hx787_0
      replace hx787_1 := zo HB.out hx787_1
      replace hx787_2 := zo HB.out hx787_2
      replace p787 := eT p787
      replace q787 := eT q787
      go_wp2_with (first | ((with_reducible refine zw (N := 7) rfl ?_); (try (refine zB (by rfl) ?_; dsimp only)); refine bx 7 rfl rfl #[.string (⟨#[]⟩ : ByteArray), .int .i64 0, .int .i64 0] 76 ?_; intro gb788 hg w30 hbox hb; have BK788 := am (hbox); have GE788 := ge HB hg; replace HB := sb HB hb; clear hb hbox hg; have hz31 := cf3 BK788.out) | ((with_reducible refine zz (f := 64) rfl ?_); refine gL (some 33) rfl rfl Tryz.func64 #[.string ((zp l1 x6_2).f0)] rfl ?_; (with_reducible refine (Z5.calls k2 ((zp l1 x6_2).f0) false _ A10.out).mono ?_); rintro e w' ⟨rfl, ⟨nd, rfl⟩⟩; refine ⟨_, rfl, ?_⟩))
      go_ret
      exact ⟨rr, bb HB⟩
     obtain ⟨c12b0, H⟩ | ⟨c12b0, H⟩ := iE H
     ·obtain rfl := sj H
      have p787 : 0 <= (x6_2 : Int) := od
      have q787 : x6_2 < (l1.length : Int) := od
      obtain ⟨ad787, e787, hx787_0, hx787_1, hx787_2⟩ := Zs HR1.out x6_2 p787 q787
      cases e787
      replace hx787_0 := zo HB.out hx787_0
      replace hx787_1 := zo HB.out hx787_1
      replace hx787_2 := zo HB.out hx787_2
      replace p787 := eT p787
      replace q787 := eT q787
      go_wp2_with (first | ((with_reducible refine zw (N := 7) rfl ?_); (try (refine zB (by rfl) ?_; dsimp only)); refine bx 7 rfl rfl #[.string (⟨#[]⟩ : ByteArray), .int .i64 0, .int .i64 0] 76 ?_; intro gb788 hg w13 hbox hb; have BK788 := am (hbox); have GE788 := ge HB hg; replace HB := sb HB hb; clear hb hbox hg; have hz14 := cf3 BK788.out) | ((with_reducible refine zz (f := 64) rfl ?_); refine gL (some 33) rfl rfl Tryz.func64 #[.string ((zp l1 x6_2).f0)] rfl ?_; (with_reducible refine (Z5.calls k2 ((zp l1 x6_2).f0) true _ A10.out).mono ?_); rintro e w' ⟨rfl, ⟨nd, rfl⟩⟩; refine ⟨_, rfl, ?_⟩))
      go_ret
      exact ⟨rr, bb HB⟩
     obtain ⟨c15b0, H⟩ | ⟨c15b0, H⟩ := iE H
     ·obtain rfl := sj H
      have p787 : 0 <= (x6_2 : Int) := od
      have q787 : x6_2 < (l1.length : Int) := od
      obtain ⟨ad787, e787, hx787_0, hx787_1, hx787_2⟩ := Zs HR1.out x6_2 p787 q787
      cases e787
      replace hx787_0 := zo HB.out hx787_0
      replace hx787_1 := zo HB.out hx787_1
      replace hx787_2 := zo HB.out hx787_2
      replace p787 := eT p787
      replace q787 := eT q787
      go_wp2_with (first | ((with_reducible refine zw (N := 7) rfl ?_); (try (refine zB (by rfl) ?_; dsimp only)); refine bx 7 rfl rfl #[.string (⟨#[]⟩ : ByteArray), .int .i64 0, .int .i64 0] 76 ?_; intro gb788 hg w16 hbox hb; have BK788 := am (hbox); have GE788 := ge HB hg; replace HB := sb HB hb; clear hb hbox hg; have hz17 := cf3 BK788.out) | ((with_reducible refine zz (f := 64) rfl ?_); refine gL (some 33) rfl rfl Tryz.func64 #[.string ((zp l1 x6_2).f0)] rfl ?_; (with_reducible refine (Z5.calls k2 ((zp l1 x6_2).f0) true _ A10.out).mono ?_); rintro e w' ⟨rfl, ⟨nd, rfl⟩⟩; refine ⟨_, rfl, ?_⟩))
      go_ret
      exact ⟨rr, bb HB⟩
     obtain ⟨c18b0, H⟩ | ⟨c18b0, H⟩ := iE H
     ·obtain rfl := sj H
      have p787 : 0 <= (x6_2 : Int) := od
      have q787 : x6_2 < (l1.length : Int) := od
      obtain ⟨ad787, e787, hx787_0, hx787_1, hx787_2⟩ := Zs HR1.out x6_2 p787 q787
      cases e787
      replace hx787_0 := zo HB.out hx787_0
      replace hx787_1 := zo HB.out hx787_1
      replace hx787_2 := zo HB.out hx787_2
      replace p787 := eT p787
      replace q787 := eT q787
      go_wp2_with (first | ((with_reducible refine zw (N := 7) rfl ?_); (try (refine zB (by rfl) ?_; dsimp only)); refine bx 7 rfl rfl #[.string (⟨#[]⟩ : ByteArray), .int .i64 0, .int .i64 0] 76 ?_; intro gb788 hg w19 hbox hb; have BK788 := am (hbox); have GE788 := ge HB hg; replace HB := sb HB hb; clear hb hbox hg; have hz20 := cf3 BK788.out) | ((with_reducible refine zz (f := 64) rfl ?_); refine gL (some 33) rfl rfl Tryz.func64 #[.string ((zp l1 x6_2).f0)] rfl ?_; (with_reducible refine (Z5.calls k2 ((zp l1 x6_2).f0) true _ A10.out).mono ?_); rintro e w' ⟨rfl, ⟨nd, rfl⟩⟩; refine ⟨_, rfl, ?_⟩))
      go_ret
      exact ⟨rr, bb HB⟩
     obtain ⟨c21b0, H⟩ | ⟨c21b0, H⟩ := iE H
     ·obtain rfl := sj H
      have p787 : 0 <= (x6_2 : Int) := od
      have q787 : x6_2 < (l1.length : Int) := od
      obtain ⟨ad787, e787, hx787_0, hx787_1, hx787_2⟩ := Zs HR1.out x6_2 p787 q787
      cases e787
      replace hx787_0 := zo HB.out hx787_0
      replace hx787_1 := zo HB.out hx787_1
      replace hx787_2 := zo HB.out hx787_2
      replace p787 := eT p787
      replace q787 := eT q787
      go_wp2_with (first | ((with_reducible refine zw (N := 7) rfl ?_); (try (refine zB (by rfl) ?_; dsimp only)); refine bx 7 rfl rfl #[.string (⟨#[]⟩ : ByteArray), .int .i64 0, .int .i64 0] 76 ?_; intro gb788 hg w22 hbox hb; have BK788 := am (hbox); have GE788 := ge HB hg; replace HB := sb HB hb; clear hb hbox hg; have hz23 := cf3 BK788.out) | ((with_reducible refine zz (f := 64) rfl ?_); refine gL (some 33) rfl rfl Tryz.func64 #[.string ((zp l1 x6_2).f0)] rfl ?_; (with_reducible refine (Z5.calls k2 ((zp l1 x6_2).f0) true _ A10.out).mono ?_); rintro e w' ⟨rfl, ⟨nd, rfl⟩⟩; refine ⟨_, rfl, ?_⟩))
      go_ret
      exact ⟨rr, bb HB⟩
     obtain ⟨t790, A24, H⟩ := be H
     obtain ⟨c25, c25b0, c25b1, H⟩ | ⟨c25b0, c25b1, H⟩ := qi H
     ·obtain rfl := sj H
      have p787 : 0 <= (x6_2 : Int) := od
      have q787 : x6_2 < (l1.length : Int) := od
      obtain ⟨ad787, e787, hx787_0, hx787_1, hx787_2⟩ := Zs HR1.out x6_2 p787 q787
      cases e787
      replace hx787_0 := zo HB.out hx787_0
      replace hx787_1 := zo HB.out hx787_1
      replace hx787_2 := zo HB.out hx787_2
      replace p787 := eT p787
      replace q787 := eT q787
      go_wp2_with (first | ((with_reducible refine zw (N := 7) rfl ?_); (try (refine zB (by rfl) ?_; dsimp only)); refine bx 7 rfl rfl #[.string (⟨#[]⟩ : ByteArray), .int .i64 0, .int .i64 0] 76 ?_; intro gb788 hg w28 hbox hb; have BK788 := am (hbox); have GE788 := ge HB hg; replace HB := sb HB hb; clear hb hbox hg; have hz29 := cf3 BK788.out) | ((with_reducible refine zz (f := 64) rfl ?_); refine gL (some 33) rfl rfl Tryz.func64 #[.string ((zp l1 x6_2).f0)] rfl ?_; (with_reducible refine (Z5.calls k2 ((zp l1 x6_2).f0) true _ A10.out).mono ?_); rintro e w' ⟨rfl, ⟨nd, rfl⟩⟩; refine ⟨_, rfl, ?_⟩) | (go_at_call 65; (with_reducible refine (ZC.calls k2 _ _ l1 ((zp l1 x6_2).f0) t790 _ (ji HR1.out (bb HB)) HC1.out A24.out).mono ?_); rintro e w' ⟨rfl, ⟨nd, rfl⟩⟩))
      go_ret
      exact ⟨rr, bb HB⟩
     have H' := am H
     clear H
     have p787 : 0 <= (x6_2 : Int) := od
     have q787 : x6_2 < (l1.length : Int) := od
     obtain ⟨ad787, e787, hx787_0, hx787_1, hx787_2⟩ := Zs HR1.out x6_2 p787 q787
     cases e787
     replace hx787_0 := zo HB.out hx787_0
     replace hx787_1 := zo HB.out hx787_1
     replace hx787_2 := zo HB.out hx787_2
     replace p787 := eT p787
     replace q787 := eT q787
     go_wp2_with (first | ((with_reducible refine zw (N := 7) rfl ?_); (try (refine zB (by rfl) ?_; dsimp only)); refine bx 7 rfl rfl #[.string (⟨#[]⟩ : ByteArray), .int .i64 0, .int .i64 0] 76 ?_; intro gb788 hg w26 hbox hb; have BK788 := am (hbox); have GE788 := ge HB hg; replace HB := sb HB hb; clear hb hbox hg; have hz27 := cf3 BK788.out) | ((with_reducible refine zz (f := 64) rfl ?_); refine gL (some 33) rfl rfl Tryz.func64 #[.string ((zp l1 x6_2).f0)] rfl ?_; (with_reducible refine (Z5.calls k2 ((zp l1 x6_2).f0) true _ A10.out).mono ?_); rintro e w' ⟨rfl, ⟨nd, rfl⟩⟩; refine ⟨_, rfl, ?_⟩) | (go_at_call 65; (with_reducible refine (ZC.calls k2 _ _ l1 ((zp l1 x6_2).f0) t790 _ (ji HR1.out (bb HB)) HC1.out A24.out).mono ?_); rintro e w' ⟨rfl, ⟨nd, rfl⟩⟩))
     go_roundg k2
     case measure => have := HJ2.out; have := HK2.out; omega
     case rel => exact ⟨(wrap64 (x5_2 + ((zp l1 x6_2).f2))), (wrap64 (x6_2 + 1)), rs, rs, H', ⟨by have := HJ2.out; have := HK2.out; omega⟩, ⟨bb HB⟩⟩
def z1p (s : ByteArray) : Bool := (Ys.f s).getD true
theorem z53 (s : ByteArray) : Ys.f s = some (z1p s) := by
 unfold z1p Ys.f
 repeat' split
 all_goals rfl
theorem nest11 (p1 p2 p3 p4 p5 p6 p7 p8 p9 p10 p11 : Prop) [Decidable p1] [Decidable p2] [Decidable p3] [Decidable p4] [Decidable p5] [Decidable p6] [Decidable p7] [Decidable p8] [Decidable p9] [Decidable p10] [Decidable p11] : (if p1 then some false else (if p2 then some false else (if p3 then some false else (if p4 then some false else (if p5 then some false else (if p6 then some false else (if p7 then some false else (if p8 then some false else (if p9 then some false else (if p10 then some false else (if p11 then some false else (some true)))))))))))) = some (!((if p1 then some true else (if p2 then some true else (if p3 then some true else (if p4 then some true else (if p5 then some true else (if p6 then some true else (if p7 then some true else (if p8 then some true else (if p9 then some true else (if p10 then some true else (if p11 then some true else (some false)))))))))))).getD true)) := by
 by_cases h1 : p1
 ·simp [h1]
 by_cases h2 : p2
 ·simp [h1, h2]
 by_cases h3 : p3
 ·simp [h1, h2, h3]
 by_cases h4 : p4
 ·simp [h1, h2, h3, h4]
 by_cases h5 : p5
 ·simp [h1, h2, h3, h4, h5]
 by_cases h6 : p6
 ·simp [h1, h2, h3, h4, h5, h6]
 by_cases h7 : p7
 ·simp [h1, h2, h3, h4, h5, h6, h7]
 by_cases h8 : p8
 ·simp [h1, h2, h3, h4, h5, h6, h7, h8]
 by_cases h9 : p9
 ·simp [h1, h2, h3, h4, h5, h6, h7, h8, h9]
 by_cases h10 : p10
 ·simp [h1, h2, h3, h4, h5, h6, h7, h8, h9, h10]
 by_cases h11 : p11
 ·simp [h1, h2, h3, h4, h5, h6, h7, h8, h9, h10, h11]
 simp [h1, h2, h3, h4, h5, h6, h7, h8, h9, h10, h11]
def chOK (c : Int) : Bool := decide (97 <= c /\ c <= 122) || (decide (48 <= c /\ c <= 57) || decide (c = 95))
def z1i (s : ByteArray) : Nat -> Nat -> Bool
 | _, 0 => true
 | i, j + 1 => chOK (bt s (i : Int)) && z1i s (i + 1) j
theorem z6u (c : Int) : yG.f c = some (chOK c) := by
 have e : (c == 95) = decide (c = 95) := by rw [Bool.eq_iff_iff, beq_iff_eq, decide_eq_true_iff]
 unfold yG.f chOK
 rw [e]
 by_cases h1 : c >= 97
 ·by_cases h2 : c <= 122
  ·have : (97 <= c /\ c <= 122) := ⟨h1, h2⟩
   simp [h1, h2]
  ·have a1 : ¬ c <= 57 := by omega
   have a2 : c >= 48 := by omega
   simp [h1, h2, a1, a2]
 ·by_cases h3 : c >= 48
  ·by_cases h4 : c <= 57
   ·simp [h1, h3, h4]
   ·simp [h1, h3, h4]
  ·simp [h1, h3]
theorem z2l (s : ByteArray) (hs : s.size <= 12) : ∀ j i : Nat, i + j = s.size -> zc (fun k => zF.l0 k s (i : Int)) (z1i s i j && !z1p s)
 | 0, i, h => by
  refine zc.succ ?_
  have hn : ¬ (i : Int) < (s.size : Int) := by omega
  simp only [zF.l0, hn, if_false, z1i, Bool.true_and]
  refine ⟨0, fun k _ => ?_⟩
  unfold z1p Ys.f
  exact nest11 _ _ _ _ _ _ _ _ _ _ _
 | j + 1, i, h => by
  refine zc.succ ?_
  have hn : (i : Int) < (s.size : Int) := by omega
  have h0 : (0 : Int) <= (i : Int) := Int.natCast_nonneg _
  simp only [zF.l0, hn, h0, if_true, z1i, z6u, jv]
  rw [w64 (n := (i : Int) + 1) (by omega) (by omega), Bool.and_assoc]
  exact zc.ifB (z2l s hs j (i + 1) (by omega))
theorem z3L (s : ByteArray) (hs : s.size <= 12) : ∀ j i : Nat, i + j = s.size -> zc (fun k => Z5.l0 k s (i : Int)) (z1i s i j)
 | 0, i, h => by
  refine zc.succ ?_
  have hn : ¬ (i : Int) < (s.size : Int) := by omega
  simp only [Z5.l0, hn, if_false, z1i]
  exact zc.pure _
 | j + 1, i, h => by
  refine zc.succ ?_
  have hn : (i : Int) < (s.size : Int) := by omega
  have h0 : (0 : Int) <= (i : Int) := Int.natCast_nonneg _
  have ih := z3L s hs j (i + 1) (by omega)
  simp only [Z5.l0, hn, h0, if_true, z1i, ZP.f, YO.f]
  rw [w64 (n := (i : Int) + 1) (by omega) (by omega)]
  have ih' : zc (fun k => Z5.l0 k s ((i : Int) + 1)) (z1i s (i + 1) j) := ih
  generalize bt s (i : Int) = c
  unfold chOK
  by_cases h1 : c >= 97
  ·by_cases h2 : c <= 122
   ·have e : decide (97 <= c /\ c <= 122) = true := dT ⟨h1, h2⟩
    simp only [h1, h2, if_true, decide_true, jv, Bool.true_or, Bool.true_and, and_self]
    exact ih'
   ·have a1 : ¬ c <= 57 := by omega
    have a2 : c >= 48 := by omega
    have a3 : ¬ c = 95 := by omega
    simp [h1, h2, a1, a2, a3]
    exact zc.pure _
  ·by_cases h3 : c >= 48
   ·by_cases h4 : c <= 57
    ·simp [h1, h3, h4]
     exact ih'
    ·by_cases h5 : c = 95
     ·subst h5
      simp
      exact ih'
     ·simp [h1, h3, h4, h5]
      exact zc.pure _
   ·have h5 : ¬ c = 95 := by omega
    simp [h1, h3, h5]
    exact zc.pure _
def z1r (s : ByteArray) : Bool := decide (1 <= s.size /\ s.size <= 12) && (decide (97 <= bt s 0 /\ bt s 0 <= 122) && (z1i s 0 s.size && !z1p s))
theorem z3H (s : ByteArray) : s.toList = ([] : List UInt8) ↔ s.size = 0 := by
 rw [ByteArray.toList_eq]
 constructor
 ·intro h
  have := congrArg List.length h
  simpa using this
 ·intro h
  have : s.data.toList.length = 0 := by simpa using h
  exact List.length_eq_zero_iff.1 this
theorem z43 (s : ByteArray) : zc (fun k => zF.f k s) (z1r s) := by
 have j0 : ∀ b : Bool, s.size <= 12 -> zc (fun k => zF.j0 k s b) (!b && (z1i s 0 s.size && !z1p s)) := by
  intro b hs
  refine zc.succ ?_
  simp only [zF.j0]
  cases b
  ·exact z2l s hs s.size 0 (by omega)
  ·exact zc.pure false
 have jt : zc (fun k => zF.j0 k s true) false := by
  refine zc.succ ?_
  simp only [zF.j0]
  exact zc.pure false
 unfold zF.f z1r
 by_cases h0 : s.size = 0
 ·rw [decide_eq_false (p := 1 <= s.size /\ s.size <= 12) (by omega), jx]
  exact zc.ifT ((z3H s).2 h0) jt
 ·refine zc.ifF (fun h => h0 ((z3H s).1 h)) ?_
  by_cases h12 : (s.size : Int) > 12
  ·rw [decide_eq_false (p := 1 <= s.size /\ s.size <= 12) (by omega), jx]
   exact zc.ifT h12 jt
  ·rw [decide_eq_true (p := 1 <= s.size /\ s.size <= 12) (by omega), Bool.true_and]
   refine zc.ifF h12 (zc.ifT (by omega) ?_)
   by_cases h97 : bt s 0 < 97
   ·rw [decide_eq_false (p := 97 <= bt s 0 /\ bt s 0 <= 122) (by omega), jx]
    exact zc.ifT h97 jt
   ·refine zc.ifF h97 ?_
    have := j0 (decide (bt s 0 > 122)) (by omega)
    have e : (!decide (bt s 0 > 122)) = decide (97 <= bt s 0 /\ bt s 0 <= 122) := by
     rw [<- decide_not]
     exact decide_eq_decide.2 (by omega)
    rw [e] at this
    exact this
theorem z5u (s : ByteArray) : zc (fun k => Z5.f k s) (z1r s) := by
 have jt : zc (fun k => Z5.j0 k s true) false := by
  refine zc.succ ?_
  simp only [Z5.j0]
  exact zc.pure false
 unfold Z5.f z1r
 by_cases h0 : (s.size : Int) < 1
 ·rw [decide_eq_false (p := 1 <= s.size /\ s.size <= 12) (by omega), jx]
  exact zc.ifT h0 jt
 ·refine zc.ifF h0 ?_
  by_cases h12 : (s.size : Int) > 12
  ·rw [decide_eq_false (p := 1 <= s.size /\ s.size <= 12) (by omega), jx]
   exact zc.ifT h12 jt
  ·rw [decide_eq_true (p := 1 <= s.size /\ s.size <= 12) (by omega), Bool.true_and]
   refine zc.ifF h12 (zc.ifT (by omega) ?_)
   have hl : ZP.f (bt s 0) = some (decide (97 <= bt s 0 /\ bt s 0 <= 122)) := by
    unfold ZP.f
    by_cases h : bt s 0 >= 97
    ·rw [jb h]; congr 1; exact decide_eq_decide.2 (by omega)
    ·rw [ja h]; congr 1; exact (dF (by omega)).symm
   rw [hl]
   refine zc.bind (zc.pure _) ?_
   by_cases hd : (97 <= bt s 0 /\ bt s 0 <= 122)
   ·rw [decide_eq_true hd, Bool.true_and]
    simp only [if_true]
    rw [z53]
    refine zc.bind (zc.pure _) (zc.succ ?_)
    simp only [Z5.j0]
    cases z1p s
    ·simp only [Bool.false_eq_true, if_false, Bool.not_false, Bool.and_true]
     exact z3L s (by omega) s.size 0 (by omega)
    ·simp only [if_true, Bool.not_true, Bool.and_false]
     exact zc.pure _
   ·rw [decide_eq_false hd, jx]
    exact jt
def z4h (v : S76) : Bool := z1r v.f0 && (decide (0 <= v.f1 /\ v.f1 <= 47) && decide (1 <= v.f2 /\ v.f2 <= 8))
def z0X (pre : List S76) (s : ByteArray) : Bool := pre.any fun u => decide (u.f0.toList = s.toList)
def hOK : List S76 -> List S76 -> Int -> Bool
 | _, [], sum => decide (sum <= 48)
 | pre, v :: r, sum => z4h v && (!(z0X pre v.f0) && hOK (pre ++ [v]) r (sum + v.f2))
def hIs (w : Int) (vars : List S76) : Bool := decide (1 <= w /\ w <= 8) && (decide (1 <= vars.length /\ vars.length <= 18) && hOK [] vars 0)
theorem z6r (ns : List ByteArray) (s : ByteArray) : met ns s = ns.any fun n => decide (n.toList = s.toList) := by
 unfold met
 congr 1
 funext n
 rw [ByteArray.toList_eq, ByteArray.toList_eq, Bool.eq_iff_iff, beq_iff_eq, decide_eq_true_iff]
theorem z4c (vars : List S76) (hv : vars.length <= 18) : ∀ (suf pre : List S76) (ns : List ByteArray) (sum : Int), vars = pre ++ suf -> (∀ s, met ns s = z0X pre s) -> 0 <= sum -> sum <= 8 * pre.length ->
  zc (fun k => zH.l0 k ns sum vars (pre.length : Int)) (z4z (hOK pre suf sum) 1) := by
 intro suf
 induction suf with
 | nil =>
  intro pre ns sum hvs hm h0 h8
  refine zc.succ ?_
  subst hvs
  simp only [zH.l0, ZL, if_false, hOK]
  by_cases h : sum <= 48
  ·have : ¬ sum > 48 := by omega
   simp only [h, this, if_false, decide_true, if_true]
   exact zc.pure _
  ·have : sum > 48 := by omega
   simp only [h, this, if_true, decide_false]
   exact zc.pure _
 | cons v r ih =>
  intro pre ns sum hvs hm h0 h8
  refine zc.succ ?_
  have hl : pre.length + 1 + r.length <= 18 := by
   rw [hvs, je, jp] at hv
   omega
  have h2 := ih (pre ++ [v]) (v.f0 :: ns) (sum + v.f2) (by rw [hvs, zQ])
  subst hvs
  simp only [zH.l0, Zo, Z6, if_true, YJ, hOK]
  refine zc.bind (z43 v.f0) ?_
  unfold z4h
  cases hn : z1r v.f0
  ·simp only [Bool.false_eq_true, if_false, jx]
   exact zc.pure _
  ·simp only [if_true, Bool.true_and]
   rw [hm]
   cases hmt : z0X pre v.f0
   ·simp only [Bool.false_eq_true, if_false, Bool.not_false, Bool.true_and]
    by_cases a1 : v.f1 < 0
    ·rw [decide_eq_false (p := 0 <= v.f1 /\ v.f1 <= 47) (by omega), jx, jx]
     exact zc.ifT a1 (zc.pure _)
    ·refine zc.ifF a1 ?_
     by_cases a2 : v.f1 > 47
     ·rw [decide_eq_false (p := 0 <= v.f1 /\ v.f1 <= 47) (by omega), jx, jx]
      exact zc.ifT a2 (zc.pure _)
     ·refine zc.ifF a2 ?_
      rw [decide_eq_true (p := 0 <= v.f1 /\ v.f1 <= 47) (by omega), Bool.true_and]
      by_cases a3 : v.f2 < 1
      ·rw [decide_eq_false (p := 1 <= v.f2 /\ v.f2 <= 8) (by omega), jx]
       exact zc.ifT a3 (zc.pure _)
      ·refine zc.ifF a3 ?_
       by_cases a4 : v.f2 > 8
       ·rw [decide_eq_false (p := 1 <= v.f2 /\ v.f2 <= 8) (by omega), jx]
        exact zc.ifT a4 (zc.pure _)
       ·refine zc.ifF a4 ?_
        rw [decide_eq_true (p := 1 <= v.f2 /\ v.f2 <= 8) (by omega), Bool.true_and, w64 (n := sum + v.f2) (by omega) (by omega), Zi pre v r (by rw [je, jp]; omega)]
        refine h2 (fun s => ?_) (by omega) (by rw [je, List.length_singleton]; omega)
        have := hm s
        rw [z6r] at this ⊢
        unfold z0X at this ⊢
        rw [List.any_cons, List.any_append, this, Bool.or_comm]
        simp only [List.any_cons, List.any_nil, Bool.or_false]
   ·simp only [if_true, Bool.not_true, jx, Bool.and_false, Bool.false_eq_true, if_false]
    exact zc.pure _
theorem z3q (w : Int) (vars : List S76) : zc (fun k => zH.f k w vars) (z4z (hIs w vars) 1) := by
 unfold zH.f hIs
 by_cases a1 : w < 1
 ·rw [decide_eq_false (p := 1 <= w /\ w <= 8) (by omega), jx]
  exact zc.ifT a1 (zc.pure _)
 refine zc.ifF a1 ?_
 by_cases a2 : w > 8
 ·rw [decide_eq_false (p := 1 <= w /\ w <= 8) (by omega), jx]
  exact zc.ifT a2 (zc.pure _)
 refine zc.ifF a2 ?_
 rw [decide_eq_true (p := 1 <= w /\ w <= 8) (by omega), Bool.true_and]
 by_cases a3 : (vars.length : Int) < 1
 ·rw [decide_eq_false (p := 1 <= vars.length /\ vars.length <= 18) (by omega), jx]
  exact zc.ifT a3 (zc.pure _)
 refine zc.ifF a3 ?_
 by_cases a4 : (vars.length : Int) > 18
 ·rw [decide_eq_false (p := 1 <= vars.length /\ vars.length <= 18) (by omega), jx]
  exact zc.ifT a4 (zc.pure _)
 refine zc.ifF a4 ?_
 rw [decide_eq_true (p := 1 <= vars.length /\ vars.length <= 18) (by omega), Bool.true_and]
 exact z4c vars (by omega) vars [] [] 0 rfl (fun s => rfl) (by decide) (by simp)
theorem z6K (name : ByteArray) (tail : List S76) : ∀ (mid pre : List S76), (pre ++ (mid ++ tail)).length <= 18 -> ∃ t, zc (fun k => ZC.l0 k (pre ++ (mid ++ tail)) name (pre.length : Int)) t /\
  ((∃ v r, tail = v :: r /\ v.f0 = name) -> (t = ((pre.length + mid.length : Nat) : Int) ↔ z0X mid name = false)) := by
 intro mid
 induction mid with
 | nil =>
  intro pre hl
  cases tail with
  | nil =>
   refine ⟨-1, zc.succ ?_, fun ⟨_, _, h, _⟩ => by cases h⟩
   simp only [ZC.l0, List.append_nil, Int.lt_irrefl, if_false]
   exact zc.pure _
  | cons v r =>
   by_cases he : v.f0.toList = name.toList
   ·refine ⟨(pre.length : Int), zc.succ ?_, fun _ => ?_⟩
    ·simp only [ZC.l0, List.nil_append, Zo, Z6, if_true, YJ, he]
     exact zc.pure _
    ·simp only [List.length_nil, Nat.add_zero, true_iff]
     rfl
   ·have hl' : (pre ++ v :: r).length <= 18 := hl
    rw [je, jp] at hl'
    have go : ∀ (suf p1 : List S76), (p1 ++ suf).length <= 18 -> ∃ t, zc (fun k => ZC.l0 k (p1 ++ suf) name (p1.length : Int)) t := by
     intro suf
     induction suf with
     | nil =>
      intro p1 _
      refine ⟨-1, zc.succ ?_⟩
      simp only [ZC.l0, ZL, if_false]
      exact zc.pure _
     | cons u q ihq =>
      intro p1 hp
      by_cases hu : u.f0.toList = name.toList
      ·refine ⟨(p1.length : Int), zc.succ ?_⟩
       simp only [ZC.l0, Zo, Z6, if_true, YJ, hu]
       exact zc.pure _
      ·obtain ⟨t, ht⟩ := ihq (p1 ++ [u]) (by rw [<- zQ]; exact hp)
       refine ⟨t, zc.succ ?_⟩
       simp only [ZC.l0, Zo, Z6, if_true, YJ, hu, if_false]
       rw [Zi p1 u q (by omega)]
       rw [<- zQ] at ht
       exact ht
    obtain ⟨t, ht⟩ := go (v :: r) pre hl
    exact ⟨t, ht, fun ⟨v', r', e, hv⟩ => by injection e with e1 e2; subst e1; rw [hv] at he; exact jm rfl he⟩
 | cons u q ih =>
  intro pre hl
  have hl' : (pre ++ u :: (q ++ tail)).length <= 18 := hl
  by_cases hu : u.f0.toList = name.toList
  ·refine ⟨(pre.length : Int), zc.succ ?_, fun _ => ?_⟩
   ·simp only [ZC.l0, List.cons_append, Zo, Z6, if_true, YJ, hu]
    exact zc.pure _
   ·have : z0X (u :: q) name = true := by unfold z0X; rw [List.any_cons, decide_eq_true hu, Bool.true_or]
    rw [this]
    simp only [jp, Bool.true_eq_false, iff_false]
    omega
  ·obtain ⟨t, ht, hq⟩ := ih (pre ++ [u]) (by rw [<- zQ]; exact hl')
   refine ⟨t, zc.succ ?_, fun h => ?_⟩
   ·simp only [ZC.l0, List.cons_append, Zo, Z6, if_true, YJ, hu, if_false]
    rw [Zi pre u (q ++ tail) (by omega)]
    rw [<- zQ] at ht
    exact ht
   ·have := hq h
    have e : z0X (u :: q) name = z0X q name := by unfold z0X; rw [List.any_cons, decide_eq_false hu, Bool.false_or]
    rw [e, <- this, je, List.length_singleton, jp]
    constructor <;> intro h <;> omega
theorem z3p (vars : List S76) (hv : vars.length <= 18) : ∀ (suf pre : List S76) (sum : Int), vars = pre ++ suf -> 0 <= sum -> sum <= 8 * pre.length ->
  zc (fun k => zK.l0 k vars sum (pre.length : Int)) (hOK pre suf sum) := by
 intro suf
 induction suf with
 | nil =>
  intro pre sum hvs h0 h8
  refine zc.succ ?_
  subst hvs
  simp only [zK.l0, ZL, if_false, hOK]
  exact zc.pure _
 | cons v r ih =>
  intro pre sum hvs h0 h8
  refine zc.succ ?_
  have hl : pre.length + 1 + r.length <= 18 := by
   rw [hvs, je, jp] at hv
   omega
  have h2 := ih (pre ++ [v]) (sum + v.f2) (by rw [hvs, zQ])
  obtain ⟨t, ht, hq⟩ := z6K v.f0 (v :: r) pre [] (by rw [List.nil_append, <- hvs]; exact hv)
  have hq' := hq ⟨v, r, rfl, rfl⟩
  rw [List.nil_append, <- hvs] at ht
  subst hvs
  simp only [zK.l0, Zo, Z6, if_true, YJ, hOK]
  refine zc.bind (z5u v.f0) ?_
  unfold z4h
  cases hn : z1r v.f0
  ·simp only [Bool.false_eq_true, if_false, jx]
   exact zc.pure _
  ·simp only [if_true, Bool.true_and]
   by_cases a1 : v.f1 < 0
   ·rw [decide_eq_false (p := 0 <= v.f1 /\ v.f1 <= 47) (by omega), jx, jx]
    exact zc.ifT a1 (zc.pure _)
   ·refine zc.ifF a1 ?_
    by_cases a2 : v.f1 > 47
    ·rw [decide_eq_false (p := 0 <= v.f1 /\ v.f1 <= 47) (by omega), jx, jx]
     exact zc.ifT a2 (zc.pure _)
    ·refine zc.ifF a2 ?_
     rw [decide_eq_true (p := 0 <= v.f1 /\ v.f1 <= 47) (by omega), Bool.true_and]
     by_cases a3 : v.f2 < 1
     ·rw [decide_eq_false (p := 1 <= v.f2 /\ v.f2 <= 8) (by omega), jx]
      exact zc.ifT a3 (zc.pure _)
     ·refine zc.ifF a3 ?_
      by_cases a4 : v.f2 > 8
      ·rw [decide_eq_false (p := 1 <= v.f2 /\ v.f2 <= 8) (by omega), jx]
       exact zc.ifT a4 (zc.pure _)
      ·refine zc.ifF a4 ?_
       rw [decide_eq_true (p := 1 <= v.f2 /\ v.f2 <= 8) (by omega), Bool.true_and]
       refine zc.bind (g := fun k => ZC.f k (pre ++ v :: r) v.f0) ht ?_
       by_cases hm : z0X pre v.f0 = false
       ·rw [hm, Bool.not_false, Bool.true_and]
        have : t = (pre.length : Int) := by rw [hq'.2 hm]; simp
        refine zc.ifT this ?_
        rw [w64 (n := sum + v.f2) (by omega) (by omega), Zi pre v r (by rw [je, jp]; omega)]
        exact h2 (by omega) (by rw [je, List.length_singleton]; omega)
       ·rw [Bool.not_eq_false] at hm
        rw [hm, Bool.not_true, jx]
        refine zc.ifF (fun e => ?_) (zc.pure _)
        have := hq'.1 (by rw [e]; simp)
        rw [hm] at this
        cases this
theorem z14 (w : Int) (vars : List S76) : zc (fun k => zK.f k w vars) (hIs w vars) := by
 have jt : zc (fun k => zK.j0 k vars true) false := by
  refine zc.succ ?_
  simp only [zK.j0]
  exact zc.pure false
 unfold zK.f hIs
 have hw : yh.f w = some (decide (1 <= w /\ w <= 8)) := by
  unfold yh.f
  by_cases h : w >= 1
  ·rw [jb h]; congr 1; exact decide_eq_decide.2 (by omega)
  ·rw [ja h]; congr 1; exact (dF (by omega)).symm
 rw [hw]
 refine zc.bind (zc.pure _) ?_
 by_cases a1 : (1 <= w /\ w <= 8)
 ·rw [decide_eq_true a1, Bool.true_and]
  simp only [if_true]
  by_cases a3 : (vars.length : Int) < 1
  ·rw [decide_eq_false (p := 1 <= vars.length /\ vars.length <= 18) (by omega), jx]
   exact zc.ifT a3 jt
  refine zc.ifF a3 (zc.succ ?_)
  simp only [zK.j0]
  by_cases a4 : (vars.length : Int) > 18
  ·rw [decide_eq_false (p := 1 <= vars.length /\ vars.length <= 18) (by omega), jx]
   exact zc.ifT (dT a4) (zc.pure _)
  rw [decide_eq_true (p := 1 <= vars.length /\ vars.length <= 18) (by omega), Bool.true_and]
  exact zc.ifF (by rw [decide_eq_true_eq]; exact a4) (z3p vars (by omega) vars [] 0 rfl (by decide) (by simp))
 ·rw [decide_eq_false a1, jx]
  exact jt
theorem z5Z : ∀ (suf pre : List S76) (sum : Int), hOK pre suf sum = true -> (∀ v ∈ suf, z4h v = true) /\ sum + (suf.map (·.f2)).sum <= 48
 | [], pre, sum, h => ⟨fun v hv => jm hv (by simp), by simp only [hOK, decide_eq_true_eq] at h; simpa using h⟩
 | u :: r, pre, sum, h => by
  simp only [hOK, jg] at h
  obtain ⟨h1, h2⟩ := z5Z r _ _ h.2.2
  refine ⟨fun v hv => ?_, ?_⟩
  ·rcases List.mem_cons.1 hv with rfl | hv
   ·exact h.1
   ·exact h1 v hv
  ·rw [List.map_cons, List.sum_cons]
   omega
theorem z44 {w : Int} {vars : List S76} (h : hIs w vars = true) : 1 <= w /\ w <= 8 /\ 1 <= vars.length /\ vars.length <= 18 /\ (∀ v ∈ vars, 0 <= v.f1 /\ v.f1 <= 47 /\ 1 <= v.f2 /\ v.f2 <= 8) /\ (vars.map (·.f2)).sum <= 48 := by
 unfold hIs at h
 simp only [jg, decide_eq_true_eq] at h
 obtain ⟨a, b, c⟩ := h
 obtain ⟨d, e⟩ := z5Z vars [] 0 c
 refine ⟨a.1, a.2, b.1, b.2, fun v hv => ?_, by omega⟩
 have := d v hv
 unfold z4h at this
 simp only [jg, decide_eq_true_eq] at this
 omega
mutual
def zD.j0 : Nat -> Int -> Bool -> Int -> List (S76) -> List (S81) -> Int -> Int -> List (S62) -> List (S81) -> List (S81) -> Option (Int)
 | 0, _, _, _, _, _, _, _, _, _, _ => none
 | k + 1, x5, x17, x115000, x115001, x115002, x116000, x116001, x116002, x116003, x116004 => if x17 = true then (if 0 <= x116001 then (if x116001 < (x115001.length : Int) then (zD.j1 k ((zp x115001 x116001).f2) x116000 x116001 x116002 x116003 x116004) else (none)) else (none)) else (zD.j1 k x5 x116000 x116001 x116002 x116003 x116004)
def zD.j1 : Nat -> Int -> Int -> Int -> List (S62) -> List (S81) -> List (S81) -> Option (Int)
 | 0, _, _, _, _, _, _ => none
 | k + 1, x5, x116000, x116001, x116002, x116003, x116004 => if x116000 = 0 then (zD.j2 k x5 x116000 (x116000 == 0) x116000 x116001 x116002 x116003 x116004) else (zD.j2 k x5 x116000 (x116000 == 4) x116000 x116001 x116002 x116003 x116004)
def zD.j2 : Nat -> Int -> Int -> Bool -> Int -> Int -> List (S62) -> List (S81) -> List (S81) -> Option (Int)
 | 0, _, _, _, _, _, _, _, _ => none
 | k + 1, x5, x26, x27, x116000, x116001, x116002, x116003, x116004 => if x27 = true then (if x116000 = 0 then (zD.j3 k x5 1) else (zD.j3 k x5 0)) else (if x26 = 3 then (if x116001 < 0 then (some (-1)) else (if x116001 > 47 then (some (-1)) else (some 1))) else (if x26 = 1 then (zD.j4 k (x26 == 1) x116000 x116001 x116002 x116003 x116004) else (if x26 = 2 then (zD.j4 k (x26 == 2) x116000 x116001 x116002 x116003 x116004) else (if x26 = 5 then (zD.j4 k (x26 == 5) x116000 x116001 x116002 x116003 x116004) else (zD.j4 k (x26 == 6) x116000 x116001 x116002 x116003 x116004)))))
def zD.j3 : Nat -> Int -> Int -> Option (Int)
 | 0, _, _ => none
 | k + 1, x5, x6 => if x5 = 0 then (some (-1)) else (if x5 > 1 then (some (wrap64 (x6 + 1))) else (some x6))
def zD.j4 : Nat -> Bool -> Int -> Int -> List (S62) -> List (S81) -> List (S81) -> Option (Int)
 | 0, _, _, _, _, _, _ => none
 | k + 1, x52, x116000, x116001, x116002, x116003, x116004 => if x52 = true then (if x116001 = 0 then (some 1) else (some (-1))) else (some (-1))
end
def zD.f (k : Nat) (a0_0 : Int) (l0_1 : List (S76)) (l0_2 : List (S81)) (a1_0 : Int) (a1_1 : Int) (l1_2 : List (S62)) (l1_3 : List (S81)) (l1_4 : List (S81)) : Option (Int) := if a1_1 >= 0 then (zD.j0 k 0 (decide (a1_1 < (l0_1.length : Int))) a0_0 l0_1 l0_2 a1_0 a1_1 l1_2 l1_3 l1_4) else (zD.j0 k 0 false a0_0 l0_1 l0_2 a1_0 a1_1 l1_2 l1_3 l1_4)
theorem zD.calls (k : Nat) (a0_0 : Int) (A0_1 : Option Addr) (c0_1 : Nat) (l0_1 : List (S76)) (A0_2 : Option Addr) (c0_2 : Nat) (l0_2 : List (S81)) (a1_0 : Int) (a1_1 : Int) (A1_2 : Option Addr) (c1_2 : Nat) (l1_2 : List (S62)) (A1_3 : Option Addr) (c1_3 : Nat) (l1_3 : List (S81)) (A1_4 : Option Addr) (c1_4 : Nat) (l1_4 : List (S81)) (r : Int) (w : World) (hr0_1 : Kd.C k76 w A0_1 l0_1.length l0_1) (hc0_1 : l0_1.length <= c0_1) (hr0_2 : Kd.C k81 w A0_2 l0_2.length l0_2) (hc0_2 : l0_2.length <= c0_2) (hr1_2 : Kd.C k62 w A1_2 l1_2.length l1_2) (hc1_2 : l1_2.length <= c1_2) (hr1_3 : Kd.C k81 w A1_3 l1_3.length l1_3) (hc1_3 : l1_3.length <= c1_3) (hr1_4 : Kd.C k81 w A1_4 l1_4.length l1_4) (hc1_4 : l1_4.length <= c1_4) (h : zD.f k a0_0 l0_1 l0_2 a1_0 a1_1 l1_2 l1_3 l1_4 = some r) :
  Calls Tryz.prog 124 #[.agg (Vf a0_0 A0_1 l0_1 c0_1 A0_2 l0_2 c0_2), .agg (Vh a1_0 a1_1 A1_2 l1_2 c1_2 A1_3 l1_3 c1_3 A1_4 l1_4 c1_4)] w fun e w' => e = .returned (.int .i64 r) /\ Below w.heap.size w w' := by
 have hu25 := Tryz.underlying25
 have hu81 := Tryz.underlying81
 have HR0_1 := am hr0_1
 have HC0_1 := am hc0_1
 clear hr0_1 hc0_1
 have HR0_2 := am hr0_2
 have HC0_2 := am hc0_2
 clear hr0_2 hc0_2
 have HR1_2 := am hr1_2
 have HC1_2 := am hc1_2
 clear hr1_2 hc1_2
 have HR1_3 := am hr1_3
 have HC1_3 := am hc1_3
 clear hr1_3 hc1_3
 have HR1_4 := am hr1_4
 have HC1_4 := am hc1_4
 clear hr1_4 hc1_4
 have HB := am (jc w.heap.size w)
 have H := h
 clear h
 have HC3 := am H
 clear H
 go_enter Tryz.func124, Tryz.ntmps124
 go_upto_region 2 with (first | ((with_reducible refine zw (N := 2) rfl ?_); (try (refine zB (by rfl) ?_; dsimp only)); refine bx 2 rfl rfl (Vf a0_0 A0_1 l0_1 c0_1 A0_2 l0_2 c0_2) 25 ?_; intro gb114 hg w4 hbox hb; have BK114 := am (hbox); have GE114 := ge HB hg; replace HB := sb HB hb; clear hb hbox hg) | ((with_reducible refine zw (N := 3) rfl ?_); (try (refine zB (by rfl) ?_; dsimp only)); refine bx 3 rfl rfl (Vh a1_0 a1_1 A1_2 l1_2 c1_2 A1_3 l1_3 c1_3 A1_4 l1_4 c1_4) 81 ?_; intro gb115 hg w5 hbox hb; have BK115 := am (hbox); have GE115 := ge HB hg; have NB114_115 := nl BK114 hg; have NB115_114 := ng BK114 hg; replace BK114 := kb BK114 hb; replace HB := sb HB hb; clear hb hbox hg))
 (try simp only [Act.put, List.setIfInBounds_toArray, List.set_cons_zero, List.set_cons_succ])
 go_cut [17] (fun v17 wc => ∃ (kq : Nat) (x17_2 : Bool), v17 = .bool x17_2 /\ Aside0 (zD.j0 kq 0 x17_2 a0_0 l0_1 l0_2 a1_0 a1_1 l1_2 l1_3 l1_4 = some r) /\ Aside0 (kq <= k) /\ Aside0 (wc.heap[gb114]? = some (.cells #[.int .i64 a0_0, (.slice A0_1 l0_1.length c0_1), (.slice A0_2 l0_2.length c0_2)] 25 (0, 0))) /\ Aside0 (wc.heap[gb115]? = some (.cells #[.int .i64 a1_0, .int .i64 a1_1, (.slice A1_2 l1_2.length c1_2), (.slice A1_3 l1_3.length c1_3), (.slice A1_4 l1_4.length c1_4)] 81 (0, 0))) /\ Aside0 (Below w.heap.size w wc))
 case first =>
  have H := HC3.out
  clear HC3
  obtain ⟨c6b0, H⟩ | ⟨c6b0, H⟩ := ei H
  ·(first | rw [c6b0] | (simp only [zP, Zr]; rw [c6b0]) | skip)
   have H' := am H
   clear H
   have hnb10 := NB115_114.out
   have hnc10 := NB114_115.out
   have hz11 := cf5 BK115.out
   go_wp2
   go_meet
   case rel => exact ⟨_, (false), rs, H', ⟨by first | omega | exact jk _⟩, ⟨kk BK114⟩, ⟨kk BK115⟩, ⟨bb HB⟩⟩
  (first | rw [c6b0] | (simp only [zP, Zr]; rw [c6b0]) | skip)
  have H' := am H
  clear H
  have hnb7 := NB115_114.out
  have hnc7 := NB114_115.out
  have hz8 := cf5 BK115.out
  have hz9 := cf3 BK114.out
  go_wp2
  go_meet
  case rel => exact ⟨_, (decide (a1_1 < (l0_1.length : Int))), rs, H', ⟨by first | omega | exact jk _⟩, ⟨kk BK114⟩, ⟨kk BK115⟩, ⟨bb HB⟩⟩
 case rest =>
  clear HC3
  obtain ⟨kq, x17_2, rfl, HA, HJ2, BK114, BK115, HB⟩ := hcut
  cases kq with
  | zero => exact jm HA.out (by simp [zD.j0])
  | succ kj2 =>
   have H := HA.out
   clear HA
   simp only [zD.j0] at H
   have HC12 := am H
   clear H
   go_upto_if 17 with (fail)
   go_cut [5] (fun v5 wc => ∃ (kq : Nat) (x5_11 : Int), v5 = .int .i64 x5_11 /\ Aside0 (zD.j1 kq x5_11 a1_0 a1_1 l1_2 l1_3 l1_4 = some r) /\ Aside0 (kq <= kj2) /\ Aside0 (wc.heap[gb114]? = some (.cells #[.int .i64 a0_0, (.slice A0_1 l0_1.length c0_1), (.slice A0_2 l0_2.length c0_2)] 25 (0, 0))) /\ Aside0 (wc.heap[gb115]? = some (.cells #[.int .i64 a1_0, .int .i64 a1_1, (.slice A1_2 l1_2.length c1_2), (.slice A1_3 l1_3.length c1_3), (.slice A1_4 l1_4.length c1_4)] 81 (0, 0))) /\ Aside0 (Below w.heap.size w wc))
   case first =>
    have H := HC12.out
    clear HC12
    replace H := ob H
    obtain ⟨rfl, H⟩ | ⟨rfl, H⟩ := H
    ·have H' := am H
     clear H
     go_wp2
     go_meet
     case rel => exact ⟨_, (0), rs, H', ⟨by have := HJ2.out; first | omega | exact jk _⟩, ⟨kk BK114⟩, ⟨kk BK115⟩, ⟨bb HB⟩⟩
    obtain ⟨c14b0, H⟩ := pd H
    (first | rw [c14b0] | (simp only [zP, Zr]; rw [c14b0]) | skip)
    obtain ⟨c15b0, H⟩ := pd H
    have H' := am H
    clear H
    have hnb16 := NB114_115.out
    have hnc16 := NB115_114.out
    have hz17 := cf3 BK114.out
    have hz18 := cf5 BK115.out
    have p116 : 0 <= (a1_1 : Int) := od
    have q116 : a1_1 < (l0_1.length : Int) := od
    obtain ⟨ad116, e116, hx116_0, hx116_1, hx116_2⟩ := Zs HR0_1.out a1_1 p116 q116
    cases e116
    replace hx116_0 := zo HB.out hx116_0
    replace hx116_1 := zo HB.out hx116_1
    replace hx116_2 := zo HB.out hx116_2
    replace p116 := eT p116
    replace q116 := eT q116
    go_wp2
    go_meet
    case rel => exact ⟨_, ((zp l0_1 a1_1).f2), rs, H', ⟨by have := HJ2.out; first | omega | exact jk _⟩, ⟨kk BK114⟩, ⟨kk BK115⟩, ⟨bb HB⟩⟩
   case rest =>
    clear HC12
    obtain ⟨kq, x5_11, rfl, HA, HJ11, BK114, BK115, HB⟩ := hcut
    cases kq with
    | zero => exact jm HA.out (by simp [zD.j1])
    | succ kj11 =>
     have H := HA.out
     clear HA
     simp only [zD.j1] at H
     have HC19 := am H
     clear H
     have hnb20 := NB115_114.out
     have hnc20 := NB114_115.out
     have hz21 := cf5 BK115.out
     go_upto_if 27 with (fail)
     go_cut [27] (fun v27 wc => ∃ (kq : Nat) (x27_18 : Bool), v27 = .bool x27_18 /\ Aside0 (zD.j2 kq x5_11 a1_0 x27_18 a1_0 a1_1 l1_2 l1_3 l1_4 = some r) /\ Aside0 (kq <= kj11) /\ Aside0 (wc.heap[gb114]? = some (.cells #[.int .i64 a0_0, (.slice A0_1 l0_1.length c0_1), (.slice A0_2 l0_2.length c0_2)] 25 (0, 0))) /\ Aside0 (wc.heap[gb115]? = some (.cells #[.int .i64 a1_0, .int .i64 a1_1, (.slice A1_2 l1_2.length c1_2), (.slice A1_3 l1_3.length c1_3), (.slice A1_4 l1_4.length c1_4)] 81 (0, 0))) /\ Aside0 (Below w.heap.size w wc))
     case first =>
      have H := HC19.out
      clear HC19
      obtain ⟨c22, c22b0, c22b1, H⟩ | ⟨c22b0, c22b1, H⟩ := qi H
      ·(first | rw [c22b0] | (simp only [zP, Zr]; rw [c22b0]) | skip)
       have H' := am H
       clear H
       go_wp2
       go_meet
       case rel => exact ⟨_, ((a1_0 == 4)), rs, H', ⟨by have := HJ2.out; have := HJ11.out; first | omega | exact jk _⟩, ⟨kk BK114⟩, ⟨kk BK115⟩, ⟨bb HB⟩⟩
      (first | rw [c22b0] | (simp only [zP, Zr]; rw [c22b0]) | skip)
      have H' := am H
      clear H
      go_wp2
      go_meet
      case rel => exact ⟨_, ((a1_0 == 0)), rs, H', ⟨by have := HJ2.out; have := HJ11.out; first | omega | exact jk _⟩, ⟨kk BK114⟩, ⟨kk BK115⟩, ⟨bb HB⟩⟩
     case rest =>
      clear HC19
      obtain ⟨kq, x27_18, rfl, HA, HJ18, BK114, BK115, HB⟩ := hcut
      cases kq with
      | zero => exact jm HA.out (by simp [zD.j2])
      | succ kj18 =>
       have H := HA.out
       clear HA
       simp only [zD.j2] at H
       replace H := bo H
       obtain ⟨rfl, H⟩ | ⟨rfl, H⟩ := H
       ·have HC24 := am H
        clear H
        have hnb25 := NB115_114.out
        have hnc25 := NB114_115.out
        have hz26 := cf5 BK115.out
        go_upto_if 32 with (fail)
        go_cut [6] (fun v6 wc => ∃ (kq : Nat) (x6_23 : Int), v6 = .int .i64 x6_23 /\ Aside0 (zD.j3 kq x5_11 x6_23 = some r) /\ Aside0 (kq <= kj18) /\ Aside0 (wc.heap[gb114]? = some (.cells #[.int .i64 a0_0, (.slice A0_1 l0_1.length c0_1), (.slice A0_2 l0_2.length c0_2)] 25 (0, 0))) /\ Aside0 (wc.heap[gb115]? = some (.cells #[.int .i64 a1_0, .int .i64 a1_1, (.slice A1_2 l1_2.length c1_2), (.slice A1_3 l1_3.length c1_3), (.slice A1_4 l1_4.length c1_4)] 81 (0, 0))) /\ Aside0 (Below w.heap.size w wc))
        case first =>
         have H := HC24.out
         clear HC24
         obtain ⟨c27, c27b0, c27b1, H⟩ | ⟨c27b0, c27b1, H⟩ := qi H
         ·(first | rw [c27b0] | (simp only [zP, Zr]; rw [c27b0]) | skip)
          have H' := am H
          clear H
          go_wp2
          go_meet
          case rel => exact ⟨_, (0), rs, H', ⟨by have := HJ2.out; have := HJ11.out; have := HJ18.out; first | omega | exact jk _⟩, ⟨kk BK114⟩, ⟨kk BK115⟩, ⟨bb HB⟩⟩
         (first | rw [c27b0] | (simp only [zP, Zr]; rw [c27b0]) | skip)
         have H' := am H
         clear H
         go_wp2
         go_meet
         case rel => exact ⟨_, (1), rs, H', ⟨by have := HJ2.out; have := HJ11.out; have := HJ18.out; first | omega | exact jk _⟩, ⟨kk BK114⟩, ⟨kk BK115⟩, ⟨bb HB⟩⟩
        case rest =>
         clear HC24
         obtain ⟨kq, x6_23, rfl, HA, HJ23, BK114, BK115, HB⟩ := hcut
         cases kq with
         | zero => exact jm HA.out (by simp [zD.j3])
         | succ kj23 =>
          have H := HA.out
          clear HA
          simp only [zD.j3] at H
          obtain ⟨c28b0, c28b1, H⟩ | ⟨c28, c28b0, c28b1, H⟩ := iq H
          ·obtain rfl := sj H
           go_wp2
           go_ret
           exact ⟨rr, bb HB⟩
          obtain ⟨c29b0, H⟩ | ⟨c29b0, H⟩ := iE H
          ·obtain rfl := sj H
           go_wp2
           go_ret
           exact ⟨rr, bb HB⟩
          obtain rfl := sj H
          go_wp2
          go_ret
          exact ⟨rr, bb HB⟩
       obtain ⟨c30b0, c30b1, H⟩ | ⟨c30, c30b0, c30b1, H⟩ := iq H
       ·obtain ⟨c31b0, H⟩ | ⟨c31b0, H⟩ := iE H
        ·obtain rfl := sj H
         have hnb32 := NB115_114.out
         have hnc32 := NB114_115.out
         have hz33 := cf5 BK115.out
         go_wp2
         go_ret
         exact ⟨rr, bb HB⟩
        obtain ⟨c34b0, H⟩ | ⟨c34b0, H⟩ := iE H
        ·obtain rfl := sj H
         have hnb35 := NB115_114.out
         have hnc35 := NB114_115.out
         have hz36 := cf5 BK115.out
         go_wp2
         go_ret
         exact ⟨rr, bb HB⟩
        obtain rfl := sj H
        have hnb37 := NB115_114.out
        have hnc37 := NB114_115.out
        have hz38 := cf5 BK115.out
        go_wp2
        go_ret
        exact ⟨rr, bb HB⟩
       have HC39 := am H
       clear H
       go_upto_if 52 with (fail)
       go_cut [52] (fun v52 wc => ∃ (kq : Nat) (x52_38 : Bool), v52 = .bool x52_38 /\ Aside0 (zD.j4 kq x52_38 a1_0 a1_1 l1_2 l1_3 l1_4 = some r) /\ Aside0 (kq <= kj18) /\ Aside0 (wc.heap[gb114]? = some (.cells #[.int .i64 a0_0, (.slice A0_1 l0_1.length c0_1), (.slice A0_2 l0_2.length c0_2)] 25 (0, 0))) /\ Aside0 (wc.heap[gb115]? = some (.cells #[.int .i64 a1_0, .int .i64 a1_1, (.slice A1_2 l1_2.length c1_2), (.slice A1_3 l1_3.length c1_3), (.slice A1_4 l1_4.length c1_4)] 81 (0, 0))) /\ Aside0 (Below w.heap.size w wc))
       case first =>
        have H := HC39.out
        clear HC39
        obtain ⟨c40b0, c40b1, H⟩ | ⟨c40, c40b0, c40b1, H⟩ := iq H
        ·(first | rw [c40b0] | (simp only [zP, Zr]; rw [c40b0]) | skip)
         have H' := am H
         clear H
         go_wp2
         go_meet
         case rel => exact ⟨_, ((a1_0 == 1)), rs, H', ⟨by have := HJ2.out; have := HJ11.out; have := HJ18.out; first | omega | exact jk _⟩, ⟨kk BK114⟩, ⟨kk BK115⟩, ⟨bb HB⟩⟩
        (first | rw [c40b0] | (simp only [zP, Zr]; rw [c40b0]) | skip)
        obtain ⟨c41b0, c41b1, H⟩ | ⟨c41, c41b0, c41b1, H⟩ := iq H
        ·have H' := am H
         clear H
         go_wp2
         go_meet
         case rel => exact ⟨_, ((a1_0 == 2)), rs, H', ⟨by have := HJ2.out; have := HJ11.out; have := HJ18.out; first | omega | exact jk _⟩, ⟨kk BK114⟩, ⟨kk BK115⟩, ⟨bb HB⟩⟩
        obtain ⟨c42, c42b0, c42b1, H⟩ | ⟨c42b0, c42b1, H⟩ := qi H
        ·have H' := am H
         clear H
         go_wp2
         go_meet
         case rel => exact ⟨_, ((a1_0 == 6)), rs, H', ⟨by have := HJ2.out; have := HJ11.out; have := HJ18.out; first | omega | exact jk _⟩, ⟨kk BK114⟩, ⟨kk BK115⟩, ⟨bb HB⟩⟩
        have H' := am H
        clear H
        go_wp2
        go_meet
        case rel => exact ⟨_, ((a1_0 == 5)), rs, H', ⟨by have := HJ2.out; have := HJ11.out; have := HJ18.out; first | omega | exact jk _⟩, ⟨kk BK114⟩, ⟨kk BK115⟩, ⟨bb HB⟩⟩
       case rest =>
        clear HC39
        obtain ⟨kq, x52_38, rfl, HA, HJ38, BK114, BK115, HB⟩ := hcut
        cases kq with
        | zero => exact jm HA.out (by simp [zD.j4])
        | succ kj38 =>
         have H := HA.out
         clear HA
         simp only [zD.j4] at H
         replace H := ob H
         obtain ⟨rfl, H⟩ | ⟨rfl, H⟩ := H
         ·obtain rfl := sj H
          go_wp2
          go_ret
          exact ⟨rr, bb HB⟩
         obtain ⟨c44, c44b0, c44b1, H⟩ | ⟨c44b0, c44b1, H⟩ := qi H
         ·obtain rfl := sj H
          have hnb47 := NB115_114.out
          have hnc47 := NB114_115.out
          have hz48 := cf5 BK115.out
          go_wp2
          go_ret
          exact ⟨rr, bb HB⟩
         obtain rfl := sj H
         have hnb45 := NB115_114.out
         have hnc45 := NB114_115.out
         have hz46 := cf5 BK115.out
         go_wp2
         go_ret
         exact ⟨rr, bb HB⟩
def z0g (op : Int) (t e : Nat) : Bool := (t == 0 || op == 1 || op == 2) && (e == 0 || op == 1)
theorem z3X (op : Int) (t e : Nat) :
  (z0g op t e = false /\ (((decide (0 < t) = true /\ decide ((0 : Int) < (t : Int)) = true) /\ (op != 1) = true /\ (op != 2) = true) \/ ((decide (0 < t) = true /\ decide ((0 : Int) < (t : Int)) = true) /\ (op != 1) = true /\ (op != 2) = false /\ (decide (0 < e) = true /\ decide ((0 : Int) < (e : Int)) = true)) \/ ((decide (0 < t) = false /\ decide ((0 : Int) < (t : Int)) = false) /\ (decide (0 < e) = true /\ decide ((0 : Int) < (e : Int)) = true) /\ (op != 1) = true))) \/
  (z0g op t e = true /\ (((decide (0 < t) = true /\ decide ((0 : Int) < (t : Int)) = true) /\ (op != 1) = false /\ (decide (0 < e) = false /\ decide ((0 : Int) < (e : Int)) = false)) \/ ((decide (0 < t) = true /\ decide ((0 : Int) < (t : Int)) = true) /\ (op != 1) = false /\ (decide (0 < e) = true /\ decide ((0 : Int) < (e : Int)) = true)) \/ ((decide (0 < t) = true /\ decide ((0 : Int) < (t : Int)) = true) /\ (op != 1) = true /\ (op != 2) = false /\ (decide (0 < e) = false /\ decide ((0 : Int) < (e : Int)) = false)) \/ ((decide (0 < t) = false /\ decide ((0 : Int) < (t : Int)) = false) /\ (decide (0 < e) = false /\ decide ((0 : Int) < (e : Int)) = false)) \/ ((decide (0 < t) = false /\ decide ((0 : Int) < (t : Int)) = false) /\ (decide (0 < e) = true /\ decide ((0 : Int) < (e : Int)) = true) /\ (op != 1) = false))) := by
 unfold z0g
 by_cases ht : t = 0 <;> by_cases he : e = 0 <;> by_cases h1 : op = 1 <;> by_cases h2 : op = 2 <;> simp [ht, he, h1, h2, Nat.pos_iff_ne_zero, Int.natCast_pos] <;> omega
mutual
def zv.l1 : Nat -> Int -> List S76 -> List S81 -> List S81 -> Int -> Int -> Int -> Int -> Int -> Option (Bool × Int × Int)
 | 0, _, _, _, _, _, _, _, _, _ => none
 | k + 1, a0, l1, l2, l, deep, i, j, st, nd => if j < ((zu l i).f2.length : Int) then (if 0 <= j then ((yV.f k a0 l1 1 (zi (zu l i).f2 j).f0 (zi (zu l i).f2 j).f1 (zi (zu l i).f2 j).f2 (zi (zu l i).f2 j).f3).bind fun t => if t = 0 then
    ((Zf.f k (zi (zu l i).f2 j).f0 (zi (zu l i).f2 j).f1 (zi (zu l i).f2 j).f2 (zi (zu l i).f2 j).f3).bind fun m => zv.l1 k a0 l1 l2 l deep i (wrap64 (j + 1)) st (wrap64 (nd + m))) else some (false, st, nd)) else none)
   else (zv.f k a0 l1 l2 (zu l i).f3 (wrap64 (deep + 1)) st nd).bind fun q => if q.1 = true then ((zv.f k a0 l1 l2 (zu l i).f4 (wrap64 (deep + 1)) q.2.1 q.2.2).bind fun q2 => if q2.1 = true then zv.l0 k a0 l1 l2 l deep (wrap64 (i + 1)) q2.2.1 q2.2.2 else some (false, q2.2.1, q2.2.2)) else some (false, q.2.1, q.2.2)
def zv.l0 : Nat -> Int -> List S76 -> List S81 -> List S81 -> Int -> Int -> Int -> Int -> Option (Bool × Int × Int)
 | 0, _, _, _, _, _, _, _, _ => none
 | k + 1, a0, l1, l2, l, deep, i, st, nd => if i < (l.length : Int) then (if 0 <= i then (if 400 < wrap64 (nd + 1) then some (false, wrap64 (st + 1), wrap64 (nd + 1)) else
   (zD.f k a0 l1 l2 (zu l i).f0 (zu l i).f1 (zu l i).f2 (zu l i).f3 (zu l i).f4).bind fun ar => if ar = ((zu l i).f2.length : Int) then
    (if z0g (zu l i).f0 (zu l i).f3.length (zu l i).f4.length = true then zv.l1 k a0 l1 l2 l deep i 0 (wrap64 (st + 1)) (wrap64 (nd + 1)) else some (false, wrap64 (st + 1), wrap64 (nd + 1))) else some (false, wrap64 (st + 1), wrap64 (nd + 1))) else none)
   else some (decide (nd <= 400), st, nd)
def zv.f : Nat -> Int -> List S76 -> List S81 -> List S81 -> Int -> Int -> Int -> Option (Bool × Int × Int)
 | 0, _, _, _, _, _, _, _ => none
 | k + 1, a0, l1, l2, l, deep, st, nd => if (0 : Int) < (l.length : Int) then (if 16 < deep then some (false, st, nd) else zv.l0 k a0 l1 l2 l deep 0 st nd) else zv.l0 k a0 l1 l2 l deep 0 st nd
end
theorem z0G {w : World} {g : Nat} {a b : Value} {t : TypeId} {fr : Nat × Nat} (h : w.heap[g]? = some (.cells #[a, b] t (0, 0))) : w.cell? ⟨g, 0, none⟩ = some a /\ w.cell? ⟨g, 1, none⟩ = some b := ⟨(za h 0).trans rfl, (za h 1).trans rfl⟩
theorem z27 {w : World} {g : Nat} {a b c : Value} {t : TypeId} (h : w.heap[g]? = some (.cells #[a, b, c] t (0, 0))) : w.cell? ⟨g, 0, none⟩ = some a /\ w.cell? ⟨g, 1, none⟩ = some b /\ w.cell? ⟨g, 2, none⟩ = some c := ⟨(za h 0).trans rfl, (za h 1).trans rfl, (za h 2).trans rfl⟩
theorem z3b {w : World} {g : Nat} {a b c d e : Value} {t : TypeId} (h : w.heap[g]? = some (.cells #[a, b, c, d, e] t (0, 0))) : w.cell? ⟨g, 0, none⟩ = some a /\ w.cell? ⟨g, 1, none⟩ = some b /\ w.cell? ⟨g, 2, none⟩ = some c /\ w.cell? ⟨g, 3, none⟩ = some d /\ w.cell? ⟨g, 4, none⟩ = some e :=
 ⟨(za h 0).trans rfl, (za h 1).trans rfl, (za h 2).trans rfl, (za h 3).trans rfl, (za h 4).trans rfl⟩
theorem z4L {wr : World} {G p : Nat} {a b u v : Value} {t : TypeId} {oP : Obj} (hG : wr.heap[G]? = some (.cells #[a, b] t (0, 0))) (hP : wr.heap[p]? = some oP) (hne : p ≠ G) (o : Obj) :
  (((wr.setCell ⟨G, 0, none⟩ u).setCell ⟨G, 1, none⟩ v).alloc o).heap[G]? = some (.cells #[u, v] t (0, 0)) /\ (((wr.setCell ⟨G, 0, none⟩ u).setCell ⟨G, 1, none⟩ v).alloc o).heap[p]? = some oP /\
   (((wr.setCell ⟨G, 0, none⟩ u).setCell ⟨G, 1, none⟩ v).alloc o).heap[wr.heap.size]? = some o /\ wr.grownBy (((wr.setCell ⟨G, 0, none⟩ u).setCell ⟨G, 1, none⟩ v).alloc o) (some G) /\ wr.heap.size < (((wr.setCell ⟨G, 0, none⟩ u).setCell ⟨G, 1, none⟩ v).alloc o).heap.size := by
 have h1 : (wr.setCell ⟨G, 0, none⟩ u).heap[G]? = some (.cells #[u, b] t (0, 0)) := by simpa using yD hG 0 u
 have h2 : ((wr.setCell ⟨G, 0, none⟩ u).setCell ⟨G, 1, none⟩ v).heap[G]? = some (.cells #[u, v] t (0, 0)) := by simpa using yD h1 1 v
 refine ⟨kal h2 _, kal ((jl _ _ _ _ hne).trans ((jl _ _ _ _ hne).trans hP)) _, ?_, ?_, by simp⟩
 ·have := heap_alloc_new ((wr.setCell ⟨G, 0, none⟩ u).setCell ⟨G, 1, none⟩ v) o
  simpa using this
 ·refine ⟨rfl, rfl, rfl, by simp, fun i hi hne2 => ?_⟩
  have hne' : i ≠ G := fun e => hne2 (by rw [e])
  rw [Below.heap_alloc _ _ _ (by simpa using hi), jl _ _ _ _ hne', jl _ _ _ _ hne']
theorem undrew {w w' : World} (h : Below w.drew.heap.size w.drew w') : Below w.heap.size w w' := ⟨h.os, h.tape, h.output, h.size, h.block⟩
theorem zv.calls (k : Nat) : ∀ (a0 : Int) (A1 : Option Addr) (c1 : Nat) (l1 : List S76) (A2 : Option Addr) (c2 : Nat) (l2 : List S81) (A : Option Addr) (c : Nat) (l : List S81) (deep st nd : Int) (G : Nat) (r : Bool) (st' nd' : Int) (w0 w : World)
  (hr1 : Kd.C k76 w0 A1 l1.length l1) (hc1 : l1.length <= c1) (hr2 : Kd.C k81 w0 A2 l2.length l2) (hc2 : l2.length <= c2) (hr : Kd.C k81 w0 A l.length l) (hc : l.length <= c) (hB : Below w0.heap.size w0 w) (hG0 : w0.heap.size <= G)
  (hG : w.heap[G]? = some (.cells (Veq st nd) 151 (0, 0))) (h : zv.f k a0 l1 l2 l deep st nd = some (r, st', nd')),
  Calls Tryz.prog 111 #[.pointer (some ⟨G, 0, none⟩), .agg (Vf a0 A1 l1 c1 A2 l2 c2), .slice A l.length c, .int .i64 deep] w fun e w' =>
   e = .returned (.bool r) /\ w'.heap[G]? = some (.cells (Veq st' nd') 151 (0, 0)) /\ w.grownBy w' (some G) := by
 induction k using Nat.strongRecOn with
 | _ k ih =>
 intro a0 A1 c1 l1 A2 c2 l2 A c l deep st nd G r st' nd' w0 w hr1 hc1 hr2 hc2 hr hc hB hG0 hG h
 cases k with
 | zero => exact jm h (by simp [zv.f])
 | succ k =>
 simp only [zv.f] at h
 have huP := Tryz.underlying25
 have huS := Tryz.underlying81
 have huC := Tryz.underlying151
 have HR1 := am hr1
 have HC1 := am hc1
 have HR2 := am hr2
 have HC2 := am hc2
 have HR := am hr
 have HC := am hc
 have HB := am hB
 have HG0 := am hG0
 have BG0 := am hG
 have hGl := zM hG
 have ih' := am ih
 clear hr1 hc1 hr2 hc2 hr hc hB hG0 hG ih
 have HH : (0 < l.length /\ decide (16 < deep) = true /\ r = false /\ st = st' /\ nd = nd') \/ (((0 < l.length /\ decide (16 < deep) = false) \/ l.length = 0) /\ Aside0 (zv.l0 k a0 l1 l2 l deep 0 st nd = some (r, st', nd'))) := by
  by_cases h0 : (0 : Int) < (l.length : Int)
  ·rw [jb h0] at h
   rcases yu h with ⟨d, h⟩ | ⟨d, h⟩
   ·injection (sj h) with e1 e2
    injection e2 with e2 e3
    exact .inl ⟨by omega, d, e1.symm, e2, e3⟩
   ·exact .inr ⟨.inl ⟨by omega, d⟩, ⟨h⟩⟩
  ·rw [ja h0] at h
   exact .inr ⟨.inr (by omega), ⟨h⟩⟩
 clear h
 rcases HH with ⟨d0, d1, rfl, rfl, rfl⟩ | ⟨hd, HL⟩
 ·have d0' : decide (0 < l.length) = true := dT d0
  have d0'' : decide ((0 : Int) < (l.length : Int)) = true := dT (by omega)
  go_enter Tryz.func111, Tryz.ntmps111
  go_wp2
  go_ret
  exact ⟨rfl, kal BG0.out _, World.grownBy_alloc _ _ _⟩
 have hd' : (decide (0 < l.length) = true /\ decide ((0 : Int) < (l.length : Int)) = true /\ decide (16 < deep) = false) \/ (decide (0 < l.length) = false /\ decide ((0 : Int) < (l.length : Int)) = false) := by
  rcases hd with ⟨d, d1⟩ | d
  ·exact .inl ⟨dT d, dT (by omega), d1⟩
  ·exact .inr ⟨dF (by omega), dF (by omega)⟩
 clear hd
 go_enter Tryz.func111, Tryz.ntmps111
 go_upto_region 1 with (fail)
 go_cut [19] (fun v19 wc => v19 = .bool false /\ Aside0 (wc.heap[G]? = some (.cells (Veq st nd) 151 (0, 0))) /\ Aside0 (wc.heap[w.heap.size]? = some (.cells (Vf a0 A1 l1 c1 A2 l2 c2) 25 (0, 0))) /\ Aside0 (w.grownBy wc (some G)))
 case first =>
  rcases hd' with ⟨d0, d1, d2⟩ | ⟨d0, d1⟩
  all_goals
   go_wp2
   go_meet
   case rel => exact ⟨rfl, ⟨kal BG0.out _⟩, ⟨heap_alloc_new _ _⟩, ⟨World.grownBy_alloc _ _ _⟩⟩
 case rest =>
  clear hd' BG0
  obtain ⟨rfl, BG0, BP0, GW0⟩ := hcut
  go_wp2
  go_loopg [22] k (fun kq v22 wl => ∃ (i s1 n1 : Int), v22 = .int .i64 i /\ Aside0 (zv.l0 kq a0 l1 l2 l deep i s1 n1 = some (r, st', nd')) /\ Aside0 (kq <= k) /\ Aside0 (wl.heap[G]? = some (.cells (Veq s1 n1) 151 (0, 0))) /\
   Aside0 (wl.heap[w.heap.size]? = some (.cells (Vf a0 A1 l1 c1 A2 l2 c2) 25 (0, 0))) /\ Aside0 (w.grownBy wl (some G)))
  case atStart => exact ⟨0, st, nd, rfl, HL, ⟨jk _⟩, BG0, BP0, GW0⟩
  case round =>
   clear HL BG0 BP0 GW0
   obtain ⟨i, s1, n1, rfl, HA, HK, BG, BP, GW⟩ := hrel
   cases gk with
   | zero => exact jm HA.out (by simp [zv.l0])
   | succ k1 =>
    have H := HA.out
    clear HA
    simp only [zv.l0] at H
    have H2 := yu H
    clear H
    obtain ⟨hg0, hg1⟩ := z0G (fr := (0, 0)) BG.out
    have hf0 := zf BG.out 0
    have hf1 := zf BG.out 1
    have hGlt := zM BG.out
    have hPlt := zM BP.out
    rcases H2 with ⟨t1, H⟩ | ⟨t1, H⟩
    case inr =>
     injection (sj H) with e1 e2
     injection e2 with e2 e3
     subst e1 e2 e3
     clear H
     go_wp2
     go_ret
     exact ⟨rfl, BG.out, GW.out⟩
    have H2 := yu H
    clear H
    rcases H2 with ⟨t2, H⟩ | ⟨t2, H⟩
    case inr => exact jm H (by simp)
    have p0 : 0 <= i := of_decide_eq_true t2
    have p1 : i < (l.length : Int) := of_decide_eq_true t1
    have B0 := am (yS HB.out GW.out HG0.out)
    obtain ⟨ad, B2, b2, B3, b3, B4, b4, e1, q0, q1, q2, q3, q4, ql2, qr2, ql3, qr3, ql4, qr4⟩ := yH HR.out i p0 p1
    cases e1
    replace q0 := (B0.out.cell (jd w0 _ q0)).trans q0
    replace q1 := (B0.out.cell (jd w0 _ q1)).trans q1
    replace q2 := (B0.out.cell (jd w0 _ q2)).trans q2
    replace q3 := (B0.out.cell (jd w0 _ q3)).trans q3
    replace q4 := (B0.out.cell (jd w0 _ q4)).trans q4
    have QL2 := am ql2
    have QR2 := am qr2
    have QL3 := am ql3
    have QR3 := am qr3
    have QL4 := am ql4
    have QR4 := am qr4
    have hne : w.heap.size ≠ G := by omega
    have cw := z4L BG.out BP.out hne (.cells (Vgq ((zu l i).f0) ((zu l i).f1) B2 ((zu l i).f2.length) b2 B3 ((zu l i).f3.length) b3 B4 ((zu l i).f4.length) b4) 81) (u := .int .i64 (wrap64 (s1 + 1))) (v := .int .i64 (wrap64 (n1 + 1)))
    have hH := am H
    clear ql2 qr2 ql3 qr3 ql4 qr4 H
    have CW := am cw
    clear cw
    go_wp2
    have cw := CW.out
    clear CW
    generalize (((wr.setCell ⟨G, 0, none⟩ (.int .i64 (wrap64 (s1 + 1)))).setCell ⟨G, 1, none⟩ (.int .i64 (wrap64 (n1 + 1)))).alloc (.cells (Vgq ((zu l i).f0) ((zu l i).f1) B2 ((zu l i).f2.length) b2 B3 ((zu l i).f3.length) b3 B4 ((zu l i).f4.length) b4) 81)) = W1 at cw ⊢
    have H := hH.out
    clear hH
    generalize wrap64 (s1 + 1) = s2 at H cw ⊢
    generalize wrap64 (n1 + 1) = n2 at H cw ⊢
    obtain ⟨bG, bP, bS, gW1, hlt⟩ := cw
    obtain ⟨cG0, cG1⟩ := z0G (fr := (0, 0)) bG
    obtain ⟨cP0, cP1, cP2⟩ := z27 bP
    obtain ⟨cS0, cS1, cS2, cS3, cS4⟩ := z3b bS
    have BG := am bG
    have BP := am bP
    have BS := am bS
    have GW := am (Yl GW.out gW1)
    have B1 := am (yS HB.out GW.out HG0.out)
    clear bG bP bS gW1 hg0 hg1 hf0 hf1 q0 q1 q2 q3 q4 B0
    have H2 := yu H
    clear H
    rcases H2 with ⟨d1, H⟩ | ⟨d1, H⟩
    case inl =>
     injection (sj H) with e1 e2
     injection e2 with e2 e3
     subst e1 e2 e3
     clear H
     go_quiet (fail)
     go_wp2
     go_ret
     exact ⟨rfl, BG.out, ⟨GW.out.os, GW.out.tape, GW.out.output, GW.out.size, GW.out.block⟩⟩
    replace H := Option.bind_eq_some_iff.mp H
    obtain ⟨ar, AR0, H⟩ := H
    have AR := am AR0
    clear AR0
    have H2 := yu H
    clear H
    rcases H2 with ⟨d3, H⟩ | ⟨d3, H⟩
    case inr =>
     injection (sj H) with e1 e2
     injection e2 with e2 e3
     subst e1 e2 e3
     clear H
     have d3a : (ar == ((zu l i).f2.length : Int)) = false := bF (of_decide_eq_false d3)
     have d3b : (ar != ((zu l i).f2.length : Int)) = true := bN (of_decide_eq_false d3)
     clear d3
     go_region_held3 (fun w' => Below W1.heap.size W1 w' /\ w'.cell? ⟨G, 0, none⟩ = some (.int .i64 s2) /\ w'.cell? ⟨G, 1, none⟩ = some (.int .i64 n2) /\ w'.cell? ⟨w.heap.size, 0, none⟩ = some (.int .i64 a0) /\ w'.cell? ⟨w.heap.size, 1, none⟩ = some (.slice A1 l1.length c1) /\ w'.cell? ⟨w.heap.size, 2, none⟩ = some (.slice A2 l2.length c2) /\
       w'.cell? ⟨wr.heap.size, 0, none⟩ = some (.int .i64 (zu l i).f0) /\ w'.cell? ⟨wr.heap.size, 1, none⟩ = some (.int .i64 (zu l i).f1) /\ w'.cell? ⟨wr.heap.size, 2, none⟩ = some (.slice B2 (zu l i).f2.length b2) /\ w'.cell? ⟨wr.heap.size, 3, none⟩ = some (.slice B3 (zu l i).f3.length b3) /\ w'.cell? ⟨wr.heap.size, 4, none⟩ = some (.slice B4 (zu l i).f4.length b4))
      (first
       | exact ⟨zj (jc _ _), cG0, cG1, cP0, cP1, cP2, cS0, cS1, cS2, cS3, cS4⟩
       | (go_split_ands; exact ⟨yW (by assumption) (Below.size (by assumption)) hb, zx hb (by assumption), zx hb (by assumption), zx hb (by assumption), zx hb (by assumption), zx hb (by assumption), zx hb (by assumption), zx hb (by assumption), zx hb (by assumption), zx hb (by assumption), zx hb (by assumption)⟩))
      (first | (go_at_call 124; (with_reducible refine (zD.calls k1 a0 _ _ l1 _ _ l2 _ _ _ _ (zu l i).f2 _ _ (zu l i).f3 _ _ (zu l i).f4 ar _ ?s1 HC1.out ?s2 HC2.out ?s3 QL2.out ?s4 QL3.out ?s5 QL4.out AR.out).mono ?_); (case s1 => exact ji HR1.out (by repeat (first | exact B1.out | apply zj))); (case s2 => exact ji HR2.out (by repeat (first | exact B1.out | apply zj))); (case s3 => exact ji QR2.out (by repeat (first | exact B1.out | apply zj))); (case s4 => exact ji QR3.out (by repeat (first | exact B1.out | apply zj))); (case s5 => exact ji QR4.out (by repeat (first | exact B1.out | apply zj))); rintro e w' ⟨rfl, hb⟩))
     obtain ⟨hBw, _⟩ := ‹Below W1.heap.size W1 _ /\ _›
     go_wp2
     go_ret
     exact ⟨rfl, Yb GW.out BG.out hBw⟩
    have d3a : (ar == ((zu l i).f2.length : Int)) = true := bT (of_decide_eq_true d3)
    have d3b : (ar != ((zu l i).f2.length : Int)) = false := bQ (of_decide_eq_true d3)
    clear d3
    go_region_held3 (fun w' => Below W1.heap.size W1 w' /\ w'.cell? ⟨G, 0, none⟩ = some (.int .i64 s2) /\ w'.cell? ⟨G, 1, none⟩ = some (.int .i64 n2) /\ w'.cell? ⟨w.heap.size, 0, none⟩ = some (.int .i64 a0) /\ w'.cell? ⟨w.heap.size, 1, none⟩ = some (.slice A1 l1.length c1) /\ w'.cell? ⟨w.heap.size, 2, none⟩ = some (.slice A2 l2.length c2) /\
      w'.cell? ⟨wr.heap.size, 0, none⟩ = some (.int .i64 (zu l i).f0) /\ w'.cell? ⟨wr.heap.size, 1, none⟩ = some (.int .i64 (zu l i).f1) /\ w'.cell? ⟨wr.heap.size, 2, none⟩ = some (.slice B2 (zu l i).f2.length b2) /\ w'.cell? ⟨wr.heap.size, 3, none⟩ = some (.slice B3 (zu l i).f3.length b3) /\ w'.cell? ⟨wr.heap.size, 4, none⟩ = some (.slice B4 (zu l i).f4.length b4))
     (first
      | exact ⟨zj (jc _ _), cG0, cG1, cP0, cP1, cP2, cS0, cS1, cS2, cS3, cS4⟩
      | (go_split_ands; exact ⟨yW (by assumption) (Below.size (by assumption)) hb, zx hb (by assumption), zx hb (by assumption), zx hb (by assumption), zx hb (by assumption), zx hb (by assumption), zx hb (by assumption), zx hb (by assumption), zx hb (by assumption), zx hb (by assumption), zx hb (by assumption)⟩))
     (first | (go_at_call 124; (with_reducible refine (zD.calls k1 a0 _ _ l1 _ _ l2 _ _ _ _ (zu l i).f2 _ _ (zu l i).f3 _ _ (zu l i).f4 ar _ ?s1 HC1.out ?s2 HC2.out ?s3 QL2.out ?s4 QL3.out ?s5 QL4.out AR.out).mono ?_); (case s1 => exact ji HR1.out (by repeat (first | exact B1.out | apply zj))); (case s2 => exact ji HR2.out (by repeat (first | exact B1.out | apply zj))); (case s3 => exact ji QR2.out (by repeat (first | exact B1.out | apply zj))); (case s4 => exact ji QR3.out (by repeat (first | exact B1.out | apply zj))); (case s5 => exact ji QR4.out (by repeat (first | exact B1.out | apply zj))); rintro e w' ⟨rfl, hb⟩))
    obtain ⟨hBw, hcG0, hcG1, hcP0, hcP1, hcP2, hcS0, hcS1, hcS2, hcS3, hcS4⟩ := ‹Below W1.heap.size W1 _ /\ _›
    have E2 := Yb GW.out BG.out hBw
    have BG := am E2.1
    have GW := am E2.2
    have BP := am ((hBw.block _ (zM BP.out)).trans BP.out)
    have BS := am ((hBw.block _ (zM BS.out)).trans BS.out)
    have hH := am H
    clear hBw hb E2 cG0 cG1 cP0 cP1 cP2 cS0 cS1 cS2 cS3 cS4 B1 AR d1 d3a d3b H
    have H := hH.out
    clear hH
    rcases z3X (zu l i).f0 (zu l i).f3.length (zu l i).f4.length with ⟨hno, hcs⟩ | ⟨hno, hcs⟩
    ·rw [hno] at H
     injection (sj (show some (false, s2, n2) = some (r, st', nd') from H)) with e1 e2
     injection e2 with e2 e3
     subst e1 e2 e3
     clear H hno
     rcases hcs with ⟨⟨g1, g2⟩, g3, g4⟩ | ⟨⟨g1, g2⟩, g3, g4, g5, g6⟩ | ⟨⟨g1, g2⟩, ⟨g3, g4⟩, g5⟩
     all_goals go_wp2
     all_goals (go_ret; exact ⟨rfl, BG.out, GW.out⟩)
    rw [hno] at H
    have HL := am (show zv.l1 k1 a0 l1 l2 l deep i 0 s2 n2 = some (r, st', nd') from H)
    clear H hno
    go_upto_region 10 with (fail)
    go_cut [78] (fun v78 wc => v78 = .bool false /\ Aside0 (wc.heap[G]? = some (.cells (Veq s2 n2) 151 (0, 0))) /\ Aside0 (wc.heap[w.heap.size]? = some (.cells (Vf a0 A1 l1 c1 A2 l2 c2) 25 (0, 0))) /\ Aside0 (wc.heap[wr.heap.size]? = some (.cells (Vgq ((zu l i).f0) ((zu l i).f1) B2 ((zu l i).f2.length) b2 B3 ((zu l i).f3.length) b3 B4 ((zu l i).f4.length) b4) 81 (0, 0))) /\ Aside0 (w.grownBy wc (some G)))
    case first =>
     rcases hcs with ⟨⟨g1, g2⟩, g3, g4, g5⟩ | ⟨⟨g1, g2⟩, g3, g4, g5⟩ | ⟨⟨g1, g2⟩, g3, g4, g5, g6⟩ | ⟨⟨g1, g2⟩, g3, g4⟩ | ⟨⟨g1, g2⟩, ⟨g3, g4⟩, g5⟩
     all_goals
      go_wp2
      go_meet
      case rel => exact ⟨rfl, BG, BP, BS, GW⟩
    case rest =>
     clear hcs BG BP BS GW hcG0 hcG1 hcP0 hcP1 hcP2 hcS0 hcS1 hcS2 hcS3 hcS4
     obtain ⟨rfl, BG, BP, BS, GW⟩ := hcut
     clear hlt hGlt
     generalize wr.heap.size = T at BS ⊢
     obtain ⟨cS0, cS1, cS2, cS3, cS4⟩ := z3b BS.out
     go_wp2
     clear cS0 cS1 cS2 cS3 cS4
     go_loopg [82] k1 (fun kq v82 wl => ∃ (j s3 n3 : Int), v82 = .int .i64 j /\ Aside0 (zv.l1 kq a0 l1 l2 l deep i j s3 n3 = some (r, st', nd')) /\ Aside0 (kq <= k1) /\ Aside0 (wl.heap[G]? = some (.cells (Veq s3 n3) 151 (0, 0))) /\
      Aside0 (wl.heap[w.heap.size]? = some (.cells (Vf a0 A1 l1 c1 A2 l2 c2) 25 (0, 0))) /\ Aside0 (wl.heap[T]? = some (.cells (Vgq ((zu l i).f0) ((zu l i).f1) B2 ((zu l i).f2.length) b2 B3 ((zu l i).f3.length) b3 B4 ((zu l i).f4.length) b4) 81 (0, 0))) /\ Aside0 (w.grownBy wl (some G)))
     case atStart => exact ⟨0, s2, n2, rfl, HL, ⟨jk _⟩, BG, BP, BS, GW⟩
     case round =>
      clear HL BG BP BS GW
      obtain ⟨j, s3, n3, rfl, HA, HK2, BG, BP, BS, GW⟩ := hrel
      cases gk with
      | zero => exact jm HA.out (by simp [zv.l1])
      | succ k2 =>
       have H := HA.out
       clear HA
       simp only [zv.l1] at H
       have H2 := yu H
       clear H
       have hTG := blk_ne BS.out BG.out (by decide)
       obtain ⟨cG0, cG1⟩ := z0G (fr := (0, 0)) BG.out
       obtain ⟨cP0, cP1, cP2⟩ := z27 BP.out
       obtain ⟨cS0, cS1, cS2, cS3, cS4⟩ := z3b BS.out
       have hGlt := zM BG.out
       have hTlt := zM BS.out
       have hPlt := zM BP.out
       have B0 := am (yS HB.out GW.out HG0.out)
       have hk1 := HK.out
       have hk2 := HK2.out
       rcases H2 with ⟨t3, H⟩ | ⟨t3, H⟩
       case inr =>
        replace H := Option.bind_eq_some_iff.mp H
        obtain ⟨⟨r3, s4, n4⟩, A30, H⟩ := H
        have A3 := am A30
        clear A30
        have H2 := z33 (t := r3) H
        clear H
        rcases H2 with ⟨rfl, H⟩ | ⟨rfl, H⟩
        case inr =>
         injection (sj H) with e1 e2
         injection e2 with e2 e3
         subst e1 e2 e3
         clear H
         go_wp2_with (first | (go_at_call 111; (with_reducible refine (ih'.out k2 (by omega) a0 _ _ l1 _ _ l2 _ _ (zu l i).f3 (wrap64 (deep + 1)) s3 n3 G false s4 n4 w0 _ HR1.out HC1.out HR2.out HC2.out QR3.out QL3.out B0.out HG0.out BG.out A3.out).mono ?_); rintro e w3 ⟨rfl, hG3, hgr3⟩))
         go_ret
         exact ⟨rfl, hG3, Yl GW.out hgr3⟩
        replace H := Option.bind_eq_some_iff.mp H
        obtain ⟨⟨r4, s5, n5⟩, A40, H⟩ := H
        have A4 := am A40
        clear A40
        have H2 := z33 (t := r4) H
        clear H
        rcases H2 with ⟨rfl, H⟩ | ⟨rfl, H⟩
        case inr =>
         injection (sj H) with e1 e2
         injection e2 with e2 e3
         subst e1 e2 e3
         clear H
         go_wp2_with (first
          | (go_at_call 111; (with_reducible refine (ih'.out k2 (by omega) a0 _ _ l1 _ _ l2 _ _ (zu l i).f3 (wrap64 (deep + 1)) s3 n3 G true s4 n4 w0 _ HR1.out HC1.out HR2.out HC2.out QR3.out QL3.out B0.out HG0.out BG.out A3.out).mono ?_); rintro e w3 ⟨rfl, hG3, hgr3⟩; have BG3 := am hG3; have BP3 := am (YN BP.out hgr3 hne); have BS3 := am (YN BS.out hgr3 hTG); have GW3 := am (Yl GW.out hgr3); have B3' := am (yS HB.out GW3.out HG0.out); obtain ⟨dP0, dP1, dP2⟩ := z27 BP3.out; obtain ⟨dS0, dS1, dS2, dS3, dS4⟩ := z3b BS3.out; clear hG3 hgr3)
          | (go_at_call 111; (with_reducible refine (ih'.out k2 (by omega) a0 _ _ l1 _ _ l2 _ _ (zu l i).f4 (wrap64 (deep + 1)) s4 n4 G false s5 n5 w0 _ HR1.out HC1.out HR2.out HC2.out QR4.out QL4.out B3'.out HG0.out BG3.out A4.out).mono ?_); rintro e w4 ⟨rfl, hG4, hgr4⟩))
         go_ret
         exact ⟨rfl, hG4, Yl GW3.out hgr4⟩
        have H' := am H
        clear H
        go_wp2_with (first
         | (go_at_call 111; (with_reducible refine (ih'.out k2 (by omega) a0 _ _ l1 _ _ l2 _ _ (zu l i).f3 (wrap64 (deep + 1)) s3 n3 G true s4 n4 w0 _ HR1.out HC1.out HR2.out HC2.out QR3.out QL3.out B0.out HG0.out BG.out A3.out).mono ?_); rintro e w3 ⟨rfl, hG3, hgr3⟩; have BG3 := am hG3; have BP3 := am (YN BP.out hgr3 hne); have BS3 := am (YN BS.out hgr3 hTG); have GW3 := am (Yl GW.out hgr3); have B3' := am (yS HB.out GW3.out HG0.out); obtain ⟨dP0, dP1, dP2⟩ := z27 BP3.out; obtain ⟨dS0, dS1, dS2, dS3, dS4⟩ := z3b BS3.out; clear hG3 hgr3)
         | (go_at_call 111; (with_reducible refine (ih'.out k2 (by omega) a0 _ _ l1 _ _ l2 _ _ (zu l i).f4 (wrap64 (deep + 1)) s4 n4 G true s5 n5 w0 _ HR1.out HC1.out HR2.out HC2.out QR4.out QL4.out B3'.out HG0.out BG3.out A4.out).mono ?_); rintro e w4 ⟨rfl, hG4, hgr4⟩))
        go_roundg k2
        case measure => omega
        case rel => exact ⟨_, s5, n5, rfl, H', ⟨by omega⟩, ⟨hG4⟩, ⟨YN BP3.out hgr4 hne⟩, ⟨Yl GW3.out hgr4⟩⟩
       have H2 := yu H
       clear H
       rcases H2 with ⟨t4, H⟩ | ⟨t4, H⟩
       case inr => exact jm H (by simp)
       have p2 : 0 <= j := of_decide_eq_true t4
       have p3 : j < ((zu l i).f2.length : Int) := of_decide_eq_true t3
       obtain ⟨ae, D3, d3, e2, u0, u1, u2, u3, ul, ur⟩ := Zk QR2.out j p2 p3
       cases e2
       replace u0 := (B0.out.cell (jd w0 _ u0)).trans u0
       replace u1 := (B0.out.cell (jd w0 _ u1)).trans u1
       replace u2 := (B0.out.cell (jd w0 _ u2)).trans u2
       replace u3 := (B0.out.cell (jd w0 _ u3)).trans u3
       have UL := am ul
       have UR := am ur
       clear ul ur
       replace H := Option.bind_eq_some_iff.mp H
       obtain ⟨tc, AC0, H⟩ := H
       have AC := am AC0
       clear AC0
       have hf0 := zf BG.out 0
       have hf1 := zf BG.out 1
       by_cases htc : tc = 0
       case neg =>
        rw [ja htc] at H
        injection (sj H) with e1 e2
        injection e2 with e2 e3
        subst e1 e2 e3
        clear H
        have g1 : (tc == 0) = false := bF htc
        have g2 : (tc != 0) = true := bN htc
        clear htc
        go_wp2_with (first | (go_at_call 125; (with_reducible refine (yV.calls k2 a0 _ _ l1 1 _ _ _ _ _ (zi (zu l i).f2 j).f3 tc _ ?s1 HC1.out ?s2 UL.out AC.out).mono ?_); (case s1 => exact ji HR1.out (by repeat (first | exact B0.out | apply bal | apply zj))); (case s2 => exact ji UR.out (by repeat (first | exact B0.out | apply bal | apply zj))); rintro e w5 ⟨rfl, hb5⟩))
        go_ret
        exact ⟨rfl, Yb (Yl GW.out (World.grownBy_alloc _ _ _)) (kal BG.out _) hb5⟩
       subst htc
       rw [jb rfl] at H
       replace H := Option.bind_eq_some_iff.mp H
       obtain ⟨m, AM0, H⟩ := H
       have AM := am AM0
       have H' := am H
       clear AM0 H
       go_wp2_with (first | (go_at_call 125; (with_reducible refine (yV.calls k2 a0 _ _ l1 1 _ _ _ _ _ (zi (zu l i).f2 j).f3 0 _ ?s1 HC1.out ?s2 UL.out AC.out).mono ?_); (case s1 => exact ji HR1.out (by repeat (first | exact B0.out | apply bal | apply zj))); (case s2 => exact ji UR.out (by repeat (first | exact B0.out | apply bal | apply zj))); rintro e w5 ⟨rfl, hb5⟩))
       have F5 := Yb (Yl GW.out (World.grownBy_alloc _ _ _)) (kal BG.out _) hb5
       have BG5 := am F5.1
       have GW5 := am F5.2
       have BP5 := am ((hb5.block _ (by simp; omega)).trans (kal BP.out _))
       have BS5 := am ((hb5.block _ (by simp; omega)).trans (kal BS.out _))
       have BE5 := (hb5.block wr.heap.size (by simp)).trans (heap_alloc_new _ _)
       have B5 := am (yS HB.out GW5.out HG0.out)
       have e0 : w5.cell? ⟨wr.heap.size, 0, none⟩ = some (.int .i64 (zi (zu l i).f2 j).f0) := (za BE5 0).trans rfl
       have e1 : w5.cell? ⟨wr.heap.size, 1, none⟩ = some (.int .i64 (zi (zu l i).f2 j).f1) := (za BE5 1).trans rfl
       have e2 : w5.cell? ⟨wr.heap.size, 2, none⟩ = some (.int .i64 (zi (zu l i).f2 j).f2) := (za BE5 2).trans rfl
       have e3 : w5.cell? ⟨wr.heap.size, 3, none⟩ = some (.slice D3 (zi (zu l i).f2 j).f3.length d3) := (za BE5 3).trans rfl
       obtain ⟨gG0, gG1⟩ := z0G (fr := (0, 0)) BG5.out
       have gf1 := zf BG5.out 1
       have hEG : wr.heap.size ≠ G := by omega
       have hGl5 := zM BG5.out
       clear F5 hb5 BE5 u0 u1 u2 u3 cG0 cG1 cP0 cP1 cP2 cS0 cS1 cS2 cS3 cS4 hf0 hf1 AC
       go_region_with
        (first | (go_at_call 126; (with_reducible refine (Zf.calls k2 _ _ _ _ _ (zi (zu l i).f2 j).f3 m _ ?s1 UL.out AM.out).mono ?_); (case s1 => exact ji UR.out (by repeat (first | exact B5.out | apply zj))); rintro e w' ⟨rfl, hb⟩; have gG1' := zx hb (show w5.drew.cell? _ = _ from gG1); have gf1' : w'.frozen? ⟨G, 1, none⟩ = false := (hb.frozen (p := ⟨G, 1, none⟩) hGl5).trans gf1; have hb' := am (undrew hb)))
       all_goals
        go_wp2
        go_roundg k2
        case measure => omega
        case rel =>
         have E6 := Yb GW5.out BG5.out hb'.out
         have BP6 := (hb'.out.block _ (zM BP5.out)).trans BP5.out
         have BS6 := (hb'.out.block _ (zM BS5.out)).trans BS5.out
         have q1 := yD E6.1 1 (.int .i64 (wrap64 (n3 + m)))
         refine ⟨_, s3, _, rfl, H', ⟨by omega⟩, ⟨?_⟩, ⟨(jl _ _ _ _ hne).trans BP6⟩, ⟨(jl _ _ _ _ hTG).trans BS6⟩, ⟨Yl E6.2 ⟨rfl, rfl, rfl, by simp [World.setCell], fun i hi hn => jl _ _ _ _ (fun e => hn (by rw [e]))⟩⟩⟩
         first | simpa using q1 | simpa [zP] using q1
def ZY.f (k : Nat) (a0 : Int) (l1 : List S76) (l2 : List S81) : Option (Int × Int × Bool) :=
 (zH.f k a0 l1).bind fun t => if t = 0 then ((zv.f k a0 l1 l2 l2 1 0 0).bind fun p => if p.1 = true then some (p.2.1, p.2.2, true) else some (0, 0, false)) else some (0, 0, false)
theorem z1o {w w1 : World} {o1 o2 : Obj} (hb : Below ((w.alloc o1).alloc o2).heap.size ((w.alloc o1).alloc o2) w1) :
  w1.heap[w.heap.size]? = some o1 /\ w1.heap[w.heap.size + 1]? = some o2 /\ Below w.heap.size w w1 := by
 have b1 : ((w.alloc o1).alloc o2).heap[w.heap.size]? = some o1 := kal (heap_alloc_new w _) _
 have b2 : ((w.alloc o1).alloc o2).heap[w.heap.size + 1]? = some o2 := by have := heap_alloc_new (w.alloc o1) o2; simpa using this
 exact ⟨(hb.block _ (zM b1)).trans b1, (hb.block _ (zM b2)).trans b2, yW (bal (bal (jc _ _) _) _) (by simp; omega) hb⟩
theorem ZY.calls (k : Nat) (a0 : Int) (A1 : Option Addr) (c1 : Nat) (l1 : List S76) (A2 : Option Addr) (c2 : Nat) (l2 : List S81) (r1 r2 : Int) (r3 : Bool) (w : World)
  (hr1 : Kd.C k76 w A1 l1.length l1) (hc1 : l1.length <= c1) (hr2 : Kd.C k81 w A2 l2.length l2) (hc2 : l2.length <= c2) (h : ZY.f k a0 l1 l2 = some (r1, r2, r3)) :
  Calls Tryz.prog 91 #[.agg (Vf a0 A1 l1 c1 A2 l2 c2)] w fun e w' => e = .returned (.tuple #[.agg (Veq r1 r2), .bool r3]) /\ Below w.heap.size w w' := by
 have huP := Tryz.underlying25
 have huC := Tryz.underlying151
 have HR1 := am hr1
 have HC1 := am hc1
 have HR2 := am hr2
 have HC2 := am hc2
 clear hr1 hc1 hr2 hc2
 unfold ZY.f at h
 obtain ⟨t, T0, H⟩ := Option.bind_eq_some_iff.mp h
 have T := am T0
 have HB := am (jc w.heap.size w)
 clear T0 h
 by_cases ht : t = 0
 case neg =>
  rw [ja ht] at H
  injection (sj H) with e1 e2
  injection e2 with e2 e3
  subst e1 e2 e3
  have g1 : (t == 0) = false := bF ht
  have g2 : (t != 0) = true := bN ht
  clear ht H
  go_enter Tryz.func91, Tryz.ntmps91
  go_wp2_with (first
   | (go_at_call 110; (with_reducible refine (zH.calls k a0 _ _ l1 _ _ ?side1 HC1.out T.out).mono ?_); (case side1 => exact ji HR1.out (by repeat (first | exact HB.out | apply bal | apply bd1))); rintro e w1 ⟨rfl, hb⟩; obtain ⟨k1, k2, hb1⟩ := z1o hb; have B1 := am hb1; have BC := am k2; obtain ⟨x0, x1⟩ := z0G (fr := (0, 0)) k2; have y0 := zf k2 0; have y1 := zf k2 1; have z1 := zM k2; clear hb hb1 k1 k2))
  refine bodyPost_ret (v := .tuple #[.agg Vnq, .bool false]) (by simp [results, Tryz.results91, go_sem, x0, x1]) rfl ⟨rfl, ?_⟩
  repeat (first | exact B1.out | refine bst ?_ (by omega))
 subst ht
 rw [jb rfl] at H
 obtain ⟨⟨q, s', n'⟩, F0, H⟩ := Option.bind_eq_some_iff.mp H
 have F := am F0
 clear F0
 have H2 := z33 (t := q) H
 clear H
 rcases H2 with ⟨rfl, H⟩ | ⟨rfl, H⟩
 ·injection (sj H) with e1 e2
  injection e2 with e2 e3
  dsimp only at e1 e2
  subst e1 e2 e3
  clear H
  go_enter Tryz.func91, Tryz.ntmps91
  go_wp2_with (first | (go_at_call 110; (with_reducible refine (zH.calls k a0 _ _ l1 _ _ ?side1 HC1.out T.out).mono ?_); (case side1 => exact ji HR1.out (by repeat (first | exact HB.out | apply bal | apply bd1))); rintro e w1 ⟨rfl, hb⟩; obtain ⟨k1, k2, hb1⟩ := z1o hb; have B1 := am hb1; have BC := am k2; have BP := am k1; obtain ⟨x0, x1⟩ := z0G (fr := (0, 0)) k2; obtain ⟨u0, u1, u2⟩ := z27 k1; have y0 := zf k2 0; have y1 := zf k2 1; have z1 := zM k2; clear hb hb1 k1 k2) | (go_at_call 111; (with_reducible refine (zv.calls k a0 _ _ l1 _ _ l2 _ _ l2 1 0 0 (w.heap.size + 1) true s' n' w _ HR1.out HC1.out HR2.out HC2.out HR2.out HC2.out B1.out (by omega) BC.out F.out).mono ?_); rintro e w2 ⟨rfl, hG2, hgr2⟩; have B2 := am (yS B1.out hgr2 (by omega)); have BC2 := am hG2; obtain ⟨v0, v1⟩ := z0G (fr := (0, 0)) hG2; have f0 := zf hG2 0; have f1 := zf hG2 1; have z2 := zM hG2; clear hG2 hgr2))
  refine bodyPost_ret (v := .tuple #[.agg (Veq s' n'), .bool true]) (by simp [results, Tryz.results91, go_sem, v0, v1]) rfl ⟨rfl, ?_⟩
  repeat (first | exact B2.out | refine bst ?_ (by omega))
 ·injection (sj H) with e1 e2
  injection e2 with e2 e3
  subst e1 e2 e3
  clear H
  go_enter Tryz.func91, Tryz.ntmps91
  go_wp2_with (first | (go_at_call 110; (with_reducible refine (zH.calls k a0 _ _ l1 _ _ ?side1 HC1.out T.out).mono ?_); (case side1 => exact ji HR1.out (by repeat (first | exact HB.out | apply bal | apply bd1))); rintro e w1 ⟨rfl, hb⟩; obtain ⟨k1, k2, hb1⟩ := z1o hb; have B1 := am hb1; have BC := am k2; have BP := am k1; obtain ⟨x0, x1⟩ := z0G (fr := (0, 0)) k2; obtain ⟨u0, u1, u2⟩ := z27 k1; have y0 := zf k2 0; have y1 := zf k2 1; have z1 := zM k2; clear hb hb1 k1 k2) | (go_at_call 111; (with_reducible refine (zv.calls k a0 _ _ l1 _ _ l2 _ _ l2 1 0 0 (w.heap.size + 1) false s' n' w _ HR1.out HC1.out HR2.out HC2.out HR2.out HC2.out B1.out (by omega) BC.out F.out).mono ?_); rintro e w2 ⟨rfl, hG2, hgr2⟩; have B2 := am (yS B1.out hgr2 (by omega)); have BC2 := am hG2; obtain ⟨v0, v1⟩ := z0G (fr := (0, 0)) hG2; have f0 := zf hG2 0; have f1 := zf hG2 1; have z2 := zM hG2; clear hG2 hgr2))
  refine bodyPost_ret (v := .tuple #[.agg Vnq, .bool false]) (by simp [results, Tryz.results91, go_sem, v0, v1]) rfl ⟨rfl, ?_⟩
  repeat (first | exact B2.out | refine bst ?_ (by omega))
def Zy.f (k : Nat) (a0_0 : Int) (l0_1 : List (S76)) (l0_2 : List (S81)) : Option (Int) := (ZY.f k a0_0 l0_1 l0_2).bind fun bt138 => (if bt138.2.2 = true then (some 0) else (some 30))
theorem Zy.calls (k : Nat) (a0_0 : Int) (A0_1 : Option Addr) (c0_1 : Nat) (l0_1 : List (S76)) (A0_2 : Option Addr) (c0_2 : Nat) (l0_2 : List (S81)) (r : Int) (w : World) (hr0_1 : Kd.C k76 w A0_1 l0_1.length l0_1) (hc0_1 : l0_1.length <= c0_1) (hr0_2 : Kd.C k81 w A0_2 l0_2.length l0_2) (hc0_2 : l0_2.length <= c0_2) (h : Zy.f k a0_0 l0_1 l0_2 = some r) :
  Calls Tryz.prog 60 #[.agg (Vf a0_0 A0_1 l0_1 c0_1 A0_2 l0_2 c0_2)] w fun e w' => e = .returned (.int .i64 r) /\ Below w.heap.size w w' := by
 have hu25 := Tryz.underlying25
 have hu151 := Tryz.underlying151
 have HR0_1 := am hr0_1
 have HC0_1 := am hc0_1
 clear hr0_1 hc0_1
 have HR0_2 := am hr0_2
 have HC0_2 := am hc0_2
 clear hr0_2 hc0_2
 have HB := am (jc w.heap.size w)
 have H := h
 clear h
 replace H := Option.bind_eq_some_iff.mp H
 obtain ⟨⟨t138, t139, t140⟩, A20, H⟩ := H
 replace H : (if t140 = true then (some 0) else (some 30)) = some r := H
 have A2 := am A20
 clear A20
 replace H := bo H
 obtain ⟨rfl, H⟩ | ⟨rfl, H⟩ := H
 ·obtain rfl := sj H
  go_enter Tryz.func60, Tryz.ntmps60
  go_wp2_with (first | ((with_reducible refine zw (N := 1) rfl ?_); refine bz HB 1 rfl rfl (Vf a0_0 A0_1 l0_1 c0_1 A0_2 l0_2 c0_2) 25 ?_; intro gb137 w4 BK137 GE137 HB; have hz5 := cf3 BK137.out) | (go_at_call 91; (with_reducible refine (ZY.calls k a0_0 _ _ l0_1 _ _ l0_2 t138 t139 true _ (cb HR0_1 HB) HC0_1.out (cb HR0_2 HB) HC0_2.out A2.out).mono ?_); rintro e w6 ⟨rfl, hb⟩; replace BK137 := kb BK137 hb; replace HB := sb HB hb) | ((with_reducible refine zw (N := 3) rfl ?_); refine bx 3 rfl rfl Vnq 151 ?_; intro gb141 hg w7 hbox hb; have BK141 := am (hbox); have GE141 := ge HB hg; have NB137_141 := nl BK137 hg; have NB141_137 := ng BK137 hg; replace BK137 := kb BK137 hb; replace HB := sb HB hb; clear hb hbox hg; have hnb8 := NB141_137.out; have hnc8 := NB137_141.out; have hz9 := cf2 BK141.out))
  go_ret
  exact ⟨rr, bb HB⟩
 obtain rfl := sj H
 go_enter Tryz.func60, Tryz.ntmps60
 go_wp2_with (first | ((with_reducible refine zw (N := 1) rfl ?_); refine bz HB 1 rfl rfl (Vf a0_0 A0_1 l0_1 c0_1 A0_2 l0_2 c0_2) 25 ?_; intro gb137 w10 BK137 GE137 HB; have hz11 := cf3 BK137.out) | (go_at_call 91; (with_reducible refine (ZY.calls k a0_0 _ _ l0_1 _ _ l0_2 t138 t139 false _ (cb HR0_1 HB) HC0_1.out (cb HR0_2 HB) HC0_2.out A2.out).mono ?_); rintro e w12 ⟨rfl, hb⟩; replace BK137 := kb BK137 hb; replace HB := sb HB hb) | ((with_reducible refine zw (N := 3) rfl ?_); refine bx 3 rfl rfl Vnq 151 ?_; intro gb141 hg w13 hbox hb; have BK141 := am (hbox); have GE141 := ge HB hg; have NB137_141 := nl BK137 hg; have NB141_137 := ng BK137 hg; replace BK137 := kb BK137 hb; replace HB := sb HB hb; clear hb hbox hg; have hnb14 := NB141_137.out; have hnc14 := NB137_141.out; have hz15 := cf2 BK141.out))
 go_ret
 exact ⟨rr, bb HB⟩
mutual
def zY.l0 : Nat -> List (S81) -> Int -> Int -> Option (Int)
 | 0, _, _, _ => none
 | k + 1, x0, x3, x4 => if x4 < (x0.length : Int) then (if 0 <= x4 then ((zY.f k ((zu x0 x4).f3)).bind fun t831 => ((zY.f k ((zu x0 x4).f4)).bind fun t833 => (zY.l0 k x0 (mx (mx x3 (wrap64 (1 + t831))) (wrap64 (1 + t833))) (wrap64 (x4 + 1))))) else (none)) else (some x3)
def zY.f : Nat -> List (S81) -> Option (Int)
 | 0, _ => none
 | k + 1, l0 => zY.l0 k l0 0 0
end
def zY.T5 : Bool × List (List Nat × List Nat) := (true, [([], []), ([], []), ([], []), ([1, 2], [1, 2]), ([3], [3]), ([4], [4]), ([5], [5]), ([6], [6]), ([], []), ([], []), ([8, 9], [8, 9]), ([10], [10]), ([11], [11]), ([12, 6], [12]), ([13], [13]), ([0, 7, 14], [0, 7, 14]), ([15, 13, 0, 1, 2, 3, 4, 5, 6, 7, 8, 9, 10, 11, 12, 13, 14, 15], [0, 15])])
def zY.B5 : List Nat := [0, 0, 0, 6, 14, 30, 62, 126, 0, 0, 768, 1792, 3840, 8062, 16254, 32767, 65535]
theorem zY.tab5 : Yh .any (z5H Tryz.f36 5) = zY.T5 := by kernel_rfl
theorem zY.bits5 : z03 zY.T5.2 zY.B5 = true := by kernel_rfl
theorem zY.calls (k : Nat) : ∀ (A0 : Option Addr) (c0 : Nat) (l0 : List (S81)) (r : Int) (w : World) (hr0 : Kd.C k81 w A0 l0.length l0) (hc0 : l0.length <= c0) (h : zY.f k l0 = some r),
  Calls Tryz.prog 36 #[.slice A0 l0.length c0] w fun e w' => e = .returned (.int .i64 r) /\ Below w.heap.size w w' := by
 induction k using Nat.strongRecOn with
 | _ k ih =>
 intro A0 c0 l0 r w hr0 hc0 h
 cases k with
 | zero => exact jm h (by simp [zY.f])
 | succ k =>
 simp only [zY.f] at h
 have HR0 := am hr0
 have HC0 := am hc0
 clear hr0 hc0
 have HB := am (jc w.heap.size w)
 have H := h
 clear h
 have H' := am H
 clear H
 go_enter Tryz.func36, Tryz.ntmps36
 go_wp2
 go_loopg [3, 4] k (fun kq v3 v4 w' => ∃ (x3_1 : Int) (x4_1 : Int), v3 = .int .i64 x3_1 /\ v4 = .int .i64 x4_1 /\ Aside0 (zY.l0 kq l0 x3_1 x4_1 = some r) /\ Aside0 (kq <= k) /\ Aside0 (Below w.heap.size w w'))
 case atStart => exact ⟨(0), (0), rs, rs, H', ⟨jk _⟩, ⟨bb HB⟩⟩
 case round =>
  clear H'
  obtain ⟨x3_1, x4_1, rfl, rfl, HA, HK1, HB⟩ := hrel
  cases gk with
  | zero => exact jm HA.out (by simp [zY.l0])
  | succ k1 =>
   have H := HA.out
   clear HA
   simp only [zY.l0] at H
   obtain ⟨c2b0, H⟩ | ⟨c2b0, H⟩ := ei H
   ·obtain rfl := sj H
    go_wp2
    go_ret
    exact ⟨rr, bb HB⟩
   obtain ⟨c3b0, H⟩ := pd H
   obtain ⟨t831, A4, H⟩ := be H
   obtain ⟨t833, A5, H⟩ := be H
   obtain ⟨ji6, hji6⟩ : ∃ j_ : Int, (mx x3_1 (wrap64 (1 + t831))) = j_ := ⟨_, rfl⟩
   replace H : (zY.l0 k1 l0 (mx (ji6) (wrap64 (1 + t833))) (wrap64 (x4_1 + 1))) = some r := by first | (rw [hji6] at H; exact H) | (simp only [hji6] at H ⊢; exact H)
   (try rw [hji6] at A4)
   (try rw [hji6] at A5)
   have hji6_ : (if x3_1 < (wrap64 (1 + t831)) then (wrap64 (1 + t831)) else x3_1) = ji6 := hji6
   obtain ⟨ji7, hji7⟩ : ∃ j_ : Int, (mx (ji6) (wrap64 (1 + t833))) = j_ := ⟨_, rfl⟩
   replace H : (zY.l0 k1 l0 ji7 (wrap64 (x4_1 + 1))) = some r := by first | (rw [hji7] at H; exact H) | (simp only [hji7] at H ⊢; exact H)
   (try rw [hji7] at A4)
   (try rw [hji7] at A5)
   have hji7_ : (if (ji6) < (wrap64 (1 + t833)) then (wrap64 (1 + t833)) else (ji6)) = ji7 := hji7
   have H' := am H
   clear H
   try go_wp2
   replace HB := am (bd1 HB.out)
   have p830 : 0 <= (x4_1 : Int) := od
   have q830 : x4_1 < (l0.length : Int) := od
   obtain ⟨ad830, A830_2, c830_2, A830_3, c830_3, A830_4, c830_4, e830, hx830_0, hx830_1, hx830_2, hx830_3, hx830_4, hl830_2, hi830_2, hl830_3, hi830_3, hl830_4, hi830_4⟩ := yH HR0.out x4_1 p830 q830
   have hw830_4 := hx830_4
   have hw830_3 := hx830_3
   have hw830_2 := hx830_2
   have hw830_1 := hx830_1
   have hw830_0 := hx830_0
   cases e830
   replace hx830_0 := zo HB.out hx830_0
   replace hx830_1 := zo HB.out hx830_1
   replace hx830_2 := zo HB.out hx830_2
   replace hx830_3 := zo HB.out hx830_3
   replace hx830_4 := zo HB.out hx830_4
   have HR830_2 := am hi830_2
   have HC830_2 := am hl830_2
   clear hi830_2 hl830_2
   have HR830_3 := am hi830_3
   have HC830_3 := am hl830_3
   clear hi830_3 hl830_3
   have HR830_4 := am hi830_4
   have HC830_4 := am hl830_4
   clear hi830_4 hl830_4
   replace p830 := eT p830
   replace q830 := eT q830
   refine sT 17 [0, 1, 2, 3, 4, 8, 9, 10, 11, 5, 12, 6, 7, 13, 14, 15, 16] [] fun hHeld => ?_
   generalize wr.drew = w8 at HB HR830_2 HR830_3 HR830_4 hx830_0 hx830_1 hx830_2 hx830_3 hx830_4 hHeld ⊢
   repeat first | refine nx ?_ | refine ldT hHeld ?_ | refine un ?_
   refine on fun K hK => ?_
   refine gC Tryz.func36 ?_
   with_reducible refine (ih k1 (by have := HK1.out; omega) _ _ ((zu l0 x4_1).f3) t831 _ (cb HR830_3 HB) HC830_3.out A4.out).mono ?_
   rintro e w9 ⟨rfl, hb⟩
   refine ⟨_, rfl, ?_⟩
   replace HB := sb HB hb
   refine hK.out _ _ (kp hHeld) fun hHeld => ?_
   clear hK K
   refine nM ?_
   repeat first | refine nx ?_ | refine ldT hHeld ?_ | refine un ?_
   refine on fun K hK => ?_
   refine gC Tryz.func36 ?_
   with_reducible refine (ih k1 (by have := HK1.out; omega) _ _ ((zu l0 x4_1).f4) t833 _ (cb HR830_4 HB) HC830_4.out A5.out).mono ?_
   rintro e w10 ⟨rfl, hb⟩
   refine ⟨_, rfl, ?_⟩
   replace HB := sb HB hb
   refine hK.out _ _ (kp hHeld) fun hHeld => ?_
   clear hK K
   refine nM ?_
   repeat first | refine nx ?_ | refine ldT hHeld ?_ | refine un ?_
   refine dn ?_
   try go_wp2
   go_roundg k1
   case measure => have := HK1.out; omega
   case rel => exact ⟨(ji7), (wrap64 (x4_1 + 1)), (by first | rfl | (simp; done) | (simp only [<- hji7] <;> (first | rfl | simp)) | (simp [*]; done)), rs, H', ⟨by have := HK1.out; omega⟩, ⟨bb HB⟩⟩
mutual
def zX.l0 : Nat -> List (S81) -> Int -> Int -> Option (Int)
 | 0, _, _, _ => none
 | k + 1, x0, x1, x5 => if x5 < (x0.length : Int) then (zX.j1 k x0 x1 x5 (decide (x1 > 0))) else (zX.j1 k x0 x1 x5 false)
def zX.j1 : Nat -> List (S81) -> Int -> Int -> Bool -> Option (Int)
 | 0, _, _, _, _ => none
 | k + 1, x0, x1, x5, x14 => if x14 = true then (zX.l1 k x0 (wrap64 (x1 - 1)) x5 0) else (some x1)
def zX.l1 : Nat -> List (S81) -> Int -> Int -> Int -> Option (Int)
 | 0, _, _, _, _ => none
 | k + 1, x0, x1, x5, x6 => if 0 <= x5 then (if x5 < (x0.length : Int) then (if x6 < (((zu x0 x5).f2).length : Int) then (if 0 <= x6 then ((ZF.f k ((zi ((zu x0 x5).f2) x6).f0) ((zi ((zu x0 x5).f2) x6).f1) ((zi ((zu x0 x5).f2) x6).f2) ((zi ((zu x0 x5).f2) x6).f3) x1).bind fun t107 => (zX.l1 k x0 t107 x5 (wrap64 (x6 + 1)))) else (none)) else ((zX.f k ((zu x0 x5).f3) x1).bind fun t109 => ((zX.f k ((zu x0 x5).f4) t109).bind fun t111 => (zX.l0 k x0 t111 (wrap64 (x5 + 1)))))) else (none)) else (none)
def zX.f : Nat -> List (S81) -> Int -> Option (Int)
 | 0, _, _ => none
 | k + 1, l0, a1 => zX.l0 k l0 a1 0
end
theorem zX.calls (k : Nat) : ∀ (A0 : Option Addr) (c0 : Nat) (l0 : List (S81)) (a1 : Int) (r : Int) (w : World) (hr0 : Kd.C k81 w A0 l0.length l0) (hc0 : l0.length <= c0) (h : zX.f k l0 a1 = some r),
  Calls Tryz.prog 29 #[.slice A0 l0.length c0, .int .i64 a1] w fun e w' => e = .returned (.int .i64 r) /\ Below w.heap.size w w' := by
 induction k using Nat.strongRecOn with
 | _ k ih =>
 intro A0 c0 l0 a1 r w hr0 hc0 h
 cases k with
 | zero => exact jm h (by simp [zX.f])
 | succ k =>
 simp only [zX.f] at h
 have hu62 := Tryz.underlying62
 have HR0 := am hr0
 have HC0 := am hc0
 clear hr0 hc0
 have HB := am (jc w.heap.size w)
 have H := h
 clear h
 have H' := am H
 clear H
 go_enter Tryz.func29, Tryz.ntmps29
 go_wp2
 go_loopg [1, 5] k (fun kq v1 v5 w' => ∃ (x1_1 : Int) (x5_1 : Int), v1 = .int .i64 x1_1 /\ v5 = .int .i64 x5_1 /\ Aside0 (zX.l0 kq l0 x1_1 x5_1 = some r) /\ Aside0 (kq <= k) /\ Aside0 (Below w.heap.size w w'))
 case atStart => exact ⟨(a1), (0), rs, rs, H', ⟨jk _⟩, ⟨bb HB⟩⟩
 case round =>
  clear H'
  obtain ⟨x1_1, x5_1, rfl, rfl, HA, HK1, HB⟩ := hrel
  cases gk with
  | zero => exact jm HA.out (by simp [zX.l0])
  | succ k1 =>
   have H := HA.out
   clear HA
   simp only [zX.l0] at H
   have HC3 := am H
   clear H
   go_upto_region 2 with (fail)
   go_cut [14] (fun v14 wc => ∃ (kq : Nat) (x14_2 : Bool), v14 = .bool x14_2 /\ Aside0 (zX.j1 kq l0 x1_1 x5_1 x14_2 = some r) /\ Aside0 (kq <= k1) /\ Aside0 (Below w.heap.size w wc))
   case first =>
    have H := HC3.out
    clear HC3
    obtain ⟨c4b0, H⟩ | ⟨c4b0, H⟩ := ei H
    ·(first | rw [c4b0] | (simp only [zP, Zr]; rw [c4b0]) | skip)
     have H' := am H
     clear H
     go_wp2
     go_meet
     case rel => exact ⟨_, (false), rs, H', ⟨by have := HK1.out; first | omega | exact jk _⟩, ⟨bb HB⟩⟩
    (first | rw [c4b0] | (simp only [zP, Zr]; rw [c4b0]) | skip)
    have H' := am H
    clear H
    go_wp2
    go_meet
    case rel => exact ⟨_, (decide (x1_1 > 0)), rs, H', ⟨by have := HK1.out; first | omega | exact jk _⟩, ⟨bb HB⟩⟩
   case rest =>
    clear HC3
    obtain ⟨kq, x14_2, rfl, HA, HJ2, HB⟩ := hcut
    cases kq with
    | zero => exact jm HA.out (by simp [zX.j1])
    | succ kj2 =>
     have H := HA.out
     clear HA
     simp only [zX.j1] at H
     replace H := ob H
     obtain ⟨rfl, H⟩ | ⟨rfl, H⟩ := H
     ·obtain rfl := sj H
      go_wp2
      go_ret
      exact ⟨rr, bb HB⟩
     have H' := am H
     clear H
     go_wp2
     go_loopg [1, 6] kj2 (fun kq v1 v6 w' => ∃ (x1_3 : Int) (x6_3 : Int), v1 = .int .i64 x1_3 /\ v6 = .int .i64 x6_3 /\ Aside0 (zX.l1 kq l0 x1_3 x5_1 x6_3 = some r) /\ Aside0 (kq <= kj2) /\ Aside0 (Below w.heap.size w w'))
     case atStart => exact ⟨(wrap64 (x1_1 - 1)), (0), rs, rs, H', ⟨jk _⟩, ⟨bb HB⟩⟩
     case round =>
      clear H'
      obtain ⟨x1_3, x6_3, rfl, rfl, HA, HK3, HB⟩ := hrel
      cases gk with
      | zero => exact jm HA.out (by simp [zX.l1])
      | succ k3 =>
       have H := HA.out
       clear HA
       simp only [zX.l1] at H
       obtain ⟨c6b0, H⟩ := pd H
       obtain ⟨c7b0, H⟩ := pd H
       obtain ⟨c8b0, H⟩ | ⟨c8b0, H⟩ := iE H
       ·obtain ⟨c9b0, H⟩ := pd H
        obtain ⟨t107, A10, H⟩ := be H
        have H' := am H
        clear H
        have p104 : 0 <= (x5_1 : Int) := od
        have q104 : x5_1 < (l0.length : Int) := od
        obtain ⟨ad104, A104_2, c104_2, A104_3, c104_3, A104_4, c104_4, e104, hx104_0, hx104_1, hx104_2, hx104_3, hx104_4, hl104_2, hi104_2, hl104_3, hi104_3, hl104_4, hi104_4⟩ := yH HR0.out x5_1 p104 q104
        cases e104
        replace hx104_0 := zo HB.out hx104_0
        replace hx104_1 := zo HB.out hx104_1
        replace hx104_2 := zo HB.out hx104_2
        replace hx104_3 := zo HB.out hx104_3
        replace hx104_4 := zo HB.out hx104_4
        have HR104_2 := am hi104_2
        have HC104_2 := am hl104_2
        clear hi104_2 hl104_2
        have HR104_3 := am hi104_3
        have HC104_3 := am hl104_3
        clear hi104_3 hl104_3
        have HR104_4 := am hi104_4
        have HC104_4 := am hl104_4
        clear hi104_4 hl104_4
        replace p104 := eT p104
        replace q104 := eT q104
        have p106 : 0 <= (x6_3 : Int) := od
        have q106 : x6_3 < (((zu l0 x5_1).f2).length : Int) := od
        obtain ⟨ad106, A106_3, c106_3, e106, hx106_0, hx106_1, hx106_2, hx106_3, hl106_3, hi106_3⟩ := Zk HR104_2.out x6_3 p106 q106
        cases e106
        replace hx106_0 := zo HB.out hx106_0
        replace hx106_1 := zo HB.out hx106_1
        replace hx106_2 := zo HB.out hx106_2
        replace hx106_3 := zo HB.out hx106_3
        have HR106_3 := am hi106_3
        have HC106_3 := am hl106_3
        clear hi106_3 hl106_3
        replace p106 := eT p106
        replace q106 := eT q106
        go_wp2_with (first | (go_at_call 59; (with_reducible refine (ZF.calls k3 ((zi ((zu l0 x5_1).f2) x6_3).f0) ((zi ((zu l0 x5_1).f2) x6_3).f1) ((zi ((zu l0 x5_1).f2) x6_3).f2) _ _ ((zi ((zu l0 x5_1).f2) x6_3).f3) x1_3 t107 _ (cb HR106_3 HB) HC106_3.out A10.out).mono ?_); rintro e w11 ⟨rfl, hb⟩; replace HB := sb HB hb))
        go_roundg k3
        case measure => have := HK1.out; have := HJ2.out; have := HK3.out; omega
        case rel => exact ⟨(t107), (wrap64 (x6_3 + 1)), rs, rs, H', ⟨by have := HK1.out; have := HJ2.out; have := HK3.out; omega⟩, ⟨bb HB⟩⟩
       obtain ⟨t109, A12, H⟩ := be H
       obtain ⟨t111, A13, H⟩ := be H
       have H' := am H
       clear H
       have p104 : 0 <= (x5_1 : Int) := od
       have q104 : x5_1 < (l0.length : Int) := od
       obtain ⟨ad104, A104_2, c104_2, A104_3, c104_3, A104_4, c104_4, e104, hx104_0, hx104_1, hx104_2, hx104_3, hx104_4, hl104_2, hi104_2, hl104_3, hi104_3, hl104_4, hi104_4⟩ := yH HR0.out x5_1 p104 q104
       cases e104
       replace hx104_0 := zo HB.out hx104_0
       replace hx104_1 := zo HB.out hx104_1
       replace hx104_2 := zo HB.out hx104_2
       replace hx104_3 := zo HB.out hx104_3
       replace hx104_4 := zo HB.out hx104_4
       have HR104_2 := am hi104_2
       have HC104_2 := am hl104_2
       clear hi104_2 hl104_2
       have HR104_3 := am hi104_3
       have HC104_3 := am hl104_3
       clear hi104_3 hl104_3
       have HR104_4 := am hi104_4
       have HC104_4 := am hl104_4
       clear hi104_4 hl104_4
       replace p104 := eT p104
       replace q104 := eT q104
       go_wp2_with (first | (go_at_call 29; (with_reducible refine (ih k3 (by have := HK1.out; have := HJ2.out; have := HK3.out; omega) _ _ ((zu l0 x5_1).f3) x1_3 t109 _ (cb HR104_3 HB) HC104_3.out A12.out).mono ?_); rintro e w14 ⟨rfl, hb⟩; replace HB := sb HB hb; have p110 : 0 <= (x5_1 : Int) := od; have q110 : x5_1 < (l0.length : Int) := od; obtain ⟨ad110, A110_2, c110_2, A110_3, c110_3, A110_4, c110_4, e110, hx110_0, hx110_1, hx110_2, hx110_3, hx110_4, hl110_2, hi110_2, hl110_3, hi110_3, hl110_4, hi110_4⟩ := yH HR0.out x5_1 p110 q110; obtain rfl : ad104 = ad110 := (by injection e110); replace hx110_0 := zo HB.out hx110_0; replace hx110_1 := zo HB.out hx110_1; replace hx110_2 := zo HB.out hx110_2; replace hx110_3 := zo HB.out hx110_3; replace hx110_4 := zo HB.out hx110_4; have HR110_2 := am hi110_2; have HC110_2 := am hl110_2; clear hi110_2 hl110_2; have HR110_3 := am hi110_3; have HC110_3 := am hl110_3; clear hi110_3 hl110_3; have HR110_4 := am hi110_4; have HC110_4 := am hl110_4; clear hi110_4 hl110_4; replace p110 := eT p110; replace q110 := eT q110) | (go_at_call 29; (with_reducible refine (ih k3 (by have := HK1.out; have := HJ2.out; have := HK3.out; omega) _ _ ((zu l0 x5_1).f4) t109 t111 _ (cb HR110_4 HB) HC110_4.out A13.out).mono ?_); rintro e w15 ⟨rfl, hb⟩; replace HB := sb HB hb))
       go_roundg k3
       case measure => have := HK1.out; have := HJ2.out; have := HK3.out; omega
       case rel => exact ⟨(t111), (wrap64 (x5_1 + 1)), rs, rs, H', ⟨by have := HK1.out; have := HJ2.out; have := HK3.out; omega⟩, ⟨bb HB⟩⟩
def yI.f (k : Nat) (l0 : List (S81)) (a1 : Int) : Option (Bool) := (zX.f k l0 (wrap64 (a1 + 1))).bind fun t112 => (some (decide (t112 > 0)))
theorem yI.calls (k : Nat) (A0 : Option Addr) (c0 : Nat) (l0 : List (S81)) (a1 : Int) (r : Bool) (w : World) (hr0 : Kd.C k81 w A0 l0.length l0) (hc0 : l0.length <= c0) (h : yI.f k l0 a1 = some r) :
  Calls Tryz.prog 7 #[.slice A0 l0.length c0, .int .i64 a1] w fun e w' => e = .returned (.bool r) /\ Below w.heap.size w w' := by
 have HR0 := am hr0
 have HC0 := am hc0
 clear hr0 hc0
 have HB := am (jc w.heap.size w)
 have H := h
 clear h
 obtain ⟨t112, A3, H⟩ := be H
 obtain rfl := sj H
 go_enter Tryz.func7, Tryz.ntmps7
 go_wp2_with (first | (go_at_call 29; (with_reducible refine (zX.calls k _ _ l0 (wrap64 (a1 + 1)) t112 _ (ca HR0) HC0.out A3.out).mono ?_); rintro e w4 ⟨rfl, hb⟩; replace HB := sb HB hb))
 go_ret
 exact ⟨rr, bb HB⟩
end Go.Proofs.YtnlekgadadifdaaGreat.Print
