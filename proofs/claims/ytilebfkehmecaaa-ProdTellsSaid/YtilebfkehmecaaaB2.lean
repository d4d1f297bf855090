/- What the laws of products share: contracts of the functions that they call, and what these compute, for every program that comes in. -/
import Derived.Test.YtilebfkehmecaaaB1
import Derived.ArgAppend
import Derived.Below
import Derived.BigQuiet
import Derived.Deep.AppendLies
import Derived.Deep.CutBlock
import Derived.Deep.DeepCutAuto
import Derived.Deep.Draws
import Derived.Deep.LoopGhost
import Derived.Deep.OwnRows
import Derived.Deep.QuietTactic
import Derived.Deep.RegionHeld3
import Derived.Deep.RegionWith
import Derived.KernelRfl
import Derived.Laws.BitsLemmas
import Derived.Laws.BytesArg
import Derived.Laws.IdiomCopy
import Derived.Laws.MakeOwn
import Derived.Laws.OwnMore
import Derived.Laws.Rows
import Derived.Laws.Slices
import Derived.Lib.AppendStr
import Derived.Lib.ConvBytes
import Derived.Maps.AppendAt
import Derived.Maps.OwnSet
import Derived.Orders
import Derived.OrdersHeld
import Derived.OwnWalk
import Derived.RowKit
import Derived.RowKit3
import Derived.StringKeys
import Derived.Tactics
import Derived.Test.YtilebfkehmecaaaProg
import Derived.WalkKit
import Derived.WideLaws
namespace Go.Proofs.Ytilebfkehmecaaa.Print
open Go.RowKit Go.Proofs.YtilebfkehmecaaaW.PrintWords Go.Proofs.YtilebfkehmecaaaW.PrintLast Go.Proofs.YtilebfkehmecaaaW.PrintMore
attribute [local go_sem] max2_int min2_int max_two min_two max_three min_three max_four min_four
set_option linter.unusedVariables false
set_option linter.unusedSimpArgs false
def errW : Option Int → Value
 | none => .nilIface
 | some c => .iface 0 (.int .i64 c)
theorem errW_none : errW none = .nilIface := rfl
theorem errW_some (c : Int) : errW (some c) = .iface 0 (.int .i64 c) := rfl
theorem info3 : (Try.prog.info? 3).map (fun i => (i.zero, i.size, i.bytes)) = some (some (.int .i64 0), 1, 8) := by kernel_rfl
theorem info25 : (Try.prog.info? 25).map (fun i => (i.zero, i.size, i.bytes)) = some (some (.agg #[(.int .i64 0), (.slice none 0 0), (.slice none 0 0)]), 3, 56) := by kernel_rfl
theorem info28 : (Try.prog.info? 28).map (fun i => (i.zero, i.size, i.bytes)) = some (some (.agg #[(.int .i64 0), (.int .i64 0), (.int .i64 0), (.slice none 0 0)]), 4, 48) := by kernel_rfl
theorem info64 : (Try.prog.info? 64).map (fun i => (i.zero, i.size, i.bytes)) = some (some (.agg #[(.int .i64 0), (.int .i64 0), (.slice none 0 0), (.slice none 0 0), (.slice none 0 0)]), 5, 88) := by kernel_rfl
theorem info66 : (Try.prog.info? 66).map (fun i => (i.zero, i.size, i.bytes)) = some (some (.agg #[(.string ⟨#[]⟩), (.int .i64 0), (.int .i64 0)]), 3, 32) := by kernel_rfl
theorem info74 : (Try.prog.info? 74).map (fun i => (i.zero, i.size, i.bytes)) = some (some (.agg #[(.int .i64 0), (.int .i64 0)]), 2, 16) := by kernel_rfl
structure S28 where
 f0 : Int
 f1 : Int
 f2 : Int
 f3 : (List S28)
def z28 : S28 := ⟨(0 : Int), (0 : Int), (0 : Int), ([] : List S28)⟩
def F28 (d : Kd S28) : Kd S28 := Kd.iso (Kd.pair (Kd.int .i64) (Kd.pair (Kd.int .i64) (Kd.pair (Kd.int .i64) (Kd.slice 28 d)))) (fun x : S28 => (x.f0, x.f1, x.f2, x.f3))
theorem mono28 : Kd.Mono F28 := Kd.mono_iso _ (Kd.mono_pair (Kd.mono_const _) (Kd.mono_pair (Kd.mono_const _) (Kd.mono_pair (Kd.mono_const _) (Kd.mono_slice 28 Kd.mono_id))))
theorem sub28 : Kd.Sub F28 [28] := Kd.sub_iso _ (Kd.sub_pair (Kd.sub_const _ (by decide)) (Kd.sub_pair (Kd.sub_const _ (by decide)) (Kd.sub_pair (Kd.sub_const _ (by decide)) (Kd.sub_slice 28 (by decide) Kd.sub_id))))
theorem sz28 : ∀ n, (Kd.upto F28 4 [28] n).sz = 4 := Kd.upto_sz (fun _ => rfl)
def k28 : Kd S28 := Kd.fix F28 4 [28] sz28 (Kd.upto_E sub28)
theorem k28_open {w : World} {x : S28} {cs : List Value} (h : k28.K w x cs) : ∃ A3 c3, cs = [.int .i64 x.f0, .int .i64 x.f1, .int .i64 x.f2, .slice A3 x.f3.length c3] ∧ x.f3.length ≤ c3 ∧ k28.C w A3 x.f3.length x.f3 := by
 obtain ⟨n, h⟩ := h
 cases n with
 | zero => exact h.elim
 | succ n =>
  obtain ⟨_, _, rfl, rfl, ⟨_, _, rfl, rfl, ⟨_, _, rfl, rfl, ⟨A3, c3, rfl, l3, g3⟩⟩⟩⟩ := h
  exact ⟨A3, c3, rfl, l3, Kd.fix_C g3⟩
theorem k28_mk (w : World) (x : S28) {A3 : Option Addr} {c3 : Nat} (l3 : x.f3.length ≤ c3) (g3 : k28.C w A3 x.f3.length x.f3) : k28.K w x [.int .i64 x.f0, .int .i64 x.f1, .int .i64 x.f2, .slice A3 x.f3.length c3] := by
 obtain ⟨n3, q3⟩ := Kd.fix_C_back mono28 g3
 have r3 := Kd.upto_C_le mono28 sz28 (show n3 ≤ n3 by omega) q3
 exact ⟨n3 + 1, ⟨[.int .i64 x.f0], [.int .i64 x.f1, .int .i64 x.f2, .slice A3 x.f3.length c3], rfl, rfl, ⟨[.int .i64 x.f1], [.int .i64 x.f2, .slice A3 x.f3.length c3], rfl, rfl, ⟨[.int .i64 x.f2], [.slice A3 x.f3.length c3], rfl, rfl, ⟨A3, c3, rfl, l3, r3⟩⟩⟩⟩⟩
theorem k28_mkM (w : World) (base : Nat) (ok : Nat → Prop) (x : S28) {v3 : Value} (g3 : k28.R 28 w base ok v3 x.f3) : k28.M w base ok x [.int .i64 x.f0, .int .i64 x.f1, .int .i64 x.f2, v3] := by
 obtain ⟨n3, q3⟩ := Kd.fix_R_back mono28 g3
 have r3 := Kd.upto_R_le mono28 sz28 (show n3 ≤ n3 by omega) q3
 exact ⟨n3 + 1, ⟨[.int .i64 x.f0], [.int .i64 x.f1, .int .i64 x.f2, v3], rfl, rfl, ⟨[.int .i64 x.f1], [.int .i64 x.f2, v3], rfl, rfl, ⟨[.int .i64 x.f2], [v3], rfl, rfl, ⟨v3, rfl, r3⟩⟩⟩⟩⟩
theorem k28_mkF (W : World) (ok : Nat → Prop) (x : S28) {A3 : Option Addr} {c3 : Nat} (l3 : x.f3.length ≤ c3) (g3 : Kd.F k28 W ok A3 x.f3.length x.f3) : Kd.FK k28 W ok x [.int .i64 x.f0, .int .i64 x.f1, .int .i64 x.f2, .slice A3 x.f3.length c3] := fun W2 hW => k28_mk W2 x l3 (g3 W2 hW)
def rd_T28 (xs : List S28) (i : Int) : S28 := xs.getD i.toNat z28
theorem at_T28 {w : World} {A : Option Addr} {n : Nat} {xs : List S28} (h : Kd.C k28 w A n xs) (i : Int) (h0 : 0 ≤ i) (h1 : i < n) : ∃ ad A3 c3, A = some ad ∧ w.cell? (ad.add (i.toNat * 4)) = some (.int .i64 (rd_T28 xs i).f0) ∧ w.cell? ⟨(ad.add (i.toNat * 4)).block, (ad.add (i.toNat * 4)).off + 1, none⟩ = some (.int .i64 (rd_T28 xs i).f1) ∧ w.cell? ⟨(ad.add (i.toNat * 4)).block, (ad.add (i.toNat * 4)).off + 2, none⟩ = some (.int .i64 (rd_T28 xs i).f2) ∧ w.cell? ⟨(ad.add (i.toNat * 4)).block, (ad.add (i.toNat * 4)).off + 3, none⟩ = some (.slice A3 (rd_T28 xs i).f3.length c3) ∧ (rd_T28 xs i).f3.length ≤ c3 ∧ k28.C w A3 (rd_T28 xs i).f3.length (rd_T28 xs i).f3 := by
 obtain ⟨ad, c, e, _, hK, hc0⟩ := Kd.C_get h z28 i h0 h1
 have hc : ∀ j u, c[j]? = some u → w.cell? (ad.add (i.toNat * 4 + j)) = some u := hc0
 obtain ⟨A3, c3, rfl, l3, g3⟩ := k28_open hK
 exact ⟨ad, A3, c3, e, hc 0 _ rfl, by rw [← add_field _ _ 1 (by omega)]; exact hc 1 _ rfl, by rw [← add_field _ _ 2 (by omega)]; exact hc 2 _ rfl, by rw [← add_field _ _ 3 (by omega)]; exact hc 3 _ rfl, l3, g3⟩
structure S64 where
 f0 : Int
 f1 : Int
 f2 : (List S28)
 f3 : (List S64)
 f4 : (List S64)
def z64 : S64 := ⟨(0 : Int), (0 : Int), ([] : List S28), ([] : List S64), ([] : List S64)⟩
def F64 (d : Kd S64) : Kd S64 := Kd.iso (Kd.pair (Kd.int .i64) (Kd.pair (Kd.int .i64) (Kd.pair (Kd.slice 28 k28) (Kd.pair (Kd.slice 64 d) (Kd.slice 64 d))))) (fun x : S64 => (x.f0, x.f1, x.f2, x.f3, x.f4))
theorem mono64 : Kd.Mono F64 := Kd.mono_iso _ (Kd.mono_pair (Kd.mono_const _) (Kd.mono_pair (Kd.mono_const _) (Kd.mono_pair (Kd.mono_const _) (Kd.mono_pair (Kd.mono_slice 64 Kd.mono_id) (Kd.mono_slice 64 Kd.mono_id)))))
theorem sub64 : Kd.Sub F64 [28, 64] := Kd.sub_iso _ (Kd.sub_pair (Kd.sub_const _ (by decide)) (Kd.sub_pair (Kd.sub_const _ (by decide)) (Kd.sub_pair (Kd.sub_const _ (by decide)) (Kd.sub_pair (Kd.sub_slice 64 (by decide) Kd.sub_id) (Kd.sub_slice 64 (by decide) Kd.sub_id)))))
theorem sz64 : ∀ n, (Kd.upto F64 5 [28, 64] n).sz = 5 := Kd.upto_sz (fun _ => rfl)
def k64 : Kd S64 := Kd.fix F64 5 [28, 64] sz64 (Kd.upto_E sub64)
theorem k64_open {w : World} {x : S64} {cs : List Value} (h : k64.K w x cs) : ∃ A2 c2 A3 c3 A4 c4, cs = [.int .i64 x.f0, .int .i64 x.f1, .slice A2 x.f2.length c2, .slice A3 x.f3.length c3, .slice A4 x.f4.length c4] ∧ x.f2.length ≤ c2 ∧ k28.C w A2 x.f2.length x.f2 ∧ x.f3.length ≤ c3 ∧ k64.C w A3 x.f3.length x.f3 ∧ x.f4.length ≤ c4 ∧ k64.C w A4 x.f4.length x.f4 := by
 obtain ⟨n, h⟩ := h
 cases n with
 | zero => exact h.elim
 | succ n =>
  obtain ⟨_, _, rfl, rfl, ⟨_, _, rfl, rfl, ⟨_, _, rfl, ⟨A2, c2, rfl, l2, g2⟩, ⟨_, _, rfl, ⟨A3, c3, rfl, l3, g3⟩, ⟨A4, c4, rfl, l4, g4⟩⟩⟩⟩⟩ := h
  exact ⟨A2, c2, A3, c3, A4, c4, rfl, l2, g2, l3, Kd.fix_C g3, l4, Kd.fix_C g4⟩
theorem k64_mk (w : World) (x : S64) {A2 : Option Addr} {c2 : Nat} (l2 : x.f2.length ≤ c2) (g2 : k28.C w A2 x.f2.length x.f2) {A3 : Option Addr} {c3 : Nat} (l3 : x.f3.length ≤ c3) (g3 : k64.C w A3 x.f3.length x.f3) {A4 : Option Addr} {c4 : Nat} (l4 : x.f4.length ≤ c4) (g4 : k64.C w A4 x.f4.length x.f4) : k64.K w x [.int .i64 x.f0, .int .i64 x.f1, .slice A2 x.f2.length c2, .slice A3 x.f3.length c3, .slice A4 x.f4.length c4] := by
 obtain ⟨n3, q3⟩ := Kd.fix_C_back mono64 g3
 obtain ⟨n4, q4⟩ := Kd.fix_C_back mono64 g4
 have r3 := Kd.upto_C_le mono64 sz64 (show n3 ≤ (max n3 n4) by omega) q3
 have r4 := Kd.upto_C_le mono64 sz64 (show n4 ≤ (max n3 n4) by omega) q4
 exact ⟨(max n3 n4) + 1, ⟨[.int .i64 x.f0], [.int .i64 x.f1, .slice A2 x.f2.length c2, .slice A3 x.f3.length c3, .slice A4 x.f4.length c4], rfl, rfl, ⟨[.int .i64 x.f1], [.slice A2 x.f2.length c2, .slice A3 x.f3.length c3, .slice A4 x.f4.length c4], rfl, rfl, ⟨[.slice A2 x.f2.length c2], [.slice A3 x.f3.length c3, .slice A4 x.f4.length c4], rfl, ⟨A2, c2, rfl, l2, g2⟩, ⟨[.slice A3 x.f3.length c3], [.slice A4 x.f4.length c4], rfl, ⟨A3, c3, rfl, l3, r3⟩, ⟨A4, c4, rfl, l4, r4⟩⟩⟩⟩⟩⟩
theorem k64_mkM (w : World) (base : Nat) (ok : Nat → Prop) (x : S64) {v2 : Value} (g2 : k28.R 28 w base ok v2 x.f2) {v3 : Value} (g3 : k64.R 64 w base ok v3 x.f3) {v4 : Value} (g4 : k64.R 64 w base ok v4 x.f4) : k64.M w base ok x [.int .i64 x.f0, .int .i64 x.f1, v2, v3, v4] := by
 obtain ⟨n3, q3⟩ := Kd.fix_R_back mono64 g3
 obtain ⟨n4, q4⟩ := Kd.fix_R_back mono64 g4
 have r3 := Kd.upto_R_le mono64 sz64 (show n3 ≤ (max n3 n4) by omega) q3
 have r4 := Kd.upto_R_le mono64 sz64 (show n4 ≤ (max n3 n4) by omega) q4
 exact ⟨(max n3 n4) + 1, ⟨[.int .i64 x.f0], [.int .i64 x.f1, v2, v3, v4], rfl, rfl, ⟨[.int .i64 x.f1], [v2, v3, v4], rfl, rfl, ⟨[v2], [v3, v4], rfl, ⟨v2, rfl, g2⟩, ⟨[v3], [v4], rfl, ⟨v3, rfl, r3⟩, ⟨v4, rfl, r4⟩⟩⟩⟩⟩⟩
def rd_T64 (xs : List S64) (i : Int) : S64 := xs.getD i.toNat z64
theorem at_T64 {w : World} {A : Option Addr} {n : Nat} {xs : List S64} (h : Kd.C k64 w A n xs) (i : Int) (h0 : 0 ≤ i) (h1 : i < n) : ∃ ad A2 c2 A3 c3 A4 c4, A = some ad ∧ w.cell? (ad.add (i.toNat * 5)) = some (.int .i64 (rd_T64 xs i).f0) ∧ w.cell? ⟨(ad.add (i.toNat * 5)).block, (ad.add (i.toNat * 5)).off + 1, none⟩ = some (.int .i64 (rd_T64 xs i).f1) ∧ w.cell? ⟨(ad.add (i.toNat * 5)).block, (ad.add (i.toNat * 5)).off + 2, none⟩ = some (.slice A2 (rd_T64 xs i).f2.length c2) ∧ w.cell? ⟨(ad.add (i.toNat * 5)).block, (ad.add (i.toNat * 5)).off + 3, none⟩ = some (.slice A3 (rd_T64 xs i).f3.length c3) ∧ w.cell? ⟨(ad.add (i.toNat * 5)).block, (ad.add (i.toNat * 5)).off + 4, none⟩ = some (.slice A4 (rd_T64 xs i).f4.length c4) ∧ (rd_T64 xs i).f2.length ≤ c2 ∧ k28.C w A2 (rd_T64 xs i).f2.length (rd_T64 xs i).f2 ∧ (rd_T64 xs i).f3.length ≤ c3 ∧ k64.C w A3 (rd_T64 xs i).f3.length (rd_T64 xs i).f3 ∧ (rd_T64 xs i).f4.length ≤ c4 ∧ k64.C w A4 (rd_T64 xs i).f4.length (rd_T64 xs i).f4 := by
 obtain ⟨ad, c, e, _, hK, hc0⟩ := Kd.C_get h z64 i h0 h1
 have hc : ∀ j u, c[j]? = some u → w.cell? (ad.add (i.toNat * 5 + j)) = some u := hc0
 obtain ⟨A2, c2, A3, c3, A4, c4, rfl, l2, g2, l3, g3, l4, g4⟩ := k64_open hK
 exact ⟨ad, A2, c2, A3, c3, A4, c4, e, hc 0 _ rfl, by rw [← add_field _ _ 1 (by omega)]; exact hc 1 _ rfl, by rw [← add_field _ _ 2 (by omega)]; exact hc 2 _ rfl, by rw [← add_field _ _ 3 (by omega)]; exact hc 3 _ rfl, by rw [← add_field _ _ 4 (by omega)]; exact hc 4 _ rfl, l2, g2, l3, g3, l4, g4⟩
structure S66 where
 f0 : ByteArray
 f1 : Int
 f2 : Int
def z66 : S66 := ⟨(⟨#[]⟩ : ByteArray), (0 : Int), (0 : Int)⟩
def k66 : Kd S66 := Kd.iso (Kd.pair Kd.string (Kd.pair (Kd.int .i64) (Kd.int .i64))) (fun x : S66 => (x.f0, x.f1, x.f2))
theorem k66_open {w : World} {x : S66} {cs : List Value} (h : k66.K w x cs) : cs = [.string x.f0, .int .i64 x.f1, .int .i64 x.f2] := by
 obtain ⟨_, _, rfl, rfl, ⟨_, _, rfl, rfl, rfl⟩⟩ := h
 exact rfl
theorem k66_mk (w : World) (x : S66)  : k66.K w x [.string x.f0, .int .i64 x.f1, .int .i64 x.f2] := ⟨[.string x.f0], [.int .i64 x.f1, .int .i64 x.f2], rfl, rfl, ⟨[.int .i64 x.f1], [.int .i64 x.f2], rfl, rfl, rfl⟩⟩
theorem k66_mkM (w : World) (base : Nat) (ok : Nat → Prop) (x : S66)  : k66.M w base ok x [.string x.f0, .int .i64 x.f1, .int .i64 x.f2] := ⟨[.string x.f0], [.int .i64 x.f1, .int .i64 x.f2], rfl, rfl, ⟨[.int .i64 x.f1], [.int .i64 x.f2], rfl, rfl, rfl⟩⟩
def rd_T66 (xs : List S66) (i : Int) : S66 := xs.getD i.toNat z66
theorem at_T66 {w : World} {A : Option Addr} {n : Nat} {xs : List S66} (h : Kd.C k66 w A n xs) (i : Int) (h0 : 0 ≤ i) (h1 : i < n) : ∃ ad , A = some ad ∧ w.cell? (ad.add (i.toNat * 3)) = some (.string (rd_T66 xs i).f0) ∧ w.cell? ⟨(ad.add (i.toNat * 3)).block, (ad.add (i.toNat * 3)).off + 1, none⟩ = some (.int .i64 (rd_T66 xs i).f1) ∧ w.cell? ⟨(ad.add (i.toNat * 3)).block, (ad.add (i.toNat * 3)).off + 2, none⟩ = some (.int .i64 (rd_T66 xs i).f2) := by
 obtain ⟨ad, c, e, _, hK, hc0⟩ := Kd.C_get h z66 i h0 h1
 have hc : ∀ j u, c[j]? = some u → w.cell? (ad.add (i.toNat * 3 + j)) = some u := hc0
 obtain rfl := k66_open hK
 exact ⟨ad, e, hc 0 _ rfl, by rw [← add_field _ _ 1 (by omega)]; exact hc 1 _ rfl, by rw [← add_field _ _ 2 (by omega)]; exact hc 2 _ rfl⟩
structure S74 where
 f0 : Int
 f1 : Int
def z74 : S74 := ⟨(0 : Int), (0 : Int)⟩
def k74 : Kd S74 := Kd.iso (Kd.pair (Kd.int .i64) (Kd.int .i64)) (fun x : S74 => (x.f0, x.f1))
theorem k74_open {w : World} {x : S74} {cs : List Value} (h : k74.K w x cs) : cs = [.int .i64 x.f0, .int .i64 x.f1] := by
 obtain ⟨_, _, rfl, rfl, rfl⟩ := h
 exact rfl
theorem k74_mk (w : World) (x : S74)  : k74.K w x [.int .i64 x.f0, .int .i64 x.f1] := ⟨[.int .i64 x.f0], [.int .i64 x.f1], rfl, rfl, rfl⟩
theorem k74_mkM (w : World) (base : Nat) (ok : Nat → Prop) (x : S74)  : k74.M w base ok x [.int .i64 x.f0, .int .i64 x.f1] := ⟨[.int .i64 x.f0], [.int .i64 x.f1], rfl, rfl, rfl⟩
def rd_T74 (xs : List S74) (i : Int) : S74 := xs.getD i.toNat z74
theorem at_T74 {w : World} {A : Option Addr} {n : Nat} {xs : List S74} (h : Kd.C k74 w A n xs) (i : Int) (h0 : 0 ≤ i) (h1 : i < n) : ∃ ad , A = some ad ∧ w.cell? (ad.add (i.toNat * 2)) = some (.int .i64 (rd_T74 xs i).f0) ∧ w.cell? ⟨(ad.add (i.toNat * 2)).block, (ad.add (i.toNat * 2)).off + 1, none⟩ = some (.int .i64 (rd_T74 xs i).f1) := by
 obtain ⟨ad, c, e, _, hK, hc0⟩ := Kd.C_get h z74 i h0 h1
 have hc : ∀ j u, c[j]? = some u → w.cell? (ad.add (i.toNat * 2 + j)) = some u := hc0
 obtain rfl := k74_open hK
 exact ⟨ad, e, hc 0 _ rfl, by rw [← add_field _ _ 1 (by omega)]; exact hc 1 _ rfl⟩
def rd_L10 (xs : List (List Int)) (i : Int) : (List Int) := xs.getD i.toNat ([] : List Int)
theorem at_L10 {w : World} {A : Option Addr} {n : Nat} {xs : List (List Int)} (h : Kd.C (Kd.slice 3 (Kd.int .i64)) w A n xs) (i : Int) (h0 : 0 ≤ i) (h1 : i < n) : ∃ ad A0 c0, A = some ad ∧ w.cell? (ad.add i.toNat) = some (.slice A0 (rd_L10 xs i).length c0) ∧ (rd_L10 xs i).length ≤ c0 ∧ (Kd.int .i64).C w A0 (rd_L10 xs i).length (rd_L10 xs i) := by
 obtain ⟨ad, c, e, _, hK, hc0⟩ := Kd.C_get h ([] : List Int) i h0 h1
 have hc : ∀ j u, c[j]? = some u → w.cell? (ad.add (i.toNat * 1 + j)) = some u := hc0
 obtain ⟨A0, c0, rfl, l0, g0⟩ := hK
 exact ⟨ad, A0, c0, e, by have hq := hc 0 _ rfl; rwa [Nat.mul_one, Nat.add_zero] at hq, l0, g0⟩
structure S25 where
 f0 : Int
 f1 : (List S66)
 f2 : (List S64)
def z25 : S25 := ⟨(0 : Int), ([] : List S66), ([] : List S64)⟩
def k25 : Kd S25 := Kd.iso (Kd.pair (Kd.int .i64) (Kd.pair (Kd.slice 66 k66) (Kd.slice 64 k64))) (fun x : S25 => (x.f0, x.f1, x.f2))
theorem k25_open {w : World} {x : S25} {cs : List Value} (h : k25.K w x cs) : ∃ A1 c1 A2 c2, cs = [.int .i64 x.f0, .slice A1 x.f1.length c1, .slice A2 x.f2.length c2] ∧ x.f1.length ≤ c1 ∧ k66.C w A1 x.f1.length x.f1 ∧ x.f2.length ≤ c2 ∧ k64.C w A2 x.f2.length x.f2 := by
 obtain ⟨_, _, rfl, rfl, ⟨_, _, rfl, ⟨A1, c1, rfl, l1, g1⟩, ⟨A2, c2, rfl, l2, g2⟩⟩⟩ := h
 exact ⟨A1, c1, A2, c2, rfl, l1, g1, l2, g2⟩
theorem k25_mk (w : World) (x : S25) {A1 : Option Addr} {c1 : Nat} (l1 : x.f1.length ≤ c1) (g1 : k66.C w A1 x.f1.length x.f1) {A2 : Option Addr} {c2 : Nat} (l2 : x.f2.length ≤ c2) (g2 : k64.C w A2 x.f2.length x.f2) : k25.K w x [.int .i64 x.f0, .slice A1 x.f1.length c1, .slice A2 x.f2.length c2] := ⟨[.int .i64 x.f0], [.slice A1 x.f1.length c1, .slice A2 x.f2.length c2], rfl, rfl, ⟨[.slice A1 x.f1.length c1], [.slice A2 x.f2.length c2], rfl, ⟨A1, c1, rfl, l1, g1⟩, ⟨A2, c2, rfl, l2, g2⟩⟩⟩
def rd_T25 (xs : List S25) (i : Int) : S25 := xs.getD i.toNat z25
theorem at_T25 {w : World} {A : Option Addr} {n : Nat} {xs : List S25} (h : Kd.C k25 w A n xs) (i : Int) (h0 : 0 ≤ i) (h1 : i < n) : ∃ ad A1 c1 A2 c2, A = some ad ∧ w.cell? (ad.add (i.toNat * 3)) = some (.int .i64 (rd_T25 xs i).f0) ∧ w.cell? ⟨(ad.add (i.toNat * 3)).block, (ad.add (i.toNat * 3)).off + 1, none⟩ = some (.slice A1 (rd_T25 xs i).f1.length c1) ∧ w.cell? ⟨(ad.add (i.toNat * 3)).block, (ad.add (i.toNat * 3)).off + 2, none⟩ = some (.slice A2 (rd_T25 xs i).f2.length c2) ∧ (rd_T25 xs i).f1.length ≤ c1 ∧ k66.C w A1 (rd_T25 xs i).f1.length (rd_T25 xs i).f1 ∧ (rd_T25 xs i).f2.length ≤ c2 ∧ k64.C w A2 (rd_T25 xs i).f2.length (rd_T25 xs i).f2 := by
 obtain ⟨ad, c, e, _, hK, hc0⟩ := Kd.C_get h z25 i h0 h1
 have hc : ∀ j u, c[j]? = some u → w.cell? (ad.add (i.toNat * 3 + j)) = some u := hc0
 obtain ⟨A1, c1, A2, c2, rfl, l1, g1, l2, g2⟩ := k25_open hK
 exact ⟨ad, A1, c1, A2, c2, e, hc 0 _ rfl, by rw [← add_field _ _ 1 (by omega)]; exact hc 1 _ rfl, by rw [← add_field _ _ 2 (by omega)]; exact hc 2 _ rfl, l1, g1, l2, g2⟩
def expr_inName.f (a0 : Int) : Option (Bool) := if a0 ≥ 97 then (if a0 ≤ 122 then (some true) else (if a0 ≥ 48 then (if a0 ≤ 57 then (some true) else (some (a0 == 95))) else (some (a0 == 95)))) else (if a0 ≥ 48 then (if a0 ≤ 57 then (some true) else (some (a0 == 95))) else (some (a0 == 95)))
set_option maxHeartbeats 8000000 in
set_option maxRecDepth 100000 in
theorem expr_inName.calls (a0 : Int) (r : Bool) (w : World) (h : expr_inName.f a0 = some r) :
  Calls Try.prog 103 #[.int .u8 a0] w fun e w' => e = .returned (.bool r) ∧ Drawn0 w w' := by
 have H : (if a0 ≥ 97 then (if a0 ≤ 122 then (some true) else (if a0 ≥ 48 then (if a0 ≤ 57 then (some true) else (some (a0 == 95))) else (some (a0 == 95)))) else (if a0 ≥ 48 then (if a0 ≤ 57 then (some true) else (some (a0 == 95))) else (some (a0 == 95)))) = some r := h
 clear h
 by_cases c2 : a0 ≥ 97
 ·rw [if_pos c2] at H
  have c2b0 : decide (97 ≤ a0) = true := decide_eq_true c2
  clear c2
  by_cases c3 : a0 ≤ 122
  ·rw [if_pos c3] at H
   have c3b0 : decide (a0 ≤ 122) = true := decide_eq_true c3
   clear c3
   obtain rfl := Option.some.inj H
   go_enter Try.func103, Try.ntmps103
   go_wp2
   go_ret
   exact ⟨by first | rfl | (simp; done) | (simp [*]; done), by repeat (first | exact Drawn0.refl _ | apply Drawn0.step)⟩
  ·rw [if_neg c3] at H
   have c3b0 : decide (a0 ≤ 122) = false := decide_eq_false c3
   clear c3
   by_cases c4 : a0 ≥ 48
   ·rw [if_pos c4] at H
    have c4b0 : decide (48 ≤ a0) = true := decide_eq_true c4
    clear c4
    by_cases c5 : a0 ≤ 57
    ·rw [if_pos c5] at H
     have c5b0 : decide (a0 ≤ 57) = true := decide_eq_true c5
     clear c5
     obtain rfl := Option.some.inj H
     go_enter Try.func103, Try.ntmps103
     go_wp2
     go_ret
     exact ⟨by first | rfl | (simp; done) | (simp [*]; done), by repeat (first | exact Drawn0.refl _ | apply Drawn0.step)⟩
    ·rw [if_neg c5] at H
     have c5b0 : decide (a0 ≤ 57) = false := decide_eq_false c5
     clear c5
     obtain rfl := Option.some.inj H
     go_enter Try.func103, Try.ntmps103
     go_wp2
     go_ret
     exact ⟨by first | rfl | (simp; done) | (simp [*]; done), by repeat (first | exact Drawn0.refl _ | apply Drawn0.step)⟩
   ·rw [if_neg c4] at H
    have c4b0 : decide (48 ≤ a0) = false := decide_eq_false c4
    clear c4
    obtain rfl := Option.some.inj H
    go_enter Try.func103, Try.ntmps103
    go_wp2
    go_ret
    exact ⟨by first | rfl | (simp; done) | (simp [*]; done), by repeat (first | exact Drawn0.refl _ | apply Drawn0.step)⟩
 ·rw [if_neg c2] at H
  have c2b0 : decide (97 ≤ a0) = false := decide_eq_false c2
  clear c2
  by_cases c6 : a0 ≥ 48
  ·rw [if_pos c6] at H
   have c6b0 : decide (48 ≤ a0) = true := decide_eq_true c6
   clear c6
   by_cases c7 : a0 ≤ 57
   ·rw [if_pos c7] at H
    have c7b0 : decide (a0 ≤ 57) = true := decide_eq_true c7
    clear c7
    obtain rfl := Option.some.inj H
    go_enter Try.func103, Try.ntmps103
    go_wp2
    go_ret
    exact ⟨by first | rfl | (simp; done) | (simp [*]; done), by repeat (first | exact Drawn0.refl _ | apply Drawn0.step)⟩
   ·rw [if_neg c7] at H
    have c7b0 : decide (a0 ≤ 57) = false := decide_eq_false c7
    clear c7
    obtain rfl := Option.some.inj H
    go_enter Try.func103, Try.ntmps103
    go_wp2
    go_ret
    exact ⟨by first | rfl | (simp; done) | (simp [*]; done), by repeat (first | exact Drawn0.refl _ | apply Drawn0.step)⟩
  ·rw [if_neg c6] at H
   have c6b0 : decide (48 ≤ a0) = false := decide_eq_false c6
   clear c6
   obtain rfl := Option.some.inj H
   go_enter Try.func103, Try.ntmps103
   go_wp2
   go_ret
   exact ⟨by first | rfl | (simp; done) | (simp [*]; done), by repeat (first | exact Drawn0.refl _ | apply Drawn0.step)⟩
mutual
def expr_isName.j0 : Nat → ByteArray → Bool → Option (Bool)
 | 0, _, _ => none
 | k + 1, x0, x20 => if x20 = true then (some false) else (expr_isName.l0 k x0 0)
def expr_isName.l0 : Nat → ByteArray → Int → Option (Bool)
 | 0, _, _ => none
 | k + 1, x0, x3 => if x3 < (x0.size : Int) then (if 0 ≤ x3 then ((expr_inName.f (bt x0 x3)).bind fun t115 => (if t115 = true then (expr_isName.l0 k x0 (wrap64 (x3 + 1))) else (some false))) else (none)) else (if x0.toList = ([119, 105, 100, 116, 104] : List UInt8) then (some false) else (if x0.toList = ([118, 97, 114] : List UInt8) then (some false) else (if x0.toList = ([105, 102] : List UInt8) then (some false) else (if x0.toList = ([101, 108, 115, 101] : List UInt8) then (some false) else (if x0.toList = ([119, 104, 105, 108, 101] : List UInt8) then (some false) else (if x0.toList = ([111, 117, 116] : List UInt8) then (some false) else (if x0.toList = ([112, 105, 99, 107] : List UInt8) then (some false) else (if x0.toList = ([110, 101, 101, 100] : List UInt8) then (some false) else (if x0.toList = ([109, 117, 115, 116] : List UInt8) then (some false) else (if x0.toList = ([108, 101, 118, 101, 108] : List UInt8) then (some false) else (if x0.toList = ([115, 101, 101, 115] : List UInt8) then (some false) else (some true))))))))))))
end
def expr_isName.f (k : Nat) (a0 : ByteArray) : Option (Bool) := if a0.toList = ([] : List UInt8) then (expr_isName.j0 k a0 true) else (if (a0.size : Int) > 12 then (expr_isName.j0 k a0 true) else (if 0 < (a0.size : Int) then (if (bt a0 0) < 97 then (expr_isName.j0 k a0 true) else (expr_isName.j0 k a0 (decide ((bt a0 0) > 122)))) else (none)))
set_option maxHeartbeats 8000000 in
set_option maxRecDepth 100000 in
theorem expr_isName.calls (k : Nat) (a0 : ByteArray) (r : Bool) (w : World) (h : expr_isName.f k a0 = some r) :
  Calls Try.prog 81 #[.string a0] w fun e w' => e = .returned (.bool r) ∧ Drawn0 w w' := by
 have H : (if a0.toList = ([] : List UInt8) then (expr_isName.j0 k a0 true) else (if (a0.size : Int) > 12 then (expr_isName.j0 k a0 true) else (if 0 < (a0.size : Int) then (if (bt a0 0) < 97 then (expr_isName.j0 k a0 true) else (expr_isName.j0 k a0 (decide ((bt a0 0) > 122)))) else (none)))) = some r := h
 clear h
 have HC2 := Aside0.mk H
 clear H
 go_enter Try.func81, Try.ntmps81
 go_upto_region 1 with (fail)
 go_cut [20] (fun v20 wc => ∃ (kq : Nat) (x20_1 : Bool), v20 = .bool x20_1 ∧ Aside0 (expr_isName.j0 kq a0 x20_1 = some r) ∧ Aside0 (kq ≤ k) ∧ Drawn0 w wc)
 case first =>
  have H := HC2.out
  clear HC2
  by_cases c3 : a0.toList = ([] : List UInt8)
  ·rw [if_pos c3] at H
   have c3b0 : (a0.toList == ([] : List UInt8)) = true := beq_iff_eq.mpr c3
   have c3b1 : (a0.toList != ([] : List UInt8)) = false := bne_eq_false_iff_eq.mpr c3
   clear c3
   (first | rw [c3b0] | (simp only [i64_w, i32_w]; rw [c3b0]) | skip)
   have H' := Aside0.mk H
   clear H
   go_wp2
   go_meet
   case rel => exact ⟨_, (true), (by first | rfl | (simp; done) | (simp [*]; done)), H', ⟨by first | omega | exact Nat.le_refl _⟩, by repeat (first | exact Drawn0.refl _ | apply Drawn0.step)⟩
  ·rw [if_neg c3] at H
   have c3b0 : (a0.toList == ([] : List UInt8)) = false := beq_eq_false_iff_ne.mpr c3
   have c3b1 : (a0.toList != ([] : List UInt8)) = true := bne_iff_ne.mpr c3
   (first | rw [c3b0] | (simp only [i64_w, i32_w]; rw [c3b0]) | skip)
   by_cases c4 : (a0.size : Int) > 12
   ·rw [if_pos c4] at H
    have c4b0 : decide (12 < (a0.size : Int)) = true := decide_eq_true c4
    have c4b1 : decide (12 < a0.size) = true := decide_eq_true (by omega)
    clear c4
    have H' := Aside0.mk H
    clear H
    go_wp2
    go_meet
    case rel => exact ⟨_, (true), (by first | rfl | (simp; done) | (simp [*]; done)), H', ⟨by first | omega | exact Nat.le_refl _⟩, by repeat (first | exact Drawn0.refl _ | apply Drawn0.step)⟩
   ·rw [if_neg c4] at H
    have c4b0 : decide (12 < (a0.size : Int)) = false := decide_eq_false c4
    have c4b1 : decide (12 < a0.size) = false := decide_eq_false (by omega)
    clear c4
    by_cases c5 : 0 < (a0.size : Int)
    ·rw [if_pos c5] at H
     have c5b0 : decide (0 < (a0.size : Int)) = true := decide_eq_true c5
     have c5b1 : decide (0 < a0.size) = true := decide_eq_true (by omega)
     clear c5
     by_cases c7 : (bt a0 0) < 97
     ·rw [if_pos c7] at H
      have c7b0 : decide ((bt a0 0) < 97) = true := decide_eq_true c7
      clear c7
      have H' := Aside0.mk H
      clear H
      have p6 : 0 ≤ (0 : Int) := (by omega)
      have q6 : 0 < a0.size := (by have : (0 : Int) < (a0.size : Int) := of_decide_eq_true (by first | (with_reducible assumption) | assumption); omega)
      have hx6 : ∀ h : 0 < a0.size, ((a0[0]'h).toNat : Int) = bt a0 0 := bt_at a0 0
      clear p6
      have qi6 : (0 < (a0.size : Int)) = True := eq_true (of_decide_eq_true (by first | (with_reducible assumption) | assumption))
      replace q6 := eq_true q6
      go_wp2
      go_meet
      case rel => exact ⟨_, (true), (by first | rfl | (simp; done) | (simp [*]; done)), H', ⟨by first | omega | exact Nat.le_refl _⟩, by repeat (first | exact Drawn0.refl _ | apply Drawn0.step)⟩
     ·rw [if_neg c7] at H
      have c7b0 : decide ((bt a0 0) < 97) = false := decide_eq_false c7
      clear c7
      have H' := Aside0.mk H
      clear H
      have p6 : 0 ≤ (0 : Int) := (by omega)
      have q6 : 0 < a0.size := (by have : (0 : Int) < (a0.size : Int) := of_decide_eq_true (by first | (with_reducible assumption) | assumption); omega)
      have hx6 : ∀ h : 0 < a0.size, ((a0[0]'h).toNat : Int) = bt a0 0 := bt_at a0 0
      clear p6
      have qi6 : (0 < (a0.size : Int)) = True := eq_true (of_decide_eq_true (by first | (with_reducible assumption) | assumption))
      replace q6 := eq_true q6
      have p8 : 0 ≤ (0 : Int) := (by omega)
      have q8 : 0 < a0.size := (by have : (0 : Int) < (a0.size : Int) := of_decide_eq_true (by first | (with_reducible assumption) | assumption); omega)
      have hx8 : ∀ h : 0 < a0.size, ((a0[0]'h).toNat : Int) = bt a0 0 := bt_at a0 0
      clear p8
      have qi8 : (0 < (a0.size : Int)) = True := eq_true (of_decide_eq_true (by first | (with_reducible assumption) | assumption))
      replace q8 := eq_true q8
      go_wp2
      go_meet
      case rel => exact ⟨_, (decide ((bt a0 0) > 122)), (by first | rfl | (simp; done) | (simp [*]; done)), H', ⟨by first | omega | exact Nat.le_refl _⟩, by repeat (first | exact Drawn0.refl _ | apply Drawn0.step)⟩
    ·rw [if_neg c5] at H
     exact absurd H (by simp)
 case rest =>
  clear HC2
  try clear p2
  try clear c3
  try clear c3b0
  try clear c3b1
  try clear c4
  try clear c4b0
  try clear c4b1
  try clear c5
  try clear c5b0
  try clear c5b1
  try clear p6
  try clear q6
  try clear hx6
  try clear qi6
  try clear c7
  try clear c7b0
  try clear c8
  try clear p8
  try clear q8
  try clear hx8
  try clear qi8
  try clear p6
  try clear p8
  try clear q6
  try clear q8
  obtain ⟨kq, x20_1, rfl, HA, HJ1, ⟨mc1, rfl⟩⟩ := hcut
  cases kq with
  | zero => exact absurd HA.out (by simp [expr_isName.j0])
  | succ kj1 =>
   have H := HA.out
   clear HA
   simp only [expr_isName.j0] at H
   by_cases c9 : x20_1 = true
   ·subst c9
    have H1 : (some false) = some r := by rw [if_pos rfl] at H; exact H
    clear H
    have H := H1
    clear H1
    obtain rfl := Option.some.inj H
    go_wp2
    go_ret
    exact ⟨by first | rfl | (simp; done) | (simp [*]; done), by repeat (first | exact Drawn0.refl _ | apply Drawn0.step)⟩
   ·replace c9 := Bool.eq_false_iff.mpr c9
    subst c9
    have H1 : (expr_isName.l0 kj1 a0 0) = some r := by rw [if_neg (show ¬ (false = true) by decide)] at H; exact H
    clear H
    have H := H1
    clear H1
    have H' := Aside0.mk H
    clear H
    go_wp2
    go_loopg [3] kj1 (fun kq v3 w' => ∃ (x3_2 : Int), v3 = .int .i64 x3_2 ∧ Aside0 (expr_isName.l0 kq a0 x3_2 = some r) ∧ Aside0 (kq ≤ kj1) ∧ Drawn0 w w')
    case atStart => exact ⟨(0), (by first | rfl | (simp; done) | (simp [*]; done)), H', ⟨Nat.le_refl _⟩, by repeat (first | exact Drawn0.refl _ | apply Drawn0.step)⟩
    case round =>
     clear H'
     try clear c1
     try clear p2
     try clear c3
     try clear c3b0
     try clear c3b1
     try clear c4
     try clear c4b0
     try clear c4b1
     try clear c5
     try clear c5b0
     try clear c5b1
     try clear p6
     try clear q6
     try clear hx6
     try clear qi6
     try clear c7
     try clear c7b0
     try clear c8
     try clear p8
     try clear q8
     try clear hx8
     try clear qi8
     try clear c9
     try clear p2
     try clear p6
     try clear p8
     try clear q6
     try clear q8
     obtain ⟨x3_2, rfl, HA, HK2, ⟨m2, rfl⟩⟩ := hrel
     cases gk with
     | zero => exact absurd HA.out (by simp [expr_isName.l0])
     | succ k2 =>
      have H := HA.out
      clear HA
      simp only [expr_isName.l0] at H
      by_cases c10 : x3_2 < (a0.size : Int)
      ·rw [if_pos c10] at H
       have c10b0 : decide (x3_2 < (a0.size : Int)) = true := decide_eq_true c10
       clear c10
       by_cases c11 : 0 ≤ x3_2
       ·rw [if_pos c11] at H
        have c11b0 : decide (0 ≤ x3_2) = true := decide_eq_true c11
        clear c11
        replace H := Option.bind_eq_some_iff.mp H
        obtain ⟨t115, A130, H⟩ := H
        replace H : (if t115 = true then (expr_isName.l0 k2 a0 (wrap64 (x3_2 + 1))) else (some false)) = some r := H
        have A13 := Aside0.mk A130
        clear A130
        by_cases c14 : t115 = true
        ·subst c14
         have H1 : (expr_isName.l0 k2 a0 (wrap64 (x3_2 + 1))) = some r := by rw [if_pos rfl] at H; exact H
         clear H
         have H := H1
         clear H1
         have H' := Aside0.mk H
         clear H
         have p12 : 0 ≤ (x3_2 : Int) := of_decide_eq_true (by first | (with_reducible assumption) | assumption)
         have q12 : x3_2 < (a0.size : Int) := of_decide_eq_true (by first | (with_reducible assumption) | assumption)
         have hx12 := bt_at a0 x3_2
         replace p12 := eq_true p12
         replace q12 := eq_true q12
         go_wp2_with (first | ((with_reducible refine gate_callee (f := 103) rfl ?_); refine goesL_ (some 30) rfl rfl Try.func103 (by kernel_rfl) rfl #[.int .u8 (bt a0 x3_2)] rfl (by (try simp only [List.map_toArray, List.map_cons, List.map_nil]); first | done | rfl | (simp only [List.length_drop, List.length_take]; rfl)) ?_; (with_reducible refine (expr_inName.calls (bt a0 x3_2) true _ A13.out).mono ?_); rintro e w' ⟨rfl, ⟨nd, rfl⟩⟩; refine ⟨_, rfl, ?_⟩))
         go_roundg k2
         case measure => have := HJ1.out; have := HK2.out; omega
         case rel => exact ⟨(wrap64 (x3_2 + 1)), (by first | rfl | (simp; done) | (simp [*]; done)), H', ⟨by have := HJ1.out; have := HK2.out; omega⟩, by repeat (first | exact Drawn0.refl _ | apply Drawn0.step)⟩
        ·replace c14 := Bool.eq_false_iff.mpr c14
         subst c14
         have H1 : (some false) = some r := by rw [if_neg (show ¬ (false = true) by decide)] at H; exact H
         clear H
         have H := H1
         clear H1
         obtain rfl := Option.some.inj H
         have p12 : 0 ≤ (x3_2 : Int) := of_decide_eq_true (by first | (with_reducible assumption) | assumption)
         have q12 : x3_2 < (a0.size : Int) := of_decide_eq_true (by first | (with_reducible assumption) | assumption)
         have hx12 := bt_at a0 x3_2
         replace p12 := eq_true p12
         replace q12 := eq_true q12
         go_wp2_with (first | ((with_reducible refine gate_callee (f := 103) rfl ?_); refine goesL_ (some 30) rfl rfl Try.func103 (by kernel_rfl) rfl #[.int .u8 (bt a0 x3_2)] rfl (by (try simp only [List.map_toArray, List.map_cons, List.map_nil]); first | done | rfl | (simp only [List.length_drop, List.length_take]; rfl)) ?_; (with_reducible refine (expr_inName.calls (bt a0 x3_2) false _ A13.out).mono ?_); rintro e w' ⟨rfl, ⟨nd, rfl⟩⟩; refine ⟨_, rfl, ?_⟩))
         go_ret
         exact ⟨by first | rfl | (simp; done) | (simp [*]; done), by repeat (first | exact Drawn0.refl _ | apply Drawn0.step)⟩
       ·rw [if_neg c11] at H
        exact absurd H (by simp)
      ·rw [if_neg c10] at H
       have c10b0 : decide (x3_2 < (a0.size : Int)) = false := decide_eq_false c10
       clear c10
       by_cases c15 : a0.toList = ([119, 105, 100, 116, 104] : List UInt8)
       ·rw [if_pos c15] at H
        have c15b0 : (a0.toList == ([119, 105, 100, 116, 104] : List UInt8)) = true := beq_iff_eq.mpr c15
        have c15b1 : (a0.toList != ([119, 105, 100, 116, 104] : List UInt8)) = false := bne_eq_false_iff_eq.mpr c15
        clear c15
        obtain rfl := Option.some.inj H
        go_wp2
        go_ret
        exact ⟨by first | rfl | (simp; done) | (simp [*]; done), by repeat (first | exact Drawn0.refl _ | apply Drawn0.step)⟩
       ·rw [if_neg c15] at H
        have c15b0 : (a0.toList == ([119, 105, 100, 116, 104] : List UInt8)) = false := beq_eq_false_iff_ne.mpr c15
        have c15b1 : (a0.toList != ([119, 105, 100, 116, 104] : List UInt8)) = true := bne_iff_ne.mpr c15
        by_cases c16 : a0.toList = ([118, 97, 114] : List UInt8)
        ·rw [if_pos c16] at H
         have c16b0 : (a0.toList == ([118, 97, 114] : List UInt8)) = true := beq_iff_eq.mpr c16
         have c16b1 : (a0.toList != ([118, 97, 114] : List UInt8)) = false := bne_eq_false_iff_eq.mpr c16
         clear c16
         obtain rfl := Option.some.inj H
         go_wp2
         go_ret
         exact ⟨by first | rfl | (simp; done) | (simp [*]; done), by repeat (first | exact Drawn0.refl _ | apply Drawn0.step)⟩
        ·rw [if_neg c16] at H
         have c16b0 : (a0.toList == ([118, 97, 114] : List UInt8)) = false := beq_eq_false_iff_ne.mpr c16
         have c16b1 : (a0.toList != ([118, 97, 114] : List UInt8)) = true := bne_iff_ne.mpr c16
         by_cases c17 : a0.toList = ([105, 102] : List UInt8)
         ·rw [if_pos c17] at H
          have c17b0 : (a0.toList == ([105, 102] : List UInt8)) = true := beq_iff_eq.mpr c17
          have c17b1 : (a0.toList != ([105, 102] : List UInt8)) = false := bne_eq_false_iff_eq.mpr c17
          clear c17
          obtain rfl := Option.some.inj H
          go_wp2
          go_ret
          exact ⟨by first | rfl | (simp; done) | (simp [*]; done), by repeat (first | exact Drawn0.refl _ | apply Drawn0.step)⟩
         ·rw [if_neg c17] at H
          have c17b0 : (a0.toList == ([105, 102] : List UInt8)) = false := beq_eq_false_iff_ne.mpr c17
          have c17b1 : (a0.toList != ([105, 102] : List UInt8)) = true := bne_iff_ne.mpr c17
          by_cases c18 : a0.toList = ([101, 108, 115, 101] : List UInt8)
          ·rw [if_pos c18] at H
           have c18b0 : (a0.toList == ([101, 108, 115, 101] : List UInt8)) = true := beq_iff_eq.mpr c18
           have c18b1 : (a0.toList != ([101, 108, 115, 101] : List UInt8)) = false := bne_eq_false_iff_eq.mpr c18
           clear c18
           obtain rfl := Option.some.inj H
           go_wp2
           go_ret
           exact ⟨by first | rfl | (simp; done) | (simp [*]; done), by repeat (first | exact Drawn0.refl _ | apply Drawn0.step)⟩
          ·rw [if_neg c18] at H
           have c18b0 : (a0.toList == ([101, 108, 115, 101] : List UInt8)) = false := beq_eq_false_iff_ne.mpr c18
           have c18b1 : (a0.toList != ([101, 108, 115, 101] : List UInt8)) = true := bne_iff_ne.mpr c18
           by_cases c19 : a0.toList = ([119, 104, 105, 108, 101] : List UInt8)
           ·rw [if_pos c19] at H
            have c19b0 : (a0.toList == ([119, 104, 105, 108, 101] : List UInt8)) = true := beq_iff_eq.mpr c19
            have c19b1 : (a0.toList != ([119, 104, 105, 108, 101] : List UInt8)) = false := bne_eq_false_iff_eq.mpr c19
            clear c19
            obtain rfl := Option.some.inj H
            go_wp2
            go_ret
            exact ⟨by first | rfl | (simp; done) | (simp [*]; done), by repeat (first | exact Drawn0.refl _ | apply Drawn0.step)⟩
           ·rw [if_neg c19] at H
            have c19b0 : (a0.toList == ([119, 104, 105, 108, 101] : List UInt8)) = false := beq_eq_false_iff_ne.mpr c19
            have c19b1 : (a0.toList != ([119, 104, 105, 108, 101] : List UInt8)) = true := bne_iff_ne.mpr c19
            by_cases c20 : a0.toList = ([111, 117, 116] : List UInt8)
            ·rw [if_pos c20] at H
             have c20b0 : (a0.toList == ([111, 117, 116] : List UInt8)) = true := beq_iff_eq.mpr c20
             have c20b1 : (a0.toList != ([111, 117, 116] : List UInt8)) = false := bne_eq_false_iff_eq.mpr c20
             clear c20
             obtain rfl := Option.some.inj H
             go_wp2
             go_ret
             exact ⟨by first | rfl | (simp; done) | (simp [*]; done), by repeat (first | exact Drawn0.refl _ | apply Drawn0.step)⟩
            ·rw [if_neg c20] at H
             have c20b0 : (a0.toList == ([111, 117, 116] : List UInt8)) = false := beq_eq_false_iff_ne.mpr c20
             have c20b1 : (a0.toList != ([111, 117, 116] : List UInt8)) = true := bne_iff_ne.mpr c20
             by_cases c21 : a0.toList = ([112, 105, 99, 107] : List UInt8)
             ·rw [if_pos c21] at H
              have c21b0 : (a0.toList == ([112, 105, 99, 107] : List UInt8)) = true := beq_iff_eq.mpr c21
              have c21b1 : (a0.toList != ([112, 105, 99, 107] : List UInt8)) = false := bne_eq_false_iff_eq.mpr c21
              clear c21
              obtain rfl := Option.some.inj H
              go_wp2
              go_ret
              exact ⟨by first | rfl | (simp; done) | (simp [*]; done), by repeat (first | exact Drawn0.refl _ | apply Drawn0.step)⟩
             ·rw [if_neg c21] at H
              have c21b0 : (a0.toList == ([112, 105, 99, 107] : List UInt8)) = false := beq_eq_false_iff_ne.mpr c21
              have c21b1 : (a0.toList != ([112, 105, 99, 107] : List UInt8)) = true := bne_iff_ne.mpr c21
              by_cases c22 : a0.toList = ([110, 101, 101, 100] : List UInt8)
              ·rw [if_pos c22] at H
               have c22b0 : (a0.toList == ([110, 101, 101, 100] : List UInt8)) = true := beq_iff_eq.mpr c22
               have c22b1 : (a0.toList != ([110, 101, 101, 100] : List UInt8)) = false := bne_eq_false_iff_eq.mpr c22
               clear c22
               obtain rfl := Option.some.inj H
               go_wp2
               go_ret
               exact ⟨by first | rfl | (simp; done) | (simp [*]; done), by repeat (first | exact Drawn0.refl _ | apply Drawn0.step)⟩
              ·rw [if_neg c22] at H
               have c22b0 : (a0.toList == ([110, 101, 101, 100] : List UInt8)) = false := beq_eq_false_iff_ne.mpr c22
               have c22b1 : (a0.toList != ([110, 101, 101, 100] : List UInt8)) = true := bne_iff_ne.mpr c22
               by_cases c23 : a0.toList = ([109, 117, 115, 116] : List UInt8)
               ·rw [if_pos c23] at H
                have c23b0 : (a0.toList == ([109, 117, 115, 116] : List UInt8)) = true := beq_iff_eq.mpr c23
                have c23b1 : (a0.toList != ([109, 117, 115, 116] : List UInt8)) = false := bne_eq_false_iff_eq.mpr c23
                clear c23
                obtain rfl := Option.some.inj H
                go_wp2
                go_ret
                exact ⟨by first | rfl | (simp; done) | (simp [*]; done), by repeat (first | exact Drawn0.refl _ | apply Drawn0.step)⟩
               ·rw [if_neg c23] at H
                have c23b0 : (a0.toList == ([109, 117, 115, 116] : List UInt8)) = false := beq_eq_false_iff_ne.mpr c23
                have c23b1 : (a0.toList != ([109, 117, 115, 116] : List UInt8)) = true := bne_iff_ne.mpr c23
                by_cases c24 : a0.toList = ([108, 101, 118, 101, 108] : List UInt8)
                ·rw [if_pos c24] at H
                 have c24b0 : (a0.toList == ([108, 101, 118, 101, 108] : List UInt8)) = true := beq_iff_eq.mpr c24
                 have c24b1 : (a0.toList != ([108, 101, 118, 101, 108] : List UInt8)) = false := bne_eq_false_iff_eq.mpr c24
                 clear c24
                 obtain rfl := Option.some.inj H
                 go_wp2
                 go_ret
                 exact ⟨by first | rfl | (simp; done) | (simp [*]; done), by repeat (first | exact Drawn0.refl _ | apply Drawn0.step)⟩
                ·rw [if_neg c24] at H
                 have c24b0 : (a0.toList == ([108, 101, 118, 101, 108] : List UInt8)) = false := beq_eq_false_iff_ne.mpr c24
                 have c24b1 : (a0.toList != ([108, 101, 118, 101, 108] : List UInt8)) = true := bne_iff_ne.mpr c24
                 by_cases c25 : a0.toList = ([115, 101, 101, 115] : List UInt8)
                 ·rw [if_pos c25] at H
                  have c25b0 : (a0.toList == ([115, 101, 101, 115] : List UInt8)) = true := beq_iff_eq.mpr c25
                  have c25b1 : (a0.toList != ([115, 101, 101, 115] : List UInt8)) = false := bne_eq_false_iff_eq.mpr c25
                  clear c25
                  obtain rfl := Option.some.inj H
                  go_wp2
                  go_ret
                  exact ⟨by first | rfl | (simp; done) | (simp [*]; done), by repeat (first | exact Drawn0.refl _ | apply Drawn0.step)⟩
                 ·rw [if_neg c25] at H
                  have c25b0 : (a0.toList == ([115, 101, 101, 115] : List UInt8)) = false := beq_eq_false_iff_ne.mpr c25
                  have c25b1 : (a0.toList != ([115, 101, 101, 115] : List UInt8)) = true := bne_iff_ne.mpr c25
                  obtain rfl := Option.some.inj H
                  go_wp2
                  go_ret
                  exact ⟨by first | rfl | (simp; done) | (simp [*]; done), by repeat (first | exact Drawn0.refl _ | apply Drawn0.step)⟩
theorem wpList_lookup_own_bool {H : Type} {P : Program} (w : World) {ops : Array Oper} {rest : List Oper} {o : Oper} {a : Act} {Q : Exit → Act → World → Prop}
    (hg : o.guard = none) (m x : Operand) (t : TypeId) (hop : o.op = Op.lookup t m x false)
    (k e : TypeId) (K : Maps.Keyed P k) (ht : P.underlying t = some (.map k e)) (he : P.underlying e = some .bool) (hz : (zeroValue e).run P w = .ok (.bool false) w) (b n : Nat) (D : DataW H)
    (hm : a.eval m = .map (some b)) (hown : w.ownsMap P k (plainElem P e) b n D) (key : Value) (kl : Lit) (hx : a.eval x = key) (hkey : keyOf P k key = some kl)
    (c : Bool) (hat : D.atKey kl (.lit (.bool false)) = .lit (.bool c))
    (hK : wpList P ops Q rest (a.put o.dst (.bool c)) w) :
    wpList P ops Q (o :: rest) a w := by
  refine wpList_plain hg fun K' hK' => ?_
  obtain ⟨v, ps, hrun, hv⟩ := hown.lookup K ht hz (plainElem_bool he false) hkey
  rw [hat] at hv
  have hvb : v = .bool c := by
    unfold plainElem at hv
    rw [he] at hv
    cases v <;> simp at hv
    exact congrArg _ hv.1
  subst hvb
  unfold Oper.wp
  simp [execOp, hop, hm, hx, hrun, Result.andThen]
  exact hK' _ _ hK
def nameSet : List ByteArray → DataW Unit
  | [] => .map []
  | s :: r => (nameSet r).put (.string s.data.toList) (.lit (.bool true))
def met (ns : List ByteArray) (s : ByteArray) : Bool := ns.any fun n => n.data.toList == s.data.toList
theorem nameSet_map : ∀ ns, Maps.IsMap (nameSet ns)
  | [] => ⟨_, rfl⟩
  | s :: r => by
    obtain ⟨es, e⟩ := nameSet_map r
    rw [nameSet, e]
    exact ⟨_, rfl⟩
theorem keyLit_str (l : List UInt8) : WideAt.IsKeyLit (.string l) := by trivial
theorem nameSet_at (s : ByteArray) : ∀ ns, (nameSet ns).atKey (.string s.data.toList) (.lit (.bool false)) = .lit (.bool (met ns s))
  | [] => rfl
  | n :: r => by
    by_cases h : n.data.toList = s.data.toList
    · rw [nameSet, h, Maps.atKey_put_same (nameSet_map r) (keyLit_str _)]
      have hb : (n.data.toList == s.data.toList) = true := by rw [h]; exact beq_self_eq_true _
      unfold met
      rw [List.any_cons, hb, Bool.true_or]
    · rw [nameSet, Maps.atKey_put_other (by intro e; injection e with e; exact h e.symm), nameSet_at s r]
      have hb : (n.data.toList == s.data.toList) = false := by simpa using h
      unfold met
      rw [List.any_cons, hb, Bool.false_or]
def expr_Heading.l0 : Nat → List ByteArray → Int → List S66 → Int → Option Int
  | 0, _, _, _, _ => none
  | k + 1, ns, x6, x1, x28 => if x28 < (x1.length : Int) then (if 0 ≤ x28 then ((expr_isName.f k (rd_T66 x1 x28).f0).bind fun t => if t = true then (if met ns (rd_T66 x1 x28).f0 = true then some 1 else if (rd_T66 x1 x28).f1 < 0 then some 1 else if (rd_T66 x1 x28).f1 > 47 then some 1 else if (rd_T66 x1 x28).f2 < 1 then some 1 else if (rd_T66 x1 x28).f2 > 8 then some 1 else expr_Heading.l0 k ((rd_T66 x1 x28).f0 :: ns) (wrap64 (x6 + (rd_T66 x1 x28).f2)) x1 (wrap64 (x28 + 1))) else some 1) else none) else if x6 > 48 then some 1 else some 0
def expr_Heading.f (k : Nat) (a0 : Int) (l1 : List S66) : Option Int :=
  if a0 < 1 then some 1 else if a0 > 8 then some 1 else if (l1.length : Int) < 1 then some 1 else if (l1.length : Int) > 18 then some 1 else expr_Heading.l0 k [] 0 l1 0
theorem ite_b {α : Type} {c : Prop} [Decidable c] {a b r : α} (h : (if c then a else b) = r) : (decide c = true ∧ a = r) ∨ (decide c = false ∧ b = r) := by
  by_cases hc : c
  · exact .inl ⟨decide_eq_true hc, by rw [if_pos hc] at h; exact h⟩
  · exact .inr ⟨decide_eq_false hc, by rw [if_neg hc] at h; exact h⟩
theorem ite_t {α : Type} {t : Bool} {a b r : α} (h : (if t = true then a else b) = r) : (t = true ∧ a = r) ∨ (t = false ∧ b = r) := by
  cases t
  · exact .inr ⟨rfl, by simpa using h⟩
  · exact .inl ⟨rfl, by simpa using h⟩
theorem own_b {H : Type} {P : Program} {k : TypeId} {R : Value → Option (DataW H × List MemPlace)} {w w1 : World} {b n : Nat} {D : DataW H} (h : w.ownsMap P k R b n D) (hb : Below w.heap.size w w1) : w1.ownsMap P k R b n D :=
  h.kept (grown_of_below hb none) (by simp)
theorem keyed_str : Maps.Keyed Try.prog 9 := Maps.string_keyed Try.underlying9
theorem key_str {s : ByteArray} (hs : s.size ≤ maxLen) : keyOf Try.prog 9 (.string s) = some (.string s.data.toList) := Go.WideMaps.keyOf_string_mk Try.underlying9 hs
theorem zero_bool (w : World) : (zeroValue 4).run Try.prog w = .ok (.bool false) w := by kernel_rfl
theorem isName_short {k : Nat} {s : ByteArray} (h : expr_isName.f k s = some true) : s.size ≤ maxLen := by
  have hj : ∀ k, expr_isName.j0 k s true ≠ some true := by
    intro k
    cases k <;> simp [expr_isName.j0]
  have : s.size ≤ 12 := by
    unfold expr_isName.f at h
    split at h
    · exact absurd h (hj _)
    · split at h
      · exact absurd h (hj _)
      · omega
  unfold maxLen
  omega
set_option maxHeartbeats 8000000 in
set_option maxRecDepth 100000 in
theorem expr_Heading.calls (k : Nat) (a0 : Int) (A1 : Option Addr) (c1 : Nat) (l1 : List S66) (r : Int) (w : World) (hr1 : Kd.C k66 w A1 l1.length l1) (hc1 : l1.length ≤ c1) (h : expr_Heading.f k a0 l1 = some r) :
    Calls Try.prog 46 #[.int .i64 a0, .slice A1 l1.length c1] w fun e w' => e = .returned (.int .i64 r) ∧ Below w.heap.size w w' := by
  have hu := Try.underlying66
  have HR1 := Aside0.mk hr1
  have hmm := @run_makeMap Try.prog
  clear hr1 hc1
  unfold expr_Heading.f at h
  rcases ite_b h with ⟨b1, h⟩ | ⟨b1, h⟩
  case inl =>
    cases h
    go_enter Try.func46, Try.ntmps46
    go_wp2
    go_ret
    exact ⟨rfl, Below.refl _ _⟩
  rcases ite_b h with ⟨b2, h⟩ | ⟨b2, h⟩
  case inl =>
    cases h
    have b2' : decide (8 < a0) = true := b2
    go_enter Try.func46, Try.ntmps46
    go_wp2
    go_ret
    exact ⟨rfl, Below.refl _ _⟩
  rcases ite_b h with ⟨b3, h⟩ | ⟨b3, h⟩
  case inl =>
    cases h
    have b2' : decide (8 < a0) = false := b2
    go_enter Try.func46, Try.ntmps46
    go_wp2
    go_ret
    exact ⟨rfl, Below.refl _ _⟩
  rcases ite_b h with ⟨b4, h⟩ | ⟨b4, h⟩
  case inl =>
    cases h
    have b2' : decide (8 < a0) = false := b2
    have b4' : decide (18 < (l1.length : Int)) = true := b4
    go_enter Try.func46, Try.ntmps46
    go_wp2
    go_ret
    exact ⟨rfl, Below.refl _ _⟩
  have b2' : decide (8 < a0) = false := b2
  have b4' : decide (18 < (l1.length : Int)) = false := b4
  have H' := Aside0.mk h
  clear h
  go_enter Try.func46, Try.ntmps46
  go_wp2
  have HM0 := Aside0.mk (World.ownsMap_made (H := Unit) w Try.prog 9 (plainElem Try.prog 4))
  go_loopg [6, 28] k (fun kq v6 v28 w' => ∃ (ns : List ByteArray) (x6 x28 : Int), v6 = .int .i64 x6 ∧ v28 = .int .i64 x28 ∧ Aside0 (expr_Heading.l0 kq ns x6 l1 x28 = some r) ∧ Aside0 ((ns.length : Int) = x28) ∧ Aside0 (w'.ownsMap Try.prog 9 (plainElem (H := Unit) Try.prog 4) w.heap.size ns.length (nameSet ns)) ∧ Aside0 (Below w.heap.size w w'))
  case atStart => exact ⟨[], 0, 0, rfl, rfl, H', ⟨rfl⟩, HM0, ⟨bal (Below.refl _ _) _⟩⟩
  case round =>
    clear H' HM0
    obtain ⟨ns, x6, x28, rfl, rfl, HA, HN, HM, HB⟩ := hrel
    cases gk with
    | zero => exact absurd HA.out (by simp [expr_Heading.l0])
    | succ k1 =>
      have H := HA.out
      clear HA
      simp only [expr_Heading.l0] at H
      rcases ite_b H with ⟨t1, H⟩ | ⟨t1, H⟩
      case inr =>
        rcases ite_b H with ⟨t2, H⟩ | ⟨t2, H⟩
        · have t2' : decide (48 < x6) = true := t2
          cases H
          go_wp2
          go_ret
          exact ⟨rfl, HB.out⟩
        · have t2' : decide (48 < x6) = false := t2
          cases H
          go_wp2
          go_ret
          exact ⟨rfl, HB.out⟩
      rcases ite_b H with ⟨t2, H⟩ | ⟨t2, H⟩
      case inr => exact absurd H (by simp)
      have p0 : 0 ≤ x28 := of_decide_eq_true t2
      have p1 : x28 < (l1.length : Int) := of_decide_eq_true t1
      obtain ⟨ad, e1, q0, q1, q2⟩ := at_T66 HR1.out x28 p0 p1
      cases e1
      replace q0 := bcell HB.out q0
      replace q1 := bcell HB.out q1
      replace q2 := bcell HB.out q2
      obtain ⟨t, A0, H⟩ := Option.bind_eq_some_iff.mp H
      have A := Aside0.mk A0
      clear A0
      have HH : (t = false ∧ r = 1) ∨ (t = true ∧ met ns (rd_T66 l1 x28).f0 = true ∧ r = 1) ∨ (t = true ∧ met ns (rd_T66 l1 x28).f0 = false ∧ decide ((rd_T66 l1 x28).f1 < 0) = true ∧ r = 1) ∨
          (t = true ∧ met ns (rd_T66 l1 x28).f0 = false ∧ decide ((rd_T66 l1 x28).f1 < 0) = false ∧ decide (47 < (rd_T66 l1 x28).f1) = true ∧ r = 1) ∨
          (t = true ∧ met ns (rd_T66 l1 x28).f0 = false ∧ decide ((rd_T66 l1 x28).f1 < 0) = false ∧ decide (47 < (rd_T66 l1 x28).f1) = false ∧ decide ((rd_T66 l1 x28).f2 < 1) = true ∧ r = 1) ∨
          (t = true ∧ met ns (rd_T66 l1 x28).f0 = false ∧ decide ((rd_T66 l1 x28).f1 < 0) = false ∧ decide (47 < (rd_T66 l1 x28).f1) = false ∧ decide ((rd_T66 l1 x28).f2 < 1) = false ∧ decide (8 < (rd_T66 l1 x28).f2) = true ∧ r = 1) ∨
          (t = true ∧ met ns (rd_T66 l1 x28).f0 = false ∧ decide ((rd_T66 l1 x28).f1 < 0) = false ∧ decide (47 < (rd_T66 l1 x28).f1) = false ∧ decide ((rd_T66 l1 x28).f2 < 1) = false ∧ decide (8 < (rd_T66 l1 x28).f2) = false ∧
            Aside0 (expr_Heading.l0 k1 ((rd_T66 l1 x28).f0 :: ns) (wrap64 (x6 + (rd_T66 l1 x28).f2)) l1 (wrap64 (x28 + 1)) = some r)) := by
        rcases ite_t H with ⟨a0, H⟩ | ⟨a0, H⟩
        case inr => exact .inl ⟨a0, (Option.some.inj H).symm⟩
        rcases ite_t H with ⟨a1, H⟩ | ⟨a1, H⟩
        case inl => exact .inr (.inl ⟨a0, a1, (Option.some.inj H).symm⟩)
        rcases ite_b H with ⟨a2, H⟩ | ⟨a2, H⟩
        case inl => exact .inr (.inr (.inl ⟨a0, a1, a2, (Option.some.inj H).symm⟩))
        rcases ite_b H with ⟨a3, H⟩ | ⟨a3, H⟩
        case inl => exact .inr (.inr (.inr (.inl ⟨a0, a1, a2, a3, (Option.some.inj H).symm⟩)))
        rcases ite_b H with ⟨a4, H⟩ | ⟨a4, H⟩
        case inl => exact .inr (.inr (.inr (.inr (.inl ⟨a0, a1, a2, a3, a4, (Option.some.inj H).symm⟩))))
        rcases ite_b H with ⟨a5, H⟩ | ⟨a5, H⟩
        case inl => exact .inr (.inr (.inr (.inr (.inr (.inl ⟨a0, a1, a2, a3, a4, a5, (Option.some.inj H).symm⟩)))))
        exact .inr (.inr (.inr (.inr (.inr (.inr ⟨a0, a1, a2, a3, a4, a5, ⟨H⟩⟩)))))
      clear H t1 t2
      have hn : Aside0 (ns.length < maxLen) := ⟨by have := HN.out; have := of_decide_eq_false b4; unfold maxLen; omega⟩
      have hsz := HB.out.size
      have hlt := HM.out.lt
      rcases HH with ⟨rfl, rfl⟩ | ⟨rfl, a1, rfl⟩ | ⟨rfl, a1, a2, rfl⟩ | ⟨rfl, a1, a2, a3, rfl⟩ | ⟨rfl, a1, a2, a3, a4, rfl⟩ | ⟨rfl, a1, a2, a3, a4, a5, rfl⟩ | ⟨rfl, a1, a2, a3, a4, a5, HA⟩
      all_goals have hp1 := eq_true p1
      all_goals have hp0 := eq_true p0
      all_goals go_wp2_with (first
        | (go_at_call 81; (with_reducible refine (expr_isName.calls k1 _ _ _ A.out).mono ?_); rintro e w' ⟨rfl, ⟨nd, rfl⟩⟩)
        | ((try (refine gate_guard (by rfl) ?_; dsimp only)); at_lookup; refine wpList_lookup_own_bool _ rfl _ _ 107 rfl 9 4 keyed_str Try.underlying107 Try.underlying4 (zero_bool _) w.heap.size ns.length (nameSet ns) rfl (own_b HM.out (by repeat (first | exact Below.refl _ _ | apply bal | apply bdN | apply bd1))) _ _ rfl (key_str (isName_short A.out)) _ ((nameSet_at _ _).trans (by rw [a1])) ?_)
        | (at_mapUpdate; refine wpList_mapUpdate_own _ rfl _ _ _ 107 rfl 9 4 keyed_str Try.underlying107 _ w.heap.size _ _ rfl (own_b HM.out (by repeat (first | exact Below.refl _ _ | apply bal | apply bdN | apply bd1))) hn.out _ _ _ rfl rfl (key_str (isName_short A.out)) _ [] (plainElem_bool Try.underlying4 true) ?_; intro w1 hown1 hgrow1; have hc2 : w1.cell? ⟨wr.heap.size, 2, none⟩ = some (.int .i64 (rd_T66 l1 x28).f2) := (World.cell?_of_block (a := ⟨wr.heap.size, 2, none⟩) (hgrow1.block wr.heap.size (by simp) (by intro e; injection e with e; omega))).trans (by go_simp)))
      iterate 6 (go_ret; exact ⟨rfl, by repeat (first | exact HB.out | apply bal | apply bdN | apply bd1)⟩)
      go_roundg k1
      case measure => omega
      case rel => exact ⟨_ :: ns, _, _, rfl, rfl, HA, ⟨by have := HN.out; have := of_decide_eq_false b4; rw [List.length_cons]; unfold wrap64; omega⟩, ⟨hown1⟩, ⟨Below.grown (by repeat (first | exact HB.out | apply bal | apply bdN | apply bd1)) hgrow1 (by simp; omega) (fun k e => by cases e; exact Nat.le_refl _)⟩⟩
mutual
def expr_head_arity.j0 : Nat → Bool → Int → List (S66) → Int → Int → Int → Int → List (S28) → Option (Int)
 | 0, _, _, _, _, _, _, _, _ => none
 | k + 1, x9, x117000, x117001, x117002, x118000, x118001, x118002, x118003 => if x9 = true then (if 0 ≤ x118001 then (if x118001 < (x117001.length : Int) then (if ((rd_T66 x117001 x118001).f2) > 1 then (some 1) else (some 0)) else (none)) else (none)) else (if x118000 ≥ 2 then (expr_head_arity.j1 k (decide (x118000 ≤ 11)) x118000 x118001 x118002 x118003) else (expr_head_arity.j1 k false x118000 x118001 x118002 x118003))
def expr_head_arity.j1 : Nat → Bool → Int → Int → Int → List (S28) → Option (Int)
 | 0, _, _, _, _, _ => none
 | k + 1, x34, x118000, x118001, x118002, x118003 => if x34 = true then (expr_head_arity.j2 k x34 x118000 x118001 x118002 x118003) else (if x118000 = 13 then (expr_head_arity.j2 k (x118000 == 13) x118000 x118001 x118002 x118003) else (expr_head_arity.j2 k (x118000 == 14) x118000 x118001 x118002 x118003))
def expr_head_arity.j2 : Nat → Bool → Int → Int → Int → List (S28) → Option (Int)
 | 0, _, _, _, _, _ => none
 | k + 1, x34, x118000, x118001, x118002, x118003 => if x34 = true then (some 2) else (if x118000 = 12 then (some 1) else (if x118000 = 15 then (some 3) else (some (-1))))
end
def expr_head_arity.f (k : Nat) (a0_0 : Int) (l0_1 : List (S66)) (a0_2 : Int) (a1_0 : Int) (a1_1 : Int) (a1_2 : Int) (l1_3 : List (S28)) : Option (Int) := if a1_0 = 0 then (some 0) else (if a1_0 = 1 then (if a1_1 ≥ 0 then (expr_head_arity.j0 k (decide (a1_1 < (l0_1.length : Int))) a0_0 l0_1 a0_2 a1_0 a1_1 a1_2 l1_3) else (expr_head_arity.j0 k false a0_0 l0_1 a0_2 a1_0 a1_1 a1_2 l1_3)) else (expr_head_arity.j0 k false a0_0 l0_1 a0_2 a1_0 a1_1 a1_2 l1_3))
set_option maxHeartbeats 8000000 in
set_option maxRecDepth 100000 in
theorem expr_head_arity.calls (k : Nat) (a0_0 : Int) (A0_1 : Option Addr) (c0_1 : Nat) (l0_1 : List (S66)) (a0_2 : Int) (a1_0 : Int) (a1_1 : Int) (a1_2 : Int) (A1_3 : Option Addr) (c1_3 : Nat) (l1_3 : List (S28)) (r : Int) (w : World) (hr0_1 : Kd.C k66 w A0_1 l0_1.length l0_1) (hc0_1 : l0_1.length ≤ c0_1) (hr1_3 : Kd.C k28 w A1_3 l1_3.length l1_3) (hc1_3 : l1_3.length ≤ c1_3) (h : expr_head_arity.f k a0_0 l0_1 a0_2 a1_0 a1_1 a1_2 l1_3 = some r) :
  Calls Try.prog 122 #[.agg #[.int .i64 a0_0, .slice A0_1 l0_1.length c0_1, .int .i64 a0_2], .agg #[.int .i64 a1_0, .int .i64 a1_1, .int .i64 a1_2, .slice A1_3 l1_3.length c1_3]] w fun e w' => e = .returned (.int .i64 r) ∧ Below w.heap.size w w' := by
 have hu110 := Try.underlying110
 have hu28 := Try.underlying28
 have HR0_1 := Aside0.mk hr0_1
 have HC0_1 := Aside0.mk hc0_1
 clear hr0_1 hc0_1
 have HR1_3 := Aside0.mk hr1_3
 have HC1_3 := Aside0.mk hc1_3
 clear hr1_3 hc1_3
 have HB := Aside0.mk (Below.refl w.heap.size w)
 have H : (if a1_0 = 0 then (some 0) else (if a1_0 = 1 then (if a1_1 ≥ 0 then (expr_head_arity.j0 k (decide (a1_1 < (l0_1.length : Int))) a0_0 l0_1 a0_2 a1_0 a1_1 a1_2 l1_3) else (expr_head_arity.j0 k false a0_0 l0_1 a0_2 a1_0 a1_1 a1_2 l1_3)) else (expr_head_arity.j0 k false a0_0 l0_1 a0_2 a1_0 a1_1 a1_2 l1_3))) = some r := h
 clear h
 by_cases c3 : a1_0 = 0
 ·rw [if_pos c3] at H
  have c3b0 : (a1_0 == 0) = true := beq_iff_eq.mpr c3
  have c3b1 : (a1_0 != 0) = false := bne_eq_false_iff_eq.mpr c3
  clear c3
  obtain rfl := Option.some.inj H
  go_enter Try.func122, Try.ntmps122
  go_wp2_with (first | ((with_reducible refine gate_dst (N := 2) rfl ?_); (try (refine gate_guard (by rfl) ?_; dsimp only)); refine box_event ?hg (N := 2) ?hd (cs := #[.int .i64 a0_0, .slice A0_1 l0_1.length c0_1, .int .i64 a0_2]) (t := 110) ?hr ?_; (case hd => rfl); (case hg => rfl); (case hr => first | (go_simp; done) | (go_simp; rfl)); intro gb116 hg w4 hbox hb; have n0_ := Aside0.mk (bsp (by repeat (first | (with_reducible first | exact HB.out | apply bal | apply bdN | apply bd1) | exact HB.out)) hb); have n1_ := Aside0.mk (hbox); have n2_ := Aside0.mk ((by rw [hg]; exact (bsz (by repeat (first | (with_reducible first | exact HB.out | apply bal | apply bdN | apply bd1) | exact HB.out))) : w.heap.size ≤ gb116)); have n3_ := Aside0.mk ((by rw [hg]; exact (bsz (by repeat (first | (with_reducible first | exact HB.out | apply bal | apply bdN | apply bd1) | exact HB.out))) : w.heap.size ≤ gb116)); clear HB; have HB := n0_; have BK116 := n1_; have GW116 := n2_; have GE116 := n3_; clear n0_ n1_ n2_ n3_; clear hb hbox hg) | ((with_reducible refine gate_dst (N := 3) rfl ?_); (try (refine gate_guard (by rfl) ?_; dsimp only)); refine box_event ?hg (N := 3) ?hd (cs := #[.int .i64 a1_0, .int .i64 a1_1, .int .i64 a1_2, .slice A1_3 l1_3.length c1_3]) (t := 28) ?hr ?_; (case hd => rfl); (case hg => rfl); (case hr => first | (go_simp; done) | (go_simp; rfl)); intro gb117 hg w5 hbox hb; have n0_ := Aside0.mk (blk_below (g := gb116) (o := .cells #[.int .i64 a0_0, .slice A0_1 l0_1.length c0_1, .int .i64 a0_2] 110 (0, 0)) (by (with_reducible repeat (first | refine kdN ?_ _ | refine kdr ?_ | refine kal ?_ _)); exact BK116.out) hb); have n1_ := Aside0.mk (bsp (by repeat (first | (with_reducible first | exact HB.out | apply bal | apply bdN | apply bd1 | refine bst ?_ GE116.out) | exact HB.out)) hb); have n2_ := Aside0.mk (hbox); have n3_ := Aside0.mk ((by rw [hg]; exact (bsz (by repeat (first | (with_reducible first | exact HB.out | apply bal | apply bdN | apply bd1 | refine bst ?_ GE116.out) | exact HB.out))) : w.heap.size ≤ gb117)); have n4_ := Aside0.mk ((by rw [hg]; exact (bsz (by repeat (first | (with_reducible first | exact HB.out | apply bal | apply bdN | apply bd1 | refine bst ?_ GE116.out) | exact HB.out))) : w.heap.size ≤ gb117)); have n5_ := Aside0.mk ((by rw [hg]; exact Nat.ne_of_lt (blk_lt (g := gb116) (o := .cells #[.int .i64 a0_0, .slice A0_1 l0_1.length c0_1, .int .i64 a0_2] 110 (0, 0)) (by (with_reducible repeat (first | refine kdN ?_ _ | refine kdr ?_ | refine kal ?_ _)); exact BK116.out)) : gb116 ≠ gb117)); have n6_ := Aside0.mk ((by rw [hg]; exact Nat.ne_of_gt (blk_lt (g := gb116) (o := .cells #[.int .i64 a0_0, .slice A0_1 l0_1.length c0_1, .int .i64 a0_2] 110 (0, 0)) (by (with_reducible repeat (first | refine kdN ?_ _ | refine kdr ?_ | refine kal ?_ _)); exact BK116.out)) : gb117 ≠ gb116)); clear BK116; clear HB; have BK116 := n0_; have HB := n1_; have BK117 := n2_; have GW117 := n3_; have GE117 := n4_; have NB116_117 := n5_; have NB117_116 := n6_; clear n0_ n1_ n2_ n3_ n4_ n5_ n6_; clear hb hbox hg; have hnb6 := NB117_116.out; have hnc6 := NB116_117.out; obtain ⟨hcz7_0, hcz7_1, hcz7_2, hcz7_3, hfz7_0, hfz7_1, hfz7_2, hfz7_3⟩ := cf4 BK117.out))
  go_ret
  exact ⟨by first | rfl | (simp [*] <;> rfl), by repeat (first | (with_reducible first | exact HB.out | apply bal | apply bdN | apply bd1 | refine bst ?_ GE116.out | refine bst ?_ GE117.out) | exact HB.out)⟩
 ·rw [if_neg c3] at H
  have c3b0 : (a1_0 == 0) = false := beq_eq_false_iff_ne.mpr c3
  have c3b1 : (a1_0 != 0) = true := bne_iff_ne.mpr c3
  have HC8 := Aside0.mk H
  clear H
  go_enter Try.func122, Try.ntmps122
  go_upto_region 3 with (first | ((with_reducible refine gate_dst (N := 2) rfl ?_); (try (refine gate_guard (by rfl) ?_; dsimp only)); refine box_event ?hg (N := 2) ?hd (cs := #[.int .i64 a0_0, .slice A0_1 l0_1.length c0_1, .int .i64 a0_2]) (t := 110) ?hr ?_; (case hd => rfl); (case hg => rfl); (case hr => first | (go_simp; done) | (go_simp; rfl)); intro gb116 hg w9 hbox hb; have n0_ := Aside0.mk (bsp (by repeat (first | (with_reducible first | exact HB.out | apply bal | apply bdN | apply bd1) | exact HB.out)) hb); have n1_ := Aside0.mk (hbox); have n2_ := Aside0.mk ((by rw [hg]; exact (bsz (by repeat (first | (with_reducible first | exact HB.out | apply bal | apply bdN | apply bd1) | exact HB.out))) : w.heap.size ≤ gb116)); have n3_ := Aside0.mk ((by rw [hg]; exact (bsz (by repeat (first | (with_reducible first | exact HB.out | apply bal | apply bdN | apply bd1) | exact HB.out))) : w.heap.size ≤ gb116)); clear HB; have HB := n0_; have BK116 := n1_; have GW116 := n2_; have GE116 := n3_; clear n0_ n1_ n2_ n3_; clear hb hbox hg) | ((with_reducible refine gate_dst (N := 3) rfl ?_); (try (refine gate_guard (by rfl) ?_; dsimp only)); refine box_event ?hg (N := 3) ?hd (cs := #[.int .i64 a1_0, .int .i64 a1_1, .int .i64 a1_2, .slice A1_3 l1_3.length c1_3]) (t := 28) ?hr ?_; (case hd => rfl); (case hg => rfl); (case hr => first | (go_simp; done) | (go_simp; rfl)); intro gb117 hg w10 hbox hb; have n0_ := Aside0.mk (blk_below (g := gb116) (o := .cells #[.int .i64 a0_0, .slice A0_1 l0_1.length c0_1, .int .i64 a0_2] 110 (0, 0)) (by (with_reducible repeat (first | refine kdN ?_ _ | refine kdr ?_ | refine kal ?_ _)); exact BK116.out) hb); have n1_ := Aside0.mk (bsp (by repeat (first | (with_reducible first | exact HB.out | apply bal | apply bdN | apply bd1 | refine bst ?_ GE116.out) | exact HB.out)) hb); have n2_ := Aside0.mk (hbox); have n3_ := Aside0.mk ((by rw [hg]; exact (bsz (by repeat (first | (with_reducible first | exact HB.out | apply bal | apply bdN | apply bd1 | refine bst ?_ GE116.out) | exact HB.out))) : w.heap.size ≤ gb117)); have n4_ := Aside0.mk ((by rw [hg]; exact (bsz (by repeat (first | (with_reducible first | exact HB.out | apply bal | apply bdN | apply bd1 | refine bst ?_ GE116.out) | exact HB.out))) : w.heap.size ≤ gb117)); have n5_ := Aside0.mk ((by rw [hg]; exact Nat.ne_of_lt (blk_lt (g := gb116) (o := .cells #[.int .i64 a0_0, .slice A0_1 l0_1.length c0_1, .int .i64 a0_2] 110 (0, 0)) (by (with_reducible repeat (first | refine kdN ?_ _ | refine kdr ?_ | refine kal ?_ _)); exact BK116.out)) : gb116 ≠ gb117)); have n6_ := Aside0.mk ((by rw [hg]; exact Nat.ne_of_gt (blk_lt (g := gb116) (o := .cells #[.int .i64 a0_0, .slice A0_1 l0_1.length c0_1, .int .i64 a0_2] 110 (0, 0)) (by (with_reducible repeat (first | refine kdN ?_ _ | refine kdr ?_ | refine kal ?_ _)); exact BK116.out)) : gb117 ≠ gb116)); clear BK116; clear HB; have BK116 := n0_; have HB := n1_; have BK117 := n2_; have GW117 := n3_; have GE117 := n4_; have NB116_117 := n5_; have NB117_116 := n6_; clear n0_ n1_ n2_ n3_ n4_ n5_ n6_; clear hb hbox hg; have hnb11 := NB117_116.out; have hnc11 := NB116_117.out; obtain ⟨hcz12_0, hcz12_1, hcz12_2, hcz12_3, hfz12_0, hfz12_1, hfz12_2, hfz12_3⟩ := cf4 BK117.out))
  (try simp only [Act.put, List.setIfInBounds_toArray, List.set_cons_zero, List.set_cons_succ])
  go_cut [9] (fun v9 wc => ∃ (kq : Nat) (x9_7 : Bool), v9 = .bool x9_7 ∧ Aside0 (expr_head_arity.j0 kq x9_7 a0_0 l0_1 a0_2 a1_0 a1_1 a1_2 l1_3 = some r) ∧ Aside0 (kq ≤ k) ∧ Aside0 (wc.heap[gb116]? = some (.cells #[.int .i64 a0_0, (.slice A0_1 l0_1.length c0_1), .int .i64 a0_2] 110 (0, 0))) ∧ Aside0 (wc.heap[gb117]? = some (.cells #[.int .i64 a1_0, .int .i64 a1_1, .int .i64 a1_2, (.slice A1_3 l1_3.length c1_3)] 28 (0, 0))) ∧ Aside0 (Below w.heap.size w wc))
  case first =>
   have H := HC8.out
   clear HC8
   by_cases c13 : a1_0 = 1
   ·rw [if_pos c13] at H
    have c13b0 : (a1_0 == 1) = true := beq_iff_eq.mpr c13
    have c13b1 : (a1_0 != 1) = false := bne_eq_false_iff_eq.mpr c13
    clear c13
    (first | rw [c13b0] | (simp only [i64_w, i32_w]; rw [c13b0]) | skip)
    by_cases c14 : a1_1 ≥ 0
    ·rw [if_pos c14] at H
     have c14b0 : decide (0 ≤ a1_1) = true := decide_eq_true c14
     clear c14
     have H' := Aside0.mk H
     clear H
     have hnb15 := NB117_116.out
     have hnc15 := NB116_117.out
     obtain ⟨hcz16_0, hcz16_1, hcz16_2, hcz16_3, hfz16_0, hfz16_1, hfz16_2, hfz16_3⟩ := cf4 BK117.out
     obtain ⟨hcz17_0, hcz17_1, hcz17_2, hfz17_0, hfz17_1, hfz17_2⟩ := cf3 BK116.out
     go_wp2
     go_meet
     case rel => exact ⟨_, (decide (a1_1 < (l0_1.length : Int))), (by first | rfl | (simp; done) | (simp [*]; done)), H', ⟨by first | omega | exact Nat.le_refl _⟩, ⟨by (with_reducible repeat (first | refine kdN ?_ _ | refine kdr ?_ | refine kal ?_ _)); exact BK116.out⟩, ⟨by (with_reducible repeat (first | refine kdN ?_ _ | refine kdr ?_ | refine kal ?_ _)); exact BK117.out⟩, ⟨by repeat (first | (with_reducible first | exact HB.out | apply bal | apply bdN | apply bd1 | refine bst ?_ GE116.out | refine bst ?_ GE117.out) | exact HB.out)⟩⟩
    ·rw [if_neg c14] at H
     have c14b0 : decide (0 ≤ a1_1) = false := decide_eq_false c14
     clear c14
     have H' := Aside0.mk H
     clear H
     have hnb18 := NB117_116.out
     have hnc18 := NB116_117.out
     obtain ⟨hcz19_0, hcz19_1, hcz19_2, hcz19_3, hfz19_0, hfz19_1, hfz19_2, hfz19_3⟩ := cf4 BK117.out
     go_wp2
     go_meet
     case rel => exact ⟨_, (false), (by first | rfl | (simp; done) | (simp [*]; done)), H', ⟨by first | omega | exact Nat.le_refl _⟩, ⟨by (with_reducible repeat (first | refine kdN ?_ _ | refine kdr ?_ | refine kal ?_ _)); exact BK116.out⟩, ⟨by (with_reducible repeat (first | refine kdN ?_ _ | refine kdr ?_ | refine kal ?_ _)); exact BK117.out⟩, ⟨by repeat (first | (with_reducible first | exact HB.out | apply bal | apply bdN | apply bd1 | refine bst ?_ GE116.out | refine bst ?_ GE117.out) | exact HB.out)⟩⟩
   ·rw [if_neg c13] at H
    have c13b0 : (a1_0 == 1) = false := beq_eq_false_iff_ne.mpr c13
    have c13b1 : (a1_0 != 1) = true := bne_iff_ne.mpr c13
    (first | rw [c13b0] | (simp only [i64_w, i32_w]; rw [c13b0]) | skip)
    have H' := Aside0.mk H
    clear H
    have hnb20 := NB117_116.out
    have hnc20 := NB116_117.out
    obtain ⟨hcz21_0, hcz21_1, hcz21_2, hcz21_3, hfz21_0, hfz21_1, hfz21_2, hfz21_3⟩ := cf4 BK117.out
    go_wp2
    go_meet
    case rel => exact ⟨_, (false), (by first | rfl | (simp; done) | (simp [*]; done)), H', ⟨by first | omega | exact Nat.le_refl _⟩, ⟨by (with_reducible repeat (first | refine kdN ?_ _ | refine kdr ?_ | refine kal ?_ _)); exact BK116.out⟩, ⟨by (with_reducible repeat (first | refine kdN ?_ _ | refine kdr ?_ | refine kal ?_ _)); exact BK117.out⟩, ⟨by repeat (first | (with_reducible first | exact HB.out | apply bal | apply bdN | apply bd1 | refine bst ?_ GE116.out | refine bst ?_ GE117.out) | exact HB.out)⟩⟩
  case rest =>
   clear HC8
   try clear c1
   try clear c2
   try clear p2
   try clear c3
   try clear c3b0
   try clear c3b1
   try clear c6
   try clear c11
   try clear c12
   try clear c13
   try clear c13b0
   try clear c13b1
   try clear c14
   try clear c14b0
   try clear c15
   try clear c18
   try clear c20
   try clear hcz12_0
   try clear hcz12_1
   try clear hcz12_2
   try clear hcz12_3
   try clear hcz16_0
   try clear hcz16_1
   try clear hcz16_2
   try clear hcz16_3
   try clear hcz17_0
   try clear hcz17_1
   try clear hcz17_2
   try clear hcz19_0
   try clear hcz19_1
   try clear hcz19_2
   try clear hcz19_3
   try clear hcz21_0
   try clear hcz21_1
   try clear hcz21_2
   try clear hcz21_3
   try clear hcz7_0
   try clear hcz7_1
   try clear hcz7_2
   try clear hcz7_3
   try clear hfz12_0
   try clear hfz12_1
   try clear hfz12_2
   try clear hfz12_3
   try clear hfz16_0
   try clear hfz16_1
   try clear hfz16_2
   try clear hfz16_3
   try clear hfz17_0
   try clear hfz17_1
   try clear hfz17_2
   try clear hfz19_0
   try clear hfz19_1
   try clear hfz19_2
   try clear hfz19_3
   try clear hfz21_0
   try clear hfz21_1
   try clear hfz21_2
   try clear hfz21_3
   try clear hfz7_0
   try clear hfz7_1
   try clear hfz7_2
   try clear hfz7_3
   obtain ⟨kq, x9_7, rfl, HA, HJ7, BK116, BK117, HB⟩ := hcut
   cases kq with
   | zero => exact absurd HA.out (by simp [expr_head_arity.j0])
   | succ kj7 =>
    have H := HA.out
    clear HA
    simp only [expr_head_arity.j0] at H
    by_cases c22 : x9_7 = true
    ·subst c22
     have H1 : (if 0 ≤ a1_1 then (if a1_1 < (l0_1.length : Int) then (if ((rd_T66 l0_1 a1_1).f2) > 1 then (some 1) else (some 0)) else (none)) else (none)) = some r := by rw [if_pos rfl] at H; exact H
     clear H
     have H := H1
     clear H1
     by_cases c23 : 0 ≤ a1_1
     ·rw [if_pos c23] at H
      have c23b0 : decide (0 ≤ a1_1) = true := decide_eq_true c23
      clear c23
      by_cases c24 : a1_1 < (l0_1.length : Int)
      ·rw [if_pos c24] at H
       have c24b0 : decide (a1_1 < (l0_1.length : Int)) = true := decide_eq_true c24
       clear c24
       by_cases c25 : ((rd_T66 l0_1 a1_1).f2) > 1
       ·rw [if_pos c25] at H
        have c25b0 : decide (1 < ((rd_T66 l0_1 a1_1).f2)) = true := decide_eq_true c25
        clear c25
        obtain rfl := Option.some.inj H
        have hnb26 := NB116_117.out
        have hnc26 := NB117_116.out
        obtain ⟨hcz27_0, hcz27_1, hcz27_2, hfz27_0, hfz27_1, hfz27_2⟩ := cf3 BK116.out
        obtain ⟨hcz28_0, hcz28_1, hcz28_2, hcz28_3, hfz28_0, hfz28_1, hfz28_2, hfz28_3⟩ := cf4 BK117.out
        have p118 : 0 ≤ (a1_1 : Int) := of_decide_eq_true (by first | (with_reducible assumption) | assumption)
        have q118 : a1_1 < (l0_1.length : Int) := of_decide_eq_true (by first | (with_reducible assumption) | assumption)
        obtain ⟨ad118, e118, hx118_0, hx118_1, hx118_2⟩ := at_T66 HR0_1.out a1_1 p118 q118
        cases e118
        replace hx118_0 := bcell HB.out hx118_0
        replace hx118_1 := bcell HB.out hx118_1
        replace hx118_2 := bcell HB.out hx118_2
        replace p118 := eq_true p118
        replace q118 := eq_true q118
        go_wp2
        go_ret
        exact ⟨by first | rfl | (simp [*] <;> rfl), by repeat (first | (with_reducible first | exact HB.out | apply bal | apply bdN | apply bd1 | refine bst ?_ GE116.out | refine bst ?_ GE117.out) | exact HB.out)⟩
       ·rw [if_neg c25] at H
        have c25b0 : decide (1 < ((rd_T66 l0_1 a1_1).f2)) = false := decide_eq_false c25
        clear c25
        obtain rfl := Option.some.inj H
        have hnb29 := NB116_117.out
        have hnc29 := NB117_116.out
        obtain ⟨hcz30_0, hcz30_1, hcz30_2, hfz30_0, hfz30_1, hfz30_2⟩ := cf3 BK116.out
        obtain ⟨hcz31_0, hcz31_1, hcz31_2, hcz31_3, hfz31_0, hfz31_1, hfz31_2, hfz31_3⟩ := cf4 BK117.out
        have p118 : 0 ≤ (a1_1 : Int) := of_decide_eq_true (by first | (with_reducible assumption) | assumption)
        have q118 : a1_1 < (l0_1.length : Int) := of_decide_eq_true (by first | (with_reducible assumption) | assumption)
        obtain ⟨ad118, e118, hx118_0, hx118_1, hx118_2⟩ := at_T66 HR0_1.out a1_1 p118 q118
        cases e118
        replace hx118_0 := bcell HB.out hx118_0
        replace hx118_1 := bcell HB.out hx118_1
        replace hx118_2 := bcell HB.out hx118_2
        replace p118 := eq_true p118
        replace q118 := eq_true q118
        go_wp2
        go_ret
        exact ⟨by first | rfl | (simp [*] <;> rfl), by repeat (first | (with_reducible first | exact HB.out | apply bal | apply bdN | apply bd1 | refine bst ?_ GE116.out | refine bst ?_ GE117.out) | exact HB.out)⟩
      ·rw [if_neg c24] at H
       exact absurd H (by simp)
     ·rw [if_neg c23] at H
      exact absurd H (by simp)
    ·replace c22 := Bool.eq_false_iff.mpr c22
     subst c22
     have H1 : (if a1_0 ≥ 2 then (expr_head_arity.j1 kj7 (decide (a1_0 ≤ 11)) a1_0 a1_1 a1_2 l1_3) else (expr_head_arity.j1 kj7 false a1_0 a1_1 a1_2 l1_3)) = some r := by rw [if_neg (show ¬ (false = true) by decide)] at H; exact H
     clear H
     have H := H1
     clear H1
     have HC32 := Aside0.mk H
     clear H
     go_upto_region 7 with (fail)
     go_cut [34] (fun v34 wc => ∃ (kq : Nat) (x34_31 : Bool), v34 = .bool x34_31 ∧ Aside0 (expr_head_arity.j1 kq x34_31 a1_0 a1_1 a1_2 l1_3 = some r) ∧ Aside0 (kq ≤ kj7) ∧ Aside0 (wc.heap[gb116]? = some (.cells #[.int .i64 a0_0, (.slice A0_1 l0_1.length c0_1), .int .i64 a0_2] 110 (0, 0))) ∧ Aside0 (wc.heap[gb117]? = some (.cells #[.int .i64 a1_0, .int .i64 a1_1, .int .i64 a1_2, (.slice A1_3 l1_3.length c1_3)] 28 (0, 0))) ∧ Aside0 (Below w.heap.size w wc))
     case first =>
      have H := HC32.out
      clear HC32
      by_cases c33 : a1_0 ≥ 2
      ·rw [if_pos c33] at H
       have c33b0 : decide (2 ≤ a1_0) = true := decide_eq_true c33
       clear c33
       (first | rw [c33b0] | (simp only [i64_w, i32_w]; rw [c33b0]) | skip)
       have H' := Aside0.mk H
       clear H
       have hnb34 := NB117_116.out
       have hnc34 := NB116_117.out
       obtain ⟨hcz35_0, hcz35_1, hcz35_2, hcz35_3, hfz35_0, hfz35_1, hfz35_2, hfz35_3⟩ := cf4 BK117.out
       go_wp2
       go_meet
       case rel => exact ⟨_, (decide (a1_0 ≤ 11)), (by first | rfl | (simp; done) | (simp [*]; done)), H', ⟨by have := HJ7.out; first | omega | exact Nat.le_refl _⟩, ⟨by (with_reducible repeat (first | refine kdN ?_ _ | refine kdr ?_ | refine kal ?_ _)); exact BK116.out⟩, ⟨by (with_reducible repeat (first | refine kdN ?_ _ | refine kdr ?_ | refine kal ?_ _)); exact BK117.out⟩, ⟨by repeat (first | (with_reducible first | exact HB.out | apply bal | apply bdN | apply bd1 | refine bst ?_ GE116.out | refine bst ?_ GE117.out) | exact HB.out)⟩⟩
      ·rw [if_neg c33] at H
       have c33b0 : decide (2 ≤ a1_0) = false := decide_eq_false c33
       clear c33
       (first | rw [c33b0] | (simp only [i64_w, i32_w]; rw [c33b0]) | skip)
       have H' := Aside0.mk H
       clear H
       have hnb36 := NB117_116.out
       have hnc36 := NB116_117.out
       obtain ⟨hcz37_0, hcz37_1, hcz37_2, hcz37_3, hfz37_0, hfz37_1, hfz37_2, hfz37_3⟩ := cf4 BK117.out
       go_wp2
       go_meet
       case rel => exact ⟨_, (false), (by first | rfl | (simp; done) | (simp [*]; done)), H', ⟨by have := HJ7.out; first | omega | exact Nat.le_refl _⟩, ⟨by (with_reducible repeat (first | refine kdN ?_ _ | refine kdr ?_ | refine kal ?_ _)); exact BK116.out⟩, ⟨by (with_reducible repeat (first | refine kdN ?_ _ | refine kdr ?_ | refine kal ?_ _)); exact BK117.out⟩, ⟨by repeat (first | (with_reducible first | exact HB.out | apply bal | apply bdN | apply bd1 | refine bst ?_ GE116.out | refine bst ?_ GE117.out) | exact HB.out)⟩⟩
     case rest =>
      clear HC32
      try clear c1
      try clear p1
      try clear q1
      try clear hx1
      try clear c2
      try clear p2
      try clear c3
      try clear c3b0
      try clear c3b1
      try clear c6
      try clear c11
      try clear p11
      try clear q11
      try clear hx11
      try clear c12
      try clear c13
      try clear c13b0
      try clear c13b1
      try clear c14
      try clear c14b0
      try clear c15
      try clear c18
      try clear c20
      try clear c22
      try clear c23
      try clear c23b0
      try clear c24
      try clear c24b0
      try clear c25
      try clear c25b0
      try clear c26
      try clear c29
      try clear c33
      try clear c33b0
      try clear c34
      try clear c36
      try clear hcz12_0
      try clear hcz12_1
      try clear hcz12_2
      try clear hcz12_3
      try clear hcz16_0
      try clear hcz16_1
      try clear hcz16_2
      try clear hcz16_3
      try clear hcz17_0
      try clear hcz17_1
      try clear hcz17_2
      try clear hcz19_0
      try clear hcz19_1
      try clear hcz19_2
      try clear hcz19_3
      try clear hcz21_0
      try clear hcz21_1
      try clear hcz21_2
      try clear hcz21_3
      try clear hcz27_0
      try clear hcz27_1
      try clear hcz27_2
      try clear hcz28_0
      try clear hcz28_1
      try clear hcz28_2
      try clear hcz28_3
      try clear hcz30_0
      try clear hcz30_1
      try clear hcz30_2
      try clear hcz31_0
      try clear hcz31_1
      try clear hcz31_2
      try clear hcz31_3
      try clear hcz35_0
      try clear hcz35_1
      try clear hcz35_2
      try clear hcz35_3
      try clear hcz37_0
      try clear hcz37_1
      try clear hcz37_2
      try clear hcz37_3
      try clear hcz7_0
      try clear hcz7_1
      try clear hcz7_2
      try clear hcz7_3
      try clear hfz12_0
      try clear hfz12_1
      try clear hfz12_2
      try clear hfz12_3
      try clear hfz16_0
      try clear hfz16_1
      try clear hfz16_2
      try clear hfz16_3
      try clear hfz17_0
      try clear hfz17_1
      try clear hfz17_2
      try clear hfz19_0
      try clear hfz19_1
      try clear hfz19_2
      try clear hfz19_3
      try clear hfz21_0
      try clear hfz21_1
      try clear hfz21_2
      try clear hfz21_3
      try clear hfz27_0
      try clear hfz27_1
      try clear hfz27_2
      try clear hfz28_0
      try clear hfz28_1
      try clear hfz28_2
      try clear hfz28_3
      try clear hfz30_0
      try clear hfz30_1
      try clear hfz30_2
      try clear hfz31_0
      try clear hfz31_1
      try clear hfz31_2
      try clear hfz31_3
      try clear hfz35_0
      try clear hfz35_1
      try clear hfz35_2
      try clear hfz35_3
      try clear hfz37_0
      try clear hfz37_1
      try clear hfz37_2
      try clear hfz37_3
      try clear hfz7_0
      try clear hfz7_1
      try clear hfz7_2
      try clear hfz7_3
      try clear hx118_0
      try clear hx118_1
      try clear hx118_2
      try clear p118
      try clear p2
      try clear q118
      obtain ⟨kq, x34_31, rfl, HA, HJ31, BK116, BK117, HB⟩ := hcut
      cases kq with
      | zero => exact absurd HA.out (by simp [expr_head_arity.j1])
      | succ kj31 =>
       have H := HA.out
       clear HA
       simp only [expr_head_arity.j1] at H
       have HC38 := Aside0.mk H
       clear H
       go_upto_if 34 with (fail)
       go_cut [34] (fun v34 wc => ∃ (kq : Nat) (x34_37 : Bool), v34 = .bool x34_37 ∧ Aside0 (expr_head_arity.j2 kq x34_37 a1_0 a1_1 a1_2 l1_3 = some r) ∧ Aside0 (kq ≤ kj31) ∧ Aside0 (wc.heap[gb116]? = some (.cells #[.int .i64 a0_0, (.slice A0_1 l0_1.length c0_1), .int .i64 a0_2] 110 (0, 0))) ∧ Aside0 (wc.heap[gb117]? = some (.cells #[.int .i64 a1_0, .int .i64 a1_1, .int .i64 a1_2, (.slice A1_3 l1_3.length c1_3)] 28 (0, 0))) ∧ Aside0 (Below w.heap.size w wc))
       case first =>
        have H := HC38.out
        clear HC38
        by_cases c39 : x34_31 = true
        ·subst c39
         have H1 : (expr_head_arity.j2 kj31 true a1_0 a1_1 a1_2 l1_3) = some r := by rw [if_pos rfl] at H; exact H
         clear H
         have H := H1
         clear H1
         have H' := Aside0.mk H
         clear H
         go_wp2
         go_meet
         case rel => exact ⟨_, (true), (by first | rfl | (simp; done) | (simp [*]; done)), H', ⟨by have := HJ7.out; have := HJ31.out; first | omega | exact Nat.le_refl _⟩, ⟨by (with_reducible repeat (first | refine kdN ?_ _ | refine kdr ?_ | refine kal ?_ _)); exact BK116.out⟩, ⟨by (with_reducible repeat (first | refine kdN ?_ _ | refine kdr ?_ | refine kal ?_ _)); exact BK117.out⟩, ⟨by repeat (first | (with_reducible first | exact HB.out | apply bal | apply bdN | apply bd1 | refine bst ?_ GE116.out | refine bst ?_ GE117.out) | exact HB.out)⟩⟩
        ·replace c39 := Bool.eq_false_iff.mpr c39
         subst c39
         have H1 : (if a1_0 = 13 then (expr_head_arity.j2 kj31 (a1_0 == 13) a1_0 a1_1 a1_2 l1_3) else (expr_head_arity.j2 kj31 (a1_0 == 14) a1_0 a1_1 a1_2 l1_3)) = some r := by rw [if_neg (show ¬ (false = true) by decide)] at H; exact H
         clear H
         have H := H1
         clear H1
         by_cases c40 : a1_0 = 13
         ·rw [if_pos c40] at H
          have c40b0 : (a1_0 == 13) = true := beq_iff_eq.mpr c40
          have c40b1 : (a1_0 != 13) = false := bne_eq_false_iff_eq.mpr c40
          clear c40
          (first | rw [c40b0] | (simp only [i64_w, i32_w]; rw [c40b0]) | skip)
          have H' := Aside0.mk H
          clear H
          have hnb41 := NB117_116.out
          have hnc41 := NB116_117.out
          obtain ⟨hcz42_0, hcz42_1, hcz42_2, hcz42_3, hfz42_0, hfz42_1, hfz42_2, hfz42_3⟩ := cf4 BK117.out
          go_wp2
          go_meet
          case rel => exact ⟨_, ((a1_0 == 13)), (by first | rfl | (simp; done) | (simp [*]; done)), H', ⟨by have := HJ7.out; have := HJ31.out; first | omega | exact Nat.le_refl _⟩, ⟨by (with_reducible repeat (first | refine kdN ?_ _ | refine kdr ?_ | refine kal ?_ _)); exact BK116.out⟩, ⟨by (with_reducible repeat (first | refine kdN ?_ _ | refine kdr ?_ | refine kal ?_ _)); exact BK117.out⟩, ⟨by repeat (first | (with_reducible first | exact HB.out | apply bal | apply bdN | apply bd1 | refine bst ?_ GE116.out | refine bst ?_ GE117.out) | exact HB.out)⟩⟩
         ·rw [if_neg c40] at H
          have c40b0 : (a1_0 == 13) = false := beq_eq_false_iff_ne.mpr c40
          have c40b1 : (a1_0 != 13) = true := bne_iff_ne.mpr c40
          (first | rw [c40b0] | (simp only [i64_w, i32_w]; rw [c40b0]) | skip)
          have H' := Aside0.mk H
          clear H
          have hnb43 := NB117_116.out
          have hnc43 := NB116_117.out
          obtain ⟨hcz44_0, hcz44_1, hcz44_2, hcz44_3, hfz44_0, hfz44_1, hfz44_2, hfz44_3⟩ := cf4 BK117.out
          go_wp2
          go_meet
          case rel => exact ⟨_, ((a1_0 == 14)), (by first | rfl | (simp; done) | (simp [*]; done)), H', ⟨by have := HJ7.out; have := HJ31.out; first | omega | exact Nat.le_refl _⟩, ⟨by (with_reducible repeat (first | refine kdN ?_ _ | refine kdr ?_ | refine kal ?_ _)); exact BK116.out⟩, ⟨by (with_reducible repeat (first | refine kdN ?_ _ | refine kdr ?_ | refine kal ?_ _)); exact BK117.out⟩, ⟨by repeat (first | (with_reducible first | exact HB.out | apply bal | apply bdN | apply bd1 | refine bst ?_ GE116.out | refine bst ?_ GE117.out) | exact HB.out)⟩⟩
       case rest =>
        clear HC38
        try clear c1
        try clear p1
        try clear q1
        try clear hx1
        try clear c2
        try clear p2
        try clear c3
        try clear c3b0
        try clear c3b1
        try clear c4
        try clear c6
        try clear c11
        try clear p11
        try clear q11
        try clear hx11
        try clear c12
        try clear c13
        try clear c13b0
        try clear c13b1
        try clear c14
        try clear c14b0
        try clear c15
        try clear c18
        try clear c20
        try clear c22
        try clear c23
        try clear c23b0
        try clear c24
        try clear c24b0
        try clear c25
        try clear c25b0
        try clear c26
        try clear c29
        try clear c33
        try clear c33b0
        try clear c34
        try clear c36
        try clear c39
        try clear c40
        try clear c40b0
        try clear c40b1
        try clear c41
        try clear c43
        try clear hcz12_0
        try clear hcz12_1
        try clear hcz12_2
        try clear hcz12_3
        try clear hcz16_0
        try clear hcz16_1
        try clear hcz16_2
        try clear hcz16_3
        try clear hcz17_0
        try clear hcz17_1
        try clear hcz17_2
        try clear hcz19_0
        try clear hcz19_1
        try clear hcz19_2
        try clear hcz19_3
        try clear hcz21_0
        try clear hcz21_1
        try clear hcz21_2
        try clear hcz21_3
        try clear hcz27_0
        try clear hcz27_1
        try clear hcz27_2
        try clear hcz28_0
        try clear hcz28_1
        try clear hcz28_2
        try clear hcz28_3
        try clear hcz30_0
        try clear hcz30_1
        try clear hcz30_2
        try clear hcz31_0
        try clear hcz31_1
        try clear hcz31_2
        try clear hcz31_3
        try clear hcz35_0
        try clear hcz35_1
        try clear hcz35_2
        try clear hcz35_3
        try clear hcz37_0
        try clear hcz37_1
        try clear hcz37_2
        try clear hcz37_3
        try clear hcz42_0
        try clear hcz42_1
        try clear hcz42_2
        try clear hcz42_3
        try clear hcz44_0
        try clear hcz44_1
        try clear hcz44_2
        try clear hcz44_3
        try clear hcz7_0
        try clear hcz7_1
        try clear hcz7_2
        try clear hcz7_3
        try clear hfz12_0
        try clear hfz12_1
        try clear hfz12_2
        try clear hfz12_3
        try clear hfz16_0
        try clear hfz16_1
        try clear hfz16_2
        try clear hfz16_3
        try clear hfz17_0
        try clear hfz17_1
        try clear hfz17_2
        try clear hfz19_0
        try clear hfz19_1
        try clear hfz19_2
        try clear hfz19_3
        try clear hfz21_0
        try clear hfz21_1
        try clear hfz21_2
        try clear hfz21_3
        try clear hfz27_0
        try clear hfz27_1
        try clear hfz27_2
        try clear hfz28_0
        try clear hfz28_1
        try clear hfz28_2
        try clear hfz28_3
        try clear hfz30_0
        try clear hfz30_1
        try clear hfz30_2
        try clear hfz31_0
        try clear hfz31_1
        try clear hfz31_2
        try clear hfz31_3
        try clear hfz35_0
        try clear hfz35_1
        try clear hfz35_2
        try clear hfz35_3
        try clear hfz37_0
        try clear hfz37_1
        try clear hfz37_2
        try clear hfz37_3
        try clear hfz42_0
        try clear hfz42_1
        try clear hfz42_2
        try clear hfz42_3
        try clear hfz44_0
        try clear hfz44_1
        try clear hfz44_2
        try clear hfz44_3
        try clear hfz7_0
        try clear hfz7_1
        try clear hfz7_2
        try clear hfz7_3
        try clear hx118_0
        try clear hx118_1
        try clear hx118_2
        try clear p1
        try clear p11
        try clear p118
        try clear p2
        try clear q1
        try clear q11
        try clear q118
        obtain ⟨kq, x34_37, rfl, HA, HJ37, BK116, BK117, HB⟩ := hcut
        cases kq with
        | zero => exact absurd HA.out (by simp [expr_head_arity.j2])
        | succ kj37 =>
         have H := HA.out
         clear HA
         simp only [expr_head_arity.j2] at H
         by_cases c45 : x34_37 = true
         ·subst c45
          have H1 : (some 2) = some r := by rw [if_pos rfl] at H; exact H
          clear H
          have H := H1
          clear H1
          obtain rfl := Option.some.inj H
          go_wp2
          go_ret
          exact ⟨by first | rfl | (simp [*] <;> rfl), by repeat (first | (with_reducible first | exact HB.out | apply bal | apply bdN | apply bd1 | refine bst ?_ GE116.out | refine bst ?_ GE117.out) | exact HB.out)⟩
         ·replace c45 := Bool.eq_false_iff.mpr c45
          subst c45
          have H1 : (if a1_0 = 12 then (some 1) else (if a1_0 = 15 then (some 3) else (some (-1)))) = some r := by rw [if_neg (show ¬ (false = true) by decide)] at H; exact H
          clear H
          have H := H1
          clear H1
          by_cases c46 : a1_0 = 12
          ·rw [if_pos c46] at H
           have c46b0 : (a1_0 == 12) = true := beq_iff_eq.mpr c46
           have c46b1 : (a1_0 != 12) = false := bne_eq_false_iff_eq.mpr c46
           clear c46
           obtain rfl := Option.some.inj H
           have hnb47 := NB117_116.out
           have hnc47 := NB116_117.out
           obtain ⟨hcz48_0, hcz48_1, hcz48_2, hcz48_3, hfz48_0, hfz48_1, hfz48_2, hfz48_3⟩ := cf4 BK117.out
           go_wp2
           go_ret
           exact ⟨by first | rfl | (simp [*] <;> rfl), by repeat (first | (with_reducible first | exact HB.out | apply bal | apply bdN | apply bd1 | refine bst ?_ GE116.out | refine bst ?_ GE117.out) | exact HB.out)⟩
          ·rw [if_neg c46] at H
           have c46b0 : (a1_0 == 12) = false := beq_eq_false_iff_ne.mpr c46
           have c46b1 : (a1_0 != 12) = true := bne_iff_ne.mpr c46
           by_cases c49 : a1_0 = 15
           ·rw [if_pos c49] at H
            have c49b0 : (a1_0 == 15) = true := beq_iff_eq.mpr c49
            have c49b1 : (a1_0 != 15) = false := bne_eq_false_iff_eq.mpr c49
            clear c49
            obtain rfl := Option.some.inj H
            have hnb50 := NB117_116.out
            have hnc50 := NB116_117.out
            obtain ⟨hcz51_0, hcz51_1, hcz51_2, hcz51_3, hfz51_0, hfz51_1, hfz51_2, hfz51_3⟩ := cf4 BK117.out
            go_wp2
            go_ret
            exact ⟨by first | rfl | (simp [*] <;> rfl), by repeat (first | (with_reducible first | exact HB.out | apply bal | apply bdN | apply bd1 | refine bst ?_ GE116.out | refine bst ?_ GE117.out) | exact HB.out)⟩
           ·rw [if_neg c49] at H
            have c49b0 : (a1_0 == 15) = false := beq_eq_false_iff_ne.mpr c49
            have c49b1 : (a1_0 != 15) = true := bne_iff_ne.mpr c49
            obtain rfl := Option.some.inj H
            have hnb52 := NB117_116.out
            have hnc52 := NB116_117.out
            obtain ⟨hcz53_0, hcz53_1, hcz53_2, hcz53_3, hfz53_0, hfz53_1, hfz53_2, hfz53_3⟩ := cf4 BK117.out
            go_wp2
            go_ret
            exact ⟨by first | rfl | (simp [*] <;> rfl), by repeat (first | (with_reducible first | exact HB.out | apply bal | apply bdN | apply bd1 | refine bst ?_ GE116.out | refine bst ?_ GE117.out) | exact HB.out)⟩
def nodeOk (a0 a2 op n c : Int) : Bool :=
  if op = 0 then (if n < 0 then false else if wrap64 (2 ^ a0.toNat) ≤ n then false else if c = 0 then true else false)
  else if op = 1 then (if c < 0 then false else if a2 ≤ c then false else true) else (if n = 0 then (if c = 0 then true else false) else false)
theorem nodeOk_cases (a0 a2 op n c : Int) :
    (nodeOk a0 a2 op n c = false ∧ ((op = 0 ∧ decide (n < 0) = true) ∨ (op = 0 ∧ decide (n < 0) = false ∧ decide (wrap64 (2 ^ a0.toNat) ≤ n) = true) ∨ (op = 0 ∧ decide (n < 0) = false ∧ decide (wrap64 (2 ^ a0.toNat) ≤ n) = false ∧ (c != 0) = true) ∨
      (op = 1 ∧ decide (c < 0) = true) ∨ (op = 1 ∧ decide (c < 0) = false ∧ decide (a2 ≤ c) = true) ∨
      ((op == 0) = false ∧ (op == 1) = false ∧ (n != 0) = true) ∨ ((op == 0) = false ∧ (op == 1) = false ∧ (n != 0) = false ∧ (c != 0) = true))) ∨
    (nodeOk a0 a2 op n c = true ∧ ((op = 0 ∧ decide (n < 0) = false ∧ decide (wrap64 (2 ^ a0.toNat) ≤ n) = false ∧ (c != 0) = false) ∨ (op = 1 ∧ decide (c < 0) = false ∧ decide (a2 ≤ c) = false) ∨
      ((op == 0) = false ∧ (op == 1) = false ∧ (n != 0) = false ∧ (c != 0) = false))) := by
  unfold nodeOk
  by_cases o0 : op = 0
  · subst o0
    by_cases h1 : n < 0
    · simp [h1]
    · by_cases h2 : wrap64 (2 ^ a0.toNat) ≤ n
      · simp [h1, h2]
      · by_cases h3 : c = 0 <;> simp [h1, h2, h3]
  · by_cases o1 : op = 1
    · subst o1
      by_cases h1 : c < 0
      · simp [h1]
      · by_cases h2 : a2 ≤ c <;> simp [h1, h2]
    · by_cases h1 : n = 0
      · by_cases h2 : c = 0 <;> simp [o0, o1, h1, h2]
      · simp [o0, o1, h1]
mutual
def expr_head_fine.l0 : Nat → Int → List S66 → Int → List S28 → Int → Int → Int → Option (Bool × Int)
  | 0, _, _, _, _, _, _, _ => none
  | k + 1, a0, l1, a2, l3, deep, i, left => if i < (l3.length : Int) then (if 0 ≤ i then (expr_head_fine.f k a0 l1 a2 (rd_T28 l3 i).f0 (rd_T28 l3 i).f1 (rd_T28 l3 i).f2 (rd_T28 l3 i).f3 (wrap64 (deep + 1)) left).bind fun p => (if p.1 = true then expr_head_fine.l0 k a0 l1 a2 l3 deep (wrap64 (i + 1)) p.2 else some (false, p.2)) else none) else some (true, left)
def expr_head_fine.f : Nat → Int → List S66 → Int → Int → Int → Int → List S28 → Int → Int → Option (Bool × Int)
  | 0, _, _, _, _, _, _, _, _, _ => none
  | k + 1, a0, l1, a2, op, n, c, l3, deep, left => if wrap64 (left - 1) < 0 then some (false, wrap64 (left - 1)) else if 16 < deep then some (false, wrap64 (left - 1)) else
      (expr_head_arity.f k a0 l1 a2 op n c l3).bind fun ar => if ar = (l3.length : Int) then (if nodeOk a0 a2 op n c = true then expr_head_fine.l0 k a0 l1 a2 l3 deep 0 (wrap64 (left - 1)) else some (false, wrap64 (left - 1))) else some (false, wrap64 (left - 1))
end
theorem grown_blk {w w' : World} {G : Nat} {o : Obj} {g : Nat} (h : w.heap[g]? = some o) (hg : w.grownBy w' (some G)) (hne : g ≠ G) : w'.heap[g]? = some o :=
  blk_grown h hg (by intro e; injection e with e; exact hne e)
theorem gtrans {w a b : World} {G : Nat} (h : w.grownBy a (some G)) (k : a.grownBy b (some G)) : w.grownBy b (some G) :=
  ⟨k.os.trans h.os, k.tape.trans h.tape, k.output.trans h.output, Nat.le_trans h.size k.size, fun i hi hne => (k.block i (Nat.lt_of_lt_of_le hi h.size) hne).trans (h.block i hi hne)⟩
theorem below_gr {w0 w wl : World} {G : Nat} (HB : Below w0.heap.size w0 w) (g : w.grownBy wl (some G)) (HG0 : w0.heap.size ≤ G) : Below w0.heap.size w0 wl := pw_below_grown HB (some G) HB.size g (fun k e => by cases e; exact HG0)
theorem fine_end {w W1 w' : World} {G : Nat} {o : Obj} (GW : w.grownBy W1 (some G)) (BG : W1.heap[G]? = some o) (hb : Below W1.heap.size W1 w') : w'.heap[G]? = some o ∧ w.grownBy w' (some G) :=
  ⟨(hb.block G (blk_lt BG)).trans BG, ⟨hb.os.trans GW.os, hb.tape.trans GW.tape, hb.output.trans GW.output, Nat.le_trans GW.size hb.size, fun i hi hne => (hb.block i (Nat.lt_of_lt_of_le hi GW.size)).trans (GW.block i hi hne)⟩⟩
set_option maxHeartbeats 8000000 in
set_option maxRecDepth 100000 in
theorem expr_head_fine.calls (k : Nat) : ∀ (a0 : Int) (A1 : Option Addr) (c1 : Nat) (l1 : List S66) (a2 op n c : Int) (A3 : Option Addr) (c3 : Nat) (l3 : List S28) (deep left : Int) (G : Nat) (r : Bool) (left' : Int) (w0 w : World)
    (hr1 : Kd.C k66 w0 A1 l1.length l1) (hc1 : l1.length ≤ c1) (hr3 : Kd.C k28 w0 A3 l3.length l3) (hc3 : l3.length ≤ c3) (hB : Below w0.heap.size w0 w) (hG0 : w0.heap.size ≤ G) (hG : w.heap[G]? = some (.cells #[.int .i64 left] 3 (0, 0)))
    (hw1 : 1 ≤ a0) (hw8 : a0 ≤ 8) (h : expr_head_fine.f k a0 l1 a2 op n c l3 deep left = some (r, left')),
    Calls Try.prog 104 #[.agg #[.int .i64 a0, .slice A1 l1.length c1, .int .i64 a2], .agg #[.int .i64 op, .int .i64 n, .int .i64 c, .slice A3 l3.length c3], .int .i64 deep, .pointer (some ⟨G, 0, none⟩)] w fun e w' =>
      e = .returned (.bool r) ∧ w'.heap[G]? = some (.cells #[.int .i64 left'] 3 (0, 0)) ∧ w.grownBy w' (some G) := by
  induction k using Nat.strongRecOn with
  | _ k ih =>
  intro a0 A1 c1 l1 a2 op n c A3 c3 l3 deep left G r left' w0 w hr1 hc1 hr3 hc3 hB hG0 hG hw1 hw8 h
  cases k with
  | zero => exact absurd h (by simp [expr_head_fine.f])
  | succ k =>
  simp only [expr_head_fine.f] at h
  have huE := Try.underlying28
  have huH := Try.underlying110
  have HR1 := Aside0.mk hr1
  have HC1 := Aside0.mk hc1
  have HR3 := Aside0.mk hr3
  have HC3 := Aside0.mk hc3
  have HB := Aside0.mk hB
  have HG0 := Aside0.mk hG0
  have hGl := blk_lt hG
  have HG := Aside0.mk hG
  have H := Aside0.mk h
  have ih' := Aside0.mk ih
  have hgc := blk_cell hG 0
  have hgf := blk_frozen hG 0
  clear hr1 hc1 hr3 hc3 hB hG0 hG h ih
  simp only [List.getElem?_toArray, List.getElem?_cons_zero] at hgc
  go_enter Try.func104, Try.ntmps104
  go_wp2
  have h12 : w.heap.size + 1 < (((w.setCell ⟨G, 0, none⟩ (.int .i64 (wrap64 (left - 1)))).alloc (.cells #[.int .i64 a0, .slice A1 l1.length c1, .int .i64 a2] 110)).alloc (.cells #[.int .i64 op, .int .i64 n, .int .i64 c, .slice A3 l3.length c3] 28)).heap.size := by simp
  have bG : (((w.setCell ⟨G, 0, none⟩ (.int .i64 (wrap64 (left - 1)))).alloc (.cells #[.int .i64 a0, .slice A1 l1.length c1, .int .i64 a2] 110)).alloc (.cells #[.int .i64 op, .int .i64 n, .int .i64 c, .slice A3 l3.length c3] 28)).heap[G]? = some (.cells #[.int .i64 (wrap64 (left - 1))] 3 (0, 0)) := kal (kal (blk_set HG.out 0 _) _) _
  have bH : (((w.setCell ⟨G, 0, none⟩ (.int .i64 (wrap64 (left - 1)))).alloc (.cells #[.int .i64 a0, .slice A1 l1.length c1, .int .i64 a2] 110)).alloc (.cells #[.int .i64 op, .int .i64 n, .int .i64 c, .slice A3 l3.length c3] 28)).heap[w.heap.size]? = some (.cells #[.int .i64 a0, .slice A1 l1.length c1, .int .i64 a2] 110 (0, 0)) := kal (by have := heap_alloc_new (w.setCell ⟨G, 0, none⟩ (.int .i64 (wrap64 (left - 1)))) (.cells #[.int .i64 a0, .slice A1 l1.length c1, .int .i64 a2] 110); simpa using this) _
  have bE : (((w.setCell ⟨G, 0, none⟩ (.int .i64 (wrap64 (left - 1)))).alloc (.cells #[.int .i64 a0, .slice A1 l1.length c1, .int .i64 a2] 110)).alloc (.cells #[.int .i64 op, .int .i64 n, .int .i64 c, .slice A3 l3.length c3] 28)).heap[w.heap.size + 1]? = some (.cells #[.int .i64 op, .int .i64 n, .int .i64 c, .slice A3 l3.length c3] 28 (0, 0)) := by have := heap_alloc_new ((w.setCell ⟨G, 0, none⟩ (.int .i64 (wrap64 (left - 1)))).alloc (.cells #[.int .i64 a0, .slice A1 l1.length c1, .int .i64 a2] 110)) (.cells #[.int .i64 op, .int .i64 n, .int .i64 c, .slice A3 l3.length c3] 28); simpa using this
  have gW : w.grownBy (((w.setCell ⟨G, 0, none⟩ (.int .i64 (wrap64 (left - 1)))).alloc (.cells #[.int .i64 a0, .slice A1 l1.length c1, .int .i64 a2] 110)).alloc (.cells #[.int .i64 op, .int .i64 n, .int .i64 c, .slice A3 l3.length c3] 28)) (some G) := ⟨rfl, rfl, rfl, by simp; omega, fun i hi hne => by
    have hne' : i ≠ G := fun e => hne (by rw [e])
    rw [Below.heap_alloc _ _ _ (by simp; omega), Below.heap_alloc _ _ _ (by simpa using hi), Below.heap_setCell _ _ _ _ hne']⟩
  generalize (((w.setCell ⟨G, 0, none⟩ (.int .i64 (wrap64 (left - 1)))).alloc (.cells #[.int .i64 a0, .slice A1 l1.length c1, .int .i64 a2] 110)).alloc (.cells #[.int .i64 op, .int .i64 n, .int .i64 c, .slice A3 l3.length c3] 28)) = W1 at h12 bG bH bE gW ⊢
  generalize wrap64 (left - 1) = lf at H bG ⊢
  have cG : W1.cell? ⟨G, 0, none⟩ = some (.int .i64 lf) := (blk_cell bG 0).trans rfl
  have cH0 : W1.cell? ⟨w.heap.size, 0, none⟩ = some (.int .i64 a0) := (blk_cell bH 0).trans rfl
  have cH1 : W1.cell? ⟨w.heap.size, 1, none⟩ = some (.slice A1 l1.length c1) := (blk_cell bH 1).trans rfl
  have cH2 : W1.cell? ⟨w.heap.size, 2, none⟩ = some (.int .i64 a2) := (blk_cell bH 2).trans rfl
  have cE0 : W1.cell? ⟨w.heap.size + 1, 0, none⟩ = some (.int .i64 op) := (blk_cell bE 0).trans rfl
  have cE1 : W1.cell? ⟨w.heap.size + 1, 1, none⟩ = some (.int .i64 n) := (blk_cell bE 1).trans rfl
  have cE2 : W1.cell? ⟨w.heap.size + 1, 2, none⟩ = some (.int .i64 c) := (blk_cell bE 2).trans rfl
  have cE3 : W1.cell? ⟨w.heap.size + 1, 3, none⟩ = some (.slice A3 l3.length c3) := (blk_cell bE 3).trans rfl
  have BW : Aside0 (Below w0.heap.size w0 W1) := ⟨HB.out.trans ⟨gW.os, gW.tape, gW.output, gW.size, fun i hi => gW.block i (by have := HB.out.size; omega) (by intro e; injection e with e; have := HG0.out; omega)⟩⟩
  have GW := Aside0.mk gW
  have BG := Aside0.mk bG
  have BH := Aside0.mk bH
  have BE := Aside0.mk bE
  clear gW bG bH bE hgc hgf HG
  have H1 := H.out
  clear H
  have H2 := ite_b H1
  clear H1
  rcases H2 with ⟨d1, H1⟩ | ⟨d1, H1⟩
  case inl =>
    injection (Option.some.inj H1) with e1 e2
    subst e1 e2
    go_quiet (fail)
    go_wp2
    go_ret
    exact ⟨rfl, BG.out, ⟨GW.out.os, GW.out.tape, GW.out.output, GW.out.size, GW.out.block⟩⟩
  have H2 := ite_b H1
  clear H1
  rcases H2 with ⟨d2, H1⟩ | ⟨d2, H1⟩
  case inl =>
    injection (Option.some.inj H1) with e1 e2
    subst e1 e2
    go_quiet (fail)
    go_wp2
    go_ret
    exact ⟨rfl, BG.out, ⟨GW.out.os, GW.out.tape, GW.out.output, GW.out.size, GW.out.block⟩⟩
  replace H1 := Option.bind_eq_some_iff.mp H1
  obtain ⟨ar, AR0, H1⟩ := H1
  have AR := Aside0.mk AR0
  clear AR0
  have H2 := ite_b H1
  clear H1
  rcases H2 with ⟨d3, H1⟩ | ⟨d3, H1⟩
  case inr =>
    injection (Option.some.inj H1) with e1 e2
    subst e1 e2
    have d3a : (ar == (l3.length : Int)) = false := beq_eq_false_iff_ne.mpr (of_decide_eq_false d3)
    have d3b : (ar != (l3.length : Int)) = true := bne_iff_ne.mpr (of_decide_eq_false d3)
    clear d3
    go_region_held3 (fun w' => Below W1.heap.size W1 w' ∧ w'.cell? ⟨G, 0, none⟩ = some (.int .i64 lf) ∧ w'.cell? ⟨w.heap.size, 0, none⟩ = some (.int .i64 a0) ∧ w'.cell? ⟨w.heap.size, 1, none⟩ = some (.slice A1 l1.length c1) ∧ w'.cell? ⟨w.heap.size, 2, none⟩ = some (.int .i64 a2) ∧
        w'.cell? ⟨w.heap.size + 1, 0, none⟩ = some (.int .i64 op) ∧ w'.cell? ⟨w.heap.size + 1, 1, none⟩ = some (.int .i64 n) ∧ w'.cell? ⟨w.heap.size + 1, 2, none⟩ = some (.int .i64 c) ∧ w'.cell? ⟨w.heap.size + 1, 3, none⟩ = some (.slice A3 l3.length c3))
      (first
        | exact ⟨below_drew (Below.refl _ _), cG, cH0, cH1, cH2, cE0, cE1, cE2, cE3⟩
        | (go_split_ands; exact ⟨below_then (by assumption) (Below.size (by assumption)) hb, pw_cell_below hb (by assumption), pw_cell_below hb (by assumption), pw_cell_below hb (by assumption), pw_cell_below hb (by assumption), pw_cell_below hb (by assumption), pw_cell_below hb (by assumption), pw_cell_below hb (by assumption), pw_cell_below hb (by assumption)⟩))
      (first | (go_at_call 122; (with_reducible refine (expr_head_arity.calls k a0 _ _ l1 a2 op n c _ _ l3 ar _ ?s1 HC1.out ?s2 HC3.out AR.out).mono ?_); (case s1 => exact Kd.C_below HR1.out (by repeat (first | exact BW.out | apply below_drew))); (case s2 => exact Kd.C_below HR3.out (by repeat (first | exact BW.out | apply below_drew))); rintro e w' ⟨rfl, hb⟩))
    obtain ⟨hBw, _⟩ := ‹Below W1.heap.size W1 _ ∧ _›
    go_wp2
    go_ret
    exact ⟨rfl, fine_end GW.out BG.out hBw⟩
  have d3a : (ar == (l3.length : Int)) = true := beq_iff_eq.mpr (of_decide_eq_true d3)
  have d3b : (ar != (l3.length : Int)) = false := bne_eq_false_iff_eq.mpr (of_decide_eq_true d3)
  clear d3
  go_region_held3 (fun w' => Below W1.heap.size W1 w' ∧ w'.cell? ⟨G, 0, none⟩ = some (.int .i64 lf) ∧ w'.cell? ⟨w.heap.size, 0, none⟩ = some (.int .i64 a0) ∧ w'.cell? ⟨w.heap.size, 1, none⟩ = some (.slice A1 l1.length c1) ∧ w'.cell? ⟨w.heap.size, 2, none⟩ = some (.int .i64 a2) ∧
      w'.cell? ⟨w.heap.size + 1, 0, none⟩ = some (.int .i64 op) ∧ w'.cell? ⟨w.heap.size + 1, 1, none⟩ = some (.int .i64 n) ∧ w'.cell? ⟨w.heap.size + 1, 2, none⟩ = some (.int .i64 c) ∧ w'.cell? ⟨w.heap.size + 1, 3, none⟩ = some (.slice A3 l3.length c3))
    (first
      | exact ⟨below_drew (Below.refl _ _), cG, cH0, cH1, cH2, cE0, cE1, cE2, cE3⟩
      | (go_split_ands; exact ⟨below_then (by assumption) (Below.size (by assumption)) hb, pw_cell_below hb (by assumption), pw_cell_below hb (by assumption), pw_cell_below hb (by assumption), pw_cell_below hb (by assumption), pw_cell_below hb (by assumption), pw_cell_below hb (by assumption), pw_cell_below hb (by assumption), pw_cell_below hb (by assumption)⟩))
    (first | (go_at_call 122; (with_reducible refine (expr_head_arity.calls k a0 _ _ l1 a2 op n c _ _ l3 ar _ ?s1 HC1.out ?s2 HC3.out AR.out).mono ?_); (case s1 => exact Kd.C_below HR1.out (by repeat (first | exact BW.out | apply below_drew))); (case s2 => exact Kd.C_below HR3.out (by repeat (first | exact BW.out | apply below_drew))); rintro e w' ⟨rfl, hb⟩))
  obtain ⟨hBw, hcG, hcH0, hcH1, hcH2, hcE0, hcE1, hcE2, hcE3⟩ := ‹Below W1.heap.size W1 _ ∧ _›
  have hBw' := Aside0.mk hBw
  clear hBw hb
  rcases nodeOk_cases a0 a2 op n c with ⟨hno, hcs⟩ | ⟨hno, hcs⟩
  · rw [hno] at H1
    injection (Option.some.inj (show some (false, lf) = some (r, left') from H1)) with e1 e2
    subst e1 e2
    clear H1 hno
    rcases hcs with ⟨rfl, g1⟩ | ⟨rfl, g1, g2⟩ | ⟨rfl, g1, g2, g3⟩ | ⟨rfl, g1⟩ | ⟨rfl, g1, g2⟩ | ⟨g1, g2, g3⟩ | ⟨g1, g2, g3, g4⟩
    all_goals go_wp2
    all_goals (go_ret; exact ⟨rfl, fine_end GW.out BG.out hBw'.out⟩)
  · rw [hno] at H1
    have HL := Aside0.mk (show expr_head_fine.l0 k a0 l1 a2 l3 deep 0 lf = some (r, left') from H1)
    clear H1 hno
    rcases hcs with ⟨rfl, g1, g2, g3⟩ | ⟨rfl, g1, g2⟩ | ⟨g1, g2, g3, g4⟩
    all_goals
      clear hcG hcH0 hcH1 hcH2 hcE0 hcE1 hcE2 hcE3 cG cH0 cH1 cH2 cE0 cE1 cE2 cE3
      go_wp2
      go_loopg [77] k (fun kq v77 wl => ∃ (i lf' : Int), v77 = .int .i64 i ∧ Aside0 (expr_head_fine.l0 kq a0 l1 a2 l3 deep i lf' = some (r, left')) ∧ Aside0 (kq ≤ k) ∧ Aside0 (wl.heap[G]? = some (.cells #[.int .i64 lf'] 3 (0, 0))) ∧
        Aside0 (wl.heap[w.heap.size]? = some (.cells #[.int .i64 a0, .slice A1 l1.length c1, .int .i64 a2] 110 (0, 0))) ∧ Aside0 (w.grownBy wl (some G)))
      case atStart => exact ⟨0, lf, rfl, HL, ⟨Nat.le_refl _⟩, ⟨(fine_end GW.out BG.out hBw'.out).1⟩, ⟨(hBw'.out.block _ (blk_lt BH.out)).trans BH.out⟩, ⟨(fine_end GW.out BG.out hBw'.out).2⟩⟩
      case round =>
        clear HL hBw' BE BH BG GW BW AR d1 d2 d3a d3b
        obtain ⟨i, lf', rfl, HA, HK, BG, BH, GW⟩ := hrel
        cases gk with
        | zero => exact absurd HA.out (by simp [expr_head_fine.l0])
        | succ k1 =>
          have H := HA.out
          clear HA
          simp only [expr_head_fine.l0] at H
          have H2 := ite_b H
          clear H
          rcases H2 with ⟨t1, H⟩ | ⟨t1, H⟩
          case inr =>
            injection (Option.some.inj H) with e1 e2
            subst e1 e2
            clear H
            go_wp2
            go_ret
            exact ⟨rfl, BG.out, GW.out⟩
          have H2 := ite_b H
          clear H
          rcases H2 with ⟨t2, H⟩ | ⟨t2, H⟩
          case inr => exact absurd H (by simp)
          have p0 : 0 ≤ i := of_decide_eq_true t2
          have p1 : i < (l3.length : Int) := of_decide_eq_true t1
          have B0 := Aside0.mk (below_gr HB.out GW.out HG0.out)
          obtain ⟨ad, A4, c4, e1, q0, q1, q2, q3, ql, qr⟩ := at_T28 HR3.out i p0 p1
          cases e1
          replace q0 := (B0.out.cell (World.block_lt_of_cell? w0 _ q0)).trans q0
          replace q1 := (B0.out.cell (World.block_lt_of_cell? w0 _ q1)).trans q1
          replace q2 := (B0.out.cell (World.block_lt_of_cell? w0 _ q2)).trans q2
          replace q3 := (B0.out.cell (World.block_lt_of_cell? w0 _ q3)).trans q3
          have QL := Aside0.mk ql
          have QR := Aside0.mk qr
          replace H := Option.bind_eq_some_iff.mp H
          obtain ⟨⟨r1, lf1⟩, A0, H⟩ := H
          have A := Aside0.mk A0
          have h0 : wr.cell? ⟨w.heap.size, 0, none⟩ = some (.int .i64 a0) := (blk_cell BH.out 0).trans rfl
          have h1 : wr.cell? ⟨w.heap.size, 1, none⟩ = some (.slice A1 l1.length c1) := (blk_cell BH.out 1).trans rfl
          have h2 : wr.cell? ⟨w.heap.size, 2, none⟩ = some (.int .i64 a2) := (blk_cell BH.out 2).trans rfl
          have hGlt := blk_lt BG.out
          have hHlt := blk_lt BH.out
          clear A0 ql qr
          have HK1 := HK.out
          have H2 := ite_t (t := r1) H
          clear H
          rcases H2 with ⟨rfl, H⟩ | ⟨rfl, H⟩
          · have H' := Aside0.mk H
            clear H
            go_wp2_with (first | (go_at_call 104; (with_reducible refine (ih'.out k1 (by omega) a0 _ _ l1 a2 _ _ _ _ _ _ (wrap64 (deep + 1)) lf' G true lf1 w0 _ HR1.out HC1.out QR.out QL.out (bal B0.out _) HG0.out (kal BG.out _) hw1 hw8 A.out).mono ?_); rintro e w2 ⟨rfl, hG2, hgr2⟩))
            go_roundg k1
            case measure => omega
            case rel => exact ⟨_, lf1, rfl, H', ⟨by omega⟩, ⟨hG2⟩, ⟨grown_blk (kal BH.out _) hgr2 (by omega)⟩, ⟨gtrans (gtrans GW.out (World.grownBy_alloc _ _ _)) hgr2⟩⟩
          · injection (Option.some.inj H) with e1 e2
            subst e1 e2
            clear H
            go_wp2_with (first | (go_at_call 104; (with_reducible refine (ih'.out k1 (by omega) a0 _ _ l1 a2 _ _ _ _ _ _ (wrap64 (deep + 1)) lf' G false lf1 w0 _ HR1.out HC1.out QR.out QL.out (bal B0.out _) HG0.out (kal BG.out _) hw1 hw8 A.out).mono ?_); rintro e w2 ⟨rfl, hG2, hgr2⟩))
            go_ret
            exact ⟨rfl, hG2, gtrans (gtrans GW.out (World.grownBy_alloc _ _ _)) hgr2⟩
def expr_head_check.f (k : Nat) (a0 : Int) (l1 : List S66) (a2 op n c : Int) (l3 : List S28) : Option Int :=
  (expr_Heading.f k a0 l1).bind fun t => if t = 0 then (if a2 < 1 then some 1 else if 3 < a2 then some 1 else (expr_head_fine.f k a0 l1 a2 op n c l3 1 400).bind fun p => if p.1 = true then some 0 else some 20) else some 1
theorem heading_width {k : Nat} {a0 : Int} {l1 : List S66} (h : expr_Heading.f k a0 l1 = some 0) : 1 ≤ a0 ∧ a0 ≤ 8 := by
  unfold expr_Heading.f at h
  split at h
  · cases h
  · split at h
    · cases h
    · omega
theorem two_boxes {w w1 : World} {x0 x1 x2 y0 y1 y2 y3 : Value} {t1 t2 : TypeId} (hb : Below ((w.alloc (.cells #[x0, x1, x2] t1)).alloc (.cells #[y0, y1, y2, y3] t2)).heap.size ((w.alloc (.cells #[x0, x1, x2] t1)).alloc (.cells #[y0, y1, y2, y3] t2)) w1) :
    w.heap.size + 1 < w1.heap.size ∧ w1.cell? ⟨w.heap.size, 0, none⟩ = some x0 ∧ w1.cell? ⟨w.heap.size, 1, none⟩ = some x1 ∧ w1.cell? ⟨w.heap.size, 2, none⟩ = some x2 ∧ w1.cell? ⟨w.heap.size + 1, 0, none⟩ = some y0 ∧ w1.cell? ⟨w.heap.size + 1, 1, none⟩ = some y1 ∧
      w1.cell? ⟨w.heap.size + 1, 2, none⟩ = some y2 ∧ w1.cell? ⟨w.heap.size + 1, 3, none⟩ = some y3 ∧ Below w.heap.size w w1 := by
  have b1 : ((w.alloc (.cells #[x0, x1, x2] t1)).alloc (.cells #[y0, y1, y2, y3] t2)).heap[w.heap.size]? = some (.cells #[x0, x1, x2] t1 (0, 0)) := kal (heap_alloc_new w _) _
  have b2 : ((w.alloc (.cells #[x0, x1, x2] t1)).alloc (.cells #[y0, y1, y2, y3] t2)).heap[w.heap.size + 1]? = some (.cells #[y0, y1, y2, y3] t2 (0, 0)) := by have := heap_alloc_new (w.alloc (.cells #[x0, x1, x2] t1)) (.cells #[y0, y1, y2, y3] t2); simpa using this
  exact ⟨by have := hb.size; simp at this; omega, pw_cell_below hb ((blk_cell b1 0).trans rfl), pw_cell_below hb ((blk_cell b1 1).trans rfl), pw_cell_below hb ((blk_cell b1 2).trans rfl), pw_cell_below hb ((blk_cell b2 0).trans rfl), pw_cell_below hb ((blk_cell b2 1).trans rfl), pw_cell_below hb ((blk_cell b2 2).trans rfl), pw_cell_below hb ((blk_cell b2 3).trans rfl),
    below_then (bal (bal (Below.refl _ _) _) _) (by simp; omega) hb⟩
set_option maxHeartbeats 8000000 in
set_option maxRecDepth 100000 in
theorem expr_head_check.calls (k : Nat) (a0 : Int) (A1 : Option Addr) (c1 : Nat) (l1 : List S66) (a2 op n c : Int) (A3 : Option Addr) (c3 : Nat) (l3 : List S28) (r : Int) (w : World)
    (hr1 : Kd.C k66 w A1 l1.length l1) (hc1 : l1.length ≤ c1) (hr3 : Kd.C k28 w A3 l3.length l3) (hc3 : l3.length ≤ c3) (h : expr_head_check.f k a0 l1 a2 op n c l3 = some r) :
    Calls Try.prog 82 #[.agg #[.int .i64 a0, .slice A1 l1.length c1, .int .i64 a2], .agg #[.int .i64 op, .int .i64 n, .int .i64 c, .slice A3 l3.length c3]] w fun e w' =>
      e = .returned (.int .i64 r) ∧ Below w.heap.size w w' := by
  have huE := Try.underlying28
  have huH := Try.underlying110
  have HR1 := Aside0.mk hr1
  have HC1 := Aside0.mk hc1
  have HR3 := Aside0.mk hr3
  have HC3 := Aside0.mk hc3
  clear hr1 hc1 hr3 hc3
  unfold expr_head_check.f at h
  obtain ⟨t, T0, H⟩ := Option.bind_eq_some_iff.mp h
  have T := Aside0.mk T0
  clear T0 h
  have HH : ((t == 0) = false ∧ (t != 0) = true ∧ r = 1) ∨ (t = 0 ∧ decide (a2 < 1) = true ∧ r = 1) ∨ (t = 0 ∧ decide (a2 < 1) = false ∧ decide (3 < a2) = true ∧ r = 1) ∨
      (t = 0 ∧ decide (a2 < 1) = false ∧ decide (3 < a2) = false ∧ ∃ q lf, Aside0 (expr_head_fine.f k a0 l1 a2 op n c l3 1 400 = some (q, lf)) ∧ ((q = true ∧ r = 0) ∨ (q = false ∧ r = 20))) := by
    by_cases ht : t = 0
    · rw [if_pos ht] at H
      rcases ite_b H with ⟨d1, H⟩ | ⟨d1, H⟩
      · exact .inr (.inl ⟨ht, d1, (Option.some.inj H).symm⟩)
      · rcases ite_b H with ⟨d2, H⟩ | ⟨d2, H⟩
        · exact .inr (.inr (.inl ⟨ht, d1, d2, (Option.some.inj H).symm⟩))
        · obtain ⟨⟨q, lf⟩, F, H⟩ := Option.bind_eq_some_iff.mp H
          refine .inr (.inr (.inr ⟨ht, d1, d2, q, lf, ⟨F⟩, ?_⟩))
          rcases ite_t (t := q) H with ⟨e, H⟩ | ⟨e, H⟩
          · exact .inl ⟨e, (Option.some.inj H).symm⟩
          · exact .inr ⟨e, (Option.some.inj H).symm⟩
    · rw [if_neg ht] at H
      exact .inl ⟨beq_eq_false_iff_ne.mpr ht, bne_iff_ne.mpr ht, (Option.some.inj H).symm⟩
  clear H
  have HB := Aside0.mk (Below.refl w.heap.size w)
  rcases HH with ⟨d0, d1, rfl⟩ | ⟨rfl, d1, rfl⟩ | ⟨rfl, d1, d2, rfl⟩ | ⟨rfl, d1, d2, q, lf, F, hq⟩
  case inr.inr.inr =>
    have hw := heading_width T.out
    have hw1 := hw.1
    have hw8 := hw.2
    clear hw
    rcases hq with ⟨rfl, rfl⟩ | ⟨rfl, rfl⟩
    all_goals
      go_enter Try.func82, Try.ntmps82
      go_wp2_with (first
        | (go_at_call 46; (with_reducible refine (expr_Heading.calls k a0 _ _ l1 _ _ ?side1 HC1.out T.out).mono ?_); (case side1 => exact Kd.C_below HR1.out (by repeat (first | exact HB.out | apply bal | apply bd1))); rintro e w1 ⟨rfl, hb⟩; obtain ⟨z0, h0, h1, h2, e0, e1, e2, e3, hb1⟩ := two_boxes hb; have z1 : w.heap.size < w1.heap.size := Nat.lt_of_succ_lt z0; have B1 := Aside0.mk hb1; clear hb hb1)
        | (go_at_call 104; (with_reducible refine (expr_head_fine.calls k a0 _ _ l1 a2 _ _ _ _ _ l3 1 400 w1.heap.size _ lf w _ HR1.out HC1.out HR3.out HC3.out (bal B1.out _) B1.out.size (heap_alloc_new _ _) hw1 hw8 F.out).mono ?_); rintro e w2 ⟨rfl, hG2, hgr2⟩; have hb2 := Aside0.mk (below_gr (bal B1.out _) hgr2 B1.out.size); clear hG2 hgr2))
      go_ret
      exact ⟨rfl, hb2.out⟩
  all_goals
    go_enter Try.func82, Try.ntmps82
    go_wp2_with (first
      | (go_at_call 46; (with_reducible refine (expr_Heading.calls k a0 _ _ l1 _ _ ?side1 HC1.out T.out).mono ?_); (case side1 => exact Kd.C_below HR1.out (by repeat (first | exact HB.out | apply bal | apply bd1))); rintro e w1 ⟨rfl, hb⟩; obtain ⟨z0, h0, h1, h2, e0, e1, e2, e3, hb1⟩ := two_boxes hb; have z1 : w.heap.size < w1.heap.size := Nat.lt_of_succ_lt z0; have B1 := Aside0.mk hb1; clear hb hb1))
    go_ret
    exact ⟨rfl, B1.out⟩
def expr_Check.f (k : Nat) (a0 : Int) (l1 : List (S66)) (a2 : Int) (a3_0 : Int) (a3_1 : Int) (a3_2 : Int) (l3_3 : List (S28)) : Option (Int) := (expr_head_check.f k a0 l1 a2 a3_0 a3_1 a3_2 l3_3).bind fun t127 => (some t127)
set_option maxHeartbeats 8000000 in
set_option maxRecDepth 100000 in
theorem expr_Check.calls (k : Nat) (a0 : Int) (A1 : Option Addr) (c1 : Nat) (l1 : List (S66)) (a2 : Int) (a3_0 : Int) (a3_1 : Int) (a3_2 : Int) (A3_3 : Option Addr) (c3_3 : Nat) (l3_3 : List (S28)) (r : Int) (w : World) (hr1 : Kd.C k66 w A1 l1.length l1) (hc1 : l1.length ≤ c1) (hr3_3 : Kd.C k28 w A3_3 l3_3.length l3_3) (hc3_3 : l3_3.length ≤ c3_3) (h : expr_Check.f k a0 l1 a2 a3_0 a3_1 a3_2 l3_3 = some r) :
  Calls Try.prog 47 #[.int .i64 a0, .slice A1 l1.length c1, .int .i64 a2, .agg #[.int .i64 a3_0, .int .i64 a3_1, .int .i64 a3_2, .slice A3_3 l3_3.length c3_3]] w fun e w' => e = .returned (.int .i64 r) ∧ Below w.heap.size w w' := by
 have hu28 := Try.underlying28
 have hu110 := Try.underlying110
 have HR1 := Aside0.mk hr1
 have HC1 := Aside0.mk hc1
 clear hr1 hc1
 have HR3_3 := Aside0.mk hr3_3
 have HC3_3 := Aside0.mk hc3_3
 clear hr3_3 hc3_3
 have HB := Aside0.mk (Below.refl w.heap.size w)
 have H : ((expr_head_check.f k a0 l1 a2 a3_0 a3_1 a3_2 l3_3).bind fun t127 => (some t127)) = some r := h
 clear h
 replace H := Option.bind_eq_some_iff.mp H
 obtain ⟨t127, A50, H⟩ := H
 replace H : (some t127) = some r := H
 have A5 := Aside0.mk A50
 clear A50
 obtain rfl := Option.some.inj H
 go_enter Try.func47, Try.ntmps47
 go_wp2_with (first | ((with_reducible refine gate_dst (N := 7) rfl ?_); refine box_event ?hg (N := 7) ?hd (cs := #[.int .i64 a3_0, .int .i64 a3_1, .int .i64 a3_2, .slice A3_3 l3_3.length c3_3]) (t := 28) ?hr ?_; (case hd => rfl); (case hg => rfl); (case hr => first | (go_simp; done) | (go_simp; rfl)); intro gb126 hg w6 hbox hb; have n0_ := Aside0.mk (bsp (by repeat (first | (with_reducible first | exact HB.out | apply bal | apply bdN | apply bd1) | exact HB.out)) hb); have n1_ := Aside0.mk (hbox); have n2_ := Aside0.mk ((by rw [hg]; exact (bsz (by repeat (first | (with_reducible first | exact HB.out | apply bal | apply bdN | apply bd1) | exact HB.out))) : w.heap.size ≤ gb126)); have n3_ := Aside0.mk ((by rw [hg]; exact (bsz (by repeat (first | (with_reducible first | exact HB.out | apply bal | apply bdN | apply bd1) | exact HB.out))) : w.heap.size ≤ gb126)); clear HB; have HB := n0_; have BK126 := n1_; have GW126 := n2_; have GE126 := n3_; clear n0_ n1_ n2_ n3_; clear hb hbox hg; obtain ⟨hcz7_0, hcz7_1, hcz7_2, hcz7_3, hfz7_0, hfz7_1, hfz7_2, hfz7_3⟩ := cf4 BK126.out) | ((with_reducible refine gate_callee (f := 82) rfl ?_); refine goesL_ (some 14) rfl rfl Try.func82 (by kernel_rfl) rfl #[.agg #[.int .i64 a0, .slice A1 l1.length c1, .int .i64 a2], .agg #[.int .i64 a3_0, .int .i64 a3_1, .int .i64 a3_2, .slice A3_3 l3_3.length c3_3]] rfl (by (try simp only [List.map_toArray, List.map_cons, List.map_nil]); first | done | rfl | (simp only [List.length_drop, List.length_take]; rfl)) ?_; (with_reducible refine (expr_head_check.calls k a0 _ _ l1 a2 a3_0 a3_1 a3_2 _ _ l3_3 t127 _ ?side1 ?side2 ?side3 ?side4 A5.out).mono ?_); (case side1 => repeat (first | exact (Kd.C_below HR1.out HB.out) | with_reducible first | apply Kd.C_alloc | apply Kd.C_drewN | apply Kd.C_drew)); (case side2 => exact HC1.out); (case side3 => repeat (first | exact (Kd.C_below HR3_3.out HB.out) | with_reducible first | apply Kd.C_alloc | apply Kd.C_drewN | apply Kd.C_drew)); (case side4 => exact HC3_3.out); rintro e w8 ⟨rfl, hb⟩; refine ⟨_, rfl, ?_⟩; have n0_ := Aside0.mk (blk_below (g := gb126) (o := .cells #[.int .i64 a3_0, .int .i64 a3_1, .int .i64 a3_2, .slice A3_3 l3_3.length c3_3] 28 (0, 0)) (by (with_reducible repeat (first | refine kdN ?_ _ | refine kdr ?_ | refine kal ?_ _)); exact BK126.out) hb); have n1_ := Aside0.mk (bsp (by repeat (first | (with_reducible first | exact HB.out | apply bal | apply bdN | apply bd1 | refine bst ?_ GE126.out) | exact HB.out)) hb); clear BK126; clear HB; have BK126 := n0_; have HB := n1_; clear n0_ n1_; (try clear hb); (try clear hb2); (try clear hk); (try clear hi)))
 go_ret
 exact ⟨by first | rfl | (simp [*] <;> rfl), by repeat (first | (with_reducible first | exact HB.out | apply bal | apply bdN | apply bd1 | refine bst ?_ GE126.out) | exact HB.out)⟩
mutual
def expr_Nodes.l0 : Nat → Int → List (S28) → Int → Int → Option (Int)
 | 0, _, _, _, _ => none
 | k + 1, x3, x7, x8, x9 => if x9 < x8 then (if 0 ≤ x9 then (if x9 < (x7.length : Int) then ((expr_Nodes.f k ((rd_T28 x7 x9).f0) ((rd_T28 x7 x9).f1) ((rd_T28 x7 x9).f2) ((rd_T28 x7 x9).f3)).bind fun t134 => (expr_Nodes.l0 k (wrap64 (x3 + t134)) x7 x8 (wrap64 (x9 + 1)))) else (none)) else (none)) else (some x3)
def expr_Nodes.f : Nat → Int → Int → Int → List (S28) → Option (Int)
 | 0, _, _, _, _ => none
 | k + 1, a0_0, a0_1, a0_2, l0_3 => expr_Nodes.l0 k 1 l0_3 (l0_3.length : Int) 0
end
set_option maxHeartbeats 8000000 in
set_option maxRecDepth 100000 in
theorem expr_Nodes.calls (k : Nat) : ∀ (a0_0 : Int) (a0_1 : Int) (a0_2 : Int) (A0_3 : Option Addr) (c0_3 : Nat) (l0_3 : List (S28)) (r : Int) (w : World) (hr0_3 : Kd.C k28 w A0_3 l0_3.length l0_3) (hc0_3 : l0_3.length ≤ c0_3) (h : expr_Nodes.f k a0_0 a0_1 a0_2 l0_3 = some r),
  Calls Try.prog 119 #[.agg #[.int .i64 a0_0, .int .i64 a0_1, .int .i64 a0_2, .slice A0_3 l0_3.length c0_3]] w fun e w' => e = .returned (.int .i64 r) ∧ Below w.heap.size w w' := by
 induction k using Nat.strongRecOn with
 | _ k ih =>
 intro a0_0 a0_1 a0_2 A0_3 c0_3 l0_3 r w hr0_3 hc0_3 h
 cases k with
 | zero => exact absurd h (by simp [expr_Nodes.f])
 | succ k =>
 simp only [expr_Nodes.f] at h
 have hu28 := Try.underlying28
 have HR0_3 := Aside0.mk hr0_3
 have HC0_3 := Aside0.mk hc0_3
 clear hr0_3 hc0_3
 have HB := Aside0.mk (Below.refl w.heap.size w)
 have H : (expr_Nodes.l0 k 1 l0_3 (l0_3.length : Int) 0) = some r := h
 clear h
 have H' := Aside0.mk H
 clear H
 go_enter Try.func119, Try.ntmps119
 go_wp2_with (first | ((with_reducible refine gate_dst (N := 1) rfl ?_); refine box_event ?hg (N := 1) ?hd (cs := #[.int .i64 a0_0, .int .i64 a0_1, .int .i64 a0_2, .slice A0_3 l0_3.length c0_3]) (t := 28) ?hr ?_; (case hd => rfl); (case hg => rfl); (case hr => first | (go_simp; done) | (go_simp; rfl)); intro gb131 hg w2 hbox hb; have n0_ := Aside0.mk (bsp (by repeat (first | (with_reducible first | exact HB.out | apply bal | apply bdN | apply bd1) | exact HB.out)) hb); have n1_ := Aside0.mk (hbox); have n2_ := Aside0.mk ((by rw [hg]; exact (bsz (by repeat (first | (with_reducible first | exact HB.out | apply bal | apply bdN | apply bd1) | exact HB.out))) : w.heap.size ≤ gb131)); have n3_ := Aside0.mk ((by rw [hg]; exact (bsz (by repeat (first | (with_reducible first | exact HB.out | apply bal | apply bdN | apply bd1) | exact HB.out))) : w.heap.size ≤ gb131)); clear HB; have HB := n0_; have BK131 := n1_; have GW131 := n2_; have GE131 := n3_; clear n0_ n1_ n2_ n3_; clear hb hbox hg; obtain ⟨hcz3_0, hcz3_1, hcz3_2, hcz3_3, hfz3_0, hfz3_1, hfz3_2, hfz3_3⟩ := cf4 BK131.out))
 go_loopg [3, 9] k (fun kq v3 v9 w' => ∃ (x3_1 : Int) (x9_1 : Int), v3 = .int .i64 x3_1 ∧ v9 = .int .i64 x9_1 ∧ Aside0 (expr_Nodes.l0 kq x3_1 l0_3 (l0_3.length : Int) x9_1 = some r) ∧ Aside0 (kq ≤ k) ∧ Aside0 (w'.heap[gb131]? = some (.cells #[.int .i64 a0_0, .int .i64 a0_1, .int .i64 a0_2, (.slice A0_3 l0_3.length c0_3)] 28 (0, 0))) ∧ Aside0 (Below w.heap.size w w'))
 case atStart => exact ⟨(1), (0), (by first | rfl | (simp; done) | (simp [*]; done)), (by first | rfl | (simp; done) | (simp [*]; done)), H', ⟨Nat.le_refl _⟩, ⟨by (with_reducible repeat (first | refine kdN ?_ _ | refine kdr ?_ | refine kal ?_ _)); exact BK131.out⟩, ⟨by repeat (first | (with_reducible first | exact HB.out | apply bal | apply bdN | apply bd1 | refine bst ?_ GE131.out) | exact HB.out)⟩⟩
 case round =>
  clear H'
  try clear c1
  try clear p2
  try clear hcz3_0
  try clear hcz3_1
  try clear hcz3_2
  try clear hcz3_3
  try clear hfz3_0
  try clear hfz3_1
  try clear hfz3_2
  try clear hfz3_3
  obtain ⟨x3_1, x9_1, rfl, rfl, HA, HK1, BK131, HB⟩ := hrel
  cases gk with
  | zero => exact absurd HA.out (by simp [expr_Nodes.l0])
  | succ k1 =>
   have H := HA.out
   clear HA
   simp only [expr_Nodes.l0] at H
   by_cases c4 : x9_1 < (l0_3.length : Int)
   ·rw [if_pos c4] at H
    have c4b0 : decide (x9_1 < (l0_3.length : Int)) = true := decide_eq_true c4
    clear c4
    by_cases c5 : 0 ≤ x9_1
    ·rw [if_pos c5] at H
     have c5b0 : decide (0 ≤ x9_1) = true := decide_eq_true c5
     clear c5
     by_cases c6 : x9_1 < (l0_3.length : Int)
     ·rw [if_pos c6] at H
      have c6b0 : decide (x9_1 < (l0_3.length : Int)) = true := decide_eq_true c6
      clear c6
      replace H := Option.bind_eq_some_iff.mp H
      obtain ⟨t134, A70, H⟩ := H
      replace H : (expr_Nodes.l0 k1 (wrap64 (x3_1 + t134)) l0_3 (l0_3.length : Int) (wrap64 (x9_1 + 1))) = some r := H
      have A7 := Aside0.mk A70
      clear A70
      have H' := Aside0.mk H
      clear H
      have p132 : 0 ≤ (x9_1 : Int) := of_decide_eq_true (by first | (with_reducible assumption) | assumption)
      have q132 : x9_1 < (l0_3.length : Int) := of_decide_eq_true (by first | (with_reducible assumption) | assumption)
      obtain ⟨ad132, A132_3, c132_3, e132, hx132_0, hx132_1, hx132_2, hx132_3, hl132_3, hi132_3⟩ := at_T28 HR0_3.out x9_1 p132 q132
      cases e132
      replace hx132_0 := bcell HB.out hx132_0
      replace hx132_1 := bcell HB.out hx132_1
      replace hx132_2 := bcell HB.out hx132_2
      replace hx132_3 := bcell HB.out hx132_3
      have HR132_3 := Aside0.mk hi132_3
      have HC132_3 := Aside0.mk hl132_3
      clear hi132_3 hl132_3
      replace p132 := eq_true p132
      replace q132 := eq_true q132
      go_wp2_with (first | ((with_reducible refine gate_dst (N := 5) rfl ?_); refine box_event ?hg (N := 5) ?hd (cs := #[.int .i64 0, .int .i64 0, .int .i64 0, .slice none 0 0]) (t := 28) ?hr ?_; (case hd => rfl); (case hg => rfl); (case hr => first | (go_simp; done) | (go_simp; rfl)); intro gb133 hg w8 hbox hb; have n0_ := Aside0.mk (blk_below (g := gb131) (o := .cells #[.int .i64 a0_0, .int .i64 a0_1, .int .i64 a0_2, .slice (some ad132) l0_3.length c0_3] 28 (0, 0)) (by (with_reducible repeat (first | refine kdN ?_ _ | refine kdr ?_ | refine kal ?_ _)); exact BK131.out) hb); have n1_ := Aside0.mk (bsp (by repeat (first | (with_reducible first | exact HB.out | apply bal | apply bdN | apply bd1 | refine bst ?_ GE131.out) | exact HB.out)) hb); have n2_ := Aside0.mk (hbox); have n3_ := Aside0.mk ((by rw [hg]; exact (bsz (by repeat (first | (with_reducible first | exact HB.out | apply bal | apply bdN | apply bd1 | refine bst ?_ GE131.out) | exact HB.out))) : w.heap.size ≤ gb133)); have n4_ := Aside0.mk ((by rw [hg]; exact (bsz (by repeat (first | (with_reducible first | exact HB.out | apply bal | apply bdN | apply bd1 | refine bst ?_ GE131.out) | exact HB.out))) : w.heap.size ≤ gb133)); have n5_ := Aside0.mk ((by rw [hg]; exact Nat.ne_of_lt (blk_lt (g := gb131) (o := .cells #[.int .i64 a0_0, .int .i64 a0_1, .int .i64 a0_2, .slice (some ad132) l0_3.length c0_3] 28 (0, 0)) (by (with_reducible repeat (first | refine kdN ?_ _ | refine kdr ?_ | refine kal ?_ _)); exact BK131.out)) : gb131 ≠ gb133)); have n6_ := Aside0.mk ((by rw [hg]; exact Nat.ne_of_gt (blk_lt (g := gb131) (o := .cells #[.int .i64 a0_0, .int .i64 a0_1, .int .i64 a0_2, .slice (some ad132) l0_3.length c0_3] 28 (0, 0)) (by (with_reducible repeat (first | refine kdN ?_ _ | refine kdr ?_ | refine kal ?_ _)); exact BK131.out)) : gb133 ≠ gb131)); clear BK131; clear HB; have BK131 := n0_; have HB := n1_; have BK133 := n2_; have GW133 := n3_; have GE133 := n4_; have NB131_133 := n5_; have NB133_131 := n6_; clear n0_ n1_ n2_ n3_ n4_ n5_ n6_; clear hb hbox hg; have hnb9 := NB133_131.out; have hnc9 := NB131_133.out; obtain ⟨hcz10_0, hcz10_1, hcz10_2, hcz10_3, hfz10_0, hfz10_1, hfz10_2, hfz10_3⟩ := cf4 BK133.out) | ((with_reducible refine gate_callee (f := 119) rfl ?_); refine goesL_ (some 15) rfl rfl Try.func119 (by kernel_rfl) rfl #[.agg #[.int .i64 ((rd_T28 l0_3 x9_1).f0), .int .i64 ((rd_T28 l0_3 x9_1).f1), .int .i64 ((rd_T28 l0_3 x9_1).f2), .slice A132_3 ((rd_T28 l0_3 x9_1).f3).length c132_3]] rfl (by (try simp only [List.map_toArray, List.map_cons, List.map_nil]); first | done | rfl | (simp only [List.length_drop, List.length_take]; rfl)) ?_; (with_reducible refine (ih k1 (by have := HK1.out; omega) ((rd_T28 l0_3 x9_1).f0) ((rd_T28 l0_3 x9_1).f1) ((rd_T28 l0_3 x9_1).f2) _ _ ((rd_T28 l0_3 x9_1).f3) t134 _ ?side1 ?side2 A7.out).mono ?_); (case side1 => exact Kd.C_below HR132_3.out (by repeat (first | (with_reducible first | exact HB.out | apply bal | apply bdN | apply bd1 | refine bst ?_ GE131.out | refine bst ?_ GE133.out) | exact HB.out))); (case side2 => exact HC132_3.out); rintro e w11 ⟨rfl, hb⟩; refine ⟨_, rfl, ?_⟩; have n0_ := Aside0.mk (blk_below (g := gb131) (o := .cells #[.int .i64 a0_0, .int .i64 a0_1, .int .i64 a0_2, .slice (some ad132) l0_3.length c0_3] 28 (0, 0)) (by (with_reducible repeat (first | refine kdN ?_ _ | refine kdr ?_ | refine kal ?_ _)); refine blk_far ?_ NB131_133.out _; (with_reducible repeat (first | refine kdN ?_ _ | refine kdr ?_ | refine kal ?_ _)); refine blk_far ?_ NB131_133.out _; (with_reducible repeat (first | refine kdN ?_ _ | refine kdr ?_ | refine kal ?_ _)); refine blk_far ?_ NB131_133.out _; (with_reducible repeat (first | refine kdN ?_ _ | refine kdr ?_ | refine kal ?_ _)); refine blk_far ?_ NB131_133.out _; (with_reducible repeat (first | refine kdN ?_ _ | refine kdr ?_ | refine kal ?_ _)); exact BK131.out) hb); have n1_ := Aside0.mk (blk_below (g := gb133) (o := .cells #[.int .i64 ((rd_T28 l0_3 x9_1).f0), .int .i64 ((rd_T28 l0_3 x9_1).f1), .int .i64 ((rd_T28 l0_3 x9_1).f2), .slice A132_3 ((rd_T28 l0_3 x9_1).f3).length c132_3] 28 (0, 0)) (by (with_reducible repeat (first | refine kdN ?_ _ | refine kdr ?_ | refine kal ?_ _)); refine blk_put (cs := #[.int .i64 ((rd_T28 l0_3 x9_1).f0), .int .i64 ((rd_T28 l0_3 x9_1).f1), .int .i64 ((rd_T28 l0_3 x9_1).f2), .slice none 0 0]) ?_ 3 _ rfl; (with_reducible repeat (first | refine kdN ?_ _ | refine kdr ?_ | refine kal ?_ _)); refine blk_put (cs := #[.int .i64 ((rd_T28 l0_3 x9_1).f0), .int .i64 ((rd_T28 l0_3 x9_1).f1), .int .i64 0, .slice none 0 0]) ?_ 2 _ rfl; (with_reducible repeat (first | refine kdN ?_ _ | refine kdr ?_ | refine kal ?_ _)); refine blk_put (cs := #[.int .i64 ((rd_T28 l0_3 x9_1).f0), .int .i64 0, .int .i64 0, .slice none 0 0]) ?_ 1 _ rfl; (with_reducible repeat (first | refine kdN ?_ _ | refine kdr ?_ | refine kal ?_ _)); refine blk_put (cs := #[.int .i64 0, .int .i64 0, .int .i64 0, .slice none 0 0]) ?_ 0 _ rfl; (with_reducible repeat (first | refine kdN ?_ _ | refine kdr ?_ | refine kal ?_ _)); exact BK133.out) hb); have n2_ := Aside0.mk (bsp (by repeat (first | (with_reducible first | exact HB.out | apply bal | apply bdN | apply bd1 | refine bst ?_ GE131.out | refine bst ?_ GE133.out) | exact HB.out)) hb); clear BK131; clear BK133; clear HB; have BK131 := n0_; have BK133 := n1_; have HB := n2_; clear n0_ n1_ n2_; (try clear hb); (try clear hb2); (try clear hk); (try clear hi)))
      go_roundg k1
      case measure => have := HK1.out; omega
      case rel => exact ⟨(wrap64 (x3_1 + t134)), (wrap64 (x9_1 + 1)), (by first | rfl | (simp; done) | (simp [*]; done)), (by first | rfl | (simp; done) | (simp [*]; done)), H', ⟨by have := HK1.out; omega⟩, ⟨by (with_reducible repeat (first | refine kdN ?_ _ | refine kdr ?_ | refine kal ?_ _)); exact BK131.out⟩, ⟨by repeat (first | (with_reducible first | exact HB.out | apply bal | apply bdN | apply bd1 | refine bst ?_ GE131.out | refine bst ?_ GE133.out) | exact HB.out)⟩⟩
     ·rw [if_neg c6] at H
      exact absurd H (by simp)
    ·rw [if_neg c5] at H
     exact absurd H (by simp)
   ·rw [if_neg c4] at H
    have c4b0 : decide (x9_1 < (l0_3.length : Int)) = false := decide_eq_false c4
    clear c4
    obtain rfl := Option.some.inj H
    go_wp2
    go_ret
    exact ⟨by first | rfl | (simp [*] <;> rfl), by repeat (first | (with_reducible first | exact HB.out | apply bal | apply bdN | apply bd1 | refine bst ?_ GE131.out) | exact HB.out)⟩
mutual
def prog_args.j0 : Nat → Int → Bool → Int → List (S66) → List (S64) → Int → Int → List (S28) → List (S64) → List (S64) → Option (Int)
 | 0, _, _, _, _, _, _, _, _, _, _ => none
 | k + 1, x5, x17, x129000, x129001, x129002, x130000, x130001, x130002, x130003, x130004 => if x17 = true then (if 0 ≤ x130001 then (if x130001 < (x129001.length : Int) then (prog_args.j1 k ((rd_T66 x129001 x130001).f2) x130000 x130001 x130002 x130003 x130004) else (none)) else (none)) else (prog_args.j1 k x5 x130000 x130001 x130002 x130003 x130004)
def prog_args.j1 : Nat → Int → Int → Int → List (S28) → List (S64) → List (S64) → Option (Int)
 | 0, _, _, _, _, _, _ => none
 | k + 1, x5, x130000, x130001, x130002, x130003, x130004 => if x130000 = 0 then (prog_args.j2 k x5 x130000 (x130000 == 0) x130000 x130001 x130002 x130003 x130004) else (prog_args.j2 k x5 x130000 (x130000 == 4) x130000 x130001 x130002 x130003 x130004)
def prog_args.j2 : Nat → Int → Int → Bool → Int → Int → List (S28) → List (S64) → List (S64) → Option (Int)
 | 0, _, _, _, _, _, _, _, _ => none
 | k + 1, x5, x26, x27, x130000, x130001, x130002, x130003, x130004 => if x27 = true then (if x130000 = 0 then (prog_args.j3 k x5 1) else (prog_args.j3 k x5 0)) else (if x26 = 3 then (if x130001 < 0 then (some (-1)) else (if x130001 > 47 then (some (-1)) else (some 1))) else (if x26 = 1 then (prog_args.j4 k (x26 == 1) x130000 x130001 x130002 x130003 x130004) else (if x26 = 2 then (prog_args.j4 k (x26 == 2) x130000 x130001 x130002 x130003 x130004) else (if x26 = 5 then (prog_args.j4 k (x26 == 5) x130000 x130001 x130002 x130003 x130004) else (prog_args.j4 k (x26 == 6) x130000 x130001 x130002 x130003 x130004)))))
def prog_args.j3 : Nat → Int → Int → Option (Int)
 | 0, _, _ => none
 | k + 1, x5, x6 => if x5 = 0 then (some (-1)) else (if x5 > 1 then (some (wrap64 (x6 + 1))) else (some x6))
def prog_args.j4 : Nat → Bool → Int → Int → List (S28) → List (S64) → List (S64) → Option (Int)
 | 0, _, _, _, _, _, _ => none
 | k + 1, x52, x130000, x130001, x130002, x130003, x130004 => if x52 = true then (if x130001 = 0 then (some 1) else (some (-1))) else (some (-1))
end
def prog_args.f (k : Nat) (a0_0 : Int) (l0_1 : List (S66)) (l0_2 : List (S64)) (a1_0 : Int) (a1_1 : Int) (l1_2 : List (S28)) (l1_3 : List (S64)) (l1_4 : List (S64)) : Option (Int) := if a1_1 ≥ 0 then (prog_args.j0 k 0 (decide (a1_1 < (l0_1.length : Int))) a0_0 l0_1 l0_2 a1_0 a1_1 l1_2 l1_3 l1_4) else (prog_args.j0 k 0 false a0_0 l0_1 l0_2 a1_0 a1_1 l1_2 l1_3 l1_4)
set_option maxHeartbeats 8000000 in
set_option maxRecDepth 100000 in
theorem prog_args.calls (k : Nat) (a0_0 : Int) (A0_1 : Option Addr) (c0_1 : Nat) (l0_1 : List (S66)) (A0_2 : Option Addr) (c0_2 : Nat) (l0_2 : List (S64)) (a1_0 : Int) (a1_1 : Int) (A1_2 : Option Addr) (c1_2 : Nat) (l1_2 : List (S28)) (A1_3 : Option Addr) (c1_3 : Nat) (l1_3 : List (S64)) (A1_4 : Option Addr) (c1_4 : Nat) (l1_4 : List (S64)) (r : Int) (w : World) (hr0_1 : Kd.C k66 w A0_1 l0_1.length l0_1) (hc0_1 : l0_1.length ≤ c0_1) (hr0_2 : Kd.C k64 w A0_2 l0_2.length l0_2) (hc0_2 : l0_2.length ≤ c0_2) (hr1_2 : Kd.C k28 w A1_2 l1_2.length l1_2) (hc1_2 : l1_2.length ≤ c1_2) (hr1_3 : Kd.C k64 w A1_3 l1_3.length l1_3) (hc1_3 : l1_3.length ≤ c1_3) (hr1_4 : Kd.C k64 w A1_4 l1_4.length l1_4) (hc1_4 : l1_4.length ≤ c1_4) (h : prog_args.f k a0_0 l0_1 l0_2 a1_0 a1_1 l1_2 l1_3 l1_4 = some r) :
  Calls Try.prog 118 #[.agg #[.int .i64 a0_0, .slice A0_1 l0_1.length c0_1, .slice A0_2 l0_2.length c0_2], .agg #[.int .i64 a1_0, .int .i64 a1_1, .slice A1_2 l1_2.length c1_2, .slice A1_3 l1_3.length c1_3, .slice A1_4 l1_4.length c1_4]] w fun e w' => e = .returned (.int .i64 r) ∧ Below w.heap.size w w' := by
 have hu25 := Try.underlying25
 have hu64 := Try.underlying64
 have HR0_1 := Aside0.mk hr0_1
 have HC0_1 := Aside0.mk hc0_1
 clear hr0_1 hc0_1
 have HR0_2 := Aside0.mk hr0_2
 have HC0_2 := Aside0.mk hc0_2
 clear hr0_2 hc0_2
 have HR1_2 := Aside0.mk hr1_2
 have HC1_2 := Aside0.mk hc1_2
 clear hr1_2 hc1_2
 have HR1_3 := Aside0.mk hr1_3
 have HC1_3 := Aside0.mk hc1_3
 clear hr1_3 hc1_3
 have HR1_4 := Aside0.mk hr1_4
 have HC1_4 := Aside0.mk hc1_4
 clear hr1_4 hc1_4
 have HB := Aside0.mk (Below.refl w.heap.size w)
 have H : (if a1_1 ≥ 0 then (prog_args.j0 k 0 (decide (a1_1 < (l0_1.length : Int))) a0_0 l0_1 l0_2 a1_0 a1_1 l1_2 l1_3 l1_4) else (prog_args.j0 k 0 false a0_0 l0_1 l0_2 a1_0 a1_1 l1_2 l1_3 l1_4)) = some r := h
 clear h
 have HC3 := Aside0.mk H
 clear H
 go_enter Try.func118, Try.ntmps118
 go_upto_region 2 with (first | ((with_reducible refine gate_dst (N := 2) rfl ?_); (try (refine gate_guard (by rfl) ?_; dsimp only)); refine box_event ?hg (N := 2) ?hd (cs := #[.int .i64 a0_0, .slice A0_1 l0_1.length c0_1, .slice A0_2 l0_2.length c0_2]) (t := 25) ?hr ?_; (case hd => rfl); (case hg => rfl); (case hr => first | (go_simp; done) | (go_simp; rfl)); intro gb128 hg w4 hbox hb; have n0_ := Aside0.mk (bsp (by repeat (first | (with_reducible first | exact HB.out | apply bal | apply bdN | apply bd1) | exact HB.out)) hb); have n1_ := Aside0.mk (hbox); have n2_ := Aside0.mk ((by rw [hg]; exact (bsz (by repeat (first | (with_reducible first | exact HB.out | apply bal | apply bdN | apply bd1) | exact HB.out))) : w.heap.size ≤ gb128)); have n3_ := Aside0.mk ((by rw [hg]; exact (bsz (by repeat (first | (with_reducible first | exact HB.out | apply bal | apply bdN | apply bd1) | exact HB.out))) : w.heap.size ≤ gb128)); clear HB; have HB := n0_; have BK128 := n1_; have GW128 := n2_; have GE128 := n3_; clear n0_ n1_ n2_ n3_; clear hb hbox hg) | ((with_reducible refine gate_dst (N := 3) rfl ?_); (try (refine gate_guard (by rfl) ?_; dsimp only)); refine box_event ?hg (N := 3) ?hd (cs := #[.int .i64 a1_0, .int .i64 a1_1, .slice A1_2 l1_2.length c1_2, .slice A1_3 l1_3.length c1_3, .slice A1_4 l1_4.length c1_4]) (t := 64) ?hr ?_; (case hd => rfl); (case hg => rfl); (case hr => first | (go_simp; done) | (go_simp; rfl)); intro gb129 hg w5 hbox hb; have n0_ := Aside0.mk (blk_below (g := gb128) (o := .cells #[.int .i64 a0_0, .slice A0_1 l0_1.length c0_1, .slice A0_2 l0_2.length c0_2] 25 (0, 0)) (by (with_reducible repeat (first | refine kdN ?_ _ | refine kdr ?_ | refine kal ?_ _)); exact BK128.out) hb); have n1_ := Aside0.mk (bsp (by repeat (first | (with_reducible first | exact HB.out | apply bal | apply bdN | apply bd1 | refine bst ?_ GE128.out) | exact HB.out)) hb); have n2_ := Aside0.mk (hbox); have n3_ := Aside0.mk ((by rw [hg]; exact (bsz (by repeat (first | (with_reducible first | exact HB.out | apply bal | apply bdN | apply bd1 | refine bst ?_ GE128.out) | exact HB.out))) : w.heap.size ≤ gb129)); have n4_ := Aside0.mk ((by rw [hg]; exact (bsz (by repeat (first | (with_reducible first | exact HB.out | apply bal | apply bdN | apply bd1 | refine bst ?_ GE128.out) | exact HB.out))) : w.heap.size ≤ gb129)); have n5_ := Aside0.mk ((by rw [hg]; exact Nat.ne_of_lt (blk_lt (g := gb128) (o := .cells #[.int .i64 a0_0, .slice A0_1 l0_1.length c0_1, .slice A0_2 l0_2.length c0_2] 25 (0, 0)) (by (with_reducible repeat (first | refine kdN ?_ _ | refine kdr ?_ | refine kal ?_ _)); exact BK128.out)) : gb128 ≠ gb129)); have n6_ := Aside0.mk ((by rw [hg]; exact Nat.ne_of_gt (blk_lt (g := gb128) (o := .cells #[.int .i64 a0_0, .slice A0_1 l0_1.length c0_1, .slice A0_2 l0_2.length c0_2] 25 (0, 0)) (by (with_reducible repeat (first | refine kdN ?_ _ | refine kdr ?_ | refine kal ?_ _)); exact BK128.out)) : gb129 ≠ gb128)); clear BK128; clear HB; have BK128 := n0_; have HB := n1_; have BK129 := n2_; have GW129 := n3_; have GE129 := n4_; have NB128_129 := n5_; have NB129_128 := n6_; clear n0_ n1_ n2_ n3_ n4_ n5_ n6_; clear hb hbox hg))
 (try simp only [Act.put, List.setIfInBounds_toArray, List.set_cons_zero, List.set_cons_succ])
 go_cut [17] (fun v17 wc => ∃ (kq : Nat) (x17_2 : Bool), v17 = .bool x17_2 ∧ Aside0 (prog_args.j0 kq 0 x17_2 a0_0 l0_1 l0_2 a1_0 a1_1 l1_2 l1_3 l1_4 = some r) ∧ Aside0 (kq ≤ k) ∧ Aside0 (wc.heap[gb128]? = some (.cells #[.int .i64 a0_0, (.slice A0_1 l0_1.length c0_1), (.slice A0_2 l0_2.length c0_2)] 25 (0, 0))) ∧ Aside0 (wc.heap[gb129]? = some (.cells #[.int .i64 a1_0, .int .i64 a1_1, (.slice A1_2 l1_2.length c1_2), (.slice A1_3 l1_3.length c1_3), (.slice A1_4 l1_4.length c1_4)] 64 (0, 0))) ∧ Aside0 (Below w.heap.size w wc))
 case first =>
  have H := HC3.out
  clear HC3
  by_cases c6 : a1_1 ≥ 0
  ·rw [if_pos c6] at H
   have c6b0 : decide (0 ≤ a1_1) = true := decide_eq_true c6
   clear c6
   (first | rw [c6b0] | (simp only [i64_w, i32_w]; rw [c6b0]) | skip)
   have H' := Aside0.mk H
   clear H
   have hnb7 := NB129_128.out
   have hnc7 := NB128_129.out
   obtain ⟨hcz8_0, hcz8_1, hcz8_2, hcz8_3, hcz8_4, hfz8_0, hfz8_1, hfz8_2, hfz8_3, hfz8_4⟩ := cf5 BK129.out
   obtain ⟨hcz9_0, hcz9_1, hcz9_2, hfz9_0, hfz9_1, hfz9_2⟩ := cf3 BK128.out
   go_wp2
   go_meet
   case rel => exact ⟨_, (decide (a1_1 < (l0_1.length : Int))), (by first | rfl | (simp; done) | (simp [*]; done)), H', ⟨by first | omega | exact Nat.le_refl _⟩, ⟨by (with_reducible repeat (first | refine kdN ?_ _ | refine kdr ?_ | refine kal ?_ _)); exact BK128.out⟩, ⟨by (with_reducible repeat (first | refine kdN ?_ _ | refine kdr ?_ | refine kal ?_ _)); exact BK129.out⟩, ⟨by repeat (first | (with_reducible first | exact HB.out | apply bal | apply bdN | apply bd1 | refine bst ?_ GE128.out | refine bst ?_ GE129.out) | exact HB.out)⟩⟩
  ·rw [if_neg c6] at H
   have c6b0 : decide (0 ≤ a1_1) = false := decide_eq_false c6
   clear c6
   (first | rw [c6b0] | (simp only [i64_w, i32_w]; rw [c6b0]) | skip)
   have H' := Aside0.mk H
   clear H
   have hnb10 := NB129_128.out
   have hnc10 := NB128_129.out
   obtain ⟨hcz11_0, hcz11_1, hcz11_2, hcz11_3, hcz11_4, hfz11_0, hfz11_1, hfz11_2, hfz11_3, hfz11_4⟩ := cf5 BK129.out
   go_wp2
   go_meet
   case rel => exact ⟨_, (false), (by first | rfl | (simp; done) | (simp [*]; done)), H', ⟨by first | omega | exact Nat.le_refl _⟩, ⟨by (with_reducible repeat (first | refine kdN ?_ _ | refine kdr ?_ | refine kal ?_ _)); exact BK128.out⟩, ⟨by (with_reducible repeat (first | refine kdN ?_ _ | refine kdr ?_ | refine kal ?_ _)); exact BK129.out⟩, ⟨by repeat (first | (with_reducible first | exact HB.out | apply bal | apply bdN | apply bd1 | refine bst ?_ GE128.out | refine bst ?_ GE129.out) | exact HB.out)⟩⟩
 case rest =>
  clear HC3
  try clear c1
  try clear p2
  try clear c6
  try clear c6b0
  try clear c7
  try clear c10
  try clear c11
  try clear hcz11_0
  try clear hcz11_1
  try clear hcz11_2
  try clear hcz11_3
  try clear hcz11_4
  try clear hcz8_0
  try clear hcz8_1
  try clear hcz8_2
  try clear hcz8_3
  try clear hcz8_4
  try clear hcz9_0
  try clear hcz9_1
  try clear hcz9_2
  try clear hfz11_0
  try clear hfz11_1
  try clear hfz11_2
  try clear hfz11_3
  try clear hfz11_4
  try clear hfz8_0
  try clear hfz8_1
  try clear hfz8_2
  try clear hfz8_3
  try clear hfz8_4
  try clear hfz9_0
  try clear hfz9_1
  try clear hfz9_2
  obtain ⟨kq, x17_2, rfl, HA, HJ2, BK128, BK129, HB⟩ := hcut
  cases kq with
  | zero => exact absurd HA.out (by simp [prog_args.j0])
  | succ kj2 =>
   have H := HA.out
   clear HA
   simp only [prog_args.j0] at H
   have HC12 := Aside0.mk H
   clear H
   go_upto_if 17 with (fail)
   go_cut [5] (fun v5 wc => ∃ (kq : Nat) (x5_11 : Int), v5 = .int .i64 x5_11 ∧ Aside0 (prog_args.j1 kq x5_11 a1_0 a1_1 l1_2 l1_3 l1_4 = some r) ∧ Aside0 (kq ≤ kj2) ∧ Aside0 (wc.heap[gb128]? = some (.cells #[.int .i64 a0_0, (.slice A0_1 l0_1.length c0_1), (.slice A0_2 l0_2.length c0_2)] 25 (0, 0))) ∧ Aside0 (wc.heap[gb129]? = some (.cells #[.int .i64 a1_0, .int .i64 a1_1, (.slice A1_2 l1_2.length c1_2), (.slice A1_3 l1_3.length c1_3), (.slice A1_4 l1_4.length c1_4)] 64 (0, 0))) ∧ Aside0 (Below w.heap.size w wc))
   case first =>
    have H := HC12.out
    clear HC12
    by_cases c13 : x17_2 = true
    ·subst c13
     have H1 : (if 0 ≤ a1_1 then (if a1_1 < (l0_1.length : Int) then (prog_args.j1 kj2 ((rd_T66 l0_1 a1_1).f2) a1_0 a1_1 l1_2 l1_3 l1_4) else (none)) else (none)) = some r := by rw [if_pos rfl] at H; exact H
     clear H
     have H := H1
     clear H1
     by_cases c14 : 0 ≤ a1_1
     ·rw [if_pos c14] at H
      have c14b0 : decide (0 ≤ a1_1) = true := decide_eq_true c14
      clear c14
      (first | rw [c14b0] | (simp only [i64_w, i32_w]; rw [c14b0]) | skip)
      by_cases c15 : a1_1 < (l0_1.length : Int)
      ·rw [if_pos c15] at H
       have c15b0 : decide (a1_1 < (l0_1.length : Int)) = true := decide_eq_true c15
       clear c15
       have H' := Aside0.mk H
       clear H
       have hnb16 := NB128_129.out
       have hnc16 := NB129_128.out
       obtain ⟨hcz17_0, hcz17_1, hcz17_2, hfz17_0, hfz17_1, hfz17_2⟩ := cf3 BK128.out
       obtain ⟨hcz18_0, hcz18_1, hcz18_2, hcz18_3, hcz18_4, hfz18_0, hfz18_1, hfz18_2, hfz18_3, hfz18_4⟩ := cf5 BK129.out
       have p130 : 0 ≤ (a1_1 : Int) := of_decide_eq_true (by first | (with_reducible assumption) | assumption)
       have q130 : a1_1 < (l0_1.length : Int) := of_decide_eq_true (by first | (with_reducible assumption) | assumption)
       obtain ⟨ad130, e130, hx130_0, hx130_1, hx130_2⟩ := at_T66 HR0_1.out a1_1 p130 q130
       cases e130
       replace hx130_0 := bcell HB.out hx130_0
       replace hx130_1 := bcell HB.out hx130_1
       replace hx130_2 := bcell HB.out hx130_2
       replace p130 := eq_true p130
       replace q130 := eq_true q130
       go_wp2
       go_meet
       case rel => exact ⟨_, ((rd_T66 l0_1 a1_1).f2), (by first | rfl | (simp; done) | (simp [*]; done)), H', ⟨by have := HJ2.out; first | omega | exact Nat.le_refl _⟩, ⟨by (with_reducible repeat (first | refine kdN ?_ _ | refine kdr ?_ | refine kal ?_ _)); exact BK128.out⟩, ⟨by (with_reducible repeat (first | refine kdN ?_ _ | refine kdr ?_ | refine kal ?_ _)); exact BK129.out⟩, ⟨by repeat (first | (with_reducible first | exact HB.out | apply bal | apply bdN | apply bd1 | refine bst ?_ GE128.out | refine bst ?_ GE129.out) | exact HB.out)⟩⟩
      ·rw [if_neg c15] at H
       exact absurd H (by simp)
     ·rw [if_neg c14] at H
      exact absurd H (by simp)
    ·replace c13 := Bool.eq_false_iff.mpr c13
     subst c13
     have H1 : (prog_args.j1 kj2 0 a1_0 a1_1 l1_2 l1_3 l1_4) = some r := by rw [if_neg (show ¬ (false = true) by decide)] at H; exact H
     clear H
     have H := H1
     clear H1
     have H' := Aside0.mk H
     clear H
     go_wp2
     go_meet
     case rel => exact ⟨_, (0), (by first | rfl | (simp; done) | (simp [*]; done)), H', ⟨by have := HJ2.out; first | omega | exact Nat.le_refl _⟩, ⟨by (with_reducible repeat (first | refine kdN ?_ _ | refine kdr ?_ | refine kal ?_ _)); exact BK128.out⟩, ⟨by (with_reducible repeat (first | refine kdN ?_ _ | refine kdr ?_ | refine kal ?_ _)); exact BK129.out⟩, ⟨by repeat (first | (with_reducible first | exact HB.out | apply bal | apply bdN | apply bd1 | refine bst ?_ GE128.out | refine bst ?_ GE129.out) | exact HB.out)⟩⟩
   case rest =>
    clear HC12
    try clear c1
    try clear p1
    try clear q1
    try clear hx1
    try clear p2
    try clear c6
    try clear c6b0
    try clear c7
    try clear c10
    try clear c11
    try clear c13
    try clear p13
    try clear q13
    try clear hx13
    try clear c14
    try clear c14b0
    try clear c15
    try clear c15b0
    try clear c16
    try clear hcz11_0
    try clear hcz11_1
    try clear hcz11_2
    try clear hcz11_3
    try clear hcz11_4
    try clear hcz17_0
    try clear hcz17_1
    try clear hcz17_2
    try clear hcz18_0
    try clear hcz18_1
    try clear hcz18_2
    try clear hcz18_3
    try clear hcz18_4
    try clear hcz8_0
    try clear hcz8_1
    try clear hcz8_2
    try clear hcz8_3
    try clear hcz8_4
    try clear hcz9_0
    try clear hcz9_1
    try clear hcz9_2
    try clear hfz11_0
    try clear hfz11_1
    try clear hfz11_2
    try clear hfz11_3
    try clear hfz11_4
    try clear hfz17_0
    try clear hfz17_1
    try clear hfz17_2
    try clear hfz18_0
    try clear hfz18_1
    try clear hfz18_2
    try clear hfz18_3
    try clear hfz18_4
    try clear hfz8_0
    try clear hfz8_1
    try clear hfz8_2
    try clear hfz8_3
    try clear hfz8_4
    try clear hfz9_0
    try clear hfz9_1
    try clear hfz9_2
    try clear hx130_0
    try clear hx130_1
    try clear hx130_2
    try clear p130
    try clear p2
    try clear q130
    obtain ⟨kq, x5_11, rfl, HA, HJ11, BK128, BK129, HB⟩ := hcut
    cases kq with
    | zero => exact absurd HA.out (by simp [prog_args.j1])
    | succ kj11 =>
     have H := HA.out
     clear HA
     simp only [prog_args.j1] at H
     have HC19 := Aside0.mk H
     clear H
     have hnb20 := NB129_128.out
     have hnc20 := NB128_129.out
     obtain ⟨hcz21_0, hcz21_1, hcz21_2, hcz21_3, hcz21_4, hfz21_0, hfz21_1, hfz21_2, hfz21_3, hfz21_4⟩ := cf5 BK129.out
     go_upto_if 27 with (fail)
     go_cut [27] (fun v27 wc => ∃ (kq : Nat) (x27_18 : Bool), v27 = .bool x27_18 ∧ Aside0 (prog_args.j2 kq x5_11 a1_0 x27_18 a1_0 a1_1 l1_2 l1_3 l1_4 = some r) ∧ Aside0 (kq ≤ kj11) ∧ Aside0 (wc.heap[gb128]? = some (.cells #[.int .i64 a0_0, (.slice A0_1 l0_1.length c0_1), (.slice A0_2 l0_2.length c0_2)] 25 (0, 0))) ∧ Aside0 (wc.heap[gb129]? = some (.cells #[.int .i64 a1_0, .int .i64 a1_1, (.slice A1_2 l1_2.length c1_2), (.slice A1_3 l1_3.length c1_3), (.slice A1_4 l1_4.length c1_4)] 64 (0, 0))) ∧ Aside0 (Below w.heap.size w wc))
     case first =>
      have H := HC19.out
      clear HC19
      by_cases c22 : a1_0 = 0
      ·rw [if_pos c22] at H
       have c22b0 : (a1_0 == 0) = true := beq_iff_eq.mpr c22
       have c22b1 : (a1_0 != 0) = false := bne_eq_false_iff_eq.mpr c22
       clear c22
       (first | rw [c22b0] | (simp only [i64_w, i32_w]; rw [c22b0]) | skip)
       have H' := Aside0.mk H
       clear H
       go_wp2
       go_meet
       case rel => exact ⟨_, ((a1_0 == 0)), (by first | rfl | (simp; done) | (simp [*]; done)), H', ⟨by have := HJ2.out; have := HJ11.out; first | omega | exact Nat.le_refl _⟩, ⟨by (with_reducible repeat (first | refine kdN ?_ _ | refine kdr ?_ | refine kal ?_ _)); exact BK128.out⟩, ⟨by (with_reducible repeat (first | refine kdN ?_ _ | refine kdr ?_ | refine kal ?_ _)); exact BK129.out⟩, ⟨by repeat (first | (with_reducible first | exact HB.out | apply bal | apply bdN | apply bd1 | refine bst ?_ GE128.out | refine bst ?_ GE129.out) | exact HB.out)⟩⟩
      ·rw [if_neg c22] at H
       have c22b0 : (a1_0 == 0) = false := beq_eq_false_iff_ne.mpr c22
       have c22b1 : (a1_0 != 0) = true := bne_iff_ne.mpr c22
       (first | rw [c22b0] | (simp only [i64_w, i32_w]; rw [c22b0]) | skip)
       have H' := Aside0.mk H
       clear H
       go_wp2
       go_meet
       case rel => exact ⟨_, ((a1_0 == 4)), (by first | rfl | (simp; done) | (simp [*]; done)), H', ⟨by have := HJ2.out; have := HJ11.out; first | omega | exact Nat.le_refl _⟩, ⟨by (with_reducible repeat (first | refine kdN ?_ _ | refine kdr ?_ | refine kal ?_ _)); exact BK128.out⟩, ⟨by (with_reducible repeat (first | refine kdN ?_ _ | refine kdr ?_ | refine kal ?_ _)); exact BK129.out⟩, ⟨by repeat (first | (with_reducible first | exact HB.out | apply bal | apply bdN | apply bd1 | refine bst ?_ GE128.out | refine bst ?_ GE129.out) | exact HB.out)⟩⟩
     case rest =>
      clear HC19
      try clear c1
      try clear p1
      try clear q1
      try clear hx1
      try clear c2
      try clear p2
      try clear c6
      try clear c6b0
      try clear c7
      try clear c10
      try clear c11
      try clear c13
      try clear p13
      try clear q13
      try clear hx13
      try clear c14
      try clear c14b0
      try clear c15
      try clear c15b0
      try clear c16
      try clear c20
      try clear c22
      try clear c22b0
      try clear c22b1
      try clear hcz11_0
      try clear hcz11_1
      try clear hcz11_2
      try clear hcz11_3
      try clear hcz11_4
      try clear hcz17_0
      try clear hcz17_1
      try clear hcz17_2
      try clear hcz18_0
      try clear hcz18_1
      try clear hcz18_2
      try clear hcz18_3
      try clear hcz18_4
      try clear hcz21_0
      try clear hcz21_1
      try clear hcz21_2
      try clear hcz21_3
      try clear hcz21_4
      try clear hcz8_0
      try clear hcz8_1
      try clear hcz8_2
      try clear hcz8_3
      try clear hcz8_4
      try clear hcz9_0
      try clear hcz9_1
      try clear hcz9_2
      try clear hfz11_0
      try clear hfz11_1
      try clear hfz11_2
      try clear hfz11_3
      try clear hfz11_4
      try clear hfz17_0
      try clear hfz17_1
      try clear hfz17_2
      try clear hfz18_0
      try clear hfz18_1
      try clear hfz18_2
      try clear hfz18_3
      try clear hfz18_4
      try clear hfz21_0
      try clear hfz21_1
      try clear hfz21_2
      try clear hfz21_3
      try clear hfz21_4
      try clear hfz8_0
      try clear hfz8_1
      try clear hfz8_2
      try clear hfz8_3
      try clear hfz8_4
      try clear hfz9_0
      try clear hfz9_1
      try clear hfz9_2
      try clear hx130_0
      try clear hx130_1
      try clear hx130_2
      try clear p1
      try clear p13
      try clear p130
      try clear p2
      try clear q1
      try clear q13
      try clear q130
      obtain ⟨kq, x27_18, rfl, HA, HJ18, BK128, BK129, HB⟩ := hcut
      cases kq with
      | zero => exact absurd HA.out (by simp [prog_args.j2])
      | succ kj18 =>
       have H := HA.out
       clear HA
       simp only [prog_args.j2] at H
       by_cases c23 : x27_18 = true
       ·subst c23
        have H1 : (if a1_0 = 0 then (prog_args.j3 kj18 x5_11 1) else (prog_args.j3 kj18 x5_11 0)) = some r := by rw [if_pos rfl] at H; exact H
        clear H
        have H := H1
        clear H1
        have HC24 := Aside0.mk H
        clear H
        have hnb25 := NB129_128.out
        have hnc25 := NB128_129.out
        obtain ⟨hcz26_0, hcz26_1, hcz26_2, hcz26_3, hcz26_4, hfz26_0, hfz26_1, hfz26_2, hfz26_3, hfz26_4⟩ := cf5 BK129.out
        go_upto_if 32 with (fail)
        go_cut [6] (fun v6 wc => ∃ (kq : Nat) (x6_23 : Int), v6 = .int .i64 x6_23 ∧ Aside0 (prog_args.j3 kq x5_11 x6_23 = some r) ∧ Aside0 (kq ≤ kj18) ∧ Aside0 (wc.heap[gb128]? = some (.cells #[.int .i64 a0_0, (.slice A0_1 l0_1.length c0_1), (.slice A0_2 l0_2.length c0_2)] 25 (0, 0))) ∧ Aside0 (wc.heap[gb129]? = some (.cells #[.int .i64 a1_0, .int .i64 a1_1, (.slice A1_2 l1_2.length c1_2), (.slice A1_3 l1_3.length c1_3), (.slice A1_4 l1_4.length c1_4)] 64 (0, 0))) ∧ Aside0 (Below w.heap.size w wc))
        case first =>
         have H := HC24.out
         clear HC24
         by_cases c27 : a1_0 = 0
         ·rw [if_pos c27] at H
          have c27b0 : (a1_0 == 0) = true := beq_iff_eq.mpr c27
          have c27b1 : (a1_0 != 0) = false := bne_eq_false_iff_eq.mpr c27
          clear c27
          (first | rw [c27b0] | (simp only [i64_w, i32_w]; rw [c27b0]) | skip)
          have H' := Aside0.mk H
          clear H
          go_wp2
          go_meet
          case rel => exact ⟨_, (1), (by first | rfl | (simp; done) | (simp [*]; done)), H', ⟨by have := HJ2.out; have := HJ11.out; have := HJ18.out; first | omega | exact Nat.le_refl _⟩, ⟨by (with_reducible repeat (first | refine kdN ?_ _ | refine kdr ?_ | refine kal ?_ _)); exact BK128.out⟩, ⟨by (with_reducible repeat (first | refine kdN ?_ _ | refine kdr ?_ | refine kal ?_ _)); exact BK129.out⟩, ⟨by repeat (first | (with_reducible first | exact HB.out | apply bal | apply bdN | apply bd1 | refine bst ?_ GE128.out | refine bst ?_ GE129.out) | exact HB.out)⟩⟩
         ·rw [if_neg c27] at H
          have c27b0 : (a1_0 == 0) = false := beq_eq_false_iff_ne.mpr c27
          have c27b1 : (a1_0 != 0) = true := bne_iff_ne.mpr c27
          (first | rw [c27b0] | (simp only [i64_w, i32_w]; rw [c27b0]) | skip)
          have H' := Aside0.mk H
          clear H
          go_wp2
          go_meet
          case rel => exact ⟨_, (0), (by first | rfl | (simp; done) | (simp [*]; done)), H', ⟨by have := HJ2.out; have := HJ11.out; have := HJ18.out; first | omega | exact Nat.le_refl _⟩, ⟨by (with_reducible repeat (first | refine kdN ?_ _ | refine kdr ?_ | refine kal ?_ _)); exact BK128.out⟩, ⟨by (with_reducible repeat (first | refine kdN ?_ _ | refine kdr ?_ | refine kal ?_ _)); exact BK129.out⟩, ⟨by repeat (first | (with_reducible first | exact HB.out | apply bal | apply bdN | apply bd1 | refine bst ?_ GE128.out | refine bst ?_ GE129.out) | exact HB.out)⟩⟩
        case rest =>
         clear HC24
         try clear c1
         try clear p1
         try clear q1
         try clear hx1
         try clear c2
         try clear p2
         try clear c6
         try clear c6b0
         try clear c7
         try clear c10
         try clear c11
         try clear c13
         try clear p13
         try clear q13
         try clear hx13
         try clear c14
         try clear c14b0
         try clear c15
         try clear c15b0
         try clear c16
         try clear c20
         try clear c22
         try clear c22b0
         try clear c22b1
         try clear c23
         try clear c25
         try clear c27
         try clear c27b0
         try clear c27b1
         try clear hcz11_0
         try clear hcz11_1
         try clear hcz11_2
         try clear hcz11_3
         try clear hcz11_4
         try clear hcz17_0
         try clear hcz17_1
         try clear hcz17_2
         try clear hcz18_0
         try clear hcz18_1
         try clear hcz18_2
         try clear hcz18_3
         try clear hcz18_4
         try clear hcz21_0
         try clear hcz21_1
         try clear hcz21_2
         try clear hcz21_3
         try clear hcz21_4
         try clear hcz26_0
         try clear hcz26_1
         try clear hcz26_2
         try clear hcz26_3
         try clear hcz26_4
         try clear hcz8_0
         try clear hcz8_1
         try clear hcz8_2
         try clear hcz8_3
         try clear hcz8_4
         try clear hcz9_0
         try clear hcz9_1
         try clear hcz9_2
         try clear hfz11_0
         try clear hfz11_1
         try clear hfz11_2
         try clear hfz11_3
         try clear hfz11_4
         try clear hfz17_0
         try clear hfz17_1
         try clear hfz17_2
         try clear hfz18_0
         try clear hfz18_1
         try clear hfz18_2
         try clear hfz18_3
         try clear hfz18_4
         try clear hfz21_0
         try clear hfz21_1
         try clear hfz21_2
         try clear hfz21_3
         try clear hfz21_4
         try clear hfz26_0
         try clear hfz26_1
         try clear hfz26_2
         try clear hfz26_3
         try clear hfz26_4
         try clear hfz8_0
         try clear hfz8_1
         try clear hfz8_2
         try clear hfz8_3
         try clear hfz8_4
         try clear hfz9_0
         try clear hfz9_1
         try clear hfz9_2
         try clear hx130_0
         try clear hx130_1
         try clear hx130_2
         try clear p1
         try clear p13
         try clear p130
         try clear p2
         try clear q1
         try clear q13
         try clear q130
         obtain ⟨kq, x6_23, rfl, HA, HJ23, BK128, BK129, HB⟩ := hcut
         cases kq with
         | zero => exact absurd HA.out (by simp [prog_args.j3])
         | succ kj23 =>
          have H := HA.out
          clear HA
          simp only [prog_args.j3] at H
          by_cases c28 : x5_11 = 0
          ·rw [if_pos c28] at H
           have c28b0 : (x5_11 == 0) = true := beq_iff_eq.mpr c28
           have c28b1 : (x5_11 != 0) = false := bne_eq_false_iff_eq.mpr c28
           clear c28
           obtain rfl := Option.some.inj H
           go_wp2
           go_ret
           exact ⟨by first | rfl | (simp [*] <;> rfl), by repeat (first | (with_reducible first | exact HB.out | apply bal | apply bdN | apply bd1 | refine bst ?_ GE128.out | refine bst ?_ GE129.out) | exact HB.out)⟩
          ·rw [if_neg c28] at H
           have c28b0 : (x5_11 == 0) = false := beq_eq_false_iff_ne.mpr c28
           have c28b1 : (x5_11 != 0) = true := bne_iff_ne.mpr c28
           by_cases c29 : x5_11 > 1
           ·rw [if_pos c29] at H
            have c29b0 : decide (1 < x5_11) = true := decide_eq_true c29
            clear c29
            obtain rfl := Option.some.inj H
            go_wp2
            go_ret
            exact ⟨by first | rfl | (simp [*] <;> rfl), by repeat (first | (with_reducible first | exact HB.out | apply bal | apply bdN | apply bd1 | refine bst ?_ GE128.out | refine bst ?_ GE129.out) | exact HB.out)⟩
           ·rw [if_neg c29] at H
            have c29b0 : decide (1 < x5_11) = false := decide_eq_false c29
            clear c29
            obtain rfl := Option.some.inj H
            go_wp2
            go_ret
            exact ⟨by first | rfl | (simp [*] <;> rfl), by repeat (first | (with_reducible first | exact HB.out | apply bal | apply bdN | apply bd1 | refine bst ?_ GE128.out | refine bst ?_ GE129.out) | exact HB.out)⟩
       ·replace c23 := Bool.eq_false_iff.mpr c23
        subst c23
        have H1 : (if a1_0 = 3 then (if a1_1 < 0 then (some (-1)) else (if a1_1 > 47 then (some (-1)) else (some 1))) else (if a1_0 = 1 then (prog_args.j4 kj18 (a1_0 == 1) a1_0 a1_1 l1_2 l1_3 l1_4) else (if a1_0 = 2 then (prog_args.j4 kj18 (a1_0 == 2) a1_0 a1_1 l1_2 l1_3 l1_4) else (if a1_0 = 5 then (prog_args.j4 kj18 (a1_0 == 5) a1_0 a1_1 l1_2 l1_3 l1_4) else (prog_args.j4 kj18 (a1_0 == 6) a1_0 a1_1 l1_2 l1_3 l1_4))))) = some r := by rw [if_neg (show ¬ (false = true) by decide)] at H; exact H
        clear H
        have H := H1
        clear H1
        by_cases c30 : a1_0 = 3
        ·rw [if_pos c30] at H
         have c30b0 : (a1_0 == 3) = true := beq_iff_eq.mpr c30
         have c30b1 : (a1_0 != 3) = false := bne_eq_false_iff_eq.mpr c30
         clear c30
         by_cases c31 : a1_1 < 0
         ·rw [if_pos c31] at H
          have c31b0 : decide (a1_1 < 0) = true := decide_eq_true c31
          clear c31
          obtain rfl := Option.some.inj H
          have hnb32 := NB129_128.out
          have hnc32 := NB128_129.out
          obtain ⟨hcz33_0, hcz33_1, hcz33_2, hcz33_3, hcz33_4, hfz33_0, hfz33_1, hfz33_2, hfz33_3, hfz33_4⟩ := cf5 BK129.out
          go_wp2
          go_ret
          exact ⟨by first | rfl | (simp [*] <;> rfl), by repeat (first | (with_reducible first | exact HB.out | apply bal | apply bdN | apply bd1 | refine bst ?_ GE128.out | refine bst ?_ GE129.out) | exact HB.out)⟩
         ·rw [if_neg c31] at H
          have c31b0 : decide (a1_1 < 0) = false := decide_eq_false c31
          clear c31
          by_cases c34 : a1_1 > 47
          ·rw [if_pos c34] at H
           have c34b0 : decide (47 < a1_1) = true := decide_eq_true c34
           clear c34
           obtain rfl := Option.some.inj H
           have hnb35 := NB129_128.out
           have hnc35 := NB128_129.out
           obtain ⟨hcz36_0, hcz36_1, hcz36_2, hcz36_3, hcz36_4, hfz36_0, hfz36_1, hfz36_2, hfz36_3, hfz36_4⟩ := cf5 BK129.out
           go_wp2
           go_ret
           exact ⟨by first | rfl | (simp [*] <;> rfl), by repeat (first | (with_reducible first | exact HB.out | apply bal | apply bdN | apply bd1 | refine bst ?_ GE128.out | refine bst ?_ GE129.out) | exact HB.out)⟩
          ·rw [if_neg c34] at H
           have c34b0 : decide (47 < a1_1) = false := decide_eq_false c34
           clear c34
           obtain rfl := Option.some.inj H
           have hnb37 := NB129_128.out
           have hnc37 := NB128_129.out
           obtain ⟨hcz38_0, hcz38_1, hcz38_2, hcz38_3, hcz38_4, hfz38_0, hfz38_1, hfz38_2, hfz38_3, hfz38_4⟩ := cf5 BK129.out
           go_wp2
           go_ret
           exact ⟨by first | rfl | (simp [*] <;> rfl), by repeat (first | (with_reducible first | exact HB.out | apply bal | apply bdN | apply bd1 | refine bst ?_ GE128.out | refine bst ?_ GE129.out) | exact HB.out)⟩
        ·rw [if_neg c30] at H
         have c30b0 : (a1_0 == 3) = false := beq_eq_false_iff_ne.mpr c30
         have c30b1 : (a1_0 != 3) = true := bne_iff_ne.mpr c30
         have HC39 := Aside0.mk H
         clear H
         go_upto_if 52 with (fail)
         go_cut [52] (fun v52 wc => ∃ (kq : Nat) (x52_38 : Bool), v52 = .bool x52_38 ∧ Aside0 (prog_args.j4 kq x52_38 a1_0 a1_1 l1_2 l1_3 l1_4 = some r) ∧ Aside0 (kq ≤ kj18) ∧ Aside0 (wc.heap[gb128]? = some (.cells #[.int .i64 a0_0, (.slice A0_1 l0_1.length c0_1), (.slice A0_2 l0_2.length c0_2)] 25 (0, 0))) ∧ Aside0 (wc.heap[gb129]? = some (.cells #[.int .i64 a1_0, .int .i64 a1_1, (.slice A1_2 l1_2.length c1_2), (.slice A1_3 l1_3.length c1_3), (.slice A1_4 l1_4.length c1_4)] 64 (0, 0))) ∧ Aside0 (Below w.heap.size w wc))
         case first =>
          have H := HC39.out
          clear HC39
          by_cases c40 : a1_0 = 1
          ·rw [if_pos c40] at H
           have c40b0 : (a1_0 == 1) = true := beq_iff_eq.mpr c40
           have c40b1 : (a1_0 != 1) = false := bne_eq_false_iff_eq.mpr c40
           clear c40
           (first | rw [c40b0] | (simp only [i64_w, i32_w]; rw [c40b0]) | skip)
           have H' := Aside0.mk H
           clear H
           go_wp2
           go_meet
           case rel => exact ⟨_, ((a1_0 == 1)), (by first | rfl | (simp; done) | (simp [*]; done)), H', ⟨by have := HJ2.out; have := HJ11.out; have := HJ18.out; first | omega | exact Nat.le_refl _⟩, ⟨by (with_reducible repeat (first | refine kdN ?_ _ | refine kdr ?_ | refine kal ?_ _)); exact BK128.out⟩, ⟨by (with_reducible repeat (first | refine kdN ?_ _ | refine kdr ?_ | refine kal ?_ _)); exact BK129.out⟩, ⟨by repeat (first | (with_reducible first | exact HB.out | apply bal | apply bdN | apply bd1 | refine bst ?_ GE128.out | refine bst ?_ GE129.out) | exact HB.out)⟩⟩
          ·rw [if_neg c40] at H
           have c40b0 : (a1_0 == 1) = false := beq_eq_false_iff_ne.mpr c40
           have c40b1 : (a1_0 != 1) = true := bne_iff_ne.mpr c40
           (first | rw [c40b0] | (simp only [i64_w, i32_w]; rw [c40b0]) | skip)
           by_cases c41 : a1_0 = 2
           ·rw [if_pos c41] at H
            have c41b0 : (a1_0 == 2) = true := beq_iff_eq.mpr c41
            have c41b1 : (a1_0 != 2) = false := bne_eq_false_iff_eq.mpr c41
            clear c41
            have H' := Aside0.mk H
            clear H
            go_wp2
            go_meet
            case rel => exact ⟨_, ((a1_0 == 2)), (by first | rfl | (simp; done) | (simp [*]; done)), H', ⟨by have := HJ2.out; have := HJ11.out; have := HJ18.out; first | omega | exact Nat.le_refl _⟩, ⟨by (with_reducible repeat (first | refine kdN ?_ _ | refine kdr ?_ | refine kal ?_ _)); exact BK128.out⟩, ⟨by (with_reducible repeat (first | refine kdN ?_ _ | refine kdr ?_ | refine kal ?_ _)); exact BK129.out⟩, ⟨by repeat (first | (with_reducible first | exact HB.out | apply bal | apply bdN | apply bd1 | refine bst ?_ GE128.out | refine bst ?_ GE129.out) | exact HB.out)⟩⟩
           ·rw [if_neg c41] at H
            have c41b0 : (a1_0 == 2) = false := beq_eq_false_iff_ne.mpr c41
            have c41b1 : (a1_0 != 2) = true := bne_iff_ne.mpr c41
            by_cases c42 : a1_0 = 5
            ·rw [if_pos c42] at H
             have c42b0 : (a1_0 == 5) = true := beq_iff_eq.mpr c42
             have c42b1 : (a1_0 != 5) = false := bne_eq_false_iff_eq.mpr c42
             clear c42
             have H' := Aside0.mk H
             clear H
             go_wp2
             go_meet
             case rel => exact ⟨_, ((a1_0 == 5)), (by first | rfl | (simp; done) | (simp [*]; done)), H', ⟨by have := HJ2.out; have := HJ11.out; have := HJ18.out; first | omega | exact Nat.le_refl _⟩, ⟨by (with_reducible repeat (first | refine kdN ?_ _ | refine kdr ?_ | refine kal ?_ _)); exact BK128.out⟩, ⟨by (with_reducible repeat (first | refine kdN ?_ _ | refine kdr ?_ | refine kal ?_ _)); exact BK129.out⟩, ⟨by repeat (first | (with_reducible first | exact HB.out | apply bal | apply bdN | apply bd1 | refine bst ?_ GE128.out | refine bst ?_ GE129.out) | exact HB.out)⟩⟩
            ·rw [if_neg c42] at H
             have c42b0 : (a1_0 == 5) = false := beq_eq_false_iff_ne.mpr c42
             have c42b1 : (a1_0 != 5) = true := bne_iff_ne.mpr c42
             have H' := Aside0.mk H
             clear H
             go_wp2
             go_meet
             case rel => exact ⟨_, ((a1_0 == 6)), (by first | rfl | (simp; done) | (simp [*]; done)), H', ⟨by have := HJ2.out; have := HJ11.out; have := HJ18.out; first | omega | exact Nat.le_refl _⟩, ⟨by (with_reducible repeat (first | refine kdN ?_ _ | refine kdr ?_ | refine kal ?_ _)); exact BK128.out⟩, ⟨by (with_reducible repeat (first | refine kdN ?_ _ | refine kdr ?_ | refine kal ?_ _)); exact BK129.out⟩, ⟨by repeat (first | (with_reducible first | exact HB.out | apply bal | apply bdN | apply bd1 | refine bst ?_ GE128.out | refine bst ?_ GE129.out) | exact HB.out)⟩⟩
         case rest =>
          clear HC39
          try clear c1
          try clear p1
          try clear q1
          try clear hx1
          try clear c2
          try clear p2
          try clear c3
          try clear c4
          try clear c6
          try clear c6b0
          try clear c7
          try clear c10
          try clear c11
          try clear c13
          try clear p13
          try clear q13
          try clear hx13
          try clear c14
          try clear c14b0
          try clear c15
          try clear c15b0
          try clear c16
          try clear c20
          try clear c22
          try clear c22b0
          try clear c22b1
          try clear c23
          try clear c25
          try clear c27
          try clear c27b0
          try clear c27b1
          try clear c28
          try clear c28b0
          try clear c28b1
          try clear c29
          try clear c29b0
          try clear c30
          try clear c30b0
          try clear c30b1
          try clear c31
          try clear c31b0
          try clear c32
          try clear c34
          try clear c34b0
          try clear c35
          try clear c37
          try clear c40
          try clear c40b0
          try clear c40b1
          try clear c41
          try clear c41b0
          try clear c41b1
          try clear c42
          try clear c42b0
          try clear c42b1
          try clear hcz11_0
          try clear hcz11_1
          try clear hcz11_2
          try clear hcz11_3
          try clear hcz11_4
          try clear hcz17_0
          try clear hcz17_1
          try clear hcz17_2
          try clear hcz18_0
          try clear hcz18_1
          try clear hcz18_2
          try clear hcz18_3
          try clear hcz18_4
          try clear hcz21_0
          try clear hcz21_1
          try clear hcz21_2
          try clear hcz21_3
          try clear hcz21_4
          try clear hcz26_0
          try clear hcz26_1
          try clear hcz26_2
          try clear hcz26_3
          try clear hcz26_4
          try clear hcz33_0
          try clear hcz33_1
          try clear hcz33_2
          try clear hcz33_3
          try clear hcz33_4
          try clear hcz36_0
          try clear hcz36_1
          try clear hcz36_2
          try clear hcz36_3
          try clear hcz36_4
          try clear hcz38_0
          try clear hcz38_1
          try clear hcz38_2
          try clear hcz38_3
          try clear hcz38_4
          try clear hcz8_0
          try clear hcz8_1
          try clear hcz8_2
          try clear hcz8_3
          try clear hcz8_4
          try clear hcz9_0
          try clear hcz9_1
          try clear hcz9_2
          try clear hfz11_0
          try clear hfz11_1
          try clear hfz11_2
          try clear hfz11_3
          try clear hfz11_4
          try clear hfz17_0
          try clear hfz17_1
          try clear hfz17_2
          try clear hfz18_0
          try clear hfz18_1
          try clear hfz18_2
          try clear hfz18_3
          try clear hfz18_4
          try clear hfz21_0
          try clear hfz21_1
          try clear hfz21_2
          try clear hfz21_3
          try clear hfz21_4
          try clear hfz26_0
          try clear hfz26_1
          try clear hfz26_2
          try clear hfz26_3
          try clear hfz26_4
          try clear hfz33_0
          try clear hfz33_1
          try clear hfz33_2
          try clear hfz33_3
          try clear hfz33_4
          try clear hfz36_0
          try clear hfz36_1
          try clear hfz36_2
          try clear hfz36_3
          try clear hfz36_4
          try clear hfz38_0
          try clear hfz38_1
          try clear hfz38_2
          try clear hfz38_3
          try clear hfz38_4
          try clear hfz8_0
          try clear hfz8_1
          try clear hfz8_2
          try clear hfz8_3
          try clear hfz8_4
          try clear hfz9_0
          try clear hfz9_1
          try clear hfz9_2
          try clear hx130_0
          try clear hx130_1
          try clear hx130_2
          try clear p1
          try clear p13
          try clear p130
          try clear p2
          try clear q1
          try clear q13
          try clear q130
          obtain ⟨kq, x52_38, rfl, HA, HJ38, BK128, BK129, HB⟩ := hcut
          cases kq with
          | zero => exact absurd HA.out (by simp [prog_args.j4])
          | succ kj38 =>
           have H := HA.out
           clear HA
           simp only [prog_args.j4] at H
           by_cases c43 : x52_38 = true
           ·subst c43
            have H1 : (if a1_1 = 0 then (some 1) else (some (-1))) = some r := by rw [if_pos rfl] at H; exact H
            clear H
            have H := H1
            clear H1
            by_cases c44 : a1_1 = 0
            ·rw [if_pos c44] at H
             have c44b0 : (a1_1 == 0) = true := beq_iff_eq.mpr c44
             have c44b1 : (a1_1 != 0) = false := bne_eq_false_iff_eq.mpr c44
             clear c44
             obtain rfl := Option.some.inj H
             have hnb45 := NB129_128.out
             have hnc45 := NB128_129.out
             obtain ⟨hcz46_0, hcz46_1, hcz46_2, hcz46_3, hcz46_4, hfz46_0, hfz46_1, hfz46_2, hfz46_3, hfz46_4⟩ := cf5 BK129.out
             go_wp2
             go_ret
             exact ⟨by first | rfl | (simp [*] <;> rfl), by repeat (first | (with_reducible first | exact HB.out | apply bal | apply bdN | apply bd1 | refine bst ?_ GE128.out | refine bst ?_ GE129.out) | exact HB.out)⟩
            ·rw [if_neg c44] at H
             have c44b0 : (a1_1 == 0) = false := beq_eq_false_iff_ne.mpr c44
             have c44b1 : (a1_1 != 0) = true := bne_iff_ne.mpr c44
             obtain rfl := Option.some.inj H
             have hnb47 := NB129_128.out
             have hnc47 := NB128_129.out
             obtain ⟨hcz48_0, hcz48_1, hcz48_2, hcz48_3, hcz48_4, hfz48_0, hfz48_1, hfz48_2, hfz48_3, hfz48_4⟩ := cf5 BK129.out
             go_wp2
             go_ret
             exact ⟨by first | rfl | (simp [*] <;> rfl), by repeat (first | (with_reducible first | exact HB.out | apply bal | apply bdN | apply bd1 | refine bst ?_ GE128.out | refine bst ?_ GE129.out) | exact HB.out)⟩
           ·replace c43 := Bool.eq_false_iff.mpr c43
            subst c43
            have H1 : (some (-1)) = some r := by rw [if_neg (show ¬ (false = true) by decide)] at H; exact H
            clear H
            have H := H1
            clear H1
            obtain rfl := Option.some.inj H
            go_wp2
            go_ret
            exact ⟨by first | rfl | (simp [*] <;> rfl), by repeat (first | (with_reducible first | exact HB.out | apply bal | apply bdN | apply bd1 | refine bst ?_ GE128.out | refine bst ?_ GE129.out) | exact HB.out)⟩
def nestOk (op : Int) (t e : Nat) : Bool := (t == 0 || op == 1 || op == 2) && (e == 0 || op == 1)
theorem nestOk_cases (op : Int) (t e : Nat) :
    (nestOk op t e = false ∧ (((decide (0 < t) = true ∧ decide ((0 : Int) < (t : Int)) = true) ∧ (op != 1) = true ∧ (op != 2) = true) ∨ ((decide (0 < t) = true ∧ decide ((0 : Int) < (t : Int)) = true) ∧ (op != 1) = true ∧ (op != 2) = false ∧ (decide (0 < e) = true ∧ decide ((0 : Int) < (e : Int)) = true)) ∨ ((decide (0 < t) = false ∧ decide ((0 : Int) < (t : Int)) = false) ∧ (decide (0 < e) = true ∧ decide ((0 : Int) < (e : Int)) = true) ∧ (op != 1) = true))) ∨
    (nestOk op t e = true ∧ (((decide (0 < t) = true ∧ decide ((0 : Int) < (t : Int)) = true) ∧ (op != 1) = false ∧ (decide (0 < e) = false ∧ decide ((0 : Int) < (e : Int)) = false)) ∨ ((decide (0 < t) = true ∧ decide ((0 : Int) < (t : Int)) = true) ∧ (op != 1) = false ∧ (decide (0 < e) = true ∧ decide ((0 : Int) < (e : Int)) = true)) ∨ ((decide (0 < t) = true ∧ decide ((0 : Int) < (t : Int)) = true) ∧ (op != 1) = true ∧ (op != 2) = false ∧ (decide (0 < e) = false ∧ decide ((0 : Int) < (e : Int)) = false)) ∨ ((decide (0 < t) = false ∧ decide ((0 : Int) < (t : Int)) = false) ∧ (decide (0 < e) = false ∧ decide ((0 : Int) < (e : Int)) = false)) ∨ ((decide (0 < t) = false ∧ decide ((0 : Int) < (t : Int)) = false) ∧ (decide (0 < e) = true ∧ decide ((0 : Int) < (e : Int)) = true) ∧ (op != 1) = false))) := by
  unfold nestOk
  by_cases ht : t = 0 <;> by_cases he : e = 0 <;> by_cases h1 : op = 1 <;> by_cases h2 : op = 2 <;> simp [ht, he, h1, h2, Nat.pos_iff_ne_zero, Int.natCast_pos] <;> omega
mutual
def prog_count_fine.l1 : Nat → Int → List S66 → List S64 → List S64 → Int → Int → Int → Int → Int → Option (Bool × Int × Int)
  | 0, _, _, _, _, _, _, _, _, _ => none
  | k + 1, a0, l1, l2, l, deep, i, j, st, nd => if j < ((rd_T64 l i).f2.length : Int) then (if 0 ≤ j then ((expr_Check.f k a0 l1 1 (rd_T28 (rd_T64 l i).f2 j).f0 (rd_T28 (rd_T64 l i).f2 j).f1 (rd_T28 (rd_T64 l i).f2 j).f2 (rd_T28 (rd_T64 l i).f2 j).f3).bind fun t => if t = 0 then
        ((expr_Nodes.f k (rd_T28 (rd_T64 l i).f2 j).f0 (rd_T28 (rd_T64 l i).f2 j).f1 (rd_T28 (rd_T64 l i).f2 j).f2 (rd_T28 (rd_T64 l i).f2 j).f3).bind fun m => prog_count_fine.l1 k a0 l1 l2 l deep i (wrap64 (j + 1)) st (wrap64 (nd + m))) else some (false, st, nd)) else none)
      else (prog_count_fine.f k a0 l1 l2 (rd_T64 l i).f3 (wrap64 (deep + 1)) st nd).bind fun q => if q.1 = true then ((prog_count_fine.f k a0 l1 l2 (rd_T64 l i).f4 (wrap64 (deep + 1)) q.2.1 q.2.2).bind fun q2 => if q2.1 = true then prog_count_fine.l0 k a0 l1 l2 l deep (wrap64 (i + 1)) q2.2.1 q2.2.2 else some (false, q2.2.1, q2.2.2)) else some (false, q.2.1, q.2.2)
def prog_count_fine.l0 : Nat → Int → List S66 → List S64 → List S64 → Int → Int → Int → Int → Option (Bool × Int × Int)
  | 0, _, _, _, _, _, _, _, _ => none
  | k + 1, a0, l1, l2, l, deep, i, st, nd => if i < (l.length : Int) then (if 0 ≤ i then (if 400 < wrap64 (nd + 1) then some (false, wrap64 (st + 1), wrap64 (nd + 1)) else
      (prog_args.f k a0 l1 l2 (rd_T64 l i).f0 (rd_T64 l i).f1 (rd_T64 l i).f2 (rd_T64 l i).f3 (rd_T64 l i).f4).bind fun ar => if ar = ((rd_T64 l i).f2.length : Int) then
        (if nestOk (rd_T64 l i).f0 (rd_T64 l i).f3.length (rd_T64 l i).f4.length = true then prog_count_fine.l1 k a0 l1 l2 l deep i 0 (wrap64 (st + 1)) (wrap64 (nd + 1)) else some (false, wrap64 (st + 1), wrap64 (nd + 1))) else some (false, wrap64 (st + 1), wrap64 (nd + 1))) else none)
      else some (decide (nd ≤ 400), st, nd)
def prog_count_fine.f : Nat → Int → List S66 → List S64 → List S64 → Int → Int → Int → Option (Bool × Int × Int)
  | 0, _, _, _, _, _, _, _ => none
  | k + 1, a0, l1, l2, l, deep, st, nd => if (0 : Int) < (l.length : Int) then (if 16 < deep then some (false, st, nd) else prog_count_fine.l0 k a0 l1 l2 l deep 0 st nd) else prog_count_fine.l0 k a0 l1 l2 l deep 0 st nd
end
theorem cells2 {w : World} {g : Nat} {a b : Value} {t : TypeId} {fr : Nat × Nat} (h : w.heap[g]? = some (.cells #[a, b] t (0, 0))) : w.cell? ⟨g, 0, none⟩ = some a ∧ w.cell? ⟨g, 1, none⟩ = some b := ⟨(blk_cell h 0).trans rfl, (blk_cell h 1).trans rfl⟩
theorem cells3 {w : World} {g : Nat} {a b c : Value} {t : TypeId} (h : w.heap[g]? = some (.cells #[a, b, c] t (0, 0))) : w.cell? ⟨g, 0, none⟩ = some a ∧ w.cell? ⟨g, 1, none⟩ = some b ∧ w.cell? ⟨g, 2, none⟩ = some c := ⟨(blk_cell h 0).trans rfl, (blk_cell h 1).trans rfl, (blk_cell h 2).trans rfl⟩
theorem cells5 {w : World} {g : Nat} {a b c d e : Value} {t : TypeId} (h : w.heap[g]? = some (.cells #[a, b, c, d, e] t (0, 0))) : w.cell? ⟨g, 0, none⟩ = some a ∧ w.cell? ⟨g, 1, none⟩ = some b ∧ w.cell? ⟨g, 2, none⟩ = some c ∧ w.cell? ⟨g, 3, none⟩ = some d ∧ w.cell? ⟨g, 4, none⟩ = some e :=
  ⟨(blk_cell h 0).trans rfl, (blk_cell h 1).trans rfl, (blk_cell h 2).trans rfl, (blk_cell h 3).trans rfl, (blk_cell h 4).trans rfl⟩
theorem count_world {wr : World} {G p : Nat} {a b u v : Value} {t : TypeId} {oP : Obj} (hG : wr.heap[G]? = some (.cells #[a, b] t (0, 0))) (hP : wr.heap[p]? = some oP) (hne : p ≠ G) (o : Obj) :
    (((wr.setCell ⟨G, 0, none⟩ u).setCell ⟨G, 1, none⟩ v).alloc o).heap[G]? = some (.cells #[u, v] t (0, 0)) ∧ (((wr.setCell ⟨G, 0, none⟩ u).setCell ⟨G, 1, none⟩ v).alloc o).heap[p]? = some oP ∧
      (((wr.setCell ⟨G, 0, none⟩ u).setCell ⟨G, 1, none⟩ v).alloc o).heap[wr.heap.size]? = some o ∧ wr.grownBy (((wr.setCell ⟨G, 0, none⟩ u).setCell ⟨G, 1, none⟩ v).alloc o) (some G) ∧ wr.heap.size < (((wr.setCell ⟨G, 0, none⟩ u).setCell ⟨G, 1, none⟩ v).alloc o).heap.size := by
  have h1 : (wr.setCell ⟨G, 0, none⟩ u).heap[G]? = some (.cells #[u, b] t (0, 0)) := by simpa using blk_set hG 0 u
  have h2 : ((wr.setCell ⟨G, 0, none⟩ u).setCell ⟨G, 1, none⟩ v).heap[G]? = some (.cells #[u, v] t (0, 0)) := by simpa using blk_set h1 1 v
  refine ⟨kal h2 _, kal ((Below.heap_setCell _ _ _ _ hne).trans ((Below.heap_setCell _ _ _ _ hne).trans hP)) _, ?_, ?_, by simp⟩
  · have := heap_alloc_new ((wr.setCell ⟨G, 0, none⟩ u).setCell ⟨G, 1, none⟩ v) o
    simpa using this
  · refine ⟨rfl, rfl, rfl, by simp, fun i hi hne2 => ?_⟩
    have hne' : i ≠ G := fun e => hne2 (by rw [e])
    rw [Below.heap_alloc _ _ _ (by simpa using hi), Below.heap_setCell _ _ _ _ hne', Below.heap_setCell _ _ _ _ hne']
theorem undrew {w w' : World} (h : Below w.drew.heap.size w.drew w') : Below w.heap.size w w' := ⟨h.os, h.tape, h.output, h.size, h.block⟩
set_option maxHeartbeats 8000000 in
set_option maxRecDepth 100000 in
theorem prog_count_fine.calls (k : Nat) : ∀ (a0 : Int) (A1 : Option Addr) (c1 : Nat) (l1 : List S66) (A2 : Option Addr) (c2 : Nat) (l2 : List S64) (A : Option Addr) (c : Nat) (l : List S64) (deep st nd : Int) (G : Nat) (r : Bool) (st' nd' : Int) (w0 w : World)
    (hr1 : Kd.C k66 w0 A1 l1.length l1) (hc1 : l1.length ≤ c1) (hr2 : Kd.C k64 w0 A2 l2.length l2) (hc2 : l2.length ≤ c2) (hr : Kd.C k64 w0 A l.length l) (hc : l.length ≤ c) (hB : Below w0.heap.size w0 w) (hG0 : w0.heap.size ≤ G)
    (hG : w.heap[G]? = some (.cells #[.int .i64 st, .int .i64 nd] 101 (0, 0))) (h : prog_count_fine.f k a0 l1 l2 l deep st nd = some (r, st', nd')),
    Calls Try.prog 101 #[.pointer (some ⟨G, 0, none⟩), .agg #[.int .i64 a0, .slice A1 l1.length c1, .slice A2 l2.length c2], .slice A l.length c, .int .i64 deep] w fun e w' =>
      e = .returned (.bool r) ∧ w'.heap[G]? = some (.cells #[.int .i64 st', .int .i64 nd'] 101 (0, 0)) ∧ w.grownBy w' (some G) := by
  induction k using Nat.strongRecOn with
  | _ k ih =>
  intro a0 A1 c1 l1 A2 c2 l2 A c l deep st nd G r st' nd' w0 w hr1 hc1 hr2 hc2 hr hc hB hG0 hG h
  cases k with
  | zero => exact absurd h (by simp [prog_count_fine.f])
  | succ k =>
  simp only [prog_count_fine.f] at h
  have huP := Try.underlying25
  have huS := Try.underlying64
  have huC := Try.underlying101
  have HR1 := Aside0.mk hr1
  have HC1 := Aside0.mk hc1
  have HR2 := Aside0.mk hr2
  have HC2 := Aside0.mk hc2
  have HR := Aside0.mk hr
  have HC := Aside0.mk hc
  have HB := Aside0.mk hB
  have HG0 := Aside0.mk hG0
  have BG0 := Aside0.mk hG
  have hGl := blk_lt hG
  have ih' := Aside0.mk ih
  clear hr1 hc1 hr2 hc2 hr hc hB hG0 hG ih
  have HH : (0 < l.length ∧ decide (16 < deep) = true ∧ r = false ∧ st = st' ∧ nd = nd') ∨ (((0 < l.length ∧ decide (16 < deep) = false) ∨ l.length = 0) ∧ Aside0 (prog_count_fine.l0 k a0 l1 l2 l deep 0 st nd = some (r, st', nd'))) := by
    by_cases h0 : (0 : Int) < (l.length : Int)
    · rw [if_pos h0] at h
      rcases ite_b h with ⟨d, h⟩ | ⟨d, h⟩
      · injection (Option.some.inj h) with e1 e2
        injection e2 with e2 e3
        exact .inl ⟨by omega, d, e1.symm, e2, e3⟩
      · exact .inr ⟨.inl ⟨by omega, d⟩, ⟨h⟩⟩
    · rw [if_neg h0] at h
      exact .inr ⟨.inr (by omega), ⟨h⟩⟩
  clear h
  rcases HH with ⟨d0, d1, rfl, rfl, rfl⟩ | ⟨hd, HL⟩
  · have d0' : decide (0 < l.length) = true := decide_eq_true d0
    have d0'' : decide ((0 : Int) < (l.length : Int)) = true := decide_eq_true (by omega)
    go_enter Try.func101, Try.ntmps101
    go_wp2
    go_ret
    exact ⟨rfl, kal BG0.out _, World.grownBy_alloc _ _ _⟩
  have hd' : (decide (0 < l.length) = true ∧ decide ((0 : Int) < (l.length : Int)) = true ∧ decide (16 < deep) = false) ∨ (decide (0 < l.length) = false ∧ decide ((0 : Int) < (l.length : Int)) = false) := by
    rcases hd with ⟨d, d1⟩ | d
    · exact .inl ⟨decide_eq_true d, decide_eq_true (by omega), d1⟩
    · exact .inr ⟨decide_eq_false (by omega), decide_eq_false (by omega)⟩
  clear hd
  go_enter Try.func101, Try.ntmps101
  go_upto_region 1 with (fail)
  go_cut [19] (fun v19 wc => v19 = .bool false ∧ Aside0 (wc.heap[G]? = some (.cells #[.int .i64 st, .int .i64 nd] 101 (0, 0))) ∧ Aside0 (wc.heap[w.heap.size]? = some (.cells #[.int .i64 a0, .slice A1 l1.length c1, .slice A2 l2.length c2] 25 (0, 0))) ∧ Aside0 (w.grownBy wc (some G)))
  case first =>
    rcases hd' with ⟨d0, d1, d2⟩ | ⟨d0, d1⟩
    all_goals
      go_wp2
      go_meet
      case rel => exact ⟨rfl, ⟨kal BG0.out _⟩, ⟨heap_alloc_new _ _⟩, ⟨World.grownBy_alloc _ _ _⟩⟩
  case rest =>
    clear hd' BG0
    obtain ⟨rfl, BG0, BP0, GW0⟩ := hcut
    go_wp2
    go_loopg [22] k (fun kq v22 wl => ∃ (i s1 n1 : Int), v22 = .int .i64 i ∧ Aside0 (prog_count_fine.l0 kq a0 l1 l2 l deep i s1 n1 = some (r, st', nd')) ∧ Aside0 (kq ≤ k) ∧ Aside0 (wl.heap[G]? = some (.cells #[.int .i64 s1, .int .i64 n1] 101 (0, 0))) ∧
      Aside0 (wl.heap[w.heap.size]? = some (.cells #[.int .i64 a0, .slice A1 l1.length c1, .slice A2 l2.length c2] 25 (0, 0))) ∧ Aside0 (w.grownBy wl (some G)))
    case atStart => exact ⟨0, st, nd, rfl, HL, ⟨Nat.le_refl _⟩, BG0, BP0, GW0⟩
    case round =>
      clear HL BG0 BP0 GW0
      obtain ⟨i, s1, n1, rfl, HA, HK, BG, BP, GW⟩ := hrel
      cases gk with
      | zero => exact absurd HA.out (by simp [prog_count_fine.l0])
      | succ k1 =>
        have H := HA.out
        clear HA
        simp only [prog_count_fine.l0] at H
        have H2 := ite_b H
        clear H
        obtain ⟨hg0, hg1⟩ := cells2 (fr := (0, 0)) BG.out
        have hf0 := blk_frozen BG.out 0
        have hf1 := blk_frozen BG.out 1
        have hGlt := blk_lt BG.out
        have hPlt := blk_lt BP.out
        rcases H2 with ⟨t1, H⟩ | ⟨t1, H⟩
        case inr =>
          injection (Option.some.inj H) with e1 e2
          injection e2 with e2 e3
          subst e1 e2 e3
          clear H
          go_wp2
          go_ret
          exact ⟨rfl, BG.out, GW.out⟩
        have H2 := ite_b H
        clear H
        rcases H2 with ⟨t2, H⟩ | ⟨t2, H⟩
        case inr => exact absurd H (by simp)
        have p0 : 0 ≤ i := of_decide_eq_true t2
        have p1 : i < (l.length : Int) := of_decide_eq_true t1
        have B0 := Aside0.mk (below_gr HB.out GW.out HG0.out)
        obtain ⟨ad, B2, b2, B3, b3, B4, b4, e1, q0, q1, q2, q3, q4, ql2, qr2, ql3, qr3, ql4, qr4⟩ := at_T64 HR.out i p0 p1
        cases e1
        replace q0 := (B0.out.cell (World.block_lt_of_cell? w0 _ q0)).trans q0
        replace q1 := (B0.out.cell (World.block_lt_of_cell? w0 _ q1)).trans q1
        replace q2 := (B0.out.cell (World.block_lt_of_cell? w0 _ q2)).trans q2
        replace q3 := (B0.out.cell (World.block_lt_of_cell? w0 _ q3)).trans q3
        replace q4 := (B0.out.cell (World.block_lt_of_cell? w0 _ q4)).trans q4
        have QL2 := Aside0.mk ql2
        have QR2 := Aside0.mk qr2
        have QL3 := Aside0.mk ql3
        have QR3 := Aside0.mk qr3
        have QL4 := Aside0.mk ql4
        have QR4 := Aside0.mk qr4
        have hne : w.heap.size ≠ G := by omega
        have cw := count_world BG.out BP.out hne (.cells #[.int .i64 (rd_T64 l i).f0, .int .i64 (rd_T64 l i).f1, .slice B2 (rd_T64 l i).f2.length b2, .slice B3 (rd_T64 l i).f3.length b3, .slice B4 (rd_T64 l i).f4.length b4] 64) (u := .int .i64 (wrap64 (s1 + 1))) (v := .int .i64 (wrap64 (n1 + 1)))
        have hH := Aside0.mk H
        clear ql2 qr2 ql3 qr3 ql4 qr4 H
        have CW := Aside0.mk cw
        clear cw
        go_wp2
        have cw := CW.out
        clear CW
        generalize (((wr.setCell ⟨G, 0, none⟩ (.int .i64 (wrap64 (s1 + 1)))).setCell ⟨G, 1, none⟩ (.int .i64 (wrap64 (n1 + 1)))).alloc (.cells #[.int .i64 (rd_T64 l i).f0, .int .i64 (rd_T64 l i).f1, .slice B2 (rd_T64 l i).f2.length b2, .slice B3 (rd_T64 l i).f3.length b3, .slice B4 (rd_T64 l i).f4.length b4] 64)) = W1 at cw ⊢
        have H := hH.out
        clear hH
        generalize wrap64 (s1 + 1) = s2 at H cw ⊢
        generalize wrap64 (n1 + 1) = n2 at H cw ⊢
        obtain ⟨bG, bP, bS, gW1, hlt⟩ := cw
        obtain ⟨cG0, cG1⟩ := cells2 (fr := (0, 0)) bG
        obtain ⟨cP0, cP1, cP2⟩ := cells3 bP
        obtain ⟨cS0, cS1, cS2, cS3, cS4⟩ := cells5 bS
        have BG := Aside0.mk bG
        have BP := Aside0.mk bP
        have BS := Aside0.mk bS
        have GW := Aside0.mk (gtrans GW.out gW1)
        have B1 := Aside0.mk (below_gr HB.out GW.out HG0.out)
        clear bG bP bS gW1 hg0 hg1 hf0 hf1 q0 q1 q2 q3 q4 B0
        have H2 := ite_b H
        clear H
        rcases H2 with ⟨d1, H⟩ | ⟨d1, H⟩
        case inl =>
          injection (Option.some.inj H) with e1 e2
          injection e2 with e2 e3
          subst e1 e2 e3
          clear H
          go_quiet (fail)
          go_wp2
          go_ret
          exact ⟨rfl, BG.out, ⟨GW.out.os, GW.out.tape, GW.out.output, GW.out.size, GW.out.block⟩⟩
        replace H := Option.bind_eq_some_iff.mp H
        obtain ⟨ar, AR0, H⟩ := H
        have AR := Aside0.mk AR0
        clear AR0
        have H2 := ite_b H
        clear H
        rcases H2 with ⟨d3, H⟩ | ⟨d3, H⟩
        case inr =>
          injection (Option.some.inj H) with e1 e2
          injection e2 with e2 e3
          subst e1 e2 e3
          clear H
          have d3a : (ar == ((rd_T64 l i).f2.length : Int)) = false := beq_eq_false_iff_ne.mpr (of_decide_eq_false d3)
          have d3b : (ar != ((rd_T64 l i).f2.length : Int)) = true := bne_iff_ne.mpr (of_decide_eq_false d3)
          clear d3
          go_region_held3 (fun w' => Below W1.heap.size W1 w' ∧ w'.cell? ⟨G, 0, none⟩ = some (.int .i64 s2) ∧ w'.cell? ⟨G, 1, none⟩ = some (.int .i64 n2) ∧ w'.cell? ⟨w.heap.size, 0, none⟩ = some (.int .i64 a0) ∧ w'.cell? ⟨w.heap.size, 1, none⟩ = some (.slice A1 l1.length c1) ∧ w'.cell? ⟨w.heap.size, 2, none⟩ = some (.slice A2 l2.length c2) ∧
              w'.cell? ⟨wr.heap.size, 0, none⟩ = some (.int .i64 (rd_T64 l i).f0) ∧ w'.cell? ⟨wr.heap.size, 1, none⟩ = some (.int .i64 (rd_T64 l i).f1) ∧ w'.cell? ⟨wr.heap.size, 2, none⟩ = some (.slice B2 (rd_T64 l i).f2.length b2) ∧ w'.cell? ⟨wr.heap.size, 3, none⟩ = some (.slice B3 (rd_T64 l i).f3.length b3) ∧ w'.cell? ⟨wr.heap.size, 4, none⟩ = some (.slice B4 (rd_T64 l i).f4.length b4))
            (first
              | exact ⟨below_drew (Below.refl _ _), cG0, cG1, cP0, cP1, cP2, cS0, cS1, cS2, cS3, cS4⟩
              | (go_split_ands; exact ⟨below_then (by assumption) (Below.size (by assumption)) hb, pw_cell_below hb (by assumption), pw_cell_below hb (by assumption), pw_cell_below hb (by assumption), pw_cell_below hb (by assumption), pw_cell_below hb (by assumption), pw_cell_below hb (by assumption), pw_cell_below hb (by assumption), pw_cell_below hb (by assumption), pw_cell_below hb (by assumption), pw_cell_below hb (by assumption)⟩))
            (first | (go_at_call 118; (with_reducible refine (prog_args.calls k1 a0 _ _ l1 _ _ l2 _ _ _ _ (rd_T64 l i).f2 _ _ (rd_T64 l i).f3 _ _ (rd_T64 l i).f4 ar _ ?s1 HC1.out ?s2 HC2.out ?s3 QL2.out ?s4 QL3.out ?s5 QL4.out AR.out).mono ?_); (case s1 => exact Kd.C_below HR1.out (by repeat (first | exact B1.out | apply below_drew))); (case s2 => exact Kd.C_below HR2.out (by repeat (first | exact B1.out | apply below_drew))); (case s3 => exact Kd.C_below QR2.out (by repeat (first | exact B1.out | apply below_drew))); (case s4 => exact Kd.C_below QR3.out (by repeat (first | exact B1.out | apply below_drew))); (case s5 => exact Kd.C_below QR4.out (by repeat (first | exact B1.out | apply below_drew))); rintro e w' ⟨rfl, hb⟩))
          obtain ⟨hBw, _⟩ := ‹Below W1.heap.size W1 _ ∧ _›
          go_wp2
          go_ret
          exact ⟨rfl, fine_end GW.out BG.out hBw⟩
        have d3a : (ar == ((rd_T64 l i).f2.length : Int)) = true := beq_iff_eq.mpr (of_decide_eq_true d3)
        have d3b : (ar != ((rd_T64 l i).f2.length : Int)) = false := bne_eq_false_iff_eq.mpr (of_decide_eq_true d3)
        clear d3
        go_region_held3 (fun w' => Below W1.heap.size W1 w' ∧ w'.cell? ⟨G, 0, none⟩ = some (.int .i64 s2) ∧ w'.cell? ⟨G, 1, none⟩ = some (.int .i64 n2) ∧ w'.cell? ⟨w.heap.size, 0, none⟩ = some (.int .i64 a0) ∧ w'.cell? ⟨w.heap.size, 1, none⟩ = some (.slice A1 l1.length c1) ∧ w'.cell? ⟨w.heap.size, 2, none⟩ = some (.slice A2 l2.length c2) ∧
            w'.cell? ⟨wr.heap.size, 0, none⟩ = some (.int .i64 (rd_T64 l i).f0) ∧ w'.cell? ⟨wr.heap.size, 1, none⟩ = some (.int .i64 (rd_T64 l i).f1) ∧ w'.cell? ⟨wr.heap.size, 2, none⟩ = some (.slice B2 (rd_T64 l i).f2.length b2) ∧ w'.cell? ⟨wr.heap.size, 3, none⟩ = some (.slice B3 (rd_T64 l i).f3.length b3) ∧ w'.cell? ⟨wr.heap.size, 4, none⟩ = some (.slice B4 (rd_T64 l i).f4.length b4))
          (first
            | exact ⟨below_drew (Below.refl _ _), cG0, cG1, cP0, cP1, cP2, cS0, cS1, cS2, cS3, cS4⟩
            | (go_split_ands; exact ⟨below_then (by assumption) (Below.size (by assumption)) hb, pw_cell_below hb (by assumption), pw_cell_below hb (by assumption), pw_cell_below hb (by assumption), pw_cell_below hb (by assumption), pw_cell_below hb (by assumption), pw_cell_below hb (by assumption), pw_cell_below hb (by assumption), pw_cell_below hb (by assumption), pw_cell_below hb (by assumption), pw_cell_below hb (by assumption)⟩))
          (first | (go_at_call 118; (with_reducible refine (prog_args.calls k1 a0 _ _ l1 _ _ l2 _ _ _ _ (rd_T64 l i).f2 _ _ (rd_T64 l i).f3 _ _ (rd_T64 l i).f4 ar _ ?s1 HC1.out ?s2 HC2.out ?s3 QL2.out ?s4 QL3.out ?s5 QL4.out AR.out).mono ?_); (case s1 => exact Kd.C_below HR1.out (by repeat (first | exact B1.out | apply below_drew))); (case s2 => exact Kd.C_below HR2.out (by repeat (first | exact B1.out | apply below_drew))); (case s3 => exact Kd.C_below QR2.out (by repeat (first | exact B1.out | apply below_drew))); (case s4 => exact Kd.C_below QR3.out (by repeat (first | exact B1.out | apply below_drew))); (case s5 => exact Kd.C_below QR4.out (by repeat (first | exact B1.out | apply below_drew))); rintro e w' ⟨rfl, hb⟩))
        obtain ⟨hBw, hcG0, hcG1, hcP0, hcP1, hcP2, hcS0, hcS1, hcS2, hcS3, hcS4⟩ := ‹Below W1.heap.size W1 _ ∧ _›
        have E2 := fine_end GW.out BG.out hBw
        have BG := Aside0.mk E2.1
        have GW := Aside0.mk E2.2
        have BP := Aside0.mk ((hBw.block _ (blk_lt BP.out)).trans BP.out)
        have BS := Aside0.mk ((hBw.block _ (blk_lt BS.out)).trans BS.out)
        have hH := Aside0.mk H
        clear hBw hb E2 cG0 cG1 cP0 cP1 cP2 cS0 cS1 cS2 cS3 cS4 B1 AR d1 d3a d3b H
        have H := hH.out
        clear hH
        rcases nestOk_cases (rd_T64 l i).f0 (rd_T64 l i).f3.length (rd_T64 l i).f4.length with ⟨hno, hcs⟩ | ⟨hno, hcs⟩
        · rw [hno] at H
          injection (Option.some.inj (show some (false, s2, n2) = some (r, st', nd') from H)) with e1 e2
          injection e2 with e2 e3
          subst e1 e2 e3
          clear H hno
          rcases hcs with ⟨⟨g1, g2⟩, g3, g4⟩ | ⟨⟨g1, g2⟩, g3, g4, g5, g6⟩ | ⟨⟨g1, g2⟩, ⟨g3, g4⟩, g5⟩
          all_goals go_wp2
          all_goals (go_ret; exact ⟨rfl, BG.out, GW.out⟩)
        rw [hno] at H
        have HL := Aside0.mk (show prog_count_fine.l1 k1 a0 l1 l2 l deep i 0 s2 n2 = some (r, st', nd') from H)
        clear H hno
        go_upto_region 10 with (fail)
        go_cut [78] (fun v78 wc => v78 = .bool false ∧ Aside0 (wc.heap[G]? = some (.cells #[.int .i64 s2, .int .i64 n2] 101 (0, 0))) ∧ Aside0 (wc.heap[w.heap.size]? = some (.cells #[.int .i64 a0, .slice A1 l1.length c1, .slice A2 l2.length c2] 25 (0, 0))) ∧ Aside0 (wc.heap[wr.heap.size]? = some (.cells #[.int .i64 (rd_T64 l i).f0, .int .i64 (rd_T64 l i).f1, .slice B2 (rd_T64 l i).f2.length b2, .slice B3 (rd_T64 l i).f3.length b3, .slice B4 (rd_T64 l i).f4.length b4] 64 (0, 0))) ∧ Aside0 (w.grownBy wc (some G)))
        case first =>
          rcases hcs with ⟨⟨g1, g2⟩, g3, g4, g5⟩ | ⟨⟨g1, g2⟩, g3, g4, g5⟩ | ⟨⟨g1, g2⟩, g3, g4, g5, g6⟩ | ⟨⟨g1, g2⟩, g3, g4⟩ | ⟨⟨g1, g2⟩, ⟨g3, g4⟩, g5⟩
          all_goals
            go_wp2
            go_meet
            case rel => exact ⟨rfl, BG, BP, BS, GW⟩
        case rest =>
          clear hcs BG BP BS GW hcG0 hcG1 hcP0 hcP1 hcP2 hcS0 hcS1 hcS2 hcS3 hcS4
          obtain ⟨rfl, BG, BP, BS, GW⟩ := hcut
          clear hlt hGlt
          generalize wr.heap.size = T at BS ⊢
          obtain ⟨cS0, cS1, cS2, cS3, cS4⟩ := cells5 BS.out
          go_wp2
          clear cS0 cS1 cS2 cS3 cS4
          go_loopg [82] k1 (fun kq v82 wl => ∃ (j s3 n3 : Int), v82 = .int .i64 j ∧ Aside0 (prog_count_fine.l1 kq a0 l1 l2 l deep i j s3 n3 = some (r, st', nd')) ∧ Aside0 (kq ≤ k1) ∧ Aside0 (wl.heap[G]? = some (.cells #[.int .i64 s3, .int .i64 n3] 101 (0, 0))) ∧
            Aside0 (wl.heap[w.heap.size]? = some (.cells #[.int .i64 a0, .slice A1 l1.length c1, .slice A2 l2.length c2] 25 (0, 0))) ∧ Aside0 (wl.heap[T]? = some (.cells #[.int .i64 (rd_T64 l i).f0, .int .i64 (rd_T64 l i).f1, .slice B2 (rd_T64 l i).f2.length b2, .slice B3 (rd_T64 l i).f3.length b3, .slice B4 (rd_T64 l i).f4.length b4] 64 (0, 0))) ∧ Aside0 (w.grownBy wl (some G)))
          case atStart => exact ⟨0, s2, n2, rfl, HL, ⟨Nat.le_refl _⟩, BG, BP, BS, GW⟩
          case round =>
            clear HL BG BP BS GW
            obtain ⟨j, s3, n3, rfl, HA, HK2, BG, BP, BS, GW⟩ := hrel
            cases gk with
            | zero => exact absurd HA.out (by simp [prog_count_fine.l1])
            | succ k2 =>
              have H := HA.out
              clear HA
              simp only [prog_count_fine.l1] at H
              have H2 := ite_b H
              clear H
              have hTG := blk_ne BS.out BG.out (by decide)
              obtain ⟨cG0, cG1⟩ := cells2 (fr := (0, 0)) BG.out
              obtain ⟨cP0, cP1, cP2⟩ := cells3 BP.out
              obtain ⟨cS0, cS1, cS2, cS3, cS4⟩ := cells5 BS.out
              have hGlt := blk_lt BG.out
              have hTlt := blk_lt BS.out
              have hPlt := blk_lt BP.out
              have B0 := Aside0.mk (below_gr HB.out GW.out HG0.out)
              have hk1 := HK.out
              have hk2 := HK2.out
              rcases H2 with ⟨t3, H⟩ | ⟨t3, H⟩
              case inr =>
                replace H := Option.bind_eq_some_iff.mp H
                obtain ⟨⟨r3, s4, n4⟩, A30, H⟩ := H
                have A3 := Aside0.mk A30
                clear A30
                have H2 := ite_t (t := r3) H
                clear H
                rcases H2 with ⟨rfl, H⟩ | ⟨rfl, H⟩
                case inr =>
                  injection (Option.some.inj H) with e1 e2
                  injection e2 with e2 e3
                  subst e1 e2 e3
                  clear H
                  go_wp2_with (first | (go_at_call 101; (with_reducible refine (ih'.out k2 (by omega) a0 _ _ l1 _ _ l2 _ _ (rd_T64 l i).f3 (wrap64 (deep + 1)) s3 n3 G false s4 n4 w0 _ HR1.out HC1.out HR2.out HC2.out QR3.out QL3.out B0.out HG0.out BG.out A3.out).mono ?_); rintro e w3 ⟨rfl, hG3, hgr3⟩))
                  go_ret
                  exact ⟨rfl, hG3, gtrans GW.out hgr3⟩
                replace H := Option.bind_eq_some_iff.mp H
                obtain ⟨⟨r4, s5, n5⟩, A40, H⟩ := H
                have A4 := Aside0.mk A40
                clear A40
                have H2 := ite_t (t := r4) H
                clear H
                rcases H2 with ⟨rfl, H⟩ | ⟨rfl, H⟩
                case inr =>
                  injection (Option.some.inj H) with e1 e2
                  injection e2 with e2 e3
                  subst e1 e2 e3
                  clear H
                  go_wp2_with (first
                    | (go_at_call 101; (with_reducible refine (ih'.out k2 (by omega) a0 _ _ l1 _ _ l2 _ _ (rd_T64 l i).f3 (wrap64 (deep + 1)) s3 n3 G true s4 n4 w0 _ HR1.out HC1.out HR2.out HC2.out QR3.out QL3.out B0.out HG0.out BG.out A3.out).mono ?_); rintro e w3 ⟨rfl, hG3, hgr3⟩; have BG3 := Aside0.mk hG3; have BP3 := Aside0.mk (grown_blk BP.out hgr3 hne); have BS3 := Aside0.mk (grown_blk BS.out hgr3 hTG); have GW3 := Aside0.mk (gtrans GW.out hgr3); have B3' := Aside0.mk (below_gr HB.out GW3.out HG0.out); obtain ⟨dP0, dP1, dP2⟩ := cells3 BP3.out; obtain ⟨dS0, dS1, dS2, dS3, dS4⟩ := cells5 BS3.out; clear hG3 hgr3)
                    | (go_at_call 101; (with_reducible refine (ih'.out k2 (by omega) a0 _ _ l1 _ _ l2 _ _ (rd_T64 l i).f4 (wrap64 (deep + 1)) s4 n4 G false s5 n5 w0 _ HR1.out HC1.out HR2.out HC2.out QR4.out QL4.out B3'.out HG0.out BG3.out A4.out).mono ?_); rintro e w4 ⟨rfl, hG4, hgr4⟩))
                  go_ret
                  exact ⟨rfl, hG4, gtrans GW3.out hgr4⟩
                have H' := Aside0.mk H
                clear H
                go_wp2_with (first
                  | (go_at_call 101; (with_reducible refine (ih'.out k2 (by omega) a0 _ _ l1 _ _ l2 _ _ (rd_T64 l i).f3 (wrap64 (deep + 1)) s3 n3 G true s4 n4 w0 _ HR1.out HC1.out HR2.out HC2.out QR3.out QL3.out B0.out HG0.out BG.out A3.out).mono ?_); rintro e w3 ⟨rfl, hG3, hgr3⟩; have BG3 := Aside0.mk hG3; have BP3 := Aside0.mk (grown_blk BP.out hgr3 hne); have BS3 := Aside0.mk (grown_blk BS.out hgr3 hTG); have GW3 := Aside0.mk (gtrans GW.out hgr3); have B3' := Aside0.mk (below_gr HB.out GW3.out HG0.out); obtain ⟨dP0, dP1, dP2⟩ := cells3 BP3.out; obtain ⟨dS0, dS1, dS2, dS3, dS4⟩ := cells5 BS3.out; clear hG3 hgr3)
                  | (go_at_call 101; (with_reducible refine (ih'.out k2 (by omega) a0 _ _ l1 _ _ l2 _ _ (rd_T64 l i).f4 (wrap64 (deep + 1)) s4 n4 G true s5 n5 w0 _ HR1.out HC1.out HR2.out HC2.out QR4.out QL4.out B3'.out HG0.out BG3.out A4.out).mono ?_); rintro e w4 ⟨rfl, hG4, hgr4⟩))
                go_roundg k2
                case measure => omega
                case rel => exact ⟨_, s5, n5, rfl, H', ⟨by omega⟩, ⟨hG4⟩, ⟨grown_blk BP3.out hgr4 hne⟩, ⟨gtrans GW3.out hgr4⟩⟩
              have H2 := ite_b H
              clear H
              rcases H2 with ⟨t4, H⟩ | ⟨t4, H⟩
              case inr => exact absurd H (by simp)
              have p2 : 0 ≤ j := of_decide_eq_true t4
              have p3 : j < ((rd_T64 l i).f2.length : Int) := of_decide_eq_true t3
              obtain ⟨ae, D3, d3, e2, u0, u1, u2, u3, ul, ur⟩ := at_T28 QR2.out j p2 p3
              cases e2
              replace u0 := (B0.out.cell (World.block_lt_of_cell? w0 _ u0)).trans u0
              replace u1 := (B0.out.cell (World.block_lt_of_cell? w0 _ u1)).trans u1
              replace u2 := (B0.out.cell (World.block_lt_of_cell? w0 _ u2)).trans u2
              replace u3 := (B0.out.cell (World.block_lt_of_cell? w0 _ u3)).trans u3
              have UL := Aside0.mk ul
              have UR := Aside0.mk ur
              clear ul ur
              replace H := Option.bind_eq_some_iff.mp H
              obtain ⟨tc, AC0, H⟩ := H
              have AC := Aside0.mk AC0
              clear AC0
              have hf0 := blk_frozen BG.out 0
              have hf1 := blk_frozen BG.out 1
              by_cases htc : tc = 0
              case neg =>
                rw [if_neg htc] at H
                injection (Option.some.inj H) with e1 e2
                injection e2 with e2 e3
                subst e1 e2 e3
                clear H
                have g1 : (tc == 0) = false := beq_eq_false_iff_ne.mpr htc
                have g2 : (tc != 0) = true := bne_iff_ne.mpr htc
                clear htc
                go_wp2_with (first | (go_at_call 47; (with_reducible refine (expr_Check.calls k2 a0 _ _ l1 1 _ _ _ _ _ (rd_T28 (rd_T64 l i).f2 j).f3 tc _ ?s1 HC1.out ?s2 UL.out AC.out).mono ?_); (case s1 => exact Kd.C_below HR1.out (by repeat (first | exact B0.out | apply bal | apply below_drew))); (case s2 => exact Kd.C_below UR.out (by repeat (first | exact B0.out | apply bal | apply below_drew))); rintro e w5 ⟨rfl, hb5⟩))
                go_ret
                exact ⟨rfl, fine_end (gtrans GW.out (World.grownBy_alloc _ _ _)) (kal BG.out _) hb5⟩
              subst htc
              rw [if_pos rfl] at H
              replace H := Option.bind_eq_some_iff.mp H
              obtain ⟨m, AM0, H⟩ := H
              have AM := Aside0.mk AM0
              have H' := Aside0.mk H
              clear AM0 H
              go_wp2_with (first | (go_at_call 47; (with_reducible refine (expr_Check.calls k2 a0 _ _ l1 1 _ _ _ _ _ (rd_T28 (rd_T64 l i).f2 j).f3 0 _ ?s1 HC1.out ?s2 UL.out AC.out).mono ?_); (case s1 => exact Kd.C_below HR1.out (by repeat (first | exact B0.out | apply bal | apply below_drew))); (case s2 => exact Kd.C_below UR.out (by repeat (first | exact B0.out | apply bal | apply below_drew))); rintro e w5 ⟨rfl, hb5⟩))
              have F5 := fine_end (gtrans GW.out (World.grownBy_alloc _ _ _)) (kal BG.out _) hb5
              have BG5 := Aside0.mk F5.1
              have GW5 := Aside0.mk F5.2
              have BP5 := Aside0.mk ((hb5.block _ (by simp; omega)).trans (kal BP.out _))
              have BS5 := Aside0.mk ((hb5.block _ (by simp; omega)).trans (kal BS.out _))
              have BE5 := (hb5.block wr.heap.size (by simp)).trans (heap_alloc_new _ _)
              have B5 := Aside0.mk (below_gr HB.out GW5.out HG0.out)
              have e0 : w5.cell? ⟨wr.heap.size, 0, none⟩ = some (.int .i64 (rd_T28 (rd_T64 l i).f2 j).f0) := (blk_cell BE5 0).trans rfl
              have e1 : w5.cell? ⟨wr.heap.size, 1, none⟩ = some (.int .i64 (rd_T28 (rd_T64 l i).f2 j).f1) := (blk_cell BE5 1).trans rfl
              have e2 : w5.cell? ⟨wr.heap.size, 2, none⟩ = some (.int .i64 (rd_T28 (rd_T64 l i).f2 j).f2) := (blk_cell BE5 2).trans rfl
              have e3 : w5.cell? ⟨wr.heap.size, 3, none⟩ = some (.slice D3 (rd_T28 (rd_T64 l i).f2 j).f3.length d3) := (blk_cell BE5 3).trans rfl
              obtain ⟨gG0, gG1⟩ := cells2 (fr := (0, 0)) BG5.out
              have gf1 := blk_frozen BG5.out 1
              have hEG : wr.heap.size ≠ G := by omega
              have hGl5 := blk_lt BG5.out
              clear F5 hb5 BE5 u0 u1 u2 u3 cG0 cG1 cP0 cP1 cP2 cS0 cS1 cS2 cS3 cS4 hf0 hf1 AC
              go_region_with
                (first | (go_at_call 119; (with_reducible refine (expr_Nodes.calls k2 _ _ _ _ _ (rd_T28 (rd_T64 l i).f2 j).f3 m _ ?s1 UL.out AM.out).mono ?_); (case s1 => exact Kd.C_below UR.out (by repeat (first | exact B5.out | apply below_drew))); rintro e w' ⟨rfl, hb⟩; have gG1' := pw_cell_below hb (show w5.drew.cell? _ = _ from gG1); have gf1' : w'.frozen? ⟨G, 1, none⟩ = false := (hb.frozen (p := ⟨G, 1, none⟩) hGl5).trans gf1; have hb' := Aside0.mk (undrew hb)))
              all_goals
                go_wp2
                go_roundg k2
                case measure => omega
                case rel =>
                  have E6 := fine_end GW5.out BG5.out hb'.out
                  have BP6 := (hb'.out.block _ (blk_lt BP5.out)).trans BP5.out
                  have BS6 := (hb'.out.block _ (blk_lt BS5.out)).trans BS5.out
                  have q1 := blk_set E6.1 1 (.int .i64 (wrap64 (n3 + m)))
                  refine ⟨_, s3, _, rfl, H', ⟨by omega⟩, ⟨?_⟩, ⟨(Below.heap_setCell _ _ _ _ hne).trans BP6⟩, ⟨(Below.heap_setCell _ _ _ _ hTG).trans BS6⟩, ⟨gtrans E6.2 ⟨rfl, rfl, rfl, by simp [World.setCell], fun i hi hn => Below.heap_setCell _ _ _ _ (fun e => hn (by rw [e]))⟩⟩⟩
                  first | simpa using q1 | simpa [i64_w] using q1
def prog_counted.f (k : Nat) (a0 : Int) (l1 : List S66) (l2 : List S64) : Option (Int × Int × Bool) :=
  (expr_Heading.f k a0 l1).bind fun t => if t = 0 then ((prog_count_fine.f k a0 l1 l2 l2 1 0 0).bind fun p => if p.1 = true then some (p.2.1, p.2.2, true) else some (0, 0, false)) else some (0, 0, false)
theorem two_blocks {w w1 : World} {o1 o2 : Obj} (hb : Below ((w.alloc o1).alloc o2).heap.size ((w.alloc o1).alloc o2) w1) :
    w1.heap[w.heap.size]? = some o1 ∧ w1.heap[w.heap.size + 1]? = some o2 ∧ Below w.heap.size w w1 := by
  have b1 : ((w.alloc o1).alloc o2).heap[w.heap.size]? = some o1 := kal (heap_alloc_new w _) _
  have b2 : ((w.alloc o1).alloc o2).heap[w.heap.size + 1]? = some o2 := by have := heap_alloc_new (w.alloc o1) o2; simpa using this
  exact ⟨(hb.block _ (blk_lt b1)).trans b1, (hb.block _ (blk_lt b2)).trans b2, below_then (bal (bal (Below.refl _ _) _) _) (by simp; omega) hb⟩
set_option maxHeartbeats 8000000 in
set_option maxRecDepth 100000 in
theorem prog_counted.calls (k : Nat) (a0 : Int) (A1 : Option Addr) (c1 : Nat) (l1 : List S66) (A2 : Option Addr) (c2 : Nat) (l2 : List S64) (r1 r2 : Int) (r3 : Bool) (w : World)
    (hr1 : Kd.C k66 w A1 l1.length l1) (hc1 : l1.length ≤ c1) (hr2 : Kd.C k64 w A2 l2.length l2) (hc2 : l2.length ≤ c2) (h : prog_counted.f k a0 l1 l2 = some (r1, r2, r3)) :
    Calls Try.prog 78 #[.agg #[.int .i64 a0, .slice A1 l1.length c1, .slice A2 l2.length c2]] w fun e w' => e = .returned (.tuple #[.agg #[.int .i64 r1, .int .i64 r2], .bool r3]) ∧ Below w.heap.size w w' := by
  have huP := Try.underlying25
  have huC := Try.underlying101
  have HR1 := Aside0.mk hr1
  have HC1 := Aside0.mk hc1
  have HR2 := Aside0.mk hr2
  have HC2 := Aside0.mk hc2
  clear hr1 hc1 hr2 hc2
  unfold prog_counted.f at h
  obtain ⟨t, T0, H⟩ := Option.bind_eq_some_iff.mp h
  have T := Aside0.mk T0
  have HB := Aside0.mk (Below.refl w.heap.size w)
  clear T0 h
  by_cases ht : t = 0
  case neg =>
    rw [if_neg ht] at H
    injection (Option.some.inj H) with e1 e2
    injection e2 with e2 e3
    subst e1 e2 e3
    have g1 : (t == 0) = false := beq_eq_false_iff_ne.mpr ht
    have g2 : (t != 0) = true := bne_iff_ne.mpr ht
    clear ht H
    go_enter Try.func78, Try.ntmps78
    go_wp2_with (first
      | (go_at_call 46; (with_reducible refine (expr_Heading.calls k a0 _ _ l1 _ _ ?side1 HC1.out T.out).mono ?_); (case side1 => exact Kd.C_below HR1.out (by repeat (first | exact HB.out | apply bal | apply bd1))); rintro e w1 ⟨rfl, hb⟩; obtain ⟨k1, k2, hb1⟩ := two_blocks hb; have B1 := Aside0.mk hb1; have BC := Aside0.mk k2; obtain ⟨x0, x1⟩ := cells2 (fr := (0, 0)) k2; have y0 := blk_frozen k2 0; have y1 := blk_frozen k2 1; have z1 := blk_lt k2; clear hb hb1 k1 k2))
    refine bodyPost_ret (v := .tuple #[.agg #[.int .i64 0, .int .i64 0], .bool false]) (by simp [results, Try.results78, go_sem, x0, x1]) rfl ⟨rfl, ?_⟩
    repeat (first | exact B1.out | refine bst ?_ (by omega))
  subst ht
  rw [if_pos rfl] at H
  obtain ⟨⟨q, s', n'⟩, F0, H⟩ := Option.bind_eq_some_iff.mp H
  have F := Aside0.mk F0
  clear F0
  have H2 := ite_t (t := q) H
  clear H
  rcases H2 with ⟨rfl, H⟩ | ⟨rfl, H⟩
  · injection (Option.some.inj H) with e1 e2
    injection e2 with e2 e3
    dsimp only at e1 e2
    subst e1 e2 e3
    clear H
    go_enter Try.func78, Try.ntmps78
    go_wp2_with (first | (go_at_call 46; (with_reducible refine (expr_Heading.calls k a0 _ _ l1 _ _ ?side1 HC1.out T.out).mono ?_); (case side1 => exact Kd.C_below HR1.out (by repeat (first | exact HB.out | apply bal | apply bd1))); rintro e w1 ⟨rfl, hb⟩; obtain ⟨k1, k2, hb1⟩ := two_blocks hb; have B1 := Aside0.mk hb1; have BC := Aside0.mk k2; have BP := Aside0.mk k1; obtain ⟨x0, x1⟩ := cells2 (fr := (0, 0)) k2; obtain ⟨u0, u1, u2⟩ := cells3 k1; have y0 := blk_frozen k2 0; have y1 := blk_frozen k2 1; have z1 := blk_lt k2; clear hb hb1 k1 k2) | (go_at_call 101; (with_reducible refine (prog_count_fine.calls k a0 _ _ l1 _ _ l2 _ _ l2 1 0 0 (w.heap.size + 1) true s' n' w _ HR1.out HC1.out HR2.out HC2.out HR2.out HC2.out B1.out (by omega) BC.out F.out).mono ?_); rintro e w2 ⟨rfl, hG2, hgr2⟩; have B2 := Aside0.mk (below_gr B1.out hgr2 (by omega)); have BC2 := Aside0.mk hG2; obtain ⟨v0, v1⟩ := cells2 (fr := (0, 0)) hG2; have f0 := blk_frozen hG2 0; have f1 := blk_frozen hG2 1; have z2 := blk_lt hG2; clear hG2 hgr2))
    refine bodyPost_ret (v := .tuple #[.agg #[.int .i64 s', .int .i64 n'], .bool true]) (by simp [results, Try.results78, go_sem, v0, v1]) rfl ⟨rfl, ?_⟩
    repeat (first | exact B2.out | refine bst ?_ (by omega))
  · injection (Option.some.inj H) with e1 e2
    injection e2 with e2 e3
    subst e1 e2 e3
    clear H
    go_enter Try.func78, Try.ntmps78
    go_wp2_with (first | (go_at_call 46; (with_reducible refine (expr_Heading.calls k a0 _ _ l1 _ _ ?side1 HC1.out T.out).mono ?_); (case side1 => exact Kd.C_below HR1.out (by repeat (first | exact HB.out | apply bal | apply bd1))); rintro e w1 ⟨rfl, hb⟩; obtain ⟨k1, k2, hb1⟩ := two_blocks hb; have B1 := Aside0.mk hb1; have BC := Aside0.mk k2; have BP := Aside0.mk k1; obtain ⟨x0, x1⟩ := cells2 (fr := (0, 0)) k2; obtain ⟨u0, u1, u2⟩ := cells3 k1; have y0 := blk_frozen k2 0; have y1 := blk_frozen k2 1; have z1 := blk_lt k2; clear hb hb1 k1 k2) | (go_at_call 101; (with_reducible refine (prog_count_fine.calls k a0 _ _ l1 _ _ l2 _ _ l2 1 0 0 (w.heap.size + 1) false s' n' w _ HR1.out HC1.out HR2.out HC2.out HR2.out HC2.out B1.out (by omega) BC.out F.out).mono ?_); rintro e w2 ⟨rfl, hG2, hgr2⟩; have B2 := Aside0.mk (below_gr B1.out hgr2 (by omega)); have BC2 := Aside0.mk hG2; obtain ⟨v0, v1⟩ := cells2 (fr := (0, 0)) hG2; have f0 := blk_frozen hG2 0; have f1 := blk_frozen hG2 1; have z2 := blk_lt hG2; clear hG2 hgr2))
    refine bodyPost_ret (v := .tuple #[.agg #[.int .i64 0, .int .i64 0], .bool false]) (by simp [results, Try.results78, go_sem, v0, v1]) rfl ⟨rfl, ?_⟩
    repeat (first | exact B2.out | refine bst ?_ (by omega))
def prog_Check.f (k : Nat) (a0_0 : Int) (l0_1 : List (S66)) (l0_2 : List (S64)) : Option (Int) := (prog_counted.f k a0_0 l0_1 l0_2).bind fun bt140 => (if bt140.2.2 = true then (some 0) else (some 30))
set_option maxHeartbeats 8000000 in
set_option maxRecDepth 100000 in
theorem prog_Check.calls (k : Nat) (a0_0 : Int) (A0_1 : Option Addr) (c0_1 : Nat) (l0_1 : List (S66)) (A0_2 : Option Addr) (c0_2 : Nat) (l0_2 : List (S64)) (r : Int) (w : World) (hr0_1 : Kd.C k66 w A0_1 l0_1.length l0_1) (hc0_1 : l0_1.length ≤ c0_1) (hr0_2 : Kd.C k64 w A0_2 l0_2.length l0_2) (hc0_2 : l0_2.length ≤ c0_2) (h : prog_Check.f k a0_0 l0_1 l0_2 = some r) :
  Calls Try.prog 43 #[.agg #[.int .i64 a0_0, .slice A0_1 l0_1.length c0_1, .slice A0_2 l0_2.length c0_2]] w fun e w' => e = .returned (.int .i64 r) ∧ Below w.heap.size w w' := by
 have hu25 := Try.underlying25
 have hu101 := Try.underlying101
 have HR0_1 := Aside0.mk hr0_1
 have HC0_1 := Aside0.mk hc0_1
 clear hr0_1 hc0_1
 have HR0_2 := Aside0.mk hr0_2
 have HC0_2 := Aside0.mk hc0_2
 clear hr0_2 hc0_2
 have HB := Aside0.mk (Below.refl w.heap.size w)
 have H : ((prog_counted.f k a0_0 l0_1 l0_2).bind fun bt140 => (if bt140.2.2 = true then (some 0) else (some 30))) = some r := h
 clear h
 replace H := Option.bind_eq_some_iff.mp H
 obtain ⟨⟨t140, t141, t142⟩, A20, H⟩ := H
 replace H : (if t142 = true then (some 0) else (some 30)) = some r := H
 have A2 := Aside0.mk A20
 clear A20
 by_cases c3 : t142 = true
 ·subst c3
  have H1 : (some 0) = some r := by rw [if_pos rfl] at H; exact H
  clear H
  have H := H1
  clear H1
  obtain rfl := Option.some.inj H
  go_enter Try.func43, Try.ntmps43
  go_wp2_with (first | ((with_reducible refine gate_dst (N := 1) rfl ?_); refine box_event ?hg (N := 1) ?hd (cs := #[.int .i64 a0_0, .slice A0_1 l0_1.length c0_1, .slice A0_2 l0_2.length c0_2]) (t := 25) ?hr ?_; (case hd => rfl); (case hg => rfl); (case hr => first | (go_simp; done) | (go_simp; rfl)); intro gb139 hg w4 hbox hb; have n0_ := Aside0.mk (bsp (by repeat (first | (with_reducible first | exact HB.out | apply bal | apply bdN | apply bd1) | exact HB.out)) hb); have n1_ := Aside0.mk (hbox); have n2_ := Aside0.mk ((by rw [hg]; exact (bsz (by repeat (first | (with_reducible first | exact HB.out | apply bal | apply bdN | apply bd1) | exact HB.out))) : w.heap.size ≤ gb139)); have n3_ := Aside0.mk ((by rw [hg]; exact (bsz (by repeat (first | (with_reducible first | exact HB.out | apply bal | apply bdN | apply bd1) | exact HB.out))) : w.heap.size ≤ gb139)); clear HB; have HB := n0_; have BK139 := n1_; have GW139 := n2_; have GE139 := n3_; clear n0_ n1_ n2_ n3_; clear hb hbox hg; obtain ⟨hcz5_0, hcz5_1, hcz5_2, hfz5_0, hfz5_1, hfz5_2⟩ := cf3 BK139.out) | ((with_reducible refine gate_callee (f := 78) rfl ?_); refine goesL_ (some 7) rfl rfl Try.func78 (by kernel_rfl) rfl #[.agg #[.int .i64 a0_0, .slice A0_1 l0_1.length c0_1, .slice A0_2 l0_2.length c0_2]] rfl (by (try simp only [List.map_toArray, List.map_cons, List.map_nil]); first | done | rfl | (simp only [List.length_drop, List.length_take]; rfl)) ?_; (with_reducible refine (prog_counted.calls k a0_0 _ _ l0_1 _ _ l0_2 t140 t141 true _ ?side1 ?side2 ?side3 ?side4 A2.out).mono ?_); (case side1 => repeat (first | exact (Kd.C_below HR0_1.out HB.out) | with_reducible first | apply Kd.C_alloc | apply Kd.C_drewN | apply Kd.C_drew)); (case side2 => exact HC0_1.out); (case side3 => repeat (first | exact (Kd.C_below HR0_2.out HB.out) | with_reducible first | apply Kd.C_alloc | apply Kd.C_drewN | apply Kd.C_drew)); (case side4 => exact HC0_2.out); rintro e w6 ⟨rfl, hb⟩; refine ⟨_, rfl, ?_⟩; have n0_ := Aside0.mk (blk_below (g := gb139) (o := .cells #[.int .i64 a0_0, .slice A0_1 l0_1.length c0_1, .slice A0_2 l0_2.length c0_2] 25 (0, 0)) (by (with_reducible repeat (first | refine kdN ?_ _ | refine kdr ?_ | refine kal ?_ _)); exact BK139.out) hb); have n1_ := Aside0.mk (bsp (by repeat (first | (with_reducible first | exact HB.out | apply bal | apply bdN | apply bd1 | refine bst ?_ GE139.out) | exact HB.out)) hb); clear BK139; clear HB; have BK139 := n0_; have HB := n1_; clear n0_ n1_; (try clear hb); (try clear hb2); (try clear hk); (try clear hi)) | ((with_reducible refine gate_dst (N := 3) rfl ?_); refine box_event ?hg (N := 3) ?hd (cs := #[.int .i64 0, .int .i64 0]) (t := 101) ?hr ?_; (case hd => rfl); (case hg => rfl); (case hr => first | (go_simp; done) | (go_simp; rfl)); intro gb143 hg w7 hbox hb; have n0_ := Aside0.mk (blk_below (g := gb139) (o := .cells #[.int .i64 a0_0, .slice A0_1 l0_1.length c0_1, .slice A0_2 l0_2.length c0_2] 25 (0, 0)) (by (with_reducible repeat (first | refine kdN ?_ _ | refine kdr ?_ | refine kal ?_ _)); exact BK139.out) hb); have n1_ := Aside0.mk (bsp (by repeat (first | (with_reducible first | exact HB.out | apply bal | apply bdN | apply bd1 | refine bst ?_ GE139.out) | exact HB.out)) hb); have n2_ := Aside0.mk (hbox); have n3_ := Aside0.mk ((by rw [hg]; exact (bsz (by repeat (first | (with_reducible first | exact HB.out | apply bal | apply bdN | apply bd1 | refine bst ?_ GE139.out) | exact HB.out))) : w.heap.size ≤ gb143)); have n4_ := Aside0.mk ((by rw [hg]; exact (bsz (by repeat (first | (with_reducible first | exact HB.out | apply bal | apply bdN | apply bd1 | refine bst ?_ GE139.out) | exact HB.out))) : w.heap.size ≤ gb143)); have n5_ := Aside0.mk ((by rw [hg]; exact Nat.ne_of_lt (blk_lt (g := gb139) (o := .cells #[.int .i64 a0_0, .slice A0_1 l0_1.length c0_1, .slice A0_2 l0_2.length c0_2] 25 (0, 0)) (by (with_reducible repeat (first | refine kdN ?_ _ | refine kdr ?_ | refine kal ?_ _)); exact BK139.out)) : gb139 ≠ gb143)); have n6_ := Aside0.mk ((by rw [hg]; exact Nat.ne_of_gt (blk_lt (g := gb139) (o := .cells #[.int .i64 a0_0, .slice A0_1 l0_1.length c0_1, .slice A0_2 l0_2.length c0_2] 25 (0, 0)) (by (with_reducible repeat (first | refine kdN ?_ _ | refine kdr ?_ | refine kal ?_ _)); exact BK139.out)) : gb143 ≠ gb139)); clear BK139; clear HB; have BK139 := n0_; have HB := n1_; have BK143 := n2_; have GW143 := n3_; have GE143 := n4_; have NB139_143 := n5_; have NB143_139 := n6_; clear n0_ n1_ n2_ n3_ n4_ n5_ n6_; clear hb hbox hg; have hnb8 := NB143_139.out; have hnc8 := NB139_143.out; obtain ⟨hcz9_0, hcz9_1, hfz9_0, hfz9_1⟩ := cf2 BK143.out))
  go_ret
  exact ⟨by first | rfl | (simp [*] <;> rfl), by repeat (first | (with_reducible first | exact HB.out | apply bal | apply bdN | apply bd1 | refine bst ?_ GE139.out | refine bst ?_ GE143.out) | exact HB.out)⟩
 ·replace c3 := Bool.eq_false_iff.mpr c3
  subst c3
  have H1 : (some 30) = some r := by rw [if_neg (show ¬ (false = true) by decide)] at H; exact H
  clear H
  have H := H1
  clear H1
  obtain rfl := Option.some.inj H
  go_enter Try.func43, Try.ntmps43
  go_wp2_with (first | ((with_reducible refine gate_dst (N := 1) rfl ?_); refine box_event ?hg (N := 1) ?hd (cs := #[.int .i64 a0_0, .slice A0_1 l0_1.length c0_1, .slice A0_2 l0_2.length c0_2]) (t := 25) ?hr ?_; (case hd => rfl); (case hg => rfl); (case hr => first | (go_simp; done) | (go_simp; rfl)); intro gb139 hg w10 hbox hb; have n0_ := Aside0.mk (bsp (by repeat (first | (with_reducible first | exact HB.out | apply bal | apply bdN | apply bd1) | exact HB.out)) hb); have n1_ := Aside0.mk (hbox); have n2_ := Aside0.mk ((by rw [hg]; exact (bsz (by repeat (first | (with_reducible first | exact HB.out | apply bal | apply bdN | apply bd1) | exact HB.out))) : w.heap.size ≤ gb139)); have n3_ := Aside0.mk ((by rw [hg]; exact (bsz (by repeat (first | (with_reducible first | exact HB.out | apply bal | apply bdN | apply bd1) | exact HB.out))) : w.heap.size ≤ gb139)); clear HB; have HB := n0_; have BK139 := n1_; have GW139 := n2_; have GE139 := n3_; clear n0_ n1_ n2_ n3_; clear hb hbox hg; obtain ⟨hcz11_0, hcz11_1, hcz11_2, hfz11_0, hfz11_1, hfz11_2⟩ := cf3 BK139.out) | ((with_reducible refine gate_callee (f := 78) rfl ?_); refine goesL_ (some 7) rfl rfl Try.func78 (by kernel_rfl) rfl #[.agg #[.int .i64 a0_0, .slice A0_1 l0_1.length c0_1, .slice A0_2 l0_2.length c0_2]] rfl (by (try simp only [List.map_toArray, List.map_cons, List.map_nil]); first | done | rfl | (simp only [List.length_drop, List.length_take]; rfl)) ?_; (with_reducible refine (prog_counted.calls k a0_0 _ _ l0_1 _ _ l0_2 t140 t141 false _ ?side1 ?side2 ?side3 ?side4 A2.out).mono ?_); (case side1 => repeat (first | exact (Kd.C_below HR0_1.out HB.out) | with_reducible first | apply Kd.C_alloc | apply Kd.C_drewN | apply Kd.C_drew)); (case side2 => exact HC0_1.out); (case side3 => repeat (first | exact (Kd.C_below HR0_2.out HB.out) | with_reducible first | apply Kd.C_alloc | apply Kd.C_drewN | apply Kd.C_drew)); (case side4 => exact HC0_2.out); rintro e w12 ⟨rfl, hb⟩; refine ⟨_, rfl, ?_⟩; have n0_ := Aside0.mk (blk_below (g := gb139) (o := .cells #[.int .i64 a0_0, .slice A0_1 l0_1.length c0_1, .slice A0_2 l0_2.length c0_2] 25 (0, 0)) (by (with_reducible repeat (first | refine kdN ?_ _ | refine kdr ?_ | refine kal ?_ _)); exact BK139.out) hb); have n1_ := Aside0.mk (bsp (by repeat (first | (with_reducible first | exact HB.out | apply bal | apply bdN | apply bd1 | refine bst ?_ GE139.out) | exact HB.out)) hb); clear BK139; clear HB; have BK139 := n0_; have HB := n1_; clear n0_ n1_; (try clear hb); (try clear hb2); (try clear hk); (try clear hi)) | ((with_reducible refine gate_dst (N := 3) rfl ?_); refine box_event ?hg (N := 3) ?hd (cs := #[.int .i64 0, .int .i64 0]) (t := 101) ?hr ?_; (case hd => rfl); (case hg => rfl); (case hr => first | (go_simp; done) | (go_simp; rfl)); intro gb143 hg w13 hbox hb; have n0_ := Aside0.mk (blk_below (g := gb139) (o := .cells #[.int .i64 a0_0, .slice A0_1 l0_1.length c0_1, .slice A0_2 l0_2.length c0_2] 25 (0, 0)) (by (with_reducible repeat (first | refine kdN ?_ _ | refine kdr ?_ | refine kal ?_ _)); exact BK139.out) hb); have n1_ := Aside0.mk (bsp (by repeat (first | (with_reducible first | exact HB.out | apply bal | apply bdN | apply bd1 | refine bst ?_ GE139.out) | exact HB.out)) hb); have n2_ := Aside0.mk (hbox); have n3_ := Aside0.mk ((by rw [hg]; exact (bsz (by repeat (first | (with_reducible first | exact HB.out | apply bal | apply bdN | apply bd1 | refine bst ?_ GE139.out) | exact HB.out))) : w.heap.size ≤ gb143)); have n4_ := Aside0.mk ((by rw [hg]; exact (bsz (by repeat (first | (with_reducible first | exact HB.out | apply bal | apply bdN | apply bd1 | refine bst ?_ GE139.out) | exact HB.out))) : w.heap.size ≤ gb143)); have n5_ := Aside0.mk ((by rw [hg]; exact Nat.ne_of_lt (blk_lt (g := gb139) (o := .cells #[.int .i64 a0_0, .slice A0_1 l0_1.length c0_1, .slice A0_2 l0_2.length c0_2] 25 (0, 0)) (by (with_reducible repeat (first | refine kdN ?_ _ | refine kdr ?_ | refine kal ?_ _)); exact BK139.out)) : gb139 ≠ gb143)); have n6_ := Aside0.mk ((by rw [hg]; exact Nat.ne_of_gt (blk_lt (g := gb139) (o := .cells #[.int .i64 a0_0, .slice A0_1 l0_1.length c0_1, .slice A0_2 l0_2.length c0_2] 25 (0, 0)) (by (with_reducible repeat (first | refine kdN ?_ _ | refine kdr ?_ | refine kal ?_ _)); exact BK139.out)) : gb143 ≠ gb139)); clear BK139; clear HB; have BK139 := n0_; have HB := n1_; have BK143 := n2_; have GW143 := n3_; have GE143 := n4_; have NB139_143 := n5_; have NB143_139 := n6_; clear n0_ n1_ n2_ n3_ n4_ n5_ n6_; clear hb hbox hg; have hnb14 := NB143_139.out; have hnc14 := NB139_143.out; obtain ⟨hcz15_0, hcz15_1, hfz15_0, hfz15_1⟩ := cf2 BK143.out))
  go_ret
  exact ⟨by first | rfl | (simp [*] <;> rfl), by repeat (first | (with_reducible first | exact HB.out | apply bal | apply bdN | apply bd1 | refine bst ?_ GE139.out | refine bst ?_ GE143.out) | exact HB.out)⟩
mutual
def prod_Told.j0 : Nat → List (S74) → Int → Bool → Option ((List (S74)))
 | 0, _, _, _ => none
 | k + 1, x0, x1, x13 => if x13 = true then (some ([] : List (S74))) else (prod_Told.l0 k x1 ([] : List (S74)) x0 (x0.length : Int) 0)
def prod_Told.l0 : Nat → Int → List (S74) → List (S74) → Int → Int → Option ((List (S74)))
 | 0, _, _, _, _, _ => none
 | k + 1, x1, x5, x14, x15, x16 => if x16 < x15 then (if 0 ≤ x16 then (if x16 < (x14.length : Int) then (if ((rd_T74 x14 x16).f0) ≥ (wrap64 (16 * x1)) then (if ((rd_T74 x14 x16).f0) ≤ (wrap64 ((wrap64 (16 * x1)) + 15)) then (if x5.length < 8796093022208 then (prod_Told.l0 k x1 (x5 ++ [(⟨wrap64 (((rd_T74 x14 x16).f0) - (wrap64 (16 * x1))), (rd_T74 x14 x16).f1⟩ : S74)]) x14 x15 (wrap64 (x16 + 1))) else (none)) else (prod_Told.l0 k x1 x5 x14 x15 (wrap64 (x16 + 1)))) else (prod_Told.l0 k x1 x5 x14 x15 (wrap64 (x16 + 1)))) else (none)) else (none)) else (some x5)
end
def prod_Told.f (k : Nat) (l0 : List (S74)) (a1 : Int) : Option ((List (S74))) := if a1 < 0 then (prod_Told.j0 k l0 a1 true) else (prod_Told.j0 k l0 a1 (decide (a1 ≥ 3)))
set_option maxHeartbeats 8000000 in
set_option maxRecDepth 100000 in
theorem prod_Told.calls (k : Nat) (A0 : Option Addr) (c0 : Nat) (l0 : List (S74)) (a1 : Int) (r : List (S74)) (w : World) (hr0 : Kd.C k74 w A0 l0.length l0) (hc0 : l0.length ≤ c0) (h : prod_Told.f k l0 a1 = some r) :
  Calls Try.prog 16 #[.slice A0 l0.length c0, .int .i64 a1] w fun e w' => ∃ v0_ : Value, e = .returned (v0_) ∧ Kd.R k74 74 w' w.heap.size (fun _ => True) v0_ r ∧ Below w.heap.size w w' := by
 have hu74 := Try.underlying74
 have HR0 := Aside0.mk hr0
 have HC0 := Aside0.mk hc0
 clear hr0 hc0
 have HB := Aside0.mk (Below.refl w.heap.size w)
 have H : (if a1 < 0 then (prod_Told.j0 k l0 a1 true) else (prod_Told.j0 k l0 a1 (decide (a1 ≥ 3)))) = some r := h
 clear h
 have HC3 := Aside0.mk H
 clear H
 go_enter Try.func16, Try.ntmps16
 go_upto_region 1 with (fail)
 go_cut [13] (fun v13 wc => ∃ (kq : Nat) (x13_2 : Bool), v13 = .bool x13_2 ∧ Aside0 (prod_Told.j0 kq l0 a1 x13_2 = some r) ∧ Aside0 (kq ≤ k) ∧ Aside0 (Below w.heap.size w wc))
 case first =>
  have H := HC3.out
  clear HC3
  by_cases c4 : a1 < 0
  ·rw [if_pos c4] at H
   have c4b0 : decide (a1 < 0) = true := decide_eq_true c4
   clear c4
   (first | rw [c4b0] | (simp only [i64_w, i32_w]; rw [c4b0]) | skip)
   have H' := Aside0.mk H
   clear H
   go_wp2
   go_meet
   case rel => exact ⟨_, (true), (by first | rfl | (simp; done) | (simp [*]; done)), H', ⟨by first | omega | exact Nat.le_refl _⟩, ⟨by repeat (first | (with_reducible first | exact HB.out | apply bal | apply bdN | apply bd1) | exact HB.out)⟩⟩
  ·rw [if_neg c4] at H
   have c4b0 : decide (a1 < 0) = false := decide_eq_false c4
   clear c4
   (first | rw [c4b0] | (simp only [i64_w, i32_w]; rw [c4b0]) | skip)
   have H' := Aside0.mk H
   clear H
   go_wp2
   go_meet
   case rel => exact ⟨_, (decide (a1 ≥ 3)), (by first | rfl | (simp; done) | (simp [*]; done)), H', ⟨by first | omega | exact Nat.le_refl _⟩, ⟨by repeat (first | (with_reducible first | exact HB.out | apply bal | apply bdN | apply bd1) | exact HB.out)⟩⟩
 case rest =>
  clear HC3
  try clear c1
  try clear p2
  try clear c4
  try clear c4b0
  obtain ⟨kq, x13_2, rfl, HA, HJ2, HB⟩ := hcut
  cases kq with
  | zero => exact absurd HA.out (by simp [prod_Told.j0])
  | succ kj2 =>
   have H := HA.out
   clear HA
   simp only [prod_Told.j0] at H
   by_cases c5 : x13_2 = true
   ·subst c5
    have H1 : (some ([] : List (S74))) = some r := by rw [if_pos rfl] at H; exact H
    clear H
    have H := H1
    clear H1
    obtain rfl := Option.some.inj H
    go_wp2
    go_ret
    exact ⟨_, by first | rfl | (simp [*] <;> rfl), by first | exact Kd.R_nil _ _ _ _ _ | exact Kd.N_nil _ _ _ _ _ | exact Kd.V_nil _ _ _ _ _ | exact Kd.Q_nil _ _ _ _ _ | exact Kd.S_nil _ _ _ _ _, by repeat (first | (with_reducible first | exact HB.out | apply bal | apply bdN | apply bd1) | exact HB.out)⟩
   ·replace c5 := Bool.eq_false_iff.mpr c5
    subst c5
    have H1 : (prod_Told.l0 kj2 a1 ([] : List (S74)) l0 (l0.length : Int) 0) = some r := by rw [if_neg (show ¬ (false = true) by decide)] at H; exact H
    clear H
    have H := H1
    clear H1
    have H' := Aside0.mk H
    clear H
    go_wp2
    go_loopg [5, 16] kj2 (fun kq v5 v16 w' => ∃ (x5_2 : List (S74)) (x16_2 : Int), v16 = .int .i64 x16_2 ∧ Aside0 (prod_Told.l0 kq a1 x5_2 l0 (l0.length : Int) x16_2 = some r) ∧ Aside0 (kq ≤ kj2) ∧ Aside0 (Kd.R k74 74 w' w.heap.size (fun _ => True) v5 x5_2) ∧ Aside0 (Below w.heap.size w w'))
    case atStart => exact ⟨(([] : List (S74))), (0), (by first | rfl | (simp; done) | (simp [*]; done)), H', ⟨Nat.le_refl _⟩, ⟨by first | exact Kd.R_nil _ _ _ _ _ | exact Kd.N_nil _ _ _ _ _ | exact Kd.V_nil _ _ _ _ _ | exact Kd.Q_nil _ _ _ _ _ | exact Kd.S_nil _ _ _ _ _⟩, ⟨by repeat (first | (with_reducible first | exact HB.out | apply bal | apply bdN | apply bd1) | exact HB.out)⟩⟩
    case round =>
     clear H'
     try clear c1
     try clear p2
     try clear c4
     try clear c4b0
     try clear c5
     try clear p2
     obtain ⟨x5_2, x16_2, rfl, HA, HK2, HO_5, HB⟩ := hrel
     cases gk with
     | zero => exact absurd HA.out (by simp [prod_Told.l0])
     | succ k2 =>
      have H := HA.out
      clear HA
      simp only [prod_Told.l0] at H
      by_cases c6 : x16_2 < (l0.length : Int)
      ·rw [if_pos c6] at H
       have c6b0 : decide (x16_2 < (l0.length : Int)) = true := decide_eq_true c6
       clear c6
       by_cases c7 : 0 ≤ x16_2
       ·rw [if_pos c7] at H
        have c7b0 : decide (0 ≤ x16_2) = true := decide_eq_true c7
        clear c7
        by_cases c8 : x16_2 < (l0.length : Int)
        ·rw [if_pos c8] at H
         have c8b0 : decide (x16_2 < (l0.length : Int)) = true := decide_eq_true c8
         clear c8
         by_cases c9 : ((rd_T74 l0 x16_2).f0) ≥ (wrap64 (16 * a1))
         ·rw [if_pos c9] at H
          have c9b0 : decide ((wrap64 (16 * a1)) ≤ ((rd_T74 l0 x16_2).f0)) = true := decide_eq_true c9
          clear c9
          by_cases c10 : ((rd_T74 l0 x16_2).f0) ≤ (wrap64 ((wrap64 (16 * a1)) + 15))
          ·rw [if_pos c10] at H
           have c10b0 : decide (((rd_T74 l0 x16_2).f0) ≤ (wrap64 ((wrap64 (16 * a1)) + 15))) = true := decide_eq_true c10
           clear c10
           by_cases c11 : x5_2.length < 8796093022208
           ·rw [if_pos c11] at H
            have LMc11 := Aside0.mk c11
            clear c11
            obtain ⟨y162, hy162⟩ : ∃ y_ : List (S74), y_ = (x5_2 ++ [(⟨wrap64 (((rd_T74 l0 x16_2).f0) - (wrap64 (16 * a1))), (rd_T74 l0 x16_2).f1⟩ : S74)]) := ⟨_, rfl⟩
            replace H : (prod_Told.l0 k2 a1 y162 l0 (l0.length : Int) (wrap64 (x16_2 + 1))) = some r := by first | (rw [hy162]; with_reducible exact H) | (have H2_ := (Option.bind_some _ _).symm.trans H; rw [hy162]; with_reducible exact H2_) | (have H2_ := (Option.bind_some _ _).symm.trans H; with_reducible exact H2_) | with_reducible exact H | (rw [hy162]; exact H) | exact H
            have Ny162 := Aside0.mk hy162
            clear hy162
            have H' := Aside0.mk H
            clear H
            have p160 : 0 ≤ (x16_2 : Int) := of_decide_eq_true (by first | (with_reducible assumption) | assumption)
            have q160 : x16_2 < (l0.length : Int) := of_decide_eq_true (by first | (with_reducible assumption) | assumption)
            obtain ⟨ad160, e160, hx160_0, hx160_1⟩ := at_T74 HR0.out x16_2 p160 q160
            cases e160
            replace hx160_0 := bcell HB.out hx160_0
            replace hx160_1 := bcell HB.out hx160_1
            replace p160 := eq_true p160
            replace q160 := eq_true q160
            go_wp2_with (first | ((with_reducible refine gate_dst (N := 7) rfl ?_); refine box_event ?hg (N := 7) ?hd (cs := #[.int .i64 0, .int .i64 0]) (t := 74) ?hr ?_; (case hd => rfl); (case hg => rfl); (case hr => first | (go_simp; done) | (go_simp; rfl)); intro gb161 hg w12 hbox hb; have n0_ := Aside0.mk (Kd.R_below (Kd.R_elderB (by (with_reducible repeat (first | apply Kd.R_alloc | apply Kd.R_drewN | apply Kd.R_drew)); exact HO_5.out) gb161 (Nat.le_of_eq hg.symm)) hb); have n1_ := Aside0.mk (bsp (by repeat (first | (with_reducible first | exact HB.out | apply bal | apply bdN | apply bd1) | exact HB.out)) hb); have n2_ := Aside0.mk (hbox); have n3_ := Aside0.mk ((by rw [hg]; exact (bsz (by repeat (first | (with_reducible first | exact HB.out | apply bal | apply bdN | apply bd1) | exact HB.out))) : w.heap.size ≤ gb161)); have n4_ := Aside0.mk ((by rw [hg]; exact (bsz (by repeat (first | (with_reducible first | exact HB.out | apply bal | apply bdN | apply bd1) | exact HB.out))) : w.heap.size ≤ gb161)); clear HO_5; clear HB; have HO_5 := n0_; have HB := n1_; have BK161 := n2_; have GW161 := n3_; have GE161 := n4_; clear n0_ n1_ n2_ n3_ n4_; clear hb hbox hg; obtain ⟨hcz13_0, hcz13_1, hfz13_0, hfz13_1⟩ := cf2 BK161.out) | ((with_reducible refine gate_builtin (b := .append) (xs := #[.tmp 33, .tmp 42]) rfl ?_); at_builtin; refine Kd.R_append k74 (w0 := w) w.heap.size rfl (.tmp 33) (.tmp 42) 37 74 (.agg #[(.int .i64 0), (.int .i64 0)]) 16 rfl Try.underlying37 info74 rfl (by decide) (by omega) u5 x5_2 (⟨wrap64 (((rd_T74 l0 x16_2).f0) - (wrap64 (16 * a1))), (rd_T74 l0 x16_2).f1⟩ : S74) [.int .i64 (wrap64 (((rd_T74 l0 x16_2).f0) - (wrap64 (16 * a1)))), .int .i64 ((rd_T74 l0 x16_2).f1)] (fun k_ => k_ ≠ gb161) (fun _ => False) rfl (by first | (go_simp; done) | (go_simp; rfl)) ?aP (fun _ hk => hk.elim) ?aF ?aO ?aB ?aS ?aL ?_; (case aP => exact k74_mkM _ _ _ (⟨wrap64 (((rd_T74 l0 x16_2).f0) - (wrap64 (16 * a1))), (rd_T74 l0 x16_2).f1⟩ : S74)); (case aB => exact (by repeat (first | (with_reducible first | exact HB.out | apply bal | apply bdN | apply bd1 | refine bst ?_ GE161.out) | exact HB.out))); (case aF => exact (fun k_ hk => Kd.freshB (g := gb161) (o := .cells #[.int .i64 ((rd_T74 l0 x16_2).f0), .int .i64 ((rd_T74 l0 x16_2).f1)] 74 (0, 0)) (by (with_reducible repeat (first | refine kdN ?_ _ | refine kdr ?_ | refine kal ?_ _)); refine blk_put (cs := #[.int .i64 ((rd_T74 l0 x16_2).f0), .int .i64 0]) ?_ 1 _ rfl; (with_reducible repeat (first | refine kdN ?_ _ | refine kdr ?_ | refine kal ?_ _)); refine blk_put (cs := #[.int .i64 0, .int .i64 0]) ?_ 0 _ rfl; (with_reducible repeat (first | refine kdN ?_ _ | refine kdr ?_ | refine kal ?_ _)); exact BK161.out) k_ hk)); (case aO => exact (by (with_reducible repeat (first | apply Kd.R_alloc | apply Kd.R_drewN | apply Kd.R_drew)); exact Kd.R_mono (Kd.R_far (p := ⟨gb161, 1, none⟩) (Kd.R_far (p := ⟨gb161, 0, none⟩) (Kd.R_mono HO_5.out (fun k_ hk => (⟨hk, hk.2⟩ : _ ∧ k_ ≠ gb161))) (fun _ hk => hk.2) (.int .i64 ((rd_T74 l0 x16_2).f0))) (fun _ hk => hk.2) (.int .i64 ((rd_T74 l0 x16_2).f1))) (fun _ hk => hk.1.2))); (case aS => exact (bsz (by repeat (first | (with_reducible first | exact HB.out | apply bal | apply bdN | apply bd1 | refine bst ?_ GE161.out) | exact HB.out)))); (case aL => have := LMc11.out; omega); intro v163 w14 ho hb hg hat; rw [← Ny162.out] at ho; have n0_ := Aside0.mk (blk_grown (g := gb161) (o := .cells #[.int .i64 ((rd_T74 l0 x16_2).f0), .int .i64 ((rd_T74 l0 x16_2).f1)] 74 (0, 0)) (by (with_reducible repeat (first | refine kdN ?_ _ | refine kdr ?_ | refine kal ?_ _)); refine blk_put (cs := #[.int .i64 ((rd_T74 l0 x16_2).f0), .int .i64 0]) ?_ 1 _ rfl; (with_reducible repeat (first | refine kdN ?_ _ | refine kdr ?_ | refine kal ?_ _)); refine blk_put (cs := #[.int .i64 0, .int .i64 0]) ?_ 0 _ rfl; (with_reducible repeat (first | refine kdN ?_ _ | refine kdr ?_ | refine kal ?_ _)); exact BK161.out) hg (Kd.R_away HO_5.out (fun _ hk => hk.2))); have n1_ := Aside0.mk (hb); have n2_ := Aside0.mk (ho); clear BK161; clear HB; clear HO_5; have BK161 := n0_; have HB := n1_; have HO164 := n2_; clear n0_ n1_ n2_; clear ho hb hg hat))
            go_roundg k2
            case measure => have := HJ2.out; have := HK2.out; omega
            case rel => exact ⟨(y162), (wrap64 (x16_2 + 1)), (by first | rfl | (simp; done) | (simp [*]; done)), H', ⟨by have := HJ2.out; have := HK2.out; omega⟩, ⟨by (with_reducible repeat (first | apply Kd.R_alloc | apply Kd.R_drewN | apply Kd.R_drew)); exact Kd.R_mono HO164.out (fun _ hk => trivial)⟩, ⟨by repeat (first | (with_reducible first | exact HB.out | apply bal | apply bdN | apply bd1 | refine bst ?_ GE161.out) | exact HB.out)⟩⟩
           ·rw [if_neg c11] at H
            exact absurd H (by simp)
          ·rw [if_neg c10] at H
           have c10b0 : decide (((rd_T74 l0 x16_2).f0) ≤ (wrap64 ((wrap64 (16 * a1)) + 15))) = false := decide_eq_false c10
           clear c10
           have H' := Aside0.mk H
           clear H
           have p160 : 0 ≤ (x16_2 : Int) := of_decide_eq_true (by first | (with_reducible assumption) | assumption)
           have q160 : x16_2 < (l0.length : Int) := of_decide_eq_true (by first | (with_reducible assumption) | assumption)
           obtain ⟨ad160, e160, hx160_0, hx160_1⟩ := at_T74 HR0.out x16_2 p160 q160
           cases e160
           replace hx160_0 := bcell HB.out hx160_0
           replace hx160_1 := bcell HB.out hx160_1
           replace p160 := eq_true p160
           replace q160 := eq_true q160
           go_wp2_with (first | ((with_reducible refine gate_dst (N := 7) rfl ?_); refine box_event ?hg (N := 7) ?hd (cs := #[.int .i64 0, .int .i64 0]) (t := 74) ?hr ?_; (case hd => rfl); (case hg => rfl); (case hr => first | (go_simp; done) | (go_simp; rfl)); intro gb161 hg w15 hbox hb; have n0_ := Aside0.mk (Kd.R_below (Kd.R_elderB (by (with_reducible repeat (first | apply Kd.R_alloc | apply Kd.R_drewN | apply Kd.R_drew)); exact HO_5.out) gb161 (Nat.le_of_eq hg.symm)) hb); have n1_ := Aside0.mk (bsp (by repeat (first | (with_reducible first | exact HB.out | apply bal | apply bdN | apply bd1) | exact HB.out)) hb); have n2_ := Aside0.mk (hbox); have n3_ := Aside0.mk ((by rw [hg]; exact (bsz (by repeat (first | (with_reducible first | exact HB.out | apply bal | apply bdN | apply bd1) | exact HB.out))) : w.heap.size ≤ gb161)); have n4_ := Aside0.mk ((by rw [hg]; exact (bsz (by repeat (first | (with_reducible first | exact HB.out | apply bal | apply bdN | apply bd1) | exact HB.out))) : w.heap.size ≤ gb161)); clear HO_5; clear HB; have HO_5 := n0_; have HB := n1_; have BK161 := n2_; have GW161 := n3_; have GE161 := n4_; clear n0_ n1_ n2_ n3_ n4_; clear hb hbox hg; obtain ⟨hcz16_0, hcz16_1, hfz16_0, hfz16_1⟩ := cf2 BK161.out))
           go_roundg k2
           case measure => have := HJ2.out; have := HK2.out; omega
           case rel => exact ⟨(x5_2), (wrap64 (x16_2 + 1)), (by first | rfl | (simp; done) | (simp [*]; done)), H', ⟨by have := HJ2.out; have := HK2.out; omega⟩, ⟨by (with_reducible repeat (first | apply Kd.R_alloc | apply Kd.R_drewN | apply Kd.R_drew)); exact Kd.R_mono (Kd.R_far (p := ⟨gb161, 1, none⟩) (Kd.R_far (p := ⟨gb161, 0, none⟩) (Kd.R_mono HO_5.out (fun k_ hk => (⟨hk, hk.2⟩ : _ ∧ k_ ≠ gb161))) (fun _ hk => hk.2) (.int .i64 ((rd_T74 l0 x16_2).f0))) (fun _ hk => hk.2) (.int .i64 ((rd_T74 l0 x16_2).f1))) (fun _ hk => trivial)⟩, ⟨by repeat (first | (with_reducible first | exact HB.out | apply bal | apply bdN | apply bd1 | refine bst ?_ GE161.out) | exact HB.out)⟩⟩
         ·rw [if_neg c9] at H
          have c9b0 : decide ((wrap64 (16 * a1)) ≤ ((rd_T74 l0 x16_2).f0)) = false := decide_eq_false c9
          clear c9
          have H' := Aside0.mk H
          clear H
          have p160 : 0 ≤ (x16_2 : Int) := of_decide_eq_true (by first | (with_reducible assumption) | assumption)
          have q160 : x16_2 < (l0.length : Int) := of_decide_eq_true (by first | (with_reducible assumption) | assumption)
          obtain ⟨ad160, e160, hx160_0, hx160_1⟩ := at_T74 HR0.out x16_2 p160 q160
          cases e160
          replace hx160_0 := bcell HB.out hx160_0
          replace hx160_1 := bcell HB.out hx160_1
          replace p160 := eq_true p160
          replace q160 := eq_true q160
          go_wp2_with (first | ((with_reducible refine gate_dst (N := 7) rfl ?_); refine box_event ?hg (N := 7) ?hd (cs := #[.int .i64 0, .int .i64 0]) (t := 74) ?hr ?_; (case hd => rfl); (case hg => rfl); (case hr => first | (go_simp; done) | (go_simp; rfl)); intro gb161 hg w17 hbox hb; have n0_ := Aside0.mk (Kd.R_below (Kd.R_elderB (by (with_reducible repeat (first | apply Kd.R_alloc | apply Kd.R_drewN | apply Kd.R_drew)); exact HO_5.out) gb161 (Nat.le_of_eq hg.symm)) hb); have n1_ := Aside0.mk (bsp (by repeat (first | (with_reducible first | exact HB.out | apply bal | apply bdN | apply bd1) | exact HB.out)) hb); have n2_ := Aside0.mk (hbox); have n3_ := Aside0.mk ((by rw [hg]; exact (bsz (by repeat (first | (with_reducible first | exact HB.out | apply bal | apply bdN | apply bd1) | exact HB.out))) : w.heap.size ≤ gb161)); have n4_ := Aside0.mk ((by rw [hg]; exact (bsz (by repeat (first | (with_reducible first | exact HB.out | apply bal | apply bdN | apply bd1) | exact HB.out))) : w.heap.size ≤ gb161)); clear HO_5; clear HB; have HO_5 := n0_; have HB := n1_; have BK161 := n2_; have GW161 := n3_; have GE161 := n4_; clear n0_ n1_ n2_ n3_ n4_; clear hb hbox hg; obtain ⟨hcz18_0, hcz18_1, hfz18_0, hfz18_1⟩ := cf2 BK161.out))
          go_roundg k2
          case measure => have := HJ2.out; have := HK2.out; omega
          case rel => exact ⟨(x5_2), (wrap64 (x16_2 + 1)), (by first | rfl | (simp; done) | (simp [*]; done)), H', ⟨by have := HJ2.out; have := HK2.out; omega⟩, ⟨by (with_reducible repeat (first | apply Kd.R_alloc | apply Kd.R_drewN | apply Kd.R_drew)); exact Kd.R_mono (Kd.R_far (p := ⟨gb161, 1, none⟩) (Kd.R_far (p := ⟨gb161, 0, none⟩) (Kd.R_mono HO_5.out (fun k_ hk => (⟨hk, hk.2⟩ : _ ∧ k_ ≠ gb161))) (fun _ hk => hk.2) (.int .i64 ((rd_T74 l0 x16_2).f0))) (fun _ hk => hk.2) (.int .i64 ((rd_T74 l0 x16_2).f1))) (fun _ hk => trivial)⟩, ⟨by repeat (first | (with_reducible first | exact HB.out | apply bal | apply bdN | apply bd1 | refine bst ?_ GE161.out) | exact HB.out)⟩⟩
        ·rw [if_neg c8] at H
         exact absurd H (by simp)
       ·rw [if_neg c7] at H
        exact absurd H (by simp)
      ·rw [if_neg c6] at H
       have c6b0 : decide (x16_2 < (l0.length : Int)) = false := decide_eq_false c6
       clear c6
       obtain rfl := Option.some.inj H
       go_wp2
       go_ret
       exact ⟨_, by first | rfl | (simp [*] <;> rfl), by (with_reducible repeat (first | apply Kd.R_alloc | apply Kd.R_drewN | apply Kd.R_drew)); exact HO_5.out, by repeat (first | (with_reducible first | exact HB.out | apply bal | apply bdN | apply bd1) | exact HB.out)⟩
theorem eqA66 (d : Nat) (w : World) (x0 y0 : ByteArray) (x1 y1 : Int) (x2 y2 : Int) :
  (Op.equalIn (d + 2) 66 (.agg #[.string x0, .int .i64 x1, .int .i64 x2]) (.agg #[.string y0, .int .i64 y1, .int .i64 y2])).run Try.prog w = .ok (x0.toList == y0.toList && (x1 == y1 && (x2 == y2))) w := by
 refine eqA_of Try.underlying66 (by kernel_rfl) ?_
 refine eqf_cons (by rfl) (by go_simp; rfl) (by go_simp; rfl) (by go_simp) ?_
 refine eqf_cons (by rfl) (by go_simp; rfl) (by go_simp; rfl) (by go_simp) ?_
 exact eqf_last (by rfl) (by go_simp; rfl) (by go_simp; rfl) (by go_simp)
end Go.Proofs.Ytilebfkehmecaaa.Print
namespace Go.Proofs.Ytilebfkehmecaaa.Print
open Go.RowKit Go.Proofs.YtilebfkehmecaaaW.PrintWords Go.Proofs.YtilebfkehmecaaaW.PrintLast Go.Proofs.YtilebfkehmecaaaW.PrintMore
attribute [local go_sem] max2_int min2_int max_two min_two max_three min_three max_four min_four
set_option linter.unusedVariables false
set_option linter.unusedSimpArgs false
section
variable {P : Program} {ops : Array Oper} {Q : Exit → Act → World → Prop} {md : Region.Mode}
end
end Go.Proofs.Ytilebfkehmecaaa.Print
namespace Go.Proofs.Ytilebfkehmecaaa.Print
open Go.RowKit Go.Proofs.YtilebfkehmecaaaW.PrintWords Go.Proofs.YtilebfkehmecaaaW.PrintLast Go.Proofs.YtilebfkehmecaaaW.PrintMore
attribute [local go_sem] max2_int min2_int max_two min_two max_three min_three max_four min_four
set_option linter.unusedVariables false
set_option linter.unusedSimpArgs false
open Go.RowKit
section
variable {α : Type} {d : Kd α} {e : Nat} {W W1 : World} {v : Value}
theorem flatten_get {sz : Nat} : ∀ (css : List (List Value)) (j : Nat) (c : List Value) (i : Nat), (∀ c ∈ css, c.length = sz) → css[j]? = some c → i < sz → css.flatten[j * sz + i]? = c[i]?
  | [], j, c, i, _, h, _ => by simp at h
  | x :: r, 0, c, i, hl, h, hi => by
    obtain rfl : x = c := by simpa using h
    have := hl x (by simp)
    simp only [List.flatten_cons, Nat.zero_mul, Nat.zero_add]
    rw [List.getElem?_append_left (by omega)]
  | x :: r, j + 1, c, i, hl, h, hi => by
    have h1 := hl x (by simp)
    have h2 : r[j]? = some c := by simpa using h
    simp only [List.flatten_cons]
    have e1 : (j + 1) * sz + i = x.length + (j * sz + i) := by rw [h1, Nat.succ_mul]; omega
    rw [e1, List.getElem?_append_right (by omega), Nat.add_sub_cancel_left]
    exact flatten_get r j c i (fun c hc => hl c (by simp [hc])) h2 hi
def Is (d : Kd α) (B : Nat) (W : World) (v : Value) (x : α) : Prop := ∃ cs : List Value, v = .agg cs.toArray ∧ Kd.FK d W (fun k => B ≤ k ∧ k < W.heap.size) x cs
def IsRow (d : Kd α) (B : Nat) (e : Nat) (W : World) (v : Value) (l : List α) : Prop :=
  ∃ (b : Nat) (css : List (List Value)), v = .slice (some ⟨b, 0, none⟩) l.length l.length ∧ W.heap[b]? = some (.cells css.flatten.toArray e (0, 0)) ∧ B ≤ b ∧ css.length = l.length ∧ l.length ≤ 9223372036854775807 ∧
    ∀ (j : Nat) (x : α) (c : List Value), l[j]? = some x → css[j]? = some c → Kd.FK d W (fun k => B ≤ k ∧ k < b) x c
variable {B : Nat}
theorem Is.below {x : α} (h : Is d B W v x) (hb : Below W.heap.size W W1) : Is d B W1 v x := by
  obtain ⟨cs, e1, h⟩ := h
  exact ⟨cs, e1, Kd.FK_mono (Kd.FK_below h hb) (fun k hk => ⟨hk.1, Nat.lt_of_lt_of_le hk.2 hb.size⟩)⟩
theorem IsRow.below {l : List α} (h : IsRow d B e W v l) (hb : Below W.heap.size W W1) : IsRow d B e W1 v l := by
  obtain ⟨b, css, e1, h1, h0, h2, h3, h4⟩ := h
  exact ⟨b, css, e1, (hb.block _ (blk_lt h1)).trans h1, h0, h2, h3, fun j x c hj hc => Kd.FK_below (h4 j x c hj hc) hb⟩
theorem IsRow.F {l : List α} {b : Nat} {css : List (List Value)} (h1 : W.heap[b]? = some (.cells css.flatten.toArray e (0, 0))) (h0 : B ≤ b) (h2 : css.length = l.length) (h3 : l.length ≤ 9223372036854775807)
    (h4 : ∀ (j : Nat) (x : α) (c : List Value), l[j]? = some x → css[j]? = some c → Kd.FK d W (fun k => B ≤ k ∧ k < b) x c) : Kd.F d W (fun k => B ≤ k ∧ k < W.heap.size) (some ⟨b, 0, none⟩) l.length l := by
  intro W' hW'
  have hb := blk_lt h1
  have hlen : ∀ c ∈ css, c.length = d.sz := by
    intro c hc
    obtain ⟨j, hj, e2⟩ := List.mem_iff_getElem.1 hc
    have hj2 : j < l.length := by omega
    exact d.K_len (Kd.FK_now (h4 j l[j] c (List.getElem?_eq_getElem hj2) (by rw [List.getElem?_eq_getElem hj, e2])))
  refine ⟨rfl, h3, fun _ => ⟨_, rfl, fun j x hj => ?_⟩⟩
  have hj2 : j < css.length := by have := (List.getElem?_eq_some_iff.1 hj).1; omega
  have hc := List.getElem?_eq_getElem hj2
  have hk := h4 j x _ hj hc
  refine ⟨css[j], hlen _ (List.getElem_mem hj2), hk W' (fun k hk' hk2 => hW' k ⟨hk'.1, hk2⟩ hk2), fun i u hu => ?_⟩
  have hi : i < d.sz := by have := (List.getElem?_eq_some_iff.1 hu).1; rw [hlen _ (List.getElem_mem hj2)] at this; exact this
  have hg := flatten_get css j _ i hlen hc hi
  have hB := (hW' b ⟨h0, hb⟩ hb).trans h1
  have : (⟨b, 0, none⟩ : Addr).add (j * d.sz + i) = ⟨b, j * d.sz + i, none⟩ := by unfold Addr.add; split <;> simp_all
  rw [this, blk_cell hB (j * d.sz + i)]
  simpa [hg] using hu
theorem IsRow.foot {l : List α} (h : IsRow d B e W v l) : ∃ A, v = .slice A l.length l.length ∧ Kd.F d W (fun k => B ≤ k ∧ k < W.heap.size) A l.length l := by
  obtain ⟨b, css, e1, h1, h0, h2, h3, h4⟩ := h
  exact ⟨_, e1, IsRow.F h1 h0 h2 h3 h4⟩
theorem IsRow.C {l : List α} (h : IsRow d B e W v l) : ∃ A, v = .slice A l.length l.length ∧ d.C W A l.length l := by
  obtain ⟨A, e1, h1⟩ := h.foot
  exact ⟨A, e1, Kd.F_now h1⟩
theorem IsRow.new {l : List α} (hB : B ≤ W.heap.size) (css : List (List Value)) {cs : Array Value} (hcs : cs = css.flatten.toArray) (h2 : css.length = l.length) (h3 : l.length ≤ 9223372036854775807) (h4 : ∀ (j : Nat) (x : α) (c : List Value), l[j]? = some x → css[j]? = some c → Kd.FK d W (fun k => B ≤ k ∧ k < W.heap.size) x c) :
    IsRow d B e (W.alloc (.cells cs e)) (.slice (some ⟨W.heap.size, 0, none⟩) l.length l.length) l := by
  subst hcs
  exact ⟨_, css, rfl, heap_alloc_new _ _, hB, h2, h3, fun j x c hj hc => Kd.FK_below (h4 j x c hj hc) (bal (Below.refl _ _) _)⟩
theorem F_zero (A : Option Addr) (ok : Nat → Prop) : Kd.F d W ok A ([] : List α).length [] := fun W' _ => ⟨rfl, by simp, fun h => by simp at h⟩
end
end Go.Proofs.Ytilebfkehmecaaa.Print
