/- For every program the law ProgOnce returns true, and what came in reads as before. No condition. -/
import Derived.Test.YtffcpbgbhkbplaaB6
import Derived.ArgAppend
import Derived.Below
import Derived.BigQuiet
import Derived.Deep.AppendLies
import Derived.Deep.CutBlock
import Derived.Deep.DeepCutAuto
import Derived.Deep.Draws
import Derived.Deep.LoopGhost
import Derived.Deep.OwnRows
import Derived.Deep.QuietTactic
import Derived.Deep.RegionHeld3
import Derived.KernelRfl
import Derived.Laws.BytesArg
import Derived.Laws.IdiomCopy
import Derived.Laws.MakeOwn
import Derived.Laws.OwnMore
import Derived.Laws.Rows
import Derived.Laws.Slices
import Derived.Lib.AppendStr
import Derived.Lib.ConvBytes
import Derived.LoopNIn
import Derived.Maps.AppendAt
import Derived.OwnWalk
import Derived.RowKit
import Derived.RowKit3
import Derived.Tactics
import Derived.WalkKit
import Derived.WideLaws
set_option linter.unusedVariables false
set_option linter.unusedSimpArgs false
namespace Go.Proofs.YtffcpbgbhkbplaaW.PrintWords
open Go.RowKit
def nums (k : IntKind) (xs : List Int) : List Value := xs.map fun x => .int k x
theorem add_plain (g j : Nat) : (⟨g, 0, none⟩ : Addr).add j = ⟨g, j, none⟩ := by unfold Addr.add; split <;> simp_all
theorem own_reads {w : World} {base n : Nat} {e : TypeId} {k : IntKind} {v : Value} {xs : List Int} (h : w.ownsRow base e 1 v n (nums k xs)) : ∃ A c, v = .slice A n c ∧ ReadsInt w k A n xs := by
 have hl : xs.length = n := by have := h.1; simp [nums] at this; exact this
 rcases Nat.eq_zero_or_pos n with h0 | h0
 ·rcases h.2 with ⟨rfl, rfl⟩ | ⟨g, cap, cur, rfl, _⟩
  ·exact ⟨none, 0, rfl, hl, by omega, fun hp => absurd hp (by omega)⟩
  ·exact ⟨_, cap, rfl, hl, by omega, fun hp => absurd hp (by omega)⟩
 ·obtain ⟨g, cap, rfl, _, _⟩ := h.form h0
  have hm : n ≤ 9223372036854775807 := by
   rcases h.2 with ⟨_, h1⟩ | ⟨g', cap', cur, he, _, _, h1, h2, _⟩
   ·omega
   ·simp only [maxLen] at h2
    omega
  refine ⟨_, cap, rfl, hl, hm, fun _ => ⟨_, rfl, fun j hj => h.cells (g := g) rfl j _ ?_⟩⟩
  simp [nums, List.getElem?_eq_getElem (show j < xs.length by omega), List.getD_eq_getElem?_getD]
theorem own_slice {w : World} {base n : Nat} {e : TypeId} {size : Nat} {v : Value} {xs : List Value} (h : w.ownsRow base e size v n xs) : ∃ A c, v = .slice A n c := by
 rcases h.2 with ⟨rfl, rfl⟩ | ⟨g, cap, cur, rfl, _⟩
 ·exact ⟨none, 0, rfl⟩
 ·exact ⟨_, cap, rfl⟩
section
variable {P : Program} {ops : Array Oper} {rest : List Oper} {o : Oper} {a : Act} {Q : Exit → Act → World → Prop}
end
section
variable {P : Program}
theorem print_make (t e : TypeId) (k : IntKind) (bytes : Nat) (ht : P.underlying t = some (.slice e)) (hinfo : (P.info? e).map (fun i => (i.zero, i.size, i.bytes)) = some (some (.int k 0), 1, bytes)) (hb0 : 0 < bytes)
  (m : Nat) (hn : m * bytes ≤ 281474976710656) :
  ∀ W : World, (Instr.makeSlice t (.int .i64 (m : Int)) (.int .i64 (m : Int))).run P W = .ok (.slice (some ⟨W.heap.size, 0, none⟩) m m) (W.alloc (.cells (madeCells #[.int k 0] m) e)) := by
 intro W
 have hm : m ≤ 281474976710656 := Nat.le_trans (Nat.le_mul_of_pos_right _ hb0) hn
 exact run_make_row' t e (.int k 0) bytes ht hinfo rfl .i64 .i64 m (by rw [Nat.mul_comm]; exact hn) (by omega) W
end
theorem own_made (W : World) (base : Nat) (e : TypeId) (k : IntKind) (m : Nat) (hb : base ≤ W.heap.size) (hm : m ≤ 9223372036854775807) :
  (W.alloc (.cells (madeCells #[.int k 0] m) e)).ownsRow base e 1 (.slice (some ⟨W.heap.size, 0, none⟩) m m) m (nums k (List.replicate m 0)) := by
 have h := World.ownsRow_lit (base := base) (e := e) (size := 1) W (madeCells #[.int k 0] m) m hb (by simpa [maxLen] using hm) (by simp [size_madeCells])
 have hl : (madeCells #[Value.int k 0] m).toList = nums k (List.replicate m 0) := by
  apply List.ext_getElem
  ·simp [nums, madeCells]
  ·intro i h1 h2
   simp [nums, madeCells, Nat.mod_one]
 rwa [hl] at h
theorem own_at {W : World} {base g n cap : Nat} {e : TypeId} {k : IntKind} {xs : List Int} (h : W.ownsRow base e 1 (.slice (some ⟨g, 0, none⟩) n cap) n (nums k xs)) (i : Int) (h0 : 0 ≤ i) (h1 : i < n) :
  W.cell? ⟨g, i.toNat, none⟩ = some (.int k (rd xs i)) ∧ W.frozen? ⟨g, i.toNat, none⟩ = false := by
 have hl : xs.length = n := by have := h.1; simp [nums] at this; exact this
 constructor
 ·have hc := h.cells (g := g) rfl i.toNat (.int k (rd xs i)) (by simp [nums, rd, List.getElem?_eq_getElem (show i.toNat < xs.length by omega), List.getD_eq_getElem?_getD])
  rwa [add_plain] at hc
 ·rcases h.2 with ⟨h', _⟩ | ⟨g', cap', cur, h', _, hh, _⟩
  ·cases h'
  ·have : g = g' := by injection h' with h'; injection h' with h'; injection h' with h'
   subst this
   simp [World.frozen?, hh]
theorem own_store {W : World} {base g n cap : Nat} {e : TypeId} {k : IntKind} {xs : List Int} (h : W.ownsRow base e 1 (.slice (some ⟨g, 0, none⟩) n cap) n (nums k xs)) (i x : Int) :
  (W.setCell ⟨g, i.toNat, none⟩ (.int k x)).ownsRow base e 1 (.slice (some ⟨g, 0, none⟩) n cap) n (nums k (xs.set i.toNat x)) ∧ W.grownBy (W.setCell ⟨g, i.toNat, none⟩ (.int k x)) (some g) := by
 have hs := h.stored i.toNat (.int k x)
 have he : (nums k xs).set i.toNat (.int k x) = nums k (xs.set i.toNat x) := by simp [nums, List.map_set]
 rwa [he] at hs
section
variable {P : Program} {ops : Array Oper} {rest : List Oper} {o : Oper} {a : Act} {Q : Exit → Act → World → Prop}
theorem print_append_row {w0 W : World} (base : Nat) (hgd : o.guard = none) (s x : Operand) (t e : TypeId) (k : IntKind) (bytes : Nat)
  (ho : o.op = .call { callee := .builtin .append, args := #[s, x], argTypes := #[t, t] })
  (ht : P.underlying t = some (.slice e)) (hinfo : (P.info? e).map (fun i => (i.zero, i.size, i.bytes)) = some (some (.int k 0), 1, bytes)) (hb0 : 0 < bytes)
  (v : Value) (xs ys : List Int) (A : Option Addr) (m c : Nat) (hs : a.eval s = v) (hx : a.eval x = .slice A m c)
  (HO : W.ownsRow base e 1 v xs.length (nums k xs)) (HR : ReadsInt W k A m ys) (HB : Below base w0 W) (hbase : base ≤ W.heap.size) (hl : (xs.length + m) * bytes ≤ 140737488355328)
  (h : ∀ v1 w1, w1.ownsRow base e 1 v1 (xs ++ ys).length (nums k (xs ++ ys)) → Below base w0 w1 → W.grownBy w1 v.ownBlock → (v1.ownBlock = v.ownBlock ∨ ∃ b, v1.ownBlock = some b ∧ W.heap.size ≤ b) → wpList P ops Q rest (a.put o.dst v1) w1) :
  wpList P ops Q (o :: rest) a W := by
 obtain ⟨i0, hi, hzz⟩ := Option.map_eq_some_iff.1 hinfo
 simp only [Prod.mk.injEq] at hzz
 obtain ⟨hz0, hz1, hz2⟩ := hzz
 have hm : ys.length = m := HR.1
 have hlen : xs.length + m ≤ 140737488355328 := Nat.le_trans (Nat.le_mul_of_pos_right _ hb0) hl
 have hrun : ∃ v1 w1, (Builtin.append_ #[t, t] o.type #[v, .slice A m c]).run P W = .ok v1 w1 ∧ w1.ownsRow base e 1 v1 (xs ++ ys).length (nums k (xs ++ ys)) ∧ W.grownBy w1 v.ownBlock ∧ (v1.ownBlock = v.ownBlock ∨ v1.ownBlock = some W.heap.size) := by
  rcases A with _ | ad
  ·have h0 : m = 0 := by
    rcases Nat.eq_zero_or_pos m with h0 | h0
    ·exact h0
    ·obtain ⟨ad, h, _⟩ := HR.2.2 h0
     cases h
   subst h0
   obtain rfl : ys = [] := List.eq_nil_of_length_eq_zero hm
   refine ⟨v, W, ?_, by simpa using HO, World.grownBy.refl W _, .inl rfl⟩
   rcases HO.2 with ⟨rfl, hn⟩ | ⟨g, cap, cur, rfl, _, _, hnc, _⟩
   ·simp [Builtin.append_, run_underlying ht, sizeOf, typeInfo, hi, Builtin.lenOf, Builtin.firstCells]
   ·simp [Builtin.append_, run_underlying ht, sizeOf, typeInfo, hi, Builtin.lenOf, Builtin.firstCells, hnc, storeCells]
  ·have hcells : ∀ j u, (nums k ys)[j]? = some u → W.cell? (ad.add j) = some u := by
    intro j u hu
    have hj : j < ys.length := by
     rcases Nat.lt_or_ge j ys.length with h | h
     ·exact h
     ·simp [nums, List.getElem?_eq_none h] at hu
    obtain ⟨ad', h', hc⟩ := HR.2.2 (by omega)
    injection h' with h'
    subst h'
    have := hc j (by omega)
    simp [nums, List.getElem?_eq_getElem hj] at hu
    subst hu
    rw [this]
    simp [List.getD_eq_getElem?_getD, List.getElem?_eq_getElem hj]
   obtain ⟨v1, w1, hr, h2, h3, _, h5⟩ := run_append_own_at (P := P) W base t o.type e i0 (.int k 0) 1 bytes ht hi hz0 hz1 hz2 rfl (by omega) v xs.length (nums k xs) HO ad m c (nums k ys) (by simp [nums, hm]) hcells
    (by intro u hu; simp only [nums, List.mem_map] at hu; obtain ⟨q, _, rfl⟩ := hu; rfl) (by simp only [maxLen]; omega) hl hbase
   exact ⟨v1, w1, hr, by simpa [nums, hm] using h2, h3, h5⟩
 obtain ⟨v1, w1, hr, hown, hg, hat⟩ := hrun
 refine wpList_plain hgd fun K hK => ?_
 unfold Oper.wp execOp
 simp only [ho, resolve, invoke, builtin, Sem.run_bind, Sem.run_pure, Result.andThen_ok, List.map_toArray, List.map_cons, List.map_nil, hs, hx, hr]
 refine hK _ _ (h v1 w1 hown (HB.grown hg hbase (own_base HO)) hg ?_)
 rcases hat with hat | hat
 ·exact .inl hat
 ·exact .inr ⟨_, hat, Nat.le_refl _⟩
end
section
variable {P : Program} {ops : Array Oper} {rest : List Oper} {o : Oper} {a : Act} {Q : Exit → Act → World → Prop}
end
theorem own_setCell {w : World} {base : Nat} {e : TypeId} {size n : Nat} {v : Value} {xs : List Value} (h : w.ownsRow base e size v n xs) {p : Addr} (hne : some p.block ≠ v.ownBlock) (u : Value) : (w.setCell p u).ownsRow base e size v n xs := by
 obtain ⟨h1, h2⟩ := h
 refine ⟨h1, ?_⟩
 rcases h2 with h2 | ⟨g, cap, cur, rfl, hg, hh, r⟩
 ·exact .inl h2
 ·exact .inr ⟨g, cap, cur, rfl, hg, by rw [Below.heap_setCell _ _ _ _ (fun e => hne (by rw [e]; rfl))]; exact hh, r⟩
section
variable {P : Program} {ops : Array Oper} {o : Oper} {a : Act} {Q : Exit → Act → World → Prop} {K : Act → World → Prop}
end
section
variable {α : Type} {enc : α → Value} {d : α}
end
section
variable {α : Type} {P : Program} {ops : Array Oper} {rest : List Oper} {o : Oper} {a : Act} {Q : Exit → Act → World → Prop}
end
section
variable {P : Program}
end
section
variable {α : Type} {R R' : α → List Value → Prop} {e : TypeId} {size : Nat} {w w1 : World} {base : Nat} {v : Value} {ps : List α}
end
section
variable {P : Program} {ops : Array Oper} {rest : List Oper} {o : Oper} {a : Act} {Q : Exit → Act → World → Prop} {α : Type} {R : α → List Value → Prop}
end
section
variable {P : Program} {ops : Array Oper} {o : Oper} {a : Act} {Q : Exit → Act → World → Prop} {K : Act → World → Prop} {α : Type} {R : α → List Value → Prop}
end
section
variable {α : Type} {P : Program}
end
section
variable {P : Program} {ops : Array Oper} {rest : List Oper} {o : Oper} {a : Act} {Q : Exit → Act → World → Prop}
end
namespace Kd
section
variable {α : Type} {d : Kd α} {e : Nat} {w w1 : World} {base : Nat} {ok ok' : Nat → Prop} {v : Value} {xs : List α}
end
section
variable {P : Program} {ops : Array Oper} {rest : List Oper} {o : Oper} {a : Act} {Q : Exit → Act → World → Prop} {α : Type}
end
section
variable {P : Program} {ops : Array Oper} {o : Oper} {a : Act} {Q : Exit → Act → World → Prop} {Kc : Act → World → Prop} {α : Type}
end
end Kd
namespace Kd
section
variable {α : Type} {F : Kd α → Kd α} {sz : Nat} {E : List Nat} {hs : ∀ n, (upto F sz E n).sz = sz} {hE : ∀ n q, q ∈ (upto F sz E n).E → q ∈ E}
end
end Kd
namespace Kd
end Kd
namespace Kd
section
variable {α β : Type} {d : Kd α} {d' : Kd β} {e e' : Nat} {w w1 W : World} {base b b' : Nat} {ok ok' okv oku : Nat → Prop} {v u : Value} {xs : List α} {ys : List β}
end
section
variable {w W : World} {A : Option Addr} {n : Nat}
variable {α : Type} {enc : α → Value} {h1 : ∀ x, (enc x).oneCell' = true} {e base g cap : Nat} {ok : Nat → Prop} {xs : List α}
end
section
variable {P : Program} {ops : Array Oper} {rest : List Oper} {o : Oper} {a : Act} {Q : Exit → Act → World → Prop}
variable {α : Type}
end
end Kd
section
variable {P : Program}
end
section
variable {w w1 : World} {base n size : Nat} {e : TypeId} {v : Value} {xs : List Value}
end
section
variable {P : Program}
end
namespace Kd
section
variable {α : Type} {d : Kd α} {e : Nat} {w w1 W : World} {base : Nat} {ok ok' : Nat → Prop} {v : Value} {xs : List α}
end
section
variable {P : Program} {ops : Array Oper} {rest : List Oper} {o : Oper} {a : Act} {Q' : Exit → Act → World → Prop} {Kc : Act → World → Prop} {α : Type}
end
end Kd
namespace Kd
section
variable {α : Type} {d : Kd α} {e e' : Nat} {w w1 W : World} {base : Nat} {ok : Nat → Prop} {u v : Value} {xs : List α}
end
end Kd
namespace Kd
section
variable {α : Type} {d : Kd α} {e base g n cap : Nat} {ok okp : Nat → Prop} {W : World} {xs : List α}
end
end Kd
namespace Kd
section
variable {α : Type} {F : Kd α → Kd α} {sz : Nat} {E : List Nat} {hs : ∀ n, (upto F sz E n).sz = sz} {hE : ∀ n q, q ∈ (upto F sz E n).E → q ∈ E}
end
end Kd
namespace Kd
section
variable {P : Program} {ops : Array Oper} {rest : List Oper} {o : Oper} {a : Act} {Q : Exit → Act → World → Prop} {α : Type}
end
end Kd
namespace Kd
section
variable {P : Program} {ops : Array Oper} {rest : List Oper} {o : Oper} {a : Act} {Q : Exit → Act → World → Prop} {α : Type}
end
end Kd
namespace Kd
section
variable {α : Type} {k : Kd α} {w : World} {A : Option Addr} {xs : List α} {m c : Nat}
end
end Kd
section
variable {P : Program}
end
theorem own_reads' {W : World} {base n c : Nat} {e : TypeId} {k : IntKind} {A : Option Addr} {xs : List Int} (h : W.ownsRow base e 1 (.slice A n c) n (nums k xs)) : ReadsInt W k A n xs := by
 obtain ⟨A', c', he, hr⟩ := own_reads h
 injection he with hA
 rw [hA]; exact hr
namespace Kd
section
variable {α β : Type} {d : Kd α} {d' : Kd β} {e e' base base' n : Nat} {ok ok' : Nat → Prop} {w W w1 W1 : World} {v u : Value} {xs : List α} {ys : List β} {A : Option Addr} {c : Nat}
end
section
variable {α : Type} {enc : α → Value} {h1 : ∀ x, (enc x).oneCell' = true} {w W : World} {A : Option Addr} {n g : Nat} {xs : List α}
end
end Kd
namespace Kd
section
variable {α : Type} {d : Kd α} {e base g : Nat} {ok : Nat → Prop} {w w1 : World} {v : Value} {xs : List α} {o : Obj}
end
end Kd
section
variable {P : Program} {ops : Array Oper} {rest : List Oper} {o : Oper} {a : Act} {Q : Exit → Act → World → Prop}
end
namespace Kd
section
variable {α : Type} {enc : α → Value} {h1 : ∀ x, (enc x).oneCell' = true} {e base g n cap : Nat} {ok : Nat → Prop} {W : World} {xs : List α}
end
end Kd
section
variable {P : Program} {ops : Array Oper} {rest : List Oper} {o : Oper} {a : Act} {Q : Exit → Act → World → Prop}
end
namespace Kd
section
variable {α : Type} {enc : α → Value} {h1 : ∀ x, (enc x).oneCell' = true} {e base g n cap : Nat} {ok : Nat → Prop} {W : World} {xs : List α}
end
end Kd
section
variable {P : Program} {ops : Array Oper} {rest : List Oper} {o : Oper} {a : Act} {Q : Exit → Act → World → Prop} {W : World}
end
section
variable {P : Program} {ops : Array Oper} {o : Oper} {a : Act} {Q : Exit → Act → World → Prop} {Kc : Act → World → Prop}
namespace Kd
variable {α : Type}
end Kd
end
section
variable {P : Program} {tmps : Array Value} {w : World}
end
namespace Kd
section
variable {P : Program} {α : Type}
end
section
variable {P : Program} {ops : Array Oper} {rest : List Oper} {o : Oper} {a : Act} {Q : Exit → Act → World → Prop} {Kc : Act → World → Prop} {α : Type}
end
end Kd
end Go.Proofs.YtffcpbgbhkbplaaW.PrintWords
namespace Go.Proofs.YtffcpbgbhkbplaaW.PrintWords
open Go.RowKit
namespace Foot
variable {P Q : World → Prop} {W W1 : World} {ok ok' : Nat → Prop}
theorem imp (h : Foot P W ok) (hi : ∀ W', P W' → Q W') : Foot Q W ok := fun W' hW => hi W' (h W' hW)
end Foot
namespace Kd
section
variable {α β : Type} {d : Kd α} {e base n n' cc g N : Nat} {ok ok' okp S : Nat → Prop} {w w0 w1 W W1 : World} {A A' : Option Addr} {u v v1 : Value} {xs : List α} {xs' : List β} {d' : Kd β} {x : α} {c : List Value}
end
end Kd
end Go.Proofs.YtffcpbgbhkbplaaW.PrintWords
namespace Go.Proofs.Ytffcpbgbhkbplaa.Print
open Go.RowKit Go.Proofs.YtffcpbgbhkbplaaW.PrintWords Go.Proofs.YtffcpbgbhkbplaaW.PrintLast Go.Proofs.YtffcpbgbhkbplaaW.PrintMore
attribute [local go_sem] max2_int min2_int max_two min_two max_three min_three max_four min_four
set_option linter.unusedVariables false
set_option linter.unusedSimpArgs false
theorem goodE_mk (a b c : Int) (l : List S96) : goodE ⟨a, b, c, l⟩ = (l.length ≤ 9223372036854775807 ∧ goodEs l) := rfl
theorem eN_pos : ∀ x, 1 ≤ eN x
  | ⟨_, _, _, _⟩ => by simp only [eN]; omega
mutual
def r3_Count.l0 : Nat → List (S47) → Int → Int → Option (Int)
 | 0, _, _, _ => none
 | k + 1, x0, x3, x4 => if x4 < (x0.length : Int) then (if 0 ≤ x4 then ((r3_Count.f k ((rd_T47 x0 x4).f3)).bind fun t403 => ((r3_Count.f k ((rd_T47 x0 x4).f4)).bind fun t405 => (r3_Count.l0 k x0 (wrap64 ((wrap64 ((wrap64 (x3 + 1)) + t403)) + t405)) (wrap64 (x4 + 1))))) else (none)) else (some x3)
def r3_Count.f : Nat → List (S47) → Option (Int)
 | 0, _ => none
 | k + 1, l0 => r3_Count.l0 k l0 0 0
end
def r3_Count.T5 : Bool × List (List Nat × List Nat) := (true, [([], []), ([0], [0]), ([], []), ([], []), ([2, 3], [2, 3]), ([4], [4]), ([5], [5]), ([6], [6]), ([1, 7], [1, 7]), ([], []), ([], []), ([9, 10], [9, 10]), ([11], [11]), ([12], [12]), ([13, 7], [13]), ([8, 14], [8, 14]), ([15, 14, 0, 1, 2, 3, 4, 5, 6, 7, 8, 9, 10, 11, 12, 13, 14, 15], [0, 15])])
def r3_Count.B5 : List Nat := [0, 1, 0, 0, 12, 28, 60, 124, 255, 0, 0, 1536, 3584, 7680, 16124, 32767, 65535]
theorem r3_Count.tab5 : rtab .any (opsOf Try.f35 5) = r3_Count.T5 := by kernel_rfl
theorem r3_Count.bits5 : waitsOk r3_Count.T5.2 r3_Count.B5 = true := by kernel_rfl
set_option maxHeartbeats 8000000 in
set_option maxRecDepth 100000 in
theorem r3_Count.calls (k : Nat) : ∀ (A0 : Option Addr) (c0 : Nat) (l0 : List (S47)) (r : Int) (w : World) (hr0 : Kd.C k47 w A0 l0.length l0) (hc0 : l0.length ≤ c0) (h : r3_Count.f k l0 = some r),
  Calls Try.prog 35 #[.slice A0 l0.length c0] w fun e w' => e = .returned (.int .i64 r) ∧ Below w.heap.size w w' := by
 induction k using Nat.strongRecOn with
 | _ k ih =>
 intro A0 c0 l0 r w hr0 hc0 h
 cases k with
 | zero => exact absurd h (by simp [r3_Count.f])
 | succ k =>
 simp only [r3_Count.f] at h
 have HR0 := Aside0.mk hr0
 have HC0 := Aside0.mk hc0
 clear hr0 hc0
 have HB := Aside0.mk (Below.refl w.heap.size w)
 have H : (r3_Count.l0 k l0 0 0) = some r := h
 clear h
 have H' := Aside0.mk H
 clear H
 go_enter Try.func35, Try.ntmps35
 go_wp2
 go_loopg [3, 4] k (fun kq v3 v4 w' => ∃ (x3_1 : Int) (x4_1 : Int), v3 = .int .i64 x3_1 ∧ v4 = .int .i64 x4_1 ∧ Aside0 (r3_Count.l0 kq l0 x3_1 x4_1 = some r) ∧ Aside0 (kq ≤ k) ∧ Aside0 (Below w.heap.size w w'))
 case atStart => exact ⟨(0), (0), (by first | rfl | (simp; done) | (simp [*]; done)), (by first | rfl | (simp; done) | (simp [*]; done)), H', ⟨Nat.le_refl _⟩, ⟨by repeat (first | (with_reducible first | exact HB.out | apply bal | apply bdN | apply bd1) | exact HB.out)⟩⟩
 case round =>
  clear H'
  obtain ⟨x3_1, x4_1, rfl, rfl, HA, HK1, HB⟩ := hrel
  cases gk with
  | zero => exact absurd HA.out (by simp [r3_Count.l0])
  | succ k1 =>
   have H := HA.out
   clear HA
   simp only [r3_Count.l0] at H
   by_cases c2 : x4_1 < (l0.length : Int)
   ·rw [if_pos c2] at H
    have c2b0 : decide (x4_1 < (l0.length : Int)) = true := decide_eq_true c2
    clear c2
    by_cases c3 : 0 ≤ x4_1
    ·rw [if_pos c3] at H
     have c3b0 : decide (0 ≤ x4_1) = true := decide_eq_true c3
     clear c3
     replace H := Option.bind_eq_some_iff.mp H
     obtain ⟨t403, A40, H⟩ := H
     replace H : ((r3_Count.f k1 ((rd_T47 l0 x4_1).f4)).bind fun t405 => (r3_Count.l0 k1 l0 (wrap64 ((wrap64 ((wrap64 (x3_1 + 1)) + t403)) + t405)) (wrap64 (x4_1 + 1)))) = some r := H
     have A4 := Aside0.mk A40
     clear A40
     replace H := Option.bind_eq_some_iff.mp H
     obtain ⟨t405, A50, H⟩ := H
     replace H : (r3_Count.l0 k1 l0 (wrap64 ((wrap64 ((wrap64 (x3_1 + 1)) + t403)) + t405)) (wrap64 (x4_1 + 1))) = some r := H
     have A5 := Aside0.mk A50
     clear A50
     have H' := Aside0.mk H
     clear H
     try go_wp2
     have n0_ := Aside0.mk (bd1 HB.out)
     clear HB
     have HB := n0_
     clear n0_
     have p402 : 0 ≤ (x4_1 : Int) := of_decide_eq_true (by first | (with_reducible assumption) | assumption)
     have q402 : x4_1 < (l0.length : Int) := of_decide_eq_true (by first | (with_reducible assumption) | assumption)
     obtain ⟨ad402, A402_2, c402_2, A402_3, c402_3, A402_4, c402_4, e402, hx402_0, hx402_1, hx402_2, hx402_3, hx402_4, hl402_2, hi402_2, hl402_3, hi402_3, hl402_4, hi402_4⟩ := at_T47 HR0.out x4_1 p402 q402
     have hw402_4 := hx402_4
     have hw402_3 := hx402_3
     have hw402_2 := hx402_2
     have hw402_1 := hx402_1
     have hw402_0 := hx402_0
     cases e402
     replace hx402_0 := bcell HB.out hx402_0
     replace hx402_1 := bcell HB.out hx402_1
     replace hx402_2 := bcell HB.out hx402_2
     replace hx402_3 := bcell HB.out hx402_3
     replace hx402_4 := bcell HB.out hx402_4
     have HR402_2 := Aside0.mk hi402_2
     have HC402_2 := Aside0.mk hl402_2
     clear hi402_2 hl402_2
     have HR402_3 := Aside0.mk hi402_3
     have HC402_3 := Aside0.mk hl402_3
     clear hi402_3 hl402_3
     have HR402_4 := Aside0.mk hi402_4
     have HC402_4 := Aside0.mk hl402_4
     clear hi402_4 hl402_4
     replace p402 := eq_true p402
     replace q402 := eq_true q402
     have p404 : 0 ≤ (x4_1 : Int) := of_decide_eq_true (by first | (with_reducible assumption) | assumption)
     have q404 : x4_1 < (l0.length : Int) := of_decide_eq_true (by first | (with_reducible assumption) | assumption)
     obtain ⟨ad404, A404_2, c404_2, A404_3, c404_3, A404_4, c404_4, e404, hx404_0, hx404_1, hx404_2, hx404_3, hx404_4, hl404_2, hi404_2, hl404_3, hi404_3, hl404_4, hi404_4⟩ := at_T47 HR0.out x4_1 p404 q404
     have hw404_4 := hx404_4
     have hw404_3 := hx404_3
     have hw404_2 := hx404_2
     have hw404_1 := hx404_1
     have hw404_0 := hx404_0
     obtain rfl : ad402 = ad404 := (by injection e404)
     replace hx404_0 := bcell HB.out hx404_0
     replace hx404_1 := bcell HB.out hx404_1
     replace hx404_2 := bcell HB.out hx404_2
     replace hx404_3 := bcell HB.out hx404_3
     replace hx404_4 := bcell HB.out hx404_4
     have HR404_2 := Aside0.mk hi404_2
     have HC404_2 := Aside0.mk hl404_2
     clear hi404_2 hl404_2
     have HR404_3 := Aside0.mk hi404_3
     have HC404_3 := Aside0.mk hl404_3
     clear hi404_3 hl404_3
     have HR404_4 := Aside0.mk hi404_4
     have HC404_4 := Aside0.mk hl404_4
     clear hi404_4 hl404_4
     replace p404 := eq_true p404
     replace q404 := eq_true q404
     have ea_ := Option.some.inj (hx402_2.symm.trans hx404_2)
     injection ea_ with ea_ en_ ec_
     subst ea_
     subst ec_
     clear en_
     have ea_ := Option.some.inj (hx402_3.symm.trans hx404_3)
     injection ea_ with ea_ en_ ec_
     subst ea_
     subst ec_
     clear en_
     have ea_ := Option.some.inj (hx402_4.symm.trans hx404_4)
     injection ea_ with ea_ en_ ec_
     subst ea_
     subst ec_
     clear en_
     refine start_ (n := 17) (S := fun w' => w'.cell? (ad402.add ((x4_1).toNat * 5)) = some (.int .i64 ((rd_T47 l0 x4_1).f0)) ∧ w'.cell? ⟨(ad402.add ((x4_1).toNat * 5)).block, (ad402.add ((x4_1).toNat * 5)).off + 1, none⟩ = some (.int .i64 ((rd_T47 l0 x4_1).f1)) ∧ w'.cell? ⟨(ad402.add ((x4_1).toNat * 5)).block, (ad402.add ((x4_1).toNat * 5)).off + 2, none⟩ = some (.slice A402_2 ((rd_T47 l0 x4_1).f2).length c402_2) ∧ w'.cell? ⟨(ad402.add ((x4_1).toNat * 5)).block, (ad402.add ((x4_1).toNat * 5)).off + 3, none⟩ = some (.slice A402_3 ((rd_T47 l0 x4_1).f3).length c402_3) ∧ w'.cell? ⟨(ad402.add ((x4_1).toNat * 5)).block, (ad402.add ((x4_1).toNat * 5)).off + 4, none⟩ = some (.slice A402_4 ((rd_T47 l0 x4_1).f4).length c402_4) ∧ w'.cell? (ad402.add ((x4_1).toNat * 5)) = some (.int .i64 ((rd_T47 l0 x4_1).f0)) ∧ w'.cell? ⟨(ad402.add ((x4_1).toNat * 5)).block, (ad402.add ((x4_1).toNat * 5)).off + 1, none⟩ = some (.int .i64 ((rd_T47 l0 x4_1).f1)) ∧ w'.cell? ⟨(ad402.add ((x4_1).toNat * 5)).block, (ad402.add ((x4_1).toNat * 5)).off + 2, none⟩ = some (.slice A402_2 ((rd_T47 l0 x4_1).f2).length c402_2) ∧ w'.cell? ⟨(ad402.add ((x4_1).toNat * 5)).block, (ad402.add ((x4_1).toNat * 5)).off + 3, none⟩ = some (.slice A402_3 ((rd_T47 l0 x4_1).f3).length c402_3) ∧ w'.cell? ⟨(ad402.add ((x4_1).toNat * 5)).block, (ad402.add ((x4_1).toNat * 5)).off + 4, none⟩ = some (.slice A402_4 ((rd_T47 l0 x4_1).f4).length c402_4)) (ds := []) #[false, false, false, false, false, false, false, false, false, false, false, false, false, false, false, false, false] (by kernel_rfl) rfl rfl ⟨(bcell HB.out hw402_0), (bcell HB.out hw402_1), (bcell HB.out hw402_2), (bcell HB.out hw402_3), (bcell HB.out hw402_4), (bcell HB.out hw404_0), (bcell HB.out hw404_1), (bcell HB.out hw404_2), (bcell HB.out hw404_3), (bcell HB.out hw404_4)⟩ (fun hHeld => ?_); refine with_tabW r3_Count.tab5 r3_Count.bits5 (fun HT_ HW_ => ?_)
     generalize wr.drew = w6 at HB HR402_2 HR402_3 HR402_4 HR404_2 HR404_3 HR404_4 hx402_0 hx402_1 hx402_2 hx402_3 hx402_4 hx404_0 hx404_1 hx404_2 hx404_3 hx404_4 hHeld ⊢
     refine pure_ (i := 0) (N := some 11) (v := ?_) (a' := ?_) #[true, false, false, false, false, false, false, false, false, false, false, false, false, false, false, false, false] rfl rfl (any_of HT_.out (by kernel_rfl)) (fun _ _ _ h => h) (Or.inl ⟨by rfl, ?_⟩) ?_ ?_
     rotate_left
     ·intro w'
      go_simp
      with_reducible rfl
     rotate_left
     ·simp only [Act.put, List.setIfInBounds_toArray, List.set_cons_zero, List.set_cons_succ, i64_w, i32_w]
      rfl
     refine pure_ (i := 1) (N := some 12) (v := ?_) (a' := ?_) #[true, true, false, false, false, false, false, false, false, false, false, false, false, false, false, false, false] rfl rfl (any_of HT_.out (by kernel_rfl)) (fun _ _ _ h => h) (Or.inl ⟨by rfl, ?_⟩) ?_ ?_
     rotate_left
     ·intro w'
      go_simp
      with_reducible rfl
     rotate_left
     ·simp only [Act.put, List.setIfInBounds_toArray, List.set_cons_zero, List.set_cons_succ, i64_w, i32_w]
      rfl
     refine pure_ (i := 2) (N := some 13) (v := ?_) (a' := ?_) #[true, true, true, false, false, false, false, false, false, false, false, false, false, false, false, false, false] rfl rfl (any_of HT_.out (by kernel_rfl)) (fun _ _ _ h => h) (Or.inl ⟨by rfl, ?_⟩) ?_ ?_
     rotate_left
     ·intro w'
      go_simp
      with_reducible rfl
     rotate_left
     ·simp only [Act.put, List.setIfInBounds_toArray, List.set_cons_zero, List.set_cons_succ, i64_w, i32_w]
      rfl
     refine pure_ (i := 3) (N := some 14) (v := ?_) (a' := ?_) #[true, true, true, true, false, false, false, false, false, false, false, false, false, false, false, false, false] rfl rfl (any_of HT_.out (by kernel_rfl)) (fun _ _ _ h => h) (Or.inl ⟨by rfl, ?_⟩) ?_ ?_
     rotate_left
     ·intro w'
      go_simp
      with_reducible rfl
     rotate_left
     ·simp only [Act.put, List.setIfInBounds_toArray, List.set_cons_zero, List.set_cons_succ, i64_w, i32_w]
      rfl
     refine pure_ (i := 4) (N := some 15) (v := ?_) (a' := ?_) #[true, true, true, true, true, false, false, false, false, false, false, false, false, false, false, false, false] rfl rfl (any_of HT_.out (by kernel_rfl)) (fun _ _ _ h => h) (Or.inl ⟨by rfl, ?_⟩) ?_ ?_
     rotate_left
     ·intro w'
      go_simp
      with_reducible rfl
     rotate_left
     ·simp only [Act.put, List.setIfInBounds_toArray, List.set_cons_zero, List.set_cons_succ, i64_w, i32_w]
      rfl
     refine pure_ (i := 5) (N := some 16) (v := ?_) (a' := ?_) #[true, true, true, true, true, true, false, false, false, false, false, false, false, false, false, false, false] rfl rfl (any_of HT_.out (by kernel_rfl)) (fun _ _ _ h => h) (Or.inl ⟨by rfl, ?_⟩) ?_ ?_
     rotate_left
     ·intro w'
      go_simp
      with_reducible rfl
     rotate_left
     ·simp only [Act.put, List.setIfInBounds_toArray, List.set_cons_zero, List.set_cons_succ, i64_w, i32_w]
      rfl
     refine pure_ (i := 9) (N := some 20) (v := ?_) (a' := ?_) #[true, true, true, true, true, true, false, false, false, true, false, false, false, false, false, false, false] rfl rfl (any_of HT_.out (by kernel_rfl)) (fun _ _ _ h => h) (Or.inl ⟨by rfl, ?_⟩) ?_ ?_
     rotate_left
     ·intro w'
      go_simp
      with_reducible rfl
     rotate_left
     ·simp only [Act.put, List.setIfInBounds_toArray, List.set_cons_zero, List.set_cons_succ, i64_w, i32_w]
      rfl
     refine pure_ (i := 10) (N := some 21) (v := ?_) (a' := ?_) #[true, true, true, true, true, true, false, false, false, true, true, false, false, false, false, false, false] rfl rfl (any_of HT_.out (by kernel_rfl)) (fun _ _ _ h => h) (Or.inl ⟨by rfl, ?_⟩) ?_ ?_
     rotate_left
     ·intro w'
      go_simp
      with_reducible rfl
     rotate_left
     ·simp only [Act.put, List.setIfInBounds_toArray, List.set_cons_zero, List.set_cons_succ, i64_w, i32_w]
      rfl
     refine pure_ (i := 11) (N := some 22) (v := ?_) (a' := ?_) #[true, true, true, true, true, true, false, false, false, true, true, true, false, false, false, false, false] rfl rfl (any_of HT_.out (by kernel_rfl)) (fun _ _ _ h => h) (Or.inl ⟨by rfl, ?_⟩) ?_ ?_
     rotate_left
     ·intro w'
      go_simp
      with_reducible rfl
     rotate_left
     ·simp only [Act.put, List.setIfInBounds_toArray, List.set_cons_zero, List.set_cons_succ, i64_w, i32_w]
      rfl
     refine pure_ (i := 12) (N := some 23) (v := ?_) (a' := ?_) #[true, true, true, true, true, true, false, false, false, true, true, true, true, false, false, false, false] rfl rfl (any_of HT_.out (by kernel_rfl)) (fun _ _ _ h => h) (Or.inl ⟨by rfl, ?_⟩) ?_ ?_
     rotate_left
     ·intro w'
      go_simp
      with_reducible rfl
     rotate_left
     ·simp only [Act.put, List.setIfInBounds_toArray, List.set_cons_zero, List.set_cons_succ, i64_w, i32_w]
      rfl
     refine take_ (i := 6) (N := some 17) (v := ?_) (a' := ?_) #[true, true, true, true, true, true, true, false, false, true, true, true, true, false, false, false, false] rfl rfl (take_ofW HT_.out HW_.out (by kernel_rfl)) (fun _ _ _ h => h) (Or.inl ⟨by rfl, ?_⟩) hHeld ?_ ?_
     rotate_left
     ·rintro w' ⟨s0, s1, s2, s3, s4, s5, s6, s7, s8, s9⟩
      go_simp
      with_reducible rfl
     rotate_left
     ·simp only [Act.put, List.setIfInBounds_toArray, List.set_cons_zero, List.set_cons_succ, i64_w, i32_w]
      rfl
     refine take_ (i := 13) (N := some 24) (v := ?_) (a' := ?_) #[true, true, true, true, true, true, true, false, false, true, true, true, true, true, false, false, false] rfl rfl (take_ofW HT_.out HW_.out (by kernel_rfl)) (fun _ _ _ h => h) (Or.inl ⟨by rfl, ?_⟩) hHeld ?_ ?_
     rotate_left
     ·rintro w' ⟨s0, s1, s2, s3, s4, s5, s6, s7, s8, s9⟩
      go_simp
      with_reducible rfl
     rotate_left
     ·simp only [Act.put, List.setIfInBounds_toArray, List.set_cons_zero, List.set_cons_succ, i64_w, i32_w]
      rfl
     refine one_ (i := 7) (N := some 18) #[true, true, true, true, true, true, true, true, false, true, true, true, true, true, false, false, false] rfl rfl (one_of HT_.out (by kernel_rfl)) (by decide) (fun K hK => ?_)
     refine goes_ Try.func35 (by kernel_rfl) rfl #[.slice A402_3 ((rd_T47 l0 x4_1).f3).length c402_3] (by rfl) rfl rfl (by (try simp only [List.map_toArray, List.map_cons, List.map_nil]); first | done | rfl | (simp only [List.length_drop, List.length_take]; rfl)) ?_
     with_reducible refine (ih k1 (by have := HK1.out; omega) _ _ ((rd_T47 l0 x4_1).f3) t403 _ ?side1 ?side2 A4.out).mono ?_
     (case side1 => repeat (first | exact (Kd.C_below HR402_3.out HB.out) | with_reducible first | apply Kd.C_alloc | apply Kd.C_drewN | apply Kd.C_drew))
     (case side2 => exact HC402_3.out)
     rintro e w7 ⟨rfl, hb⟩
     refine ⟨_, rfl, ?_⟩
     have n0_ := Aside0.mk (bsp (by repeat (first | (with_reducible first | exact HB.out | apply bal | apply bdN | apply bd1) | exact HB.out)) hb)
     clear HB
     have HB := n0_
     clear n0_
     (try clear hb)
     (try clear hb2)
     (try clear hk)
     (try clear hi)
     refine hK.out _ _ ⟨(bcell HB.out hw402_0), (bcell HB.out hw402_1), (bcell HB.out hw402_2), (bcell HB.out hw402_3), (bcell HB.out hw402_4), (bcell HB.out hw404_0), (bcell HB.out hw404_1), (bcell HB.out hw404_2), (bcell HB.out hw404_3), (bcell HB.out hw404_4)⟩ (fun hHeld => ?_)
     clear hK K
     refine norm_ (a' := ?_) ?_ ?_
     rotate_left
     ·show Act.put _ (some 18) _ = _
      simp only [Act.put, List.setIfInBounds_toArray, List.set_cons_zero, List.set_cons_succ, i64_w, i32_w]
      rfl
     refine pure_ (i := 8) (N := some 19) (v := ?_) (a' := ?_) #[true, true, true, true, true, true, true, true, true, true, true, true, true, true, false, false, false] rfl rfl (any_of HT_.out (by kernel_rfl)) (fun _ _ _ h => h) (Or.inl ⟨by rfl, ?_⟩) ?_ ?_
     rotate_left
     ·intro w'
      go_simp
      with_reducible rfl
     rotate_left
     ·simp only [Act.put, List.setIfInBounds_toArray, List.set_cons_zero, List.set_cons_succ, i64_w, i32_w]
      rfl
     refine one_ (i := 14) (N := some 25) #[true, true, true, true, true, true, true, true, true, true, true, true, true, true, true, false, false] rfl rfl (one_of HT_.out (by kernel_rfl)) (by decide) (fun K hK => ?_)
     refine goes_ Try.func35 (by kernel_rfl) rfl #[.slice A402_4 ((rd_T47 l0 x4_1).f4).length c402_4] (by rfl) rfl rfl (by (try simp only [List.map_toArray, List.map_cons, List.map_nil]); first | done | rfl | (simp only [List.length_drop, List.length_take]; rfl)) ?_
     with_reducible refine (ih k1 (by have := HK1.out; omega) _ _ ((rd_T47 l0 x4_1).f4) t405 _ ?side1 ?side2 A5.out).mono ?_
     (case side1 => repeat (first | exact (Kd.C_below HR404_4.out HB.out) | with_reducible first | apply Kd.C_alloc | apply Kd.C_drewN | apply Kd.C_drew))
     (case side2 => exact HC404_4.out)
     rintro e w8 ⟨rfl, hb⟩
     refine ⟨_, rfl, ?_⟩
     have n0_ := Aside0.mk (bsp (by repeat (first | (with_reducible first | exact HB.out | apply bal | apply bdN | apply bd1) | exact HB.out)) hb)
     clear HB
     have HB := n0_
     clear n0_
     (try clear hb)
     (try clear hb2)
     (try clear hk)
     (try clear hi)
     refine hK.out _ _ ⟨(bcell HB.out hw402_0), (bcell HB.out hw402_1), (bcell HB.out hw402_2), (bcell HB.out hw402_3), (bcell HB.out hw402_4), (bcell HB.out hw404_0), (bcell HB.out hw404_1), (bcell HB.out hw404_2), (bcell HB.out hw404_3), (bcell HB.out hw404_4)⟩ (fun hHeld => ?_)
     clear hK K
     refine norm_ (a' := ?_) ?_ ?_
     rotate_left
     ·show Act.put _ (some 25) _ = _
      simp only [Act.put, List.setIfInBounds_toArray, List.set_cons_zero, List.set_cons_succ, i64_w, i32_w]
      rfl
     refine pure_ (i := 15) (N := some 26) (v := ?_) (a' := ?_) #[true, true, true, true, true, true, true, true, true, true, true, true, true, true, true, true, false] rfl rfl (any_of HT_.out (by kernel_rfl)) (fun _ _ _ h => h) (Or.inl ⟨by rfl, ?_⟩) ?_ ?_
     rotate_left
     ·intro w'
      go_simp
      with_reducible rfl
     rotate_left
     ·simp only [Act.put, List.setIfInBounds_toArray, List.set_cons_zero, List.set_cons_succ, i64_w, i32_w]
      rfl
     refine pure_ (i := 16) (N := some 3) (v := ?_) (a' := ?_) #[true, true, true, true, true, true, true, true, true, true, true, true, true, true, true, true, true] rfl rfl (any_of HT_.out (by kernel_rfl)) (fun _ _ _ h => h) (Or.inl ⟨by rfl, ?_⟩) ?_ ?_
     rotate_left
     ·intro w'
      go_simp
      with_reducible rfl
     rotate_left
     ·simp only [Act.put, List.setIfInBounds_toArray, List.set_cons_zero, List.set_cons_succ, i64_w, i32_w]
      rfl
     refine done_ (done_of HT_.out (by kernel_rfl)) ?_
     try go_wp2
     go_roundg k1
     case measure => have := HK1.out; omega
     case rel => exact ⟨(wrap64 ((wrap64 ((wrap64 (x3_1 + 1)) + t403)) + t405)), (wrap64 (x4_1 + 1)), (by first | rfl | (simp; done) | (simp [*]; done)), (by first | rfl | (simp; done) | (simp [*]; done)), H', ⟨by have := HK1.out; omega⟩, ⟨by repeat (first | (with_reducible first | exact HB.out | apply bal | apply bdN | apply bd1) | exact HB.out)⟩⟩
    ·rw [if_neg c3] at H
     exact absurd H (by simp)
   ·rw [if_neg c2] at H
    have c2b0 : decide (x4_1 < (l0.length : Int)) = false := decide_eq_false c2
    clear c2
    obtain rfl := Option.some.inj H
    go_wp2
    go_ret
    exact ⟨by first | rfl | (simp [*] <;> rfl), by repeat (first | (with_reducible first | exact HB.out | apply bal | apply bdN | apply bd1) | exact HB.out)⟩
theorem rcount_tells : (∀ x, goodS x → sN x ≤ 1000000 → Tells (fun k => r3_Count.f k x.f3) (sCs x.f3 : Int) ∧ Tells (fun k => r3_Count.f k x.f4) (sCs x.f4 : Int)) ∧
    (∀ suf, ∀ (pre : List S47) (n : Nat), goodSs suf → (pre ++ suf).length ≤ 9223372036854775807 → n + sNs suf ≤ 1000000 → Tells (fun k => r3_Count.l0 k (pre ++ suf) (n : Int) (pre.length : Int)) ((n + sCs suf : Nat) : Int)) := by
  refine S_ind (fun a b l t e h1 h2 => ?_) ?_ (fun x r ih1 ih2 => ?_)
  · intro hg hn
    rw [goodS_mk] at hg
    rw [sN_eq] at hn
    simp only at hn
    constructor
    · refine Tells.succ ?_
      simp only [r3_Count.f]
      have := h1 [] 0 hg.2.1.2 hg.2.1.1 (by omega)
      rw [Nat.zero_add] at this
      exact this
    · refine Tells.succ ?_
      simp only [r3_Count.f]
      have := h2 [] 0 hg.2.2.2 hg.2.2.1 (by omega)
      rw [Nat.zero_add] at this
      exact this
  · intro pre n _ _ _
    refine Tells.succ ?_
    simp only [r3_Count.l0, pre_nlt, if_false]
    rw [sCs_nil, Nat.add_zero]
    exact Tells.pure _
  · intro pre n hg hl hn
    rw [goodSs_cons] at hg
    rw [sNs_cons] at hn
    have hle := (s_le.1 x).1
    rw [sC_eq] at hle
    refine Tells.succ ?_
    simp only [r3_Count.l0, pre_lt, pre_pos, if_true, rdS_mid]
    obtain ⟨t1, t2⟩ := ih1 hg.1 (by omega)
    refine Tells.bind t1 (Tells.bind t2 ?_)
    have t3 := ih2 (pre ++ [x]) (n + (1 + sCs x.f3 + sCs x.f4)) hg.2 (by rw [← pre_app]; exact hl) (by omega)
    rw [← pre_app] at t3
    rw [pre_next pre x r hl, w64 (n := (n : Int) + 1) (by omega) (by omega), w64 (n := (n : Int) + 1 + (sCs x.f3 : Int)) (by omega) (by omega), w64 (n := (n : Int) + 1 + (sCs x.f3 : Int) + (sCs x.f4 : Int)) (by omega) (by omega),
      show (n : Int) + 1 + (sCs x.f3 : Int) + (sCs x.f4 : Int) = ((n + (1 + sCs x.f3 + sCs x.f4) : Nat) : Int) by omega]
    rw [sCs_cons, sC_eq, show n + (1 + sCs x.f3 + sCs x.f4 + sCs r) = n + (1 + sCs x.f3 + sCs x.f4) + sCs r by omega]
    exact t3
theorem Count_tells (l : List S47) (hl : l.length ≤ 9223372036854775807) (hg : goodSs l) (hn : sNs l ≤ 1000000) : Tells (fun k => r3_Count.f k l) (sCs l : Int) := by
  refine Tells.succ ?_
  simp only [r3_Count.f]
  have := rcount_tells.2 l [] 0 hg hl (by omega)
  rw [Nat.zero_add] at this
  exact this
mutual
def wkS (n : Int) : S47 → List (Int × S47)
  | ⟨op, m, a, t, e⟩ => (n, ⟨op, m, a, t, e⟩) :: (wks (n + 1) t ++ wks (n + 1 + sCs t) e)
def wks (n : Int) : List S47 → List (Int × S47)
  | [] => []
  | x :: r => wkS n x ++ wks (n + sC x) r
end
theorem wkS_eq (n : Int) (x : S47) : wkS n x = (n, x) :: (wks (n + 1) x.f3 ++ wks (n + 1 + sCs x.f3) x.f4) := by cases x; simp only [wkS]
theorem wks_nil (n : Int) : wks n [] = [] := by simp only [wks]
theorem wks_cons (n : Int) (x : S47) (r : List S47) : wks n (x :: r) = wkS n x ++ wks (n + sC x) r := by simp only [wks]
theorem walk_tells : (∀ x, goodS x → ∀ n : Int, 0 ≤ n → n + sC x ≤ 1000000 → Tells (fun k => prog_walk.f k x.f3 (n + 1)) (wks (n + 1) x.f3, n + 1 + sCs x.f3) ∧ Tells (fun k => prog_walk.f k x.f4 (n + 1 + sCs x.f3)) (wks (n + 1 + sCs x.f3) x.f4, n + 1 + sCs x.f3 + sCs x.f4)) ∧
    (∀ suf, ∀ (pre : List S47), goodSs suf → (pre ++ suf).length ≤ 9223372036854775807 → ∀ n : Int, 0 ≤ n → n + sCs suf ≤ 1000000 → Tells (fun k => prog_walk.l0 k (pre ++ suf) (pre.length : Int) n) (wks n suf, n + sCs suf)) := by
  refine S_ind (fun a b l t e h1 h2 => ?_) ?_ (fun x r ih1 ih2 => ?_)
  · intro hg n h0 hn
    rw [goodS_mk] at hg
    rw [sC_eq] at hn
    simp only at hn ⊢
    constructor
    · refine Tells.succ ?_
      simp only [prog_walk.f]
      exact h1 [] hg.2.1.2 hg.2.1.1 (n + 1) (by omega) (by omega)
    · refine Tells.succ ?_
      simp only [prog_walk.f]
      exact h2 [] hg.2.2.2 hg.2.2.1 (n + 1 + sCs t) (by omega) (by omega)
  · intro pre _ _ n _ _
    refine Tells.succ ?_
    simp only [prog_walk.l0, pre_nlt, if_false]
    rw [sCs_nil, wks_nil, show n + ((0 : Nat) : Int) = n by omega]
    exact Tells.pure _
  · intro pre hg hl n h0 hn
    rw [goodSs_cons] at hg
    rw [sCs_cons] at hn
    obtain ⟨t1, t2⟩ := ih1 hg.1 n h0 (by omega)
    have t3 := ih2 (pre ++ [x]) hg.2 (by rw [← pre_app]; exact hl) (n + sC x) (by omega) (by omega)
    rw [← pre_app] at t3
    have e : (sC x : Int) = 1 + sCs x.f3 + sCs x.f4 := by rw [sC_eq]; omega
    have hb := sC_eq x
    refine Tells.succ ?_
    simp only [prog_walk.l0, pre_lt, pre_pos, if_true, rdS_mid]
    rw [pre_next pre x r hl, w64 (n := n + 1) (by omega) (by omega), show n + 1 - 1 = n by omega, w64 (n := n) (by omega) (by omega)]
    rw [show n + ((sCs (x :: r) : Nat) : Int) = n + sC x + sCs r by rw [sCs_cons]; omega, wks_cons, wkS_eq, List.cons_append, List.append_assoc]
    refine Tells.bind t1 (Tells.bind t2 ?_)
    rw [show n + 1 + (sCs x.f3 : Int) + (sCs x.f4 : Int) = n + sC x by omega]
    exact Tells.bind t3 (Tells.pure _)
theorem eNs_len : ∀ l : List S96, l.length ≤ eNs l
  | [] => Nat.zero_le _
  | x :: r => by
    have := eNs_len r
    have := eN_pos x
    rw [eNs_cons, List.length_cons]
    omega
theorem E_eta (x : S96) : (⟨x.f0, x.f1, x.f2, x.f3⟩ : S96) = x := by cases x; rfl
theorem S_eta (x : S47) : (⟨x.f0, x.f1, x.f2, x.f3, x.f4⟩ : S47) = x := by cases x; rfl
theorem sN_pos (x : S47) : 1 ≤ sN x := by rw [sN_eq]; omega
theorem sNs_len : ∀ l : List S47, l.length ≤ sNs l
  | [] => Nat.zero_le _
  | x :: r => by
    have := sNs_len r
    have := sN_pos x
    rw [sNs_cons, List.length_cons]
    omega
theorem copyE : (∀ x, goodE x → eN x ≤ 1000 → Tells (fun k => prog_copiedExprs.f k x.f3) x.f3) ∧
    (∀ suf, ∀ (pre acc : List S96), goodEs suf → (pre ++ suf).length ≤ 9223372036854775807 → eNs suf ≤ 1000 → acc.length + suf.length ≤ 1000 → Tells (fun k => prog_copiedExprs.l0 k acc (pre ++ suf) ((pre ++ suf).length : Int) (pre.length : Int)) (acc ++ suf)) := by
  refine E_ind (fun a b c l ih => ?_) ?_ (fun x r ih1 ih2 => ?_)
  · intro hg hn
    rw [goodE_mk] at hg
    simp only [eN] at hn
    have := eNs_len l
    refine Tells.succ ?_
    simp only [prog_copiedExprs.f]
    exact ih [] [] hg.2 hg.1 (by omega) (by simp only [List.length_nil]; omega)
  · intro pre acc _ _ _ _
    refine Tells.succ ?_
    simp only [prog_copiedExprs.l0, pre_nlt, if_false]
    rw [List.append_nil]
    exact Tells.pure _
  · intro pre acc hg hl hn ha
    rw [eNs_cons] at hn
    rw [List.length_cons] at ha
    refine Tells.succ ?_
    simp only [prog_copiedExprs.l0, pre_lt, pre_pos, if_true, rdE_mid]
    refine Tells.bind (ih1 hg.1 (by omega)) (Tells.ifT (by omega) ?_)
    have := ih2 (pre ++ [x]) (acc ++ [x]) hg.2 (by rw [← pre_app]; exact hl) (by omega) (by rw [List.length_append, List.length_singleton]; omega)
    rw [← pre_app, ← pre_app] at this
    simp only [E_eta]
    rw [pre_next pre x r hl]
    exact this
theorem copyEs (l : List S96) (hg : goodEs l) (hl : l.length ≤ 9223372036854775807) (hn : eNs l ≤ 1000) : Tells (fun k => prog_copiedExprs.f k l) l := by
  have := eNs_len l
  refine Tells.succ ?_
  simp only [prog_copiedExprs.f]
  exact copyE.2 l [] [] hg hl hn (by simp only [List.length_nil]; omega)
theorem copyS : (∀ x, goodS x → sN x ≤ 1000 → Tells (fun k => prog_Copied.f k x.f0 x.f1 x.f2 x.f3 x.f4) (x.f0, x.f1, x.f2, x.f3, x.f4)) ∧
    (∀ suf, goodSs suf → sNs suf ≤ 1000 → ∀ (pre acc : List S47), (pre ++ suf).length ≤ 9223372036854775807 → acc.length + suf.length ≤ 1000 →
      (∀ (x3 : List S47) (op n : Int) (a : List S96) (t e : List S47), Tells (fun k => prog_Copied.l1 k x3 acc (pre ++ suf) ((pre ++ suf).length : Int) (pre.length : Int) op n a t e) (op, n, a, x3, acc ++ suf)) ∧
      (∀ (op n : Int) (a : List S96) (t e : List S47) v, Tells (fun k => prog_Copied.l1 k (acc ++ suf) [] e (e.length : Int) 0 op n a t e) v → Tells (fun k => prog_Copied.l0 k acc (pre ++ suf) ((pre ++ suf).length : Int) (pre.length : Int) op n a t e) v)) := by
  refine S_ind (fun a b l t e h1 h2 => ?_) ?_ (fun x r ih1 ih2 => ?_)
  · intro hg hn
    rw [goodS_mk] at hg
    rw [sN_eq] at hn
    simp only at hn ⊢
    have n1 := sNs_len t
    have n2 := sNs_len e
    refine Tells.succ ?_
    simp only [prog_Copied.f]
    refine Tells.bind (copyEs l hg.1.2 hg.1.1 (by omega)) ?_
    refine (h1 hg.2.1.2 (by omega) [] [] hg.2.1.1 (by simp only [List.length_nil]; omega)).2 a b l t e _ ?_
    exact (h2 hg.2.2.2 (by omega) [] [] hg.2.2.1 (by simp only [List.length_nil]; omega)).1 ([] ++ t) a b l t e
  · intro _ _ pre acc _ _
    constructor
    · intro x3 op n a t e
      refine Tells.succ ?_
      simp only [prog_Copied.l1, pre_nlt, if_false]
      rw [List.append_nil]
      exact Tells.pure _
    · intro op n a t e v h
      refine Tells.succ ?_
      simp only [prog_Copied.l0, pre_nlt, if_false]
      rw [List.append_nil] at h
      exact h
  · intro hg hn pre acc hl ha
    rw [goodSs_cons] at hg
    rw [sNs_cons] at hn
    rw [List.length_cons] at ha
    obtain ⟨q1, q2⟩ := ih2 hg.2 (by omega) (pre ++ [x]) (acc ++ [x]) (by rw [← pre_app]; exact hl) (by rw [List.length_append, List.length_singleton]; omega)
    constructor
    · intro x3 op n a t e
      refine Tells.succ ?_
      simp only [prog_Copied.l1, pre_lt, pre_pos, if_true, rdS_mid]
      refine Tells.bind (ih1 hg.1 (by omega)) (Tells.ifT (by omega) ?_)
      have := q1 x3 op n a t e
      rw [← pre_app, ← pre_app] at this
      simp only [S_eta]
      rw [pre_next pre x r hl]
      exact this
    · intro op n a t e v h
      refine Tells.succ ?_
      simp only [prog_Copied.l0, pre_lt, pre_pos, if_true, rdS_mid]
      refine Tells.bind (ih1 hg.1 (by omega)) (Tells.ifT (by omega) ?_)
      have := q2 op n a t e v (by rw [← pre_app]; exact h)
      rw [← pre_app] at this
      simp only [S_eta]
      rw [pre_next pre x r hl]
      exact this
def NumFrom (n : Int) (its : List (Int × S47)) : Prop := ∀ (i : Nat) x, its[i]? = some x → x.1 = n + (i : Int)
theorem num_app {n : Int} {a b : List (Int × S47)} (ha : NumFrom n a) (hb : NumFrom (n + a.length) b) : NumFrom n (a ++ b) := by
  intro i x h
  rcases Nat.lt_or_ge i a.length with hi | hi
  · rw [List.getElem?_append_left hi] at h
    exact ha i x h
  · rw [List.getElem?_append_right hi] at h
    have := hb _ x h
    omega
theorem num_cons {n : Int} {x : S47} {b : List (Int × S47)} (hb : NumFrom (n + 1) b) : NumFrom n ((n, x) :: b) := by
  intro i y h
  cases i with
  | zero =>
    have : (n, x) = y := by simpa using h
    rw [← this]
    simp
  | succ i =>
    rw [List.getElem?_cons_succ] at h
    have := hb i y h
    push_cast
    omega
theorem wks_len : (∀ x : S47, (∀ n, (wks n x.f3).length = sCs x.f3) ∧ (∀ n, (wks n x.f4).length = sCs x.f4)) ∧ (∀ l n, (wks n l).length = sCs l) := by
  refine S_ind (fun a b l t e h1 h2 => ⟨h1, h2⟩) (fun n => by rw [wks_nil, sCs_nil]; rfl) (fun x r ih1 ih2 => ?_)
  intro n
  rw [wks_cons, wkS_eq, sCs_cons, sC_eq, List.length_append, List.length_cons, List.length_append, ih1.1, ih1.2, ih2]
  omega
theorem wks_num : (∀ x : S47, (∀ n, NumFrom n (wks n x.f3)) ∧ (∀ n, NumFrom n (wks n x.f4))) ∧ (∀ l n, NumFrom n (wks n l)) := by
  refine S_ind (fun a b l t e h1 h2 => ⟨h1, h2⟩) (fun n => by rw [wks_nil]; intro i x h; simp at h) (fun x r ih1 ih2 => ?_)
  intro n
  have hl : (wkS n x).length = sC x := by rw [wkS_eq, sC_eq, List.length_cons, List.length_append, (wks_len.1 x).1, (wks_len.1 x).2]; omega
  rw [wks_cons]
  refine num_app ?_ (by rw [hl]; exact ih2 _)
  rw [wkS_eq]
  refine num_cons (num_app (ih1.1 _) ?_)
  rw [(wks_len.1 x).1]
  exact ih1.2 _
theorem wks_good : (∀ x : S47, goodS x → (∀ n, ∀ y ∈ wks n x.f3, goodS y.2 ∧ sN y.2 ≤ sNs x.f3) ∧ (∀ n, ∀ y ∈ wks n x.f4, goodS y.2 ∧ sN y.2 ≤ sNs x.f4)) ∧ (∀ l, goodSs l → ∀ n, ∀ y ∈ wks n l, goodS y.2 ∧ sN y.2 ≤ sNs l) := by
  refine S_ind (fun a b l t e h1 h2 hg => ?_) (fun _ n y hy => by rw [wks_nil] at hy; cases hy) (fun x r ih1 ih2 => ?_)
  · rw [goodS_mk] at hg
    exact ⟨h1 hg.2.1.2, h2 hg.2.2.2⟩
  · intro hg n y hy
    rw [goodSs_cons] at hg
    rw [wks_cons, wkS_eq, List.mem_append, List.mem_cons, List.mem_append] at hy
    have e := sN_eq x
    rw [sNs_cons]
    rcases hy with (rfl | hy | hy) | hy
    · exact ⟨hg.1, by simp only; omega⟩
    · have := (ih1 hg.1).1 _ y hy
      exact ⟨this.1, by omega⟩
    · have := (ih1 hg.1).2 _ y hy
      exact ⟨this.1, by omega⟩
    · have := ih2 hg.2 _ y hy
      exact ⟨this.1, by omega⟩
theorem Tells.all {α β : Type} {g : α → Nat → Option β} {v : α → β} : ∀ (l : List α), (∀ x ∈ l, Tells (g x) (v x)) → ∃ k0, ∀ k, k0 ≤ k → ∀ x ∈ l, g x k = some (v x)
  | [], _ => ⟨0, fun _ _ x hx => by cases hx⟩
  | x :: r, h => by
    obtain ⟨a, ha⟩ := h x (by simp)
    obtain ⟨b, hb⟩ := Tells.all r (fun y hy => h y (by simp [hy]))
    refine ⟨max a b, fun k hk y hy => ?_⟩
    rcases List.mem_cons.1 hy with rfl | hy
    · exact ha k (by omega)
    · exact hb k (by omega) y hy
def heads (n : Int) : List S47 → List Int
  | [] => []
  | x :: r => n :: heads (n + sC x) r
theorem heads_length : ∀ (l : List S47) (n : Int), (heads n l).length = l.length
  | [], _ => rfl
  | x :: r, n => by rw [heads, List.length_cons, List.length_cons, heads_length r]
theorem heads_ge : ∀ (l : List S47) (n y : Int), y ∈ heads n l → n ≤ y
  | [], n, y, h => by cases h
  | x :: r, n, y, h => by
    rw [heads, List.mem_cons] at h
    rcases h with rfl | h
    · exact Int.le_refl _
    · have := heads_ge r _ y h
      omega
def kidsOf (x : Int × S47) : List Int := heads (x.1 + 1) x.2.f3 ++ heads (x.1 + 1 + sCs x.2.f3) x.2.f4
def rng (n : Int) (c : Nat) : List Int := (List.range c).map fun i : Nat => n + (i : Int)
theorem rng_add (n : Int) (a b : Nat) : rng n (a + b) = rng n a ++ rng (n + a) b := by
  unfold rng
  rw [List.range_add, List.map_append, List.map_map]
  congr 1
  apply List.map_congr_left
  intro i _
  simp only [Function.comp]
  push_cast
  omega
theorem rng_one (n : Int) : rng n 1 = [n] := by unfold rng; simp
theorem rng_mem (n y : Int) (c : Nat) : y ∈ rng n c ↔ n ≤ y ∧ y < n + c := by
  unfold rng
  rw [List.mem_map]
  constructor
  · rintro ⟨i, hi, rfl⟩
    rw [List.mem_range] at hi
    omega
  · intro h
    exact ⟨(y - n).toNat, by rw [List.mem_range]; omega, by omega⟩
theorem rng_nodup (n : Int) (c : Nat) : (rng n c).Nodup := by
  unfold rng
  rw [List.Nodup, List.pairwise_map]
  exact List.Pairwise.imp (fun h e => h (by omega)) List.nodup_range
theorem kids_perm : (∀ x : S47, (∀ n, (heads n x.f3 ++ (wks n x.f3).flatMap kidsOf).Perm (rng n (sCs x.f3))) ∧ (∀ n, (heads n x.f4 ++ (wks n x.f4).flatMap kidsOf).Perm (rng n (sCs x.f4)))) ∧
    (∀ l n, (heads n l ++ (wks n l).flatMap kidsOf).Perm (rng n (sCs l))) := by
  refine S_ind (fun a b l t e h1 h2 => ⟨h1, h2⟩) (fun n => ?_) (fun x r ih1 ih2 => ?_)
  · rw [wks_nil, sCs_nil]
    exact List.Perm.refl _
  · intro n
    have p1 := ih1.1 (n + 1)
    have p2 := ih1.2 (n + 1 + sCs x.f3)
    have p3 := ih2 (n + sC x)
    have e : rng n (sCs (x :: r)) = n :: (rng (n + 1) (sCs x.f3) ++ (rng (n + 1 + sCs x.f3) (sCs x.f4) ++ rng (n + sC x) (sCs r))) := by
      rw [sCs_cons, sC_eq, show 1 + sCs x.f3 + sCs x.f4 + sCs r = 1 + (sCs x.f3 + (sCs x.f4 + sCs r)) by omega, rng_add, rng_add, rng_add, rng_one]
      have h1 : n + ((1 : Nat) : Int) = n + 1 := by omega
      have h2 : n + ((1 : Nat) : Int) + (sCs x.f3 : Int) + (sCs x.f4 : Int) = n + ((1 + sCs x.f3 + sCs x.f4 : Nat) : Int) := by omega
      rw [h2, h1]
      rfl
    rw [e, List.perm_iff_count]
    intro a
    have q1 := List.perm_iff_count.1 p1 a
    have q2 := List.perm_iff_count.1 p2 a
    have q3 := List.perm_iff_count.1 p3 a
    rw [wks_cons, wkS_eq, heads]
    unfold kidsOf
    simp only [List.cons_append, List.flatMap_cons, List.flatMap_append, List.count_append, List.count_cons] at q1 q2 q3 ⊢
    unfold kidsOf at q1 q2 q3
    omega
theorem size_tells : (∀ x, goodS x → sN x ≤ 1000000 → Tells (fun k => prog_size.f k x.f3) (sCs x.f3 : Int) ∧ Tells (fun k => prog_size.f k x.f4) (sCs x.f4 : Int)) ∧
    (∀ suf, ∀ (pre : List S47) (n : Nat), goodSs suf → (pre ++ suf).length ≤ 9223372036854775807 → n + sNs suf ≤ 1000000 → Tells (fun k => prog_size.l0 k (n : Int) (pre ++ suf) ((pre ++ suf).length : Int) (pre.length : Int)) ((n + sCs suf : Nat) : Int)) := by
  refine S_ind (fun a b l t e h1 h2 => ?_) ?_ (fun x r ih1 ih2 => ?_)
  · intro hg hn
    rw [goodS_mk] at hg
    rw [sN_eq] at hn
    simp only at hn
    constructor
    · refine Tells.succ ?_
      simp only [prog_size.f]
      have := h1 [] 0 hg.2.1.2 hg.2.1.1 (by omega)
      rw [Nat.zero_add] at this
      exact this
    · refine Tells.succ ?_
      simp only [prog_size.f]
      have := h2 [] 0 hg.2.2.2 hg.2.2.1 (by omega)
      rw [Nat.zero_add] at this
      exact this
  · intro pre n _ _ _
    refine Tells.succ ?_
    simp only [prog_size.l0, pre_nlt, if_false]
    rw [sCs_nil, Nat.add_zero]
    exact Tells.pure _
  · intro pre n hg hl hn
    rw [goodSs_cons] at hg
    rw [sNs_cons] at hn
    have hle := (s_le.1 x).1
    rw [sC_eq] at hle
    refine Tells.succ ?_
    simp only [prog_size.l0, pre_lt, pre_pos, if_true, rdS_mid]
    obtain ⟨t1, t2⟩ := ih1 hg.1 (by omega)
    refine Tells.bind t1 (Tells.bind t2 ?_)
    have t3 := ih2 (pre ++ [x]) (n + (1 + sCs x.f3 + sCs x.f4)) hg.2 (by rw [← pre_app]; exact hl) (by omega)
    rw [← pre_app] at t3
    rw [pre_next pre x r hl, w64 (n := 1 + (sCs x.f3 : Int)) (by omega) (by omega), w64 (n := 1 + (sCs x.f3 : Int) + (sCs x.f4 : Int)) (by omega) (by omega), w64 (n := (n : Int) + (1 + (sCs x.f3 : Int) + (sCs x.f4 : Int))) (by omega) (by omega),
      show (n : Int) + (1 + (sCs x.f3 : Int) + (sCs x.f4 : Int)) = ((n + (1 + sCs x.f3 + sCs x.f4) : Nat) : Int) by omega]
    rw [sCs_cons, sC_eq, show n + (1 + sCs x.f3 + sCs x.f4 + sCs r) = n + (1 + sCs x.f3 + sCs x.f4) + sCs r by omega]
    exact t3
theorem numbers_loop : ∀ (suf pre : List S47) (n : Int) (acc : List Int), goodSs suf → (pre ++ suf).length ≤ 9223372036854775807 → sNs suf ≤ 1000 → 0 ≤ n → n + sCs suf ≤ 1000000 → acc.length + suf.length ≤ 2000 →
    Tells (fun k => prog_numbers.l0 k n acc (pre ++ suf) ((pre ++ suf).length : Int) (pre.length : Int)) (acc ++ heads n suf)
  | [], pre, n, acc, _, _, _, _, _, _ => by
    refine Tells.succ ?_
    simp only [prog_numbers.l0, pre_nlt, if_false, heads]
    rw [List.append_nil]
    exact Tells.pure _
  | x :: r, pre, n, acc, hg, hl, hs, h0, hn, ha => by
    rw [goodSs_cons] at hg
    rw [sNs_cons] at hs
    rw [sCs_cons] at hn
    rw [List.length_cons] at ha
    have hle := (s_le.1 x).1
    have hsc := sC_eq x
    obtain ⟨t1, t2⟩ := size_tells.1 x hg.1 (by omega)
    have t3 := numbers_loop r (pre ++ [x]) (n + sC x) (acc ++ [n]) hg.2 (by rw [← pre_app]; exact hl) (by omega) (by omega) (by omega) (by rw [List.length_append, List.length_singleton]; omega)
    rw [← pre_app, List.append_assoc] at t3
    refine Tells.succ ?_
    simp only [prog_numbers.l0, pre_lt, pre_pos, if_true, rdS_mid]
    refine Tells.ifT (by omega) (Tells.bind t1 (Tells.bind t2 ?_))
    rw [pre_next pre x r hl, w64 (n := 1 + (sCs x.f3 : Int)) (by omega) (by omega), w64 (n := 1 + (sCs x.f3 : Int) + (sCs x.f4 : Int)) (by omega) (by omega), w64 (n := n + (1 + (sCs x.f3 : Int) + (sCs x.f4 : Int))) (by omega) (by omega),
      show n + (1 + (sCs x.f3 : Int) + (sCs x.f4 : Int)) = n + sC x by omega]
    exact t3
theorem numbers_tells (l : List S47) (n : Int) (hg : goodSs l) (hl : l.length ≤ 9223372036854775807) (hs : sNs l ≤ 1000) (h0 : 0 ≤ n) (h1 : n ≤ 900000) : Tells (fun k => prog_numbers.f k l n) (heads n l) := by
  unfold prog_numbers.f
  have h2 := sNs_len l
  have h3 := (s_le.2 l).1
  exact numbers_loop l [] n [] hg hl hs h0 (by omega) (by rw [List.length_nil]; omega)
theorem inside_tells (w : Int) (vars : List S82) (body : List S47) (hl : body.length ≤ 9223372036854775807) (hg : goodSs body) (hp : pIs w vars body = true) (n : Nat) (x : Int × S47) (hx : (wks 0 body)[n]? = some x) :
    Tells (fun k => prog_Inside.f k w vars body (n : Int)) (heads ((n : Int) + 1) x.2.f3, heads ((n : Int) + 1 + sCs x.2.f3) x.2.f4, 0) := by
  obtain ⟨hh, hn4⟩ := pIs_all hp
  have hle := (s_le.2 body).1
  have tc := pCheck_tells w vars body hl hg
  rw [hp] at tc
  obtain ⟨hlt, hxe⟩ := List.getElem?_eq_some_iff.1 hx
  have hlen := wks_len.2 body 0
  have hnum := wks_num.2 body 0 n x hx
  have hmem : x ∈ wks 0 body := by rw [← hxe]; exact List.getElem_mem hlt
  obtain ⟨gx, nx⟩ := wks_good.2 body hg 0 x hmem
  have gx' := gx
  rw [goodS_eq] at gx'
  have nx' := sN_eq x.2
  have hsc3 := (s_le.2 x.2.f3).1
  have tw : Tells (fun k => prog_walk.f k body 0) (wks 0 body, 0 + sCs body) := by
    refine Tells.succ ?_
    simp only [prog_walk.f]
    exact walk_tells.2 body [] hg hl 0 (by decide) (by omega)
  have hfind : (wks 0 body).find? (fun y => decide (y.1 = (n : Int))) = some x := by
    refine find_at (p := fun y : Int × S47 => decide (y.1 = (n : Int))) (decide_eq_true (by omega)) ((wks 0 body).take n) _ (fun y hy => ?_) ?_
    · obtain ⟨i, hi, hye⟩ := List.mem_iff_getElem.1 hy
      rw [List.length_take] at hi
      have h2 : (wks 0 body)[i]? = some y := by
        rw [← hye, List.getElem_take, List.getElem?_eq_getElem (by omega)]
      have := wks_num.2 body 0 i y h2
      exact decide_eq_false (by omega)
    · refine ⟨(wks 0 body).drop (n + 1), ?_⟩
      rw [List.append_assoc, List.singleton_append, ← hxe, List.getElem_cons_drop, List.take_append_drop]
  have tat : Tells (fun k => prog_At.f k w vars body (n : Int)) (x.2.f0, x.2.f1, x.2.f2, x.2.f3, x.2.f4, 0) := by
    unfold prog_At.f
    refine Tells.bind tc (Tells.ifT rfl (Tells.bind tw ?_))
    simp only [prog_At.pick, hfind]
    exact Tells.bind (copyS.1 x.2 gx (by omega)) (Tells.pure _)
  unfold prog_Inside.f
  refine Tells.bind tat (Tells.ifT rfl ?_)
  rw [w64 (n := (n : Int) + 1) (by omega) (by omega)]
  refine Tells.bind (numbers_tells x.2.f3 ((n : Int) + 1) gx'.2.1.2 gx'.2.1.1 (by omega) (by omega) (by omega)) (Tells.bind (size_tells.1 x.2 gx (by omega)).1 ?_)
  rw [w64 (n := (n : Int) + 1 + (sCs x.2.f3 : Int)) (by omega) (by omega)]
  exact Tells.bind (numbers_tells x.2.f4 _ gx'.2.2.2 gx'.2.2.1 (by omega) (by omega) (by omega)) (Tells.pure _)
end Go.Proofs.Ytffcpbgbhkbplaa.Print
namespace Go.Proofs.Ytffcpbgbhkbplaa.Print
open Go.RowKit Go.Proofs.YtffcpbgbhkbplaaW.PrintWords Go.Proofs.YtffcpbgbhkbplaaW.PrintLast Go.Proofs.YtffcpbgbhkbplaaW.PrintMore
attribute [local go_sem] max2_int min2_int max_two min_two max_three min_three max_four min_four
set_option linter.unusedVariables false
set_option linter.unusedSimpArgs false
open Go.Shelf Go.RowKit
def SeqW {α : Type} (P : Program) (gf : Nat) (lb : Array Value) (E : α → Array Value → World → Prop) (its : List α) (w0 : World) (Pre : World → Prop) : Prop :=
  ∀ (m l : Nat) (J Jx : List α → World → Prop) (go : List α → α → Bool) (W : World), Below w0.heap.size w0 W → Pre W →
    (∀ pre A B, J pre A → Below W.heap.size A B → J pre B) →
    (∀ pre A (j : Nat) (o o' : Obj), W.heap.size ≤ j → Jx pre A → A.heap[j]? = some o → o.isCells = false → Jx pre (A.putObj j o')) →
    (∀ pre x av A, J pre A → E x av A → Below w0.heap.size w0 A → W.heap.size ≤ A.heap.size → (pre ++ [x]) <+: its → YieldAt Fence.wide m P l av A fun e B =>
      e = .returned (.bool (go pre x)) ∧ (go pre x = true → J (pre ++ [x]) B ∧ Keeps W.heap.size none A B ∧ Below w0.heap.size w0 B) ∧ (go pre x = false → Jx (pre ++ [x]) B ∧ ∀ k, W.heap.size ≤ k → k < A.heap.size → B.heap[k]? = A.heap[k]?)) →
    J [] W →
    CallsIn Fence.wide m P gf (#[.func (.yield l) #[] #[]] ++ lb) W fun e W' => (∃ v, e = .returned v) ∧
      ((stopAt go [] its = none ∧ J its W' ∧ Below w0.heap.size w0 W') ∨ (∃ q, stopAt go [] its = some q ∧ Jx q W'))
set_option maxHeartbeats 2000000 in
theorem wpIn_rangeW {α : Type} {n : Nat} {P : Program} {g : Operand} {ps : Array Tmp} {assign body : Code} {Q : Exit → Act → World → Prop} {a : Act} {w : World} {gf : Nat} {lb : Array Value}
    (hg : a.eval g = .func (.func gf) #[] lb) (eg : ∀ args w, (callFunc gf args).run P w = .ok (.enter gf args) w)
    {E : α → Array Value → World → Prop} {its : List α} {w0 : World} {Pre : World → Prop} (hseq : SeqW P gf lb E its w0 Pre) (hpre : ∀ W1, Below w.heap.size w W1 → Pre W1) (hb0 : Below w0.heap.size w0 w) (hps : ∀ x av A, E x av A → av.size = ps.size)
    (go : List α → α → Bool) (I : List α → World → Prop) (Ix : Code → List α → World → Prop)
    (hI : ∀ pre A B, I pre A → Below w.heap.size A B → I pre B) (hIx : ∀ c pre A (j : Nat) (o o' : Obj), w.heap.size ≤ j → Ix c pre A → A.heap[j]? = some o → o.isCells = false → Ix c pre (A.putObj j o')) (h0 : I [] w)
    (hround : ∀ l pre x av W, I pre W → E x av W → (pre ++ [x]) <+: its → Below w0.heap.size w0 W → w.heap.size + 2 ≤ W.heap.size →
      assign.wpIn (Fence.wide.inRound l) n P (Exit.then (fun a1 W1 => W.grownBy W1 none ∧ ∀ W2, W1.grownBy W2 (some (w.heap.size + 1)) → W2.heap.size = W1.heap.size → I pre W2 → Below w0.heap.size w0 W2 →
        body.wpIn (Fence.wide.inRound l) n P (roundBy w.heap.size w0 I Ix go pre x W W2) a1 W2) (fun _ _ _ => False)) { tmps := (ps.zip av).foldl (fun t (p, v) => t.setIfInBounds p v) a.tmps, defers := [] } W)
    (hdone : ∀ W, stopAt go [] its = none → I its W → Below w0.heap.size w0 W → W.heap[w.heap.size]? = some (.deferred (some [])) → Q .normal { a with defers := { target := .collected w.heap.size, args := #[] } :: a.defers } W)
    (hstop : ∀ c q W, stopAt go [] its = some q → Ix c q W → W.heap[w.heap.size]? = some (.deferred (some [])) → c.wpIn Fence.wide n P Q { a with defers := { target := .collected w.heap.size, args := #[] } :: a.defers } W) :
    (Code.rangeFunc g ps assign body).wpIn Fence.wide n P Q a w := by
  refine wpIn_rangeFunc ?_
  intro fn hfn
  obtain ⟨rec, hrec⟩ : ∃ rec : LoopState → Option Code → Loop, rec = fun st pe => { state := st, pending := pe, fn, tmps := a.tmps, params := ps, assign, body, defers := w.heap.size } := ⟨_, rfl⟩
  obtain ⟨W1, hW1⟩ : ∃ W1, (w.alloc (.deferred (some []))).alloc (.loop (rec .ready none)) = W1 := ⟨_, rfl⟩
  have hL1 : W1.heap[w.heap.size + 1]? = some (.loop (rec .ready none)) := by
    rw [← hW1]; have := World.alloc_heap_new (w.alloc (.deferred (some []))) (.loop (rec .ready none)); rwa [World.size_alloc] at this
  have hK1 : W1.heap[w.heap.size]? = some (.deferred (some [])) := by
    rw [← hW1]; exact (Below.heap_alloc _ _ _ (by simp)).trans (World.alloc_heap_new w _)
  have hS1 : W1.heap.size = w.heap.size + 2 := by rw [← hW1]; simp
  have hw1 : Below w.heap.size w W1 := by
    rw [← hW1]; exact ((Below.refl _ w).alloc (Nat.le_refl _) _).alloc (by simp) _
  have hI1 : I [] W1 := hI _ _ _ h0 hw1
  have hb1 : Below w0.heap.size w0 W1 := hb0.trans (hw1.mono hb0.size)
  have hB0 : w0.heap.size ≤ w.heap.size := hb0.size
  refine ⟨w.heap.size + 1, [{ target := .collected w.heap.size, args := #[] }], W1, { target := .fn (.func gf) lb, args := #[.func (.yield (w.heap.size + 1)) #[] #[]] }, W1, gf,
    #[.func (.yield (w.heap.size + 1)) #[] #[]] ++ lb, W1, ?_, ?_, ?_, ?_, wide_depth, ?_⟩
  · rw [← hW1, hrec]; exact run_enterLoop_outer _ _ _ _ _
  · simp only [resolve, hg]
    simp [go_sem]
  · intro f' hf'; trivial
  · simp [invoke, go_sem, eg]
  refine (hseq (n - 1) (w.heap.size + 1)
    (fun pre W => I pre W ∧ W.heap[w.heap.size + 1]? = some (.loop (rec .ready none)) ∧ W.heap[w.heap.size]? = some (.deferred (some [])))
    (fun pre W => ∃ c, Ix c pre W ∧ W.heap[w.heap.size + 1]? = some (.loop (rec .done (some c))) ∧ W.heap[w.heap.size]? = some (.deferred (some [])))
    go W1 hb1 (hpre W1 hw1)
    (fun pre A B hs hb => ⟨hI _ _ _ hs.1 (hb.mono (by omega)), (hb.block _ (by omega)).trans hs.2.1, (hb.block _ (by omega)).trans hs.2.2⟩)
    (fun pre A j o o' hj hs hA ho => by
      obtain ⟨c, h1, h2, h3⟩ := hs
      exact ⟨c, hIx _ _ _ _ _ _ (by omega) h1 hA ho, (World.putObj_heap_other (by omega)).trans h2, (World.putObj_heap_other (by omega)).trans h3⟩)
    ?_ ⟨hI1, hL1, hK1⟩).mono ?_
  · rintro pre x av W ⟨hi, hl, hk⟩ hE hbW hsz hpre
    have hlt : w.heap.size + 1 < W.heap.size := (Array.getElem?_eq_some_iff.1 hl).1
    have hy := run_yield (P := P) (args := av) hl (by rw [hrec]; exact hps x av W hE)
    rw [hrec] at hy
    refine ⟨fn, _, assign, body, hy, round_any (roundIn_of_wpIn (n := n) trivial ?_)⟩
    refine wpIn_mono (hround (w.heap.size + 1) pre x av W hi hE hpre hbW (by omega)) ?_
    rintro e a1 Wa hp
    cases e with
    | normal =>
      obtain ⟨hga, hbd⟩ := hp
      have hla := (hga.block _ hlt (by simp)).trans hl
      have hka := (hga.block _ (by omega : w.heap.size < W.heap.size) (by simp)).trans hk
      have hgs := hga.size
      have hlta : w.heap.size + 1 < Wa.heap.size := by omega
      refine ⟨_, run_beginRound hla (by rw [hrec]), ?_⟩
      have hg2 := grownBy_putObj' Wa (w.heap.size + 1) (.loop { rec .ready none with state := .busy })
      have hl2 : (Wa.putObj (w.heap.size + 1) (.loop { rec .ready none with state := .busy })).heap[w.heap.size + 1]? = some (.loop { rec .ready none with state := .busy }) := World.putObj_heap_same hlta
      have hk2 : (Wa.putObj (w.heap.size + 1) (.loop { rec .ready none with state := .busy })).heap[w.heap.size]? = some (.deferred (some [])) := (World.putObj_heap_other (by omega)).trans hka
      have hs2 : (Wa.putObj (w.heap.size + 1) (.loop { rec .ready none with state := .busy })).heap.size = Wa.heap.size := by simp
      have hba : Below w.heap.size W Wa := ⟨hga.os, hga.tape, hga.output, hga.size, fun k hk => hga.block k (by omega) (by simp)⟩
      have hb2 : Below w.heap.size W (Wa.putObj (w.heap.size + 1) (.loop { rec .ready none with state := .busy })) := hba.trans (below_put _ _ _ (by omega))
      generalize Wa.putObj (w.heap.size + 1) (.loop { rec .ready none with state := .busy }) = W2 at hg2 hl2 hk2 hs2 hb2 ⊢
      refine wpIn_mono (hbd W2 hg2 hs2 (hI _ _ _ hi hb2) (hbW.trans (hb2.mono hB0))) ?_
      have fin : ∀ (jump : Option Code) (W3 : World), (∀ k, w.heap.size ≤ k → k < W.heap.size → W3.heap[k]? = W2.heap[k]?) →
          (Instr.endRound (w.heap.size + 1) jump).run P W3 = .ok (.bool jump.isNone) (W3.putObj (w.heap.size + 1) (.loop (rec (if jump.isNone then .ready else .done) jump))) ∧
          (W3.putObj (w.heap.size + 1) (.loop (rec (if jump.isNone then .ready else .done) jump))).heap[w.heap.size + 1]? = some (.loop (rec (if jump.isNone then .ready else .done) jump)) ∧
          (W3.putObj (w.heap.size + 1) (.loop (rec (if jump.isNone then .ready else .done) jump))).heap[w.heap.size]? = some (.deferred (some [])) ∧ W3.heap[w.heap.size + 1]? = some (.loop { rec .ready none with state := .busy }) := fun jump W3 hk3 => by
        have hl3 := (hk3 _ (by omega) hlt).trans hl2
        have := run_endRound (P := P) jump hl3
        rw [hrec] at this ⊢
        exact ⟨this, World.putObj_heap_same (Array.getElem?_eq_some_iff.1 hl3).1, (World.putObj_heap_other (by omega)).trans ((hk3 _ (Nat.le_refl _) (by omega)).trans hk2), by rw [hrec] at hl3; exact hl3⟩
      rintro e3 a3 W3 hq
      cases e3 with
      | normal =>
        obtain ⟨hgo, hsz3, hk3, hb3, hi3⟩ := hq
        obtain ⟨hr, hl4, hk4, hl3⟩ := fin none W3 hk3
        have hp3 := below_put w.heap.size W3 (.loop (rec .ready none)) (by omega : w.heap.size ≤ w.heap.size + 1)
        have hg3 := grownBy_putObj' W3 (w.heap.size + 1) (.loop (rec .ready none))
        refine ⟨_, _, hr, by rw [hgo]; rfl, fun _ => ⟨⟨hI _ _ _ hi3 hp3, hl4, hk4⟩, ⟨?_, ?_⟩, hb3.trans (hp3.mono hB0)⟩, fun h => by rw [hgo] at h; cases h⟩
        · have := hg3.size; simp only [Option.isNone_none, if_true]; omega
        · intro k h1 h2 _
          simp only [Option.isNone_none, if_true]
          rw [World.putObj_heap_other (by omega), hk3 k (by omega) h2, hg2.block k (by omega) (by intro e; injection e with e; omega)]
          exact hga.block k h2 (by simp)
      | ret =>
        obtain ⟨hgo, hk3, hi3⟩ := hq
        obtain ⟨hr, hl4, hk4, hl3⟩ := fin (some .ret) W3 hk3
        exact ⟨_, _, hr, by rw [hgo]; rfl, fun h => (by rw [hgo] at h; cases h), fun _ => ⟨⟨.ret, hIx _ _ _ _ _ _ (by omega) hi3 hl3 rfl, hl4, hk4⟩, fun k h1 h2 => by
          rw [World.putObj_heap_other (by omega), hk3 k (by omega) h2, hg2.block k (by omega) (by intro e; injection e with e; omega)]
          exact hga.block k h2 (by simp)⟩⟩
      | exit id =>
        obtain ⟨hgo, hk3, hi3⟩ := hq
        obtain ⟨hr, hl4, hk4, hl3⟩ := fin (some (.exit id)) W3 hk3
        exact ⟨_, _, hr, by rw [hgo]; rfl, fun h => (by rw [hgo] at h; cases h), fun _ => ⟨⟨.exit id, hIx _ _ _ _ _ _ (by omega) hi3 hl3 rfl, hl4, hk4⟩, fun k h1 h2 => by
          rw [World.putObj_heap_other (by omega), hk3 k (by omega) h2, hg2.block k (by omega) (by intro e; injection e with e; omega)]
          exact hga.block k h2 (by simp)⟩⟩
      | goto t => exact hq.elim
      | panic ch => exact hq.elim
      | outgrown => exact hq.elim
    | ret => exact hp.elim
    | exit id => exact hp.elim
    | goto t => exact hp.elim
    | panic ch => exact hp.elim
    | outgrown => exact hp.elim
  · rintro e W2 ⟨⟨v, rfl⟩, (⟨hS, ⟨hi, hl, hk⟩, hb2⟩ | ⟨q, hS, c, hi, hl, hk⟩)⟩
    · have hp3 := below_put w.heap.size W2 (.loop (rec .exhausted none)) (by omega : w.heap.size ≤ w.heap.size + 1)
      exact ⟨none, _, by have := run_endLoop (P := P) hl (by rw [hrec]; simp); rw [hrec] at this; exact this, hdone _ hS (hI _ _ _ hi (below_put _ _ _ (by omega))) (hb2.trans ((below_put _ _ _ (by omega)).mono hB0)) ((World.putObj_heap_other (by omega)).trans hk)⟩
    · exact ⟨some c, _, by have := run_endLoop (P := P) hl (by rw [hrec]; simp); rw [hrec] at this; exact this, hstop c q _ hS (hIx _ _ _ _ _ _ (by omega) hi hl rfl) ((World.putObj_heap_other (by omega)).trans hk)⟩
end Go.Proofs.Ytffcpbgbhkbplaa.Print
namespace Go.Proofs.Ytffcpbgbhkbplaa.Print
open Go.RowKit Go.Proofs.YtffcpbgbhkbplaaW.PrintWords Go.Proofs.YtffcpbgbhkbplaaW.PrintLast Go.Proofs.YtffcpbgbhkbplaaW.PrintMore
attribute [local go_sem] max2_int min2_int max_two min_two max_three min_three max_four min_four
set_option linter.unusedVariables false
set_option linter.unusedSimpArgs false
open Go.Shelf Go.RowKit
attribute [local go_sem] Oper.semAt_some
set_option maxHeartbeats 2000000 in
set_option maxRecDepth 100000 in
theorem prog_All.fn (a b c : Value) (w : World) :
    Calls Try.prog 34 #[.agg #[a, b, c]] w fun e w' => e = .returned (.func (.func 62) #[] #[.pointer (some ⟨w.heap.size, 0, none⟩)]) ∧ Below w.heap.size w w' ∧ w'.heap[w.heap.size]? = some (.cells #[a, b, c] 25 (0, 0)) := by
  have huP := Try.underlying25
  refine calls_of_wp Try.func34 rfl ?_
  simp only [Try.ntmps34, List.size_toArray, List.length_cons, List.length_nil, Nat.reduceAdd, Nat.reduceSub, Array.replicate_succ, Array.replicate_zero, List.push_toArray, List.append_toArray, List.nil_append, List.cons_append]
  go_wp2
  go_ret
  exact ⟨rfl, (Below.refl _ _).alloc (Nat.le_refl _) _, heap_alloc_new _ _⟩
set_option maxHeartbeats 2000000 in
set_option maxRecDepth 100000 in
theorem prog_each.seqW (w0 : World) (bp : Nat) (A : Option Addr) (c : Nat) (l : List S47) (its : List (Int × S47)) (n' : Int) (k : Nat)
    (hr : Kd.C k47 w0 A l.length l) (hc : l.length ≤ c) (h : prog_walk.f k l 0 = some (its, n')) :
    SeqW Try.prog 76 #[.pointer (some ⟨bp, 0, none⟩)] (fun x av _ => itemAt w0 x av) its w0 (fun W => W.cell? ⟨bp, 2, none⟩ = some (.slice A l.length c)) := by
  intro m rl J Jx go W hb hcw hJ _ hY hJ0
  refine callsIn_of_wp Try.func76 rfl trivial ?_ rfl
  simp only [Try.ntmps76, List.size_toArray, List.length_cons, List.length_nil, Nat.reduceAdd, Nat.reduceSub, Array.replicate_succ, Array.replicate_zero, List.push_toArray, List.append_toArray, List.nil_append, List.cons_append]
  have hlt := World.block_lt_of_cell? W _ hcw
  have hS := hb.size
  have key : ∀ W2 : World, Below W.heap.size W W2 → W2.heap[W.heap.size]? = some (.cells #[.int .i64 0] 3 (0, 0)) →
      CallsIn Fence.wide m Try.prog 77 #[.slice A l.length c, .pointer (some ⟨W.heap.size, 0, none⟩), .func (.yield rl) #[] #[]] W2 (fun e W' => ∃ b, e = .returned (.bool b) ∧ ((stopAt go [] its = none ∧ J its W' ∧ Below w0.heap.size w0 W') ∨ (∃ q, stopAt go [] its = some q ∧ Jx q W'))) := by
    intro W2 h1 h2
    refine (prog_walk.walkIn w0 rl W.heap.size m J Jx go its hS hJ ?_ k l 0 its n' [] W2 W.heap.size A c h hr hc (hb.trans (h1.mono hS)) h2 (Nat.le_refl _) (hJ _ _ _ hJ0 h1) (by simp)).mono ?post
    case post =>
      rintro e W3 (⟨h0, rfl, hj, _, _, hb3⟩ | ⟨q, h0, rfl, hx⟩)
      · exact ⟨_, rfl, .inl ⟨h0, by simpa using hj, hb3⟩⟩
      · exact ⟨_, rfl, .inr ⟨q, h0, by simpa using hx⟩⟩
    intro pre x v A1 hj hv hb1 hsz hp
    obtain ⟨fn, tmps, assign, body, y1, y2⟩ := hY pre x _ A1 hj ⟨v, rfl, hv⟩ hb1 hsz hp
    exact ⟨fn, tmps, assign, body, y1, y2.mono (fun e B h => ⟨h.1, h.2.1, fun g => (h.2.2 g).1⟩)⟩
  gi_wp2_with (first | (refine ⟨trivial, wide_depth, ?_⟩; refine (calls_any (m' := m - 1) (key _ ?k1 ?k2)).mono ?_; (case k1 => exact (Below.refl _ _).alloc (Nat.le_refl _) _); (case k2 => exact heap_alloc_new _ _); rintro e W3 ⟨b, rfl, hw⟩))
  go_end0
  exact ⟨⟨_, rfl⟩, hw⟩
def copyAt (k : Nat) (x : Int × S47) (av : Array Value) (A : World) : Prop := ∃ (r1 r2 : Int) (r3 : List S96) (r4 r5 : List S47) (A3 : Option Addr) (c3 : Nat) (A4 : Option Addr) (c4 : Nat) (A5 : Option Addr) (c5 : Nat),
  prog_Copied.f k x.2.f0 x.2.f1 x.2.f2 x.2.f3 x.2.f4 = some (r1, r2, r3, r4, r5) ∧ av = #[.int .i64 x.1, .agg #[.int .i64 r1, .int .i64 r2, .slice A3 r3.length c3, .slice A4 r4.length c4, .slice A5 r5.length c5]] ∧
  r3.length ≤ c3 ∧ Kd.C k96 A A3 r3.length r3 ∧ r4.length ≤ c4 ∧ Kd.C k47 A A4 r4.length r4 ∧ r5.length ≤ c5 ∧ Kd.C k47 A A5 r5.length r5
set_option maxHeartbeats 8000000 in
set_option maxRecDepth 100000 in
theorem prog_All.seq (w0 : World) (bp : Nat) (a0 : Int) (A1 : Option Addr) (c1 : Nat) (l1 : List S82) (A2 : Option Addr) (c2 : Nat) (l2 : List S47) (tc : Int) (its : List (Int × S47)) (n' : Int) (k : Nat)
    (hr1 : Kd.C k82 w0 A1 l1.length l1) (hc1 : l1.length ≤ c1) (hr2 : Kd.C k47 w0 A2 l2.length l2) (hc2 : l2.length ≤ c2) (hch : prog_Check.f k a0 l1 l2 = some tc) (hw : prog_walk.f k l2 0 = some (its, n'))
    (hcp : ∀ x ∈ its, ∃ r, prog_Copied.f k x.2.f0 x.2.f1 x.2.f2 x.2.f3 x.2.f4 = some r) :
    SeqW Try.prog 62 #[.pointer (some ⟨bp, 0, none⟩)] (copyAt k) (if tc = 0 then its else []) w0 (fun W => W.heap[bp]? = some (.cells #[.int .i64 a0, .slice A1 l1.length c1, .slice A2 l2.length c2] 25 (0, 0))) := by
  intro m rl J Jx go W hb hp hJ hJx hY hJ0
  have huP := Try.underlying25
  refine callsIn_of_wp_marks Try.func62 rfl trivial ?_ rfl
  simp only [Try.ntmps62, List.size_toArray, List.length_cons, List.length_nil, Nat.reduceAdd, Nat.reduceSub, Array.replicate_succ, Array.replicate_zero, List.push_toArray, List.append_toArray, List.nil_append, List.cons_append]
  obtain ⟨q0, q1, q2⟩ := cells3 hp
  have hlt := blk_lt hp
  have HY := Aside0.mk hY
  have HJ := Aside0.mk hJ
  have HJX := Aside0.mk hJx
  have HB := Aside0.mk hb
  have HP := Aside0.mk hp
  clear hY hJ hJx hb hp
  have y1 := heap_alloc_new W (.cells #[.func (.yield rl) #[] #[]] 93)
  have b1 : Below W.heap.size W (W.alloc (.cells #[.func (.yield rl) #[] #[]] 93)) := (Below.refl _ _).alloc (Nat.le_refl _) _
  gi_wp2
  generalize W.alloc (.cells #[.func (.yield rl) #[] #[]] 93) = W1 at y1 b1 ⊢
  have B1 := HB.out.trans (b1.mono HB.out.size)
  refine ⟨trivial, wide_depth, ?_⟩
  refine (callsIn_wide.2 (prog_Check.calls k a0 _ _ l1 _ _ l2 tc W1 (Kd.C_below hr1 B1) hc1 (Kd.C_below hr2 B1) hc2 hch)).mono ?_
  rintro e W2 ⟨rfl, hb2⟩
  have b2 := b1.trans (hb2.mono b1.size)
  have y2 := (hb2.block _ (blk_lt y1)).trans y1
  have p2 := (b2.block _ (blk_lt HP.out)).trans HP.out
  clear y1 q0 q1 q2 hb2
  by_cases htc : tc = 0
  case neg =>
    have g1 : (tc == 0) = false := beq_eq_false_iff_ne.mpr htc
    have g2 : (tc != 0) = true := bne_iff_ne.mpr htc
    gi_wp2
    exact ⟨_, results_none rfl _ _ _, ⟨_, rfl⟩, .inl ⟨rfl, HJ.out _ _ _ hJ0 b2, HB.out.trans (b2.mono HB.out.size)⟩⟩
  case pos =>
    subst htc
    obtain ⟨q0, q1, q2⟩ := cells3 p2
    gi_wp2_with (first | (refine ⟨trivial, wide_depth, ?_⟩; refine (callsIn_wide.2 (prog_each.fn _ _ _ W2)).mono ?_; rintro e W3 ⟨rfl, hb3, q3⟩))
    have b3 := b2.trans (hb3.mono b2.size)
    have y3 := (hb3.block _ (blk_lt y2)).trans y2
    have B3 := HB.out.trans (b3.mono HB.out.size)
    have hS2 := blk_lt y2
    have hS3 := blk_lt q3
    clear q0 q1 q2 y2 p2
    refine wpIn_rangeW (gf := 76) (lb := #[.pointer (some ⟨W2.heap.size, 0, none⟩)]) rfl (enters_of Try.func76 (by kernel_rfl) rfl)
      (prog_each.seqW w0 W2.heap.size A2 c2 l2 its n' k hr2 hc2 hw) (fun W4 h4 => (blk_cell ((h4.block _ hS3).trans q3) 2).trans rfl) B3 (by rintro x av A ⟨v, rfl, _⟩; rfl)
      go
      (fun pre A => J pre A ∧ A.heap[W.heap.size]? = some (.cells #[.func (.yield rl) #[] #[]] 93 (0, 0)))
      (fun c pre A => c = .ret ∧ Jx pre A)
      (fun pre A B h hb => ⟨HJ.out _ _ _ h.1 (hb.mono b3.size), (hb.block _ (by omega)).trans h.2⟩)
      (fun c pre A j o o' hj h hA ho => ⟨h.1, HJX.out _ _ _ _ _ (by have := b3.size; omega) h.2 hA ho⟩)
      ⟨HJ.out _ _ _ hJ0 b3, y3⟩ ?round ?done ?stop
    case done =>
      rintro A hst ⟨hj, hy⟩ hb4 hD
      gi_wp2
      refine ⟨by simp, .inl ⟨_, _, rfl, run_takeDeferred hD, ?_⟩⟩
      exact ⟨_, results_none rfl _ _ _, ⟨_, rfl⟩, HJ.out _ _ _ hj (below_put _ _ _ (by omega)), hb4.trans (below_put _ _ _ (by have := B3.size; omega))⟩
    case stop =>
      rintro c q A hst ⟨rfl, hx⟩ hD
      gi_wp2
      refine ⟨by simp, .inl ⟨_, _, rfl, run_takeDeferred hD, ?_⟩⟩
      exact ⟨_, results_none rfl _ _ _, ⟨_, rfl⟩, HJX.out _ _ _ _ _ (by omega) hx hD rfl⟩
    case round =>
      rintro l pre x av A ⟨hj, hy⟩ ⟨v, rfl, hv⟩ hpre hbA hsz
      obtain ⟨A2', z2, A3', z3, A4', z4, rfl, ql2, qr2, ql3, qr3, ql4, qr4⟩ := hv
      gi_wp2
      refine ⟨World.grownBy_alloc _ _ _, ?_⟩
      intro A4w hg4 hs4 hi4 hb4
      have x4 : A4w.heap[A.heap.size]? = some (.cells #[.int .i64 x.2.f0, .int .i64 x.2.f1, .slice A2' x.2.f2.length z2, .slice A3' x.2.f3.length z3, .slice A4' x.2.f4.length z4] 47 (0, 0)) :=
        (hg4.block A.heap.size (by simp) (by intro e; injection e with e; omega)).trans (heap_alloc_new _ _)
      obtain ⟨m0, m1, m2, m3, m4⟩ := cells5 x4
      have hsW : A4w.heap.size = A.heap.size + 1 := by rw [hs4]; simp
      have yq : A4w.cell? ⟨W.heap.size, 0, none⟩ = some (.func (.yield rl) #[] #[]) := (blk_cell hi4.2 0).trans rfl
      obtain ⟨⟨r1, r2, r3, r4, r5⟩, CP⟩ := hcp x (hpre.subset (by simp))
      have BD : Below w0.heap.size w0 A4w.drew := bd1 hb4
      gi_wp2
      refine wpIn_region_any (by kernel_rfl) ?_
      change wpAnyIn _ _ _ _ _ _ _ _ _ (World.drew _)
      refine (fun (key : ?KeyT) => ?main) ?key
      case main =>
        skip
        refine wpAnyIn_ready (rs := [0, 1, 2]) (by kernel_rfl) (by simp) ?_
        refine (AllReadyIn.cons rfl (fun K hK => ?_) (AllReadyIn.cons rfl (fun K hK => ?_) (AllReadyIn.cons rfl (fun K hK => ?_) AllReadyIn.nil)))
        · go_simp
          refine hK _ _ ?_
          clear hK K
          refine wpAnyIn_ready (rs := [1, 2]) (by kernel_rfl) (by simp) ?_
          refine (AllReadyIn.cons rfl (fun K hK => ?_) (AllReadyIn.cons rfl (fun K hK => ?_) AllReadyIn.nil))
          · go_simp
            refine hK _ _ ?_
            clear hK K
            refine wpAnyIn_ready (rs := [2]) (by kernel_rfl) (by simp) (AllReadyIn.cons rfl (fun K hK => ?_) AllReadyIn.nil)
            go_simp
            refine hK _ _ ?_
            clear hK K
            refine wpAnyIn_ready (rs := [3]) (by kernel_rfl) (by simp) (AllReadyIn.cons rfl (fun K hK => ?_) AllReadyIn.nil)
            go_simp
            refine ⟨trivial, wide_depth, ?_⟩
            refine CallsIn.inRound l ((callsIn_wide.2 (prog_Copied.calls k x.2.f0 x.2.f1 A2' z2 x.2.f2 A3' z3 x.2.f3 A4' z4 x.2.f4 _ _ _ _ _ A4w.drew (Kd.C_below qr2 BD) ql2 (Kd.C_below qr3 BD) ql3 (Kd.C_below qr4 BD) ql4 CP)).mono ?_)
            rintro e W5 ⟨v3, v4, v5, rfl, o3, o4, o5, hb5⟩
            obtain ⟨D3, d3, ev3, el3, oc3⟩ := Kd.R_reads o3
            obtain ⟨D4, d4, ev4, el4, oc4⟩ := Kd.R_reads o4
            obtain ⟨D5, d5, ev5, el5, oc5⟩ := Kd.R_reads o5
            subst ev3 ev4 ev5
            clear o3 o4 o5
            have hb5' : Below A4w.heap.size A4w W5 := (bd1 (Below.refl _ _)).trans hb5
            clear hb5
            refine hK _ _ ?_
            clear hK K
            revert hb5' oc5 el5 oc4 el4 oc3 el3
            revert D3 d3 D4 d4 D5 d5 W5
            exact key
          · go_simp
            refine hK _ _ ?_
            clear hK K
            refine wpAnyIn_ready (rs := [1, 3]) (by kernel_rfl) (by simp) ?_
            refine (AllReadyIn.cons rfl (fun K hK => ?_) (AllReadyIn.cons rfl (fun K hK => ?_) AllReadyIn.nil))
            · go_simp
              refine hK _ _ ?_
              clear hK K
              refine wpAnyIn_ready (rs := [3]) (by kernel_rfl) (by simp) (AllReadyIn.cons rfl (fun K hK => ?_) AllReadyIn.nil)
              go_simp
              refine ⟨trivial, wide_depth, ?_⟩
              refine CallsIn.inRound l ((callsIn_wide.2 (prog_Copied.calls k x.2.f0 x.2.f1 A2' z2 x.2.f2 A3' z3 x.2.f3 A4' z4 x.2.f4 _ _ _ _ _ A4w.drew (Kd.C_below qr2 BD) ql2 (Kd.C_below qr3 BD) ql3 (Kd.C_below qr4 BD) ql4 CP)).mono ?_)
              rintro e W5 ⟨v3, v4, v5, rfl, o3, o4, o5, hb5⟩
              obtain ⟨D3, d3, ev3, el3, oc3⟩ := Kd.R_reads o3
              obtain ⟨D4, d4, ev4, el4, oc4⟩ := Kd.R_reads o4
              obtain ⟨D5, d5, ev5, el5, oc5⟩ := Kd.R_reads o5
              subst ev3 ev4 ev5
              clear o3 o4 o5
              have hb5' : Below A4w.heap.size A4w W5 := (bd1 (Below.refl _ _)).trans hb5
              clear hb5
              refine hK _ _ ?_
              clear hK K
              revert hb5' oc5 el5 oc4 el4 oc3 el3
              revert D3 d3 D4 d4 D5 d5 W5
              exact key
            · go_simp
              refine ⟨trivial, wide_depth, ?_⟩
              refine CallsIn.inRound l ((callsIn_wide.2 (prog_Copied.calls k x.2.f0 x.2.f1 A2' z2 x.2.f2 A3' z3 x.2.f3 A4' z4 x.2.f4 _ _ _ _ _ A4w.drew (Kd.C_below qr2 BD) ql2 (Kd.C_below qr3 BD) ql3 (Kd.C_below qr4 BD) ql4 CP)).mono ?_)
              rintro e W5 ⟨v3, v4, v5, rfl, o3, o4, o5, hb5⟩
              obtain ⟨D3, d3, ev3, el3, oc3⟩ := Kd.R_reads o3
              obtain ⟨D4, d4, ev4, el4, oc4⟩ := Kd.R_reads o4
              obtain ⟨D5, d5, ev5, el5, oc5⟩ := Kd.R_reads o5
              subst ev3 ev4 ev5
              clear o3 o4 o5
              have hb5' : Below A4w.heap.size A4w W5 := (bd1 (Below.refl _ _)).trans hb5
              clear hb5
              refine hK _ _ ?_
              clear hK K
              refine wpAnyIn_ready (rs := [1]) (by kernel_rfl) (by simp) (AllReadyIn.cons rfl (fun K hK => ?_) AllReadyIn.nil)
              go_simp
              refine hK _ _ ?_
              clear hK K
              revert hb5' oc5 el5 oc4 el4 oc3 el3
              revert D3 d3 D4 d4 D5 d5 W5
              exact key
        · go_simp
          refine hK _ _ ?_
          clear hK K
          refine wpAnyIn_ready (rs := [0, 2]) (by kernel_rfl) (by simp) ?_
          refine (AllReadyIn.cons rfl (fun K hK => ?_) (AllReadyIn.cons rfl (fun K hK => ?_) AllReadyIn.nil))
          · go_simp
            refine hK _ _ ?_
            clear hK K
            refine wpAnyIn_ready (rs := [2]) (by kernel_rfl) (by simp) (AllReadyIn.cons rfl (fun K hK => ?_) AllReadyIn.nil)
            go_simp
            refine hK _ _ ?_
            clear hK K
            refine wpAnyIn_ready (rs := [3]) (by kernel_rfl) (by simp) (AllReadyIn.cons rfl (fun K hK => ?_) AllReadyIn.nil)
            go_simp
            refine ⟨trivial, wide_depth, ?_⟩
            refine CallsIn.inRound l ((callsIn_wide.2 (prog_Copied.calls k x.2.f0 x.2.f1 A2' z2 x.2.f2 A3' z3 x.2.f3 A4' z4 x.2.f4 _ _ _ _ _ A4w.drew (Kd.C_below qr2 BD) ql2 (Kd.C_below qr3 BD) ql3 (Kd.C_below qr4 BD) ql4 CP)).mono ?_)
            rintro e W5 ⟨v3, v4, v5, rfl, o3, o4, o5, hb5⟩
            obtain ⟨D3, d3, ev3, el3, oc3⟩ := Kd.R_reads o3
            obtain ⟨D4, d4, ev4, el4, oc4⟩ := Kd.R_reads o4
            obtain ⟨D5, d5, ev5, el5, oc5⟩ := Kd.R_reads o5
            subst ev3 ev4 ev5
            clear o3 o4 o5
            have hb5' : Below A4w.heap.size A4w W5 := (bd1 (Below.refl _ _)).trans hb5
            clear hb5
            refine hK _ _ ?_
            clear hK K
            revert hb5' oc5 el5 oc4 el4 oc3 el3
            revert D3 d3 D4 d4 D5 d5 W5
            exact key
          · go_simp
            refine hK _ _ ?_
            clear hK K
            refine wpAnyIn_ready (rs := [0, 3]) (by kernel_rfl) (by simp) ?_
            refine (AllReadyIn.cons rfl (fun K hK => ?_) (AllReadyIn.cons rfl (fun K hK => ?_) AllReadyIn.nil))
            · go_simp
              refine hK _ _ ?_
              clear hK K
              refine wpAnyIn_ready (rs := [3]) (by kernel_rfl) (by simp) (AllReadyIn.cons rfl (fun K hK => ?_) AllReadyIn.nil)
              go_simp
              refine ⟨trivial, wide_depth, ?_⟩
              refine CallsIn.inRound l ((callsIn_wide.2 (prog_Copied.calls k x.2.f0 x.2.f1 A2' z2 x.2.f2 A3' z3 x.2.f3 A4' z4 x.2.f4 _ _ _ _ _ A4w.drew (Kd.C_below qr2 BD) ql2 (Kd.C_below qr3 BD) ql3 (Kd.C_below qr4 BD) ql4 CP)).mono ?_)
              rintro e W5 ⟨v3, v4, v5, rfl, o3, o4, o5, hb5⟩
              obtain ⟨D3, d3, ev3, el3, oc3⟩ := Kd.R_reads o3
              obtain ⟨D4, d4, ev4, el4, oc4⟩ := Kd.R_reads o4
              obtain ⟨D5, d5, ev5, el5, oc5⟩ := Kd.R_reads o5
              subst ev3 ev4 ev5
              clear o3 o4 o5
              have hb5' : Below A4w.heap.size A4w W5 := (bd1 (Below.refl _ _)).trans hb5
              clear hb5
              refine hK _ _ ?_
              clear hK K
              revert hb5' oc5 el5 oc4 el4 oc3 el3
              revert D3 d3 D4 d4 D5 d5 W5
              exact key
            · go_simp
              refine ⟨trivial, wide_depth, ?_⟩
              refine CallsIn.inRound l ((callsIn_wide.2 (prog_Copied.calls k x.2.f0 x.2.f1 A2' z2 x.2.f2 A3' z3 x.2.f3 A4' z4 x.2.f4 _ _ _ _ _ A4w.drew (Kd.C_below qr2 BD) ql2 (Kd.C_below qr3 BD) ql3 (Kd.C_below qr4 BD) ql4 CP)).mono ?_)
              rintro e W5 ⟨v3, v4, v5, rfl, o3, o4, o5, hb5⟩
              obtain ⟨D3, d3, ev3, el3, oc3⟩ := Kd.R_reads o3
              obtain ⟨D4, d4, ev4, el4, oc4⟩ := Kd.R_reads o4
              obtain ⟨D5, d5, ev5, el5, oc5⟩ := Kd.R_reads o5
              subst ev3 ev4 ev5
              clear o3 o4 o5
              have hb5' : Below A4w.heap.size A4w W5 := (bd1 (Below.refl _ _)).trans hb5
              clear hb5
              refine hK _ _ ?_
              clear hK K
              have y5 := (hb5'.block _ (blk_lt hi4.2)).trans hi4.2
              have yc : W5.cell? ⟨W.heap.size, 0, none⟩ = some (.func (.yield rl) #[] #[]) := (blk_cell y5 0).trans rfl
              refine wpAnyIn_ready (rs := [0]) (by kernel_rfl) (by simp) (AllReadyIn.cons rfl (fun K hK => ?_) AllReadyIn.nil)
              go_simp
              refine hK _ _ ?_
              clear hK K
              clear yc y5
              revert hb5' oc5 el5 oc4 el4 oc3 el3
              revert D3 d3 D4 d4 D5 d5 W5
              exact key
        · go_simp
          refine hK _ _ ?_
          clear hK K
          refine wpAnyIn_ready (rs := [0, 1, 3]) (by kernel_rfl) (by simp) ?_
          refine (AllReadyIn.cons rfl (fun K hK => ?_) (AllReadyIn.cons rfl (fun K hK => ?_) (AllReadyIn.cons rfl (fun K hK => ?_) AllReadyIn.nil)))
          · go_simp
            refine hK _ _ ?_
            clear hK K
            refine wpAnyIn_ready (rs := [1, 3]) (by kernel_rfl) (by simp) ?_
            refine (AllReadyIn.cons rfl (fun K hK => ?_) (AllReadyIn.cons rfl (fun K hK => ?_) AllReadyIn.nil))
            · go_simp
              refine hK _ _ ?_
              clear hK K
              refine wpAnyIn_ready (rs := [3]) (by kernel_rfl) (by simp) (AllReadyIn.cons rfl (fun K hK => ?_) AllReadyIn.nil)
              go_simp
              refine ⟨trivial, wide_depth, ?_⟩
              refine CallsIn.inRound l ((callsIn_wide.2 (prog_Copied.calls k x.2.f0 x.2.f1 A2' z2 x.2.f2 A3' z3 x.2.f3 A4' z4 x.2.f4 _ _ _ _ _ A4w.drew (Kd.C_below qr2 BD) ql2 (Kd.C_below qr3 BD) ql3 (Kd.C_below qr4 BD) ql4 CP)).mono ?_)
              rintro e W5 ⟨v3, v4, v5, rfl, o3, o4, o5, hb5⟩
              obtain ⟨D3, d3, ev3, el3, oc3⟩ := Kd.R_reads o3
              obtain ⟨D4, d4, ev4, el4, oc4⟩ := Kd.R_reads o4
              obtain ⟨D5, d5, ev5, el5, oc5⟩ := Kd.R_reads o5
              subst ev3 ev4 ev5
              clear o3 o4 o5
              have hb5' : Below A4w.heap.size A4w W5 := (bd1 (Below.refl _ _)).trans hb5
              clear hb5
              refine hK _ _ ?_
              clear hK K
              revert hb5' oc5 el5 oc4 el4 oc3 el3
              revert D3 d3 D4 d4 D5 d5 W5
              exact key
            · go_simp
              refine ⟨trivial, wide_depth, ?_⟩
              refine CallsIn.inRound l ((callsIn_wide.2 (prog_Copied.calls k x.2.f0 x.2.f1 A2' z2 x.2.f2 A3' z3 x.2.f3 A4' z4 x.2.f4 _ _ _ _ _ A4w.drew (Kd.C_below qr2 BD) ql2 (Kd.C_below qr3 BD) ql3 (Kd.C_below qr4 BD) ql4 CP)).mono ?_)
              rintro e W5 ⟨v3, v4, v5, rfl, o3, o4, o5, hb5⟩
              obtain ⟨D3, d3, ev3, el3, oc3⟩ := Kd.R_reads o3
              obtain ⟨D4, d4, ev4, el4, oc4⟩ := Kd.R_reads o4
              obtain ⟨D5, d5, ev5, el5, oc5⟩ := Kd.R_reads o5
              subst ev3 ev4 ev5
              clear o3 o4 o5
              have hb5' : Below A4w.heap.size A4w W5 := (bd1 (Below.refl _ _)).trans hb5
              clear hb5
              refine hK _ _ ?_
              clear hK K
              refine wpAnyIn_ready (rs := [1]) (by kernel_rfl) (by simp) (AllReadyIn.cons rfl (fun K hK => ?_) AllReadyIn.nil)
              go_simp
              refine hK _ _ ?_
              clear hK K
              revert hb5' oc5 el5 oc4 el4 oc3 el3
              revert D3 d3 D4 d4 D5 d5 W5
              exact key
          · go_simp
            refine hK _ _ ?_
            clear hK K
            refine wpAnyIn_ready (rs := [0, 3]) (by kernel_rfl) (by simp) ?_
            refine (AllReadyIn.cons rfl (fun K hK => ?_) (AllReadyIn.cons rfl (fun K hK => ?_) AllReadyIn.nil))
            · go_simp
              refine hK _ _ ?_
              clear hK K
              refine wpAnyIn_ready (rs := [3]) (by kernel_rfl) (by simp) (AllReadyIn.cons rfl (fun K hK => ?_) AllReadyIn.nil)
              go_simp
              refine ⟨trivial, wide_depth, ?_⟩
              refine CallsIn.inRound l ((callsIn_wide.2 (prog_Copied.calls k x.2.f0 x.2.f1 A2' z2 x.2.f2 A3' z3 x.2.f3 A4' z4 x.2.f4 _ _ _ _ _ A4w.drew (Kd.C_below qr2 BD) ql2 (Kd.C_below qr3 BD) ql3 (Kd.C_below qr4 BD) ql4 CP)).mono ?_)
              rintro e W5 ⟨v3, v4, v5, rfl, o3, o4, o5, hb5⟩
              obtain ⟨D3, d3, ev3, el3, oc3⟩ := Kd.R_reads o3
              obtain ⟨D4, d4, ev4, el4, oc4⟩ := Kd.R_reads o4
              obtain ⟨D5, d5, ev5, el5, oc5⟩ := Kd.R_reads o5
              subst ev3 ev4 ev5
              clear o3 o4 o5
              have hb5' : Below A4w.heap.size A4w W5 := (bd1 (Below.refl _ _)).trans hb5
              clear hb5
              refine hK _ _ ?_
              clear hK K
              revert hb5' oc5 el5 oc4 el4 oc3 el3
              revert D3 d3 D4 d4 D5 d5 W5
              exact key
            · go_simp
              refine ⟨trivial, wide_depth, ?_⟩
              refine CallsIn.inRound l ((callsIn_wide.2 (prog_Copied.calls k x.2.f0 x.2.f1 A2' z2 x.2.f2 A3' z3 x.2.f3 A4' z4 x.2.f4 _ _ _ _ _ A4w.drew (Kd.C_below qr2 BD) ql2 (Kd.C_below qr3 BD) ql3 (Kd.C_below qr4 BD) ql4 CP)).mono ?_)
              rintro e W5 ⟨v3, v4, v5, rfl, o3, o4, o5, hb5⟩
              obtain ⟨D3, d3, ev3, el3, oc3⟩ := Kd.R_reads o3
              obtain ⟨D4, d4, ev4, el4, oc4⟩ := Kd.R_reads o4
              obtain ⟨D5, d5, ev5, el5, oc5⟩ := Kd.R_reads o5
              subst ev3 ev4 ev5
              clear o3 o4 o5
              have hb5' : Below A4w.heap.size A4w W5 := (bd1 (Below.refl _ _)).trans hb5
              clear hb5
              refine hK _ _ ?_
              clear hK K
              have y5 := (hb5'.block _ (blk_lt hi4.2)).trans hi4.2
              have yc : W5.cell? ⟨W.heap.size, 0, none⟩ = some (.func (.yield rl) #[] #[]) := (blk_cell y5 0).trans rfl
              refine wpAnyIn_ready (rs := [0]) (by kernel_rfl) (by simp) (AllReadyIn.cons rfl (fun K hK => ?_) AllReadyIn.nil)
              go_simp
              refine hK _ _ ?_
              clear hK K
              clear yc y5
              revert hb5' oc5 el5 oc4 el4 oc3 el3
              revert D3 d3 D4 d4 D5 d5 W5
              exact key
          · go_simp
            refine ⟨trivial, wide_depth, ?_⟩
            refine CallsIn.inRound l ((callsIn_wide.2 (prog_Copied.calls k x.2.f0 x.2.f1 A2' z2 x.2.f2 A3' z3 x.2.f3 A4' z4 x.2.f4 _ _ _ _ _ A4w.drew (Kd.C_below qr2 BD) ql2 (Kd.C_below qr3 BD) ql3 (Kd.C_below qr4 BD) ql4 CP)).mono ?_)
            rintro e W5 ⟨v3, v4, v5, rfl, o3, o4, o5, hb5⟩
            obtain ⟨D3, d3, ev3, el3, oc3⟩ := Kd.R_reads o3
            obtain ⟨D4, d4, ev4, el4, oc4⟩ := Kd.R_reads o4
            obtain ⟨D5, d5, ev5, el5, oc5⟩ := Kd.R_reads o5
            subst ev3 ev4 ev5
            clear o3 o4 o5
            have hb5' : Below A4w.heap.size A4w W5 := (bd1 (Below.refl _ _)).trans hb5
            clear hb5
            refine hK _ _ ?_
            clear hK K
            have y5 := (hb5'.block _ (blk_lt hi4.2)).trans hi4.2
            have yc : W5.cell? ⟨W.heap.size, 0, none⟩ = some (.func (.yield rl) #[] #[]) := (blk_cell y5 0).trans rfl
            refine wpAnyIn_ready (rs := [0, 1]) (by kernel_rfl) (by simp) ?_
            refine (AllReadyIn.cons rfl (fun K hK => ?_) (AllReadyIn.cons rfl (fun K hK => ?_) AllReadyIn.nil))
            · go_simp
              refine hK _ _ ?_
              clear hK K
              refine wpAnyIn_ready (rs := [1]) (by kernel_rfl) (by simp) (AllReadyIn.cons rfl (fun K hK => ?_) AllReadyIn.nil)
              go_simp
              refine hK _ _ ?_
              clear hK K
              clear yc y5
              revert hb5' oc5 el5 oc4 el4 oc3 el3
              revert D3 d3 D4 d4 D5 d5 W5
              exact key
            · go_simp
              refine hK _ _ ?_
              clear hK K
              refine wpAnyIn_ready (rs := [0]) (by kernel_rfl) (by simp) (AllReadyIn.cons rfl (fun K hK => ?_) AllReadyIn.nil)
              go_simp
              refine hK _ _ ?_
              clear hK K
              clear yc y5
              revert hb5' oc5 el5 oc4 el4 oc3 el3
              revert D3 d3 D4 d4 D5 d5 W5
              exact key
      intro W5 D3 d3 D4 d4 D5 d5 el3 oc3 el4 oc4 el5 oc5 hb5'
      have hJ5 := HJ.out _ _ _ hi4.1 (hb5'.mono (by have := b3.size; omega))
      have hyl := HY.out pre x _ W5 hJ5 ⟨r1, r2, r3, r4, r5, D3, d3, D4, d4, D5, d5, CP, rfl, el3, oc3, el4, oc4, el5, oc5⟩ (hb4.trans (hb5'.mono (by have := hb4.size; omega))) (by have := hb5'.size; have := b3.size; omega) (by simpa using hpre)
      obtain ⟨fn, tmps, assign, body, hyd, hR0⟩ := hyl
      refine wpAnyIn_ready (rs := [4]) (by kernel_rfl) (by simp) (AllReadyIn.cons rfl (fun K hK => ?_) AllReadyIn.nil)
      go_simp
      gi_wp2_with (first | (refine ⟨wide_depth, ?_⟩; refine (round_any hR0).mono ?_; rintro e W6 ⟨rfl, hx, hx2⟩))
      have hs5 := hb5'.size
      have hs3 := b3.size
      cases hgo : go pre x with
      | false =>
        replace hx2 := hx2 hgo
        clear hx
        refine wpAnyIn_ready (rs := [5]) (by kernel_rfl) (by simp) (AllReadyIn.cons rfl (fun K hK => ?_) AllReadyIn.nil)
        go_simp
        refine hK _ _ ?_
        clear hK K
        refine wpAnyIn_done (by kernel_rfl) ?_ _
        gi_wp2
        exact ⟨hgo, fun k h1 h2 => (hx2.2 k (by omega) (by omega)).trans (hb5'.block k (by omega)), rfl, hx2.1⟩
      | true =>
        obtain ⟨j6, k6, b6⟩ := hx hgo
        clear hx hx2
        refine wpAnyIn_ready (rs := [5]) (by kernel_rfl) (by simp) (AllReadyIn.cons rfl (fun K hK => ?_) AllReadyIn.nil)
        go_simp
        refine hK _ _ ?_
        clear hK K
        refine wpAnyIn_done (by kernel_rfl) ?_ _
        gi_wp2
        have hk6 := k6.1
        refine ⟨hgo, by omega, fun k h1 h2 => (k6.2 k (by omega) (by omega) (by simp)).trans (hb5'.block k (by omega)), b6, j6, ?_⟩
        exact (k6.2 _ (Nat.le_refl _) (by omega) (by simp)).trans ((hb5'.block _ (blk_lt hi4.2)).trans hi4.2)
def Numbered (its : List (Int × S47)) : Prop := ∀ pre x, (pre ++ [x]) <+: its → x.1 = (pre.length : Int)
theorem results_bool {P : Program} {fn : Func} {p : Tmp} {tB : TypeId} (h : fn.results = #[.cell p tB]) (tmps : Array Value) (w : World) (g : Nat) (v : Bool) (hp : tmps.getD p undef = .pointer (some ⟨g, 0, none⟩))
    (hg : w.heap[g]? = some (.cells #[.bool v] tB (0, 0))) (hu : P.underlying tB = some .bool) : (results fn tmps).run P w = .ok (.bool v) w := by
  have hp' : tmps[p]?.getD undef = .pointer (some ⟨g, 0, none⟩) := by simpa using hp
  have hc : w.cell? ⟨g, 0, none⟩ = some (.bool v) := (blk_cell hg 0).trans rfl
  have hagg : (isAgg tB).run P w = .ok false w := by
    unfold isAgg
    rw [Sem.run_bind, run_underlying hu w]
    simp
  have h2 : (loadVar tB ⟨g, 0, none⟩).run P w = .ok (.bool v) w := by simp [loadVar, Sem.run_bind, hagg, go_sem, hc, Result.andThen]
  generalize hL2 : loadVar tB ⟨g, 0, none⟩ = L2 at h2
  simp [results, h, Sem.run_bind, hp', asAddr, Result.andThen, hL2, h2]
end Go.Proofs.Ytffcpbgbhkbplaa.Print
namespace Go.Proofs.Ytffcpbgbhkbplaa.Print
open Go.RowKit Go.Proofs.YtffcpbgbhkbplaaW.PrintWords Go.Proofs.YtffcpbgbhkbplaaW.PrintLast Go.Proofs.YtffcpbgbhkbplaaW.PrintMore
attribute [local go_sem] max2_int min2_int max_two min_two max_three min_three max_four min_four
set_option linter.unusedVariables false
set_option linter.unusedSimpArgs false
theorem numbered_wks (l : List S47) : Numbered (wks 0 l) := by
  intro pre x h
  obtain ⟨t, ht⟩ := h
  have := wks_num.2 l 0 pre.length x (by rw [← ht]; simp)
  omega
theorem all_facts (w : Int) (vars : List S82) (body : List S47) (hl : body.length ≤ 9223372036854775807) (hg : goodSs body) :
    ∃ k0, ∀ k, k0 ≤ k → r3_Is.f k w vars body = some (pIs w vars body) ∧ (pIs w vars body = true → prog_Check.f k w vars body = some 0 ∧ prog_walk.f k body 0 = some (wks 0 body, (sCs body : Int)) ∧
      (∀ x ∈ wks 0 body, prog_Copied.f k x.2.f0 x.2.f1 x.2.f2 x.2.f3 x.2.f4 = some (x.2.f0, x.2.f1, x.2.f2, x.2.f3, x.2.f4)) ∧ r3_Count.f k body = some ((wks 0 body).length : Int)) := by
  obtain ⟨k1, h1⟩ := pIs_tells w vars body hl hg
  cases hp : pIs w vars body
  · exact ⟨k1, fun k hk => ⟨(h1 k hk).trans (by rw [hp]), fun h => by cases h⟩⟩
  · obtain ⟨hh, hn⟩ := pIs_all hp
    have hle := (s_le.2 body).1
    have tc := pCheck_tells w vars body hl hg
    rw [hp] at tc
    obtain ⟨k2, h2⟩ := tc
    obtain ⟨k3, h3⟩ : Tells (fun k => prog_walk.f k body 0) (wks 0 body, 0 + sCs body) := by
      refine Tells.succ ?_
      simp only [prog_walk.f]
      exact walk_tells.2 body [] hg hl 0 (by decide) (by omega)
    obtain ⟨k4, h4⟩ := Tells.all (g := fun (x : Int × S47) k => prog_Copied.f k x.2.f0 x.2.f1 x.2.f2 x.2.f3 x.2.f4) (v := fun x => (x.2.f0, x.2.f1, x.2.f2, x.2.f3, x.2.f4)) (wks 0 body) (fun x hx => by
      have := wks_good.2 body hg 0 x hx
      exact copyS.1 x.2 this.1 (by omega))
    obtain ⟨k5, h5⟩ := Count_tells body hl hg (by omega)
    refine ⟨max k1 (max k2 (max k3 (max k4 k5))), fun k hk => ⟨(h1 k (by omega)).trans (by rw [hp]), fun _ => ⟨h2 k (by omega), ?_, h4 k (by omega), ?_⟩⟩⟩
    · have := h3 k (by omega)
      rw [Int.zero_add] at this
      exact this
    · rw [wks_len.2]
      exact h5 k (by omega)
end Go.Proofs.Ytffcpbgbhkbplaa.Print
namespace Go.Proofs.Ytffcpbgbhkbplaa.Print
open Go.RowKit Go.Proofs.YtffcpbgbhkbplaaW.PrintWords Go.Proofs.YtffcpbgbhkbplaaW.PrintLast Go.Proofs.YtffcpbgbhkbplaaW.PrintMore
attribute [local go_sem] max2_int min2_int max_two min_two max_three min_three max_four min_four
set_option linter.unusedVariables false
set_option linter.unusedSimpArgs false
open Go.Shelf Go.RowKit
attribute [local go_sem] Oper.semAt_some
def marks (n : Nat) (l : List Int) : List Int := (List.range n).map fun i : Nat => ((l.count (i : Int) : Nat) : Int)
theorem marks_nil (n : Nat) : marks n [] = List.replicate n 0 := by
  unfold marks
  apply List.ext_getElem
  · simp
  · intro i h1 h2
    simp
theorem rd_marks (n : Nat) (l : List Int) (x : Int) (h0 : 0 ≤ x) (h1 : x < n) : rd (marks n l) x = ((l.count x : Nat) : Int) := by
  unfold rd marks
  have : x.toNat < n := by omega
  rw [List.getD_eq_getElem?_getD, List.getElem?_eq_getElem (by simpa using this)]
  simp [Int.toNat_of_nonneg h0]
theorem marks_set (n : Nat) (l : List Int) (x : Int) (h0 : 0 ≤ x) (h1 : x < n) (hx : x ∉ l) : (marks n l).set x.toNat 1 = marks n (l ++ [x]) := by
  unfold marks
  apply List.ext_getElem
  · simp
  · intro i h2 h3
    rw [List.getElem_set]
    by_cases h : x.toNat = i
    · have hxi : (i : Int) = x := by omega
      rw [if_pos h]
      simp [hxi, List.count_append, List.count_eq_zero_of_not_mem hx]
    · have hxi : ¬ x = (i : Int) := by omega
      rw [if_neg h]
      simp [List.count_append, List.count_cons, hxi]
def kidsTo (c : Nat → List Int) (n : Nat) : List Int := (List.range n).flatMap c
theorem kidsTo_succ (c : Nat → List Int) (n : Nat) : kidsTo c (n + 1) = kidsTo c n ++ c n := by unfold kidsTo; rw [List.range_succ, List.flatMap_append]; simp
theorem kidsTo_le (c : Nat → List Int) {n m : Nat} (h : n ≤ m) : (kidsTo c n).length ≤ (kidsTo c m).length := by
  obtain ⟨d, rfl⟩ := Nat.exists_eq_add_of_le h
  induction d with
  | zero => exact Nat.le_refl _
  | succ d ih =>
    rw [← Nat.add_assoc, kidsTo_succ, List.length_append]
    have := ih (by omega)
    omega
set_option maxHeartbeats 8000000 in
set_option maxRecDepth 100000 in
theorem w3_ProgOnce.calls (k : Nat) (a0 : Int) (A1 : Option Addr) (c1 : Nat) (l1 : List S82) (A2 : Option Addr) (c2 : Nat) (l2 : List S47) (b : Bool) (its : List (Int × S47)) (n' nd : Int) (thn els : Nat → List Int) (w : World)
    (hr1 : Kd.C k82 w A1 l1.length l1) (hc1 : l1.length ≤ c1) (hr2 : Kd.C k47 w A2 l2.length l2) (hc2 : l2.length ≤ c2) (hIs : r3_Is.f k a0 l1 l2 = some b)
    (hb : b = true → prog_Check.f k a0 l1 l2 = some 0 ∧ prog_walk.f k l2 0 = some (its, n') ∧ (∀ x ∈ its, ∃ r, prog_Copied.f k x.2.f0 x.2.f1 x.2.f2 x.2.f3 x.2.f4 = some r) ∧ prog_Count.f k a0 l1 l2 = some ((its.length : Int), nd, 0) ∧ r3_Count.f k l2 = some (its.length : Int) ∧ Numbered its ∧ its.length ≤ 1000 ∧
      (∀ n, n < its.length → prog_Inside.f k a0 l1 l2 (n : Int) = some (thn n, els n, 0)) ∧ (∀ n, n < its.length → (thn n ++ els n).length ≤ 1000 ∧ ∀ (i : Nat) x, (thn n ++ els n)[i]? = some x → (n : Int) < x ∧ x < (its.length : Int) ∧ x ∉ kidsTo (fun m => thn m ++ els m) n ++ (thn n ++ els n).take i) ∧ (kidsTo (fun m => thn m ++ els m) its.length).length + l2.length = its.length) :
    Calls Try.prog 7 #[.agg #[.int .i64 a0, .slice A1 l1.length c1, .slice A2 l2.length c2]] w fun e w' => e = .returned (.bool true) ∧ Below w.heap.size w w' := by
  refine callsIn_wide.1 (?_ : CallsIn Fence.wide 9 _ _ _ _ _)
  have huP := Try.underlying25
  refine callsIn_of_wp_marks Try.func7 rfl trivial ?_ rfl
  simp only [Try.ntmps7, List.size_toArray, List.length_cons, List.length_nil, Nat.reduceAdd, Nat.reduceSub, Array.replicate_succ, Array.replicate_zero, List.push_toArray, List.append_toArray, List.nil_append, List.cons_append]
  have HR1 := Aside0.mk hr1
  have HC1 := Aside0.mk hc1
  have HR2 := Aside0.mk hr2
  have HC2 := Aside0.mk hc2
  clear hr1 hc1 hr2 hc2
  have FB : Below w.heap.size w ((w.alloc (.cells #[.int .i64 a0, .slice A1 l1.length c1, .slice A2 l2.length c2] 25)).alloc (.cells #[.bool false] 4)) ∧ ((w.alloc (.cells #[.int .i64 a0, .slice A1 l1.length c1, .slice A2 l2.length c2] 25)).alloc (.cells #[.bool false] 4)).heap[w.heap.size]? = some (.cells #[.int .i64 a0, .slice A1 l1.length c1, .slice A2 l2.length c2] 25 (0, 0)) ∧ ((w.alloc (.cells #[.int .i64 a0, .slice A1 l1.length c1, .slice A2 l2.length c2] 25)).alloc (.cells #[.bool false] 4)).heap[w.heap.size + 1]? = some (.cells #[.bool false] 4 (0, 0)) := by
    refine ⟨bal (bal (Below.refl _ _) _) _, kal (blk_new _ _) _, ?_⟩
    have := blk_new (w.alloc (.cells #[.int .i64 a0, .slice A1 l1.length c1, .slice A2 l2.length c2] 25)) (.cells #[.bool false] 4)
    simpa using this
  gi_wp2
  generalize ((w.alloc (.cells #[.int .i64 a0, .slice A1 l1.length c1, .slice A2 l2.length c2] 25)).alloc (.cells #[.bool false] 4)) = W1 at FB ⊢
  obtain ⟨b1, p1, t1⟩ := FB
  refine ⟨trivial, ?_⟩
  refine (callsIn_wide.2 (r3_Is.calls k a0 _ _ l1 _ _ l2 b W1 (Kd.C_below HR1.out b1) HC1.out (Kd.C_below HR2.out b1) HC2.out hIs)).mono ?_
  rintro e W2 ⟨rfl, hb2⟩
  have b2 := b1.trans (hb2.mono b1.size)
  have hs2 := hb2.size
  have p2 := (hb2.block _ (blk_lt p1)).trans p1
  have t2 := (hb2.block _ (blk_lt t1)).trans t1
  clear p1 t1 hb2 b1
  have hl2 := blk_lt p2
  have hl2' := blk_lt t2
  cases b with
  | false =>
    gi_wp2_with (first | (refine ⟨trivial, ?_⟩; refine (callsIn_wide.2 (w3_awake.calls k true W2 rfl)).mono ?_; rintro e W3 ⟨rfl, hb3⟩; have t3 := (hb3.block _ (blk_lt t2)).trans t2; have g0 := blk_frozen t3 0; have e0 : W3.cell? ⟨w.heap.size + 1, 0, none⟩ = some (.bool false) := (blk_cell t3 0).trans rfl))
    exact ⟨_, results_bool rfl _ _ (w.heap.size + 1) true rfl (blk_put t3 0 _ rfl) Try.underlying4, rfl, (b2.trans (hb3.mono b2.size)).trans (below_cell _ _ (by omega))⟩
  | true =>
    obtain ⟨hck, hwk, hcp, hpc, hct, hnum, hlen, hin, hkid, hsum⟩ := hb rfl
    clear hb
    have HCP := Aside0.mk hcp
    have HNUM := Aside0.mk hnum
    have HIN := Aside0.mk hin
    have HKID := Aside0.mk hkid
    clear hcp hnum hin hkid
    generalize hkd : (fun m => thn m ++ els m) = kd at HKID hsum
    obtain ⟨q0, q1, q2⟩ := cells3 p2
    gi_wp2_with (first | (refine ⟨trivial, ?_⟩; refine (callsIn_wide.2 (prog_Count.calls k a0 _ _ l1 _ _ l2 _ _ _ W2 (Kd.C_below HR1.out b2) HC1.out (Kd.C_below HR2.out b2) HC2.out hpc)).mono ?_; rintro e W3 ⟨rfl, hb3⟩; have hs3 := hb3.size; have p3 := (hb3.block _ hl2).trans p2; have t3 := (hb3.block _ hl2').trans t2; have b3 := b2.trans (hb3.mono b2.size); have hl3 := blk_lt p3; obtain ⟨x0, x1, x2⟩ := cells3 p3; have s4 := heap_alloc_new W3 (.cells #[.int .i64 0] 3); have b4 : Below W3.heap.size W3 (W3.alloc (.cells #[.int .i64 0] 3)) := (Below.refl _ _).alloc (Nat.le_refl _) _))
    generalize W3.alloc (.cells #[.int .i64 0] 3) = W4 at s4 b4 ⊢
    have hs4 := b4.size
    have p4 := (b4.block _ hl3).trans p3
    have t4 := (b4.block _ (blk_lt t3)).trans t3
    have b5 := b3.trans (b4.mono b3.size)
    refine ⟨trivial, ?_⟩
    refine (callsIn_wide.2 (prog_All.fn _ _ _ W4)).mono ?_
    rintro e W5 ⟨rfl, hb5, q5⟩
    have hs5 := hb5.size
    have b6 := b5.trans (hb5.mono b5.size)
    have hls := blk_lt s4
    have p5 := (hb5.block _ (by omega)).trans p4
    have t5 := (hb5.block _ (by have := blk_lt t4; omega)).trans t4
    have s5 := (hb5.block _ hls).trans s4
    have hl5 := blk_lt t3
    have hlq := blk_lt q5
    clear p2 t2 p3 t3 p4 t4 s4 b3 b4 b5 hb3 hb5 q0 q1 q2 x0 x1 x2
    gi_wp2
    refine wpIn_rangeW (gf := 62) (lb := #[.pointer (some ⟨W4.heap.size, 0, none⟩)]) rfl (enters_of Try.func62 (by kernel_rfl) rfl)
      (prog_All.seq w W4.heap.size a0 A1 c1 l1 A2 c2 l2 0 its n' k HR1.out HC1.out HR2.out HC2.out hck hwk HCP.out) (fun W6 h6 => (h6.block _ hlq).trans q5) b6 (by rintro x av A ⟨_, _, _, _, _, _, _, _, _, _, _, _, rfl, _⟩; rfl)
      (fun _ _ => true)
      (fun pre A => A.heap[w.heap.size]? = some (.cells #[.int .i64 a0, .slice A1 l1.length c1, .slice A2 l2.length c2] 25 (0, 0)) ∧ A.heap[w.heap.size + 1]? = some (.cells #[.bool false] 4 (0, 0)) ∧ A.heap[W3.heap.size]? = some (.cells #[.int .i64 (pre.length : Int)] 3 (0, 0)))
      (fun _ _ _ => False)
      (fun pre A B h hb => ⟨(hb.block _ (by omega)).trans h.1, (hb.block _ (by omega)).trans h.2.1, (hb.block _ (by omega)).trans h.2.2⟩)
      (fun c pre A j o o' hj h hA ho => h.elim)
      ⟨p5, t5, s5⟩ ?round ?done (fun c q X hst h => h.elim)
    case round =>
      rintro l pre x av A ⟨pa, ta, sa⟩ ⟨r1, r2, r3, r4, r5, D3, d3, D4, d4, D5, d5, _, rfl, _⟩ hpre hbA hsz
      rw [if_pos rfl] at hpre
      have hx := HNUM.out pre x hpre
      have hpl := hpre.length_le
      rw [List.length_append, List.length_singleton] at hpl
      gi_wp2
      refine ⟨⟨rfl, rfl, rfl, Nat.le_refl _, fun _ _ _ => rfl⟩, ?_⟩
      intro W6 hg6 hs6 hi6 hb6
      obtain ⟨p6, t6, s6⟩ := hi6
      have hw6 : IntKind.i64.wrap ((pre.length : Int) + 1) = (pre.length : Int) + 1 := by rw [i64_w]; unfold wrap64; omega
      have e0 : W6.cell? ⟨W3.heap.size, 0, none⟩ = some (.int .i64 (pre.length : Int)) := (blk_cell s6 0).trans rfl
      have e2 := blk_frozen s6 0
      have hx1 : (x.1 != (pre.length : Int)) = false := by rw [hx]; exact bne_self_eq_false _
      have s7 := blk_put s6 0 (.int .i64 ((pre.length : Int) + 1)) (cs' := #[.int .i64 ((pre.length : Int) + 1)]) rfl
      gi_wp2
      exact ⟨rfl, by simp, fun k h1 h2 => Below.heap_setCell _ _ _ _ (by simp; omega), hb6.trans (below_cell _ _ (by omega)), blk_far p6 (by simp; omega) _, blk_far t6 (by simp; omega) _, by rw [List.length_append, List.length_singleton]; exact s7⟩
    case done =>
      rintro A hst ⟨pa, ta, sa⟩ ba hD
      rw [if_pos rfl] at sa
      clear hst p5 t5 s5
      simp only [Exit.inBlock, Exit.then]
      rename_i QQ KK hKK
      refine hKK _ _ (wpIn_wide.2 ?_)
      clear hKK
      have hba := ba.size
      have ca : A.cell? ⟨W3.heap.size, 0, none⟩ = some (.int .i64 (its.length : Int)) := (blk_cell sa 0).trans rfl
      obtain ⟨x0, x1, x2⟩ := cells3 pa
      have hmk := print_make (P := Try.prog) 26 3 .i64 8 Try.underlying26 info3 (by decide) its.length (by omega)
      go_wp2_with (first | (go_at_call 35; (with_reducible refine (r3_Count.calls k A2 c2 l2 _ A (Kd.C_below HR2.out ba) HC2.out hct).mono ?_); rintro e B ⟨rfl, hbB⟩))
      have hsB := hbB.size
      have bB := ba.trans (hbB.mono ba.size)
      have pB := (hbB.block _ (blk_lt pa)).trans pa
      have tB := (hbB.block _ (blk_lt ta)).trans ta
      have DB := (hbB.block _ (blk_lt hD)).trans hD
      have hwB : w.heap.size + 1 < W5.heap.size := by omega
      have hDB := blk_lt DB
      have own0 := own_made B B.heap.size 3 .i64 its.length (Nat.le_refl _) (by omega)
      have FC : Aside0 (Below B.heap.size B (B.alloc (.cells (madeCells #[.int .i64 0] its.length) 3)) ∧ (B.alloc (.cells (madeCells #[.int .i64 0] its.length) 3)).heap.size = B.heap.size + 1) := ⟨(Below.refl _ _).alloc (Nat.le_refl _) _, by simp⟩
      have OWN0 := Aside0.mk own0
      clear own0 hmk x0 x1 x2 ca hbB hD pa ta sa
      generalize B.alloc (.cells (madeCells #[.int .i64 0] its.length) 3) = C at OWN0 FC ⊢
      obtain ⟨bC, hsC⟩ := FC.out
      clear FC
      have pC := Aside0.mk ((bC.block _ (blk_lt pB)).trans pB)
      have tC := Aside0.mk ((bC.block _ (blk_lt tB)).trans tB)
      have DC := Aside0.mk ((bC.block _ hDB).trans DB)
      have BC := Aside0.mk (bB.trans (bC.mono bB.size))
      clear pB tB DB
      go_loopg [9, 10] its.length (fun kq v9 v10 X => ∃ n : Nat, v10 = .int .i64 (n : Int) ∧ v9 = .int .i64 ((kidsTo kd n).length : Int) ∧ Aside0 (n + kq = its.length) ∧ Aside0 (X.ownsRow B.heap.size 3 1 (.slice (some ⟨B.heap.size, 0, none⟩) its.length its.length) its.length (nums .i64 (marks its.length (kidsTo kd n)))) ∧ Aside0 (X.heap[w.heap.size]? = some (.cells #[.int .i64 a0, .slice A1 l1.length c1, .slice A2 l2.length c2] 25 (0, 0))) ∧ Aside0 (X.heap[w.heap.size + 1]? = some (.cells #[.bool false] 4 (0, 0))) ∧ Aside0 (X.heap[W5.heap.size]? = some (.deferred (some []))) ∧ Aside0 (Below w.heap.size w X) ∧ Aside0 (B.heap.size < X.heap.size))
      case atStart => exact ⟨0, rfl, rfl, ⟨by omega⟩, ⟨by rw [show kidsTo kd 0 = [] from rfl, marks_nil]; exact OWN0.out⟩, pC, tC, DC, BC, ⟨by omega⟩⟩
      case round =>
        clear OWN0 pC tC DC BC
        obtain ⟨n, rfl, rfl, HN, OWN, PX, TX, DX, BX, SX⟩ := hrel
        have hwX : w.heap.size + 1 < W5.heap.size := hwB
        obtain ⟨x0, x1, x2⟩ := cells3 PX.out
        have hlX := blk_lt PX.out
        have hlX' := blk_lt TX.out
        cases gk with
        | zero =>
          have hnN : n = its.length := by have := HN.out; omega
          subst hnN
          have hd : decide ((its.length : Int) < (its.length : Int)) = false := decide_eq_false (by omega)
          have hwf : IntKind.i64.wrap (((kidsTo kd its.length).length : Int) + (l2.length : Int)) = (its.length : Int) := by rw [i64_w]; unfold wrap64; omega
          have hbe : ((its.length : Int) == (its.length : Int)) = true := beq_self_eq_true _
          go_wp2_with (first | (go_at_call 12; (with_reducible refine (w3_awake.calls k true wr rfl).mono ?_); rintro e Z3 ⟨rfl, hbz2⟩; have tz := (hbz2.block _ hlX').trans TX.out; have z0 : Z3.cell? ⟨w.heap.size + 1, 0, none⟩ = some (.bool false) := (blk_cell tz 0).trans rfl; have z1 := blk_frozen tz 0))
          have hSX := SX.out
          have y1 := (Below.heap_setCell Z3 ⟨w.heap.size + 1, 0, none⟩ (.bool true) W5.heap.size (by simp; omega)).trans ((hbz2.block _ (by omega)).trans DX.out)
          have tf := blk_put tz 0 (.bool true) (cs' := #[.bool true]) rfl
          have bf : Below w.heap.size w (Z3.setCell ⟨w.heap.size + 1, 0, none⟩ (.bool true)) := (BX.out.trans (hbz2.mono (by omega))).trans (below_cell _ _ (by omega))
          refine ⟨by simp, .inl ⟨_, _, rfl, run_takeDeferred y1, ?_⟩⟩
          exact ⟨_, results_bool rfl _ _ (w.heap.size + 1) true rfl ((World.putObj_heap_other (by omega)).trans tf) Try.underlying4, rfl, bf.trans (below_put _ _ _ (by omega))⟩
        | succ k1 =>
          have hnN : n < its.length := by have := HN.out; omega
          have hd : decide ((n : Int) < (its.length : Int)) = true := decide_eq_true (by omega)
          have inn := HIN.out n hnN
          obtain ⟨hkl, hkx⟩ := HKID.out n hnN
          have hkl0 := hkl
          rw [List.length_append] at hkl0
          obtain ⟨L, hL⟩ : ∃ L, thn n ++ els n = L := ⟨_, rfl⟩
          rw [hL] at hkl
          simp only [hL] at hkx
          have hkdn : kidsTo kd (n + 1) = kidsTo kd n ++ L := by rw [kidsTo_succ, ← hkd, ← hL]
          go_wp2_with (first | (go_at_call 26; (with_reducible refine (prog_Inside.calls k a0 _ _ l1 _ _ l2 (n : Int) _ _ _ wr (Kd.C_below HR1.out BX.out) HC1.out (Kd.C_below HR2.out BX.out) HC2.out inn).mono ?_); rintro e Y ⟨v0, v1, rfl, o0, o1, hbY⟩; obtain ⟨E1, e1, ev1⟩ := Kd.R_slice o1; subst ev1) | ((with_reducible refine gate_builtin (b := .append) (xs := #[.tmp 64, .tmp 65]) rfl ?_); at_builtin; refine print_append_row (w0 := wr) wr.heap.size rfl (.tmp 64) (.tmp 65) 26 3 .i64 8 rfl Try.underlying26 info3 (by decide) v0 (thn n) (els n) E1 _ e1 rfl rfl (Kd.own_of_R o0) (own_reads' (Kd.own_of_R o1)) hbY hbY.size (by omega) ?_; intro v2 Z oZ bZ gZ hZ; rw [hL] at oZ; obtain ⟨F2, f2, ev2⟩ := own_slice oZ; subst ev2))
          have hSX := SX.out
          have pZ := Aside0.mk ((bZ.block _ hlX).trans PX.out)
          have tZ := Aside0.mk ((bZ.block _ hlX').trans TX.out)
          have DZ := Aside0.mk ((bZ.block _ (by omega)).trans DX.out)
          have BZ := Aside0.mk (BX.out.trans (bZ.mono (by omega)))
          have OWNZ := Aside0.mk (own_move OWN.out (fun q hq => by
            obtain rfl : B.heap.size = q := by simpa [Value.ownBlock] using hq
            exact bZ.block _ (by omega)))
          have hsZ := bZ.size
          have OZ := Aside0.mk oZ
          clear oZ hZ gZ o0 o1 hbY PX TX DX BX OWN bZ x0 x1 x2
          obtain ⟨S1, hS1⟩ : ∃ s, s = wr.heap.size := ⟨_, rfl⟩
          rw [← hS1] at hsZ hSX
          have OZ := Aside0.mk (show Z.ownsRow S1 3 1 (.slice F2 L.length f2) L.length (nums .i64 L) by rw [hS1]; exact OZ.out)
          go_loopg [9, 68] L.length (fun kq v9 v68 U => ∃ i : Nat, v68 = .int .i64 (i : Int) ∧ v9 = .int .i64 (((kidsTo kd n).length : Int) + (i : Int)) ∧ Aside0 (i + kq = L.length) ∧ Aside0 (U.ownsRow S1 3 1 (.slice F2 L.length f2) L.length (nums .i64 L)) ∧ Aside0 (U.ownsRow B.heap.size 3 1 (.slice (some ⟨B.heap.size, 0, none⟩) its.length its.length) its.length (nums .i64 (marks its.length (kidsTo kd n ++ L.take i)))) ∧ Aside0 (U.heap[w.heap.size]? = some (.cells #[.int .i64 a0, .slice A1 l1.length c1, .slice A2 l2.length c2] 25 (0, 0))) ∧ Aside0 (U.heap[w.heap.size + 1]? = some (.cells #[.bool false] 4 (0, 0))) ∧ Aside0 (U.heap[W5.heap.size]? = some (.deferred (some []))) ∧ Aside0 (Below w.heap.size w U) ∧ Aside0 (S1 ≤ U.heap.size))
          case atStart => exact ⟨0, rfl, by simp, ⟨by omega⟩, OZ, ⟨by rw [List.take_zero, List.append_nil]; exact OWNZ.out⟩, pZ, tZ, DZ, BZ, ⟨hsZ⟩⟩
          case round =>
            clear OZ OWNZ pZ tZ DZ BZ
            obtain ⟨i, rfl, rfl, HI, OU, SU, PU, TU, DU, BU, ZU⟩ := hrel
            cases gk with
            | zero =>
              have hiL : i = L.length := by have := HI.out; omega
              subst hiL
              have hd2 : decide ((L.length : Int) < (L.length : Int)) = false := decide_eq_false (by omega)
              have hw1 : IntKind.i64.wrap ((n : Int) + 1) = (n : Int) + 1 := by rw [i64_w]; unfold wrap64; omega
              go_wp2
              have hZU := ZU.out
              have hSX' := hSX
              go_roundg k1
              case measure => omega
              case rel =>
                refine ⟨n + 1, by simp, ?_, ⟨by have := HN.out; omega⟩, ⟨?_⟩, PU, TU, DU, BU, ⟨by omega⟩⟩
                · rw [hkdn, List.length_append]; simp
                · rw [hkdn]
                  have := SU.out
                  rw [List.take_length] at this
                  exact this
            | succ k2 =>
              have hiL : i < L.length := by have := HI.out; omega
              obtain ⟨x1, x2, x3⟩ := hkx i L[i] (List.getElem?_eq_getElem hiL)
              have hd2 : decide ((i : Int) < (L.length : Int)) = true := decide_eq_true (by omega)
              have hr0 : rd L (i : Int) = L[i] := by unfold rd; rw [Int.toNat_natCast, List.getD_eq_getElem?_getD, List.getElem?_eq_getElem hiL]; rfl
              obtain ⟨ad, had, hca⟩ := (own_reads' OU.out).at_ (i : Int) (by omega) (by omega)
              rw [hr0] at hca
              simp only [Int.toNat_natCast] at hca
              have hkle := kidsTo_le kd (show n ≤ its.length by omega)
              have htk : L.take (i + 1) = L.take i ++ [L[i]] := by rw [List.take_add_one, List.getElem?_eq_getElem hiL]; rfl
              generalize L[i] = x at x1 x2 x3 hca htk
              obtain ⟨hcs, hcf⟩ := own_at SU.out x (by omega) (by omega)
              have hcnt : rd (marks its.length (kidsTo kd n ++ L.take i)) x = 0 := by
                rw [rd_marks _ _ _ (by omega) (by omega), List.count_eq_zero_of_not_mem x3]
                rfl
              rw [hcnt] at hcs
              subst had
              have e1 : decide (x ≤ (n : Int)) = false := decide_eq_false (by omega)
              have e2 : decide ((its.length : Int) ≤ x) = false := decide_eq_false (by omega)
              have e2' : decide (x ≥ (its.length : Int)) = false := decide_eq_false (by omega)
              have e3 : (0 ≤ x) = True := eq_true (by omega)
              have e4 : (x < (its.length : Int)) = True := eq_true x2
              have e5 : ((i : Int) < (L.length : Int)) = True := eq_true (by omega)
              have e6 : (0 ≤ (i : Int)) = True := eq_true (by omega)
              have hw1 : IntKind.i64.wrap ((i : Int) + 1) = (i : Int) + 1 := by rw [i64_w]; unfold wrap64; omega
              have hw2 : IntKind.i64.wrap (((kidsTo kd n).length : Int) + (i : Int) + 1) = ((kidsTo kd n).length : Int) + (i : Int) + 1 := by rw [i64_w]; unfold wrap64; omega
              go_wp2
              have hZU := ZU.out
              go_roundg k2
              case measure => omega
              case rel =>
                refine ⟨i + 1, by simp, by push_cast; rw [Int.add_assoc], ⟨by have := HI.out; omega⟩, ⟨own_setCell OU.out (fun e => by have := own_base OU.out _ e.symm; simp only at this; omega) _⟩, ⟨?_⟩, ⟨blk_far PU.out (by simp; omega) _⟩, ⟨blk_far TU.out (by simp; omega) _⟩, ⟨(Below.heap_setCell _ _ _ _ (by simp; omega)).trans DU.out⟩, ⟨BU.out.trans (below_cell _ _ (by omega))⟩, ⟨by rw [size_cell]; exact hZU⟩⟩
                have := (own_store SU.out x 1).1
                rw [marks_set _ _ _ (by omega) (by omega) x3] at this
                rw [htk, ← List.append_assoc]
                exact this
end Go.Proofs.Ytffcpbgbhkbplaa.Print
namespace Go.Proofs.Ytffcpbgbhkbplaa.Print
open Go.RowKit Go.Proofs.YtffcpbgbhkbplaaW.PrintWords Go.Proofs.YtffcpbgbhkbplaaW.PrintLast Go.Proofs.YtffcpbgbhkbplaaW.PrintMore
attribute [local go_sem] max2_int min2_int max_two min_two max_three min_three max_four min_four
set_option linter.unusedVariables false
set_option linter.unusedSimpArgs false
def itemN (body : List S47) (n : Nat) : Int × S47 := (wks 0 body).getD n (0, z47)
theorem itemN_at {body : List S47} {n : Nat} (h : n < (wks 0 body).length) : (wks 0 body)[n]? = some (itemN body n) := by
  unfold itemN
  rw [List.getD_eq_getElem?_getD, List.getElem?_eq_getElem h]
  rfl
def thnN (body : List S47) (n : Nat) : List Int := heads ((n : Int) + 1) (itemN body n).2.f3
def elsN (body : List S47) (n : Nat) : List Int := heads ((n : Int) + 1 + sCs (itemN body n).2.f3) (itemN body n).2.f4
theorem kids_at {body : List S47} {n : Nat} (h : n < (wks 0 body).length) : thnN body n ++ elsN body n = kidsOf (itemN body n) := by
  have := wks_num.2 body 0 n _ (itemN_at h)
  unfold thnN elsN kidsOf
  rw [show (itemN body n).1 = (n : Int) by omega]
theorem kidsTo_take (body : List S47) : ∀ n, n ≤ (wks 0 body).length → kidsTo (fun m => thnN body m ++ elsN body m) n = ((wks 0 body).take n).flatMap kidsOf
  | 0, _ => rfl
  | n + 1, h => by
    rw [kidsTo_succ, kidsTo_take body n (by omega), List.take_add_one, itemN_at (by omega), List.flatMap_append, kids_at (by omega)]
    simp
theorem once_law (a0 : Int) (A1 : Option Addr) (c1 : Nat) (l1 : List S82) (A2 : Option Addr) (c2 : Nat) (l2 : List S47) (w : World)
    (hr1 : Kd.C k82 w A1 l1.length l1) (hc1 : l1.length ≤ c1) (hr2 : Kd.C k47 w A2 l2.length l2) (hc2 : l2.length ≤ c2) (hl : l2.length ≤ 9223372036854775807) (hg : goodSs l2) :
    Calls Try.prog 7 #[.agg #[.int .i64 a0, .slice A1 l1.length c1, .slice A2 l2.length c2]] w fun e w' => e = .returned (.bool true) ∧ Below w.heap.size w w' := by
  obtain ⟨ka, hka⟩ := all_facts a0 l1 l2 hl hg
  have hlen := wks_len.2 l2 0
  have hpc := pCount_tells a0 l1 l2 hl hg
  obtain ⟨kc, hkc⟩ := hpc
  obtain ⟨ki, hki⟩ : ∃ k0, ∀ k, k0 ≤ k → pIs a0 l1 l2 = true → ∀ n ∈ List.range (wks 0 l2).length, prog_Inside.f k a0 l1 l2 (n : Int) = some (thnN l2 n, elsN l2 n, 0) := by
    by_cases hp : pIs a0 l1 l2 = true
    · obtain ⟨k0, h⟩ := Tells.all (g := fun (n : Nat) k => prog_Inside.f k a0 l1 l2 (n : Int)) (v := fun n => (thnN l2 n, elsN l2 n, (0 : Int))) (List.range (wks 0 l2).length) (fun n hn => inside_tells a0 l1 l2 hl hg hp n (itemN l2 n) (itemN_at (List.mem_range.1 hn)))
      exact ⟨k0, fun k hk _ => h k hk⟩
    · exact ⟨0, fun k _ h => absurd h hp⟩
  obtain ⟨h1, h2⟩ := hka (max ka (max kc ki)) (by omega)
  refine w3_ProgOnce.calls (max ka (max kc ki)) a0 A1 c1 l1 A2 c2 l2 (pIs a0 l1 l2) (wks 0 l2) (sCs l2 : Int) (sNs l2 : Int) (thnN l2) (elsN l2) w hr1 hc1 hr2 hc2 h1 (fun hp => ?_)
  obtain ⟨q1, q2, q3, q4⟩ := h2 hp
  have hn4 := (pIs_all hp).2
  have hle := (s_le.2 l2).1
  have hperm := kids_perm.2 l2 0
  have htake := kidsTo_take l2 (wks 0 l2).length (Nat.le_refl _)
  rw [List.take_length] at htake
  refine ⟨q1, q2, fun x hx => ⟨_, q3 x hx⟩, ?_, q4, numbered_wks l2, by omega, fun n hn => hki _ (by omega) hp n (List.mem_range.2 hn), fun n hn => ⟨?_, fun i x hix => ?_⟩, ?_⟩
  · have := hkc (max ka (max kc ki)) (by omega)
    simp only [hp, if_true] at this
    rw [hlen]
    exact this
  · have hx := wks_good.2 l2 hg 0 (itemN l2 n) (by rw [← Option.some_inj.1 ((List.getElem?_eq_getElem hn).symm.trans (itemN_at hn))]; exact List.getElem_mem hn)
    have e := sN_eq (itemN l2 n).2
    have g3 := sNs_len (itemN l2 n).2.f3
    have g4 := sNs_len (itemN l2 n).2.f4
    unfold thnN elsN
    rw [List.length_append, heads_length, heads_length]
    omega
  · have hmem := List.mem_of_getElem? hix
    have hgt : (n : Int) < x := by
      unfold thnN elsN at hmem
      rcases List.mem_append.1 hmem with h | h
      · have := heads_ge _ _ _ h
        omega
      · have := heads_ge _ _ _ h
        omega
    have hs1 : (wks 0 l2).flatMap kidsOf = kidsTo (fun m => thnN l2 m ++ elsN l2 m) (n + 1) ++ ((wks 0 l2).drop (n + 1)).flatMap kidsOf := by
      rw [kidsTo_take l2 (n + 1) (by omega), ← List.flatMap_append, List.take_append_drop]
    have hin : x ∈ (wks 0 l2).flatMap kidsOf := by
      rw [hs1, kidsTo_succ]
      exact List.mem_append_left _ (List.mem_append_right _ hmem)
    have hrng := (rng_mem 0 x (sCs l2)).1 (hperm.subset (List.mem_append_right _ hin))
    refine ⟨hgt, by omega, fun hm => ?_⟩
    have hc := List.perm_iff_count.1 hperm x
    have h1c := List.nodup_iff_count.1 (rng_nodup 0 (sCs l2)) x
    obtain ⟨hi, hxe⟩ := List.getElem?_eq_some_iff.1 hix
    have hL : thnN l2 n ++ elsN l2 n = (thnN l2 n ++ elsN l2 n).take i ++ x :: (thnN l2 n ++ elsN l2 n).drop (i + 1) := by
      conv => lhs; rw [← List.take_append_drop i (thnN l2 n ++ elsN l2 n)]
      congr 1
      rw [List.drop_eq_getElem_cons hi, hxe]
    rw [hs1, kidsTo_succ] at hc
    rw [hL] at hc
    have hpos := List.count_pos_iff.2 hm
    simp only [List.count_append, List.count_cons, beq_self_eq_true, if_true] at hc hpos h1c
    omega
  · have := hperm.length_eq
    rw [List.length_append, heads_length, ← htake] at this
    have hr : (rng 0 (sCs l2)).length = sCs l2 := by unfold rng; simp
    omega
end Go.Proofs.Ytffcpbgbhkbplaa.Print
