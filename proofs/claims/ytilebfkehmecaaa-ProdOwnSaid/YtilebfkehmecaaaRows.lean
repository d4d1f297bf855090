/-
  NARROWER THAN 'FOR EVERY INPUT', by the rows' own cells (each row's printed sentence says how): ProdPlains: loops · ProdValues: loops · ProdMakes: loops · ProdStores: loops · ProdOwn: loops.
  DERIVED. THE GIVEN ROWS OF THIS SEAT. 6 by the template 'for every input the law returns true; each argument reads behind the call as it read before'; 0 by the template 'total and deterministic' (their statements: YtilebfkehmecaaaTotals.lean).
  GIVEN WITH THE SEED: the statements are not yours to turn. If you find one false, say at which input.
  Laid BY PROGRAM, IN A SANDBOX (cutbox-rows.mjs): the forced cells as the released guide's own fill.sh prints them over the translation de465b2b0e80f6b7… (all of the seat's roots in one cut). By AI agents, Wed Nov 11 2026. No macro, syntax, notation, axiom, sorry.
-/
import Derived.Test.YtilebfkehmecaaaChecked
import GoSem.Claim
import GoSem.ClaimJoined
import GoSem.ClaimMapViews
import Derived.JoinedTies
import Derived.KernelRfl
namespace Go.Proofs.Ytilebfkehmecaaa
/- THE CELL 'sum', in the pinned program and in every row, IS THE sha256 OF THE DUMP (.gsa) THAT YtilebfkehmecaaaProg.lean LOADS. Nothing in Lean hashes anything: it is a label: what it is worth is what the hold of that sum in a sandbox is worth. -/
noncomputable def Try.pinned : Pinned := { name := "ytilebfkehmecaaa", sum := "de465b2b0e80f6b7d7ec2e95b8b4399f4fa152914d711dd4a313553b006e6f86", checked := Try.checked }
namespace Rows
def none {H : Type} : Left H := { results := [], args := [] }

/-- 'stereopsislaw12.ProdPlains': WHATEVER THE INPUT: true; the input reads as it did. -/
def prodPlainsSpec : ChangeSpec := { name := "prodPlains", fn := fun _ => fun
  | [d1, d2, d3] => { results := [.lit (.bool true)], args := [d1, d2, d3] }
  | _ => none }
def prodPlainsRow : OpenClaim := { program := "ytilebfkehmecaaa", sum := "de465b2b0e80f6b7d7ec2e95b8b4399f4fa152914d711dd4a313553b006e6f86", func := "stereopsis/stereopsislaw12.ProdPlains", spec := "prodPlains", unfollowed := true, recurses := true, loops := true, apart := false }
def ProdPlainsSaid : Prop := prodPlainsRow.holds Try.pinned (OpenSpec.ofChange prodPlainsSpec)

/-- ITS FALSE NEIGHBOUR: 'it returns false'. Refute it at one input. -/
def prodPlainsWrong : ChangeSpec := { name := "prodPlains", fn := fun _ => fun
  | [d1, d2, d3] => { results := [.lit (.bool false)], args := [d1, d2, d3] }
  | _ => none }
def ProdPlainsWrongFalsely : Prop := prodPlainsRow.holds Try.pinned (OpenSpec.ofChange prodPlainsWrong)

/-- 'stereopsislaw12.ProdTells': WHATEVER THE INPUT: true; the input reads as it did. -/
def prodTellsSpec : ChangeSpec := { name := "prodTells", fn := fun _ => fun
  | [d1, d2] => { results := [.lit (.bool true)], args := [d1, d2] }
  | _ => none }
def prodTellsRow : OpenClaim := { program := "ytilebfkehmecaaa", sum := "de465b2b0e80f6b7d7ec2e95b8b4399f4fa152914d711dd4a313553b006e6f86", func := "stereopsis/stereopsislaw12.ProdTells", spec := "prodTells", unfollowed := true, recurses := true, apart := false }
def ProdTellsSaid : Prop := prodTellsRow.holds Try.pinned (OpenSpec.ofChange prodTellsSpec)

/-- ITS FALSE NEIGHBOUR: 'it returns false'. Refute it at one input. -/
def prodTellsWrong : ChangeSpec := { name := "prodTells", fn := fun _ => fun
  | [d1, d2] => { results := [.lit (.bool false)], args := [d1, d2] }
  | _ => none }
def ProdTellsWrongFalsely : Prop := prodTellsRow.holds Try.pinned (OpenSpec.ofChange prodTellsWrong)

/-- 'stereopsislaw12.ProdValues': WHATEVER THE INPUT: true; the input reads as it did. -/
def prodValuesSpec : ChangeSpec := { name := "prodValues", fn := fun _ => fun
  | [d1, d2, d3] => { results := [.lit (.bool true)], args := [d1, d2, d3] }
  | _ => none }
def prodValuesRow : OpenClaim := { program := "ytilebfkehmecaaa", sum := "de465b2b0e80f6b7d7ec2e95b8b4399f4fa152914d711dd4a313553b006e6f86", func := "stereopsis/stereopsislaw12.ProdValues", spec := "prodValues", unfollowed := true, recurses := true, loops := true, apart := false }
def ProdValuesSaid : Prop := prodValuesRow.holds Try.pinned (OpenSpec.ofChange prodValuesSpec)

/-- ITS FALSE NEIGHBOUR: 'it returns false'. Refute it at one input. -/
def prodValuesWrong : ChangeSpec := { name := "prodValues", fn := fun _ => fun
  | [d1, d2, d3] => { results := [.lit (.bool false)], args := [d1, d2, d3] }
  | _ => none }
def ProdValuesWrongFalsely : Prop := prodValuesRow.holds Try.pinned (OpenSpec.ofChange prodValuesWrong)

/-- 'stereopsislaw12.ProdMakes': WHATEVER THE INPUT: true; the input reads as it did. -/
def prodMakesSpec : ChangeSpec := { name := "prodMakes", fn := fun _ => fun
  | [d1, d2, d3, d4] => { results := [.lit (.bool true)], args := [d1, d2, d3, d4] }
  | _ => none }
def prodMakesRow : OpenClaim := { program := "ytilebfkehmecaaa", sum := "de465b2b0e80f6b7d7ec2e95b8b4399f4fa152914d711dd4a313553b006e6f86", func := "stereopsis/stereopsislaw12.ProdMakes", spec := "prodMakes", unfollowed := true, recurses := true, loops := true, apart := false }
def ProdMakesSaid : Prop := prodMakesRow.holds Try.pinned (OpenSpec.ofChange prodMakesSpec)

/-- ITS FALSE NEIGHBOUR: 'it returns false'. Refute it at one input. -/
def prodMakesWrong : ChangeSpec := { name := "prodMakes", fn := fun _ => fun
  | [d1, d2, d3, d4] => { results := [.lit (.bool false)], args := [d1, d2, d3, d4] }
  | _ => none }
def ProdMakesWrongFalsely : Prop := prodMakesRow.holds Try.pinned (OpenSpec.ofChange prodMakesWrong)

/-- 'stereopsislaw12.ProdStores': WHATEVER THE INPUT: true; the input reads as it did. -/
def prodStoresSpec : ChangeSpec := { name := "prodStores", fn := fun _ => fun
  | [d1, d2, d3, d4] => { results := [.lit (.bool true)], args := [d1, d2, d3, d4] }
  | _ => none }
def prodStoresRow : OpenClaim := { program := "ytilebfkehmecaaa", sum := "de465b2b0e80f6b7d7ec2e95b8b4399f4fa152914d711dd4a313553b006e6f86", func := "stereopsis/stereopsislaw12.ProdStores", spec := "prodStores", unfollowed := true, recurses := true, loops := true, apart := false }
def ProdStoresSaid : Prop := prodStoresRow.holds Try.pinned (OpenSpec.ofChange prodStoresSpec)

/-- ITS FALSE NEIGHBOUR: 'it returns false'. Refute it at one input. -/
def prodStoresWrong : ChangeSpec := { name := "prodStores", fn := fun _ => fun
  | [d1, d2, d3, d4] => { results := [.lit (.bool false)], args := [d1, d2, d3, d4] }
  | _ => none }
def ProdStoresWrongFalsely : Prop := prodStoresRow.holds Try.pinned (OpenSpec.ofChange prodStoresWrong)

/-- 'stereopsislaw12.ProdOwn': WHATEVER THE INPUT: true; the input reads as it did. -/
def prodOwnSpec : ChangeSpec := { name := "prodOwn", fn := fun _ => fun
  | [d1, d2, d3] => { results := [.lit (.bool true)], args := [d1, d2, d3] }
  | _ => none }
def prodOwnRow : OpenClaim := { program := "ytilebfkehmecaaa", sum := "de465b2b0e80f6b7d7ec2e95b8b4399f4fa152914d711dd4a313553b006e6f86", func := "stereopsis/stereopsislaw12.ProdOwn", spec := "prodOwn", unfollowed := true, recurses := true, loops := true, apart := false }
def ProdOwnSaid : Prop := prodOwnRow.holds Try.pinned (OpenSpec.ofChange prodOwnSpec)

/-- ITS FALSE NEIGHBOUR: 'it returns false'. Refute it at one input. -/
def prodOwnWrong : ChangeSpec := { name := "prodOwn", fn := fun _ => fun
  | [d1, d2, d3] => { results := [.lit (.bool false)], args := [d1, d2, d3] }
  | _ => none }
def ProdOwnWrongFalsely : Prop := prodOwnRow.holds Try.pinned (OpenSpec.ofChange prodOwnWrong)

/- THE SECOND FORM. 'bulk': how many values and letters a reading holds, each counted each time it is reached (what is shared counts as often as it is met; a slice's spare places count too). A statement '..UptoSaid' is the law's where the arguments, and the package variables that the reading takes, are together of bulk at most 1048576: NARROWER than '..Said'. Prove '..Said' where nothing that the law and all that it calls make is longer than what came in: it says more and counts as full. Else prove '..UptoSaid'. A law counts once. -/
mutual
def uptoBulk {H : Type} : DataW H → Nat
  | .lit (.string bytes) => bytes.length + 1
  | .lit _ => 1
  | .nil => 1
  | .ptr d => uptoBulk d + 1
  | .slice elems spare => uptoBulkAll elems + uptoBulkAll spare + 1
  | .agg parts => uptoBulkAll parts + 1
  | .iface _ d => uptoBulk d + 1
  | .map entries => uptoBulkEntries entries + 1
  | .held _ => 1
def uptoBulkAll {H : Type} : List (DataW H) → Nat
  | [] => 0
  | d :: r => uptoBulk d + uptoBulkAll r
def uptoBulkEntries {H : Type} : List (Lit × DataW H) → Nat
  | [] => 0
  | x :: r => uptoBulkEntry x + uptoBulkEntries r
def uptoBulkEntry {H : Type} : Lit × DataW H → Nat
  | (.string bytes, d) => bytes.length + uptoBulk d + 1
  | (_, d) => uptoBulk d + 1
 end
def uptoSmall : (H : Type) → List (DataW H) → Bool := fun _ ds => decide (uptoBulkAll ds ≤ 1048576)
def OpenSpec.upto (s : _root_.Go.ChangeSpec) : _root_.Go.OpenSpec := { _root_.Go.OpenSpec.ofChange s with cond := some uptoSmall }

/-- 'stereopsislaw12.ProdPlains', WHERE WHAT IT READS IS OF BULK AT MOST 1048576: true; the input reads as it did. -/
def prodPlainsUptoRow : OpenClaim := { program := "ytilebfkehmecaaa", sum := "de465b2b0e80f6b7d7ec2e95b8b4399f4fa152914d711dd4a313553b006e6f86", func := "stereopsis/stereopsislaw12.ProdPlains", spec := "prodPlains", unfollowed := true, recurses := true, loops := true, apart := false, narrowed := true }
def ProdPlainsUptoSaid : Prop := prodPlainsUptoRow.holds Try.pinned (OpenSpec.upto prodPlainsSpec)

/-- 'stereopsislaw12.ProdTells', WHERE WHAT IT READS IS OF BULK AT MOST 1048576: true; the input reads as it did. -/
def prodTellsUptoRow : OpenClaim := { program := "ytilebfkehmecaaa", sum := "de465b2b0e80f6b7d7ec2e95b8b4399f4fa152914d711dd4a313553b006e6f86", func := "stereopsis/stereopsislaw12.ProdTells", spec := "prodTells", unfollowed := true, recurses := true, apart := false, narrowed := true }
def ProdTellsUptoSaid : Prop := prodTellsUptoRow.holds Try.pinned (OpenSpec.upto prodTellsSpec)

/-- 'stereopsislaw12.ProdValues', WHERE WHAT IT READS IS OF BULK AT MOST 1048576: true; the input reads as it did. -/
def prodValuesUptoRow : OpenClaim := { program := "ytilebfkehmecaaa", sum := "de465b2b0e80f6b7d7ec2e95b8b4399f4fa152914d711dd4a313553b006e6f86", func := "stereopsis/stereopsislaw12.ProdValues", spec := "prodValues", unfollowed := true, recurses := true, loops := true, apart := false, narrowed := true }
def ProdValuesUptoSaid : Prop := prodValuesUptoRow.holds Try.pinned (OpenSpec.upto prodValuesSpec)

/-- 'stereopsislaw12.ProdMakes', WHERE WHAT IT READS IS OF BULK AT MOST 1048576: true; the input reads as it did. -/
def prodMakesUptoRow : OpenClaim := { program := "ytilebfkehmecaaa", sum := "de465b2b0e80f6b7d7ec2e95b8b4399f4fa152914d711dd4a313553b006e6f86", func := "stereopsis/stereopsislaw12.ProdMakes", spec := "prodMakes", unfollowed := true, recurses := true, loops := true, apart := false, narrowed := true }
def ProdMakesUptoSaid : Prop := prodMakesUptoRow.holds Try.pinned (OpenSpec.upto prodMakesSpec)

/-- 'stereopsislaw12.ProdStores', WHERE WHAT IT READS IS OF BULK AT MOST 1048576: true; the input reads as it did. -/
def prodStoresUptoRow : OpenClaim := { program := "ytilebfkehmecaaa", sum := "de465b2b0e80f6b7d7ec2e95b8b4399f4fa152914d711dd4a313553b006e6f86", func := "stereopsis/stereopsislaw12.ProdStores", spec := "prodStores", unfollowed := true, recurses := true, loops := true, apart := false, narrowed := true }
def ProdStoresUptoSaid : Prop := prodStoresUptoRow.holds Try.pinned (OpenSpec.upto prodStoresSpec)

/-- 'stereopsislaw12.ProdOwn', WHERE WHAT IT READS IS OF BULK AT MOST 1048576: true; the input reads as it did. -/
def prodOwnUptoRow : OpenClaim := { program := "ytilebfkehmecaaa", sum := "de465b2b0e80f6b7d7ec2e95b8b4399f4fa152914d711dd4a313553b006e6f86", func := "stereopsis/stereopsislaw12.ProdOwn", spec := "prodOwn", unfollowed := true, recurses := true, loops := true, apart := false, narrowed := true }
def ProdOwnUptoSaid : Prop := prodOwnUptoRow.holds Try.pinned (OpenSpec.upto prodOwnSpec)

end Rows
end Go.Proofs.Ytilebfkehmecaaa
