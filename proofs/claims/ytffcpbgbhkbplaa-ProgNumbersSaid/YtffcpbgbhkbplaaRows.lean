/-
  NARROWER THAN 'FOR EVERY INPUT', by the rows' own cells (each row's printed sentence says how): ProgStores: loops · ProgDigits: loops · ProgCells: loops · ProgNumbers: loops · ProgOnce: loops · ProgStops: loops · ProgOwn: loops · ProgForms: loops.
  DERIVED. THE GIVEN ROWS OF THIS SEAT. 8 by the template 'for every input the law returns true; each argument reads behind the call as it read before'; 0 by the template 'total and deterministic' (their statements: YtffcpbgbhkbplaaTotals.lean).
  GIVEN WITH THE SEED: the statements are not yours to turn. If you find one false, say at which input.
  Laid BY PROGRAM, IN A SANDBOX (cutbox-rows.mjs): the forced cells as the released guide's own fill.sh prints them over the translation 5349df54424577b4… (all of the seat's roots in one cut). By AI agents, Wed Nov 11 2026. No macro, syntax, notation, axiom, sorry.
-/
import Derived.Test.YtffcpbgbhkbplaaChecked
import GoSem.Claim
import GoSem.ClaimJoined
import GoSem.ClaimMapViews
import Derived.JoinedTies
import Derived.KernelRfl
namespace Go.Proofs.Ytffcpbgbhkbplaa
/- THE CELL 'sum', in the pinned program and in every row, IS THE sha256 OF THE DUMP (.gsa) THAT YtffcpbgbhkbplaaProg.lean LOADS. Nothing in Lean hashes anything: it is a label: what it is worth is what the hold of that sum in a sandbox is worth. -/
noncomputable def Try.pinned : Pinned := { name := "ytffcpbgbhkbplaa", sum := "5349df54424577b4e11c68957aa6c222c79d273430be8ed5c39f21fcb0943dd4", checked := Try.checked }
namespace Rows
def none {H : Type} : Left H := { results := [], args := [] }

/-- 'stereopsislaw03.ProgStores': WHATEVER THE INPUT: true; the input reads as it did. -/
def progStoresSpec : ChangeSpec := { name := "progStores", fn := fun _ => fun
  | [d1, d2, d3] => { results := [.lit (.bool true)], args := [d1, d2, d3] }
  | _ => none }
def progStoresRow : OpenClaim := { program := "ytffcpbgbhkbplaa", sum := "5349df54424577b4e11c68957aa6c222c79d273430be8ed5c39f21fcb0943dd4", func := "stereopsis/stereopsislaw03.ProgStores", spec := "progStores", unfollowed := true, recurses := true, loops := true, apart := false }
def ProgStoresSaid : Prop := progStoresRow.holds Try.pinned (OpenSpec.ofChange progStoresSpec)

/-- ITS FALSE NEIGHBOUR: 'it returns false'. Refute it at one input. -/
def progStoresWrong : ChangeSpec := { name := "progStores", fn := fun _ => fun
  | [d1, d2, d3] => { results := [.lit (.bool false)], args := [d1, d2, d3] }
  | _ => none }
def ProgStoresWrongFalsely : Prop := progStoresRow.holds Try.pinned (OpenSpec.ofChange progStoresWrong)

/-- 'stereopsislaw03.ProgDigits': WHATEVER THE INPUT: true; the input reads as it did. -/
def progDigitsSpec : ChangeSpec := { name := "progDigits", fn := fun _ => fun
  | [d1, d2, d3] => { results := [.lit (.bool true)], args := [d1, d2, d3] }
  | _ => none }
def progDigitsRow : OpenClaim := { program := "ytffcpbgbhkbplaa", sum := "5349df54424577b4e11c68957aa6c222c79d273430be8ed5c39f21fcb0943dd4", func := "stereopsis/stereopsislaw03.ProgDigits", spec := "progDigits", unfollowed := true, recurses := true, loops := true, apart := false }
def ProgDigitsSaid : Prop := progDigitsRow.holds Try.pinned (OpenSpec.ofChange progDigitsSpec)

/-- ITS FALSE NEIGHBOUR: 'it returns false'. Refute it at one input. -/
def progDigitsWrong : ChangeSpec := { name := "progDigits", fn := fun _ => fun
  | [d1, d2, d3] => { results := [.lit (.bool false)], args := [d1, d2, d3] }
  | _ => none }
def ProgDigitsWrongFalsely : Prop := progDigitsRow.holds Try.pinned (OpenSpec.ofChange progDigitsWrong)

/-- 'stereopsislaw03.ProgCells': WHATEVER THE INPUT: true; the input reads as it did. -/
def progCellsSpec : ChangeSpec := { name := "progCells", fn := fun _ => fun
  | [d1, d2, d3] => { results := [.lit (.bool true)], args := [d1, d2, d3] }
  | _ => none }
def progCellsRow : OpenClaim := { program := "ytffcpbgbhkbplaa", sum := "5349df54424577b4e11c68957aa6c222c79d273430be8ed5c39f21fcb0943dd4", func := "stereopsis/stereopsislaw03.ProgCells", spec := "progCells", unfollowed := true, recurses := true, loops := true, apart := false }
def ProgCellsSaid : Prop := progCellsRow.holds Try.pinned (OpenSpec.ofChange progCellsSpec)

/-- ITS FALSE NEIGHBOUR: 'it returns false'. Refute it at one input. -/
def progCellsWrong : ChangeSpec := { name := "progCells", fn := fun _ => fun
  | [d1, d2, d3] => { results := [.lit (.bool false)], args := [d1, d2, d3] }
  | _ => none }
def ProgCellsWrongFalsely : Prop := progCellsRow.holds Try.pinned (OpenSpec.ofChange progCellsWrong)

/-- 'stereopsislaw03.ProgNumbers': WHATEVER THE INPUT: true; the input reads as it did. -/
def progNumbersSpec : ChangeSpec := { name := "progNumbers", fn := fun _ => fun
  | [d1, d2] => { results := [.lit (.bool true)], args := [d1, d2] }
  | _ => none }
def progNumbersRow : OpenClaim := { program := "ytffcpbgbhkbplaa", sum := "5349df54424577b4e11c68957aa6c222c79d273430be8ed5c39f21fcb0943dd4", func := "stereopsis/stereopsislaw03.ProgNumbers", spec := "progNumbers", unfollowed := true, recurses := true, loops := true, apart := false }
def ProgNumbersSaid : Prop := progNumbersRow.holds Try.pinned (OpenSpec.ofChange progNumbersSpec)

/-- ITS FALSE NEIGHBOUR: 'it returns false'. Refute it at one input. -/
def progNumbersWrong : ChangeSpec := { name := "progNumbers", fn := fun _ => fun
  | [d1, d2] => { results := [.lit (.bool false)], args := [d1, d2] }
  | _ => none }
def ProgNumbersWrongFalsely : Prop := progNumbersRow.holds Try.pinned (OpenSpec.ofChange progNumbersWrong)

/-- 'stereopsislaw03.ProgOnce': WHATEVER THE INPUT: true; the input reads as it did. -/
def progOnceSpec : ChangeSpec := { name := "progOnce", fn := fun _ => fun
  | [d] => { results := [.lit (.bool true)], args := [d] }
  | _ => none }
def progOnceRow : OpenClaim := { program := "ytffcpbgbhkbplaa", sum := "5349df54424577b4e11c68957aa6c222c79d273430be8ed5c39f21fcb0943dd4", func := "stereopsis/stereopsislaw03.ProgOnce", spec := "progOnce", unfollowed := true, recurses := true, loops := true, apart := false }
def ProgOnceSaid : Prop := progOnceRow.holds Try.pinned (OpenSpec.ofChange progOnceSpec)

/-- ITS FALSE NEIGHBOUR: 'it returns false'. Refute it at one input. -/
def progOnceWrong : ChangeSpec := { name := "progOnce", fn := fun _ => fun
  | [d] => { results := [.lit (.bool false)], args := [d] }
  | _ => none }
def ProgOnceWrongFalsely : Prop := progOnceRow.holds Try.pinned (OpenSpec.ofChange progOnceWrong)

/-- 'stereopsislaw03.ProgStops': WHATEVER THE INPUT: true; the input reads as it did. -/
def progStopsSpec : ChangeSpec := { name := "progStops", fn := fun _ => fun
  | [d1, d2] => { results := [.lit (.bool true)], args := [d1, d2] }
  | _ => none }
def progStopsRow : OpenClaim := { program := "ytffcpbgbhkbplaa", sum := "5349df54424577b4e11c68957aa6c222c79d273430be8ed5c39f21fcb0943dd4", func := "stereopsis/stereopsislaw03.ProgStops", spec := "progStops", unfollowed := true, recurses := true, loops := true, apart := false }
def ProgStopsSaid : Prop := progStopsRow.holds Try.pinned (OpenSpec.ofChange progStopsSpec)

/-- ITS FALSE NEIGHBOUR: 'it returns false'. Refute it at one input. -/
def progStopsWrong : ChangeSpec := { name := "progStops", fn := fun _ => fun
  | [d1, d2] => { results := [.lit (.bool false)], args := [d1, d2] }
  | _ => none }
def ProgStopsWrongFalsely : Prop := progStopsRow.holds Try.pinned (OpenSpec.ofChange progStopsWrong)

/-- 'stereopsislaw03.ProgOwn': WHATEVER THE INPUT: true; the input reads as it did. -/
def progOwnSpec : ChangeSpec := { name := "progOwn", fn := fun _ => fun
  | [d1, d2] => { results := [.lit (.bool true)], args := [d1, d2] }
  | _ => none }
def progOwnRow : OpenClaim := { program := "ytffcpbgbhkbplaa", sum := "5349df54424577b4e11c68957aa6c222c79d273430be8ed5c39f21fcb0943dd4", func := "stereopsis/stereopsislaw03.ProgOwn", spec := "progOwn", unfollowed := true, recurses := true, loops := true, apart := false }
def ProgOwnSaid : Prop := progOwnRow.holds Try.pinned (OpenSpec.ofChange progOwnSpec)

/-- ITS FALSE NEIGHBOUR: 'it returns false'. Refute it at one input. -/
def progOwnWrong : ChangeSpec := { name := "progOwn", fn := fun _ => fun
  | [d1, d2] => { results := [.lit (.bool false)], args := [d1, d2] }
  | _ => none }
def ProgOwnWrongFalsely : Prop := progOwnRow.holds Try.pinned (OpenSpec.ofChange progOwnWrong)

/-- 'stereopsislaw03.ProgForms': WHATEVER THE INPUT: true; the input reads as it did. -/
def progFormsSpec : ChangeSpec := { name := "progForms", fn := fun _ => fun
  | [d] => { results := [.lit (.bool true)], args := [d] }
  | _ => none }
def progFormsRow : OpenClaim := { program := "ytffcpbgbhkbplaa", sum := "5349df54424577b4e11c68957aa6c222c79d273430be8ed5c39f21fcb0943dd4", func := "stereopsis/stereopsislaw03.ProgForms", spec := "progForms", unfollowed := true, recurses := true, loops := true, apart := false }
def ProgFormsSaid : Prop := progFormsRow.holds Try.pinned (OpenSpec.ofChange progFormsSpec)

/-- ITS FALSE NEIGHBOUR: 'it returns false'. Refute it at one input. -/
def progFormsWrong : ChangeSpec := { name := "progForms", fn := fun _ => fun
  | [d] => { results := [.lit (.bool false)], args := [d] }
  | _ => none }
def ProgFormsWrongFalsely : Prop := progFormsRow.holds Try.pinned (OpenSpec.ofChange progFormsWrong)

/- THE SECOND FORM. 'bulk': how many values and letters a reading holds, each counted each time it is reached (what is shared counts as often as it is met; a slice's spare places count too). A statement '..UptoSaid' is the law's where the arguments, and the package variables that the reading takes, are together of bulk at most 1048576: NARROWER than '..Said'. Prove '..Said' where nothing that the law and all that it calls make is longer than what came in: it says more and counts as full. Else prove '..UptoSaid'. A law counts once. -/
mutual
def uptoBulk {H : Type} : DataW H → Nat
  | .lit (.string bytes) => bytes.length + 1
  | .lit _ => 1
  | .nil => 1
  | .ptr d => uptoBulk d + 1
  | .slice elems spare => uptoBulkAll elems + uptoBulkAll spare + 1
  | .agg parts => uptoBulkAll parts + 1
  | .iface _ d => uptoBulk d + 1
  | .map entries => uptoBulkEntries entries + 1
  | .held _ => 1
def uptoBulkAll {H : Type} : List (DataW H) → Nat
  | [] => 0
  | d :: r => uptoBulk d + uptoBulkAll r
def uptoBulkEntries {H : Type} : List (Lit × DataW H) → Nat
  | [] => 0
  | x :: r => uptoBulkEntry x + uptoBulkEntries r
def uptoBulkEntry {H : Type} : Lit × DataW H → Nat
  | (.string bytes, d) => bytes.length + uptoBulk d + 1
  | (_, d) => uptoBulk d + 1
 end
def uptoSmall : (H : Type) → List (DataW H) → Bool := fun _ ds => decide (uptoBulkAll ds ≤ 1048576)
def OpenSpec.upto (s : _root_.Go.ChangeSpec) : _root_.Go.OpenSpec := { _root_.Go.OpenSpec.ofChange s with cond := some uptoSmall }

/-- 'stereopsislaw03.ProgStores', WHERE WHAT IT READS IS OF BULK AT MOST 1048576: true; the input reads as it did. -/
def progStoresUptoRow : OpenClaim := { program := "ytffcpbgbhkbplaa", sum := "5349df54424577b4e11c68957aa6c222c79d273430be8ed5c39f21fcb0943dd4", func := "stereopsis/stereopsislaw03.ProgStores", spec := "progStores", unfollowed := true, recurses := true, loops := true, apart := false, narrowed := true }
def ProgStoresUptoSaid : Prop := progStoresUptoRow.holds Try.pinned (OpenSpec.upto progStoresSpec)

/-- 'stereopsislaw03.ProgDigits', WHERE WHAT IT READS IS OF BULK AT MOST 1048576: true; the input reads as it did. -/
def progDigitsUptoRow : OpenClaim := { program := "ytffcpbgbhkbplaa", sum := "5349df54424577b4e11c68957aa6c222c79d273430be8ed5c39f21fcb0943dd4", func := "stereopsis/stereopsislaw03.ProgDigits", spec := "progDigits", unfollowed := true, recurses := true, loops := true, apart := false, narrowed := true }
def ProgDigitsUptoSaid : Prop := progDigitsUptoRow.holds Try.pinned (OpenSpec.upto progDigitsSpec)

/-- 'stereopsislaw03.ProgCells', WHERE WHAT IT READS IS OF BULK AT MOST 1048576: true; the input reads as it did. -/
def progCellsUptoRow : OpenClaim := { program := "ytffcpbgbhkbplaa", sum := "5349df54424577b4e11c68957aa6c222c79d273430be8ed5c39f21fcb0943dd4", func := "stereopsis/stereopsislaw03.ProgCells", spec := "progCells", unfollowed := true, recurses := true, loops := true, apart := false, narrowed := true }
def ProgCellsUptoSaid : Prop := progCellsUptoRow.holds Try.pinned (OpenSpec.upto progCellsSpec)

/-- 'stereopsislaw03.ProgNumbers', WHERE WHAT IT READS IS OF BULK AT MOST 1048576: true; the input reads as it did. -/
def progNumbersUptoRow : OpenClaim := { program := "ytffcpbgbhkbplaa", sum := "5349df54424577b4e11c68957aa6c222c79d273430be8ed5c39f21fcb0943dd4", func := "stereopsis/stereopsislaw03.ProgNumbers", spec := "progNumbers", unfollowed := true, recurses := true, loops := true, apart := false, narrowed := true }
def ProgNumbersUptoSaid : Prop := progNumbersUptoRow.holds Try.pinned (OpenSpec.upto progNumbersSpec)

/-- 'stereopsislaw03.ProgOnce', WHERE WHAT IT READS IS OF BULK AT MOST 1048576: true; the input reads as it did. -/
def progOnceUptoRow : OpenClaim := { program := "ytffcpbgbhkbplaa", sum := "5349df54424577b4e11c68957aa6c222c79d273430be8ed5c39f21fcb0943dd4", func := "stereopsis/stereopsislaw03.ProgOnce", spec := "progOnce", unfollowed := true, recurses := true, loops := true, apart := false, narrowed := true }
def ProgOnceUptoSaid : Prop := progOnceUptoRow.holds Try.pinned (OpenSpec.upto progOnceSpec)

/-- 'stereopsislaw03.ProgStops', WHERE WHAT IT READS IS OF BULK AT MOST 1048576: true; the input reads as it did. -/
def progStopsUptoRow : OpenClaim := { program := "ytffcpbgbhkbplaa", sum := "5349df54424577b4e11c68957aa6c222c79d273430be8ed5c39f21fcb0943dd4", func := "stereopsis/stereopsislaw03.ProgStops", spec := "progStops", unfollowed := true, recurses := true, loops := true, apart := false, narrowed := true }
def ProgStopsUptoSaid : Prop := progStopsUptoRow.holds Try.pinned (OpenSpec.upto progStopsSpec)

/-- 'stereopsislaw03.ProgOwn', WHERE WHAT IT READS IS OF BULK AT MOST 1048576: true; the input reads as it did. -/
def progOwnUptoRow : OpenClaim := { program := "ytffcpbgbhkbplaa", sum := "5349df54424577b4e11c68957aa6c222c79d273430be8ed5c39f21fcb0943dd4", func := "stereopsis/stereopsislaw03.ProgOwn", spec := "progOwn", unfollowed := true, recurses := true, loops := true, apart := false, narrowed := true }
def ProgOwnUptoSaid : Prop := progOwnUptoRow.holds Try.pinned (OpenSpec.upto progOwnSpec)

/-- 'stereopsislaw03.ProgForms', WHERE WHAT IT READS IS OF BULK AT MOST 1048576: true; the input reads as it did. -/
def progFormsUptoRow : OpenClaim := { program := "ytffcpbgbhkbplaa", sum := "5349df54424577b4e11c68957aa6c222c79d273430be8ed5c39f21fcb0943dd4", func := "stereopsis/stereopsislaw03.ProgForms", spec := "progForms", unfollowed := true, recurses := true, loops := true, apart := false, narrowed := true }
def ProgFormsUptoSaid : Prop := progFormsUptoRow.holds Try.pinned (OpenSpec.upto progFormsSpec)

end Rows
end Go.Proofs.Ytffcpbgbhkbplaa
