/-
  NARROWER THAN 'FOR EVERY INPUT', by the rows' own cells (each row's printed sentence says how): CompRuns: loops · CompPlaces: loops · CompSeen: loops · CompClaims: loops.
  DERIVED. THE GIVEN ROWS OF THIS SEAT. 4 by the template 'for every input the law returns true; each argument reads behind the call as it read before'; 0 by the template 'total and deterministic' (their statements: YtnlekgadadifdaaGreatTotals.lean).
  GIVEN WITH THE SEED: the statements are not yours to turn. If you find one false, say at which input.
  Laid BY PROGRAM, IN A SANDBOX (cutbox-rows.mjs): the forced cells as the released guide's own fill.sh prints them over the translation 2ecd4da2f133a8f9… (all of the seat's roots in one cut). By AI agents, Wed Nov 11 2026. No macro, syntax, notation, axiom, sorry.
-/
import Derived.Test.YtnlekgadadifdaaGreatChecked
import GoSem.Claim
import GoSem.ClaimJoined
import GoSem.ClaimMapViews
import Derived.JoinedTies
import Derived.KernelRfl
namespace Go.Proofs.YtnlekgadadifdaaGreat
/- THE CELL 'sum', in the pinned program and in every row, IS THE sha256 OF THE DUMP (.gsa) THAT YtnlekgadadifdaaGreatProg.lean LOADS. Nothing in Lean hashes anything: it is a label: what it is worth is what the hold of that sum in a sandbox is worth. -/
noncomputable def Tryz.pinned : Pinned := { name := "ytnlekgadadifdaagreat", sum := "2ecd4da2f133a8f93d4d21b7bcf4c9c4652da59b4bd786e05cce6765124d499e", checked := Tryz.checked }
namespace Rows
def none {H : Type} : Left H := { results := [], args := [] }

/-- 'stereopsislaw10.CompRuns': WHATEVER THE INPUT: true; the input reads as it did. -/
def compRunsSpec : ChangeSpec := { name := "compRuns", fn := fun _ => fun
  | [d1, d2, d3] => { results := [.lit (.bool true)], args := [d1, d2, d3] }
  | _ => none }
def compRunsRow : OpenClaim := { program := "ytnlekgadadifdaagreat", sum := "2ecd4da2f133a8f93d4d21b7bcf4c9c4652da59b4bd786e05cce6765124d499e", func := "stereopsis/stereopsislaw10.CompRuns", spec := "compRuns", unfollowed := true, recurses := true, loops := true, apart := false }
def CompRunsSaid : Prop := compRunsRow.holds Tryz.pinned (OpenSpec.ofChange compRunsSpec)

/-- ITS FALSE NEIGHBOUR: 'it returns false'. Refute it at one input. -/
def compRunsWrong : ChangeSpec := { name := "compRuns", fn := fun _ => fun
  | [d1, d2, d3] => { results := [.lit (.bool false)], args := [d1, d2, d3] }
  | _ => none }
def CompRunsWrongFalsely : Prop := compRunsRow.holds Tryz.pinned (OpenSpec.ofChange compRunsWrong)

/-- 'stereopsislaw10.CompPlaces': WHATEVER THE INPUT: true; the input reads as it did. -/
def compPlacesSpec : ChangeSpec := { name := "compPlaces", fn := fun _ => fun
  | [d1, d2, d3] => { results := [.lit (.bool true)], args := [d1, d2, d3] }
  | _ => none }
def compPlacesRow : OpenClaim := { program := "ytnlekgadadifdaagreat", sum := "2ecd4da2f133a8f93d4d21b7bcf4c9c4652da59b4bd786e05cce6765124d499e", func := "stereopsis/stereopsislaw10.CompPlaces", spec := "compPlaces", unfollowed := true, recurses := true, loops := true, apart := false }
def CompPlacesSaid : Prop := compPlacesRow.holds Tryz.pinned (OpenSpec.ofChange compPlacesSpec)

/-- ITS FALSE NEIGHBOUR: 'it returns false'. Refute it at one input. -/
def compPlacesWrong : ChangeSpec := { name := "compPlaces", fn := fun _ => fun
  | [d1, d2, d3] => { results := [.lit (.bool false)], args := [d1, d2, d3] }
  | _ => none }
def CompPlacesWrongFalsely : Prop := compPlacesRow.holds Tryz.pinned (OpenSpec.ofChange compPlacesWrong)

/-- 'stereopsislaw10.CompSeen': WHATEVER THE INPUT: true; the input reads as it did. -/
def compSeenSpec : ChangeSpec := { name := "compSeen", fn := fun _ => fun
  | [d1, d2, d3, d4] => { results := [.lit (.bool true)], args := [d1, d2, d3, d4] }
  | _ => none }
def compSeenRow : OpenClaim := { program := "ytnlekgadadifdaagreat", sum := "2ecd4da2f133a8f93d4d21b7bcf4c9c4652da59b4bd786e05cce6765124d499e", func := "stereopsis/stereopsislaw10.CompSeen", spec := "compSeen", unfollowed := true, recurses := true, loops := true, apart := false }
def CompSeenSaid : Prop := compSeenRow.holds Tryz.pinned (OpenSpec.ofChange compSeenSpec)

/-- ITS FALSE NEIGHBOUR: 'it returns false'. Refute it at one input. -/
def compSeenWrong : ChangeSpec := { name := "compSeen", fn := fun _ => fun
  | [d1, d2, d3, d4] => { results := [.lit (.bool false)], args := [d1, d2, d3, d4] }
  | _ => none }
def CompSeenWrongFalsely : Prop := compSeenRow.holds Tryz.pinned (OpenSpec.ofChange compSeenWrong)

/-- 'stereopsislaw10.CompClaims': WHATEVER THE INPUT: true; the input reads as it did. -/
def compClaimsSpec : ChangeSpec := { name := "compClaims", fn := fun _ => fun
  | [d1, d2, d3, d4] => { results := [.lit (.bool true)], args := [d1, d2, d3, d4] }
  | _ => none }
def compClaimsRow : OpenClaim := { program := "ytnlekgadadifdaagreat", sum := "2ecd4da2f133a8f93d4d21b7bcf4c9c4652da59b4bd786e05cce6765124d499e", func := "stereopsis/stereopsislaw10.CompClaims", spec := "compClaims", unfollowed := true, recurses := true, loops := true, apart := false }
def CompClaimsSaid : Prop := compClaimsRow.holds Tryz.pinned (OpenSpec.ofChange compClaimsSpec)

/-- ITS FALSE NEIGHBOUR: 'it returns false'. Refute it at one input. -/
def compClaimsWrong : ChangeSpec := { name := "compClaims", fn := fun _ => fun
  | [d1, d2, d3, d4] => { results := [.lit (.bool false)], args := [d1, d2, d3, d4] }
  | _ => none }
def CompClaimsWrongFalsely : Prop := compClaimsRow.holds Tryz.pinned (OpenSpec.ofChange compClaimsWrong)

/- THE SECOND FORM. 'bulk': how many values and letters a reading holds, each counted each time it is reached (what is shared counts as often as it is met; a slice's spare places count too). A statement '..UptoSaid' is the law's where the arguments, and the package variables that the reading takes, are together of bulk at most 1048576: NARROWER than '..Said'. Prove '..Said' where nothing that the law and all that it calls make is longer than what came in: it says more and counts as full. Else prove '..UptoSaid'. A law counts once. -/
mutual
def uptoBulk {H : Type} : DataW H → Nat
  | .lit (.string bytes) => bytes.length + 1
  | .lit _ => 1
  | .nil => 1
  | .ptr d => uptoBulk d + 1
  | .slice elems spare => uptoBulkAll elems + uptoBulkAll spare + 1
  | .agg parts => uptoBulkAll parts + 1
  | .iface _ d => uptoBulk d + 1
  | .map entries => uptoBulkEntries entries + 1
  | .held _ => 1
def uptoBulkAll {H : Type} : List (DataW H) → Nat
  | [] => 0
  | d :: r => uptoBulk d + uptoBulkAll r
def uptoBulkEntries {H : Type} : List (Lit × DataW H) → Nat
  | [] => 0
  | x :: r => uptoBulkEntry x + uptoBulkEntries r
def uptoBulkEntry {H : Type} : Lit × DataW H → Nat
  | (.string bytes, d) => bytes.length + uptoBulk d + 1
  | (_, d) => uptoBulk d + 1
 end
def uptoSmall : (H : Type) → List (DataW H) → Bool := fun _ ds => decide (uptoBulkAll ds ≤ 1048576)
def OpenSpec.upto (s : _root_.Go.ChangeSpec) : _root_.Go.OpenSpec := { _root_.Go.OpenSpec.ofChange s with cond := some uptoSmall }

/-- 'stereopsislaw10.CompRuns', WHERE WHAT IT READS IS OF BULK AT MOST 1048576: true; the input reads as it did. -/
def compRunsUptoRow : OpenClaim := { program := "ytnlekgadadifdaagreat", sum := "2ecd4da2f133a8f93d4d21b7bcf4c9c4652da59b4bd786e05cce6765124d499e", func := "stereopsis/stereopsislaw10.CompRuns", spec := "compRuns", unfollowed := true, recurses := true, loops := true, apart := false, narrowed := true }
def CompRunsUptoSaid : Prop := compRunsUptoRow.holds Tryz.pinned (OpenSpec.upto compRunsSpec)

/-- 'stereopsislaw10.CompPlaces', WHERE WHAT IT READS IS OF BULK AT MOST 1048576: true; the input reads as it did. -/
def compPlacesUptoRow : OpenClaim := { program := "ytnlekgadadifdaagreat", sum := "2ecd4da2f133a8f93d4d21b7bcf4c9c4652da59b4bd786e05cce6765124d499e", func := "stereopsis/stereopsislaw10.CompPlaces", spec := "compPlaces", unfollowed := true, recurses := true, loops := true, apart := false, narrowed := true }
def CompPlacesUptoSaid : Prop := compPlacesUptoRow.holds Tryz.pinned (OpenSpec.upto compPlacesSpec)

/-- 'stereopsislaw10.CompSeen', WHERE WHAT IT READS IS OF BULK AT MOST 1048576: true; the input reads as it did. -/
def compSeenUptoRow : OpenClaim := { program := "ytnlekgadadifdaagreat", sum := "2ecd4da2f133a8f93d4d21b7bcf4c9c4652da59b4bd786e05cce6765124d499e", func := "stereopsis/stereopsislaw10.CompSeen", spec := "compSeen", unfollowed := true, recurses := true, loops := true, apart := false, narrowed := true }
def CompSeenUptoSaid : Prop := compSeenUptoRow.holds Tryz.pinned (OpenSpec.upto compSeenSpec)

/-- 'stereopsislaw10.CompClaims', WHERE WHAT IT READS IS OF BULK AT MOST 1048576: true; the input reads as it did. -/
def compClaimsUptoRow : OpenClaim := { program := "ytnlekgadadifdaagreat", sum := "2ecd4da2f133a8f93d4d21b7bcf4c9c4652da59b4bd786e05cce6765124d499e", func := "stereopsis/stereopsislaw10.CompClaims", spec := "compClaims", unfollowed := true, recurses := true, loops := true, apart := false, narrowed := true }
def CompClaimsUptoSaid : Prop := compClaimsUptoRow.holds Tryz.pinned (OpenSpec.upto compClaimsSpec)

end Rows
end Go.Proofs.YtnlekgadadifdaaGreat
