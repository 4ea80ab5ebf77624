/-
  No cell of these rows narrows 'for every input' (looked for: loops, veiled, ifaces, maps, wideKeys, modest, calm, conditions, laid).
  DERIVED. THE GIVEN ROWS OF THIS SEAT. 7 by the template 'for every input the law returns true; each argument reads behind the call as it read before'; 0 by the template 'total and deterministic' (their statements: YtbeidonfmeengaaTotals.lean).
  GIVEN WITH THE SEED: the statements are not yours to turn. If you find one false, say at which input.
  Laid BY PROGRAM, IN A SANDBOX (cutbox-rows.mjs): the forced cells as the released guide's own fill.sh prints them over the translation 0d2fb76e81686649… (all of the seat's roots in one cut). By AI agents, Wed Nov 11 2026. No macro, syntax, notation, axiom, sorry.
-/
import Derived.Test.YtbeidonfmeengaaChecked
import GoSem.Claim
import GoSem.ClaimJoined
import GoSem.ClaimMapViews
import Derived.JoinedTies
import Derived.KernelRfl
namespace Go.Proofs.Ytbeidonfmeengaa
/- THE CELL 'sum', in the pinned program and in every row, IS THE sha256 OF THE DUMP (.gsa) THAT YtbeidonfmeengaaProg.lean LOADS. Nothing in Lean hashes anything: it is a label: what it is worth is what the hold of that sum in a sandbox is worth. -/
noncomputable def Try.pinned : Pinned := { name := "ytbeidonfmeengaa", sum := "0d2fb76e81686649b1bacc3e64e51df077a099f756d06ba7dc714455a488aa18", checked := Try.checked }
namespace Rows
def none {H : Type} : Left H := { results := [], args := [] }

/-- 'fringelaw11.FourierTransforms': WHATEVER THE INPUT: true; the input reads as it did. -/
def fourierTransformsSpec : ChangeSpec := { name := "fourierTransforms", fn := fun _ => fun
  | [d1, d2, d3] => { results := [.lit (.bool true)], args := [d1, d2, d3] }
  | _ => none }
def fourierTransformsRow : OpenClaim := { program := "ytbeidonfmeengaa", sum := "0d2fb76e81686649b1bacc3e64e51df077a099f756d06ba7dc714455a488aa18", func := "fringe/fringelaw11.FourierTransforms", spec := "fourierTransforms", unfollowed := true, recurses := true, apart := false }
def FourierTransformsSaid : Prop := fourierTransformsRow.holds Try.pinned (OpenSpec.ofChange fourierTransformsSpec)

/-- ITS FALSE NEIGHBOUR: 'it returns false'. Refute it at one input. -/
def fourierTransformsWrong : ChangeSpec := { name := "fourierTransforms", fn := fun _ => fun
  | [d1, d2, d3] => { results := [.lit (.bool false)], args := [d1, d2, d3] }
  | _ => none }
def FourierTransformsWrongFalsely : Prop := fourierTransformsRow.holds Try.pinned (OpenSpec.ofChange fourierTransformsWrong)

/-- 'fringelaw11.FourierTurns': WHATEVER THE INPUT: true; the input reads as it did. -/
def fourierTurnsSpec : ChangeSpec := { name := "fourierTurns", fn := fun _ => fun
  | [d1, d2, d3] => { results := [.lit (.bool true)], args := [d1, d2, d3] }
  | _ => none }
def fourierTurnsRow : OpenClaim := { program := "ytbeidonfmeengaa", sum := "0d2fb76e81686649b1bacc3e64e51df077a099f756d06ba7dc714455a488aa18", func := "fringe/fringelaw11.FourierTurns", spec := "fourierTurns", unfollowed := true, recurses := true, apart := false }
def FourierTurnsSaid : Prop := fourierTurnsRow.holds Try.pinned (OpenSpec.ofChange fourierTurnsSpec)

/-- ITS FALSE NEIGHBOUR: 'it returns false'. Refute it at one input. -/
def fourierTurnsWrong : ChangeSpec := { name := "fourierTurns", fn := fun _ => fun
  | [d1, d2, d3] => { results := [.lit (.bool false)], args := [d1, d2, d3] }
  | _ => none }
def FourierTurnsWrongFalsely : Prop := fourierTurnsRow.holds Try.pinned (OpenSpec.ofChange fourierTurnsWrong)

/-- 'fringelaw11.FourierInverse': WHATEVER THE INPUT: true; the input reads as it did. -/
def fourierInverseSpec : ChangeSpec := { name := "fourierInverse", fn := fun _ => fun
  | [d1, d2] => { results := [.lit (.bool true)], args := [d1, d2] }
  | _ => none }
def fourierInverseRow : OpenClaim := { program := "ytbeidonfmeengaa", sum := "0d2fb76e81686649b1bacc3e64e51df077a099f756d06ba7dc714455a488aa18", func := "fringe/fringelaw11.FourierInverse", spec := "fourierInverse", unfollowed := true, recurses := true, apart := false }
def FourierInverseSaid : Prop := fourierInverseRow.holds Try.pinned (OpenSpec.ofChange fourierInverseSpec)

/-- ITS FALSE NEIGHBOUR: 'it returns false'. Refute it at one input. -/
def fourierInverseWrong : ChangeSpec := { name := "fourierInverse", fn := fun _ => fun
  | [d1, d2] => { results := [.lit (.bool false)], args := [d1, d2] }
  | _ => none }
def FourierInverseWrongFalsely : Prop := fourierInverseRow.holds Try.pinned (OpenSpec.ofChange fourierInverseWrong)

/-- 'fringelaw11.FourierProducts': WHATEVER THE INPUT: true; the input reads as it did. -/
def fourierProductsSpec : ChangeSpec := { name := "fourierProducts", fn := fun _ => fun
  | [d1, d2, d3] => { results := [.lit (.bool true)], args := [d1, d2, d3] }
  | _ => none }
def fourierProductsRow : OpenClaim := { program := "ytbeidonfmeengaa", sum := "0d2fb76e81686649b1bacc3e64e51df077a099f756d06ba7dc714455a488aa18", func := "fringe/fringelaw11.FourierProducts", spec := "fourierProducts", unfollowed := true, recurses := true, apart := false }
def FourierProductsSaid : Prop := fourierProductsRow.holds Try.pinned (OpenSpec.ofChange fourierProductsSpec)

/-- ITS FALSE NEIGHBOUR: 'it returns false'. Refute it at one input. -/
def fourierProductsWrong : ChangeSpec := { name := "fourierProducts", fn := fun _ => fun
  | [d1, d2, d3] => { results := [.lit (.bool false)], args := [d1, d2, d3] }
  | _ => none }
def FourierProductsWrongFalsely : Prop := fourierProductsRow.holds Try.pinned (OpenSpec.ofChange fourierProductsWrong)

/-- 'fringelaw11.FourierSigns': WHATEVER THE INPUT: true; the input reads as it did. -/
def fourierSignsSpec : ChangeSpec := { name := "fourierSigns", fn := fun _ => fun
  | [d1, d2] => { results := [.lit (.bool true)], args := [d1, d2] }
  | _ => none }
def fourierSignsRow : OpenClaim := { program := "ytbeidonfmeengaa", sum := "0d2fb76e81686649b1bacc3e64e51df077a099f756d06ba7dc714455a488aa18", func := "fringe/fringelaw11.FourierSigns", spec := "fourierSigns", unfollowed := true, recurses := true, apart := false }
def FourierSignsSaid : Prop := fourierSignsRow.holds Try.pinned (OpenSpec.ofChange fourierSignsSpec)

/-- ITS FALSE NEIGHBOUR: 'it returns false'. Refute it at one input. -/
def fourierSignsWrong : ChangeSpec := { name := "fourierSigns", fn := fun _ => fun
  | [d1, d2] => { results := [.lit (.bool false)], args := [d1, d2] }
  | _ => none }
def FourierSignsWrongFalsely : Prop := fourierSignsRow.holds Try.pinned (OpenSpec.ofChange fourierSignsWrong)

/-- 'fringelaw11.FourierShifts': WHATEVER THE INPUT: true; the input reads as it did. -/
def fourierShiftsSpec : ChangeSpec := { name := "fourierShifts", fn := fun _ => fun
  | [d1, d2, d3] => { results := [.lit (.bool true)], args := [d1, d2, d3] }
  | _ => none }
def fourierShiftsRow : OpenClaim := { program := "ytbeidonfmeengaa", sum := "0d2fb76e81686649b1bacc3e64e51df077a099f756d06ba7dc714455a488aa18", func := "fringe/fringelaw11.FourierShifts", spec := "fourierShifts", unfollowed := true, recurses := true, apart := false }
def FourierShiftsSaid : Prop := fourierShiftsRow.holds Try.pinned (OpenSpec.ofChange fourierShiftsSpec)

/-- ITS FALSE NEIGHBOUR: 'it returns false'. Refute it at one input. -/
def fourierShiftsWrong : ChangeSpec := { name := "fourierShifts", fn := fun _ => fun
  | [d1, d2, d3] => { results := [.lit (.bool false)], args := [d1, d2, d3] }
  | _ => none }
def FourierShiftsWrongFalsely : Prop := fourierShiftsRow.holds Try.pinned (OpenSpec.ofChange fourierShiftsWrong)

/-- 'fringelaw11.FourierNames': WHATEVER THE INPUT: true; the input reads as it did. -/
def fourierNamesSpec : ChangeSpec := { name := "fourierNames", fn := fun _ => fun
  | [] => { results := [.lit (.bool true)], args := [] }
  | _ => none }
def fourierNamesRow : OpenClaim := { program := "ytbeidonfmeengaa", sum := "0d2fb76e81686649b1bacc3e64e51df077a099f756d06ba7dc714455a488aa18", func := "fringe/fringelaw11.FourierNames", spec := "fourierNames", unfollowed := true, recurses := true, apart := false }
def FourierNamesSaid : Prop := fourierNamesRow.holds Try.pinned (OpenSpec.ofChange fourierNamesSpec)

/-- ITS FALSE NEIGHBOUR: 'it returns false'. Refute it at one input. -/
def fourierNamesWrong : ChangeSpec := { name := "fourierNames", fn := fun _ => fun
  | [] => { results := [.lit (.bool false)], args := [] }
  | _ => none }
def FourierNamesWrongFalsely : Prop := fourierNamesRow.holds Try.pinned (OpenSpec.ofChange fourierNamesWrong)

/- THE SECOND FORM. 'bulk': how many values and letters a reading holds, each counted each time it is reached (what is shared counts as often as it is met; a slice's spare places count too). A statement '..UptoSaid' is the law's where the arguments, and the package variables that the reading takes, are together of bulk at most 1048576: NARROWER than '..Said'. Prove '..Said' where nothing that the law and all that it calls make is longer than what came in: it says more and counts as full. Else prove '..UptoSaid'. A law counts once. -/
mutual
def uptoBulk {H : Type} : DataW H → Nat
  | .lit (.string bytes) => bytes.length + 1
  | .lit _ => 1
  | .nil => 1
  | .ptr d => uptoBulk d + 1
  | .slice elems spare => uptoBulkAll elems + uptoBulkAll spare + 1
  | .agg parts => uptoBulkAll parts + 1
  | .iface _ d => uptoBulk d + 1
  | .map entries => uptoBulkEntries entries + 1
  | .held _ => 1
def uptoBulkAll {H : Type} : List (DataW H) → Nat
  | [] => 0
  | d :: r => uptoBulk d + uptoBulkAll r
def uptoBulkEntries {H : Type} : List (Lit × DataW H) → Nat
  | [] => 0
  | x :: r => uptoBulkEntry x + uptoBulkEntries r
def uptoBulkEntry {H : Type} : Lit × DataW H → Nat
  | (.string bytes, d) => bytes.length + uptoBulk d + 1
  | (_, d) => uptoBulk d + 1
 end
def uptoSmall : (H : Type) → List (DataW H) → Bool := fun _ ds => decide (uptoBulkAll ds ≤ 1048576)
def OpenSpec.upto (s : _root_.Go.ChangeSpec) : _root_.Go.OpenSpec := { _root_.Go.OpenSpec.ofChange s with cond := some uptoSmall }

/-- 'fringelaw11.FourierTransforms', WHERE WHAT IT READS IS OF BULK AT MOST 1048576: true; the input reads as it did. -/
def fourierTransformsUptoRow : OpenClaim := { program := "ytbeidonfmeengaa", sum := "0d2fb76e81686649b1bacc3e64e51df077a099f756d06ba7dc714455a488aa18", func := "fringe/fringelaw11.FourierTransforms", spec := "fourierTransforms", unfollowed := true, recurses := true, apart := false, narrowed := true }
def FourierTransformsUptoSaid : Prop := fourierTransformsUptoRow.holds Try.pinned (OpenSpec.upto fourierTransformsSpec)

/-- 'fringelaw11.FourierTurns', WHERE WHAT IT READS IS OF BULK AT MOST 1048576: true; the input reads as it did. -/
def fourierTurnsUptoRow : OpenClaim := { program := "ytbeidonfmeengaa", sum := "0d2fb76e81686649b1bacc3e64e51df077a099f756d06ba7dc714455a488aa18", func := "fringe/fringelaw11.FourierTurns", spec := "fourierTurns", unfollowed := true, recurses := true, apart := false, narrowed := true }
def FourierTurnsUptoSaid : Prop := fourierTurnsUptoRow.holds Try.pinned (OpenSpec.upto fourierTurnsSpec)

/-- 'fringelaw11.FourierInverse', WHERE WHAT IT READS IS OF BULK AT MOST 1048576: true; the input reads as it did. -/
def fourierInverseUptoRow : OpenClaim := { program := "ytbeidonfmeengaa", sum := "0d2fb76e81686649b1bacc3e64e51df077a099f756d06ba7dc714455a488aa18", func := "fringe/fringelaw11.FourierInverse", spec := "fourierInverse", unfollowed := true, recurses := true, apart := false, narrowed := true }
def FourierInverseUptoSaid : Prop := fourierInverseUptoRow.holds Try.pinned (OpenSpec.upto fourierInverseSpec)

/-- 'fringelaw11.FourierProducts', WHERE WHAT IT READS IS OF BULK AT MOST 1048576: true; the input reads as it did. -/
def fourierProductsUptoRow : OpenClaim := { program := "ytbeidonfmeengaa", sum := "0d2fb76e81686649b1bacc3e64e51df077a099f756d06ba7dc714455a488aa18", func := "fringe/fringelaw11.FourierProducts", spec := "fourierProducts", unfollowed := true, recurses := true, apart := false, narrowed := true }
def FourierProductsUptoSaid : Prop := fourierProductsUptoRow.holds Try.pinned (OpenSpec.upto fourierProductsSpec)

/-- 'fringelaw11.FourierSigns', WHERE WHAT IT READS IS OF BULK AT MOST 1048576: true; the input reads as it did. -/
def fourierSignsUptoRow : OpenClaim := { program := "ytbeidonfmeengaa", sum := "0d2fb76e81686649b1bacc3e64e51df077a099f756d06ba7dc714455a488aa18", func := "fringe/fringelaw11.FourierSigns", spec := "fourierSigns", unfollowed := true, recurses := true, apart := false, narrowed := true }
def FourierSignsUptoSaid : Prop := fourierSignsUptoRow.holds Try.pinned (OpenSpec.upto fourierSignsSpec)

/-- 'fringelaw11.FourierShifts', WHERE WHAT IT READS IS OF BULK AT MOST 1048576: true; the input reads as it did. -/
def fourierShiftsUptoRow : OpenClaim := { program := "ytbeidonfmeengaa", sum := "0d2fb76e81686649b1bacc3e64e51df077a099f756d06ba7dc714455a488aa18", func := "fringe/fringelaw11.FourierShifts", spec := "fourierShifts", unfollowed := true, recurses := true, apart := false, narrowed := true }
def FourierShiftsUptoSaid : Prop := fourierShiftsUptoRow.holds Try.pinned (OpenSpec.upto fourierShiftsSpec)

/-- 'fringelaw11.FourierNames', WHERE WHAT IT READS IS OF BULK AT MOST 1048576: true; the input reads as it did. -/
def fourierNamesUptoRow : OpenClaim := { program := "ytbeidonfmeengaa", sum := "0d2fb76e81686649b1bacc3e64e51df077a099f756d06ba7dc714455a488aa18", func := "fringe/fringelaw11.FourierNames", spec := "fourierNames", unfollowed := true, recurses := true, apart := false, narrowed := true }
def FourierNamesUptoSaid : Prop := fourierNamesUptoRow.holds Try.pinned (OpenSpec.upto fourierNamesSpec)

end Rows
end Go.Proofs.Ytbeidonfmeengaa
