/-
  No cell of these rows narrows 'for every input' (looked for: loops, veiled, ifaces, maps, wideKeys, modest, calm, conditions, laid).
  DERIVED. THE GIVEN ROWS OF THIS SEAT. 7 by the template 'for every input the law returns true; each argument reads behind the call as it read before'; 0 by the template 'total and deterministic' (their statements: YtehbmpdmdfiagaaTotals.lean).
  GIVEN WITH THE SEED: the statements are not yours to turn. If you find one false, say at which input.
  Laid BY PROGRAM, IN A SANDBOX (cutbox-rows.mjs): the forced cells as the released guide's own fill.sh prints them over the translation 9e0717bc35fa1036… (all of the seat's roots in one cut). By AI agents, Wed Nov 11 2026. No macro, syntax, notation, axiom, sorry.
-/
import Derived.Test.YtehbmpdmdfiagaaChecked
import GoSem.Claim
import GoSem.ClaimJoined
import GoSem.ClaimMapViews
import Derived.JoinedTies
import Derived.KernelRfl
namespace Go.Proofs.Ytehbmpdmdfiagaa
/- THE CELL 'sum', in the pinned program and in every row, IS THE sha256 OF THE DUMP (.gsa) THAT YtehbmpdmdfiagaaProg.lean LOADS. Nothing in Lean hashes anything: it is a label: what it is worth is what the hold of that sum in a sandbox is worth. -/
noncomputable def Try.pinned : Pinned := { name := "ytehbmpdmdfiagaa", sum := "9e0717bc35fa103605ecb3f9e2cad234c5097c1a14a256052d5a2bd13b820d41", checked := Try.checked }
namespace Rows
def none {H : Type} : Left H := { results := [], args := [] }

/-- 'fringelaw10.RingWorks': WHATEVER THE INPUT: true; the input reads as it did. -/
def ringWorksSpec : ChangeSpec := { name := "ringWorks", fn := fun _ => fun
  | [d1, d2, d3] => { results := [.lit (.bool true)], args := [d1, d2, d3] }
  | _ => none }
def ringWorksRow : OpenClaim := { program := "ytehbmpdmdfiagaa", sum := "9e0717bc35fa103605ecb3f9e2cad234c5097c1a14a256052d5a2bd13b820d41", func := "fringe/fringelaw10.RingWorks", spec := "ringWorks", apart := false }
def RingWorksSaid : Prop := ringWorksRow.holds Try.pinned (OpenSpec.ofChange ringWorksSpec)

/-- ITS FALSE NEIGHBOUR: 'it returns false'. Refute it at one input. -/
def ringWorksWrong : ChangeSpec := { name := "ringWorks", fn := fun _ => fun
  | [d1, d2, d3] => { results := [.lit (.bool false)], args := [d1, d2, d3] }
  | _ => none }
def RingWorksWrongFalsely : Prop := ringWorksRow.holds Try.pinned (OpenSpec.ofChange ringWorksWrong)

/-- 'fringelaw10.RingFinds': WHATEVER THE INPUT: true; the input reads as it did. -/
def ringFindsSpec : ChangeSpec := { name := "ringFinds", fn := fun _ => fun
  | [d1, d2, d3] => { results := [.lit (.bool true)], args := [d1, d2, d3] }
  | _ => none }
def ringFindsRow : OpenClaim := { program := "ytehbmpdmdfiagaa", sum := "9e0717bc35fa103605ecb3f9e2cad234c5097c1a14a256052d5a2bd13b820d41", func := "fringe/fringelaw10.RingFinds", spec := "ringFinds", unfollowed := true, recurses := true, apart := false }
def RingFindsSaid : Prop := ringFindsRow.holds Try.pinned (OpenSpec.ofChange ringFindsSpec)

/-- ITS FALSE NEIGHBOUR: 'it returns false'. Refute it at one input. -/
def ringFindsWrong : ChangeSpec := { name := "ringFinds", fn := fun _ => fun
  | [d1, d2, d3] => { results := [.lit (.bool false)], args := [d1, d2, d3] }
  | _ => none }
def RingFindsWrongFalsely : Prop := ringFindsRow.holds Try.pinned (OpenSpec.ofChange ringFindsWrong)

/-- 'fringelaw10.RingOrders': WHATEVER THE INPUT: true; the input reads as it did. -/
def ringOrdersSpec : ChangeSpec := { name := "ringOrders", fn := fun _ => fun
  | [d1, d2, d3] => { results := [.lit (.bool true)], args := [d1, d2, d3] }
  | _ => none }
def ringOrdersRow : OpenClaim := { program := "ytehbmpdmdfiagaa", sum := "9e0717bc35fa103605ecb3f9e2cad234c5097c1a14a256052d5a2bd13b820d41", func := "fringe/fringelaw10.RingOrders", spec := "ringOrders", unfollowed := true, recurses := true, apart := false }
def RingOrdersSaid : Prop := ringOrdersRow.holds Try.pinned (OpenSpec.ofChange ringOrdersSpec)

/-- ITS FALSE NEIGHBOUR: 'it returns false'. Refute it at one input. -/
def ringOrdersWrong : ChangeSpec := { name := "ringOrders", fn := fun _ => fun
  | [d1, d2, d3] => { results := [.lit (.bool false)], args := [d1, d2, d3] }
  | _ => none }
def RingOrdersWrongFalsely : Prop := ringOrdersRow.holds Try.pinned (OpenSpec.ofChange ringOrdersWrong)

/-- 'fringelaw10.RingRoots': WHATEVER THE INPUT: true; the input reads as it did. -/
def ringRootsSpec : ChangeSpec := { name := "ringRoots", fn := fun _ => fun
  | [d1, d2] => { results := [.lit (.bool true)], args := [d1, d2] }
  | _ => none }
def ringRootsRow : OpenClaim := { program := "ytehbmpdmdfiagaa", sum := "9e0717bc35fa103605ecb3f9e2cad234c5097c1a14a256052d5a2bd13b820d41", func := "fringe/fringelaw10.RingRoots", spec := "ringRoots", unfollowed := true, recurses := true, apart := false }
def RingRootsSaid : Prop := ringRootsRow.holds Try.pinned (OpenSpec.ofChange ringRootsSpec)

/-- ITS FALSE NEIGHBOUR: 'it returns false'. Refute it at one input. -/
def ringRootsWrong : ChangeSpec := { name := "ringRoots", fn := fun _ => fun
  | [d1, d2] => { results := [.lit (.bool false)], args := [d1, d2] }
  | _ => none }
def RingRootsWrongFalsely : Prop := ringRootsRow.holds Try.pinned (OpenSpec.ofChange ringRootsWrong)

/-- 'fringelaw10.RingFactors': WHATEVER THE INPUT: true; the input reads as it did. -/
def ringFactorsSpec : ChangeSpec := { name := "ringFactors", fn := fun _ => fun
  | [d1, d2] => { results := [.lit (.bool true)], args := [d1, d2] }
  | _ => none }
def ringFactorsRow : OpenClaim := { program := "ytehbmpdmdfiagaa", sum := "9e0717bc35fa103605ecb3f9e2cad234c5097c1a14a256052d5a2bd13b820d41", func := "fringe/fringelaw10.RingFactors", spec := "ringFactors", unfollowed := true, recurses := true, apart := false }
def RingFactorsSaid : Prop := ringFactorsRow.holds Try.pinned (OpenSpec.ofChange ringFactorsSpec)

/-- ITS FALSE NEIGHBOUR: 'it returns false'. Refute it at one input. -/
def ringFactorsWrong : ChangeSpec := { name := "ringFactors", fn := fun _ => fun
  | [d1, d2] => { results := [.lit (.bool false)], args := [d1, d2] }
  | _ => none }
def RingFactorsWrongFalsely : Prop := ringFactorsRow.holds Try.pinned (OpenSpec.ofChange ringFactorsWrong)

/-- 'fringelaw10.RingNames': WHATEVER THE INPUT: true; the input reads as it did. -/
def ringNamesSpec : ChangeSpec := { name := "ringNames", fn := fun _ => fun
  | [] => { results := [.lit (.bool true)], args := [] }
  | _ => none }
def ringNamesRow : OpenClaim := { program := "ytehbmpdmdfiagaa", sum := "9e0717bc35fa103605ecb3f9e2cad234c5097c1a14a256052d5a2bd13b820d41", func := "fringe/fringelaw10.RingNames", spec := "ringNames", unfollowed := true, recurses := true, apart := false }
def RingNamesSaid : Prop := ringNamesRow.holds Try.pinned (OpenSpec.ofChange ringNamesSpec)

/-- ITS FALSE NEIGHBOUR: 'it returns false'. Refute it at one input. -/
def ringNamesWrong : ChangeSpec := { name := "ringNames", fn := fun _ => fun
  | [] => { results := [.lit (.bool false)], args := [] }
  | _ => none }
def RingNamesWrongFalsely : Prop := ringNamesRow.holds Try.pinned (OpenSpec.ofChange ringNamesWrong)

/-- 'fringelaw10.RingField': WHATEVER THE INPUT: true; the input reads as it did. -/
def ringFieldSpec : ChangeSpec := { name := "ringField", fn := fun _ => fun
  | [d1, d2, d3, d4] => { results := [.lit (.bool true)], args := [d1, d2, d3, d4] }
  | _ => none }
def ringFieldRow : OpenClaim := { program := "ytehbmpdmdfiagaa", sum := "9e0717bc35fa103605ecb3f9e2cad234c5097c1a14a256052d5a2bd13b820d41", func := "fringe/fringelaw10.RingField", spec := "ringField", unfollowed := true, recurses := true, apart := false }
def RingFieldSaid : Prop := ringFieldRow.holds Try.pinned (OpenSpec.ofChange ringFieldSpec)

/-- ITS FALSE NEIGHBOUR: 'it returns false'. Refute it at one input. -/
def ringFieldWrong : ChangeSpec := { name := "ringField", fn := fun _ => fun
  | [d1, d2, d3, d4] => { results := [.lit (.bool false)], args := [d1, d2, d3, d4] }
  | _ => none }
def RingFieldWrongFalsely : Prop := ringFieldRow.holds Try.pinned (OpenSpec.ofChange ringFieldWrong)

/- THE SECOND FORM. 'bulk': how many values and letters a reading holds, each counted each time it is reached (what is shared counts as often as it is met; a slice's spare places count too). A statement '..UptoSaid' is the law's where the arguments, and the package variables that the reading takes, are together of bulk at most 1048576: NARROWER than '..Said'. Prove '..Said' where nothing that the law and all that it calls make is longer than what came in: it says more and counts as full. Else prove '..UptoSaid'. A law counts once. -/
mutual
def uptoBulk {H : Type} : DataW H → Nat
  | .lit (.string bytes) => bytes.length + 1
  | .lit _ => 1
  | .nil => 1
  | .ptr d => uptoBulk d + 1
  | .slice elems spare => uptoBulkAll elems + uptoBulkAll spare + 1
  | .agg parts => uptoBulkAll parts + 1
  | .iface _ d => uptoBulk d + 1
  | .map entries => uptoBulkEntries entries + 1
  | .held _ => 1
def uptoBulkAll {H : Type} : List (DataW H) → Nat
  | [] => 0
  | d :: r => uptoBulk d + uptoBulkAll r
def uptoBulkEntries {H : Type} : List (Lit × DataW H) → Nat
  | [] => 0
  | x :: r => uptoBulkEntry x + uptoBulkEntries r
def uptoBulkEntry {H : Type} : Lit × DataW H → Nat
  | (.string bytes, d) => bytes.length + uptoBulk d + 1
  | (_, d) => uptoBulk d + 1
 end
def uptoSmall : (H : Type) → List (DataW H) → Bool := fun _ ds => decide (uptoBulkAll ds ≤ 1048576)
def OpenSpec.upto (s : _root_.Go.ChangeSpec) : _root_.Go.OpenSpec := { _root_.Go.OpenSpec.ofChange s with cond := some uptoSmall }

/-- 'fringelaw10.RingWorks', WHERE WHAT IT READS IS OF BULK AT MOST 1048576: true; the input reads as it did. -/
def ringWorksUptoRow : OpenClaim := { program := "ytehbmpdmdfiagaa", sum := "9e0717bc35fa103605ecb3f9e2cad234c5097c1a14a256052d5a2bd13b820d41", func := "fringe/fringelaw10.RingWorks", spec := "ringWorks", apart := false, narrowed := true }
def RingWorksUptoSaid : Prop := ringWorksUptoRow.holds Try.pinned (OpenSpec.upto ringWorksSpec)

/-- 'fringelaw10.RingFinds', WHERE WHAT IT READS IS OF BULK AT MOST 1048576: true; the input reads as it did. -/
def ringFindsUptoRow : OpenClaim := { program := "ytehbmpdmdfiagaa", sum := "9e0717bc35fa103605ecb3f9e2cad234c5097c1a14a256052d5a2bd13b820d41", func := "fringe/fringelaw10.RingFinds", spec := "ringFinds", unfollowed := true, recurses := true, apart := false, narrowed := true }
def RingFindsUptoSaid : Prop := ringFindsUptoRow.holds Try.pinned (OpenSpec.upto ringFindsSpec)

/-- 'fringelaw10.RingOrders', WHERE WHAT IT READS IS OF BULK AT MOST 1048576: true; the input reads as it did. -/
def ringOrdersUptoRow : OpenClaim := { program := "ytehbmpdmdfiagaa", sum := "9e0717bc35fa103605ecb3f9e2cad234c5097c1a14a256052d5a2bd13b820d41", func := "fringe/fringelaw10.RingOrders", spec := "ringOrders", unfollowed := true, recurses := true, apart := false, narrowed := true }
def RingOrdersUptoSaid : Prop := ringOrdersUptoRow.holds Try.pinned (OpenSpec.upto ringOrdersSpec)

/-- 'fringelaw10.RingRoots', WHERE WHAT IT READS IS OF BULK AT MOST 1048576: true; the input reads as it did. -/
def ringRootsUptoRow : OpenClaim := { program := "ytehbmpdmdfiagaa", sum := "9e0717bc35fa103605ecb3f9e2cad234c5097c1a14a256052d5a2bd13b820d41", func := "fringe/fringelaw10.RingRoots", spec := "ringRoots", unfollowed := true, recurses := true, apart := false, narrowed := true }
def RingRootsUptoSaid : Prop := ringRootsUptoRow.holds Try.pinned (OpenSpec.upto ringRootsSpec)

/-- 'fringelaw10.RingFactors', WHERE WHAT IT READS IS OF BULK AT MOST 1048576: true; the input reads as it did. -/
def ringFactorsUptoRow : OpenClaim := { program := "ytehbmpdmdfiagaa", sum := "9e0717bc35fa103605ecb3f9e2cad234c5097c1a14a256052d5a2bd13b820d41", func := "fringe/fringelaw10.RingFactors", spec := "ringFactors", unfollowed := true, recurses := true, apart := false, narrowed := true }
def RingFactorsUptoSaid : Prop := ringFactorsUptoRow.holds Try.pinned (OpenSpec.upto ringFactorsSpec)

/-- 'fringelaw10.RingNames', WHERE WHAT IT READS IS OF BULK AT MOST 1048576: true; the input reads as it did. -/
def ringNamesUptoRow : OpenClaim := { program := "ytehbmpdmdfiagaa", sum := "9e0717bc35fa103605ecb3f9e2cad234c5097c1a14a256052d5a2bd13b820d41", func := "fringe/fringelaw10.RingNames", spec := "ringNames", unfollowed := true, recurses := true, apart := false, narrowed := true }
def RingNamesUptoSaid : Prop := ringNamesUptoRow.holds Try.pinned (OpenSpec.upto ringNamesSpec)

/-- 'fringelaw10.RingField', WHERE WHAT IT READS IS OF BULK AT MOST 1048576: true; the input reads as it did. -/
def ringFieldUptoRow : OpenClaim := { program := "ytehbmpdmdfiagaa", sum := "9e0717bc35fa103605ecb3f9e2cad234c5097c1a14a256052d5a2bd13b820d41", func := "fringe/fringelaw10.RingField", spec := "ringField", unfollowed := true, recurses := true, apart := false, narrowed := true }
def RingFieldUptoSaid : Prop := ringFieldUptoRow.holds Try.pinned (OpenSpec.upto ringFieldSpec)

end Rows
end Go.Proofs.Ytehbmpdmdfiagaa
