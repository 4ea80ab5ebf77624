/-
  No cell of these rows narrows 'for every input' (looked for: loops, veiled, ifaces, maps, wideKeys, modest, calm, conditions, laid).
  DERIVED. THE GIVEN ROWS OF THIS SEAT. 6 by the template 'for every input the law returns true; each argument reads behind the call as it read before'; 0 by the template 'total and deterministic' (their statements: YtbopgopggnagpaaTotals.lean).
  GIVEN WITH THE SEED: the statements are not yours to turn. If you find one false, say at which input.
  Laid BY PROGRAM, IN A SANDBOX (cutbox-rows.mjs): the forced cells as the released guide's own fill.sh prints them over the translation 3a0ebf83b3ab6985… (all of the seat's roots in one cut). By AI agents, Wed Nov 11 2026. No macro, syntax, notation, axiom, sorry.
-/
import Derived.Test.YtbopgopggnagpaaChecked
import GoSem.Claim
import GoSem.ClaimJoined
import GoSem.ClaimMapViews
import Derived.JoinedTies
import Derived.KernelRfl
namespace Go.Proofs.Ytbopgopggnagpaa
/- THE CELL 'sum', in the pinned program and in every row, IS THE sha256 OF THE DUMP (.gsa) THAT YtbopgopggnagpaaProg.lean LOADS. Nothing in Lean hashes anything: it is a label: what it is worth is what the hold of that sum in a sandbox is worth. -/
noncomputable def Try.pinned : Pinned := { name := "ytbopgopggnagpaa", sum := "3a0ebf83b3ab6985db0a8b92daa3a7a8767467ac5b2dfe6a2b63a26f8cbab785", checked := Try.checked }
namespace Rows
def none {H : Type} : Left H := { results := [], args := [] }

/-- 'fringelaw17.CrossSpectra': WHATEVER THE INPUT: true; the input reads as it did. -/
def crossSpectraSpec : ChangeSpec := { name := "crossSpectra", fn := fun _ => fun
  | [d1, d2, d3] => { results := [.lit (.bool true)], args := [d1, d2, d3] }
  | _ => none }
def crossSpectraRow : OpenClaim := { program := "ytbopgopggnagpaa", sum := "3a0ebf83b3ab6985db0a8b92daa3a7a8767467ac5b2dfe6a2b63a26f8cbab785", func := "fringe/fringelaw17.CrossSpectra", spec := "crossSpectra", unfollowed := true, recurses := true, apart := false }
def CrossSpectraSaid : Prop := crossSpectraRow.holds Try.pinned (OpenSpec.ofChange crossSpectraSpec)

/-- ITS FALSE NEIGHBOUR: 'it returns false'. Refute it at one input. -/
def crossSpectraWrong : ChangeSpec := { name := "crossSpectra", fn := fun _ => fun
  | [d1, d2, d3] => { results := [.lit (.bool false)], args := [d1, d2, d3] }
  | _ => none }
def CrossSpectraWrongFalsely : Prop := crossSpectraRow.holds Try.pinned (OpenSpec.ofChange crossSpectraWrong)

/-- 'fringelaw17.CrossOf': WHATEVER THE INPUT: true; the input reads as it did. -/
def crossOfSpec : ChangeSpec := { name := "crossOf", fn := fun _ => fun
  | [d1, d2, d3] => { results := [.lit (.bool true)], args := [d1, d2, d3] }
  | _ => none }
def crossOfRow : OpenClaim := { program := "ytbopgopggnagpaa", sum := "3a0ebf83b3ab6985db0a8b92daa3a7a8767467ac5b2dfe6a2b63a26f8cbab785", func := "fringe/fringelaw17.CrossOf", spec := "crossOf", unfollowed := true, recurses := true, apart := false }
def CrossOfSaid : Prop := crossOfRow.holds Try.pinned (OpenSpec.ofChange crossOfSpec)

/-- ITS FALSE NEIGHBOUR: 'it returns false'. Refute it at one input. -/
def crossOfWrong : ChangeSpec := { name := "crossOf", fn := fun _ => fun
  | [d1, d2, d3] => { results := [.lit (.bool false)], args := [d1, d2, d3] }
  | _ => none }
def CrossOfWrongFalsely : Prop := crossOfRow.holds Try.pinned (OpenSpec.ofChange crossOfWrong)

/-- 'fringelaw17.CrossNames': WHATEVER THE INPUT: true; the input reads as it did. -/
def crossNamesSpec : ChangeSpec := { name := "crossNames", fn := fun _ => fun
  | [] => { results := [.lit (.bool true)], args := [] }
  | _ => none }
def crossNamesRow : OpenClaim := { program := "ytbopgopggnagpaa", sum := "3a0ebf83b3ab6985db0a8b92daa3a7a8767467ac5b2dfe6a2b63a26f8cbab785", func := "fringe/fringelaw17.CrossNames", spec := "crossNames", unfollowed := true, recurses := true, apart := false }
def CrossNamesSaid : Prop := crossNamesRow.holds Try.pinned (OpenSpec.ofChange crossNamesSpec)

/-- ITS FALSE NEIGHBOUR: 'it returns false'. Refute it at one input. -/
def crossNamesWrong : ChangeSpec := { name := "crossNames", fn := fun _ => fun
  | [] => { results := [.lit (.bool false)], args := [] }
  | _ => none }
def CrossNamesWrongFalsely : Prop := crossNamesRow.holds Try.pinned (OpenSpec.ofChange crossNamesWrong)

/-- 'fringelaw17.CrossAdds': WHATEVER THE INPUT: true; the input reads as it did. -/
def crossAddsSpec : ChangeSpec := { name := "crossAdds", fn := fun _ => fun
  | [d1, d2, d3] => { results := [.lit (.bool true)], args := [d1, d2, d3] }
  | _ => none }
def crossAddsRow : OpenClaim := { program := "ytbopgopggnagpaa", sum := "3a0ebf83b3ab6985db0a8b92daa3a7a8767467ac5b2dfe6a2b63a26f8cbab785", func := "fringe/fringelaw17.CrossAdds", spec := "crossAdds", unfollowed := true, recurses := true, apart := false }
def CrossAddsSaid : Prop := crossAddsRow.holds Try.pinned (OpenSpec.ofChange crossAddsSpec)

/-- ITS FALSE NEIGHBOUR: 'it returns false'. Refute it at one input. -/
def crossAddsWrong : ChangeSpec := { name := "crossAdds", fn := fun _ => fun
  | [d1, d2, d3] => { results := [.lit (.bool false)], args := [d1, d2, d3] }
  | _ => none }
def CrossAddsWrongFalsely : Prop := crossAddsRow.holds Try.pinned (OpenSpec.ofChange crossAddsWrong)

/-- 'fringelaw17.CrossLags': WHATEVER THE INPUT: true; the input reads as it did. -/
def crossLagsSpec : ChangeSpec := { name := "crossLags", fn := fun _ => fun
  | [d1, d2, d3] => { results := [.lit (.bool true)], args := [d1, d2, d3] }
  | _ => none }
def crossLagsRow : OpenClaim := { program := "ytbopgopggnagpaa", sum := "3a0ebf83b3ab6985db0a8b92daa3a7a8767467ac5b2dfe6a2b63a26f8cbab785", func := "fringe/fringelaw17.CrossLags", spec := "crossLags", unfollowed := true, recurses := true, apart := false }
def CrossLagsSaid : Prop := crossLagsRow.holds Try.pinned (OpenSpec.ofChange crossLagsSpec)

/-- ITS FALSE NEIGHBOUR: 'it returns false'. Refute it at one input. -/
def crossLagsWrong : ChangeSpec := { name := "crossLags", fn := fun _ => fun
  | [d1, d2, d3] => { results := [.lit (.bool false)], args := [d1, d2, d3] }
  | _ => none }
def CrossLagsWrongFalsely : Prop := crossLagsRow.holds Try.pinned (OpenSpec.ofChange crossLagsWrong)

/-- 'fringelaw17.CrossPieces': WHATEVER THE INPUT: true; the input reads as it did. -/
def crossPiecesSpec : ChangeSpec := { name := "crossPieces", fn := fun _ => fun
  | [d1, d2] => { results := [.lit (.bool true)], args := [d1, d2] }
  | _ => none }
def crossPiecesRow : OpenClaim := { program := "ytbopgopggnagpaa", sum := "3a0ebf83b3ab6985db0a8b92daa3a7a8767467ac5b2dfe6a2b63a26f8cbab785", func := "fringe/fringelaw17.CrossPieces", spec := "crossPieces", unfollowed := true, recurses := true, apart := false }
def CrossPiecesSaid : Prop := crossPiecesRow.holds Try.pinned (OpenSpec.ofChange crossPiecesSpec)

/-- ITS FALSE NEIGHBOUR: 'it returns false'. Refute it at one input. -/
def crossPiecesWrong : ChangeSpec := { name := "crossPieces", fn := fun _ => fun
  | [d1, d2] => { results := [.lit (.bool false)], args := [d1, d2] }
  | _ => none }
def CrossPiecesWrongFalsely : Prop := crossPiecesRow.holds Try.pinned (OpenSpec.ofChange crossPiecesWrong)

/- THE SECOND FORM. 'bulk': how many values and letters a reading holds, each counted each time it is reached (what is shared counts as often as it is met; a slice's spare places count too). A statement '..UptoSaid' is the law's where the arguments, and the package variables that the reading takes, are together of bulk at most 1048576: NARROWER than '..Said'. Prove '..Said' where nothing that the law and all that it calls make is longer than what came in: it says more and counts as full. Else prove '..UptoSaid'. A law counts once. -/
mutual
def uptoBulk {H : Type} : DataW H → Nat
  | .lit (.string bytes) => bytes.length + 1
  | .lit _ => 1
  | .nil => 1
  | .ptr d => uptoBulk d + 1
  | .slice elems spare => uptoBulkAll elems + uptoBulkAll spare + 1
  | .agg parts => uptoBulkAll parts + 1
  | .iface _ d => uptoBulk d + 1
  | .map entries => uptoBulkEntries entries + 1
  | .held _ => 1
def uptoBulkAll {H : Type} : List (DataW H) → Nat
  | [] => 0
  | d :: r => uptoBulk d + uptoBulkAll r
def uptoBulkEntries {H : Type} : List (Lit × DataW H) → Nat
  | [] => 0
  | x :: r => uptoBulkEntry x + uptoBulkEntries r
def uptoBulkEntry {H : Type} : Lit × DataW H → Nat
  | (.string bytes, d) => bytes.length + uptoBulk d + 1
  | (_, d) => uptoBulk d + 1
 end
def uptoSmall : (H : Type) → List (DataW H) → Bool := fun _ ds => decide (uptoBulkAll ds ≤ 1048576)
def OpenSpec.upto (s : _root_.Go.ChangeSpec) : _root_.Go.OpenSpec := { _root_.Go.OpenSpec.ofChange s with cond := some uptoSmall }

/-- 'fringelaw17.CrossSpectra', WHERE WHAT IT READS IS OF BULK AT MOST 1048576: true; the input reads as it did. -/
def crossSpectraUptoRow : OpenClaim := { program := "ytbopgopggnagpaa", sum := "3a0ebf83b3ab6985db0a8b92daa3a7a8767467ac5b2dfe6a2b63a26f8cbab785", func := "fringe/fringelaw17.CrossSpectra", spec := "crossSpectra", unfollowed := true, recurses := true, apart := false, narrowed := true }
def CrossSpectraUptoSaid : Prop := crossSpectraUptoRow.holds Try.pinned (OpenSpec.upto crossSpectraSpec)

/-- 'fringelaw17.CrossOf', WHERE WHAT IT READS IS OF BULK AT MOST 1048576: true; the input reads as it did. -/
def crossOfUptoRow : OpenClaim := { program := "ytbopgopggnagpaa", sum := "3a0ebf83b3ab6985db0a8b92daa3a7a8767467ac5b2dfe6a2b63a26f8cbab785", func := "fringe/fringelaw17.CrossOf", spec := "crossOf", unfollowed := true, recurses := true, apart := false, narrowed := true }
def CrossOfUptoSaid : Prop := crossOfUptoRow.holds Try.pinned (OpenSpec.upto crossOfSpec)

/-- 'fringelaw17.CrossNames', WHERE WHAT IT READS IS OF BULK AT MOST 1048576: true; the input reads as it did. -/
def crossNamesUptoRow : OpenClaim := { program := "ytbopgopggnagpaa", sum := "3a0ebf83b3ab6985db0a8b92daa3a7a8767467ac5b2dfe6a2b63a26f8cbab785", func := "fringe/fringelaw17.CrossNames", spec := "crossNames", unfollowed := true, recurses := true, apart := false, narrowed := true }
def CrossNamesUptoSaid : Prop := crossNamesUptoRow.holds Try.pinned (OpenSpec.upto crossNamesSpec)

/-- 'fringelaw17.CrossAdds', WHERE WHAT IT READS IS OF BULK AT MOST 1048576: true; the input reads as it did. -/
def crossAddsUptoRow : OpenClaim := { program := "ytbopgopggnagpaa", sum := "3a0ebf83b3ab6985db0a8b92daa3a7a8767467ac5b2dfe6a2b63a26f8cbab785", func := "fringe/fringelaw17.CrossAdds", spec := "crossAdds", unfollowed := true, recurses := true, apart := false, narrowed := true }
def CrossAddsUptoSaid : Prop := crossAddsUptoRow.holds Try.pinned (OpenSpec.upto crossAddsSpec)

/-- 'fringelaw17.CrossLags', WHERE WHAT IT READS IS OF BULK AT MOST 1048576: true; the input reads as it did. -/
def crossLagsUptoRow : OpenClaim := { program := "ytbopgopggnagpaa", sum := "3a0ebf83b3ab6985db0a8b92daa3a7a8767467ac5b2dfe6a2b63a26f8cbab785", func := "fringe/fringelaw17.CrossLags", spec := "crossLags", unfollowed := true, recurses := true, apart := false, narrowed := true }
def CrossLagsUptoSaid : Prop := crossLagsUptoRow.holds Try.pinned (OpenSpec.upto crossLagsSpec)

/-- 'fringelaw17.CrossPieces', WHERE WHAT IT READS IS OF BULK AT MOST 1048576: true; the input reads as it did. -/
def crossPiecesUptoRow : OpenClaim := { program := "ytbopgopggnagpaa", sum := "3a0ebf83b3ab6985db0a8b92daa3a7a8767467ac5b2dfe6a2b63a26f8cbab785", func := "fringe/fringelaw17.CrossPieces", spec := "crossPieces", unfollowed := true, recurses := true, apart := false, narrowed := true }
def CrossPiecesUptoSaid : Prop := crossPiecesUptoRow.holds Try.pinned (OpenSpec.upto crossPiecesSpec)

end Rows
end Go.Proofs.Ytbopgopggnagpaa
