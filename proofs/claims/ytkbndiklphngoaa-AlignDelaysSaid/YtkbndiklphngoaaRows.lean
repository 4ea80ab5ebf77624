/-
  No cell of these rows narrows 'for every input' (looked for: loops, veiled, ifaces, maps, wideKeys, modest, calm, conditions, laid).
  DERIVED. THE GIVEN ROWS OF THIS SEAT. 5 by the template 'for every input the law returns true; each argument reads behind the call as it read before'; 0 by the template 'total and deterministic' (their statements: YtkbndiklphngoaaTotals.lean).
  GIVEN WITH THE SEED: the statements are not yours to turn. If you find one false, say at which input.
  Laid BY PROGRAM, IN A SANDBOX (cutbox-rows.mjs): the forced cells as the released guide's own fill.sh prints them over the translation 86bafb67152a46a7… (all of the seat's roots in one cut). By AI agents, Wed Nov 11 2026. No macro, syntax, notation, axiom, sorry.
-/
import Derived.Test.YtkbndiklphngoaaChecked
import GoSem.Claim
import GoSem.ClaimJoined
import GoSem.ClaimMapViews
import Derived.JoinedTies
import Derived.KernelRfl
namespace Go.Proofs.Ytkbndiklphngoaa
/- THE CELL 'sum', in the pinned program and in every row, IS THE sha256 OF THE DUMP (.gsa) THAT YtkbndiklphngoaaProg.lean LOADS. Nothing in Lean hashes anything: it is a label: what it is worth is what the hold of that sum in a sandbox is worth. -/
noncomputable def Try.pinned : Pinned := { name := "ytkbndiklphngoaa", sum := "86bafb67152a46a7c1b875aba1cf34fc70d212db49cb9c5e6050e5b77b2e9b3f", checked := Try.checked }
namespace Rows
def none {H : Type} : Left H := { results := [], args := [] }

/-- 'fringelaw14.AlignDelays': WHATEVER THE INPUT: true; the input reads as it did. -/
def alignDelaysSpec : ChangeSpec := { name := "alignDelays", fn := fun _ => fun
  | [d1, d2] => { results := [.lit (.bool true)], args := [d1, d2] }
  | _ => none }
def alignDelaysRow : OpenClaim := { program := "ytkbndiklphngoaa", sum := "86bafb67152a46a7c1b875aba1cf34fc70d212db49cb9c5e6050e5b77b2e9b3f", func := "fringe/fringelaw14.AlignDelays", spec := "alignDelays", unfollowed := true, recurses := true, apart := false }
def AlignDelaysSaid : Prop := alignDelaysRow.holds Try.pinned (OpenSpec.ofChange alignDelaysSpec)

/-- ITS FALSE NEIGHBOUR: 'it returns false'. Refute it at one input. -/
def alignDelaysWrong : ChangeSpec := { name := "alignDelays", fn := fun _ => fun
  | [d1, d2] => { results := [.lit (.bool false)], args := [d1, d2] }
  | _ => none }
def AlignDelaysWrongFalsely : Prop := alignDelaysRow.holds Try.pinned (OpenSpec.ofChange alignDelaysWrong)

/-- 'fringelaw14.AlignOrder': WHATEVER THE INPUT: true; the input reads as it did. -/
def alignOrderSpec : ChangeSpec := { name := "alignOrder", fn := fun _ => fun
  | [d1, d2, d3, d4] => { results := [.lit (.bool true)], args := [d1, d2, d3, d4] }
  | _ => none }
def alignOrderRow : OpenClaim := { program := "ytkbndiklphngoaa", sum := "86bafb67152a46a7c1b875aba1cf34fc70d212db49cb9c5e6050e5b77b2e9b3f", func := "fringe/fringelaw14.AlignOrder", spec := "alignOrder", unfollowed := true, recurses := true, apart := false }
def AlignOrderSaid : Prop := alignOrderRow.holds Try.pinned (OpenSpec.ofChange alignOrderSpec)

/-- ITS FALSE NEIGHBOUR: 'it returns false'. Refute it at one input. -/
def alignOrderWrong : ChangeSpec := { name := "alignOrder", fn := fun _ => fun
  | [d1, d2, d3, d4] => { results := [.lit (.bool false)], args := [d1, d2, d3, d4] }
  | _ => none }
def AlignOrderWrongFalsely : Prop := alignOrderRow.holds Try.pinned (OpenSpec.ofChange alignOrderWrong)

/-- 'fringelaw14.AlignOnce': WHATEVER THE INPUT: true; the input reads as it did. -/
def alignOnceSpec : ChangeSpec := { name := "alignOnce", fn := fun _ => fun
  | [d1, d2, d3] => { results := [.lit (.bool true)], args := [d1, d2, d3] }
  | _ => none }
def alignOnceRow : OpenClaim := { program := "ytkbndiklphngoaa", sum := "86bafb67152a46a7c1b875aba1cf34fc70d212db49cb9c5e6050e5b77b2e9b3f", func := "fringe/fringelaw14.AlignOnce", spec := "alignOnce", unfollowed := true, recurses := true, apart := false }
def AlignOnceSaid : Prop := alignOnceRow.holds Try.pinned (OpenSpec.ofChange alignOnceSpec)

/-- ITS FALSE NEIGHBOUR: 'it returns false'. Refute it at one input. -/
def alignOnceWrong : ChangeSpec := { name := "alignOnce", fn := fun _ => fun
  | [d1, d2, d3] => { results := [.lit (.bool false)], args := [d1, d2, d3] }
  | _ => none }
def AlignOnceWrongFalsely : Prop := alignOnceRow.holds Try.pinned (OpenSpec.ofChange alignOnceWrong)

/-- 'fringelaw14.AlignBack': WHATEVER THE INPUT: true; the input reads as it did. -/
def alignBackSpec : ChangeSpec := { name := "alignBack", fn := fun _ => fun
  | [d1, d2, d3, d4, d5, d6] => { results := [.lit (.bool true)], args := [d1, d2, d3, d4, d5, d6] }
  | _ => none }
def alignBackRow : OpenClaim := { program := "ytkbndiklphngoaa", sum := "86bafb67152a46a7c1b875aba1cf34fc70d212db49cb9c5e6050e5b77b2e9b3f", func := "fringe/fringelaw14.AlignBack", spec := "alignBack", unfollowed := true, recurses := true, apart := false }
def AlignBackSaid : Prop := alignBackRow.holds Try.pinned (OpenSpec.ofChange alignBackSpec)

/-- ITS FALSE NEIGHBOUR: 'it returns false'. Refute it at one input. -/
def alignBackWrong : ChangeSpec := { name := "alignBack", fn := fun _ => fun
  | [d1, d2, d3, d4, d5, d6] => { results := [.lit (.bool false)], args := [d1, d2, d3, d4, d5, d6] }
  | _ => none }
def AlignBackWrongFalsely : Prop := alignBackRow.holds Try.pinned (OpenSpec.ofChange alignBackWrong)

/-- 'fringelaw14.AlignNames': WHATEVER THE INPUT: true; the input reads as it did. -/
def alignNamesSpec : ChangeSpec := { name := "alignNames", fn := fun _ => fun
  | [] => { results := [.lit (.bool true)], args := [] }
  | _ => none }
def alignNamesRow : OpenClaim := { program := "ytkbndiklphngoaa", sum := "86bafb67152a46a7c1b875aba1cf34fc70d212db49cb9c5e6050e5b77b2e9b3f", func := "fringe/fringelaw14.AlignNames", spec := "alignNames", unfollowed := true, recurses := true, apart := false }
def AlignNamesSaid : Prop := alignNamesRow.holds Try.pinned (OpenSpec.ofChange alignNamesSpec)

/-- ITS FALSE NEIGHBOUR: 'it returns false'. Refute it at one input. -/
def alignNamesWrong : ChangeSpec := { name := "alignNames", fn := fun _ => fun
  | [] => { results := [.lit (.bool false)], args := [] }
  | _ => none }
def AlignNamesWrongFalsely : Prop := alignNamesRow.holds Try.pinned (OpenSpec.ofChange alignNamesWrong)

/- THE SECOND FORM. 'bulk': how many values and letters a reading holds, each counted each time it is reached (what is shared counts as often as it is met; a slice's spare places count too). A statement '..UptoSaid' is the law's where the arguments, and the package variables that the reading takes, are together of bulk at most 1048576: NARROWER than '..Said'. Prove '..Said' where nothing that the law and all that it calls make is longer than what came in: it says more and counts as full. Else prove '..UptoSaid'. A law counts once. -/
mutual
def uptoBulk {H : Type} : DataW H → Nat
  | .lit (.string bytes) => bytes.length + 1
  | .lit _ => 1
  | .nil => 1
  | .ptr d => uptoBulk d + 1
  | .slice elems spare => uptoBulkAll elems + uptoBulkAll spare + 1
  | .agg parts => uptoBulkAll parts + 1
  | .iface _ d => uptoBulk d + 1
  | .map entries => uptoBulkEntries entries + 1
  | .held _ => 1
def uptoBulkAll {H : Type} : List (DataW H) → Nat
  | [] => 0
  | d :: r => uptoBulk d + uptoBulkAll r
def uptoBulkEntries {H : Type} : List (Lit × DataW H) → Nat
  | [] => 0
  | x :: r => uptoBulkEntry x + uptoBulkEntries r
def uptoBulkEntry {H : Type} : Lit × DataW H → Nat
  | (.string bytes, d) => bytes.length + uptoBulk d + 1
  | (_, d) => uptoBulk d + 1
 end
def uptoSmall : (H : Type) → List (DataW H) → Bool := fun _ ds => decide (uptoBulkAll ds ≤ 1048576)
def OpenSpec.upto (s : _root_.Go.ChangeSpec) : _root_.Go.OpenSpec := { _root_.Go.OpenSpec.ofChange s with cond := some uptoSmall }

/-- 'fringelaw14.AlignDelays', WHERE WHAT IT READS IS OF BULK AT MOST 1048576: true; the input reads as it did. -/
def alignDelaysUptoRow : OpenClaim := { program := "ytkbndiklphngoaa", sum := "86bafb67152a46a7c1b875aba1cf34fc70d212db49cb9c5e6050e5b77b2e9b3f", func := "fringe/fringelaw14.AlignDelays", spec := "alignDelays", unfollowed := true, recurses := true, apart := false, narrowed := true }
def AlignDelaysUptoSaid : Prop := alignDelaysUptoRow.holds Try.pinned (OpenSpec.upto alignDelaysSpec)

/-- 'fringelaw14.AlignOrder', WHERE WHAT IT READS IS OF BULK AT MOST 1048576: true; the input reads as it did. -/
def alignOrderUptoRow : OpenClaim := { program := "ytkbndiklphngoaa", sum := "86bafb67152a46a7c1b875aba1cf34fc70d212db49cb9c5e6050e5b77b2e9b3f", func := "fringe/fringelaw14.AlignOrder", spec := "alignOrder", unfollowed := true, recurses := true, apart := false, narrowed := true }
def AlignOrderUptoSaid : Prop := alignOrderUptoRow.holds Try.pinned (OpenSpec.upto alignOrderSpec)

/-- 'fringelaw14.AlignOnce', WHERE WHAT IT READS IS OF BULK AT MOST 1048576: true; the input reads as it did. -/
def alignOnceUptoRow : OpenClaim := { program := "ytkbndiklphngoaa", sum := "86bafb67152a46a7c1b875aba1cf34fc70d212db49cb9c5e6050e5b77b2e9b3f", func := "fringe/fringelaw14.AlignOnce", spec := "alignOnce", unfollowed := true, recurses := true, apart := false, narrowed := true }
def AlignOnceUptoSaid : Prop := alignOnceUptoRow.holds Try.pinned (OpenSpec.upto alignOnceSpec)

/-- 'fringelaw14.AlignBack', WHERE WHAT IT READS IS OF BULK AT MOST 1048576: true; the input reads as it did. -/
def alignBackUptoRow : OpenClaim := { program := "ytkbndiklphngoaa", sum := "86bafb67152a46a7c1b875aba1cf34fc70d212db49cb9c5e6050e5b77b2e9b3f", func := "fringe/fringelaw14.AlignBack", spec := "alignBack", unfollowed := true, recurses := true, apart := false, narrowed := true }
def AlignBackUptoSaid : Prop := alignBackUptoRow.holds Try.pinned (OpenSpec.upto alignBackSpec)

/-- 'fringelaw14.AlignNames', WHERE WHAT IT READS IS OF BULK AT MOST 1048576: true; the input reads as it did. -/
def alignNamesUptoRow : OpenClaim := { program := "ytkbndiklphngoaa", sum := "86bafb67152a46a7c1b875aba1cf34fc70d212db49cb9c5e6050e5b77b2e9b3f", func := "fringe/fringelaw14.AlignNames", spec := "alignNames", unfollowed := true, recurses := true, apart := false, narrowed := true }
def AlignNamesUptoSaid : Prop := alignNamesUptoRow.holds Try.pinned (OpenSpec.upto alignNamesSpec)

end Rows
end Go.Proofs.Ytkbndiklphngoaa
