/-
  No cell of these rows narrows 'for every input' (looked for: loops, veiled, ifaces, maps, wideKeys, modest, calm, conditions, laid).
  DERIVED. THE GIVEN ROWS OF THIS SEAT. 2 by the template 'for every input the law returns true; each argument reads behind the call as it read before'; 0 by the template 'total and deterministic' (their statements: YtjgmbgdbhpfciaaTotals.lean).
  GIVEN WITH THE SEED: the statements are not yours to turn. If you find one false, say at which input.
  Laid BY PROGRAM, IN A SANDBOX (cutbox-rows.mjs): the forced cells as the released guide's own fill.sh prints them over the translation 67cf95121f048a36… (all of the seat's roots in one cut). By AI agents, Wed Nov 11 2026. No macro, syntax, notation, axiom, sorry.
-/
import Derived.Test.YtjgmbgdbhpfciaaChecked
import GoSem.Claim
import GoSem.ClaimJoined
import GoSem.ClaimMapViews
import Derived.JoinedTies
import Derived.KernelRfl
namespace Go.Proofs.Ytjgmbgdbhpfciaa
/- THE CELL 'sum', in the pinned program and in every row, IS THE sha256 OF THE DUMP (.gsa) THAT YtjgmbgdbhpfciaaProg.lean LOADS. Nothing in Lean hashes anything: it is a label: what it is worth is what the hold of that sum in a sandbox is worth. -/
noncomputable def Try.pinned : Pinned := { name := "ytjgmbgdbhpfciaa", sum := "67cf95121f048a36ff3e281418b9036eab9315ddf0dc62768d3f123c2d669d50", checked := Try.checked }
namespace Rows
def none {H : Type} : Left H := { results := [], args := [] }

/-- 'thickettop.WholeHeap': WHATEVER THE INPUT: true; the input reads as it did. -/
def wholeHeapSpec : ChangeSpec := { name := "wholeHeap", fn := fun _ => fun
  | [d1, d2] => { results := [.lit (.bool true)], args := [d1, d2] }
  | _ => none }
def wholeHeapRow : OpenClaim := { program := "ytjgmbgdbhpfciaa", sum := "67cf95121f048a36ff3e281418b9036eab9315ddf0dc62768d3f123c2d669d50", func := "thicket/thickettop.WholeHeap", spec := "wholeHeap", apart := false }
def WholeHeapSaid : Prop := wholeHeapRow.holds Try.pinned (OpenSpec.ofChange wholeHeapSpec)

/-- ITS FALSE NEIGHBOUR: 'it returns false'. Refute it at one input. -/
def wholeHeapWrong : ChangeSpec := { name := "wholeHeap", fn := fun _ => fun
  | [d1, d2] => { results := [.lit (.bool false)], args := [d1, d2] }
  | _ => none }
def WholeHeapWrongFalsely : Prop := wholeHeapRow.holds Try.pinned (OpenSpec.ofChange wholeHeapWrong)

/-- 'thickettop.WholePlaces': WHATEVER THE INPUT: true; the input reads as it did. -/
def wholePlacesSpec : ChangeSpec := { name := "wholePlaces", fn := fun _ => fun
  | [d1, d2] => { results := [.lit (.bool true)], args := [d1, d2] }
  | _ => none }
def wholePlacesRow : OpenClaim := { program := "ytjgmbgdbhpfciaa", sum := "67cf95121f048a36ff3e281418b9036eab9315ddf0dc62768d3f123c2d669d50", func := "thicket/thickettop.WholePlaces", spec := "wholePlaces", apart := false }
def WholePlacesSaid : Prop := wholePlacesRow.holds Try.pinned (OpenSpec.ofChange wholePlacesSpec)

/-- ITS FALSE NEIGHBOUR: 'it returns false'. Refute it at one input. -/
def wholePlacesWrong : ChangeSpec := { name := "wholePlaces", fn := fun _ => fun
  | [d1, d2] => { results := [.lit (.bool false)], args := [d1, d2] }
  | _ => none }
def WholePlacesWrongFalsely : Prop := wholePlacesRow.holds Try.pinned (OpenSpec.ofChange wholePlacesWrong)

/- THE SECOND FORM. 'bulk': how many values and letters a reading holds, each counted each time it is reached (what is shared counts as often as it is met; a slice's spare places count too). A statement '..UptoSaid' is the law's where the arguments, and the package variables that the reading takes, are together of bulk at most 1048576: NARROWER than '..Said'. Prove '..Said' where nothing that the law and all that it calls make is longer than what came in: it says more and counts as full. Else prove '..UptoSaid'. A law counts once. -/
mutual
def uptoBulk {H : Type} : DataW H → Nat
  | .lit (.string bytes) => bytes.length + 1
  | .lit _ => 1
  | .nil => 1
  | .ptr d => uptoBulk d + 1
  | .slice elems spare => uptoBulkAll elems + uptoBulkAll spare + 1
  | .agg parts => uptoBulkAll parts + 1
  | .iface _ d => uptoBulk d + 1
  | .map entries => uptoBulkEntries entries + 1
  | .held _ => 1
def uptoBulkAll {H : Type} : List (DataW H) → Nat
  | [] => 0
  | d :: r => uptoBulk d + uptoBulkAll r
def uptoBulkEntries {H : Type} : List (Lit × DataW H) → Nat
  | [] => 0
  | x :: r => uptoBulkEntry x + uptoBulkEntries r
def uptoBulkEntry {H : Type} : Lit × DataW H → Nat
  | (.string bytes, d) => bytes.length + uptoBulk d + 1
  | (_, d) => uptoBulk d + 1
 end
def uptoSmall : (H : Type) → List (DataW H) → Bool := fun _ ds => decide (uptoBulkAll ds ≤ 1048576)
def OpenSpec.upto (s : _root_.Go.ChangeSpec) : _root_.Go.OpenSpec := { _root_.Go.OpenSpec.ofChange s with cond := some uptoSmall }

/-- 'thickettop.WholeHeap', WHERE WHAT IT READS IS OF BULK AT MOST 1048576: true; the input reads as it did. -/
def wholeHeapUptoRow : OpenClaim := { program := "ytjgmbgdbhpfciaa", sum := "67cf95121f048a36ff3e281418b9036eab9315ddf0dc62768d3f123c2d669d50", func := "thicket/thickettop.WholeHeap", spec := "wholeHeap", apart := false, narrowed := true }
def WholeHeapUptoSaid : Prop := wholeHeapUptoRow.holds Try.pinned (OpenSpec.upto wholeHeapSpec)

/-- 'thickettop.WholePlaces', WHERE WHAT IT READS IS OF BULK AT MOST 1048576: true; the input reads as it did. -/
def wholePlacesUptoRow : OpenClaim := { program := "ytjgmbgdbhpfciaa", sum := "67cf95121f048a36ff3e281418b9036eab9315ddf0dc62768d3f123c2d669d50", func := "thicket/thickettop.WholePlaces", spec := "wholePlaces", apart := false, narrowed := true }
def WholePlacesUptoSaid : Prop := wholePlacesUptoRow.holds Try.pinned (OpenSpec.upto wholePlacesSpec)

end Rows
end Go.Proofs.Ytjgmbgdbhpfciaa
