/-
  No cell of these rows narrows 'for every input' (looked for: loops, veiled, ifaces, maps, wideKeys, modest, calm, conditions, laid).
  DERIVED. THE GIVEN ROWS OF THIS SEAT. 9 by the template 'for every input the law returns true; each argument reads behind the call as it read before'; 0 by the template 'total and deterministic' (their statements: YtnenhecnkidnpaaGreatTotals.lean).
  GIVEN WITH THE SEED: the statements are not yours to turn. If you find one false, say at which input.
  Laid BY PROGRAM, IN A SANDBOX (cutbox-rows.mjs): the forced cells as the released guide's own fill.sh prints them over the translation 7c435556a3a8c87c… (all of the seat's roots in one cut). By AI agents, Wed Nov 11 2026. No macro, syntax, notation, axiom, sorry.
-/
import Derived.Test.YtnenhecnkidnpaaGreatChecked
import GoSem.Claim
import GoSem.ClaimJoined
import GoSem.ClaimMapViews
import Derived.JoinedTies
import Derived.KernelRfl
namespace Go.Proofs.YtnenhecnkidnpaaGreat
/- THE CELL 'sum', in the pinned program and in every row, IS THE sha256 OF THE DUMP (.gsa) THAT YtnenhecnkidnpaaGreatProg.lean LOADS. Nothing in Lean hashes anything: it is a label: what it is worth is what the hold of that sum in a sandbox is worth. -/
noncomputable def Tryz.pinned : Pinned := { name := "ytnenhecnkidnpaagreat", sum := "7c435556a3a8c87ca73824ca6b09afe2583ba2e0c388580f753b346c5c572183", checked := Tryz.checked }
namespace Rows
def none {H : Type} : Left H := { results := [], args := [] }

/-- 'thicketlaw10.ApplyLaws': WHATEVER THE INPUT: true; the input reads as it did. -/
def applyLawsSpec : ChangeSpec := { name := "applyLaws", fn := fun _ => fun
  | [d1, d2, d3, d4] => { results := [.lit (.bool true)], args := [d1, d2, d3, d4] }
  | _ => none }
def applyLawsRow : OpenClaim := { program := "ytnenhecnkidnpaagreat", sum := "7c435556a3a8c87ca73824ca6b09afe2583ba2e0c388580f753b346c5c572183", func := "thicket/thicketlaw10.ApplyLaws", spec := "applyLaws", unfollowed := true, recurses := true, plainKeys := false, apart := false }
def ApplyLawsSaid : Prop := applyLawsRow.holds Tryz.pinned (OpenSpec.ofChange applyLawsSpec)

/-- ITS FALSE NEIGHBOUR: 'it returns false'. Refute it at one input. -/
def applyLawsWrong : ChangeSpec := { name := "applyLaws", fn := fun _ => fun
  | [d1, d2, d3, d4] => { results := [.lit (.bool false)], args := [d1, d2, d3, d4] }
  | _ => none }
def ApplyLawsWrongFalsely : Prop := applyLawsRow.holds Tryz.pinned (OpenSpec.ofChange applyLawsWrong)

/-- 'thicketlaw10.ApplySixteen': WHATEVER THE INPUT: true; the input reads as it did. -/
def applySixteenSpec : ChangeSpec := { name := "applySixteen", fn := fun _ => fun
  | [d1, d2, d3, d4, d5] => { results := [.lit (.bool true)], args := [d1, d2, d3, d4, d5] }
  | _ => none }
def applySixteenRow : OpenClaim := { program := "ytnenhecnkidnpaagreat", sum := "7c435556a3a8c87ca73824ca6b09afe2583ba2e0c388580f753b346c5c572183", func := "thicket/thicketlaw10.ApplySixteen", spec := "applySixteen", unfollowed := true, recurses := true, plainKeys := false, apart := false }
def ApplySixteenSaid : Prop := applySixteenRow.holds Tryz.pinned (OpenSpec.ofChange applySixteenSpec)

/-- ITS FALSE NEIGHBOUR: 'it returns false'. Refute it at one input. -/
def applySixteenWrong : ChangeSpec := { name := "applySixteen", fn := fun _ => fun
  | [d1, d2, d3, d4, d5] => { results := [.lit (.bool false)], args := [d1, d2, d3, d4, d5] }
  | _ => none }
def ApplySixteenWrongFalsely : Prop := applySixteenRow.holds Tryz.pinned (OpenSpec.ofChange applySixteenWrong)

/-- 'thicketlaw10.ApplyWide': WHATEVER THE INPUT: true; the input reads as it did. -/
def applyWideSpec : ChangeSpec := { name := "applyWide", fn := fun _ => fun
  | [d] => { results := [.lit (.bool true)], args := [d] }
  | _ => none }
def applyWideRow : OpenClaim := { program := "ytnenhecnkidnpaagreat", sum := "7c435556a3a8c87ca73824ca6b09afe2583ba2e0c388580f753b346c5c572183", func := "thicket/thicketlaw10.ApplyWide", spec := "applyWide", unfollowed := true, recurses := true, plainKeys := false, apart := false }
def ApplyWideSaid : Prop := applyWideRow.holds Tryz.pinned (OpenSpec.ofChange applyWideSpec)

/-- ITS FALSE NEIGHBOUR: 'it returns false'. Refute it at one input. -/
def applyWideWrong : ChangeSpec := { name := "applyWide", fn := fun _ => fun
  | [d] => { results := [.lit (.bool false)], args := [d] }
  | _ => none }
def ApplyWideWrongFalsely : Prop := applyWideRow.holds Tryz.pinned (OpenSpec.ofChange applyWideWrong)

/-- 'thicketlaw10.ApplyKeeps': WHATEVER THE INPUT: true; the input reads as it did. -/
def applyKeepsSpec : ChangeSpec := { name := "applyKeeps", fn := fun _ => fun
  | [d1, d2, d3] => { results := [.lit (.bool true)], args := [d1, d2, d3] }
  | _ => none }
def applyKeepsRow : OpenClaim := { program := "ytnenhecnkidnpaagreat", sum := "7c435556a3a8c87ca73824ca6b09afe2583ba2e0c388580f753b346c5c572183", func := "thicket/thicketlaw10.ApplyKeeps", spec := "applyKeeps", unfollowed := true, recurses := true, plainKeys := false, apart := false }
def ApplyKeepsSaid : Prop := applyKeepsRow.holds Tryz.pinned (OpenSpec.ofChange applyKeepsSpec)

/-- ITS FALSE NEIGHBOUR: 'it returns false'. Refute it at one input. -/
def applyKeepsWrong : ChangeSpec := { name := "applyKeeps", fn := fun _ => fun
  | [d1, d2, d3] => { results := [.lit (.bool false)], args := [d1, d2, d3] }
  | _ => none }
def ApplyKeepsWrongFalsely : Prop := applyKeepsRow.holds Tryz.pinned (OpenSpec.ofChange applyKeepsWrong)

/-- 'thicketlaw10.ApplyPlays': WHATEVER THE INPUT: true; the input reads as it did. -/
def applyPlaysSpec : ChangeSpec := { name := "applyPlays", fn := fun _ => fun
  | [d1, d2] => { results := [.lit (.bool true)], args := [d1, d2] }
  | _ => none }
def applyPlaysRow : OpenClaim := { program := "ytnenhecnkidnpaagreat", sum := "7c435556a3a8c87ca73824ca6b09afe2583ba2e0c388580f753b346c5c572183", func := "thicket/thicketlaw10.ApplyPlays", spec := "applyPlays", unfollowed := true, recurses := true, plainKeys := false, apart := false }
def ApplyPlaysSaid : Prop := applyPlaysRow.holds Tryz.pinned (OpenSpec.ofChange applyPlaysSpec)

/-- ITS FALSE NEIGHBOUR: 'it returns false'. Refute it at one input. -/
def applyPlaysWrong : ChangeSpec := { name := "applyPlays", fn := fun _ => fun
  | [d1, d2] => { results := [.lit (.bool false)], args := [d1, d2] }
  | _ => none }
def ApplyPlaysWrongFalsely : Prop := applyPlaysRow.holds Tryz.pinned (OpenSpec.ofChange applyPlaysWrong)

/-- 'thicketlaw14.InteractAsks': WHATEVER THE INPUT: true; the input reads as it did. -/
def interactAsksSpec : ChangeSpec := { name := "interactAsks", fn := fun _ => fun
  | [d1, d2] => { results := [.lit (.bool true)], args := [d1, d2] }
  | _ => none }
def interactAsksRow : OpenClaim := { program := "ytnenhecnkidnpaagreat", sum := "7c435556a3a8c87ca73824ca6b09afe2583ba2e0c388580f753b346c5c572183", func := "thicket/thicketlaw14.InteractAsks", spec := "interactAsks", unfollowed := true, recurses := true, plainKeys := false, apart := false }
def InteractAsksSaid : Prop := interactAsksRow.holds Tryz.pinned (OpenSpec.ofChange interactAsksSpec)

/-- ITS FALSE NEIGHBOUR: 'it returns false'. Refute it at one input. -/
def interactAsksWrong : ChangeSpec := { name := "interactAsks", fn := fun _ => fun
  | [d1, d2] => { results := [.lit (.bool false)], args := [d1, d2] }
  | _ => none }
def InteractAsksWrongFalsely : Prop := interactAsksRow.holds Tryz.pinned (OpenSpec.ofChange interactAsksWrong)

/-- 'thicketlaw14.InteractKeeps': WHATEVER THE INPUT: true; the input reads as it did. -/
def interactKeepsSpec : ChangeSpec := { name := "interactKeeps", fn := fun _ => fun
  | [d] => { results := [.lit (.bool true)], args := [d] }
  | _ => none }
def interactKeepsRow : OpenClaim := { program := "ytnenhecnkidnpaagreat", sum := "7c435556a3a8c87ca73824ca6b09afe2583ba2e0c388580f753b346c5c572183", func := "thicket/thicketlaw14.InteractKeeps", spec := "interactKeeps", unfollowed := true, recurses := true, plainKeys := false, apart := false }
def InteractKeepsSaid : Prop := interactKeepsRow.holds Tryz.pinned (OpenSpec.ofChange interactKeepsSpec)

/-- ITS FALSE NEIGHBOUR: 'it returns false'. Refute it at one input. -/
def interactKeepsWrong : ChangeSpec := { name := "interactKeeps", fn := fun _ => fun
  | [d] => { results := [.lit (.bool false)], args := [d] }
  | _ => none }
def InteractKeepsWrongFalsely : Prop := interactKeepsRow.holds Tryz.pinned (OpenSpec.ofChange interactKeepsWrong)

/-- 'thicketlaw14.InteractSupports': WHATEVER THE INPUT: true; the input reads as it did. -/
def interactSupportsSpec : ChangeSpec := { name := "interactSupports", fn := fun _ => fun
  | [d1, d2, d3] => { results := [.lit (.bool true)], args := [d1, d2, d3] }
  | _ => none }
def interactSupportsRow : OpenClaim := { program := "ytnenhecnkidnpaagreat", sum := "7c435556a3a8c87ca73824ca6b09afe2583ba2e0c388580f753b346c5c572183", func := "thicket/thicketlaw14.InteractSupports", spec := "interactSupports", unfollowed := true, recurses := true, plainKeys := false, apart := false }
def InteractSupportsSaid : Prop := interactSupportsRow.holds Tryz.pinned (OpenSpec.ofChange interactSupportsSpec)

/-- ITS FALSE NEIGHBOUR: 'it returns false'. Refute it at one input. -/
def interactSupportsWrong : ChangeSpec := { name := "interactSupports", fn := fun _ => fun
  | [d1, d2, d3] => { results := [.lit (.bool false)], args := [d1, d2, d3] }
  | _ => none }
def InteractSupportsWrongFalsely : Prop := interactSupportsRow.holds Tryz.pinned (OpenSpec.ofChange interactSupportsWrong)

/-- 'thicketlaw14.InteractFrees': WHATEVER THE INPUT: true; the input reads as it did. -/
def interactFreesSpec : ChangeSpec := { name := "interactFrees", fn := fun _ => fun
  | [d1, d2, d3, d4] => { results := [.lit (.bool true)], args := [d1, d2, d3, d4] }
  | _ => none }
def interactFreesRow : OpenClaim := { program := "ytnenhecnkidnpaagreat", sum := "7c435556a3a8c87ca73824ca6b09afe2583ba2e0c388580f753b346c5c572183", func := "thicket/thicketlaw14.InteractFrees", spec := "interactFrees", unfollowed := true, recurses := true, plainKeys := false, apart := false }
def InteractFreesSaid : Prop := interactFreesRow.holds Tryz.pinned (OpenSpec.ofChange interactFreesSpec)

/-- ITS FALSE NEIGHBOUR: 'it returns false'. Refute it at one input. -/
def interactFreesWrong : ChangeSpec := { name := "interactFrees", fn := fun _ => fun
  | [d1, d2, d3, d4] => { results := [.lit (.bool false)], args := [d1, d2, d3, d4] }
  | _ => none }
def InteractFreesWrongFalsely : Prop := interactFreesRow.holds Tryz.pinned (OpenSpec.ofChange interactFreesWrong)

/- THE SECOND FORM. 'bulk': how many values and letters a reading holds, each counted each time it is reached (what is shared counts as often as it is met; a slice's spare places count too). A statement '..UptoSaid' is the law's where the arguments, and the package variables that the reading takes, are together of bulk at most 1048576: NARROWER than '..Said'. Prove '..Said' where nothing that the law and all that it calls make is longer than what came in: it says more and counts as full. Else prove '..UptoSaid'. A law counts once. -/
mutual
def uptoBulk {H : Type} : DataW H → Nat
  | .lit (.string bytes) => bytes.length + 1
  | .lit _ => 1
  | .nil => 1
  | .ptr d => uptoBulk d + 1
  | .slice elems spare => uptoBulkAll elems + uptoBulkAll spare + 1
  | .agg parts => uptoBulkAll parts + 1
  | .iface _ d => uptoBulk d + 1
  | .map entries => uptoBulkEntries entries + 1
  | .held _ => 1
def uptoBulkAll {H : Type} : List (DataW H) → Nat
  | [] => 0
  | d :: r => uptoBulk d + uptoBulkAll r
def uptoBulkEntries {H : Type} : List (Lit × DataW H) → Nat
  | [] => 0
  | x :: r => uptoBulkEntry x + uptoBulkEntries r
def uptoBulkEntry {H : Type} : Lit × DataW H → Nat
  | (.string bytes, d) => bytes.length + uptoBulk d + 1
  | (_, d) => uptoBulk d + 1
 end
def uptoSmall : (H : Type) → List (DataW H) → Bool := fun _ ds => decide (uptoBulkAll ds ≤ 1048576)
def OpenSpec.upto (s : _root_.Go.ChangeSpec) : _root_.Go.OpenSpec := { _root_.Go.OpenSpec.ofChange s with cond := some uptoSmall }

/-- 'thicketlaw10.ApplyLaws', WHERE WHAT IT READS IS OF BULK AT MOST 1048576: true; the input reads as it did. -/
def applyLawsUptoRow : OpenClaim := { program := "ytnenhecnkidnpaagreat", sum := "7c435556a3a8c87ca73824ca6b09afe2583ba2e0c388580f753b346c5c572183", func := "thicket/thicketlaw10.ApplyLaws", spec := "applyLaws", unfollowed := true, recurses := true, plainKeys := false, apart := false, narrowed := true }
def ApplyLawsUptoSaid : Prop := applyLawsUptoRow.holds Tryz.pinned (OpenSpec.upto applyLawsSpec)

/-- 'thicketlaw10.ApplySixteen', WHERE WHAT IT READS IS OF BULK AT MOST 1048576: true; the input reads as it did. -/
def applySixteenUptoRow : OpenClaim := { program := "ytnenhecnkidnpaagreat", sum := "7c435556a3a8c87ca73824ca6b09afe2583ba2e0c388580f753b346c5c572183", func := "thicket/thicketlaw10.ApplySixteen", spec := "applySixteen", unfollowed := true, recurses := true, plainKeys := false, apart := false, narrowed := true }
def ApplySixteenUptoSaid : Prop := applySixteenUptoRow.holds Tryz.pinned (OpenSpec.upto applySixteenSpec)

/-- 'thicketlaw10.ApplyWide', WHERE WHAT IT READS IS OF BULK AT MOST 1048576: true; the input reads as it did. -/
def applyWideUptoRow : OpenClaim := { program := "ytnenhecnkidnpaagreat", sum := "7c435556a3a8c87ca73824ca6b09afe2583ba2e0c388580f753b346c5c572183", func := "thicket/thicketlaw10.ApplyWide", spec := "applyWide", unfollowed := true, recurses := true, plainKeys := false, apart := false, narrowed := true }
def ApplyWideUptoSaid : Prop := applyWideUptoRow.holds Tryz.pinned (OpenSpec.upto applyWideSpec)

/-- 'thicketlaw10.ApplyKeeps', WHERE WHAT IT READS IS OF BULK AT MOST 1048576: true; the input reads as it did. -/
def applyKeepsUptoRow : OpenClaim := { program := "ytnenhecnkidnpaagreat", sum := "7c435556a3a8c87ca73824ca6b09afe2583ba2e0c388580f753b346c5c572183", func := "thicket/thicketlaw10.ApplyKeeps", spec := "applyKeeps", unfollowed := true, recurses := true, plainKeys := false, apart := false, narrowed := true }
def ApplyKeepsUptoSaid : Prop := applyKeepsUptoRow.holds Tryz.pinned (OpenSpec.upto applyKeepsSpec)

/-- 'thicketlaw10.ApplyPlays', WHERE WHAT IT READS IS OF BULK AT MOST 1048576: true; the input reads as it did. -/
def applyPlaysUptoRow : OpenClaim := { program := "ytnenhecnkidnpaagreat", sum := "7c435556a3a8c87ca73824ca6b09afe2583ba2e0c388580f753b346c5c572183", func := "thicket/thicketlaw10.ApplyPlays", spec := "applyPlays", unfollowed := true, recurses := true, plainKeys := false, apart := false, narrowed := true }
def ApplyPlaysUptoSaid : Prop := applyPlaysUptoRow.holds Tryz.pinned (OpenSpec.upto applyPlaysSpec)

/-- 'thicketlaw14.InteractAsks', WHERE WHAT IT READS IS OF BULK AT MOST 1048576: true; the input reads as it did. -/
def interactAsksUptoRow : OpenClaim := { program := "ytnenhecnkidnpaagreat", sum := "7c435556a3a8c87ca73824ca6b09afe2583ba2e0c388580f753b346c5c572183", func := "thicket/thicketlaw14.InteractAsks", spec := "interactAsks", unfollowed := true, recurses := true, plainKeys := false, apart := false, narrowed := true }
def InteractAsksUptoSaid : Prop := interactAsksUptoRow.holds Tryz.pinned (OpenSpec.upto interactAsksSpec)

/-- 'thicketlaw14.InteractKeeps', WHERE WHAT IT READS IS OF BULK AT MOST 1048576: true; the input reads as it did. -/
def interactKeepsUptoRow : OpenClaim := { program := "ytnenhecnkidnpaagreat", sum := "7c435556a3a8c87ca73824ca6b09afe2583ba2e0c388580f753b346c5c572183", func := "thicket/thicketlaw14.InteractKeeps", spec := "interactKeeps", unfollowed := true, recurses := true, plainKeys := false, apart := false, narrowed := true }
def InteractKeepsUptoSaid : Prop := interactKeepsUptoRow.holds Tryz.pinned (OpenSpec.upto interactKeepsSpec)

/-- 'thicketlaw14.InteractSupports', WHERE WHAT IT READS IS OF BULK AT MOST 1048576: true; the input reads as it did. -/
def interactSupportsUptoRow : OpenClaim := { program := "ytnenhecnkidnpaagreat", sum := "7c435556a3a8c87ca73824ca6b09afe2583ba2e0c388580f753b346c5c572183", func := "thicket/thicketlaw14.InteractSupports", spec := "interactSupports", unfollowed := true, recurses := true, plainKeys := false, apart := false, narrowed := true }
def InteractSupportsUptoSaid : Prop := interactSupportsUptoRow.holds Tryz.pinned (OpenSpec.upto interactSupportsSpec)

/-- 'thicketlaw14.InteractFrees', WHERE WHAT IT READS IS OF BULK AT MOST 1048576: true; the input reads as it did. -/
def interactFreesUptoRow : OpenClaim := { program := "ytnenhecnkidnpaagreat", sum := "7c435556a3a8c87ca73824ca6b09afe2583ba2e0c388580f753b346c5c572183", func := "thicket/thicketlaw14.InteractFrees", spec := "interactFrees", unfollowed := true, recurses := true, plainKeys := false, apart := false, narrowed := true }
def InteractFreesUptoSaid : Prop := interactFreesUptoRow.holds Tryz.pinned (OpenSpec.upto interactFreesSpec)

end Rows
end Go.Proofs.YtnenhecnkidnpaaGreat
