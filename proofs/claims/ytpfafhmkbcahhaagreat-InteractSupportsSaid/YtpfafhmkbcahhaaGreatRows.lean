/-
  No cell of these rows narrows 'for every input' (looked for: loops, veiled, ifaces, maps, wideKeys, modest, calm, conditions, laid).
  DERIVED. THE GIVEN ROWS OF THIS SEAT. 12 by the template 'for every input the law returns true; each argument reads behind the call as it read before'; 0 by the template 'total and deterministic' (their statements: YtpfafhmkbcahhaaGreatTotals.lean).
  GIVEN WITH THE SEED: the statements are not yours to turn. If you find one false, say at which input.
  Laid BY PROGRAM, IN A SANDBOX (cutbox-rows.mjs): the forced cells as the released guide's own fill.sh prints them over the translation 7ab5809cc595e722… (all of the seat's roots in one cut). By AI agents, Wed Nov 11 2026. No macro, syntax, notation, axiom, sorry.
-/
import Derived.Test.YtpfafhmkbcahhaaGreatChecked
import GoSem.Claim
import GoSem.ClaimJoined
import GoSem.ClaimMapViews
import Derived.JoinedTies
import Derived.KernelRfl
namespace Go.Proofs.YtpfafhmkbcahhaaGreat
/- THE CELL 'sum', in the pinned program and in every row, IS THE sha256 OF THE DUMP (.gsa) THAT YtpfafhmkbcahhaaGreatProg.lean LOADS. Nothing in Lean hashes anything: it is a label: what it is worth is what the hold of that sum in a sandbox is worth. -/
noncomputable def Tryz.pinned : Pinned := { name := "ytpfafhmkbcahhaagreat", sum := "7ab5809cc595e722d2fdc6c515ab245b1f2f9de49b9c6e2df5ffef005e1cc755", checked := Tryz.checked }
namespace Rows
def none {H : Type} : Left H := { results := [], args := [] }

/-- 'thicketlaw17.SiftOnes': WHATEVER THE INPUT: true; the input reads as it did. -/
def siftOnesSpec : ChangeSpec := { name := "siftOnes", fn := fun _ => fun
  | [d1, d2, d3] => { results := [.lit (.bool true)], args := [d1, d2, d3] }
  | _ => none }
def siftOnesRow : OpenClaim := { program := "ytpfafhmkbcahhaagreat", sum := "7ab5809cc595e722d2fdc6c515ab245b1f2f9de49b9c6e2df5ffef005e1cc755", func := "thicket/thicketlaw17.SiftOnes", spec := "siftOnes", unfollowed := true, recurses := true, plainKeys := false, apart := false }
def SiftOnesSaid : Prop := siftOnesRow.holds Tryz.pinned (OpenSpec.ofChange siftOnesSpec)

/-- ITS FALSE NEIGHBOUR: 'it returns false'. Refute it at one input. -/
def siftOnesWrong : ChangeSpec := { name := "siftOnes", fn := fun _ => fun
  | [d1, d2, d3] => { results := [.lit (.bool false)], args := [d1, d2, d3] }
  | _ => none }
def SiftOnesWrongFalsely : Prop := siftOnesRow.holds Tryz.pinned (OpenSpec.ofChange siftOnesWrong)

/-- 'thicketlaw15.SwapRooms': WHATEVER THE INPUT: true; the input reads as it did. -/
def swapRoomsSpec : ChangeSpec := { name := "swapRooms", fn := fun _ => fun
  | [d] => { results := [.lit (.bool true)], args := [d] }
  | _ => none }
def swapRoomsRow : OpenClaim := { program := "ytpfafhmkbcahhaagreat", sum := "7ab5809cc595e722d2fdc6c515ab245b1f2f9de49b9c6e2df5ffef005e1cc755", func := "thicket/thicketlaw15.SwapRooms", spec := "swapRooms", unfollowed := true, recurses := true, plainKeys := false, apart := false }
def SwapRoomsSaid : Prop := swapRoomsRow.holds Tryz.pinned (OpenSpec.ofChange swapRoomsSpec)

/-- ITS FALSE NEIGHBOUR: 'it returns false'. Refute it at one input. -/
def swapRoomsWrong : ChangeSpec := { name := "swapRooms", fn := fun _ => fun
  | [d] => { results := [.lit (.bool false)], args := [d] }
  | _ => none }
def SwapRoomsWrongFalsely : Prop := swapRoomsRow.holds Tryz.pinned (OpenSpec.ofChange swapRoomsWrong)

/-- 'thicketlaw10.ApplyKeeps': WHATEVER THE INPUT: true; the input reads as it did. -/
def applyKeepsSpec : ChangeSpec := { name := "applyKeeps", fn := fun _ => fun
  | [d1, d2, d3] => { results := [.lit (.bool true)], args := [d1, d2, d3] }
  | _ => none }
def applyKeepsRow : OpenClaim := { program := "ytpfafhmkbcahhaagreat", sum := "7ab5809cc595e722d2fdc6c515ab245b1f2f9de49b9c6e2df5ffef005e1cc755", func := "thicket/thicketlaw10.ApplyKeeps", spec := "applyKeeps", unfollowed := true, recurses := true, plainKeys := false, apart := false }
def ApplyKeepsSaid : Prop := applyKeepsRow.holds Tryz.pinned (OpenSpec.ofChange applyKeepsSpec)

/-- ITS FALSE NEIGHBOUR: 'it returns false'. Refute it at one input. -/
def applyKeepsWrong : ChangeSpec := { name := "applyKeeps", fn := fun _ => fun
  | [d1, d2, d3] => { results := [.lit (.bool false)], args := [d1, d2, d3] }
  | _ => none }
def ApplyKeepsWrongFalsely : Prop := applyKeepsRow.holds Tryz.pinned (OpenSpec.ofChange applyKeepsWrong)

/-- 'thicketlaw10.ApplyPlays': WHATEVER THE INPUT: true; the input reads as it did. -/
def applyPlaysSpec : ChangeSpec := { name := "applyPlays", fn := fun _ => fun
  | [d1, d2] => { results := [.lit (.bool true)], args := [d1, d2] }
  | _ => none }
def applyPlaysRow : OpenClaim := { program := "ytpfafhmkbcahhaagreat", sum := "7ab5809cc595e722d2fdc6c515ab245b1f2f9de49b9c6e2df5ffef005e1cc755", func := "thicket/thicketlaw10.ApplyPlays", spec := "applyPlays", unfollowed := true, recurses := true, plainKeys := false, apart := false }
def ApplyPlaysSaid : Prop := applyPlaysRow.holds Tryz.pinned (OpenSpec.ofChange applyPlaysSpec)

/-- ITS FALSE NEIGHBOUR: 'it returns false'. Refute it at one input. -/
def applyPlaysWrong : ChangeSpec := { name := "applyPlays", fn := fun _ => fun
  | [d1, d2] => { results := [.lit (.bool false)], args := [d1, d2] }
  | _ => none }
def ApplyPlaysWrongFalsely : Prop := applyPlaysRow.holds Tryz.pinned (OpenSpec.ofChange applyPlaysWrong)

/-- 'thicketlaw17.SiftQueues': WHATEVER THE INPUT: true; the input reads as it did. -/
def siftQueuesSpec : ChangeSpec := { name := "siftQueues", fn := fun _ => fun
  | [d] => { results := [.lit (.bool true)], args := [d] }
  | _ => none }
def siftQueuesRow : OpenClaim := { program := "ytpfafhmkbcahhaagreat", sum := "7ab5809cc595e722d2fdc6c515ab245b1f2f9de49b9c6e2df5ffef005e1cc755", func := "thicket/thicketlaw17.SiftQueues", spec := "siftQueues", unfollowed := true, recurses := true, plainKeys := false, apart := false }
def SiftQueuesSaid : Prop := siftQueuesRow.holds Tryz.pinned (OpenSpec.ofChange siftQueuesSpec)

/-- ITS FALSE NEIGHBOUR: 'it returns false'. Refute it at one input. -/
def siftQueuesWrong : ChangeSpec := { name := "siftQueues", fn := fun _ => fun
  | [d] => { results := [.lit (.bool false)], args := [d] }
  | _ => none }
def SiftQueuesWrongFalsely : Prop := siftQueuesRow.holds Tryz.pinned (OpenSpec.ofChange siftQueuesWrong)

/-- 'thicketlaw17.SiftAlls': WHATEVER THE INPUT: true; the input reads as it did. -/
def siftAllsSpec : ChangeSpec := { name := "siftAlls", fn := fun _ => fun
  | [d1, d2] => { results := [.lit (.bool true)], args := [d1, d2] }
  | _ => none }
def siftAllsRow : OpenClaim := { program := "ytpfafhmkbcahhaagreat", sum := "7ab5809cc595e722d2fdc6c515ab245b1f2f9de49b9c6e2df5ffef005e1cc755", func := "thicket/thicketlaw17.SiftAlls", spec := "siftAlls", unfollowed := true, recurses := true, plainKeys := false, apart := false }
def SiftAllsSaid : Prop := siftAllsRow.holds Tryz.pinned (OpenSpec.ofChange siftAllsSpec)

/-- ITS FALSE NEIGHBOUR: 'it returns false'. Refute it at one input. -/
def siftAllsWrong : ChangeSpec := { name := "siftAlls", fn := fun _ => fun
  | [d1, d2] => { results := [.lit (.bool false)], args := [d1, d2] }
  | _ => none }
def SiftAllsWrongFalsely : Prop := siftAllsRow.holds Tryz.pinned (OpenSpec.ofChange siftAllsWrong)

/-- 'thicketlaw17.SiftBack': WHATEVER THE INPUT: true; the input reads as it did. -/
def siftBackSpec : ChangeSpec := { name := "siftBack", fn := fun _ => fun
  | [d1, d2] => { results := [.lit (.bool true)], args := [d1, d2] }
  | _ => none }
def siftBackRow : OpenClaim := { program := "ytpfafhmkbcahhaagreat", sum := "7ab5809cc595e722d2fdc6c515ab245b1f2f9de49b9c6e2df5ffef005e1cc755", func := "thicket/thicketlaw17.SiftBack", spec := "siftBack", unfollowed := true, recurses := true, plainKeys := false, apart := false }
def SiftBackSaid : Prop := siftBackRow.holds Tryz.pinned (OpenSpec.ofChange siftBackSpec)

/-- ITS FALSE NEIGHBOUR: 'it returns false'. Refute it at one input. -/
def siftBackWrong : ChangeSpec := { name := "siftBack", fn := fun _ => fun
  | [d1, d2] => { results := [.lit (.bool false)], args := [d1, d2] }
  | _ => none }
def SiftBackWrongFalsely : Prop := siftBackRow.holds Tryz.pinned (OpenSpec.ofChange siftBackWrong)

/-- 'thicketlaw17.SiftSettles': WHATEVER THE INPUT: true; the input reads as it did. -/
def siftSettlesSpec : ChangeSpec := { name := "siftSettles", fn := fun _ => fun
  | [d1, d2] => { results := [.lit (.bool true)], args := [d1, d2] }
  | _ => none }
def siftSettlesRow : OpenClaim := { program := "ytpfafhmkbcahhaagreat", sum := "7ab5809cc595e722d2fdc6c515ab245b1f2f9de49b9c6e2df5ffef005e1cc755", func := "thicket/thicketlaw17.SiftSettles", spec := "siftSettles", unfollowed := true, recurses := true, plainKeys := false, apart := false }
def SiftSettlesSaid : Prop := siftSettlesRow.holds Tryz.pinned (OpenSpec.ofChange siftSettlesSpec)

/-- ITS FALSE NEIGHBOUR: 'it returns false'. Refute it at one input. -/
def siftSettlesWrong : ChangeSpec := { name := "siftSettles", fn := fun _ => fun
  | [d1, d2] => { results := [.lit (.bool false)], args := [d1, d2] }
  | _ => none }
def SiftSettlesWrongFalsely : Prop := siftSettlesRow.holds Tryz.pinned (OpenSpec.ofChange siftSettlesWrong)

/-- 'thicketlaw17.SiftRefused': WHATEVER THE INPUT: true; the input reads as it did. -/
def siftRefusedSpec : ChangeSpec := { name := "siftRefused", fn := fun _ => fun
  | [d1, d2, d3] => { results := [.lit (.bool true)], args := [d1, d2, d3] }
  | _ => none }
def siftRefusedRow : OpenClaim := { program := "ytpfafhmkbcahhaagreat", sum := "7ab5809cc595e722d2fdc6c515ab245b1f2f9de49b9c6e2df5ffef005e1cc755", func := "thicket/thicketlaw17.SiftRefused", spec := "siftRefused", unfollowed := true, recurses := true, plainKeys := false, apart := false }
def SiftRefusedSaid : Prop := siftRefusedRow.holds Tryz.pinned (OpenSpec.ofChange siftRefusedSpec)

/-- ITS FALSE NEIGHBOUR: 'it returns false'. Refute it at one input. -/
def siftRefusedWrong : ChangeSpec := { name := "siftRefused", fn := fun _ => fun
  | [d1, d2, d3] => { results := [.lit (.bool false)], args := [d1, d2, d3] }
  | _ => none }
def SiftRefusedWrongFalsely : Prop := siftRefusedRow.holds Tryz.pinned (OpenSpec.ofChange siftRefusedWrong)

/-- 'thicketlaw12.CountOrders': WHATEVER THE INPUT: true; the input reads as it did. -/
def countOrdersSpec : ChangeSpec := { name := "countOrders", fn := fun _ => fun
  | [d1, d2, d3] => { results := [.lit (.bool true)], args := [d1, d2, d3] }
  | _ => none }
def countOrdersRow : OpenClaim := { program := "ytpfafhmkbcahhaagreat", sum := "7ab5809cc595e722d2fdc6c515ab245b1f2f9de49b9c6e2df5ffef005e1cc755", func := "thicket/thicketlaw12.CountOrders", spec := "countOrders", unfollowed := true, recurses := true, plainKeys := false, apart := false }
def CountOrdersSaid : Prop := countOrdersRow.holds Tryz.pinned (OpenSpec.ofChange countOrdersSpec)

/-- ITS FALSE NEIGHBOUR: 'it returns false'. Refute it at one input. -/
def countOrdersWrong : ChangeSpec := { name := "countOrders", fn := fun _ => fun
  | [d1, d2, d3] => { results := [.lit (.bool false)], args := [d1, d2, d3] }
  | _ => none }
def CountOrdersWrongFalsely : Prop := countOrdersRow.holds Tryz.pinned (OpenSpec.ofChange countOrdersWrong)

/-- 'thicketlaw14.InteractSupports': WHATEVER THE INPUT: true; the input reads as it did. -/
def interactSupportsSpec : ChangeSpec := { name := "interactSupports", fn := fun _ => fun
  | [d1, d2, d3] => { results := [.lit (.bool true)], args := [d1, d2, d3] }
  | _ => none }
def interactSupportsRow : OpenClaim := { program := "ytpfafhmkbcahhaagreat", sum := "7ab5809cc595e722d2fdc6c515ab245b1f2f9de49b9c6e2df5ffef005e1cc755", func := "thicket/thicketlaw14.InteractSupports", spec := "interactSupports", unfollowed := true, recurses := true, plainKeys := false, apart := false }
def InteractSupportsSaid : Prop := interactSupportsRow.holds Tryz.pinned (OpenSpec.ofChange interactSupportsSpec)

/-- ITS FALSE NEIGHBOUR: 'it returns false'. Refute it at one input. -/
def interactSupportsWrong : ChangeSpec := { name := "interactSupports", fn := fun _ => fun
  | [d1, d2, d3] => { results := [.lit (.bool false)], args := [d1, d2, d3] }
  | _ => none }
def InteractSupportsWrongFalsely : Prop := interactSupportsRow.holds Tryz.pinned (OpenSpec.ofChange interactSupportsWrong)

/-- 'thicketlaw14.InteractFrees': WHATEVER THE INPUT: true; the input reads as it did. -/
def interactFreesSpec : ChangeSpec := { name := "interactFrees", fn := fun _ => fun
  | [d1, d2, d3, d4] => { results := [.lit (.bool true)], args := [d1, d2, d3, d4] }
  | _ => none }
def interactFreesRow : OpenClaim := { program := "ytpfafhmkbcahhaagreat", sum := "7ab5809cc595e722d2fdc6c515ab245b1f2f9de49b9c6e2df5ffef005e1cc755", func := "thicket/thicketlaw14.InteractFrees", spec := "interactFrees", unfollowed := true, recurses := true, plainKeys := false, apart := false }
def InteractFreesSaid : Prop := interactFreesRow.holds Tryz.pinned (OpenSpec.ofChange interactFreesSpec)

/-- ITS FALSE NEIGHBOUR: 'it returns false'. Refute it at one input. -/
def interactFreesWrong : ChangeSpec := { name := "interactFrees", fn := fun _ => fun
  | [d1, d2, d3, d4] => { results := [.lit (.bool false)], args := [d1, d2, d3, d4] }
  | _ => none }
def InteractFreesWrongFalsely : Prop := interactFreesRow.holds Tryz.pinned (OpenSpec.ofChange interactFreesWrong)

/- THE SECOND FORM. 'bulk': how many values and letters a reading holds, each counted each time it is reached (what is shared counts as often as it is met; a slice's spare places count too). A statement '..UptoSaid' is the law's where the arguments, and the package variables that the reading takes, are together of bulk at most 1048576: NARROWER than '..Said'. Prove '..Said' where nothing that the law and all that it calls make is longer than what came in: it says more and counts as full. Else prove '..UptoSaid'. A law counts once. -/
mutual
def uptoBulk {H : Type} : DataW H → Nat
  | .lit (.string bytes) => bytes.length + 1
  | .lit _ => 1
  | .nil => 1
  | .ptr d => uptoBulk d + 1
  | .slice elems spare => uptoBulkAll elems + uptoBulkAll spare + 1
  | .agg parts => uptoBulkAll parts + 1
  | .iface _ d => uptoBulk d + 1
  | .map entries => uptoBulkEntries entries + 1
  | .held _ => 1
def uptoBulkAll {H : Type} : List (DataW H) → Nat
  | [] => 0
  | d :: r => uptoBulk d + uptoBulkAll r
def uptoBulkEntries {H : Type} : List (Lit × DataW H) → Nat
  | [] => 0
  | x :: r => uptoBulkEntry x + uptoBulkEntries r
def uptoBulkEntry {H : Type} : Lit × DataW H → Nat
  | (.string bytes, d) => bytes.length + uptoBulk d + 1
  | (_, d) => uptoBulk d + 1
 end
def uptoSmall : (H : Type) → List (DataW H) → Bool := fun _ ds => decide (uptoBulkAll ds ≤ 1048576)
def OpenSpec.upto (s : _root_.Go.ChangeSpec) : _root_.Go.OpenSpec := { _root_.Go.OpenSpec.ofChange s with cond := some uptoSmall }

/-- 'thicketlaw17.SiftOnes', WHERE WHAT IT READS IS OF BULK AT MOST 1048576: true; the input reads as it did. -/
def siftOnesUptoRow : OpenClaim := { program := "ytpfafhmkbcahhaagreat", sum := "7ab5809cc595e722d2fdc6c515ab245b1f2f9de49b9c6e2df5ffef005e1cc755", func := "thicket/thicketlaw17.SiftOnes", spec := "siftOnes", unfollowed := true, recurses := true, plainKeys := false, apart := false, narrowed := true }
def SiftOnesUptoSaid : Prop := siftOnesUptoRow.holds Tryz.pinned (OpenSpec.upto siftOnesSpec)

/-- 'thicketlaw15.SwapRooms', WHERE WHAT IT READS IS OF BULK AT MOST 1048576: true; the input reads as it did. -/
def swapRoomsUptoRow : OpenClaim := { program := "ytpfafhmkbcahhaagreat", sum := "7ab5809cc595e722d2fdc6c515ab245b1f2f9de49b9c6e2df5ffef005e1cc755", func := "thicket/thicketlaw15.SwapRooms", spec := "swapRooms", unfollowed := true, recurses := true, plainKeys := false, apart := false, narrowed := true }
def SwapRoomsUptoSaid : Prop := swapRoomsUptoRow.holds Tryz.pinned (OpenSpec.upto swapRoomsSpec)

/-- 'thicketlaw10.ApplyKeeps', WHERE WHAT IT READS IS OF BULK AT MOST 1048576: true; the input reads as it did. -/
def applyKeepsUptoRow : OpenClaim := { program := "ytpfafhmkbcahhaagreat", sum := "7ab5809cc595e722d2fdc6c515ab245b1f2f9de49b9c6e2df5ffef005e1cc755", func := "thicket/thicketlaw10.ApplyKeeps", spec := "applyKeeps", unfollowed := true, recurses := true, plainKeys := false, apart := false, narrowed := true }
def ApplyKeepsUptoSaid : Prop := applyKeepsUptoRow.holds Tryz.pinned (OpenSpec.upto applyKeepsSpec)

/-- 'thicketlaw10.ApplyPlays', WHERE WHAT IT READS IS OF BULK AT MOST 1048576: true; the input reads as it did. -/
def applyPlaysUptoRow : OpenClaim := { program := "ytpfafhmkbcahhaagreat", sum := "7ab5809cc595e722d2fdc6c515ab245b1f2f9de49b9c6e2df5ffef005e1cc755", func := "thicket/thicketlaw10.ApplyPlays", spec := "applyPlays", unfollowed := true, recurses := true, plainKeys := false, apart := false, narrowed := true }
def ApplyPlaysUptoSaid : Prop := applyPlaysUptoRow.holds Tryz.pinned (OpenSpec.upto applyPlaysSpec)

/-- 'thicketlaw17.SiftQueues', WHERE WHAT IT READS IS OF BULK AT MOST 1048576: true; the input reads as it did. -/
def siftQueuesUptoRow : OpenClaim := { program := "ytpfafhmkbcahhaagreat", sum := "7ab5809cc595e722d2fdc6c515ab245b1f2f9de49b9c6e2df5ffef005e1cc755", func := "thicket/thicketlaw17.SiftQueues", spec := "siftQueues", unfollowed := true, recurses := true, plainKeys := false, apart := false, narrowed := true }
def SiftQueuesUptoSaid : Prop := siftQueuesUptoRow.holds Tryz.pinned (OpenSpec.upto siftQueuesSpec)

/-- 'thicketlaw17.SiftAlls', WHERE WHAT IT READS IS OF BULK AT MOST 1048576: true; the input reads as it did. -/
def siftAllsUptoRow : OpenClaim := { program := "ytpfafhmkbcahhaagreat", sum := "7ab5809cc595e722d2fdc6c515ab245b1f2f9de49b9c6e2df5ffef005e1cc755", func := "thicket/thicketlaw17.SiftAlls", spec := "siftAlls", unfollowed := true, recurses := true, plainKeys := false, apart := false, narrowed := true }
def SiftAllsUptoSaid : Prop := siftAllsUptoRow.holds Tryz.pinned (OpenSpec.upto siftAllsSpec)

/-- 'thicketlaw17.SiftBack', WHERE WHAT IT READS IS OF BULK AT MOST 1048576: true; the input reads as it did. -/
def siftBackUptoRow : OpenClaim := { program := "ytpfafhmkbcahhaagreat", sum := "7ab5809cc595e722d2fdc6c515ab245b1f2f9de49b9c6e2df5ffef005e1cc755", func := "thicket/thicketlaw17.SiftBack", spec := "siftBack", unfollowed := true, recurses := true, plainKeys := false, apart := false, narrowed := true }
def SiftBackUptoSaid : Prop := siftBackUptoRow.holds Tryz.pinned (OpenSpec.upto siftBackSpec)

/-- 'thicketlaw17.SiftSettles', WHERE WHAT IT READS IS OF BULK AT MOST 1048576: true; the input reads as it did. -/
def siftSettlesUptoRow : OpenClaim := { program := "ytpfafhmkbcahhaagreat", sum := "7ab5809cc595e722d2fdc6c515ab245b1f2f9de49b9c6e2df5ffef005e1cc755", func := "thicket/thicketlaw17.SiftSettles", spec := "siftSettles", unfollowed := true, recurses := true, plainKeys := false, apart := false, narrowed := true }
def SiftSettlesUptoSaid : Prop := siftSettlesUptoRow.holds Tryz.pinned (OpenSpec.upto siftSettlesSpec)

/-- 'thicketlaw17.SiftRefused', WHERE WHAT IT READS IS OF BULK AT MOST 1048576: true; the input reads as it did. -/
def siftRefusedUptoRow : OpenClaim := { program := "ytpfafhmkbcahhaagreat", sum := "7ab5809cc595e722d2fdc6c515ab245b1f2f9de49b9c6e2df5ffef005e1cc755", func := "thicket/thicketlaw17.SiftRefused", spec := "siftRefused", unfollowed := true, recurses := true, plainKeys := false, apart := false, narrowed := true }
def SiftRefusedUptoSaid : Prop := siftRefusedUptoRow.holds Tryz.pinned (OpenSpec.upto siftRefusedSpec)

/-- 'thicketlaw12.CountOrders', WHERE WHAT IT READS IS OF BULK AT MOST 1048576: true; the input reads as it did. -/
def countOrdersUptoRow : OpenClaim := { program := "ytpfafhmkbcahhaagreat", sum := "7ab5809cc595e722d2fdc6c515ab245b1f2f9de49b9c6e2df5ffef005e1cc755", func := "thicket/thicketlaw12.CountOrders", spec := "countOrders", unfollowed := true, recurses := true, plainKeys := false, apart := false, narrowed := true }
def CountOrdersUptoSaid : Prop := countOrdersUptoRow.holds Tryz.pinned (OpenSpec.upto countOrdersSpec)

/-- 'thicketlaw14.InteractSupports', WHERE WHAT IT READS IS OF BULK AT MOST 1048576: true; the input reads as it did. -/
def interactSupportsUptoRow : OpenClaim := { program := "ytpfafhmkbcahhaagreat", sum := "7ab5809cc595e722d2fdc6c515ab245b1f2f9de49b9c6e2df5ffef005e1cc755", func := "thicket/thicketlaw14.InteractSupports", spec := "interactSupports", unfollowed := true, recurses := true, plainKeys := false, apart := false, narrowed := true }
def InteractSupportsUptoSaid : Prop := interactSupportsUptoRow.holds Tryz.pinned (OpenSpec.upto interactSupportsSpec)

/-- 'thicketlaw14.InteractFrees', WHERE WHAT IT READS IS OF BULK AT MOST 1048576: true; the input reads as it did. -/
def interactFreesUptoRow : OpenClaim := { program := "ytpfafhmkbcahhaagreat", sum := "7ab5809cc595e722d2fdc6c515ab245b1f2f9de49b9c6e2df5ffef005e1cc755", func := "thicket/thicketlaw14.InteractFrees", spec := "interactFrees", unfollowed := true, recurses := true, plainKeys := false, apart := false, narrowed := true }
def InteractFreesUptoSaid : Prop := interactFreesUptoRow.holds Tryz.pinned (OpenSpec.upto interactFreesSpec)

end Rows
end Go.Proofs.YtpfafhmkbcahhaaGreat
