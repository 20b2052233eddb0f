/-
  No cell of these rows narrows 'for every input' (looked for: loops, veiled, ifaces, maps, wideKeys, modest, calm, conditions, laid).
  DERIVED. THE GIVEN ROWS OF THIS SEAT. 8 by the template 'for every input the law returns true; each argument reads behind the call as it read before'; 0 by the template 'total and deterministic' (their statements: YtdackeldhdchaaaGreatTotals.lean).
  GIVEN WITH THE SEED: the statements are not yours to turn. If you find one false, say at which input.
  Laid BY PROGRAM, IN A SANDBOX (cutbox-rows.mjs): the forced cells as the released guide's own fill.sh prints them over the translation 7fdcd4637c01dfc2… (all of the seat's roots in one cut). By AI agents, Wed Nov 11 2026. No macro, syntax, notation, axiom, sorry.
-/
import Derived.Test.YtdackeldhdchaaaGreatChecked
import GoSem.Claim
import GoSem.ClaimJoined
import GoSem.ClaimMapViews
import Derived.JoinedTies
import Derived.KernelRfl
namespace Go.Proofs.YtdackeldhdchaaaGreat
/- THE CELL 'sum', in the pinned program and in every row, IS THE sha256 OF THE DUMP (.gsa) THAT YtdackeldhdchaaaGreatProg.lean LOADS. Nothing in Lean hashes anything: it is a label: what it is worth is what the hold of that sum in a sandbox is worth. -/
noncomputable def Tryz.pinned : Pinned := { name := "ytdackeldhdchaaagreat", sum := "7fdcd4637c01dfc268fe5b7b15793eb84691c7068c2d3801b613802d64739c2f", checked := Tryz.checked }
namespace Rows
def none {H : Type} : Left H := { results := [], args := [] }

/-- 'thicketlaw15.SwapPlays': WHATEVER THE INPUT: true; the input reads as it did. -/
def swapPlaysSpec : ChangeSpec := { name := "swapPlays", fn := fun _ => fun
  | [d1, d2] => { results := [.lit (.bool true)], args := [d1, d2] }
  | _ => none }
def swapPlaysRow : OpenClaim := { program := "ytdackeldhdchaaagreat", sum := "7fdcd4637c01dfc268fe5b7b15793eb84691c7068c2d3801b613802d64739c2f", func := "thicket/thicketlaw15.SwapPlays", spec := "swapPlays", unfollowed := true, recurses := true, plainKeys := false, apart := false }
def SwapPlaysSaid : Prop := swapPlaysRow.holds Tryz.pinned (OpenSpec.ofChange swapPlaysSpec)

/-- ITS FALSE NEIGHBOUR: 'it returns false'. Refute it at one input. -/
def swapPlaysWrong : ChangeSpec := { name := "swapPlays", fn := fun _ => fun
  | [d1, d2] => { results := [.lit (.bool false)], args := [d1, d2] }
  | _ => none }
def SwapPlaysWrongFalsely : Prop := swapPlaysRow.holds Tryz.pinned (OpenSpec.ofChange swapPlaysWrong)

/-- 'thicketlaw15.SwapRooms': WHATEVER THE INPUT: true; the input reads as it did. -/
def swapRoomsSpec : ChangeSpec := { name := "swapRooms", fn := fun _ => fun
  | [d] => { results := [.lit (.bool true)], args := [d] }
  | _ => none }
def swapRoomsRow : OpenClaim := { program := "ytdackeldhdchaaagreat", sum := "7fdcd4637c01dfc268fe5b7b15793eb84691c7068c2d3801b613802d64739c2f", func := "thicket/thicketlaw15.SwapRooms", spec := "swapRooms", unfollowed := true, recurses := true, plainKeys := false, apart := false }
def SwapRoomsSaid : Prop := swapRoomsRow.holds Tryz.pinned (OpenSpec.ofChange swapRoomsSpec)

/-- ITS FALSE NEIGHBOUR: 'it returns false'. Refute it at one input. -/
def swapRoomsWrong : ChangeSpec := { name := "swapRooms", fn := fun _ => fun
  | [d] => { results := [.lit (.bool false)], args := [d] }
  | _ => none }
def SwapRoomsWrongFalsely : Prop := swapRoomsRow.holds Tryz.pinned (OpenSpec.ofChange swapRoomsWrong)

/-- 'thicketlaw15.SwapEdge': WHATEVER THE INPUT: true; the input reads as it did. -/
def swapEdgeSpec : ChangeSpec := { name := "swapEdge", fn := fun _ => fun
  | [d1, d2] => { results := [.lit (.bool true)], args := [d1, d2] }
  | _ => none }
def swapEdgeRow : OpenClaim := { program := "ytdackeldhdchaaagreat", sum := "7fdcd4637c01dfc268fe5b7b15793eb84691c7068c2d3801b613802d64739c2f", func := "thicket/thicketlaw15.SwapEdge", spec := "swapEdge", unfollowed := true, recurses := true, plainKeys := false, apart := false }
def SwapEdgeSaid : Prop := swapEdgeRow.holds Tryz.pinned (OpenSpec.ofChange swapEdgeSpec)

/-- ITS FALSE NEIGHBOUR: 'it returns false'. Refute it at one input. -/
def swapEdgeWrong : ChangeSpec := { name := "swapEdge", fn := fun _ => fun
  | [d1, d2] => { results := [.lit (.bool false)], args := [d1, d2] }
  | _ => none }
def SwapEdgeWrongFalsely : Prop := swapEdgeRow.holds Tryz.pinned (OpenSpec.ofChange swapEdgeWrong)

/-- 'thicketlaw15.SwapOdd': WHATEVER THE INPUT: true; the input reads as it did. -/
def swapOddSpec : ChangeSpec := { name := "swapOdd", fn := fun _ => fun
  | [d1, d2, d3] => { results := [.lit (.bool true)], args := [d1, d2, d3] }
  | _ => none }
def swapOddRow : OpenClaim := { program := "ytdackeldhdchaaagreat", sum := "7fdcd4637c01dfc268fe5b7b15793eb84691c7068c2d3801b613802d64739c2f", func := "thicket/thicketlaw15.SwapOdd", spec := "swapOdd", unfollowed := true, recurses := true, plainKeys := false, apart := false }
def SwapOddSaid : Prop := swapOddRow.holds Tryz.pinned (OpenSpec.ofChange swapOddSpec)

/-- ITS FALSE NEIGHBOUR: 'it returns false'. Refute it at one input. -/
def swapOddWrong : ChangeSpec := { name := "swapOdd", fn := fun _ => fun
  | [d1, d2, d3] => { results := [.lit (.bool false)], args := [d1, d2, d3] }
  | _ => none }
def SwapOddWrongFalsely : Prop := swapOddRow.holds Tryz.pinned (OpenSpec.ofChange swapOddWrong)

/-- 'thicketlaw10.ApplyWide': WHATEVER THE INPUT: true; the input reads as it did. -/
def applyWideSpec : ChangeSpec := { name := "applyWide", fn := fun _ => fun
  | [d] => { results := [.lit (.bool true)], args := [d] }
  | _ => none }
def applyWideRow : OpenClaim := { program := "ytdackeldhdchaaagreat", sum := "7fdcd4637c01dfc268fe5b7b15793eb84691c7068c2d3801b613802d64739c2f", func := "thicket/thicketlaw10.ApplyWide", spec := "applyWide", unfollowed := true, recurses := true, plainKeys := false, apart := false }
def ApplyWideSaid : Prop := applyWideRow.holds Tryz.pinned (OpenSpec.ofChange applyWideSpec)

/-- ITS FALSE NEIGHBOUR: 'it returns false'. Refute it at one input. -/
def applyWideWrong : ChangeSpec := { name := "applyWide", fn := fun _ => fun
  | [d] => { results := [.lit (.bool false)], args := [d] }
  | _ => none }
def ApplyWideWrongFalsely : Prop := applyWideRow.holds Tryz.pinned (OpenSpec.ofChange applyWideWrong)

/-- 'thicketlaw10.ApplyPlays': WHATEVER THE INPUT: true; the input reads as it did. -/
def applyPlaysSpec : ChangeSpec := { name := "applyPlays", fn := fun _ => fun
  | [d1, d2] => { results := [.lit (.bool true)], args := [d1, d2] }
  | _ => none }
def applyPlaysRow : OpenClaim := { program := "ytdackeldhdchaaagreat", sum := "7fdcd4637c01dfc268fe5b7b15793eb84691c7068c2d3801b613802d64739c2f", func := "thicket/thicketlaw10.ApplyPlays", spec := "applyPlays", unfollowed := true, recurses := true, plainKeys := false, apart := false }
def ApplyPlaysSaid : Prop := applyPlaysRow.holds Tryz.pinned (OpenSpec.ofChange applyPlaysSpec)

/-- ITS FALSE NEIGHBOUR: 'it returns false'. Refute it at one input. -/
def applyPlaysWrong : ChangeSpec := { name := "applyPlays", fn := fun _ => fun
  | [d1, d2] => { results := [.lit (.bool false)], args := [d1, d2] }
  | _ => none }
def ApplyPlaysWrongFalsely : Prop := applyPlaysRow.holds Tryz.pinned (OpenSpec.ofChange applyPlaysWrong)

/-- 'thicketlaw17.SiftBest': WHATEVER THE INPUT: true; the input reads as it did. -/
def siftBestSpec : ChangeSpec := { name := "siftBest", fn := fun _ => fun
  | [d1, d2, d3] => { results := [.lit (.bool true)], args := [d1, d2, d3] }
  | _ => none }
def siftBestRow : OpenClaim := { program := "ytdackeldhdchaaagreat", sum := "7fdcd4637c01dfc268fe5b7b15793eb84691c7068c2d3801b613802d64739c2f", func := "thicket/thicketlaw17.SiftBest", spec := "siftBest", unfollowed := true, recurses := true, plainKeys := false, apart := false }
def SiftBestSaid : Prop := siftBestRow.holds Tryz.pinned (OpenSpec.ofChange siftBestSpec)

/-- ITS FALSE NEIGHBOUR: 'it returns false'. Refute it at one input. -/
def siftBestWrong : ChangeSpec := { name := "siftBest", fn := fun _ => fun
  | [d1, d2, d3] => { results := [.lit (.bool false)], args := [d1, d2, d3] }
  | _ => none }
def SiftBestWrongFalsely : Prop := siftBestRow.holds Tryz.pinned (OpenSpec.ofChange siftBestWrong)

/-- 'thicketlaw17.SiftGains': WHATEVER THE INPUT: true; the input reads as it did. -/
def siftGainsSpec : ChangeSpec := { name := "siftGains", fn := fun _ => fun
  | [d1, d2, d3, d4, d5, d6] => { results := [.lit (.bool true)], args := [d1, d2, d3, d4, d5, d6] }
  | _ => none }
def siftGainsRow : OpenClaim := { program := "ytdackeldhdchaaagreat", sum := "7fdcd4637c01dfc268fe5b7b15793eb84691c7068c2d3801b613802d64739c2f", func := "thicket/thicketlaw17.SiftGains", spec := "siftGains", unfollowed := true, recurses := true, plainKeys := false, apart := false }
def SiftGainsSaid : Prop := siftGainsRow.holds Tryz.pinned (OpenSpec.ofChange siftGainsSpec)

/-- ITS FALSE NEIGHBOUR: 'it returns false'. Refute it at one input. -/
def siftGainsWrong : ChangeSpec := { name := "siftGains", fn := fun _ => fun
  | [d1, d2, d3, d4, d5, d6] => { results := [.lit (.bool false)], args := [d1, d2, d3, d4, d5, d6] }
  | _ => none }
def SiftGainsWrongFalsely : Prop := siftGainsRow.holds Tryz.pinned (OpenSpec.ofChange siftGainsWrong)

/- THE SECOND FORM. 'bulk': how many values and letters a reading holds, each counted each time it is reached (what is shared counts as often as it is met; a slice's spare places count too). A statement '..UptoSaid' is the law's where the arguments, and the package variables that the reading takes, are together of bulk at most 1048576: NARROWER than '..Said'. Prove '..Said' where nothing that the law and all that it calls make is longer than what came in: it says more and counts as full. Else prove '..UptoSaid'. A law counts once. -/
mutual
def uptoBulk {H : Type} : DataW H → Nat
  | .lit (.string bytes) => bytes.length + 1
  | .lit _ => 1
  | .nil => 1
  | .ptr d => uptoBulk d + 1
  | .slice elems spare => uptoBulkAll elems + uptoBulkAll spare + 1
  | .agg parts => uptoBulkAll parts + 1
  | .iface _ d => uptoBulk d + 1
  | .map entries => uptoBulkEntries entries + 1
  | .held _ => 1
def uptoBulkAll {H : Type} : List (DataW H) → Nat
  | [] => 0
  | d :: r => uptoBulk d + uptoBulkAll r
def uptoBulkEntries {H : Type} : List (Lit × DataW H) → Nat
  | [] => 0
  | x :: r => uptoBulkEntry x + uptoBulkEntries r
def uptoBulkEntry {H : Type} : Lit × DataW H → Nat
  | (.string bytes, d) => bytes.length + uptoBulk d + 1
  | (_, d) => uptoBulk d + 1
 end
def uptoSmall : (H : Type) → List (DataW H) → Bool := fun _ ds => decide (uptoBulkAll ds ≤ 1048576)
def OpenSpec.upto (s : _root_.Go.ChangeSpec) : _root_.Go.OpenSpec := { _root_.Go.OpenSpec.ofChange s with cond := some uptoSmall }

/-- 'thicketlaw15.SwapPlays', WHERE WHAT IT READS IS OF BULK AT MOST 1048576: true; the input reads as it did. -/
def swapPlaysUptoRow : OpenClaim := { program := "ytdackeldhdchaaagreat", sum := "7fdcd4637c01dfc268fe5b7b15793eb84691c7068c2d3801b613802d64739c2f", func := "thicket/thicketlaw15.SwapPlays", spec := "swapPlays", unfollowed := true, recurses := true, plainKeys := false, apart := false, narrowed := true }
def SwapPlaysUptoSaid : Prop := swapPlaysUptoRow.holds Tryz.pinned (OpenSpec.upto swapPlaysSpec)

/-- 'thicketlaw15.SwapRooms', WHERE WHAT IT READS IS OF BULK AT MOST 1048576: true; the input reads as it did. -/
def swapRoomsUptoRow : OpenClaim := { program := "ytdackeldhdchaaagreat", sum := "7fdcd4637c01dfc268fe5b7b15793eb84691c7068c2d3801b613802d64739c2f", func := "thicket/thicketlaw15.SwapRooms", spec := "swapRooms", unfollowed := true, recurses := true, plainKeys := false, apart := false, narrowed := true }
def SwapRoomsUptoSaid : Prop := swapRoomsUptoRow.holds Tryz.pinned (OpenSpec.upto swapRoomsSpec)

/-- 'thicketlaw15.SwapEdge', WHERE WHAT IT READS IS OF BULK AT MOST 1048576: true; the input reads as it did. -/
def swapEdgeUptoRow : OpenClaim := { program := "ytdackeldhdchaaagreat", sum := "7fdcd4637c01dfc268fe5b7b15793eb84691c7068c2d3801b613802d64739c2f", func := "thicket/thicketlaw15.SwapEdge", spec := "swapEdge", unfollowed := true, recurses := true, plainKeys := false, apart := false, narrowed := true }
def SwapEdgeUptoSaid : Prop := swapEdgeUptoRow.holds Tryz.pinned (OpenSpec.upto swapEdgeSpec)

/-- 'thicketlaw15.SwapOdd', WHERE WHAT IT READS IS OF BULK AT MOST 1048576: true; the input reads as it did. -/
def swapOddUptoRow : OpenClaim := { program := "ytdackeldhdchaaagreat", sum := "7fdcd4637c01dfc268fe5b7b15793eb84691c7068c2d3801b613802d64739c2f", func := "thicket/thicketlaw15.SwapOdd", spec := "swapOdd", unfollowed := true, recurses := true, plainKeys := false, apart := false, narrowed := true }
def SwapOddUptoSaid : Prop := swapOddUptoRow.holds Tryz.pinned (OpenSpec.upto swapOddSpec)

/-- 'thicketlaw10.ApplyWide', WHERE WHAT IT READS IS OF BULK AT MOST 1048576: true; the input reads as it did. -/
def applyWideUptoRow : OpenClaim := { program := "ytdackeldhdchaaagreat", sum := "7fdcd4637c01dfc268fe5b7b15793eb84691c7068c2d3801b613802d64739c2f", func := "thicket/thicketlaw10.ApplyWide", spec := "applyWide", unfollowed := true, recurses := true, plainKeys := false, apart := false, narrowed := true }
def ApplyWideUptoSaid : Prop := applyWideUptoRow.holds Tryz.pinned (OpenSpec.upto applyWideSpec)

/-- 'thicketlaw10.ApplyPlays', WHERE WHAT IT READS IS OF BULK AT MOST 1048576: true; the input reads as it did. -/
def applyPlaysUptoRow : OpenClaim := { program := "ytdackeldhdchaaagreat", sum := "7fdcd4637c01dfc268fe5b7b15793eb84691c7068c2d3801b613802d64739c2f", func := "thicket/thicketlaw10.ApplyPlays", spec := "applyPlays", unfollowed := true, recurses := true, plainKeys := false, apart := false, narrowed := true }
def ApplyPlaysUptoSaid : Prop := applyPlaysUptoRow.holds Tryz.pinned (OpenSpec.upto applyPlaysSpec)

/-- 'thicketlaw17.SiftBest', WHERE WHAT IT READS IS OF BULK AT MOST 1048576: true; the input reads as it did. -/
def siftBestUptoRow : OpenClaim := { program := "ytdackeldhdchaaagreat", sum := "7fdcd4637c01dfc268fe5b7b15793eb84691c7068c2d3801b613802d64739c2f", func := "thicket/thicketlaw17.SiftBest", spec := "siftBest", unfollowed := true, recurses := true, plainKeys := false, apart := false, narrowed := true }
def SiftBestUptoSaid : Prop := siftBestUptoRow.holds Tryz.pinned (OpenSpec.upto siftBestSpec)

/-- 'thicketlaw17.SiftGains', WHERE WHAT IT READS IS OF BULK AT MOST 1048576: true; the input reads as it did. -/
def siftGainsUptoRow : OpenClaim := { program := "ytdackeldhdchaaagreat", sum := "7fdcd4637c01dfc268fe5b7b15793eb84691c7068c2d3801b613802d64739c2f", func := "thicket/thicketlaw17.SiftGains", spec := "siftGains", unfollowed := true, recurses := true, plainKeys := false, apart := false, narrowed := true }
def SiftGainsUptoSaid : Prop := siftGainsUptoRow.holds Tryz.pinned (OpenSpec.upto siftGainsSpec)

end Rows
end Go.Proofs.YtdackeldhdchaaaGreat
