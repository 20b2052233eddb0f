import Derived.Test.YtdackeldhdchaaaGreatRows
import Derived.Test.YtdackeldhdchaaaGreatChecked
import Derived.JoinedOf
namespace Go.Proofs.YtdackeldhdchaaaGreat
theorem al4:(Rows.swapEdgeRow.inPlace == Tryz.checked.prog.inPlace 5)=true:=by kernel_rfl
theorem al5:(Rows.swapEdgeRow.unfollowed == Tryz.checked.prog.unfollowed 5)=true:=by kernel_rfl
theorem al6:(Rows.swapEdgeRow.recurses == Tryz.checked.prog.recurses 5)=true:=by kernel_rfl
theorem al7:(Rows.swapEdgeRow.named == Tryz.checked.prog.varsNamed 5)=true:=by kernel_rfl
theorem al8:laidOutB Tryz.checked.prog=true:=by kernel_rfl
theorem aiG:joinedFacts Tryz.checked.prog 5 Tryz.f5 Rows.swapEdgeSpec Rows.swapEdgeRow=true:=by
 unfold joinedFacts;rw [al4,al5,al6,al7,al8]
 kernel_rfl
end Go.Proofs.YtdackeldhdchaaaGreat
