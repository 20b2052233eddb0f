import Derived.Test.YtdackeldhdchaaaGreatRows
import Derived.Test.YtdackeldhdchaaaGreatChecked
import Derived.JoinedOf
namespace Go.Proofs.YtdackeldhdchaaaGreat
theorem yw:(Rows.swapRoomsRow.inPlace == Tryz.checked.prog.inPlace 4)=true:=by kernel_rfl
theorem yx:(Rows.swapRoomsRow.unfollowed == Tryz.checked.prog.unfollowed 4)=true:=by kernel_rfl
theorem yz:(Rows.swapRoomsRow.recurses == Tryz.checked.prog.recurses 4)=true:=by kernel_rfl
theorem yA:(Rows.swapRoomsRow.named == Tryz.checked.prog.varsNamed 4)=true:=by kernel_rfl
theorem yB:laidOutB Tryz.checked.prog=true:=by kernel_rfl
theorem rD:joinedFacts Tryz.checked.prog 4 Tryz.f4 Rows.swapRoomsSpec Rows.swapRoomsRow=true:=by
 unfold joinedFacts;rw [yw,yx,yz,yA,yB]
 kernel_rfl
end Go.Proofs.YtdackeldhdchaaaGreat
