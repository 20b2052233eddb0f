import Derived.Test.YtdackeldhdchaaaGreatRows
import Derived.Test.YtdackeldhdchaaaGreatChecked
import Derived.JoinedOf
namespace Go.Proofs.YtdackeldhdchaaaGreat
theorem aEs:(Rows.swapOddRow.inPlace == Tryz.checked.prog.inPlace 6)=true:=by kernel_rfl
theorem aEt:(Rows.swapOddRow.unfollowed == Tryz.checked.prog.unfollowed 6)=true:=by kernel_rfl
theorem aEu:(Rows.swapOddRow.recurses == Tryz.checked.prog.recurses 6)=true:=by kernel_rfl
theorem aEv:(Rows.swapOddRow.named == Tryz.checked.prog.varsNamed 6)=true:=by kernel_rfl
theorem aEz:laidOutB Tryz.checked.prog=true:=by kernel_rfl
theorem azh:joinedFacts Tryz.checked.prog 6 Tryz.f6 Rows.swapOddSpec Rows.swapOddRow=true:=by
 unfold joinedFacts;rw [aEs,aEt,aEu,aEv,aEz]
 kernel_rfl
end Go.Proofs.YtdackeldhdchaaaGreat
