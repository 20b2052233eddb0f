import Derived.Test.YtfkopmhpppeheaaGreatRows
import Derived.Test.YtfkopmhpppeheaaGreatChecked
import Derived.JoinedOf
namespace Go.Proofs.YtfkopmhpppeheaaGreat
theorem EY:(Rows.swapNamesRow.inPlace == Tryz.checked.prog.inPlace 9)=true:=by kernel_rfl
theorem EZ:(Rows.swapNamesRow.unfollowed == Tryz.checked.prog.unfollowed 9)=true:=by kernel_rfl
theorem E5:(Rows.swapNamesRow.recurses == Tryz.checked.prog.recurses 9)=true:=by kernel_rfl
theorem E8:(Rows.swapNamesRow.named == Tryz.checked.prog.varsNamed 9)=true:=by kernel_rfl
theorem Fa:laidOutB Tryz.checked.prog=true:=by kernel_rfl
theorem zl:joinedFacts Tryz.checked.prog 9 Tryz.f9 Rows.swapNamesSpec Rows.swapNamesRow=true:=by
 unfold joinedFacts;rw [EY,EZ,E5,E8,Fa]
 kernel_rfl
end Go.Proofs.YtfkopmhpppeheaaGreat
