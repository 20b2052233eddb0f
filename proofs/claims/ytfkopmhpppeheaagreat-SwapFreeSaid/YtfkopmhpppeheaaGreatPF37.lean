import Derived.Test.YtfkopmhpppeheaaGreatRows
import Derived.Test.YtfkopmhpppeheaaGreatChecked
import Derived.JoinedOf
namespace Go.Proofs.YtfkopmhpppeheaaGreat
theorem swapFreeC_q1:(Rows.swapFreeRow.inPlace == Tryz.checked.prog.inPlace 10)=true:=by kernel_rfl
theorem swapFreeC_q2:(Rows.swapFreeRow.unfollowed == Tryz.checked.prog.unfollowed 10)=true:=by kernel_rfl
theorem swapFreeC_q3:(Rows.swapFreeRow.recurses == Tryz.checked.prog.recurses 10)=true:=by kernel_rfl
theorem swapFreeC_q4:(Rows.swapFreeRow.named == Tryz.checked.prog.varsNamed 10)=true:=by kernel_rfl
theorem swapFreeC_q5:laidOutB Tryz.checked.prog=true:=by kernel_rfl
theorem swapFreeC_facts:joinedFacts Tryz.checked.prog 10 Tryz.f10 Rows.swapFreeSpec Rows.swapFreeRow=true:=by
 unfold joinedFacts;rw [swapFreeC_q1,swapFreeC_q2,swapFreeC_q3,swapFreeC_q4,swapFreeC_q5]
 kernel_rfl
end Go.Proofs.YtfkopmhpppeheaaGreat
