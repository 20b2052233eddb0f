import Derived.Test.YtfkopmhpppeheaaGreatRows
import Derived.Test.YtfkopmhpppeheaaGreatChecked
import Derived.JoinedOf
namespace Go.Proofs.YtfkopmhpppeheaaGreat
theorem countKeepsC_q1:(Rows.countKeepsRow.inPlace == Tryz.checked.prog.inPlace 12)=true:=by kernel_rfl
theorem countKeepsC_q2:(Rows.countKeepsRow.unfollowed == Tryz.checked.prog.unfollowed 12)=true:=by kernel_rfl
theorem countKeepsC_q3:(Rows.countKeepsRow.recurses == Tryz.checked.prog.recurses 12)=true:=by kernel_rfl
theorem countKeepsC_q4:(Rows.countKeepsRow.named == Tryz.checked.prog.varsNamed 12)=true:=by kernel_rfl
theorem countKeepsC_q5:laidOutB Tryz.checked.prog=true:=by kernel_rfl
theorem countKeepsC_facts:joinedFacts Tryz.checked.prog 12 Tryz.f12 Rows.countKeepsSpec Rows.countKeepsRow=true:=by
 unfold joinedFacts;rw [countKeepsC_q1,countKeepsC_q2,countKeepsC_q3,countKeepsC_q4,countKeepsC_q5]
 kernel_rfl
end Go.Proofs.YtfkopmhpppeheaaGreat
