import Derived.Test.YtpfafhmkbcahhaaGreatRows
import Derived.Test.YtpfafhmkbcahhaaGreatChecked
import Derived.JoinedOf
namespace Go.Proofs.YtpfafhmkbcahhaaGreat
theorem countOrdersC_q1:(Rows.countOrdersRow.inPlace == Tryz.checked.prog.inPlace 12)=true:=by kernel_rfl
theorem countOrdersC_q2:(Rows.countOrdersRow.unfollowed == Tryz.checked.prog.unfollowed 12)=true:=by kernel_rfl
theorem countOrdersC_q3:(Rows.countOrdersRow.recurses == Tryz.checked.prog.recurses 12)=true:=by kernel_rfl
theorem countOrdersC_q4:(Rows.countOrdersRow.named == Tryz.checked.prog.varsNamed 12)=true:=by kernel_rfl
theorem countOrdersC_q5:laidOutB Tryz.checked.prog=true:=by kernel_rfl
theorem countOrdersC_facts:joinedFacts Tryz.checked.prog 12 Tryz.f12 Rows.countOrdersSpec Rows.countOrdersRow=true:=by
 unfold joinedFacts;rw [countOrdersC_q1,countOrdersC_q2,countOrdersC_q3,countOrdersC_q4,countOrdersC_q5]
 kernel_rfl
end Go.Proofs.YtpfafhmkbcahhaaGreat
