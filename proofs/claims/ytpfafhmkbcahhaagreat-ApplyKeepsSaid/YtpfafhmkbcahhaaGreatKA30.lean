import Derived.Test.YtpfafhmkbcahhaaGreatRows
import Derived.Test.YtpfafhmkbcahhaaGreatChecked
import Derived.JoinedOf
namespace Go.Proofs.YtpfafhmkbcahhaaGreat
theorem applyKeepsC_q1:(Rows.applyKeepsRow.inPlace == Tryz.checked.prog.inPlace 5)=true:=by kernel_rfl
theorem applyKeepsC_q2:(Rows.applyKeepsRow.unfollowed == Tryz.checked.prog.unfollowed 5)=true:=by kernel_rfl
theorem applyKeepsC_q3:(Rows.applyKeepsRow.recurses == Tryz.checked.prog.recurses 5)=true:=by kernel_rfl
theorem applyKeepsC_q4:(Rows.applyKeepsRow.named == Tryz.checked.prog.varsNamed 5)=true:=by kernel_rfl
theorem applyKeepsC_q5:laidOutB Tryz.checked.prog=true:=by kernel_rfl
theorem applyKeepsC_facts:joinedFacts Tryz.checked.prog 5 Tryz.f5 Rows.applyKeepsSpec Rows.applyKeepsRow=true:=by
 unfold joinedFacts;rw [applyKeepsC_q1,applyKeepsC_q2,applyKeepsC_q3,applyKeepsC_q4,applyKeepsC_q5]
 kernel_rfl
end Go.Proofs.YtpfafhmkbcahhaaGreat
