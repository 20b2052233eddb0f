import Derived.Test.YtpfafhmkbcahhaaGreatRows
import Derived.Test.YtpfafhmkbcahhaaGreatChecked
import Derived.JoinedOf
namespace Go.Proofs.YtpfafhmkbcahhaaGreat
theorem interactSupportsC_q1:(Rows.interactSupportsRow.inPlace == Tryz.checked.prog.inPlace 13)=true:=by kernel_rfl
theorem interactSupportsC_q2:(Rows.interactSupportsRow.unfollowed == Tryz.checked.prog.unfollowed 13)=true:=by kernel_rfl
theorem interactSupportsC_q3:(Rows.interactSupportsRow.recurses == Tryz.checked.prog.recurses 13)=true:=by kernel_rfl
theorem interactSupportsC_q4:(Rows.interactSupportsRow.named == Tryz.checked.prog.varsNamed 13)=true:=by kernel_rfl
theorem interactSupportsC_q5:laidOutB Tryz.checked.prog=true:=by kernel_rfl
theorem interactSupportsC_facts:joinedFacts Tryz.checked.prog 13 Tryz.f13 Rows.interactSupportsSpec Rows.interactSupportsRow=true:=by
 unfold joinedFacts;rw [interactSupportsC_q1,interactSupportsC_q2,interactSupportsC_q3,interactSupportsC_q4,interactSupportsC_q5]
 kernel_rfl
end Go.Proofs.YtpfafhmkbcahhaaGreat
