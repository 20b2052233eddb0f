import Derived.Test.YtpfafhmkbcahhaaGreatRows
import Derived.Test.YtpfafhmkbcahhaaGreatChecked
import Derived.JoinedOf
namespace Go.Proofs.YtpfafhmkbcahhaaGreat
theorem interactFreesC_q1:(Rows.interactFreesRow.inPlace == Tryz.checked.prog.inPlace 14)=true:=by kernel_rfl
theorem interactFreesC_q2:(Rows.interactFreesRow.unfollowed == Tryz.checked.prog.unfollowed 14)=true:=by kernel_rfl
theorem interactFreesC_q3:(Rows.interactFreesRow.recurses == Tryz.checked.prog.recurses 14)=true:=by kernel_rfl
theorem interactFreesC_q4:(Rows.interactFreesRow.named == Tryz.checked.prog.varsNamed 14)=true:=by kernel_rfl
theorem interactFreesC_q5:laidOutB Tryz.checked.prog=true:=by kernel_rfl
theorem interactFreesC_facts:joinedFacts Tryz.checked.prog 14 Tryz.f14 Rows.interactFreesSpec Rows.interactFreesRow=true:=by
 unfold joinedFacts;rw [interactFreesC_q1,interactFreesC_q2,interactFreesC_q3,interactFreesC_q4,interactFreesC_q5]
 kernel_rfl
end Go.Proofs.YtpfafhmkbcahhaaGreat
