import Derived.Test.YtpfafhmkbcahhaaGreatRows
import Derived.Test.YtpfafhmkbcahhaaGreatChecked
import Derived.JoinedOf
namespace Go.Proofs.YtpfafhmkbcahhaaGreat
theorem sift3_q1:(Rows.siftAllsRow.inPlace == Tryz.checked.prog.inPlace 8)=true:=by kernel_rfl
theorem sift3_q2:(Rows.siftAllsRow.unfollowed == Tryz.checked.prog.unfollowed 8)=true:=by kernel_rfl
theorem sift3_q3:(Rows.siftAllsRow.recurses == Tryz.checked.prog.recurses 8)=true:=by kernel_rfl
theorem sift3_q4:(Rows.siftAllsRow.named == Tryz.checked.prog.varsNamed 8)=true:=by kernel_rfl
theorem sift3_q5:laidOutB Tryz.checked.prog=true:=by kernel_rfl
theorem sift3_facts:joinedFacts Tryz.checked.prog 8 Tryz.f8 Rows.siftAllsSpec Rows.siftAllsRow=true:=by
 unfold joinedFacts;rw [sift3_q1,sift3_q2,sift3_q3,sift3_q4,sift3_q5]
 kernel_rfl
end Go.Proofs.YtpfafhmkbcahhaaGreat
