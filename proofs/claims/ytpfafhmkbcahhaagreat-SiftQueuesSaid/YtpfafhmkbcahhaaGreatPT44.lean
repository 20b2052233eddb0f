import Derived.Test.YtpfafhmkbcahhaaGreatRows
import Derived.Test.YtpfafhmkbcahhaaGreatChecked
import Derived.JoinedOf
namespace Go.Proofs.YtpfafhmkbcahhaaGreat
theorem sift2_q1:(Rows.siftQueuesRow.inPlace == Tryz.checked.prog.inPlace 7)=true:=by kernel_rfl
theorem sift2_q2:(Rows.siftQueuesRow.unfollowed == Tryz.checked.prog.unfollowed 7)=true:=by kernel_rfl
theorem sift2_q3:(Rows.siftQueuesRow.recurses == Tryz.checked.prog.recurses 7)=true:=by kernel_rfl
theorem sift2_q4:(Rows.siftQueuesRow.named == Tryz.checked.prog.varsNamed 7)=true:=by kernel_rfl
theorem sift2_q5:laidOutB Tryz.checked.prog=true:=by kernel_rfl
theorem sift2_facts:joinedFacts Tryz.checked.prog 7 Tryz.f7 Rows.siftQueuesSpec Rows.siftQueuesRow=true:=by
 unfold joinedFacts;rw [sift2_q1,sift2_q2,sift2_q3,sift2_q4,sift2_q5]
 kernel_rfl
end Go.Proofs.YtpfafhmkbcahhaaGreat
