import Derived.Test.YtpfafhmkbcahhaaGreatRows
import Derived.Test.YtpfafhmkbcahhaaGreatChecked
import Derived.JoinedOf
namespace Go.Proofs.YtpfafhmkbcahhaaGreat
theorem sift1_q1:(Rows.siftOnesRow.inPlace == Tryz.checked.prog.inPlace 3)=true:=by kernel_rfl
theorem sift1_q2:(Rows.siftOnesRow.unfollowed == Tryz.checked.prog.unfollowed 3)=true:=by kernel_rfl
theorem sift1_q3:(Rows.siftOnesRow.recurses == Tryz.checked.prog.recurses 3)=true:=by kernel_rfl
theorem sift1_q4:(Rows.siftOnesRow.named == Tryz.checked.prog.varsNamed 3)=true:=by kernel_rfl
theorem sift1_q5:laidOutB Tryz.checked.prog=true:=by kernel_rfl
theorem sift1_facts:joinedFacts Tryz.checked.prog 3 Tryz.f3 Rows.siftOnesSpec Rows.siftOnesRow=true:=by
  unfold joinedFacts;rw [sift1_q1,sift1_q2,sift1_q3,sift1_q4,sift1_q5]
  kernel_rfl
end Go.Proofs.YtpfafhmkbcahhaaGreat
