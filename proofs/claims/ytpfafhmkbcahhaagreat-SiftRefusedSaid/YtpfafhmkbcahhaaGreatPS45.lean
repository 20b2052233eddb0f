import Derived.Test.YtpfafhmkbcahhaaGreatRows
import Derived.Test.YtpfafhmkbcahhaaGreatChecked
import Derived.JoinedOf
namespace Go.Proofs.YtpfafhmkbcahhaaGreat
theorem sift6_q1:(Rows.siftRefusedRow.inPlace == Tryz.checked.prog.inPlace 11)=true:=by kernel_rfl
theorem sift6_q2:(Rows.siftRefusedRow.unfollowed == Tryz.checked.prog.unfollowed 11)=true:=by kernel_rfl
theorem sift6_q3:(Rows.siftRefusedRow.recurses == Tryz.checked.prog.recurses 11)=true:=by kernel_rfl
theorem sift6_q4:(Rows.siftRefusedRow.named == Tryz.checked.prog.varsNamed 11)=true:=by kernel_rfl
theorem sift6_q5:laidOutB Tryz.checked.prog=true:=by kernel_rfl
theorem sift6_facts:joinedFacts Tryz.checked.prog 11 Tryz.f11 Rows.siftRefusedSpec Rows.siftRefusedRow=true:=by
  unfold joinedFacts;rw [sift6_q1,sift6_q2,sift6_q3,sift6_q4,sift6_q5]
  kernel_rfl
end Go.Proofs.YtpfafhmkbcahhaaGreat
