import Derived.Test.YtpfafhmkbcahhaaGreatRows
import Derived.Test.YtpfafhmkbcahhaaGreatChecked
import Derived.JoinedOf
namespace Go.Proofs.YtpfafhmkbcahhaaGreat
theorem sift5_q1:(Rows.siftSettlesRow.inPlace == Tryz.checked.prog.inPlace 10)=true:=by kernel_rfl
theorem sift5_q2:(Rows.siftSettlesRow.unfollowed == Tryz.checked.prog.unfollowed 10)=true:=by kernel_rfl
theorem sift5_q3:(Rows.siftSettlesRow.recurses == Tryz.checked.prog.recurses 10)=true:=by kernel_rfl
theorem sift5_q4:(Rows.siftSettlesRow.named == Tryz.checked.prog.varsNamed 10)=true:=by kernel_rfl
theorem sift5_q5:laidOutB Tryz.checked.prog=true:=by kernel_rfl
theorem sift5_facts:joinedFacts Tryz.checked.prog 10 Tryz.f10 Rows.siftSettlesSpec Rows.siftSettlesRow=true:=by
 unfold joinedFacts;rw [sift5_q1,sift5_q2,sift5_q3,sift5_q4,sift5_q5]
 kernel_rfl
end Go.Proofs.YtpfafhmkbcahhaaGreat
