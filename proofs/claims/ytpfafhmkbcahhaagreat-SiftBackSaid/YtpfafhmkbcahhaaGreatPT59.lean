import Derived.Test.YtpfafhmkbcahhaaGreatRows
import Derived.Test.YtpfafhmkbcahhaaGreatChecked
import Derived.JoinedOf
namespace Go.Proofs.YtpfafhmkbcahhaaGreat
theorem sift4_q1:(Rows.siftBackRow.inPlace == Tryz.checked.prog.inPlace 9)=true:=by kernel_rfl
theorem sift4_q2:(Rows.siftBackRow.unfollowed == Tryz.checked.prog.unfollowed 9)=true:=by kernel_rfl
theorem sift4_q3:(Rows.siftBackRow.recurses == Tryz.checked.prog.recurses 9)=true:=by kernel_rfl
theorem sift4_q4:(Rows.siftBackRow.named == Tryz.checked.prog.varsNamed 9)=true:=by kernel_rfl
theorem sift4_q5:laidOutB Tryz.checked.prog=true:=by kernel_rfl
theorem sift4_facts:joinedFacts Tryz.checked.prog 9 Tryz.f9 Rows.siftBackSpec Rows.siftBackRow=true:=by
 unfold joinedFacts;rw [sift4_q1,sift4_q2,sift4_q3,sift4_q4,sift4_q5]
 kernel_rfl
end Go.Proofs.YtpfafhmkbcahhaaGreat
