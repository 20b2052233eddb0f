import Derived.Test.YtlkgkojidclncaaGreatRows
import Derived.Test.YtlkgkojidclncaaGreatChecked
import Derived.JoinedOf
namespace Go.Proofs.YtlkgkojidclncaaGreat
theorem countWalksC_q1:(Rows.countWalksRow.inPlace == Tryz.checked.prog.inPlace 7)=true:=by kernel_rfl
theorem countWalksC_q2:(Rows.countWalksRow.unfollowed == Tryz.checked.prog.unfollowed 7)=true:=by kernel_rfl
theorem countWalksC_q3:(Rows.countWalksRow.recurses == Tryz.checked.prog.recurses 7)=true:=by kernel_rfl
theorem countWalksC_q4:(Rows.countWalksRow.named == Tryz.checked.prog.varsNamed 7)=true:=by kernel_rfl
theorem countWalksC_q5:laidOutB Tryz.checked.prog=true:=by kernel_rfl
theorem countWalksC_facts:joinedFacts Tryz.checked.prog 7 Tryz.f7 Rows.countWalksSpec Rows.countWalksRow=true:=by
 unfold joinedFacts;rw [countWalksC_q1,countWalksC_q2,countWalksC_q3,countWalksC_q4,countWalksC_q5]
 kernel_rfl
end Go.Proofs.YtlkgkojidclncaaGreat
