import Derived.Test.YtlkgkojidclncaaGreatRows
import Derived.Test.YtlkgkojidclncaaGreatChecked
import Derived.JoinedOf
namespace Go.Proofs.YtlkgkojidclncaaGreat
theorem countRefusedC_q1:(Rows.countRefusedRow.inPlace == Tryz.checked.prog.inPlace 13)=true:=by kernel_rfl
theorem countRefusedC_q2:(Rows.countRefusedRow.unfollowed == Tryz.checked.prog.unfollowed 13)=true:=by kernel_rfl
theorem countRefusedC_q3:(Rows.countRefusedRow.recurses == Tryz.checked.prog.recurses 13)=true:=by kernel_rfl
theorem countRefusedC_q4:(Rows.countRefusedRow.named == Tryz.checked.prog.varsNamed 13)=true:=by kernel_rfl
theorem countRefusedC_q5:laidOutB Tryz.checked.prog=true:=by kernel_rfl
theorem countRefusedC_facts:joinedFacts Tryz.checked.prog 13 Tryz.f13 Rows.countRefusedSpec Rows.countRefusedRow=true:=by
 unfold joinedFacts;rw [countRefusedC_q1,countRefusedC_q2,countRefusedC_q3,countRefusedC_q4,countRefusedC_q5]
 kernel_rfl
end Go.Proofs.YtlkgkojidclncaaGreat
