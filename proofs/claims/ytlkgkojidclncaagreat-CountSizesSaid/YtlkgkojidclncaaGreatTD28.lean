import Derived.Test.YtlkgkojidclncaaGreatRows
import Derived.Test.YtlkgkojidclncaaGreatChecked
import Derived.JoinedOf
namespace Go.Proofs.YtlkgkojidclncaaGreat
theorem countSizesC_q1:(Rows.countSizesRow.inPlace == Tryz.checked.prog.inPlace 9)=true:=by kernel_rfl
theorem countSizesC_q2:(Rows.countSizesRow.unfollowed == Tryz.checked.prog.unfollowed 9)=true:=by kernel_rfl
theorem countSizesC_q3:(Rows.countSizesRow.recurses == Tryz.checked.prog.recurses 9)=true:=by kernel_rfl
theorem countSizesC_q4:(Rows.countSizesRow.named == Tryz.checked.prog.varsNamed 9)=true:=by kernel_rfl
theorem countSizesC_q5:laidOutB Tryz.checked.prog=true:=by kernel_rfl
theorem countSizesC_facts:joinedFacts Tryz.checked.prog 9 Tryz.f9 Rows.countSizesSpec Rows.countSizesRow=true:=by
 unfold joinedFacts;rw [countSizesC_q1,countSizesC_q2,countSizesC_q3,countSizesC_q4,countSizesC_q5]
 kernel_rfl
end Go.Proofs.YtlkgkojidclncaaGreat
