import Derived.Test.YtlkgkojidclncaaGreatRows
import Derived.Test.YtlkgkojidclncaaGreatChecked
import Derived.JoinedOf
namespace Go.Proofs.YtlkgkojidclncaaGreat
theorem countAddsC_q1:(Rows.countAddsRow.inPlace == Tryz.checked.prog.inPlace 8)=true:=by kernel_rfl
theorem countAddsC_q2:(Rows.countAddsRow.unfollowed == Tryz.checked.prog.unfollowed 8)=true:=by kernel_rfl
theorem countAddsC_q3:(Rows.countAddsRow.recurses == Tryz.checked.prog.recurses 8)=true:=by kernel_rfl
theorem countAddsC_q4:(Rows.countAddsRow.named == Tryz.checked.prog.varsNamed 8)=true:=by kernel_rfl
theorem countAddsC_q5:laidOutB Tryz.checked.prog=true:=by kernel_rfl
theorem countAddsC_facts:joinedFacts Tryz.checked.prog 8 Tryz.f8 Rows.countAddsSpec Rows.countAddsRow=true:=by
 unfold joinedFacts;rw [countAddsC_q1,countAddsC_q2,countAddsC_q3,countAddsC_q4,countAddsC_q5]
 kernel_rfl
end Go.Proofs.YtlkgkojidclncaaGreat
