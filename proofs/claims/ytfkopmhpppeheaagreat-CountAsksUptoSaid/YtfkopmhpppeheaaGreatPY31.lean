import Derived.Test.YtfkopmhpppeheaaGreatRows
import Derived.Test.YtfkopmhpppeheaaGreatChecked
import Derived.JoinedOf
namespace Go.Proofs.YtfkopmhpppeheaaGreat
theorem countAsksC_q1:(Rows.countAsksUptoRow.inPlace == Tryz.checked.prog.inPlace 11)=true:=by kernel_rfl
theorem countAsksC_q2:(Rows.countAsksUptoRow.unfollowed == Tryz.checked.prog.unfollowed 11)=true:=by kernel_rfl
theorem countAsksC_q3:(Rows.countAsksUptoRow.recurses == Tryz.checked.prog.recurses 11)=true:=by kernel_rfl
theorem countAsksC_q4:(Rows.countAsksUptoRow.named == Tryz.checked.prog.varsNamed 11)=true:=by kernel_rfl
theorem countAsksC_q5:laidOutB Tryz.checked.prog=true:=by kernel_rfl
theorem countAsksC_facts:joinedFacts Tryz.checked.prog 11 Tryz.f11 (Rows.OpenSpec.upto Rows.countAsksSpec).bare Rows.countAsksUptoRow=true:=by
 unfold joinedFacts;rw [countAsksC_q1,countAsksC_q2,countAsksC_q3,countAsksC_q4,countAsksC_q5]
 kernel_rfl
end Go.Proofs.YtfkopmhpppeheaaGreat
