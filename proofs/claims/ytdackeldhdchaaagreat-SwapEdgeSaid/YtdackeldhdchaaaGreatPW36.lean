/- SwapEdge: for every input the law returns true and changes nothing that was there; no condition. -/
import Derived.Test.YtdackeldhdchaaaGreatPW34
import Derived.Test.YtdackeldhdchaaaGreatPW33
import Derived.Test.YtdackeldhdchaaaGreatPW35
import Derived.WalkKit
import Derived.ProofKit
import Derived.OpenShut
import Derived.ShutString
import Derived.ChangeOld
import Derived.Below
namespace Go.Proofs.YtdackeldhdchaaaGreat.swapEdge
open Go.ChangeShapes Go.WideShapes Go.ChangeAt Go.RowKit
set_option linter.unusedVariables false
theorem walk (sn room:Int) (ta la:Option Addr) (tn tc ln lc:Nat) (Ts:List adt) (Ls:List Int) (a1:Int) (w:World) (hS:al2 w ta la tn tc ln lc Ts Ls) :
  Calls Tryz.prog 5 #[.agg #[.int .i64 sn,.int .i64 room,.slice ta tn tc,.slice la ln lc],.int .i64 a1] w fun e w'=>e=.returned (.bool true)/\Below w.heap.size w w' :=
 (akv sn room ta la tn tc ln lc Ts Ls a1 w hS).mono fun _ _ ⟨h,u⟩=>⟨h,u.os,u.tape,u.output,u.size,fun k hk=>u.block k hk (by simp)⟩
set_option maxRecDepth 100000 in
theorem lifted (os:Os) (started:os.Started) (H:Type) (enc:TypeId × Value->H) :
  ReturnsInHanded {} Tryz.checked os 5 .any (Rows.swapEdgeSpec.pre6 enc Tryz.prog Tryz.f5 Rows.swapEdgeRow.domain false) (Rows.swapEdgeSpec.post enc Tryz.prog Tryz.f5 false true false false):=by
 refine returnsInHanded_of_change (C:=Tryz.checked) ata started (by kernel_rfl) Tryz.func5
  (ChangeSpec.witness6 (enc:=enc) (C:=Tryz.checked) false ⟨#[],#[.agg #[.int .i64 0,.int .i64 0,.slice none 0 0,.slice none 0 0],.int .i64 0],[]⟩ 8 (by kernel_rfl) (by kernel_rfl) (by kernel_rfl) (by kernel_rfl)) ?_
 intro W base args ds gs before awy hW hcnd _
 have ayd:∀ (j:Nat) t v,Tryz.f5.params[j]?=some t->args[j]?=some v->Value.okWide Tryz.prog W .any base t v:=awy;have hW':=hW;obtain ⟨p,q,hA0,hV,rfl,hfz,hnd⟩:=hW;have hA:DataW.TrodAll enc Tryz.prog W 0 (fun _=>true) true Tryz.f5.params.toList args.toList ds p:=hA0;rw [Tryz.params5] at hA ayd;obtain ⟨v0,vs0,d0,ds0,p0,q0,hargs,rfl,rfl,h0,r0⟩:=trodAll_cons hA;obtain ⟨v1,vs1,d1,ds1,p1,q1,rfl,rfl,rfl,h1,r1⟩:=trodAll_cons r0;obtain ⟨rfl,rfl,rfl⟩:=trodAll_nil r1
 obtain rfl:args=#[v0,v1]:=by cases args;simp_all
 obtain ⟨rfl,rfl⟩:=trodVars_none hV;obtain ⟨sn,room,ta,la,tn,tc,ln,lc,Ts,Ls,rfl,hS⟩:=ant (ayd 0 25 v0 rfl rfl) h0;obtain ⟨a1,rfl,rfl,rfl,w1⟩:=open_int Tryz.underlying3 (ayd 1 3 v1 rfl rfl) h1;have k0:=h0
 have lt0:∀ x∈p0,x.block<W.heap.size:=by obtain ⟨m,hm⟩:=k0;exact DataW.trod_lt m _ _ _ hm
 clear hA0 awy
 refine (walk sn room ta la tn tc ln lc Ts Ls a1 W hS).mono fun e W' ⟨he,bel⟩=>?_
 subst he;exact ⟨_,rfl,_,_,_,[],_,[],hW',trodAll_mk1 (shut_bool Tryz.underlying4 _),(trodAll_cons_mk (Below.trod atb (by kernel_rfl) (of_decide_eq_true (by kernel_rfl)) k0 bel lt0) (trodAll_cons_mk (shut_int Tryz.underlying3 w1) trodAll_mk0)),rfl,bel.frame _,fun h=>by cases h⟩
theorem over:Rows.swapEdgeRow.holds Tryz.pinned (OpenSpec.ofChange Rows.swapEdgeSpec) :=
 OpenClaim.holds_of_wide 5 Tryz.f5 rfl rfl rfl rfl rfl rfl rfl ⟨rfl,rfl,rfl,rfl,rfl⟩ rfl rfl rfl rfl rfl (by kernel_rfl) Tryz.func5 aiG
  (of_decide_eq_true (by kernel_rfl)) (by unfold Func.isWrapper;first | (rw [if_pos (by decide +kernel)];kernel_rfl) | (rw [if_neg (by decide +kernel)];exact ⟨rfl,rfl⟩))
  (fun os started H enc _=>lifted os started H enc)
theorem proved:Rows.SwapEdgeSaid:=over
#print axioms proved
end Go.Proofs.YtdackeldhdchaaaGreat.swapEdge
