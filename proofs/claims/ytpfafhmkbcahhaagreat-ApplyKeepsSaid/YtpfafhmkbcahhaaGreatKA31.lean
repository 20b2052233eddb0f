/- ApplyKeeps: for every input the law returns true and changes nothing that was there; no condition. -/
import Derived.Test.YtpfafhmkbcahhaaGreatKA29
import Derived.Test.YtpfafhmkbcahhaaGreatKA26
import Derived.Test.YtpfafhmkbcahhaaGreatKA30
import Derived.WalkKit
import Derived.ProofKit
import Derived.OpenShut
import Derived.ShutString
import Derived.ChangeOld
import Derived.Below
namespace Go.Proofs.YtpfafhmkbcahhaaGreat.applyKeeps
open Go.ChangeShapes Go.WideShapes Go.ChangeAt Go.RowKit
set_option linter.unusedVariables false
theorem walk (sn room:Int) (la wa:Option Addr) (ln lc wn wk:Nat) (Ls Ws:List Int) (va:Option Addr) (vn vc:Nat) (Vs:List Int) (a2:Bool) (w:World) (hL:RowOf w .i64 la ln Ls) (hW:RowOf w .u64 wa wn Ws) (hU:∀ x,x∈Ws->U64 x) (hV:RowOf w .i64 va vn Vs) :
  Calls Tryz.prog 5 #[.agg #[.int .i64 sn,.int .i64 room,.slice la ln lc,.slice wa wn wk],.slice va vn vc,.bool a2] w fun e w'=>e=.returned (.bool true)/\Below w.heap.size w w' :=
 (applyKeeps_walk sn room a2 la wa va ln lc wn wk vn vc Ls Ws Vs w hL hW hU hV).mono fun _ _ ⟨h,u⟩=>⟨h,u.os,u.tape,u.output,u.size,fun k hk=>u.block k hk (by simp)⟩
set_option maxRecDepth 100000 in
theorem lifted (os:Os) (started:os.Started) (H:Type) (enc:TypeId × Value->H) :
  ReturnsInHanded {} Tryz.checked os 5 .any (Rows.applyKeepsSpec.pre6 enc Tryz.prog Tryz.f5 Rows.applyKeepsRow.domain false) (Rows.applyKeepsSpec.post enc Tryz.prog Tryz.f5 false true false false):=by
 refine returnsInHanded_of_change (C:=Tryz.checked) own_knob started (by kernel_rfl) Tryz.func5
  (ChangeSpec.witness6 (enc:=enc) (C:=Tryz.checked) false ⟨#[],#[.agg #[.int .i64 0,.int .i64 0,.slice none 0 0,.slice none 0 0],.slice none 0 0,.bool false],[]⟩ 8 (by kernel_rfl) (by kernel_rfl) (by kernel_rfl) (by kernel_rfl)) ?_
 intro W base args ds gs before hval0 hW hcnd _
 have hval:∀ (j:Nat) t v,Tryz.f5.params[j]?=some t->args[j]?=some v->Value.okWide Tryz.prog W .any base t v:=hval0;have hW':=hW;obtain ⟨p,q,hA0,hV,rfl,hfz,hnd⟩:=hW;have hA:DataW.TrodAll enc Tryz.prog W 0 (fun _=>true) true Tryz.f5.params.toList args.toList ds p:=hA0;rw [Tryz.params5] at hA hval;obtain ⟨v0,vs0,d0,ds0,p0,q0,hargs,rfl,rfl,h0,r0⟩:=trodAll_cons hA;obtain ⟨v1,vs1,d1,ds1,p1,q1,rfl,rfl,rfl,h1,r1⟩:=trodAll_cons r0;obtain ⟨v2,vs2,d2,ds2,p2,q2,rfl,rfl,rfl,h2,r2⟩:=trodAll_cons r1;obtain ⟨rfl,rfl,rfl⟩:=trodAll_nil r2
 obtain rfl:args=#[v0,v1,v2]:=by cases args;simp_all
 obtain ⟨rfl,rfl⟩:=trodVars_none hV;obtain ⟨sn,room,la,wa,ln,lc,wn,wk,Ls,Ws,rfl,hL,hWs,hU⟩:=state_shape (hval 0 25 v0 rfl rfl) h0;obtain ⟨va,vn,vc,rfl⟩:=okWide_slice Tryz.underlying22 (hval 1 22 v1 rfl rfl);have k1:=h1
 have lt1:∀ x∈p1,x.block<W.heap.size:=by obtain ⟨m,hm⟩:=k1;exact DataW.trod_lt m _ _ _ hm
 obtain ⟨Vs,hV⟩ : ∃ Vs,RowOf W .i64 va vn Vs:=by
  obtain ⟨fuel,hf⟩:=h1;obtain ⟨a',n',c',Vs,e,hV,_⟩:=RowOf.of_ints (open_ints Tryz.underlying22 Tryz.underlying3 intSize hf)
  simp [Value.cells] at e
  obtain ⟨rfl,rfl,rfl⟩:=e;exact ⟨Vs,hV⟩
 obtain ⟨a2,rfl,rfl,rfl⟩:=open_bool Tryz.underlying4 (hval 2 4 v2 rfl rfl) h2;have k0:=h0
 have lt0:∀ x∈p0,x.block<W.heap.size:=by obtain ⟨m,hm⟩:=k0;exact DataW.trod_lt m _ _ _ hm
 clear hA0 hval0
 refine (walk sn room la wa ln lc wn wk Ls Ws va vn vc Vs a2 W hL hWs hU hV).mono fun e W' ⟨he,bel⟩=>?_
 subst he;exact ⟨_,rfl,_,_,_,[],_,[],hW',trodAll_mk1 (shut_bool Tryz.underlying4 _),(trodAll_cons_mk (Below.trod laid_out (by kernel_rfl) (of_decide_eq_true (by kernel_rfl)) k0 bel lt0) (trodAll_cons_mk (Below.trod laid_out (by kernel_rfl) (of_decide_eq_true (by kernel_rfl)) k1 bel lt1) (trodAll_cons_mk (shut_bool Tryz.underlying4 _) trodAll_mk0))),rfl,bel.frame _,fun h=>by cases h⟩
theorem over:Rows.applyKeepsRow.holds Tryz.pinned (OpenSpec.ofChange Rows.applyKeepsSpec) :=
 OpenClaim.holds_of_wide 5 Tryz.f5 rfl rfl rfl rfl rfl rfl rfl ⟨rfl,rfl,rfl,rfl,rfl⟩ rfl rfl rfl rfl rfl (by kernel_rfl) Tryz.func5 applyKeepsC_facts
  (of_decide_eq_true (by kernel_rfl)) (by unfold Func.isWrapper;first | (rw [if_pos (by decide +kernel)];kernel_rfl) | (rw [if_neg (by decide +kernel)];exact ⟨rfl,rfl⟩))
  (fun os started H enc _=>lifted os started H enc)
theorem proved:Rows.ApplyKeepsSaid:=over
#print axioms proved
end Go.Proofs.YtpfafhmkbcahhaaGreat.applyKeeps
