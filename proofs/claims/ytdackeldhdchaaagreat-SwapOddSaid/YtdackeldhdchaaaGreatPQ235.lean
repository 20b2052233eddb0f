/- SwapOdd: for every input the law returns true and changes nothing that was there; no condition. -/
import Derived.Test.YtdackeldhdchaaaGreatPQ233
import Derived.Test.YtdackeldhdchaaaGreatPQ231
import Derived.Test.YtdackeldhdchaaaGreatPQ234
import Derived.WalkKit
import Derived.ProofKit
import Derived.OpenShut
import Derived.ShutString
import Derived.ChangeOld
import Derived.Below
namespace Go.Proofs.YtdackeldhdchaaaGreat.swapOdd
open Go.ChangeShapes Go.WideShapes Go.ChangeAt Go.RowKit
set_option linter.unusedVariables false
theorem walk (sn room:Int) (ta la:Option Addr) (tn tc ln lc:Nat) (Ts:List amX) (Ls:List Int) (a1:Int) (va:Option Addr) (vn vc:Nat) (Vs:List Int) (w:World) (hS:aCP w ta la tn tc ln lc Ts Ls) (hV:ar5 w .i64 va vn vc Vs) :
  Calls Tryz.prog 6 #[.agg #[.int .i64 sn,.int .i64 room,.slice ta tn tc,.slice la ln lc],.int .i64 a1,.slice va vn vc] w fun e w'=>e=.returned (.bool true)/\Below w.heap.size w w' :=
 (aCR sn room ta la tn tc ln lc Ts Ls a1 va vn vc Vs w hS hV).mono fun _ _ ⟨h,u⟩=>⟨h,u.os,u.tape,u.output,u.size,fun k hk=>u.block k hk (by simp)⟩
set_option maxRecDepth 100000 in
theorem lifted (os:Os) (started:os.Started) (H:Type) (enc:TypeId × Value->H) :
  ReturnsInHanded {} Tryz.checked os 6 .any (Rows.swapOddSpec.pre6 enc Tryz.prog Tryz.f6 Rows.swapOddRow.domain false) (Rows.swapOddSpec.post enc Tryz.prog Tryz.f6 false true false false):=by
 refine returnsInHanded_of_change (C:=Tryz.checked) aK4 started (by kernel_rfl) Tryz.func6
  (ChangeSpec.witness6 (enc:=enc) (C:=Tryz.checked) false ⟨#[],#[.agg #[.int .i64 0,.int .i64 0,.slice none 0 0,.slice none 0 0],.int .i64 0,.slice none 0 0],[]⟩ 8 (by kernel_rfl) (by kernel_rfl) (by kernel_rfl) (by kernel_rfl)) ?_
 intro W base args ds gs before aOI hW hcnd _
 have aNq:∀ (j:Nat) t v,Tryz.f6.params[j]?=some t->args[j]?=some v->Value.okWide Tryz.prog W .any base t v:=aOI;have hW':=hW;obtain ⟨p,q,hA0,hV,rfl,hfz,hnd⟩:=hW;have hA:DataW.TrodAll enc Tryz.prog W 0 (fun _=>true) true Tryz.f6.params.toList args.toList ds p:=hA0;rw [Tryz.params6] at hA aNq;obtain ⟨v0,vs0,d0,ds0,p0,q0,hargs,rfl,rfl,h0,r0⟩:=trodAll_cons hA;obtain ⟨v1,vs1,d1,ds1,p1,q1,rfl,rfl,rfl,h1,r1⟩:=trodAll_cons r0;obtain ⟨v2,vs2,d2,ds2,p2,q2,rfl,rfl,rfl,h2,r2⟩:=trodAll_cons r1;obtain ⟨rfl,rfl,rfl⟩:=trodAll_nil r2
 obtain rfl:args=#[v0,v1,v2]:=by cases args;simp_all
 obtain ⟨rfl,rfl⟩:=trodVars_none hV;obtain ⟨sn,room,ta,la,tn,tc,ln,lc,Ts,Ls,rfl,hS⟩:=aEp (aNq 0 25 v0 rfl rfl) h0;obtain ⟨a1,rfl,rfl,rfl,w1⟩:=open_int Tryz.underlying3 (aNq 1 3 v1 rfl rfl) h1;obtain ⟨va,vn,vc,rfl⟩:=okWide_slice Tryz.underlying23 (aNq 2 23 v2 rfl rfl);have k2:=h2
 have lt2:∀ x∈p2,x.block<W.heap.size:=by obtain ⟨m,hm⟩:=k2;exact DataW.trod_lt m _ _ _ hm
 obtain ⟨Vs,hV⟩ : ∃ Vs,ar5 W .i64 va vn vc Vs:=by
  obtain ⟨fuel,hf⟩:=h2;obtain ⟨a',n',c',Vs,e,hV⟩:=ar5.of_ints (open_ints Tryz.underlying23 Tryz.underlying3 axY hf)
  simp [Value.cells] at e
  obtain ⟨rfl,rfl,rfl⟩:=e;exact ⟨Vs,hV⟩
 have k0:=h0
 have lt0:∀ x∈p0,x.block<W.heap.size:=by obtain ⟨m,hm⟩:=k0;exact DataW.trod_lt m _ _ _ hm
 clear hA0 aOI
 refine (walk sn room ta la tn tc ln lc Ts Ls a1 va vn vc Vs W hS hV).mono fun e W' ⟨he,bel⟩=>?_
 subst he;exact ⟨_,rfl,_,_,_,[],_,[],hW',trodAll_mk1 (shut_bool Tryz.underlying4 _),(trodAll_cons_mk (Below.trod aEo (by kernel_rfl) (of_decide_eq_true (by kernel_rfl)) k0 bel lt0) (trodAll_cons_mk (shut_int Tryz.underlying3 w1) (trodAll_cons_mk (Below.trod aEo (by kernel_rfl) (of_decide_eq_true (by kernel_rfl)) k2 bel lt2) trodAll_mk0))),rfl,bel.frame _,fun h=>by cases h⟩
theorem over:Rows.swapOddRow.holds Tryz.pinned (OpenSpec.ofChange Rows.swapOddSpec) :=
 OpenClaim.holds_of_wide 6 Tryz.f6 rfl rfl rfl rfl rfl rfl rfl ⟨rfl,rfl,rfl,rfl,rfl⟩ rfl rfl rfl rfl rfl (by kernel_rfl) Tryz.func6 azh
  (of_decide_eq_true (by kernel_rfl)) (by unfold Func.isWrapper;first | (rw [if_pos (by decide +kernel)];kernel_rfl) | (rw [if_neg (by decide +kernel)];exact ⟨rfl,rfl⟩))
  (fun os started H enc _=>lifted os started H enc)
theorem proved:Rows.SwapOddSaid:=over
#print axioms proved
end Go.Proofs.YtdackeldhdchaaaGreat.swapOdd
