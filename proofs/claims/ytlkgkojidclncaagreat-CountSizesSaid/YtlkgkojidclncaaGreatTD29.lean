/- CountSizes: for every input the law returns true and changes nothing that was there; no condition. -/
import Derived.Test.YtlkgkojidclncaaGreatTD27
import Derived.Test.YtlkgkojidclncaaGreatTD26
import Derived.Test.YtlkgkojidclncaaGreatTD28
import Derived.WalkKit
import Derived.ProofKit
import Derived.OpenShut
import Derived.ShutString
import Derived.ChangeOld
import Derived.Below
namespace Go.Proofs.YtlkgkojidclncaaGreat.countSizes
open Go.ChangeShapes Go.WideShapes Go.ChangeAt Go.RowKit
set_option linter.unusedVariables false
theorem walk (sn room:Int) (la wa:Option Addr) (ln lc wn wk:Nat) (Ls Ws:List Int) (va:Option Addr) (vn vc:Nat) (Vs:List Int) (a2:Bool) (a3:Int) (w:World) (hL:RowOf w .i64 la ln Ls) (hW:RowOf w .u64 wa wn Ws) (hU:∀ x,x∈Ws->U64 x) (hV:RowOf w .i64 va vn Vs) :
  Calls Tryz.prog 9 #[.agg #[.int .i64 sn,.int .i64 room,.slice la ln lc,.slice wa wn wk],.slice va vn vc,.bool a2,.int .i64 a3] w fun e w'=>e=.returned (.bool true)/\Below w.heap.size w w' :=
 (countSizes_walk sn room la wa va ln lc wn wk vn vc Ls Ws Vs a2 a3 w hL hW hU hV).mono fun _ _ ⟨h,u⟩=>⟨h,u.os,u.tape,u.output,u.size,fun k hk=>u.block k hk (by simp)⟩
set_option maxRecDepth 100000 in
theorem lifted (os:Os) (started:os.Started) (H:Type) (enc:TypeId × Value->H) :
  ReturnsInHanded {} Tryz.checked os 9 .any (Rows.countSizesSpec.pre6 enc Tryz.prog Tryz.f9 Rows.countSizesRow.domain false) (Rows.countSizesSpec.post enc Tryz.prog Tryz.f9 false true false false):=by
 refine returnsInHanded_of_change (C:=Tryz.checked) own_knob started (by kernel_rfl) Tryz.func9
  (ChangeSpec.witness6 (enc:=enc) (C:=Tryz.checked) false ⟨#[],#[.agg #[.int .i64 0,.int .i64 0,.slice none 0 0,.slice none 0 0],.slice none 0 0,.bool false,.int .i64 0],[]⟩ 8 (by kernel_rfl) (by kernel_rfl) (by kernel_rfl) (by kernel_rfl)) ?_
 intro W base args ds gs before hval0 hW hcnd _
 have hval:∀ (j:Nat) t v,Tryz.f9.params[j]?=some t->args[j]?=some v->Value.okWide Tryz.prog W .any base t v:=hval0;have hW':=hW;obtain ⟨p,q,hA0,hV,rfl,hfz,hnd⟩:=hW;have hA:DataW.TrodAll enc Tryz.prog W 0 (fun _=>true) true Tryz.f9.params.toList args.toList ds p:=hA0;rw [Tryz.params9] at hA hval;obtain ⟨v0,vs0,d0,ds0,p0,q0,hargs,rfl,rfl,h0,r0⟩:=trodAll_cons hA;obtain ⟨v1,vs1,d1,ds1,p1,q1,rfl,rfl,rfl,h1,r1⟩:=trodAll_cons r0;obtain ⟨v2,vs2,d2,ds2,p2,q2,rfl,rfl,rfl,h2,r2⟩:=trodAll_cons r1;obtain ⟨v3,vs3,d3,ds3,p3,q3,rfl,rfl,rfl,h3,r3⟩:=trodAll_cons r2;obtain ⟨rfl,rfl,rfl⟩:=trodAll_nil r3
 obtain rfl:args=#[v0,v1,v2,v3]:=by cases args;simp_all
 obtain ⟨rfl,rfl⟩:=trodVars_none hV;obtain ⟨sn,room,la,wa,ln,lc,wn,wk,Ls,Ws,rfl,hL,hWs,hU⟩:=state_shape (hval 0 80 v0 rfl rfl) h0;obtain ⟨va,vn,vc,rfl⟩:=okWide_slice Tryz.underlying23 (hval 1 23 v1 rfl rfl);have k1:=h1
 have lt1:∀ x∈p1,x.block<W.heap.size:=by obtain ⟨m,hm⟩:=k1;exact DataW.trod_lt m _ _ _ hm
 obtain ⟨Vs,hV⟩ : ∃ Vs,RowOf W .i64 va vn Vs:=by
  obtain ⟨fuel,hf⟩:=h1;obtain ⟨a',n',c',Vs,e,hV,_⟩:=RowOf.of_ints (open_ints Tryz.underlying23 Tryz.underlying3 intSize hf)
  simp [Value.cells] at e
  obtain ⟨rfl,rfl,rfl⟩:=e;exact ⟨Vs,hV⟩
 obtain ⟨a2,rfl,rfl,rfl⟩:=open_bool Tryz.underlying4 (hval 2 4 v2 rfl rfl) h2;obtain ⟨a3,rfl,rfl,rfl,w3⟩:=open_int Tryz.underlying3 (hval 3 3 v3 rfl rfl) h3;have k0:=h0
 have lt0:∀ x∈p0,x.block<W.heap.size:=by obtain ⟨m,hm⟩:=k0;exact DataW.trod_lt m _ _ _ hm
 clear hA0 hval0
 refine (walk sn room la wa ln lc wn wk Ls Ws va vn vc Vs a2 a3 W hL hWs hU hV).mono fun e W' ⟨he,bel⟩=>?_
 subst he;exact ⟨_,rfl,_,_,_,[],_,[],hW',trodAll_mk1 (shut_bool Tryz.underlying4 _),(trodAll_cons_mk (Below.trod laid_out (by kernel_rfl) (of_decide_eq_true (by kernel_rfl)) k0 bel lt0) (trodAll_cons_mk (Below.trod laid_out (by kernel_rfl) (of_decide_eq_true (by kernel_rfl)) k1 bel lt1) (trodAll_cons_mk (shut_bool Tryz.underlying4 _) (trodAll_cons_mk (shut_int Tryz.underlying3 w3) trodAll_mk0)))),rfl,bel.frame _,fun h=>by cases h⟩
theorem over:Rows.countSizesRow.holds Tryz.pinned (OpenSpec.ofChange Rows.countSizesSpec) :=
 OpenClaim.holds_of_wide 9 Tryz.f9 rfl rfl rfl rfl rfl rfl rfl ⟨rfl,rfl,rfl,rfl,rfl⟩ rfl rfl rfl rfl rfl (by kernel_rfl) Tryz.func9 countSizesC_facts
  (of_decide_eq_true (by kernel_rfl)) (by unfold Func.isWrapper;first | (rw [if_pos (by decide +kernel)];kernel_rfl) | (rw [if_neg (by decide +kernel)];exact ⟨rfl,rfl⟩))
  (fun os started H enc _=>lifted os started H enc)
theorem proved:Rows.CountSizesSaid:=over
#print axioms proved
end Go.Proofs.YtlkgkojidclncaaGreat.countSizes
