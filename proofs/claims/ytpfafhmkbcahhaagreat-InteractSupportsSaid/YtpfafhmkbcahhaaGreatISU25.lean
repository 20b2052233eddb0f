/- InteractSupports: for every input the law returns true and changes nothing that was there; no condition. -/
import Derived.Test.YtpfafhmkbcahhaaGreatISU23
import Derived.Test.YtpfafhmkbcahhaaGreatISU22
import Derived.Test.YtpfafhmkbcahhaaGreatISU24
import Derived.WalkKit
import Derived.ProofKit
import Derived.OpenShut
import Derived.ShutString
import Derived.ChangeOld
import Derived.Below
namespace Go.Proofs.YtpfafhmkbcahhaaGreat.interactSupports
open Go.ChangeShapes Go.WideShapes Go.ChangeAt Go.RowKit
set_option linter.unusedVariables false
theorem walk (a0:Int) (ua:Option Addr) (un uc:Nat) (Us:List Int) (va:Option Addr) (vn vc:Nat) (Vs:List Int) (w:World) (hV:RowC w .i64 va vn vc Vs) (hX:RowC w .u64 ua un uc Us) :
  Calls Tryz.prog 13 #[.int .i64 a0,.slice ua un uc,.slice va vn vc] w fun e w'=>e=.returned (.bool true)/\Below w.heap.size w w' :=
 (interactSupports_walk a0 ua va un uc vn vc Us Vs w hX hV).mono fun _ _ ⟨h,u⟩=>⟨h,u.os,u.tape,u.output,u.size,fun k hk=>u.block k hk (by simp)⟩
set_option maxRecDepth 100000 in
theorem lifted (os:Os) (started:os.Started) (H:Type) (enc:TypeId × Value->H) :
  ReturnsInHanded {} Tryz.checked os 13 .any (Rows.interactSupportsSpec.pre6 enc Tryz.prog Tryz.f13 Rows.interactSupportsRow.domain false) (Rows.interactSupportsSpec.post enc Tryz.prog Tryz.f13 false true false false):=by
 refine returnsInHanded_of_change (C:=Tryz.checked) own_knob started (by kernel_rfl) Tryz.func13
  (ChangeSpec.witness6 (enc:=enc) (C:=Tryz.checked) false ⟨#[],#[.int .i64 0,.slice none 0 0,.slice none 0 0],[]⟩ 8 (by kernel_rfl) (by kernel_rfl) (by kernel_rfl) (by kernel_rfl)) ?_
 intro W base args ds gs before hval0 hW hcnd _
 have hval:∀ (j:Nat) t v,Tryz.f13.params[j]?=some t->args[j]?=some v->Value.okWide Tryz.prog W .any base t v:=hval0;have hW':=hW;obtain ⟨p,q,hA0,hV,rfl,hfz,hnd⟩:=hW;have hA:DataW.TrodAll enc Tryz.prog W 0 (fun _=>true) true Tryz.f13.params.toList args.toList ds p:=hA0;rw [Tryz.params13] at hA hval;obtain ⟨v0,vs0,d0,ds0,p0,q0,hargs,rfl,rfl,h0,r0⟩:=trodAll_cons hA;obtain ⟨v1,vs1,d1,ds1,p1,q1,rfl,rfl,rfl,h1,r1⟩:=trodAll_cons r0;obtain ⟨v2,vs2,d2,ds2,p2,q2,rfl,rfl,rfl,h2,r2⟩:=trodAll_cons r1;obtain ⟨rfl,rfl,rfl⟩:=trodAll_nil r2
 obtain rfl:args=#[v0,v1,v2]:=by cases args;simp_all
 obtain ⟨rfl,rfl⟩:=trodVars_none hV;obtain ⟨a0,rfl,rfl,rfl,w0⟩:=open_int Tryz.underlying3 (hval 0 3 v0 rfl rfl) h0;obtain ⟨ua,un,uc,rfl⟩:=okWide_slice Tryz.underlying23 (hval 1 23 v1 rfl rfl);have k1:=h1
 have lt1:∀ x∈p1,x.block<W.heap.size:=by obtain ⟨m,hm⟩:=k1;exact DataW.trod_lt m _ _ _ hm
 obtain ⟨Us,hX⟩ : ∃ Us,RowC W .u64 ua un uc Us:=by
  obtain ⟨fuel,hf⟩:=h1;obtain ⟨a',n',c',Us,e,hX⟩:=RowC.of_ints (open_ints Tryz.underlying23 Tryz.underlying96 u64Size hf)
  simp [Value.cells] at e
  obtain ⟨rfl,rfl,rfl⟩:=e;exact ⟨Us,hX⟩
 obtain ⟨va,vn,vc,rfl⟩:=okWide_slice Tryz.underlying22 (hval 2 22 v2 rfl rfl);have k2:=h2
 have lt2:∀ x∈p2,x.block<W.heap.size:=by obtain ⟨m,hm⟩:=k2;exact DataW.trod_lt m _ _ _ hm
 obtain ⟨Vs,hV⟩ : ∃ Vs,RowC W .i64 va vn vc Vs:=by
  obtain ⟨fuel,hf⟩:=h2;obtain ⟨a',n',c',Vs,e,hV⟩:=RowC.of_ints (open_ints Tryz.underlying22 Tryz.underlying3 intSize hf)
  simp [Value.cells] at e
  obtain ⟨rfl,rfl,rfl⟩:=e;exact ⟨Vs,hV⟩
 refine (walk a0 ua un uc Us va vn vc Vs W hV hX).mono fun e W' ⟨he,bel⟩=>?_
 subst he;exact ⟨_,rfl,_,_,_,[],_,[],hW',trodAll_mk1 (shut_bool Tryz.underlying4 _),(trodAll_cons_mk (shut_int Tryz.underlying3 w0) (trodAll_cons_mk (Below.trod laid_out (by kernel_rfl) (of_decide_eq_true (by kernel_rfl)) k1 bel lt1) (trodAll_cons_mk (Below.trod laid_out (by kernel_rfl) (of_decide_eq_true (by kernel_rfl)) k2 bel lt2) trodAll_mk0))),rfl,bel.frame _,fun h=>by cases h⟩
theorem over:Rows.interactSupportsRow.holds Tryz.pinned (OpenSpec.ofChange Rows.interactSupportsSpec) :=
 OpenClaim.holds_of_wide 13 Tryz.f13 rfl rfl rfl rfl rfl rfl rfl ⟨rfl,rfl,rfl,rfl,rfl⟩ rfl rfl rfl rfl rfl (by kernel_rfl) Tryz.func13 interactSupportsC_facts
  (of_decide_eq_true (by kernel_rfl)) (by unfold Func.isWrapper;first | (rw [if_pos (by decide +kernel)];kernel_rfl) | (rw [if_neg (by decide +kernel)];exact ⟨rfl,rfl⟩))
  (fun os started H enc _=>lifted os started H enc)
theorem proved:Rows.InteractSupportsSaid:=over
#print axioms proved
end Go.Proofs.YtpfafhmkbcahhaaGreat.interactSupports
