/- SwapNames: for every input the law returns true and changes nothing that was there; no condition. -/
import Derived.Test.YtfkopmhpppeheaaGreatPN38
import Derived.Test.YtfkopmhpppeheaaGreatPN37
import Derived.Test.YtfkopmhpppeheaaGreatPN39
import Derived.WalkKit
import Derived.ProofKit
import Derived.OpenShut
import Derived.ShutString
import Derived.ChangeOld
import Derived.Below
namespace Go.Proofs.YtfkopmhpppeheaaGreat.swapNames
open Go.ChangeShapes Go.WideShapes Go.ChangeAt Go.RowKit
set_option linter.unusedVariables false
theorem walk (a0:Int) (ga:Option Addr) (gn gc:Nat) (va:Option Addr) (vn vc:Nat) (Vs:List Int) (ua:Option Addr) (un uc:Nat) (Us:List Int) (w:World) (hG:lK w ga gn) (hV:EX w .i64 va vn vc Vs) (hX:EX w .u64 ua un uc Us) :
  Calls Tryz.prog 9 #[.int .i64 a0,.slice ga gn gc,.slice va vn vc,.slice ua un uc] w fun e w'=>e=.returned (.bool true)/\Below w.heap.size w w' :=
 (D7 a0 ga va ua gn gc vn vc un uc Vs Us w hG hV hX).mono fun _ _ ⟨h,u⟩=>⟨h,u.os,u.tape,u.output,u.size,fun k hk=>u.block k hk (by simp)⟩
set_option maxRecDepth 100000 in
theorem lifted (os:Os) (started:os.Started) (H:Type) (enc:TypeId × Value->H) :
  ReturnsInHanded {} Tryz.checked os 9 .any (Rows.swapNamesSpec.pre6 enc Tryz.prog Tryz.f9 Rows.swapNamesRow.domain false) (Rows.swapNamesSpec.post enc Tryz.prog Tryz.f9 false true false false):=by
 refine returnsInHanded_of_change (C:=Tryz.checked) V4 started (by kernel_rfl) Tryz.func9
  (ChangeSpec.witness6 (enc:=enc) (C:=Tryz.checked) false ⟨#[],#[.int .i64 0,.slice none 0 0,.slice none 0 0,.slice none 0 0],[]⟩ 8 (by kernel_rfl) (by kernel_rfl) (by kernel_rfl) (by kernel_rfl)) ?_
 intro W base args ds gs before ahE hW hcnd _
 have Xf:∀ (j:Nat) t v,Tryz.f9.params[j]?=some t->args[j]?=some v->Value.okWide Tryz.prog W .any base t v:=ahE;have hW':=hW;obtain ⟨p,q,hA0,hV,rfl,hfz,AL⟩:=hW;have hA:DataW.TrodAll enc Tryz.prog W 0 (fun _=>true) true Tryz.f9.params.toList args.toList ds p:=hA0;rw [Tryz.params9] at hA Xf;obtain ⟨v0,vs0,d0,ds0,p0,q0,hargs,rfl,rfl,h0,r0⟩:=trodAll_cons hA;obtain ⟨v1,vs1,d1,ds1,p1,q1,rfl,rfl,rfl,h1,r1⟩:=trodAll_cons r0;obtain ⟨v2,vs2,d2,ds2,p2,q2,rfl,rfl,rfl,h2,r2⟩:=trodAll_cons r1;obtain ⟨v3,vs3,d3,ds3,p3,q3,rfl,rfl,rfl,h3,r3⟩:=trodAll_cons r2;obtain ⟨rfl,rfl,rfl⟩:=trodAll_nil r3
 obtain rfl:args=#[v0,v1,v2,v3]:=by cases args;simp_all
 obtain ⟨rfl,rfl⟩:=trodVars_none hV;obtain ⟨a0,rfl,rfl,rfl,w0⟩:=open_int Tryz.underlying3 (Xf 0 3 v0 rfl rfl) h0;obtain ⟨ga,gn,gc,rfl⟩:=okWide_slice Tryz.underlying103 (Xf 1 103 v1 rfl rfl);have k1:=h1
 have lt1:∀ x∈p1,x.block<W.heap.size:=by obtain ⟨m,hm⟩:=k1;exact DataW.trod_lt m _ _ _ hm
 have hG:lK W ga gn:=by
  obtain ⟨fuel,hf⟩:=h1;obtain ⟨a',n',c',e,hG⟩:=lK.Zy hf
  simp [Value.cells] at e
  obtain ⟨rfl,rfl,rfl⟩:=e;exact hG
 obtain ⟨va,vn,vc,rfl⟩:=okWide_slice Tryz.underlying23 (Xf 2 23 v2 rfl rfl);have k2:=h2
 have lt2:∀ x∈p2,x.block<W.heap.size:=by obtain ⟨m,hm⟩:=k2;exact DataW.trod_lt m _ _ _ hm
 obtain ⟨Vs,hV⟩ : ∃ Vs,EX W .i64 va vn vc Vs:=by
  obtain ⟨fuel,hf⟩:=h2;obtain ⟨a',n',c',Vs,e,hV⟩:=EX.PR (open_ints Tryz.underlying23 Tryz.underlying3 PK hf)
  simp [Value.cells] at e
  obtain ⟨rfl,rfl,rfl⟩:=e;exact ⟨Vs,hV⟩
 obtain ⟨ua,un,uc,rfl⟩:=okWide_slice Tryz.underlying68 (Xf 3 68 v3 rfl rfl);have k3:=h3
 have lt3:∀ x∈p3,x.block<W.heap.size:=by obtain ⟨m,hm⟩:=k3;exact DataW.trod_lt m _ _ _ hm
 obtain ⟨Us,hX⟩ : ∃ Us,EX W .u64 ua un uc Us:=by
  obtain ⟨fuel,hf⟩:=h3;obtain ⟨a',n',c',Us,e,hX⟩:=EX.PR (open_ints Tryz.underlying68 Tryz.underlying90 Ze hf)
  simp [Value.cells] at e
  obtain ⟨rfl,rfl,rfl⟩:=e;exact ⟨Us,hX⟩
 refine (walk a0 ga gn gc va vn vc Vs ua un uc Us W hG hV hX).mono fun e W' ⟨he,bel⟩=>?_
 subst he;exact ⟨_,rfl,_,_,_,[],_,[],hW',trodAll_mk1 (shut_bool Tryz.underlying4 _),(trodAll_cons_mk (shut_int Tryz.underlying3 w0) (trodAll_cons_mk (Below.trod Dz (by kernel_rfl) (of_decide_eq_true (by kernel_rfl)) k1 bel lt1) (trodAll_cons_mk (Below.trod Dz (by kernel_rfl) (of_decide_eq_true (by kernel_rfl)) k2 bel lt2) (trodAll_cons_mk (Below.trod Dz (by kernel_rfl) (of_decide_eq_true (by kernel_rfl)) k3 bel lt3) trodAll_mk0)))),rfl,bel.frame _,fun h=>by cases h⟩
theorem over:Rows.swapNamesRow.holds Tryz.pinned (OpenSpec.ofChange Rows.swapNamesSpec) :=
 OpenClaim.holds_of_wide 9 Tryz.f9 rfl rfl rfl rfl rfl rfl rfl ⟨rfl,rfl,rfl,rfl,rfl⟩ rfl rfl rfl rfl rfl (by kernel_rfl) Tryz.func9 zl
  (of_decide_eq_true (by kernel_rfl)) (by unfold Func.isWrapper;first | (rw [if_pos (by decide +kernel)];kernel_rfl) | (rw [if_neg (by decide +kernel)];exact ⟨rfl,rfl⟩))
  (fun os started H enc _=>lifted os started H enc)
theorem proved:Rows.SwapNamesSaid:=over
#print axioms proved
end Go.Proofs.YtfkopmhpppeheaaGreat.swapNames
