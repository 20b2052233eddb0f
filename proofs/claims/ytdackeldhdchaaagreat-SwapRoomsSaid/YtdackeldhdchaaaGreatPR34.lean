/- SwapRooms: for every input the law returns true and changes nothing that was there; no condition. -/
import Derived.Test.YtdackeldhdchaaaGreatPR32
import Derived.Test.YtdackeldhdchaaaGreatPR31
import Derived.Test.YtdackeldhdchaaaGreatPR33
import Derived.WalkKit
import Derived.ProofKit
import Derived.OpenShut
import Derived.ShutString
import Derived.ChangeOld
import Derived.Below
namespace Go.Proofs.YtdackeldhdchaaaGreat.swapRooms
open Go.ChangeShapes Go.WideShapes Go.ChangeAt Go.RowKit
set_option linter.unusedVariables false
theorem walk (sn room:Int) (ta la:Option Addr) (tn tc ln lc:Nat) (Ts:List jH) (Ls:List Int)  (w:World) (hS:AQ w ta la tn tc ln lc Ts Ls) :
  Calls Tryz.prog 4 #[.agg #[.int .i64 sn,.int .i64 room,.slice ta tn tc,.slice la ln lc]] w fun e w'=>e=.returned (.bool true)/\Below w.heap.size w w' :=
 (wV sn room ta la tn tc ln lc Ts Ls w hS).mono fun _ _ ⟨h,u⟩=>⟨h,u.os,u.tape,u.output,u.size,fun k hk=>u.block k hk (by simp)⟩
set_option maxRecDepth 100000 in
theorem lifted (os:Os) (started:os.Started) (H:Type) (enc:TypeId × Value->H) :
  ReturnsInHanded {} Tryz.checked os 4 .any (Rows.swapRoomsSpec.pre6 enc Tryz.prog Tryz.f4 Rows.swapRoomsRow.domain false) (Rows.swapRoomsSpec.post enc Tryz.prog Tryz.f4 false true false false):=by
 refine returnsInHanded_of_change (C:=Tryz.checked) Nj started (by kernel_rfl) Tryz.func4
  (ChangeSpec.witness6 (enc:=enc) (C:=Tryz.checked) false ⟨#[],#[.agg #[.int .i64 0,.int .i64 0,.slice none 0 0,.slice none 0 0]],[]⟩ 8 (by kernel_rfl) (by kernel_rfl) (by kernel_rfl) (by kernel_rfl)) ?_
 intro W base args ds gs before Q8 hW hcnd _
 have X9:∀ (j:Nat) t v,Tryz.f4.params[j]?=some t->args[j]?=some v->Value.okWide Tryz.prog W .any base t v:=Q8;have hW':=hW;obtain ⟨p,q,hA0,hV,rfl,hfz,zn⟩:=hW;have hA:DataW.TrodAll enc Tryz.prog W 0 (fun _=>true) true Tryz.f4.params.toList args.toList ds p:=hA0;rw [Tryz.params4] at hA X9;obtain ⟨v0,vs0,d0,ds0,p0,q0,hargs,rfl,rfl,h0,r0⟩:=trodAll_cons hA;obtain ⟨rfl,rfl,rfl⟩:=trodAll_nil r0
 obtain rfl:args=#[v0]:=by cases args;simp_all
 obtain ⟨rfl,rfl⟩:=trodVars_none hV;obtain ⟨sn,room,ta,la,tn,tc,ln,lc,Ts,Ls,rfl,hS⟩:=Dn (X9 0 25 v0 rfl rfl) h0;have k0:=h0
 have lt0:∀ x∈p0,x.block<W.heap.size:=by obtain ⟨m,hm⟩:=k0;exact DataW.trod_lt m _ _ _ hm
 clear hA0 Q8
 refine (walk sn room ta la tn tc ln lc Ts Ls  W hS).mono fun e W' ⟨he,bel⟩=>?_
 subst he;exact ⟨_,rfl,_,_,_,[],_,[],hW',trodAll_mk1 (shut_bool Tryz.underlying4 _),(trodAll_cons_mk (Below.trod Nk (by kernel_rfl) (of_decide_eq_true (by kernel_rfl)) k0 bel lt0) trodAll_mk0),rfl,bel.frame _,fun h=>by cases h⟩
theorem over:Rows.swapRoomsRow.holds Tryz.pinned (OpenSpec.ofChange Rows.swapRoomsSpec) :=
 OpenClaim.holds_of_wide 4 Tryz.f4 rfl rfl rfl rfl rfl rfl rfl ⟨rfl,rfl,rfl,rfl,rfl⟩ rfl rfl rfl rfl rfl (by kernel_rfl) Tryz.func4 rD
  (of_decide_eq_true (by kernel_rfl)) (by unfold Func.isWrapper;first | (rw [if_pos (by decide +kernel)];kernel_rfl) | (rw [if_neg (by decide +kernel)];exact ⟨rfl,rfl⟩))
  (fun os started H enc _=>lifted os started H enc)
theorem proved:Rows.SwapRoomsSaid:=over
#print axioms proved
end Go.Proofs.YtdackeldhdchaaaGreat.swapRooms
