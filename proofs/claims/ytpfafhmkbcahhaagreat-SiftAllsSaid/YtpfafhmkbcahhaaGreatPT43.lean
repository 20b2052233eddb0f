import Derived.Test.YtpfafhmkbcahhaaGreatPT30
import Derived.Test.YtpfafhmkbcahhaaGreatPT25
import Derived.WalkKit
import Derived.ProofKit
import Derived.OpenShut
import Derived.ShutString
import Derived.ChangeOld
import Derived.ChangeSlices
import Derived.Below
set_option maxRecDepth 100000
namespace Go.Proofs.YtpfafhmkbcahhaaGreat
open Go.ChangeShapes Go.WideShapes Go.ChangeAt Go.RowKit
theorem own_knob:ownKnob Tryz.prog.godebug=none:=by kernel_rfl
theorem laid_out:laidOutB Tryz.prog=true:=by kernel_rfl
theorem okWide_row {P:Program} {w:World} {r:Reach} {base:Nat} {t:TypeId} {v:Value} {fs:Array Field} (ht:P.underlying t=some (.struct fs)) (h:Value.okWide P w r base t v):∃ cs,v=.agg cs/\cs.size=P.cellsOf t/\Row.okWide P w r base t cs:=by
 unfold Value.okWide at h;rw [ht] at h;exact h
theorem stateSize:Tryz.prog.cellsOf 25=4:=by kernel_rfl
theorem intSize:Tryz.prog.cellsOf 3=1:=by kernel_rfl
theorem u64Size:Tryz.prog.cellsOf 96=1:=by kernel_rfl
theorem intsSize:Tryz.prog.cellsOf 22=1:=by kernel_rfl
theorem u64sSize:Tryz.prog.cellsOf 23=1:=by kernel_rfl
theorem wf_u64 {x:Int} (h:(Lit.int .u64 x).wf=true):U64 x:=by
 simp only [Lit.wf,Bool.and_eq_true,decide_eq_true_eq] at h
 have e1:IntKind.u64.min=0:=rfl;have e2:IntKind.u64.max=18446744073709551615:=rfl;unfold U64;omega
theorem RowOf.of_ints {H:Type} {W:World} {k:IntKind} {cs:List Value} {x:DataW H × List MemPlace}
  (h:(cs=[.slice none 0 0]/\x=(.nil,[])) \/
  ∃ (a:Addr) (len cap:Nat) (zs:List Int),cs=[.slice (some a) len cap]/\0<=a.block/\len<=cap/\cap<=maxLen/\zs.length=(if (fun _:Nat=>true) a.block then cap else len) /\
   x=(.slice (lits k (zs.take len)) (lits k (zs.drop len)),MemPlace.row a zs.length) /\
   (∀ i,i<zs.length->W.cell? (a.add i)=some (.int k (zs.getD i 0)))/\(∀ n∈zs,(Lit.int k n).wf=true)) :
  ∃ (a:Option Addr) (n c:Nat) (Zs:List Int),cs=[.slice a n c]/\RowOf W k a n Zs/\∀ z,z∈Zs->(Lit.int k z).wf=true:=by
 rcases h with ⟨rfl,_⟩ | ⟨a,len,cap,zs,rfl,_,hl,hm,hz,_,hc,hw⟩
 ·exact ⟨none,0,0,[],rfl,⟨rfl,Nat.zero_le _,fun i hi=>by omega⟩,fun z hz=>by cases hz⟩
 ·have hz':zs.length=cap:=by simpa using hz
  refine ⟨some a,len,cap,zs.take len,rfl,⟨by rw [List.length_take];omega,by omega,fun i hi=>⟨a,rfl,?_⟩⟩,fun z hz=>hw z (List.mem_of_mem_take hz)⟩;rw [hc i (by omega),List.getD_eq_getElem?_getD,List.getD_eq_getElem?_getD,List.getElem?_take_of_lt hi]
theorem state_shape {H:Type} {enc:TypeId × Value->H} {W:World} {r:Reach} {base:Nat} {v:Value} {d:DataW H} {p:List MemPlace} (h:Value.okWide Tryz.prog W r base 25 v) (hd:DataW.Trod enc Tryz.prog W 0 (fun _=>true) true 25 v d p) :
  ∃ (n room:Int) (la wa:Option Addr) (ln lc wn wk:Nat) (Ls Ws:List Int),v=.agg #[.int .i64 n,.int .i64 room,.slice la ln lc,.slice wa wn wk]/\RowOf W .i64 la ln Ls/\RowOf W .u64 wa wn Ws/\∀ x,x∈Ws->U64 x:=by
 obtain ⟨cs,rfl,hsz,_⟩:=okWide_row Tryz.underlying25 h;obtain ⟨fuel,hd⟩:=hd;have hsz:=hsz.trans stateSize;obtain ⟨l⟩:=cs
 match l,hsz with
 | [c0,c1,c2,c3],_ =>
  obtain ⟨ys,m,_,_,_,hl,hf⟩:=Go.DataW.trod_struct Tryz.underlying25 hd
  match ys,hl with
  | [y0,y1,y2,y3],_ =>
   have h0:=hf 0 _ rfl;have h1:=hf 1 _ rfl;have h2:=hf 2 _ rfl;have h3:=hf 3 _ rfl
   simp [Value.cells,intSize,intsSize,u64sSize] at h0 h1 h2 h3
   obtain ⟨n,e0,_,_⟩:=Go.DataW.trod_int Tryz.underlying3 h0;obtain ⟨room,e1,_,_⟩:=Go.DataW.trod_int Tryz.underlying3 h1;obtain ⟨la,ln,lc,Ls,e2,hL,_⟩:=RowOf.of_ints (open_ints Tryz.underlying22 Tryz.underlying3 intSize h2);obtain ⟨wa,wn,wk,Ws,e3,hW,hU⟩:=RowOf.of_ints (open_ints Tryz.underlying23 Tryz.underlying96 u64Size h3)
   simp at e0 e1 e2 e3
   subst e0 e1 e2 e3;exact ⟨n,room,la,wa,ln,lc,wn,wk,Ls,Ws,rfl,hL,hW,fun x hx=>wf_u64 (hU x hx)⟩
end Go.Proofs.YtpfafhmkbcahhaaGreat
