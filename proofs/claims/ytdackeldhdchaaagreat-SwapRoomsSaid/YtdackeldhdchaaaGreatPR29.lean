import Derived.Test.YtdackeldhdchaaaGreatPR28
import Derived.Test.YtdackeldhdchaaaGreatPR7
import Derived.Test.YtdackeldhdchaaaGreatPR5
import Derived.Test.YtdackeldhdchaaaGreatPR16
import Derived.Test.YtdackeldhdchaaaGreatPR12
import Derived.Test.YtdackeldhdchaaaGreatPR25
import Derived.Test.YtdackeldhdchaaaGreatPR8
import Derived.Deep.RegionHeld3
set_option maxRecDepth 100000
set_option maxHeartbeats 6400000
namespace Go.Proofs.YtdackeldhdchaaaGreat
open Go.RowKit Go.Maps Go.ChangeMaps Go.WideShapes
structure RB where
 kk:Nat
 sk:Nat
 xb:Nat
 yb:Nat
 hk:Nat
 mo:Nat
 wk:Nat
 sm:Nat
 hm:Nat
 mm:Nat
def RB.caps (B:RB):Array Value:=#[.pointer (some ⟨B.kk,0,none⟩),.pointer (some ⟨B.sk,0,none⟩),.pointer (some ⟨B.xb,0,none⟩),.pointer (some ⟨B.yb,0,none⟩),.pointer (some ⟨B.hk,0,none⟩),.pointer (some ⟨B.mo,0,none⟩),.pointer (some ⟨B.wk,0,none⟩)]
def RB.maps (B:RB):List Nat:=[B.sm,B.hm,B.mm]
structure uF (w:World) (b:Nat) (B:RB) (x y:Nat) (K:KV) (T:List DM) (q:aA) (S H M:DM):Prop where
 ker:dH w b K T q
 bk:w.heap[B.kk]?=some (.cells #[.pointer (some ⟨b,0,none⟩)] 40 (0,0))
 bs:w.heap[B.sk]?=some (.cells #[.map (some B.sm)] 139 (0,0))
 bx:w.heap[B.xb]?=some (.cells #[.int .i64 x] 3 (0,0))
 by_:w.heap[B.yb]?=some (.cells #[.int .i64 y] 3 (0,0))
 bh:w.heap[B.hk]?=some (.cells #[.map (some B.hm)] 138 (0,0))
 bm:w.heap[B.mo]?=some (.cells #[.map (some B.mm)] 138 (0,0))
 bw:w.heap[B.wk]?=some (.cells #[.func (Fn.func 66) #[] B.caps] 140 (0,0))
 ms:w.ownsMap Tryz.prog 77 (plainElem Tryz.prog 3) B.sm (Maps.size S) S
 mh:w.ownsMap Tryz.prog 148 (plainElem Tryz.prog 3) B.hm (Maps.size H) H
 mm:w.ownsMap Tryz.prog 148 (plainElem Tryz.prog 3) B.mm (Maps.size M) M
 dq:∀ k,k∈q.all b->k∉B.maps
 ds:B.kk∉B.maps/\B.sk∉B.maps/\B.xb∉B.maps/\B.yb∉B.maps/\B.hk∉B.maps/\B.mo∉B.maps/\B.wk∉B.maps
 dm:B.sm≠B.hm/\B.sm≠B.mm/\B.hm≠B.mm
structure QW (K:KV) (x y:Nat) (V:List Nat) (S H M:DM):Prop where
 s:nC V S
 h:iq (V.flatMap (K.haveQ x)) H
 m:iq (V.flatMap (K.moreQ x y)) M
theorem uF.change {w w':World} {b:Nat} {B:RB} {x y:Nat} {K:KV} {T:List DM} {q:aA} {S H M S' H' M':DM} (h:uF w b B x y K T q S H M) {Z:List Nat} (u:af Z w w') (hZ:∀ k,k∈Z->k∈B.maps)
  (h1:w'.ownsMap Tryz.prog 77 (plainElem Tryz.prog 3) B.sm (Maps.size S') S') (h2:w'.ownsMap Tryz.prog 148 (plainElem Tryz.prog 3) B.hm (Maps.size H') H') (h3:w'.ownsMap Tryz.prog 148 (plainElem Tryz.prog 3) B.mm (Maps.size M') M'):uF w' b B x y K T q S' H' M':=by
 have e:∀ {k:Nat} {o:Obj},k∉B.maps->w.heap[k]?=some o->w'.heap[k]?=some o:=fun {k o} hn hk=>by rw [u.block k (aj hk) fun hm=>hn (hZ k hm)];exact hk
 obtain ⟨d1,d2,d3,d4,d5,d6,d7⟩:=h.ds;exact ⟨h.ker.upd u fun k hk hm=>h.dq k hk (hZ k hm),e d1 h.bk,e d2 h.bs,e d3 h.bx,e d4 h.by_,e d5 h.bh,e d6 h.bm,e d7 h.bw,h1,h2,h3,h.dq,h.ds,h.dm⟩
theorem uF.keep {w w':World} {b:Nat} {B:RB} {x y:Nat} {K:KV} {T:List DM} {q:aA} {S H M:DM} (h:uF w b B x y K T q S H M) (u:af [] w w'):uF w' b B x y K T q S H M :=
 h.change u (by simp) (bJ h.ms (u.block _ h.ms.lt (by simp))) (bJ h.mh (u.block _ h.mh.lt (by simp))) (bJ h.mm (u.block _ h.mm.lt (by simp)))
theorem RB.mem (B:RB):B.sm∈B.maps/\B.hm∈B.maps/\B.mm∈B.maps:=by simp [RB.maps]
theorem uF.seen {w w':World} {b:Nat} {B:RB} {x y:Nat} {K:KV} {T:List DM} {q:aA} {S H M S':DM} (h:uF w b B x y K T q S H M) (u:af [B.sm] w w') (hm:w'.ownsMap Tryz.prog 77 (plainElem Tryz.prog 3) B.sm (Maps.size S') S'):uF w' b B x y K T q S' H M :=
 h.change u (fun k hk=>by simp at hk;subst hk;exact B.mem.1) hm (bJ h.mh (u.block _ h.mh.lt (by simp;exact h.dm.1.symm))) (bJ h.mm (u.block _ h.mm.lt (by simp;exact h.dm.2.1.symm)))
theorem uF.have_ {w w':World} {b:Nat} {B:RB} {x y:Nat} {K:KV} {T:List DM} {q:aA} {S H M H':DM} (h:uF w b B x y K T q S H M) (u:af [B.hm] w w') (hm:w'.ownsMap Tryz.prog 148 (plainElem Tryz.prog 3) B.hm (Maps.size H') H'):uF w' b B x y K T q S H' M :=
 h.change u (fun k hk=>by simp at hk;subst hk;exact B.mem.2.1) (bJ h.ms (u.block _ h.ms.lt (by simp;exact h.dm.1))) hm (bJ h.mm (u.block _ h.mm.lt (by simp;exact h.dm.2.2.symm)))
theorem uF.more {w w':World} {b:Nat} {B:RB} {x y:Nat} {K:KV} {T:List DM} {q:aA} {S H M M':DM} (h:uF w b B x y K T q S H M) (u:af [B.mm] w w') (hm:w'.ownsMap Tryz.prog 148 (plainElem Tryz.prog 3) B.mm (Maps.size M') M'):uF w' b B x y K T q S H M' :=
 h.change u (fun k hk=>by simp at hk;subst hk;exact B.mem.2.2) (bJ h.ms (u.block _ h.ms.lt (by simp;exact h.dm.2.1))) (bJ h.mh (u.block _ h.mh.lt (by simp;exact h.dm.2.2))) hm
structure Uk (b:Nat) (B:RB) (x y:Nat) (K:KV) (T:List DM) (q:aA) (V:List Nat) (r:Nat) (w w':World):Prop where
 ex:∃ (N:List Nat) (S H M:DM),lM K V r N/\QW K x y (V++N) S H M/\uF w' b B x y K T q S H M/\af B.maps w w'
def QX (b:Nat) (B:RB) (x y:Nat) (K:KV) (T:List DM) (q:aA) (d:Nat):Prop :=
 ∀ (r:Nat) (V:List Nat) (S H M:DM) (w:World),uF w b B x y K T q S H M->QW K x y V S H M->V.Nodup->K.A.tk r=true->d<=K.dep r ->
  Calls Tryz.prog 66 (#[.int .u32 r]++B.caps) w fun e w'=>e=.returned (.tuple #[])/\Uk b B x y K T q V r w w'
theorem KV.Ok.const_vI {K:KV} (hk:K.Ok) {r:Nat} {p:au} (h2:r<2) (hp:K.A.list[r]?=some p):p.var<0:=by
 have h:r=0\/r=1:=by omega
 rcases h with rfl | rfl
 ·rw [hk.wf.ok.c0] at hp;cases hp;decide
 ·rw [hk.wf.ok.c1] at hp;cases hp;decide
theorem C9 (b:Nat) (B:RB) (x y:Nat) (K:KV) (T:List DM) (q:aA) (r:Nat) (V:List Nat) (S H M:DM) (w:World) (hM:uF w b B x y K T q S H M) (hS:QW K x y V S H M) (hv:V.Nodup) (ht:K.A.tk r=true) (h2:r<2) :
  Calls Tryz.prog 66 (#[.int .u32 r]++B.caps) w fun e w'=>e=.returned (.tuple #[])/\Uk b B x y K T q V r w w':=by
 obtain ⟨p,hp,aH⟩:=ag.tk_iff.1 ht;have Oj:=hM.ker.ok.const_vI h2 hp;have HN:=Lib.hid (jC b r K T q p w hM.ker.mem (by omega) hp aH)
 have HE:Hid (∀ z,af [] w z->Uk b B x y K T q V r w z):=fun z u=>⟨[],S,H,M,lM.none hv (.inl h2),by simpa using hS,hM.keep u,u.mono (by simp)⟩
 have ck0:=ae (j:=0) hM.bk rfl
 show Calls _ _ #[.int .u32 r,.pointer (some ⟨B.kk,0,none⟩),.pointer (some ⟨B.sk,0,none⟩),.pointer (some ⟨B.xb,0,none⟩),.pointer (some ⟨B.yb,0,none⟩),.pointer (some ⟨B.hk,0,none⟩),.pointer (some ⟨B.mo,0,none⟩),.pointer (some ⟨B.wk,0,none⟩)] _ _
 generalize p.var=v at *;generalize p.lo=lo at *;generalize p.hi=hi at *;clear hM hS hv hp aH ht
 go_enter Tryz.func66,Tryz.ntmps66
 go_wp2_with fail;refine HN.out.mono ?_;rintro e w1 ⟨rfl,hu⟩;have hb:=heap_alloc_new w1 (.cells #[.int .i64 v,.int .u32 lo,.int .u32 hi] 142 (0,0));have HU:=Lib.hid (hu.alloc (.cells #[.int .i64 v,.int .u32 lo,.int .u32 hi] 142 (0,0)));have x0:=ae (j:=0) hb rfl;clear hu hb;go_wp2_with fail;refine bodyPost_ret (results_none rfl _ _ _) rfl ⟨rfl,HE.out _ HU.out⟩
theorem Fa (b:Nat) (B:RB) (x y:Nat) (K:KV) (T:List DM) (q:aA) (r:Nat) (V:List Nat) (S H M:DM) (w:World) (hM:uF w b B x y K T q S H M) (hS:QW K x y V S H M) (hv:V.Nodup) (ht:K.A.tk r=true) (h2:2<=r) (xO:r∈V) :
  Calls Tryz.prog 66 (#[.int .u32 r]++B.caps) w fun e w'=>e=.returned (.tuple #[])/\Uk b B x y K T q V r w w':=by
 have dY:=hM.ker.ok;have oP:=dY.ref_lt ht
 have hr:r<=4294967295:=by omega
 obtain ⟨p,v,hp,aH,mr,gG,KO,KP,qP⟩:=dY.wf.node_at h2 ht;have HN:=Lib.hid (jC b r K T q p w hM.ker.mem hr hp aH);rw [mr] at HN
 have HE:Hid (∀ z,af [] w z->Uk b B x y K T q V r w z):=fun z u=>⟨[],S,H,M,lM.none hv (.inr xO),by simpa using hS,hM.keep u,u.mono (by simp)⟩
 have HM:=Lib.hid hM;have HS:=Lib.hid hS;have ck0:=ae (j:=0) hM.bk rfl
 show Calls _ _ #[.int .u32 r,.pointer (some ⟨B.kk,0,none⟩),.pointer (some ⟨B.sk,0,none⟩),.pointer (some ⟨B.xb,0,none⟩),.pointer (some ⟨B.yb,0,none⟩),.pointer (some ⟨B.hk,0,none⟩),.pointer (some ⟨B.mo,0,none⟩),.pointer (some ⟨B.wk,0,none⟩)] _ _
 generalize p.lo=lo at *;generalize p.hi=hi at *;clear hM hS hv hp aH ht dY mr gG KO KP qP
 go_enter Tryz.func66,Tryz.ntmps66
 go_wp2_with fail;refine HN.out.mono ?_;rintro e w1 ⟨rfl,hu⟩;have hb:=heap_alloc_new w1 (.cells #[.int .i64 (v:Int),.int .u32 lo,.int .u32 hi] 142 (0,0));have kY:=hu.alloc (.cells #[.int .i64 (v:Int),.int .u32 lo,.int .u32 hi] 142 (0,0));have HU:=Lib.hid kY;have x0:=ae (j:=0) hb rfl;have Ie:=HM.out.keep kY;obtain ⟨c,lX,bI,_⟩:=Ie.ms.lookup_int nD Tryz.underlying139 Tryz.underlying3 (Ar _) (keyOf_int_mk Tryz.underlying77 (jO hr))
 have hc:c=1:=by
  have:=HS.out.s.at_ r hr ((HS.out.s.has r hr).2 xO) (.lit (.int .i64 0));rw [this] at bI
  simpa using bI.symm
 subst hc;have UR:=ae (j:=0) Ie.bs rfl
 have Oj:¬ ((v:Int)<0):=by omega
 clear hu hb Ie bI;go_wp2_with fail;refine bodyPost_ret (results_none rfl _ _ _) rfl ⟨rfl,HE.out _ HU.out⟩
structure PD (b:Nat) (B:RB) (x y:Nat) (K:KV) (T:List DM) (q:aA) (V:List Nat) (S:DM) (w9 wc:World):Prop where
 ex:∃ (H M:DM),uF wc b B x y K T q S H M/\QW K x y V S H M/\af [B.hm,B.mm] w9 wc
theorem KV.haveQ_at {K:KV} {x s:Nat} {p:au} (hp:K.A.list[s]?=some p):K.haveQ x s=if p.var=(x:Int) then [(p.lo,p.hi)] else []:=by simp [KV.haveQ,hp]
theorem KV.moreQ_at {K:KV} {x y s:Nat} {p:au} (hp:K.A.list[s]?=some p):K.moreQ x y s=if p.var=(x:Int)/\(K.vI p.lo=(y:Int)\/K.vI p.hi=(y:Int)) then [((K.part y p.lo).1,(K.part y p.hi).1),((K.part y p.lo).2,(K.part y p.hi).2)] else []:=by simp [KV.moreQ,hp]
theorem KV.Ok.part_lt {K:KV} (hk:K.Ok) {r y:Nat} (ht:K.A.tk r=true):(K.part y r).1<1048576/\(K.part y r).2<1048576:=by
 obtain ⟨p,hp,aH⟩:=ag.tk_iff.1 ht;have oP:=hk.ref_lt ht;unfold KV.part;rw [hp]
 dsimp only
 by_cases h2:2<=r
 ·obtain ⟨a,b⟩:=hk.wf.cl r p h2 hp aH
  split
  ·exact ⟨hk.ref_lt a,hk.ref_lt b⟩
  ·exact ⟨oP,oP⟩
 ·have h:r=0\/r=1:=by omega
  rcases h with rfl | rfl
  ·rw [hk.wf.ok.c0] at hp;cases hp
   rw [if_neg (by simp)];exact ⟨oP,oP⟩
  ·rw [hk.wf.ok.c1] at hp;cases hp
   rw [if_neg (by simp)];exact ⟨oP,oP⟩
theorem IJ (b:Nat) (B:RB) (x y:Nat) (K:KV) (T:List DM) (q:aA) (r:Nat) (V:List Nat) (S H M:DM) (w:World) (hM:uF w b B x y K T q S H M) (hS:QW K x y V S H M) (hv:V.Nodup) (ht:K.A.tk r=true) (h2:2<=r) (XI:r∉V) (IH:QX b B x y K T q (K.dep r+1)) :
  Calls Tryz.prog 66 (#[.int .u32 r]++B.caps) w fun e w'=>e=.returned (.tuple #[])/\Uk b B x y K T q V r w w':=by
 have dY:=hM.ker.ok;have oP:=dY.ref_lt ht
 have hr:r<=4294967295:=by omega
 obtain ⟨p,v,hp,aH,mr,gG,KO,KP,qP⟩:=dY.wf.node_at h2 ht;have hb:=dY.ord.below dY.wf h2 hp aH;have HN:=Lib.hid (jC b r K T q p w hM.ker.mem hr hp aH);rw [mr] at HN;have XJ:=dY.ref_lt KO;have XK:=dY.ref_lt KP;have Qy:=dY.part_lt (y:=y) KO;have WB:=dY.part_lt (y:=y) KP
 have HSL:Hid (∀ z,af B.maps w z->Calls Tryz.prog 68 #[.pointer (some ⟨b,0,none⟩),.int .u32 p.lo,.int .i64 y] z fun e w'=>e=.returned (.tuple #[.int .u32 (K.part y p.lo).1,.int .u32 (K.part y p.lo).2,.bool (decide (K.vI p.lo=(y:Int)))])/\af [] z w'):=fun z u =>
  wO b p.lo y K T q z (hM.ker.upd u hM.dq) KO
 have HSH:Hid (∀ z,af B.maps w z->Calls Tryz.prog 68 #[.pointer (some ⟨b,0,none⟩),.int .u32 p.hi,.int .i64 y] z fun e w'=>e=.returned (.tuple #[.int .u32 (K.part y p.hi).1,.int .u32 (K.part y p.hi).2,.bool (decide (K.vI p.hi=(y:Int)))])/\af [] z w'):=fun z u =>
  wO b p.hi y K T q z (hM.ker.upd u hM.dq) KP
 have HP:=Lib.hid (And.intro hp (And.intro aH (And.intro mr (And.intro KO (And.intro KP (And.intro hb hv))))));have eH:=KV.haveQ_at (x:=x) hp;have eM:=KV.moreQ_at (x:=x) (y:=y) hp;rw [mr] at eH eM;have Ze:=Lib.hid eH;have Zf:=Lib.hid eM;have HM:=Lib.hid hM;have HS:=Lib.hid hS;have UU:=Lib.hid IH;have ck0:=ae (j:=0) hM.bk rfl
 show Calls _ _ #[.int .u32 r,.pointer (some ⟨B.kk,0,none⟩),.pointer (some ⟨B.sk,0,none⟩),.pointer (some ⟨B.xb,0,none⟩),.pointer (some ⟨B.yb,0,none⟩),.pointer (some ⟨B.hk,0,none⟩),.pointer (some ⟨B.mo,0,none⟩),.pointer (some ⟨B.wk,0,none⟩)] _ _
 obtain ⟨lo,pG⟩ : ∃ lo,p.lo=lo:=⟨_,rfl⟩;obtain ⟨hi,xy⟩ : ∃ hi,p.hi=hi:=⟨_,rfl⟩;have Fb:=Lib.hid (And.intro pG xy);rw [pG] at HN HSL Ze Zf XJ Qy;rw [xy] at HN HSH Ze Zf XK WB;clear hM hS hv hp aH ht dY mr KO KP qP hb IH eH eM pG xy
 go_enter Tryz.func66,Tryz.ntmps66
 go_wp2_with fail;refine HN.out.mono ?_;rintro e w1 ⟨rfl,hu⟩;have bf:=heap_alloc_new w1 (.cells #[.int .i64 (v:Int),.int .u32 lo,.int .u32 hi] 142 (0,0));have kY:=hu.alloc (.cells #[.int .i64 (v:Int),.int .u32 lo,.int .u32 hi] 142 (0,0));have Ie:=HM.out.keep kY;obtain ⟨w2,eQ⟩ : ∃ w2,w1.alloc (.cells #[.int .i64 (v:Int),.int .u32 lo,.int .u32 hi] 142 (0,0))=w2:=⟨_,rfl⟩;rw [eQ] at bf kY Ie;have JX:w.heap.size<=w1.heap.size:=hu.size;have tY:=Lib.hid eQ;obtain ⟨c,lX,bI,_⟩:=Ie.ms.lookup_int nD Tryz.underlying139 Tryz.underlying3 (Ar _) (keyOf_int_mk Tryz.underlying77 (jO hr))
 have bM:Maps.has S (.int .u32 r)=false:=by
  cases e:Maps.has S (.int .u32 r) with
  | false=>rfl
  | true=>exact absurd ((HS.out.s.has r hr).1 e) XI
 have hc:c=0:=by
  rw [atKey_of_not_has bM] at bI
  simpa using bI.symm
 subst hc;have df:=IK HS.out.s (Ie.ms.canon nD) (Ie.ms.tidy nD);obtain ⟨w9,aeB,aJ,rX⟩:=Ie.ms.store nD Tryz.underlying139 df (keyOf_int_mk Tryz.underlying77 (jO hr)) (plainElem_int (H:=Unit) Tryz.underlying3 (vN (n:=1) (by omega) (by omega)));have KE:=iD rX;have hM9:=Ie.seen KE (jh aJ);have UR:=ae (j:=0) Ie.bs rfl;have cx9:=ae (j:=0) hM9.bx rfl;have hml:B.sm<w.heap.size/\B.hm<w.heap.size/\B.mm<w.heap.size:=⟨HM.out.ms.lt,HM.out.mh.lt,HM.out.mm.lt⟩
 have abT:w1.heap.size∉B.maps:=by simp [RB.maps];omega
 have Ul:=(KE.block _ (aj bf) (by simp;omega)).trans bf
 have oz:Hid (∀ z,af B.maps w9 z->z.cell? ⟨w1.heap.size,0,none⟩=some (.int .i64 (v:Int))/\z.cell? ⟨w1.heap.size,1,none⟩=some (.int .u32 lo)/\z.cell? ⟨w1.heap.size,2,none⟩=some (.int .u32 hi)):=fun z u=>by
  have h:=(u.block _ (aj Ul) abT).trans Ul;exact ⟨ae h rfl,ae h rfl,ae h rfl⟩
 have x0:=ae (j:=0) bf rfl;obtain ⟨z0,z1,z2⟩:=oz.out _ (af.refl _ _);have HU9:Hid (af B.maps w w9):=(kY.mono (by simp):af B.maps w w2).trans (KE.mono (by simp [RB.maps]));have Zg:=Lib.hid hM9;have HS9:=Lib.hid (HS.out.s.put oP)
 have UK:Hid ((V++[r]).Nodup):=by
  show (V++[r]).Nodup
  rw [List.nodup_append];refine ⟨HP.out.2.2.2.2.2.2,by simp,fun a ha c hc=>?_⟩
  simp at hc;subst hc
  rintro rfl;exact XI ha
 have Oj:¬ ((v:Int)<0):=by omega
 obtain ⟨bb,xJ⟩ : ∃ bb,((v:Int) == (x:Int))=bb:=⟨_,rfl⟩
 have FK:Hid (bb=decide ((v:Int)=(x:Int))):=by show bb=_;rw [<- xJ];rfl
 generalize XL:w1.heap.size=w2s at *;have U7:=Lib.hid XL;clear hu bf Ul kY Ie eQ bI aJ rX KE hM9 df bM JX hml XL;go_upto_region 1 with fail;rw [tY.out,U7.out];go_upto_if 37 with fail
 go_cut [] from 38 to 73 (fun wc=>PD b B x y K T q (V++[r]) (S.put (.int .u32 r) (.lit (.int .i64 1))) w9 wc)
 case first =>
  cases bb with
  | false =>
   have hne:¬ ((v:Int)=(x:Int)):=by simpa using FK.out
   have e1:K.haveQ x r=[]:=by rw [Ze.out,if_neg hne]
   have e2:K.moreQ x y r=[]:=by rw [Zf.out,if_neg fun h=>hne h.1]
   have HR:Hid (PD b B x y K T q (V++[r]) (S.put (.int .u32 r) (.lit (.int .i64 1))) w9 w9) :=
    ⟨H,M,Zg.out,⟨HS9.out,by rw [List.flatMap_append];simpa [e1] using HS.out.h,by rw [List.flatMap_append];simpa [e2] using HS.out.m⟩,af.refl _ _⟩
   clear hne e1 e2;go_wp2_with fail;go_meet;exact HR.out
  | true =>
   have RS:(v:Int)=(x:Int):=by simpa using FK.out
   have cy9:=ae (j:=0) Zg.out.by_ rfl;have ck9:=ae (j:=0) Zg.out.bk rfl;obtain ⟨l0,sW⟩ : ∃ l0,(K.part y lo).1=l0:=⟨_,rfl⟩;obtain ⟨l1,oW⟩ : ∃ l1,(K.part y lo).2=l1:=⟨_,rfl⟩;obtain ⟨h0,CJ⟩ : ∃ h0,(K.part y hi).1=h0:=⟨_,rfl⟩;obtain ⟨h1,OM⟩ : ∃ h1,(K.part y hi).2=h1:=⟨_,rfl⟩;obtain ⟨aa,XM⟩ : ∃ aa,decide (K.vI lo=(y:Int))=aa:=⟨_,rfl⟩;obtain ⟨ab,tJ⟩ : ∃ ab,decide (K.vI hi=(y:Int))=ab:=⟨_,rfl⟩;rw [sW,oW,XM] at HSL;rw [CJ,OM,tJ] at HSH;rw [sW,oW] at Qy;rw [CJ,OM] at WB
   have e1:K.haveQ x r=[(lo,hi)]:=by rw [Ze.out,if_pos RS]
   have e2:K.moreQ x y r=if (aa||ab)=true then [(l0,h0),(l1,h1)] else []:=by
    rw [Zf.out,sW,oW,CJ,OM,<- XM,<- tJ]
    by_cases h1:K.vI lo=(y:Int)\/K.vI hi=(y:Int)
    ·rw [if_pos ⟨RS,h1⟩,if_pos (by simpa using h1)]
    ·rw [if_neg fun h=>h1 h.2,if_neg (by simpa using h1)]
   have HE1:=Lib.hid e1;have J3:=Lib.hid e2;have O6:=Lib.hid (HSL.out _ HU9.out);clear RS e1 e2 sW oW CJ OM XM tJ cx9;go_wp2_with fail;refine O6.out.mono ?_;rintro e w3 ⟨rfl,eu⟩;have Gn:=Lib.hid (HSH.out _ (HU9.out.trans (eu.mono (by simp))));have Zh:=Zg.out.keep eu;have OT:=Lib.hid Zh;have cy3:=ae (j:=0) Zh.by_ rfl;have ck3:=ae (j:=0) Zh.bk rfl;obtain ⟨a0,a1,a2⟩:=oz.out _ (eu.mono (by simp));have jQ:=Lib.hid eu;clear Zh eu cy9 ck9 z0 z1 z2;go_wp2_with fail;refine Gn.out.mono ?_;rintro e w4 ⟨rfl,xB⟩;have Og:=OT.out.keep xB;have ch4:=ae (j:=0) Og.bh rfl;obtain ⟨z0,z1,z2⟩:=oz.out _ ((jQ.out.trans xB).mono (by simp));obtain ⟨w5,aeD,QY,MF⟩:=Og.mh.store cO Tryz.underlying138 (nN HS.out.h (Og.mh.canon cO) (Og.mh.tidy cO)) (wM (a:=lo) (b:=hi) (by omega) (by omega)) (plainElem_int (H:=Unit) Tryz.underlying3 (vN (n:=1) (by omega) (by omega)));have nU:=iD MF;have XN:=Og.have_ nU (jh QY)
   have XO:iq ((V++[r]).flatMap (K.haveQ x)) (H.put (lk lo hi) (.lit (.int .i64 1))):=by
    rw [List.flatMap_append];simpa [HE1.out] using HS.out.h.put XJ XK
   have qH:=Lib.hid XN;have Ld:=Lib.hid XO;have DC:Hid (af [B.hm,B.mm] w9 w5):=((jQ.out.trans xB).mono (by simp)).trans (nU.mono (by simp));clear Og xB QY MF nU XN XO a0 a1 a2 cy3 ck3;obtain ⟨cc,Pv⟩ : ∃ cc,(aa||ab)=cc:=⟨_,rfl⟩;rw [Pv] at J3
   cases cc with
   | false =>
    have XM:aa=false:=by cases aa <;> simp_all
    have tJ:ab=false:=by cases ab <;> simp_all
    subst XM tJ
    have HR:Hid (PD b B x y K T q (V++[r]) (S.put (.int .u32 r) (.lit (.int .i64 1))) w9 w5) :=
     ⟨_,M,qH.out,⟨HS9.out,Ld.out,by rw [List.flatMap_append];simpa [J3.out] using HS.out.m⟩,DC.out⟩
    clear Pv;go_wp2_with fail;go_meet;exact HR.out
   | true =>
    have cm5:=ae (j:=0) qH.out.bm rfl;obtain ⟨w6,aeE,Dc,MG⟩:=qH.out.mm.store cO Tryz.underlying138 (nN HS.out.m (qH.out.mm.canon cO) (qH.out.mm.tidy cO)) (wM (a:=l0) (b:=h0) (by omega) (by omega)) (plainElem_int (H:=Unit) Tryz.underlying3 (vN (n:=1) (by omega) (by omega)));have nP:=iD MG;have Vj:=qH.out.more nP (jh Dc);have hS6:=HS.out.m.put (a:=l0) (b:=h0) (by omega) (by omega);have cm6:=ae (j:=0) Vj.bm rfl;obtain ⟨w7,aeF,QZ,MH⟩:=Vj.mm.store cO Tryz.underlying138 (nN hS6 (Vj.mm.canon cO) (Vj.mm.tidy cO)) (wM (a:=l1) (b:=h1) (by omega) (by omega)) (plainElem_int (H:=Unit) Tryz.underlying3 (vN (n:=1) (by omega) (by omega)));have um:=iD MH;have hM7:=Vj.more um (jh QZ);have hS7:=hS6.put (a:=l1) (b:=h1) (by omega) (by omega)
    have HR:Hid (PD b B x y K T q (V++[r]) (S.put (.int .u32 r) (.lit (.int .i64 1))) w9 w7) :=
     ⟨_,_,hM7,⟨HS9.out,Ld.out,by rw [List.flatMap_append];simpa [J3.out] using hS7⟩,DC.out.trans ((nP.trans um).mono (by simp))⟩
    have hor:aa=true\/(aa=false/\ab=true):=by cases aa <;> simp_all
    clear Dc MG nP Vj hS6 QZ MH um hM7 hS7 Pv
    rcases hor with rfl | ⟨rfl,rfl⟩
    ·go_wp2_with fail
     go_meet;exact HR.out
    ·go_wp2_with fail
     go_meet;exact HR.out
 case rest =>
  obtain ⟨H1,M1,hMc,hSc,huc⟩:=hcut.ex
  have Q3:∀ k,k∈[B.hm,B.mm]->k∈B.maps:=fun k hk=>by simp [RB.maps] at hk ⊢;exact .inr hk
  have Jm:Hid (af B.maps w9 wc):=huc.mono Q3;obtain ⟨a0,a1,a2⟩:=oz.out _ Jm.out;have cw:=ae (j:=0) hMc.bw rfl;unfold RB.caps at cw;have EC:=Lib.hid (UU.out p.lo (V++[r]) _ H1 M1 wc hMc hSc UK.out HP.out.2.2.2.1 HP.out.2.2.2.2.2.1.1);rw [Fb.out.1] at EC;clear hMc hSc huc hcut Q3 cx9 z0 z1 z2;go_wp2_with fail;refine EC.out.mono ?_;rintro e w4 ⟨rfl,hQ⟩;obtain ⟨N0,S4,H4,M4,hN0,hS4,Og,xB⟩:=hQ.ex;have zA:=Lib.hid (Jm.out.trans xB);obtain ⟨b0,b1,b2⟩:=oz.out _ zA.out;have XP:=ae (j:=0) Og.bw rfl;unfold RB.caps at XP;have lH:=Lib.hid (UU.out p.hi (V++[r]++N0) S4 H4 M4 w4 Og hS4 hN0.nd HP.out.2.2.2.2.1 HP.out.2.2.2.2.2.1.2);rw [Fb.out.2] at lH;have H4':=Lib.hid hN0;clear hQ hN0 hS4 Og xB a0 a1 a2 cw;go_wp2_with fail;refine lH.out.mono ?_;rintro e w5 ⟨rfl,hQ⟩;obtain ⟨N1,S5,H5,M5,hN1,XO,XN,nU⟩:=hQ.ex
  have HE:Hid (Uk b B x y K T q V r w w5):=by
   have e:V++r::(N0++N1)=V++[r]++N0++N1:=by simp
   refine ⟨r::(N0++N1),S5,H5,M5,lM.node h2 (ag.tk_iff.2 ⟨p,HP.out.1,HP.out.2.1⟩) HP.out.1 (by rw [Fb.out.1];exact H4'.out) (by rw [Fb.out.2];exact hN1),by rw [e];exact XO,XN,HU9.out.trans (zA.out.trans nU)⟩
  clear hQ hN1 XO XN nU b0 b1 b2 XP;go_wp2_with fail;go_end0;exact ⟨rfl,HE.out⟩
theorem sN (b:Nat) (B:RB) (x y:Nat) (K:KV) (T:List DM) (q:aA):∀ (n d:Nat),K.vars+1-d<=n->QX b B x y K T q d
 | n,d,hn=>by
  intro r V S H M w hM hS hv ht hd
  have dY:=hM.ker.ok
  by_cases h2:2<=r
  ·have hl:=dY.wf.dep_lt dY.ord h2 ht
   by_cases xO:r∈V
   ·exact Fa b B x y K T q r V S H M w hM hS hv ht h2 xO
   ·match n,hn with
    | 0,hn=>omega
    | n+1,hn =>
     exact IJ b B x y K T q r V S H M w hM hS hv ht h2 xO (sN b B x y K T q n (K.dep r+1) (by omega))
  ·exact C9 b B x y K T q r V S H M w hM hS hv ht (by omega)
structure WalkA (K:KV) (V rs N:List Nat):Prop where
 nd:(V++N).Nodup
 has:∀ r,r∈rs->2<=r->r∈V++N
 two:∀ x,x∈N->2<=x/\K.A.tk x=true
 under:∀ x,x∈N->∃ r,r∈rs/\K.Under r x
 kids:∀ (x:Nat) (p:au),x∈N->K.A.list[x]?=some p->(p.lo<2\/p.lo∈V++N)/\(p.hi<2\/p.hi∈V++N)
theorem iw.alls {K:KV} {V rs N:List Nat} (h:iw K V rs N):V.Nodup->WalkA K V rs N:=by
 induction h with
 | nil V=>intro hv;exact ⟨by simpa using hv,by simp,by simp,by simp,by simp⟩
 | @cons V N N' r rs h t ih =>
  intro hv
  have a:=ih h.nd
  have e:V++(N++N')=V++N++N':=by simp
  refine ⟨by rw [e];exact a.nd,fun s hs h2=>?_,fun x hx=>?_,fun x hx=>?_,fun x p hx hp=>?_⟩
  ·rw [e]
   rcases List.mem_cons.1 hs with rfl | hs
   ·exact List.mem_append.2 (.inl (h.has h2))
   ·exact a.has s hs h2
  ·rcases List.mem_append.1 hx with hx | hx
   ·exact h.two x hx
   ·exact a.two x hx
  ·rcases List.mem_append.1 hx with hx | hx
   ·exact ⟨r,by simp,h.under x hx⟩
   ·obtain ⟨s,hs,hu⟩:=a.under x hx
    exact ⟨s,by simp [hs],hu⟩
  ·rw [e]
   rcases List.mem_append.1 hx with hx | hx
   ·obtain ⟨k1,k2⟩:=h.kids x p hx hp
    exact ⟨k1.imp_right fun k=>List.mem_append.2 (.inl k),k2.imp_right fun k=>List.mem_append.2 (.inl k)⟩
   ·exact a.kids x p hx hp
end Go.Proofs.YtdackeldhdchaaaGreat
namespace Go.Proofs.YtdackeldhdchaaaGreat
open Go.RowKit
theorem KV.Ok.root_above {K:KV} (hk:K.Ok) {r:Nat} (h2:2<=r) (ht:K.A.tk r=true):∃ f,0<K.hold f/\K.Under f r:=by
 have hr:=KV.live_reach hk.wf hk.pos hk.ord _ r h2 ht (Nat.le_refl _)
 have key:∀ s,K.Reach s->2<=s->∃ f,0<K.hold f/\K.Under f s:=fun s hs=>by
  induction hs with
  | root hh=>intro h2;exact ⟨_,hh,.refl h2⟩
  | lo hq DR hqp _ ih =>
   intro h2
   obtain ⟨f,hf,hu⟩:=ih DR;exact ⟨f,hf,.lo hu hqp h2⟩
  | hi hq DR hqp _ ih =>
   intro h2
   obtain ⟨f,hf,hu⟩:=ih DR;exact ⟨f,hf,.hi hu hqp h2⟩
 exact key r hr h2
theorem WalkA.below {K:KV} {rs N:List Nat} {s x:Nat} (a:WalkA K [] rs N) (hs:s∈rs) (hu:K.Under s x):x∈N:=by
 induction hu with
 | refl h2=>simpa using a.has s hs h2
 | lo _ hp h2 ih =>
  rcases (a.kids _ _ ih hp).1 with h3 | h3
  ·omega
  ·simpa using h3
 | hi _ hp h2 ih =>
  rcases (a.kids _ _ ih hp).2 with h3 | h3
  ·omega
  ·simpa using h3
end Go.Proofs.YtdackeldhdchaaaGreat
namespace Go.Proofs.YtdackeldhdchaaaGreat
open Go.RowKit Go.Maps Go.ChangeMaps Go.WideShapes
theorem zg {K:KV} {x s:Nat} {q:Nat × Nat}:q∈K.haveQ x s↔∃ p,K.A.list[s]?=some p/\p.var=(x:Int)/\q=(p.lo,p.hi):=by
 unfold KV.haveQ
 cases h:K.A.list[s]? with
 | none=>simp
 | some p =>
  by_cases hv:p.var=(x:Int)
  ·simp [hv]
  ·simp [hv]
theorem MI {K:KV} (_hk:K.Ok) {V:List Nat} (hV:∀ s,s∈V↔2<=s/\K.A.tk s=true) (x:Nat) (q:Nat × Nat):q∈V.flatMap (K.haveQ x)↔K.has3 x q.1 q.2:=by
 rw [List.mem_flatMap];constructor
 ·rintro ⟨s,hs,hq⟩
  obtain ⟨p,hp,hv,rfl⟩:=zg.1 hq;obtain ⟨h2,ht⟩:=(hV s).1 hs;obtain ⟨p',kE,aH⟩:=ag.tk_iff.1 ht
  rw [hp] at kE;cases kE
  exact ⟨s,p,h2,hp,aH,hv,rfl,rfl⟩
 ·rintro ⟨s,p,h2,hp,aH,hv,e1,e2⟩
  exact ⟨s,(hV s).2 ⟨h2,ag.tk_iff.2 ⟨p,hp,aH⟩⟩,zg.2 ⟨p,hp,hv,by rw [e1,e2]⟩⟩
theorem MJ {K:KV} (_hk:K.Ok) {V:List Nat} (hV:∀ s,s∈V↔2<=s/\K.A.tk s=true) {l x y:Nat} {C:List bV} (CA:gI K l x y C) (q:Nat × Nat):q∈V.flatMap (K.moreQ x y)↔q∈C.flatMap bV.qs:=by
 rw [List.mem_flatMap,List.mem_flatMap]
 have key:∀ {c:bV},c∈C->K.moreQ x y c.r=c.qs:=fun {c} hc=>by
  obtain ⟨p,F,hv,_,_⟩:=(CA.ok c hc).ex;have qW:=(CA.ok c hc).cr;obtain ⟨_,p',kE,_,_,dD⟩:=qW
  rw [F.at_] at kE;cases kE
  rw [KV.moreQ_at F.at_,if_pos ⟨hv,dD⟩,F.e0,F.e1];rfl
 constructor
 ·rintro ⟨s,hs,hq⟩
  obtain ⟨h2,ht⟩:=(hV s).1 hs;obtain ⟨p,hp,aH⟩:=ag.tk_iff.1 ht
  by_cases hc:p.var=(x:Int)/\(K.vI p.lo=(y:Int)\/K.vI p.hi=(y:Int))
  ·obtain ⟨c,Ud,rfl⟩:=List.mem_map.1 (CA.all s ⟨h2,p,hp,aH,hc.1,hc.2⟩)
   rw [key Ud] at hq;exact ⟨c,Ud,hq⟩
  ·rw [KV.moreQ_at hp,if_neg hc] at hq;simp at hq
 ·rintro ⟨c,hc,hq⟩
  obtain ⟨h2,p,hp,aH,_⟩:=(CA.ok c hc).cr;exact ⟨c.r,(hV _).2 ⟨h2,ag.tk_iff.2 ⟨p,hp,aH⟩⟩,by rw [key hc];exact hq⟩
theorem IL {Q:List (Nat × Nat)} {D:DM} (h:iq Q D) (hc:Maps.Canon D) (ht:Tidy D):Maps.size D<=1099511627776:=by
 have:=gZ hc (ks:=(List.range 1048576).flatMap fun a=>(List.range 1048576).map fun b=>lk a b) (fun k hk=>by
  obtain ⟨a,b,rfl,ha,hb⟩:=h.dom k hk
  exact List.mem_flatMap.2 ⟨a,List.mem_range.2 ha,List.mem_map.2 ⟨b,List.mem_range.2 hb,rfl⟩⟩) ht
 rw [zf] at this;omega
structure sO (Q:List (Nat × Nat)) (left:Lit->Bool) (ps:List (Nat × Nat)):Prop where
 nd:ps.Nodup
 lt:∀ p,p∈ps->p.1<1048576/\p.2<1048576
 iff:∀ p:Nat × Nat,p.1<1048576->p.2<1048576->(p∈ps↔p∈Q/\left (lk p.1 p.2)=false)
theorem sO.start {Q:List (Nat × Nat)} {D:DM} (h:iq Q D):sO Q (Maps.has D) [] :=
 ⟨by simp,by simp,fun p h1 h2=>by
  have:=h.has p.1 p.2 (by omega) (by omega);constructor
  ·intro h;simp at h
  ·rintro ⟨h3,h4⟩
   rw [this.2 h3] at h4;cases h4⟩
theorem sO.step {Q:List (Nat × Nat)} {left:Lit->Bool} {ps:List (Nat × Nat)} {a b:Nat} (h:sO Q left ps) (ha:a<1048576) (hb:b<1048576) (hQ:(a,b)∈Q) (hl:left (lk a b)=true):sO Q (fun z=>left z&&!z.sameKey (lk a b)) (ps++[(a,b)]):=by
 refine ⟨?_,fun p hp=>?_,fun p h1 h2=>?_⟩
 ·rw [List.nodup_append]
  refine ⟨h.nd,by simp,fun c hc d hd=>?_⟩
  simp at hd;subst hd
  rintro rfl;have:=((h.iff _ ha hb).1 hc).2
  rw [hl] at this;cases this
 ·rcases List.mem_append.1 hp with hp | hp
  ·exact h.lt p hp
  ·simp at hp;subst hp;exact ⟨ha,hb⟩
 ·rw [List.mem_append,h.iff p h1 h2]
  by_cases e:p=(a,b)
  ·subst e;simp [hQ,WideAt.sameKey_self (MC a b)]
  ·have hne:lk p.1 p.2≠lk a b:=fun h3=>by
    obtain ⟨e1,e2⟩:=MB (by omega) (by omega) (by omega) (by omega) h3;exact e (by rw [<- e1,<- e2])
   simp [e,sameKey_ne hne]
def mf (H:List (Nat × Nat)) (ps:List (Nat × Nat)):Nat:=(ps.filter fun p=>decide (p.1≠p.2)&&decide (p∉H)).length
theorem rC (H ps:List (Nat × Nat)) (p:Nat × Nat):mf H (ps++[p])=mf H ps+if p.1≠p.2/\p∉H then 1 else 0:=by
 unfold mf;rw [List.filter_append,List.length_append]
 by_cases h:p.1≠p.2/\p∉H
 ·simp [h.1,h.2]
 ·rw [if_neg h]
  have:List.filter (fun p=>decide (p.1≠p.2)&&decide (p∉H)) [p]=[]:=by
   rw [List.filter_eq_nil_iff]
   intro a ha
   simp only [List.mem_singleton] at ha;subst ha
   simpa [Decidable.not_and_iff_or_not] using h
  rw [this];rfl
theorem PE (H ps:List (Nat × Nat)):mf H ps<=ps.length:=List.length_filter_le _ _
theorem Fe {K:KV} (hk:K.Ok) {V:List Nat} (hV:∀ s,s∈V↔2<=s/\K.A.tk s=true) {l x y:Nat} {D:DM} (_hM:iq (V.flatMap (K.moreQ x y)) D) {ps:List (Nat × Nat)} {left:Lit->Bool} (h:sO (V.flatMap (K.moreQ x y)) left ps) (hl:∀ k,left k=false)
  {C:List bV} {N:List (Nat × Nat)} (CA:gI K l x y C) (F:lI K x (C.flatMap bV.qs) N):mf (V.flatMap (K.haveQ x)) ps=N.length:=by
 have key:∀ q,q∈ps.filter (fun p=>decide (p.1≠p.2)&&decide (p∉V.flatMap (K.haveQ x)))↔q∈N:=fun q=>by
  rw [List.mem_filter,F.iff,<- MJ hk hV CA]
  simp only [Bool.and_eq_true,decide_eq_true_eq,MI hk hV]
  constructor
  ·rintro ⟨h1,h2⟩
   obtain ⟨h3,h4⟩:=h.lt q h1;exact ⟨((h.iff q h3 h4).1 h1).1,h2⟩
  ·rintro ⟨h1,h2⟩
   obtain ⟨s,hs,hq⟩:=List.mem_flatMap.1 h1
   have aZ:q.1<1048576/\q.2<1048576:=by
    obtain ⟨_,ht⟩:=(hV s).1 hs;obtain ⟨p,hp,aH⟩:=ag.tk_iff.1 ht;rw [KV.moreQ_at hp] at hq;have h2s:=((hV s).1 hs).1;obtain ⟨t1,t2⟩:=hk.wf.cl s p h2s hp aH;have a:=hk.part_lt (y:=y) t1;have b:=hk.part_lt (y:=y) t2
    split at hq
    ·simp at hq
     rcases hq with rfl | rfl
     ·exact ⟨a.1,b.1⟩
     ·exact ⟨a.2,b.2⟩
    ·simp at hq
   exact ⟨(h.iff q aZ.1 aZ.2).2 ⟨h1,hl _⟩,h2⟩
 have e:=((List.perm_ext_iff_of_nodup (h.nd.filter _) F.nd).2 key).length_eq;exact e
theorem iw.all {K:KV} (hk:K.Ok) {N:List Nat} (h:iw K [] K.roots N):∀ s,s∈N↔2<=s/\K.A.tk s=true:=fun s=>by
 have a:=h.alls List.nodup_nil;refine ⟨fun hs=>a.two s hs,fun ⟨h2,ht⟩=>?_⟩;obtain ⟨f,hf,hu⟩:=hk.root_above h2 ht;exact a.below (KV.mem_roots.2 hf) hu
theorem Df (b:Nat) (K:KV) (T:List DM) (q:aA) (w:World) (h:ay w b K T q) :
  Calls Tryz.prog 69 #[.pointer (some ⟨b,0,none⟩)] w fun e w'=>e=.returned (.int .i64 K.A.places)/\w'=w:=by
 have c0:w.cell? ⟨b,0,none⟩=some (.pointer (some ⟨q.a,0,none⟩)):=ae h.blk rfl;have HA:=Lib.hid h.ar;clear h
 go_enter Tryz.func69,Tryz.ntmps69
 go_wp2_with fail;refine (rG q.a q.FA K.A w HA.out).mono ?_;rintro e w1 ⟨rfl,rfl⟩;go_wp2_with fail;go_ret;exact ⟨rfl,rfl⟩
end Go.Proofs.YtdackeldhdchaaaGreat
