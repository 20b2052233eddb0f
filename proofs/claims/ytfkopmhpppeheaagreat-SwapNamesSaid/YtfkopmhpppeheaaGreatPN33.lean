import Derived.Test.YtfkopmhpppeheaaGreatPN32
import Derived.Test.YtfkopmhpppeheaaGreatPN12
import Derived.Test.YtfkopmhpppeheaaGreatPN5
import Derived.Test.YtfkopmhpppeheaaGreatPN20
import Derived.Test.YtfkopmhpppeheaaGreatPN16
import Derived.Test.YtfkopmhpppeheaaGreatPN29
import Derived.Deep.RegionHeld3
set_option maxRecDepth 100000
set_option maxHeartbeats 6400000
namespace Go.Proofs.YtfkopmhpppeheaaGreat
open Go.RowKit Go.Maps Go.ChangeMaps Go.WideShapes
structure RB where
 kk:Nat
 sk:Nat
 xb:Nat
 yb:Nat
 hk:Nat
 mo:Nat
 wk:Nat
 sm:Nat
 hm:Nat
 mm:Nat
def RB.caps (B:RB):Array Value:=#[.pointer (some ⟨B.kk,0,none⟩),.pointer (some ⟨B.sk,0,none⟩),.pointer (some ⟨B.xb,0,none⟩),.pointer (some ⟨B.yb,0,none⟩),.pointer (some ⟨B.hk,0,none⟩),.pointer (some ⟨B.mo,0,none⟩),.pointer (some ⟨B.wk,0,none⟩)]
def RB.maps (B:RB):List Nat:=[B.sm,B.hm,B.mm]
structure Bl (w:World) (b:Nat) (B:RB) (x y:Nat) (K:KV) (T:List DM) (q:aA) (S H M:DM):Prop where
 ker:bV w b K T q
 bk:w.heap[B.kk]?=some (.cells #[.pointer (some ⟨b,0,none⟩)] 40 (0,0))
 bs:w.heap[B.sk]?=some (.cells #[.map (some B.sm)] 114 (0,0))
 bx:w.heap[B.xb]?=some (.cells #[.int .i64 x] 3 (0,0))
 by_:w.heap[B.yb]?=some (.cells #[.int .i64 y] 3 (0,0))
 bh:w.heap[B.hk]?=some (.cells #[.map (some B.hm)] 149 (0,0))
 bm:w.heap[B.mo]?=some (.cells #[.map (some B.mm)] 149 (0,0))
 bw:w.heap[B.wk]?=some (.cells #[.func (Fn.func 75) #[] B.caps] 150 (0,0))
 ms:w.ownsMap Tryz.prog 77 (plainElem Tryz.prog 3) B.sm (Maps.size S) S
 mh:w.ownsMap Tryz.prog 154 (plainElem Tryz.prog 3) B.hm (Maps.size H) H
 mm:w.ownsMap Tryz.prog 154 (plainElem Tryz.prog 3) B.mm (Maps.size M) M
 dq:∀ k,k∈q.all b->k∉B.maps
 ds:B.kk∉B.maps/\B.sk∉B.maps/\B.xb∉B.maps/\B.yb∉B.maps/\B.hk∉B.maps/\B.mo∉B.maps/\B.wk∉B.maps
 dm:B.sm≠B.hm/\B.sm≠B.mm/\B.hm≠B.mm
structure RVs (K:KV) (x y:Nat) (V:List Nat) (S H M:DM):Prop where
 s:sS V S
 h:ku (V.flatMap (K.iR x)) H
 m:ku (V.flatMap (K.um x y)) M
theorem Bl.change {w w':World} {b:Nat} {B:RB} {x y:Nat} {K:KV} {T:List DM} {q:aA} {S H M S' H' M':DM} (h:Bl w b B x y K T q S H M) {Z:List Nat} (u:af Z w w') (hZ:∀ k,k∈Z->k∈B.maps)
  (h1:w'.ownsMap Tryz.prog 77 (plainElem Tryz.prog 3) B.sm (Maps.size S') S') (h2:w'.ownsMap Tryz.prog 154 (plainElem Tryz.prog 3) B.hm (Maps.size H') H') (h3:w'.ownsMap Tryz.prog 154 (plainElem Tryz.prog 3) B.mm (Maps.size M') M'):Bl w' b B x y K T q S' H' M':=by
 have e:∀ {k:Nat} {o:Obj},k∉B.maps->w.heap[k]?=some o->w'.heap[k]?=some o:=fun {k o} hn hk=>by rw [u.block k (ah hk) fun hm=>hn (hZ k hm)];exact hk
 obtain ⟨d1,d2,d3,d4,d5,d6,d7⟩:=h.ds;exact ⟨h.ker.upd u fun k hk hm=>h.dq k hk (hZ k hm),e d1 h.bk,e d2 h.bs,e d3 h.bx,e d4 h.by_,e d5 h.bh,e d6 h.bm,e d7 h.bw,h1,h2,h3,h.dq,h.ds,h.dm⟩
theorem Bl.keep {w w':World} {b:Nat} {B:RB} {x y:Nat} {K:KV} {T:List DM} {q:aA} {S H M:DM} (h:Bl w b B x y K T q S H M) (u:af [] w w'):Bl w' b B x y K T q S H M :=
 h.change u (by simp) (aV h.ms (u.block _ h.ms.lt (by simp))) (aV h.mh (u.block _ h.mh.lt (by simp))) (aV h.mm (u.block _ h.mm.lt (by simp)))
theorem RB.mem (B:RB):B.sm∈B.maps/\B.hm∈B.maps/\B.mm∈B.maps:=by simp [RB.maps]
theorem Bl.seen {w w':World} {b:Nat} {B:RB} {x y:Nat} {K:KV} {T:List DM} {q:aA} {S H M S':DM} (h:Bl w b B x y K T q S H M) (u:af [B.sm] w w') (hm:w'.ownsMap Tryz.prog 77 (plainElem Tryz.prog 3) B.sm (Maps.size S') S'):Bl w' b B x y K T q S' H M :=
 h.change u (fun k hk=>by simp at hk;subst hk;exact B.mem.1) hm (aV h.mh (u.block _ h.mh.lt (by simp;exact h.dm.1.symm))) (aV h.mm (u.block _ h.mm.lt (by simp;exact h.dm.2.1.symm)))
theorem Bl.agE {w w':World} {b:Nat} {B:RB} {x y:Nat} {K:KV} {T:List DM} {q:aA} {S H M H':DM} (h:Bl w b B x y K T q S H M) (u:af [B.hm] w w') (hm:w'.ownsMap Tryz.prog 154 (plainElem Tryz.prog 3) B.hm (Maps.size H') H'):Bl w' b B x y K T q S H' M :=
 h.change u (fun k hk=>by simp at hk;subst hk;exact B.mem.2.1) (aV h.ms (u.block _ h.ms.lt (by simp;exact h.dm.1))) hm (aV h.mm (u.block _ h.mm.lt (by simp;exact h.dm.2.2.symm)))
theorem Bl.more {w w':World} {b:Nat} {B:RB} {x y:Nat} {K:KV} {T:List DM} {q:aA} {S H M M':DM} (h:Bl w b B x y K T q S H M) (u:af [B.mm] w w') (hm:w'.ownsMap Tryz.prog 154 (plainElem Tryz.prog 3) B.mm (Maps.size M') M'):Bl w' b B x y K T q S H M' :=
 h.change u (fun k hk=>by simp at hk;subst hk;exact B.mem.2.2) (aV h.ms (u.block _ h.ms.lt (by simp;exact h.dm.2.1))) (aV h.mh (u.block _ h.mh.lt (by simp;exact h.dm.2.2))) hm
structure RWQ (b:Nat) (B:RB) (x y:Nat) (K:KV) (T:List DM) (q:aA) (V:List Nat) (r:Nat) (w w':World):Prop where
 ex:∃ (N:List Nat) (S H M:DM),rE K V r N/\RVs K x y (V++N) S H M/\Bl w' b B x y K T q S H M/\af B.maps w w'
def aa4 (b:Nat) (B:RB) (x y:Nat) (K:KV) (T:List DM) (q:aA) (d:Nat):Prop :=
 ∀ (r:Nat) (V:List Nat) (S H M:DM) (w:World),Bl w b B x y K T q S H M->RVs K x y V S H M->V.Nodup->K.A.tk r=true->d<=K.dep r ->
  Calls Tryz.prog 75 (#[.int .u32 r]++B.caps) w fun e w'=>e=.returned (.tuple #[])/\RWQ b B x y K T q V r w w'
theorem KV.Ok.Wp {K:KV} (hk:K.Ok) {r:Nat} {p:ak} (h2:r<2) (hp:K.A.list[r]?=some p):p.var<0:=by
 have h:r=0\/r=1:=by omega
 rcases h with rfl | rfl
 ·rw [hk.wf.ok.c0] at hp;cases hp;decide
 ·rw [hk.wf.ok.c1] at hp;cases hp;decide
theorem Kw (b:Nat) (B:RB) (x y:Nat) (K:KV) (T:List DM) (q:aA) (r:Nat) (V:List Nat) (S H M:DM) (w:World) (hM:Bl w b B x y K T q S H M) (hS:RVs K x y V S H M) (hv:V.Nodup) (ht:K.A.tk r=true) (h2:r<2) :
  Calls Tryz.prog 75 (#[.int .u32 r]++B.caps) w fun e w'=>e=.returned (.tuple #[])/\RWQ b B x y K T q V r w w':=by
 obtain ⟨p,hp,aH⟩:=ag.aP.1 ht;have Xo:=hM.ker.ok.Wp h2 hp;have HN:=Lib.hid (iF b r K T q p w hM.ker.mem (by omega) hp aH)
 have HE:Hid (∀ z,af [] w z->RWQ b B x y K T q V r w z):=fun z u=>⟨[],S,H,M,rE.none hv (.inl h2),by simpa using hS,hM.keep u,u.mono (by simp)⟩
 have ck0:=ae (j:=0) hM.bk rfl
 show Calls _ _ #[.int .u32 r,.pointer (some ⟨B.kk,0,none⟩),.pointer (some ⟨B.sk,0,none⟩),.pointer (some ⟨B.xb,0,none⟩),.pointer (some ⟨B.yb,0,none⟩),.pointer (some ⟨B.hk,0,none⟩),.pointer (some ⟨B.mo,0,none⟩),.pointer (some ⟨B.wk,0,none⟩)] _ _
 generalize p.var=v at *;generalize p.lo=lo at *;generalize p.hi=hi at *;clear hM hS hv hp aH ht
 go_enter Tryz.func75,Tryz.ntmps75
 go_wp2_with fail;refine HN.out.mono ?_;rintro e w1 ⟨rfl,hu⟩;have hb:=heap_alloc_new w1 (.cells #[.int .i64 v,.int .u32 lo,.int .u32 hi] 116 (0,0));have HU:=Lib.hid (hu.alloc (.cells #[.int .i64 v,.int .u32 lo,.int .u32 hi] 116 (0,0)));have x0:=ae (j:=0) hb rfl;clear hu hb;go_wp2_with fail;refine bodyPost_ret (results_none rfl _ _ _) rfl ⟨rfl,HE.out _ HU.out⟩
theorem N9 (b:Nat) (B:RB) (x y:Nat) (K:KV) (T:List DM) (q:aA) (r:Nat) (V:List Nat) (S H M:DM) (w:World) (hM:Bl w b B x y K T q S H M) (hS:RVs K x y V S H M) (hv:V.Nodup) (ht:K.A.tk r=true) (h2:2<=r) (wK:r∈V) :
  Calls Tryz.prog 75 (#[.int .u32 r]++B.caps) w fun e w'=>e=.returned (.tuple #[])/\RWQ b B x y K T q V r w w':=by
 have dJ:=hM.ker.ok;have rF:=dJ.bZ ht
 have hr:r<=4294967295:=by omega
 obtain ⟨p,v,hp,aH,kD,gK,Pm,Pn,vT⟩:=dJ.wf.cZ h2 ht;have HN:=Lib.hid (iF b r K T q p w hM.ker.mem hr hp aH);rw [kD] at HN
 have HE:Hid (∀ z,af [] w z->RWQ b B x y K T q V r w z):=fun z u=>⟨[],S,H,M,rE.none hv (.inr wK),by simpa using hS,hM.keep u,u.mono (by simp)⟩
 have HM:=Lib.hid hM;have HS:=Lib.hid hS;have ck0:=ae (j:=0) hM.bk rfl
 show Calls _ _ #[.int .u32 r,.pointer (some ⟨B.kk,0,none⟩),.pointer (some ⟨B.sk,0,none⟩),.pointer (some ⟨B.xb,0,none⟩),.pointer (some ⟨B.yb,0,none⟩),.pointer (some ⟨B.hk,0,none⟩),.pointer (some ⟨B.mo,0,none⟩),.pointer (some ⟨B.wk,0,none⟩)] _ _
 generalize p.lo=lo at *;generalize p.hi=hi at *;clear hM hS hv hp aH ht dJ kD gK Pm Pn vT
 go_enter Tryz.func75,Tryz.ntmps75
 go_wp2_with fail;refine HN.out.mono ?_;rintro e w1 ⟨rfl,hu⟩;have hb:=heap_alloc_new w1 (.cells #[.int .i64 (v:Int),.int .u32 lo,.int .u32 hi] 116 (0,0));have jE:=hu.alloc (.cells #[.int .i64 (v:Int),.int .u32 lo,.int .u32 hi] 116 (0,0));have HU:=Lib.hid jE;have x0:=ae (j:=0) hb rfl;have Ep:=HM.out.keep jE;obtain ⟨c,gW,bI,_⟩:=Ep.ms.lookup_int iP Tryz.underlying114 Tryz.underlying3 (uD _) (keyOf_int_mk Tryz.underlying77 (jw hr))
 have hc:c=1:=by
  have:=HS.out.s.at_ r hr ((HS.out.s.has r hr).2 wK) (.lit (.int .i64 0));rw [this] at bI
  simpa using bI.symm
 subst hc;have cs0:=ae (j:=0) Ep.bs rfl
 have Xo:¬ ((v:Int)<0):=by omega
 clear hu hb Ep bI;go_wp2_with fail;refine bodyPost_ret (results_none rfl _ _ _) rfl ⟨rfl,HE.out _ HU.out⟩
structure Zi (b:Nat) (B:RB) (x y:Nat) (K:KV) (T:List DM) (q:aA) (V:List Nat) (S:DM) (w9 wc:World):Prop where
 ex:∃ (H M:DM),Bl wc b B x y K T q S H M/\RVs K x y V S H M/\af [B.hm,B.mm] w9 wc
theorem KV.Wq {K:KV} {x s:Nat} {p:ak} (hp:K.A.list[s]?=some p):K.iR x s=if p.var=(x:Int) then [(p.lo,p.hi)] else []:=by simp [KV.iR,hp]
theorem KV.yf {K:KV} {x y s:Nat} {p:ak} (hp:K.A.list[s]?=some p):K.um x y s=if p.var=(x:Int)/\(K.vI p.lo=(y:Int)\/K.vI p.hi=(y:Int)) then [((K.part y p.lo).1,(K.part y p.hi).1),((K.part y p.lo).2,(K.part y p.hi).2)] else []:=by simp [KV.um,hp]
theorem KV.Ok.Bo {K:KV} (hk:K.Ok) {r y:Nat} (ht:K.A.tk r=true):(K.part y r).1<1048576/\(K.part y r).2<1048576:=by
 obtain ⟨p,hp,aH⟩:=ag.aP.1 ht;have rF:=hk.bZ ht;unfold KV.part;rw [hp]
 dsimp only
 by_cases h2:2<=r
 ·obtain ⟨a,b⟩:=hk.wf.cl r p h2 hp aH
  split
  ·exact ⟨hk.bZ a,hk.bZ b⟩
  ·exact ⟨rF,rF⟩
 ·have h:r=0\/r=1:=by omega
  rcases h with rfl | rfl
  ·rw [hk.wf.ok.c0] at hp;cases hp
   rw [if_neg (by simp)];exact ⟨rF,rF⟩
  ·rw [hk.wf.ok.c1] at hp;cases hp
   rw [if_neg (by simp)];exact ⟨rF,rF⟩
theorem Rz (b:Nat) (B:RB) (x y:Nat) (K:KV) (T:List DM) (q:aA) (r:Nat) (V:List Nat) (S H M:DM) (w:World) (hM:Bl w b B x y K T q S H M) (hS:RVs K x y V S H M) (hv:V.Nodup) (ht:K.A.tk r=true) (h2:2<=r) (agF:r∉V) (IH:aa4 b B x y K T q (K.dep r+1)) :
  Calls Tryz.prog 75 (#[.int .u32 r]++B.caps) w fun e w'=>e=.returned (.tuple #[])/\RWQ b B x y K T q V r w w':=by
 have dJ:=hM.ker.ok;have rF:=dJ.bZ ht
 have hr:r<=4294967295:=by omega
 obtain ⟨p,v,hp,aH,kD,gK,Pm,Pn,vT⟩:=dJ.wf.cZ h2 ht;have hb:=dJ.ord.below dJ.wf h2 hp aH;have HN:=Lib.hid (iF b r K T q p w hM.ker.mem hr hp aH);rw [kD] at HN;have RD:=dJ.bZ Pm;have RF:=dJ.bZ Pn;have O9:=dJ.Bo (y:=y) Pm;have hph:=dJ.Bo (y:=y) Pn
 have HSL:Hid (∀ z,af B.maps w z->Calls Tryz.prog 76 #[.pointer (some ⟨b,0,none⟩),.int .u32 p.lo,.int .i64 y] z fun e w'=>e=.returned (.tuple #[.int .u32 (K.part y p.lo).1,.int .u32 (K.part y p.lo).2,.bool (decide (K.vI p.lo=(y:Int)))])/\af [] z w'):=fun z u =>
  DN b p.lo y K T q z (hM.ker.upd u hM.dq) Pm
 have HSH:Hid (∀ z,af B.maps w z->Calls Tryz.prog 76 #[.pointer (some ⟨b,0,none⟩),.int .u32 p.hi,.int .i64 y] z fun e w'=>e=.returned (.tuple #[.int .u32 (K.part y p.hi).1,.int .u32 (K.part y p.hi).2,.bool (decide (K.vI p.hi=(y:Int)))])/\af [] z w'):=fun z u =>
  DN b p.hi y K T q z (hM.ker.upd u hM.dq) Pn
 have HP:=Lib.hid (And.intro hp (And.intro aH (And.intro kD (And.intro Pm (And.intro Pn (And.intro hb hv))))));have eH:=KV.Wq (x:=x) hp;have eM:=KV.yf (x:=x) (y:=y) hp;rw [kD] at eH eM;have HEH:=Lib.hid eH;have HEM:=Lib.hid eM;have HM:=Lib.hid hM;have HS:=Lib.hid hS;have XO:=Lib.hid IH;have ck0:=ae (j:=0) hM.bk rfl
 show Calls _ _ #[.int .u32 r,.pointer (some ⟨B.kk,0,none⟩),.pointer (some ⟨B.sk,0,none⟩),.pointer (some ⟨B.xb,0,none⟩),.pointer (some ⟨B.yb,0,none⟩),.pointer (some ⟨B.hk,0,none⟩),.pointer (some ⟨B.mo,0,none⟩),.pointer (some ⟨B.wk,0,none⟩)] _ _
 obtain ⟨lo,rP⟩ : ∃ lo,p.lo=lo:=⟨_,rfl⟩;obtain ⟨hi,wW⟩ : ∃ hi,p.hi=hi:=⟨_,rfl⟩;have EU:=Lib.hid (And.intro rP wW);rw [rP] at HN HSL HEH HEM RD O9;rw [wW] at HN HSH HEH HEM RF hph;clear hM hS hv hp aH ht dJ kD Pm Pn vT hb IH eH eM rP wW
 go_enter Tryz.func75,Tryz.ntmps75
 go_wp2_with fail;refine HN.out.mono ?_;rintro e w1 ⟨rfl,hu⟩;have aY:=heap_alloc_new w1 (.cells #[.int .i64 (v:Int),.int .u32 lo,.int .u32 hi] 116 (0,0));have jE:=hu.alloc (.cells #[.int .i64 (v:Int),.int .u32 lo,.int .u32 hi] 116 (0,0));have Ep:=HM.out.keep jE;obtain ⟨w2,gV⟩ : ∃ w2,w1.alloc (.cells #[.int .i64 (v:Int),.int .u32 lo,.int .u32 hi] 116 (0,0))=w2:=⟨_,rfl⟩;rw [gV] at aY jE Ep;have AO:w.heap.size<=w1.heap.size:=hu.size;have Au:=Lib.hid gV;obtain ⟨c,gW,bI,_⟩:=Ep.ms.lookup_int iP Tryz.underlying114 Tryz.underlying3 (uD _) (keyOf_int_mk Tryz.underlying77 (jw hr))
 have bK:Maps.has S (.int .u32 r)=false:=by
  cases e:Maps.has S (.int .u32 r) with
  | false=>rfl
  | true=>exact absurd ((HS.out.s.has r hr).1 e) agF
 have hc:c=0:=by
  rw [atKey_of_not_has bK] at bI
  simpa using bI.symm
 subst hc;have dG:=Qe HS.out.s (Ep.ms.canon iP) (Ep.ms.tidy iP);obtain ⟨w9,aez,aK,sN⟩:=Ep.ms.store iP Tryz.underlying114 dG (keyOf_int_mk Tryz.underlying77 (jw hr)) (plainElem_int (H:=Unit) Tryz.underlying3 (vw (n:=1) (by omega) (by omega)));have NI:=gG sN;have hM9:=Ep.seen NI (dZ aK);have cs0:=ae (j:=0) Ep.bs rfl;have cx9:=ae (j:=0) hM9.bx rfl;have hml:B.sm<w.heap.size/\B.hm<w.heap.size/\B.mm<w.heap.size:=⟨HM.out.ms.lt,HM.out.mh.lt,HM.out.mm.lt⟩
 have alS:w1.heap.size∉B.maps:=by simp [RB.maps];omega
 have acW:=(NI.block _ (ah aY) (by simp;omega)).trans aY
 have pO:Hid (∀ z,af B.maps w9 z->z.cell? ⟨w1.heap.size,0,none⟩=some (.int .i64 (v:Int))/\z.cell? ⟨w1.heap.size,1,none⟩=some (.int .u32 lo)/\z.cell? ⟨w1.heap.size,2,none⟩=some (.int .u32 hi)):=fun z u=>by
  have h:=(u.block _ (ah acW) alS).trans acW;exact ⟨ae h rfl,ae h rfl,ae h rfl⟩
 have x0:=ae (j:=0) aY rfl;obtain ⟨z0,z1,z2⟩:=pO.out _ (af.refl _ _);have HU9:Hid (af B.maps w w9):=(jE.mono (by simp):af B.maps w w2).trans (NI.mono (by simp [RB.maps]));have HM9:=Lib.hid hM9;have HS9:=Lib.hid (HS.out.s.put rF)
 have Yf:Hid ((V++[r]).Nodup):=by
  show (V++[r]).Nodup
  rw [List.nodup_append];refine ⟨HP.out.2.2.2.2.2.2,by simp,fun a ha c hc=>?_⟩
  simp at hc;subst hc
  rintro rfl;exact agF ha
 have Xo:¬ ((v:Int)<0):=by omega
 obtain ⟨bb,zJ⟩ : ∃ bb,((v:Int) == (x:Int))=bb:=⟨_,rfl⟩
 have Lu:Hid (bb=decide ((v:Int)=(x:Int))):=by show bb=_;rw [<- zJ];rfl
 generalize agH:w1.heap.size=w2s at *;have HN1:=Lib.hid agH;clear hu aY acW jE Ep gV bI aK sN NI hM9 dG bK AO hml agH;go_upto_region 1 with fail;rw [Au.out,HN1.out];go_upto_if 37 with fail
 go_cut [] from 38 to 73 (fun wc=>Zi b B x y K T q (V++[r]) (S.put (.int .u32 r) (.lit (.int .i64 1))) w9 wc)
 case first =>
  cases bb with
  | false =>
   have hne:¬ ((v:Int)=(x:Int)):=by simpa using Lu.out
   have e1:K.iR x r=[]:=by rw [HEH.out,if_neg hne]
   have e2:K.um x y r=[]:=by rw [HEM.out,if_neg fun h=>hne h.1]
   have HR:Hid (Zi b B x y K T q (V++[r]) (S.put (.int .u32 r) (.lit (.int .i64 1))) w9 w9) :=
    ⟨H,M,HM9.out,⟨HS9.out,by rw [List.flatMap_append];simpa [e1] using HS.out.h,by rw [List.flatMap_append];simpa [e2] using HS.out.m⟩,af.refl _ _⟩
   clear hne e1 e2;go_wp2_with fail;go_meet;exact HR.out
  | true =>
   have hve:(v:Int)=(x:Int):=by simpa using Lu.out
   have cy9:=ae (j:=0) HM9.out.by_ rfl;have ck9:=ae (j:=0) HM9.out.bk rfl;obtain ⟨l0,yu⟩ : ∃ l0,(K.part y lo).1=l0:=⟨_,rfl⟩;obtain ⟨l1,uG⟩ : ∃ l1,(K.part y lo).2=l1:=⟨_,rfl⟩;obtain ⟨h0,J4⟩ : ∃ h0,(K.part y hi).1=h0:=⟨_,rfl⟩;obtain ⟨h1,Yw⟩ : ∃ h1,(K.part y hi).2=h1:=⟨_,rfl⟩;obtain ⟨aa,haa⟩ : ∃ aa,decide (K.vI lo=(y:Int))=aa:=⟨_,rfl⟩;obtain ⟨ab,vz⟩ : ∃ ab,decide (K.vI hi=(y:Int))=ab:=⟨_,rfl⟩;rw [yu,uG,haa] at HSL;rw [J4,Yw,vz] at HSH;rw [yu,uG] at O9;rw [J4,Yw] at hph
   have e1:K.iR x r=[(lo,hi)]:=by rw [HEH.out,if_pos hve]
   have e2:K.um x y r=if (aa||ab)=true then [(l0,h0),(l1,h1)] else []:=by
    rw [HEM.out,yu,uG,J4,Yw,<- haa,<- vz]
    by_cases h1:K.vI lo=(y:Int)\/K.vI hi=(y:Int)
    ·rw [if_pos ⟨hve,h1⟩,if_pos (by simpa using h1)]
    ·rw [if_neg fun h=>h1 h.2,if_neg (by simpa using h1)]
   have Ir:=Lib.hid e1;have SL:=Lib.hid e2;have Pq:=Lib.hid (HSL.out _ HU9.out);clear hve e1 e2 yu uG J4 Yw haa vz cx9;go_wp2_with fail;refine Pq.out.mono ?_;rintro e w3 ⟨rfl,fG⟩;have Pv:=Lib.hid (HSH.out _ (HU9.out.trans (fG.mono (by simp))));have Ws:=HM9.out.keep fG;have X6:=Lib.hid Ws;have cy3:=ae (j:=0) Ws.by_ rfl;have ck3:=ae (j:=0) Ws.bk rfl;obtain ⟨a0,a1,a2⟩:=pO.out _ (fG.mono (by simp));have o8:=Lib.hid fG;clear Ws fG cy9 ck9 z0 z1 z2;go_wp2_with fail;refine Pv.out.mono ?_;rintro e w4 ⟨rfl,Ah⟩;have XH:=X6.out.keep Ah;have ch4:=ae (j:=0) XH.bh rfl;obtain ⟨z0,z1,z2⟩:=pO.out _ ((o8.out.trans Ah).mono (by simp));obtain ⟨w5,apw,aa5,Wu⟩:=XH.mh.store dP Tryz.underlying149 (uN HS.out.h (XH.mh.canon dP) (XH.mh.tidy dP)) (DL (a:=lo) (b:=hi) (by omega) (by omega)) (plainElem_int (H:=Unit) Tryz.underlying3 (vw (n:=1) (by omega) (by omega)));have nK:=gG Wu;have hM5:=XH.agE nK (dZ aa5)
   have hS5:ku ((V++[r]).flatMap (K.iR x)) (H.put (lk lo hi) (.lit (.int .i64 1))):=by
    rw [List.flatMap_append];simpa [Ir.out] using HS.out.h.put RD RF
   have yx:=Lib.hid hM5;have VD:=Lib.hid hS5;have Jy:Hid (af [B.hm,B.mm] w9 w5):=((o8.out.trans Ah).mono (by simp)).trans (nK.mono (by simp));clear XH Ah aa5 Wu nK hM5 hS5 a0 a1 a2 cy3 ck3;obtain ⟨cc,Y7⟩ : ∃ cc,(aa||ab)=cc:=⟨_,rfl⟩;rw [Y7] at SL
   cases cc with
   | false =>
    have haa:aa=false:=by cases aa <;> simp_all
    have vz:ab=false:=by cases ab <;> simp_all
    subst haa vz
    have HR:Hid (Zi b B x y K T q (V++[r]) (S.put (.int .u32 r) (.lit (.int .i64 1))) w9 w5) :=
     ⟨_,M,yx.out,⟨HS9.out,VD.out,by rw [List.flatMap_append];simpa [SL.out] using HS.out.m⟩,Jy.out⟩
    clear Y7;go_wp2_with fail;go_meet;exact HR.out
   | true =>
    have cm5:=ae (j:=0) yx.out.bm rfl;obtain ⟨w6,apx,Ky,Wv⟩:=yx.out.mm.store dP Tryz.underlying149 (uN HS.out.m (yx.out.mm.canon dP) (yx.out.mm.tidy dP)) (DL (a:=l0) (b:=h0) (by omega) (by omega)) (plainElem_int (H:=Unit) Tryz.underlying3 (vw (n:=1) (by omega) (by omega)));have uI:=gG Wv;have hM6:=yx.out.more uI (dZ Ky);have hS6:=HS.out.m.put (a:=l0) (b:=h0) (by omega) (by omega);have cm6:=ae (j:=0) hM6.bm rfl;obtain ⟨w7,apy,aa6,Wx⟩:=hM6.mm.store dP Tryz.underlying149 (uN hS6 (hM6.mm.canon dP) (hM6.mm.tidy dP)) (DL (a:=l1) (b:=h1) (by omega) (by omega)) (plainElem_int (H:=Unit) Tryz.underlying3 (vw (n:=1) (by omega) (by omega)));have Ez:=gG Wx;have hM7:=hM6.more Ez (dZ aa6);have hS7:=hS6.put (a:=l1) (b:=h1) (by omega) (by omega)
    have HR:Hid (Zi b B x y K T q (V++[r]) (S.put (.int .u32 r) (.lit (.int .i64 1))) w9 w7) :=
     ⟨_,_,hM7,⟨HS9.out,VD.out,by rw [List.flatMap_append];simpa [SL.out] using hS7⟩,Jy.out.trans ((uI.trans Ez).mono (by simp))⟩
    have hor:aa=true\/(aa=false/\ab=true):=by cases aa <;> simp_all
    clear Ky Wv uI hM6 hS6 aa6 Wx Ez hM7 hS7 Y7
    rcases hor with rfl | ⟨rfl,rfl⟩
    ·go_wp2_with fail
     go_meet;exact HR.out
    ·go_wp2_with fail
     go_meet;exact HR.out
 case rest =>
  obtain ⟨H1,M1,hMc,hSc,huc⟩:=hcut.ex
  have aa8:∀ k,k∈[B.hm,B.mm]->k∈B.maps:=fun k hk=>by simp [RB.maps] at hk ⊢;exact .inr hk
  have HUC:Hid (af B.maps w9 wc):=huc.mono aa8;obtain ⟨a0,a1,a2⟩:=pO.out _ HUC.out;have cw:=ae (j:=0) hMc.bw rfl;unfold RB.caps at cw;have Nq:=Lib.hid (XO.out p.lo (V++[r]) _ H1 M1 wc hMc hSc Yf.out HP.out.2.2.2.1 HP.out.2.2.2.2.2.1.1);rw [EU.out.1] at Nq;clear hMc hSc huc hcut aa8 cx9 z0 z1 z2;go_wp2_with fail;refine Nq.out.mono ?_;rintro e w4 ⟨rfl,hQ⟩;obtain ⟨N0,S4,H4,M4,hN0,hS4,XH,Ah⟩:=hQ.ex;have I8:=Lib.hid (HUC.out.trans Ah);obtain ⟨b0,b1,b2⟩:=pO.out _ I8.out;have cw4:=ae (j:=0) XH.bw rfl;unfold RB.caps at cw4;have mg:=Lib.hid (XO.out p.hi (V++[r]++N0) S4 H4 M4 w4 XH hS4 hN0.nd HP.out.2.2.2.2.1 HP.out.2.2.2.2.2.1.2);rw [EU.out.2] at mg;have H4':=Lib.hid hN0;clear hQ hN0 hS4 XH Ah a0 a1 a2 cw;go_wp2_with fail;refine mg.out.mono ?_;rintro e w5 ⟨rfl,hQ⟩;obtain ⟨N1,S5,H5,M5,hN1,hS5,hM5,nK⟩:=hQ.ex
  have HE:Hid (RWQ b B x y K T q V r w w5):=by
   have e:V++r::(N0++N1)=V++[r]++N0++N1:=by simp
   refine ⟨r::(N0++N1),S5,H5,M5,rE.node h2 (ag.aP.2 ⟨p,HP.out.1,HP.out.2.1⟩) HP.out.1 (by rw [EU.out.1];exact H4'.out) (by rw [EU.out.2];exact hN1),by rw [e];exact hS5,hM5,HU9.out.trans (I8.out.trans nK)⟩
  clear hQ hN1 hS5 hM5 nK b0 b1 b2 cw4;go_wp2_with fail;go_end0;exact ⟨rfl,HE.out⟩
theorem Aa (b:Nat) (B:RB) (x y:Nat) (K:KV) (T:List DM) (q:aA):∀ (n d:Nat),K.vars+1-d<=n->aa4 b B x y K T q d
 | n,d,hn=>by
  intro r V S H M w hM hS hv ht hd
  have dJ:=hM.ker.ok
  by_cases h2:2<=r
  ·have hl:=dJ.wf.ni dJ.ord h2 ht
   by_cases wK:r∈V
   ·exact N9 b B x y K T q r V S H M w hM hS hv ht h2 wK
   ·match n,hn with
    | 0,hn=>omega
    | n+1,hn =>
     exact Rz b B x y K T q r V S H M w hM hS hv ht h2 wK (Aa b B x y K T q n (K.dep r+1) (by omega))
  ·exact Kw b B x y K T q r V S H M w hM hS hv ht (by omega)
structure WalkA (K:KV) (V rs N:List Nat):Prop where
 nd:(V++N).Nodup
 has:∀ r,r∈rs->2<=r->r∈V++N
 two:∀ x,x∈N->2<=x/\K.A.tk x=true
 under:∀ x,x∈N->∃ r,r∈rs/\K.Under r x
 kids:∀ (x:Nat) (p:ak),x∈N->K.A.list[x]?=some p->(p.lo<2\/p.lo∈V++N)/\(p.hi<2\/p.hi∈V++N)
theorem jT.alX {K:KV} {V rs N:List Nat} (h:jT K V rs N):V.Nodup->WalkA K V rs N:=by
 induction h with
 | nil V=>intro hv;exact ⟨by simpa using hv,by simp,by simp,by simp,by simp⟩
 | @cons V N N' r rs h t ih =>
  intro hv
  have a:=ih h.nd
  have e:V++(N++N')=V++N++N':=by simp
  refine ⟨by rw [e];exact a.nd,fun s hs h2=>?_,fun x hx=>?_,fun x hx=>?_,fun x p hx hp=>?_⟩
  ·rw [e]
   rcases List.mem_cons.1 hs with rfl | hs
   ·exact List.mem_append.2 (.inl (h.has h2))
   ·exact a.has s hs h2
  ·rcases List.mem_append.1 hx with hx | hx
   ·exact h.two x hx
   ·exact a.two x hx
  ·rcases List.mem_append.1 hx with hx | hx
   ·exact ⟨r,by simp,h.under x hx⟩
   ·obtain ⟨s,hs,hu⟩:=a.under x hx
    exact ⟨s,by simp [hs],hu⟩
  ·rw [e]
   rcases List.mem_append.1 hx with hx | hx
   ·obtain ⟨k1,k2⟩:=h.kids x p hx hp
    exact ⟨k1.imp_right fun k=>List.mem_append.2 (.inl k),k2.imp_right fun k=>List.mem_append.2 (.inl k)⟩
   ·exact a.kids x p hx hp
end Go.Proofs.YtfkopmhpppeheaaGreat
namespace Go.Proofs.YtfkopmhpppeheaaGreat
open Go.RowKit
def Has (K B:KV):Prop:=∀ r,K.A.tk r=true->∃ s,B.A.tk s=true/\∀ y,K.den r y=B.den s y
theorem Has.used {K B:KV} (h:Has K B) (hk:K.Ok) (hu:K.Uni) (hb:B.Ok):K.A.used<=B.A.used:=by
 rw [<- K.pV hk.wf]
 let f:Nat->Nat:=fun r=>if h0:K.A.tk r=true then (h r h0).choose else 0
 have hf:∀ r,K.A.tk r=true->B.A.tk (f r)=true/\∀ y,K.den r y=B.den (f r) y:=fun r h0=>by
  simp only [f,dif_pos h0]
  exact (h r h0).choose_spec
 have nd:(K.lives.map f).Nodup:=List.pairwise_map.2 (List.Pairwise.imp_of_mem (fun {a b} ha hb hne e=>hne (by
  have a1:=(hf a (KV.dQ.1 ha)).2;have b1:=(hf b (KV.dQ.1 hb)).2
  exact KV.canon hk.wf hk.ord hu _ _ _ (KV.dQ.1 ha) (KV.dQ.1 hb) (Nat.le_refl _) fun y=>by rw [a1,b1,e])) K.ja)
 have:=KV.uC hb.wf nd fun x hx=>by
  obtain ⟨r,hr,rfl⟩:=List.mem_map.1 hx;exact (hf r (KV.dQ.1 hr)).1
 simpa using this
theorem KV.Ok.DR {K:KV} (hk:K.Ok) {r:Nat} (h2:2<=r) (ht:K.A.tk r=true):∃ f,0<K.hold f/\K.Under f r:=by
 have hr:=KV.mZ hk.wf hk.pos hk.ord _ r h2 ht (Nat.le_refl _)
 have key:∀ s,K.Reach s->2<=s->∃ f,0<K.hold f/\K.Under f s:=fun s hs=>by
  induction hs with
  | root hh=>intro h2;exact ⟨_,hh,.refl h2⟩
  | lo hq Lm hqp _ ih =>
   intro h2
   obtain ⟨f,hf,hu⟩:=ih Lm;exact ⟨f,hf,.lo hu hqp h2⟩
  | hi hq Lm hqp _ ih =>
   intro h2
   obtain ⟨f,hf,hu⟩:=ih Lm;exact ⟨f,hf,.hi hu hqp h2⟩
 exact key r hr h2
theorem WalkA.below {K:KV} {rs N:List Nat} {s x:Nat} (a:WalkA K [] rs N) (hs:s∈rs) (hu:K.Under s x):x∈N:=by
 induction hu with
 | refl h2=>simpa using a.has s hs h2
 | lo _ hp h2 ih =>
  rcases (a.kids _ _ ih hp).1 with h3 | h3
  ·omega
  ·simpa using h3
 | hi _ hp h2 ih =>
  rcases (a.kids _ _ ih hp).2 with h3 | h3
  ·omega
  ·simpa using h3
end Go.Proofs.YtfkopmhpppeheaaGreat
namespace Go.Proofs.YtfkopmhpppeheaaGreat
open Go.RowKit Go.Maps Go.ChangeMaps Go.WideShapes
theorem Gx {K:KV} {x s:Nat} {q:Nat × Nat}:q∈K.iR x s↔∃ p,K.A.list[s]?=some p/\p.var=(x:Int)/\q=(p.lo,p.hi):=by
 unfold KV.iR
 cases h:K.A.list[s]? with
 | none=>simp
 | some p =>
  by_cases hv:p.var=(x:Int)
  ·simp [hv]
  ·simp [hv]
theorem Wy {K:KV} (_hk:K.Ok) {V:List Nat} (hV:∀ s,s∈V↔2<=s/\K.A.tk s=true) (x:Nat) (q:Nat × Nat):q∈V.flatMap (K.iR x)↔K.nR x q.1 q.2:=by
 rw [List.mem_flatMap];constructor
 ·rintro ⟨s,hs,hq⟩
  obtain ⟨p,hp,hv,rfl⟩:=Gx.1 hq;obtain ⟨h2,ht⟩:=(hV s).1 hs;obtain ⟨p',jo,aH⟩:=ag.aP.1 ht
  rw [hp] at jo;cases jo
  exact ⟨s,p,h2,hp,aH,hv,rfl,rfl⟩
 ·rintro ⟨s,p,h2,hp,aH,hv,e1,e2⟩
  exact ⟨s,(hV s).2 ⟨h2,ag.aP.2 ⟨p,hp,aH⟩⟩,Gx.2 ⟨p,hp,hv,by rw [e1,e2]⟩⟩
theorem WA {K:KV} (_hk:K.Ok) {V:List Nat} (hV:∀ s,s∈V↔2<=s/\K.A.tk s=true) {l x y:Nat} {C:List bY} (CA:dU K l x y C) (q:Nat × Nat):q∈V.flatMap (K.um x y)↔q∈C.flatMap bY.qs:=by
 rw [List.mem_flatMap,List.mem_flatMap]
 have key:∀ {c:bY},c∈C->K.um x y c.r=c.qs:=fun {c} hc=>by
  obtain ⟨p,F,hv,_,_⟩:=(CA.ok c hc).ex;have oz:=(CA.ok c hc).cr;obtain ⟨_,p',jo,_,_,dB⟩:=oz
  rw [F.at_] at jo;cases jo
  rw [KV.yf F.at_,if_pos ⟨hv,dB⟩,F.e0,F.e1];rfl
 constructor
 ·rintro ⟨s,hs,hq⟩
  obtain ⟨h2,ht⟩:=(hV s).1 hs;obtain ⟨p,hp,aH⟩:=ag.aP.1 ht
  by_cases hc:p.var=(x:Int)/\(K.vI p.lo=(y:Int)\/K.vI p.hi=(y:Int))
  ·obtain ⟨c,XD,rfl⟩:=List.mem_map.1 (CA.all s ⟨h2,p,hp,aH,hc.1,hc.2⟩)
   rw [key XD] at hq;exact ⟨c,XD,hq⟩
  ·rw [KV.yf hp,if_neg hc] at hq;simp at hq
 ·rintro ⟨c,hc,hq⟩
  obtain ⟨h2,p,hp,aH,_⟩:=(CA.ok c hc).cr;exact ⟨c.r,(hV _).2 ⟨h2,ag.aP.2 ⟨p,hp,aH⟩⟩,by rw [key hc];exact hq⟩
theorem RG {Q:List (Nat × Nat)} {D:DM} (h:ku Q D) (hc:Maps.Canon D) (ht:Tidy D):Maps.size D<=1099511627776:=by
 have:=gm hc (ks:=(List.range 1048576).flatMap fun a=>(List.range 1048576).map fun b=>lk a b) (fun k hk=>by
  obtain ⟨a,b,rfl,ha,hb⟩:=h.dom k hk
  exact List.mem_flatMap.2 ⟨a,List.mem_range.2 ha,List.mem_map.2 ⟨b,List.mem_range.2 hb,rfl⟩⟩) ht
 rw [Gw] at this;omega
structure Ac (Q:List (Nat × Nat)) (left:Lit->Bool) (ps:List (Nat × Nat)):Prop where
 nd:ps.Nodup
 lt:∀ p,p∈ps->p.1<1048576/\p.2<1048576
 iff:∀ p:Nat × Nat,p.1<1048576->p.2<1048576->(p∈ps↔p∈Q/\left (lk p.1 p.2)=false)
theorem Ac.start {Q:List (Nat × Nat)} {D:DM} (h:ku Q D):Ac Q (Maps.has D) [] :=
 ⟨by simp,by simp,fun p h1 h2=>by
  have:=h.has p.1 p.2 (by omega) (by omega);constructor
  ·intro h;simp at h
  ·rintro ⟨h3,h4⟩
   rw [this.2 h3] at h4;cases h4⟩
theorem Ac.step {Q:List (Nat × Nat)} {left:Lit->Bool} {ps:List (Nat × Nat)} {a b:Nat} (h:Ac Q left ps) (ha:a<1048576) (hb:b<1048576) (hQ:(a,b)∈Q) (hl:left (lk a b)=true):Ac Q (fun z=>left z&&!z.sameKey (lk a b)) (ps++[(a,b)]):=by
 refine ⟨?_,fun p hp=>?_,fun p h1 h2=>?_⟩
 ·rw [List.nodup_append]
  refine ⟨h.nd,by simp,fun c hc d hd=>?_⟩
  simp at hd;subst hd
  rintro rfl;have:=((h.iff _ ha hb).1 hc).2
  rw [hl] at this;cases this
 ·rcases List.mem_append.1 hp with hp | hp
  ·exact h.lt p hp
  ·simp at hp;subst hp;exact ⟨ha,hb⟩
 ·rw [List.mem_append,h.iff p h1 h2]
  by_cases e:p=(a,b)
  ·subst e;simp [hQ,WideAt.sameKey_self (Wn a b)]
  ·have hne:lk p.1 p.2≠lk a b:=fun h3=>by
    obtain ⟨e1,e2⟩:=Wl (by omega) (by omega) (by omega) (by omega) h3;exact e (by rw [<- e1,<- e2])
   simp [e,sameKey_ne hne]
def sD (H:List (Nat × Nat)) (ps:List (Nat × Nat)):Nat:=(ps.filter fun p=>decide (p.1≠p.2)&&decide (p∉H)).length
theorem zh (H ps:List (Nat × Nat)) (p:Nat × Nat):sD H (ps++[p])=sD H ps+if p.1≠p.2/\p∉H then 1 else 0:=by
 unfold sD;rw [List.filter_append,List.length_append]
 by_cases h:p.1≠p.2/\p∉H
 ·simp [h.1,h.2]
 ·rw [if_neg h]
  have:List.filter (fun p=>decide (p.1≠p.2)&&decide (p∉H)) [p]=[]:=by
   rw [List.filter_eq_nil_iff]
   intro a ha
   simp only [List.mem_singleton] at ha;subst ha
   simpa [Decidable.not_and_iff_or_not] using h
  rw [this];rfl
theorem Zj (H ps:List (Nat × Nat)):sD H ps<=ps.length:=List.length_filter_le _ _
theorem Oa {K:KV} (hk:K.Ok) {V:List Nat} (hV:∀ s,s∈V↔2<=s/\K.A.tk s=true) {l x y:Nat} {D:DM} (_hM:ku (V.flatMap (K.um x y)) D) {ps:List (Nat × Nat)} {left:Lit->Bool} (h:Ac (V.flatMap (K.um x y)) left ps) (hl:∀ k,left k=false)
  {C:List bY} {N:List (Nat × Nat)} (CA:dU K l x y C) (F:lZ K x (C.flatMap bY.qs) N):sD (V.flatMap (K.iR x)) ps=N.length:=by
 have key:∀ q,q∈ps.filter (fun p=>decide (p.1≠p.2)&&decide (p∉V.flatMap (K.iR x)))↔q∈N:=fun q=>by
  rw [List.mem_filter,F.iff,<- WA hk hV CA]
  simp only [Bool.and_eq_true,decide_eq_true_eq,Wy hk hV]
  constructor
  ·rintro ⟨h1,h2⟩
   obtain ⟨h3,h4⟩:=h.lt q h1;exact ⟨((h.iff q h3 h4).1 h1).1,h2⟩
  ·rintro ⟨h1,h2⟩
   obtain ⟨s,hs,hq⟩:=List.mem_flatMap.1 h1
   have aW:q.1<1048576/\q.2<1048576:=by
    obtain ⟨_,ht⟩:=(hV s).1 hs;obtain ⟨p,hp,aH⟩:=ag.aP.1 ht;rw [KV.yf hp] at hq;have h2s:=((hV s).1 hs).1;obtain ⟨t1,t2⟩:=hk.wf.cl s p h2s hp aH;have a:=hk.Bo (y:=y) t1;have b:=hk.Bo (y:=y) t2
    split at hq
    ·simp at hq
     rcases hq with rfl | rfl
     ·exact ⟨a.1,b.1⟩
     ·exact ⟨a.2,b.2⟩
    ·simp at hq
   exact ⟨(h.iff q aW.1 aW.2).2 ⟨h1,hl _⟩,h2⟩
 have e:=((List.perm_ext_iff_of_nodup (h.nd.filter _) F.nd).2 key).length_eq;exact e
theorem jT.all {K:KV} (hk:K.Ok) {N:List Nat} (h:jT K [] K.roots N):∀ s,s∈N↔2<=s/\K.A.tk s=true:=fun s=>by
 have a:=h.alX List.nodup_nil;refine ⟨fun hs=>a.two s hs,fun ⟨h2,ht⟩=>?_⟩;obtain ⟨f,hf,hu⟩:=hk.DR h2 ht;exact a.below (KV.jm.2 hf) hu
theorem Kz (b:Nat) (K:KV) (T:List DM) (q:aA) (w:World) (h:aF w b K T q) :
  Calls Tryz.prog 77 #[.pointer (some ⟨b,0,none⟩)] w fun e w'=>e=.returned (.int .i64 K.A.places)/\w'=w:=by
 have c0:w.cell? ⟨b,0,none⟩=some (.pointer (some ⟨q.a,0,none⟩)):=ae h.blk rfl;have HA:=Lib.hid h.ar;clear h
 go_enter Tryz.func77,Tryz.ntmps77
 go_wp2_with fail;refine (zt q.a q.FA K.A w HA.out).mono ?_;rintro e w1 ⟨rfl,rfl⟩;go_wp2_with fail;go_ret;exact ⟨rfl,rfl⟩
end Go.Proofs.YtfkopmhpppeheaaGreat
