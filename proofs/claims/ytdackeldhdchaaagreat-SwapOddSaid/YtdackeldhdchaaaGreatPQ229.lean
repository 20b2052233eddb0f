import Derived.Test.YtdackeldhdchaaaGreatPQ228
import Derived.Test.YtdackeldhdchaaaGreatPQ27
import Derived.Test.YtdackeldhdchaaaGreatPQ25
import Derived.Test.YtdackeldhdchaaaGreatPQ216
import Derived.Test.YtdackeldhdchaaaGreatPQ212
import Derived.Test.YtdackeldhdchaaaGreatPQ225
import Derived.Test.YtdackeldhdchaaaGreatPQ28
import Derived.Deep.RegionHeld3
set_option maxRecDepth 100000
set_option maxHeartbeats 6400000
namespace Go.Proofs.YtdackeldhdchaaaGreat
open Go.RowKit Go.Maps Go.ChangeMaps Go.WideShapes
structure RB where
 kk:Nat
 sk:Nat
 xb:Nat
 yb:Nat
 hk:Nat
 mo:Nat
 wk:Nat
 sm:Nat
 hm:Nat
 mm:Nat
def RB.caps (B:RB):Array Value:=#[.pointer (some ⟨B.kk,0,none⟩),.pointer (some ⟨B.sk,0,none⟩),.pointer (some ⟨B.xb,0,none⟩),.pointer (some ⟨B.yb,0,none⟩),.pointer (some ⟨B.hk,0,none⟩),.pointer (some ⟨B.mo,0,none⟩),.pointer (some ⟨B.wk,0,none⟩)]
def RB.maps (B:RB):List Nat:=[B.sm,B.hm,B.mm]
structure RWM (w:World) (b:Nat) (B:RB) (x y:Nat) (K:KV) (T:List DM) (q:abM) (S H M:DM):Prop where
 ker:afF w b K T q
 bk:w.heap[B.kk]?=some (.cells #[.pointer (some ⟨b,0,none⟩)] 40 (0,0))
 bs:w.heap[B.sk]?=some (.cells #[.map (some B.sm)] 139 (0,0))
 bx:w.heap[B.xb]?=some (.cells #[.int .i64 x] 3 (0,0))
 by_:w.heap[B.yb]?=some (.cells #[.int .i64 y] 3 (0,0))
 bh:w.heap[B.hk]?=some (.cells #[.map (some B.hm)] 138 (0,0))
 bm:w.heap[B.mo]?=some (.cells #[.map (some B.mm)] 138 (0,0))
 bw:w.heap[B.wk]?=some (.cells #[.func (Fn.func 66) #[] B.caps] 140 (0,0))
 ms:w.ownsMap Tryz.prog 77 (plainElem Tryz.prog 3) B.sm (Maps.size S) S
 mh:w.ownsMap Tryz.prog 148 (plainElem Tryz.prog 3) B.hm (Maps.size H) H
 mm:w.ownsMap Tryz.prog 148 (plainElem Tryz.prog 3) B.mm (Maps.size M) M
 dq:∀ k,k∈q.all b->k∉B.maps
 ds:B.kk∉B.maps/\B.sk∉B.maps/\B.xb∉B.maps/\B.yb∉B.maps/\B.hk∉B.maps/\B.mo∉B.maps/\B.wk∉B.maps
 dm:B.sm≠B.hm/\B.sm≠B.mm/\B.hm≠B.mm
structure RVs (K:KV) (x y:Nat) (V:List Nat) (S H M:DM):Prop where
 s:aq9 V S
 h:ajK (V.flatMap (K.haveQ x)) H
 m:ajK (V.flatMap (K.moreQ x y)) M
theorem RWM.change {w w':World} {b:Nat} {B:RB} {x y:Nat} {K:KV} {T:List DM} {q:abM} {S H M S' H' M':DM} (h:RWM w b B x y K T q S H M) {Z:List Nat} (u:Upd Z w w') (hZ:∀ k,k∈Z->k∈B.maps)
  (h1:w'.ownsMap Tryz.prog 77 (plainElem Tryz.prog 3) B.sm (Maps.size S') S') (h2:w'.ownsMap Tryz.prog 148 (plainElem Tryz.prog 3) B.hm (Maps.size H') H') (h3:w'.ownsMap Tryz.prog 148 (plainElem Tryz.prog 3) B.mm (Maps.size M') M'):RWM w' b B x y K T q S' H' M':=by
 have e:∀ {k:Nat} {o:Obj},k∉B.maps->w.heap[k]?=some o->w'.heap[k]?=some o:=fun {k o} hn hk=>by rw [u.block k (aa4 hk) fun hm=>hn (hZ k hm)];exact hk
 obtain ⟨d1,d2,d3,d4,d5,d6,d7⟩:=h.ds;exact ⟨h.ker.upd u fun k hk hm=>h.dq k hk (hZ k hm),e d1 h.bk,e d2 h.bs,e d3 h.bx,e d4 h.by_,e d5 h.bh,e d6 h.bm,e d7 h.bw,h1,h2,h3,h.dq,h.ds,h.dm⟩
theorem RWM.keep {w w':World} {b:Nat} {B:RB} {x y:Nat} {K:KV} {T:List DM} {q:abM} {S H M:DM} (h:RWM w b B x y K T q S H M) (u:Upd [] w w'):RWM w' b B x y K T q S H M :=
 h.change u (by simp) (aev h.ms (u.block _ h.ms.lt (by simp))) (aev h.mh (u.block _ h.mh.lt (by simp))) (aev h.mm (u.block _ h.mm.lt (by simp)))
theorem RB.mem (B:RB):B.sm∈B.maps/\B.hm∈B.maps/\B.mm∈B.maps:=by simp [RB.maps]
theorem RWM.seen {w w':World} {b:Nat} {B:RB} {x y:Nat} {K:KV} {T:List DM} {q:abM} {S H M S':DM} (h:RWM w b B x y K T q S H M) (u:Upd [B.sm] w w') (hm:w'.ownsMap Tryz.prog 77 (plainElem Tryz.prog 3) B.sm (Maps.size S') S'):RWM w' b B x y K T q S' H M :=
 h.change u (fun k hk=>by simp at hk;subst hk;exact B.mem.1) hm (aev h.mh (u.block _ h.mh.lt (by simp;exact h.dm.1.symm))) (aev h.mm (u.block _ h.mm.lt (by simp;exact h.dm.2.1.symm)))
theorem RWM.have_ {w w':World} {b:Nat} {B:RB} {x y:Nat} {K:KV} {T:List DM} {q:abM} {S H M H':DM} (h:RWM w b B x y K T q S H M) (u:Upd [B.hm] w w') (hm:w'.ownsMap Tryz.prog 148 (plainElem Tryz.prog 3) B.hm (Maps.size H') H'):RWM w' b B x y K T q S H' M :=
 h.change u (fun k hk=>by simp at hk;subst hk;exact B.mem.2.1) (aev h.ms (u.block _ h.ms.lt (by simp;exact h.dm.1))) hm (aev h.mm (u.block _ h.mm.lt (by simp;exact h.dm.2.2.symm)))
theorem RWM.more {w w':World} {b:Nat} {B:RB} {x y:Nat} {K:KV} {T:List DM} {q:abM} {S H M M':DM} (h:RWM w b B x y K T q S H M) (u:Upd [B.mm] w w') (hm:w'.ownsMap Tryz.prog 148 (plainElem Tryz.prog 3) B.mm (Maps.size M') M'):RWM w' b B x y K T q S H M' :=
 h.change u (fun k hk=>by simp at hk;subst hk;exact B.mem.2.2) (aev h.ms (u.block _ h.ms.lt (by simp;exact h.dm.2.1))) (aev h.mh (u.block _ h.mh.lt (by simp;exact h.dm.2.2))) hm
structure RWQ (b:Nat) (B:RB) (x y:Nat) (K:KV) (T:List DM) (q:abM) (V:List Nat) (r:Nat) (w w':World):Prop where
 ex:∃ (N:List Nat) (S H M:DM),aqj K V r N/\RVs K x y (V++N) S H M/\RWM w' b B x y K T q S H M/\Upd B.maps w w'
def aOx (b:Nat) (B:RB) (x y:Nat) (K:KV) (T:List DM) (q:abM) (d:Nat):Prop :=
 ∀ (r:Nat) (V:List Nat) (S H M:DM) (w:World),RWM w b B x y K T q S H M->RVs K x y V S H M->V.Nodup->K.A.tk r=true->d<=K.dep r ->
  Calls Tryz.prog 66 (#[.int .u32 r]++B.caps) w fun e w'=>e=.returned (.tuple #[])/\RWQ b B x y K T q V r w w'
theorem KV.Ok.const_vI {K:KV} (hk:K.Ok) {r:Nat} {p:abu} (h2:r<2) (hp:K.A.list[r]?=some p):p.var<0:=by
 have h:r=0\/r=1:=by omega
 rcases h with rfl | rfl
 ·rw [hk.wf.ok.c0] at hp;cases hp;decide
 ·rw [hk.wf.ok.c1] at hp;cases hp;decide
theorem aEa (b:Nat) (B:RB) (x y:Nat) (K:KV) (T:List DM) (q:abM) (r:Nat) (V:List Nat) (S H M:DM) (w:World) (hM:RWM w b B x y K T q S H M) (hS:RVs K x y V S H M) (hv:V.Nodup) (ht:K.A.tk r=true) (h2:r<2) :
  Calls Tryz.prog 66 (#[.int .u32 r]++B.caps) w fun e w'=>e=.returned (.tuple #[])/\RWQ b B x y K T q V r w w':=by
 obtain ⟨p,hp,hpt⟩:=aaU.tk_iff.1 ht;have hv0:=hM.ker.ok.const_vI h2 hp;have HN:=Lib.hid (amF b r K T q p w hM.ker.mem (by omega) hp hpt)
 have HE:Hid (∀ z,Upd [] w z->RWQ b B x y K T q V r w z):=fun z u=>⟨[],S,H,M,aqj.none hv (.inl h2),by simpa using hS,hM.keep u,u.mono (by simp)⟩
 have ck0:=aac (j:=0) hM.bk rfl
 show Calls _ _ #[.int .u32 r,.pointer (some ⟨B.kk,0,none⟩),.pointer (some ⟨B.sk,0,none⟩),.pointer (some ⟨B.xb,0,none⟩),.pointer (some ⟨B.yb,0,none⟩),.pointer (some ⟨B.hk,0,none⟩),.pointer (some ⟨B.mo,0,none⟩),.pointer (some ⟨B.wk,0,none⟩)] _ _
 generalize p.var=v at *;generalize p.lo=lo at *;generalize p.hi=hi at *;clear hM hS hv hp hpt ht
 go_enter Tryz.func66,Tryz.ntmps66
 go_wp2_with fail;refine HN.out.mono ?_;rintro e w1 ⟨rfl,hu⟩;have hb:=heap_alloc_new w1 (.cells #[.int .i64 v,.int .u32 lo,.int .u32 hi] 142 (0,0));have HU:=Lib.hid (hu.alloc (.cells #[.int .i64 v,.int .u32 lo,.int .u32 hi] 142 (0,0)));have x0:=aac (j:=0) hb rfl;clear hu hb;go_wp2_with fail;refine bodyPost_ret (results_none rfl _ _ _) rfl ⟨rfl,HE.out _ HU.out⟩
theorem aFY (b:Nat) (B:RB) (x y:Nat) (K:KV) (T:List DM) (q:abM) (r:Nat) (V:List Nat) (S H M:DM) (w:World) (hM:RWM w b B x y K T q S H M) (hS:RVs K x y V S H M) (hv:V.Nodup) (ht:K.A.tk r=true) (h2:2<=r) (hin:r∈V) :
  Calls Tryz.prog 66 (#[.int .u32 r]++B.caps) w fun e w'=>e=.returned (.tuple #[])/\RWQ b B x y K T q V r w w':=by
 have hok:=hM.ker.ok;have hrl:=hok.ref_lt ht
 have hr:r<=4294967295:=by omega
 obtain ⟨p,v,hp,hpt,hpv,hvl,tlo,thi,avw⟩:=hok.wf.node_at h2 ht;have HN:=Lib.hid (amF b r K T q p w hM.ker.mem hr hp hpt);rw [hpv] at HN
 have HE:Hid (∀ z,Upd [] w z->RWQ b B x y K T q V r w z):=fun z u=>⟨[],S,H,M,aqj.none hv (.inr hin),by simpa using hS,hM.keep u,u.mono (by simp)⟩
 have HM:=Lib.hid hM;have HS:=Lib.hid hS;have ck0:=aac (j:=0) hM.bk rfl
 show Calls _ _ #[.int .u32 r,.pointer (some ⟨B.kk,0,none⟩),.pointer (some ⟨B.sk,0,none⟩),.pointer (some ⟨B.xb,0,none⟩),.pointer (some ⟨B.yb,0,none⟩),.pointer (some ⟨B.hk,0,none⟩),.pointer (some ⟨B.mo,0,none⟩),.pointer (some ⟨B.wk,0,none⟩)] _ _
 generalize p.lo=lo at *;generalize p.hi=hi at *;clear hM hS hv hp hpt ht hok hpv hvl tlo thi avw
 go_enter Tryz.func66,Tryz.ntmps66
 go_wp2_with fail;refine HN.out.mono ?_;rintro e w1 ⟨rfl,hu⟩;have hb:=heap_alloc_new w1 (.cells #[.int .i64 (v:Int),.int .u32 lo,.int .u32 hi] 142 (0,0));have hu2:=hu.alloc (.cells #[.int .i64 (v:Int),.int .u32 lo,.int .u32 hi] 142 (0,0));have HU:=Lib.hid hu2;have x0:=aac (j:=0) hb rfl;have hM2:=HM.out.keep hu2;obtain ⟨c,aqL,hat,_⟩:=hM2.ms.lookup_int ara Tryz.underlying139 Tryz.underlying3 (aCI _) (keyOf_int_mk Tryz.underlying77 (wfR hr))
 have hc:c=1:=by
  have:=HS.out.s.at_ r hr ((HS.out.s.has r hr).2 hin) (.lit (.int .i64 0));rw [this] at hat
  simpa using hat.symm
 subst hc;have cs0:=aac (j:=0) hM2.bs rfl
 have hv0:¬ ((v:Int)<0):=by omega
 clear hu hb hM2 hat;go_wp2_with fail;refine bodyPost_ret (results_none rfl _ _ _) rfl ⟨rfl,HE.out _ HU.out⟩
structure aM9 (b:Nat) (B:RB) (x y:Nat) (K:KV) (T:List DM) (q:abM) (V:List Nat) (S:DM) (w9 wc:World):Prop where
 ex:∃ (H M:DM),RWM wc b B x y K T q S H M/\RVs K x y V S H M/\Upd [B.hm,B.mm] w9 wc
theorem KV.haveQ_at {K:KV} {x s:Nat} {p:abu} (hp:K.A.list[s]?=some p):K.haveQ x s=if p.var=(x:Int) then [(p.lo,p.hi)] else []:=by simp [KV.haveQ,hp]
theorem KV.moreQ_at {K:KV} {x y s:Nat} {p:abu} (hp:K.A.list[s]?=some p):K.moreQ x y s=if p.var=(x:Int)/\(K.vI p.lo=(y:Int)\/K.vI p.hi=(y:Int)) then [((K.part y p.lo).1,(K.part y p.hi).1),((K.part y p.lo).2,(K.part y p.hi).2)] else []:=by simp [KV.moreQ,hp]
theorem KV.Ok.part_lt {K:KV} (hk:K.Ok) {r y:Nat} (ht:K.A.tk r=true):(K.part y r).1<1048576/\(K.part y r).2<1048576:=by
 obtain ⟨p,hp,hpt⟩:=aaU.tk_iff.1 ht;have hrl:=hk.ref_lt ht;unfold KV.part;rw [hp]
 dsimp only
 by_cases h2:2<=r
 ·obtain ⟨a,b⟩:=hk.wf.cl r p h2 hp hpt
  split
  ·exact ⟨hk.ref_lt a,hk.ref_lt b⟩
  ·exact ⟨hrl,hrl⟩
 ·have h:r=0\/r=1:=by omega
  rcases h with rfl | rfl
  ·rw [hk.wf.ok.c0] at hp;cases hp
   rw [if_neg (by simp)];exact ⟨hrl,hrl⟩
  ·rw [hk.wf.ok.c1] at hp;cases hp
   rw [if_neg (by simp)];exact ⟨hrl,hrl⟩
theorem aH4 (b:Nat) (B:RB) (x y:Nat) (K:KV) (T:List DM) (q:abM) (r:Nat) (V:List Nat) (S H M:DM) (w:World) (hM:RWM w b B x y K T q S H M) (hS:RVs K x y V S H M) (hv:V.Nodup) (ht:K.A.tk r=true) (h2:2<=r) (aS7:r∉V) (IH:aOx b B x y K T q (K.dep r+1)) :
  Calls Tryz.prog 66 (#[.int .u32 r]++B.caps) w fun e w'=>e=.returned (.tuple #[])/\RWQ b B x y K T q V r w w':=by
 have hok:=hM.ker.ok;have hrl:=hok.ref_lt ht
 have hr:r<=4294967295:=by omega
 obtain ⟨p,v,hp,hpt,hpv,hvl,tlo,thi,avw⟩:=hok.wf.node_at h2 ht;have hb:=hok.ord.below hok.wf h2 hp hpt;have HN:=Lib.hid (amF b r K T q p w hM.ker.mem hr hp hpt);rw [hpv] at HN;have aS8:=hok.ref_lt tlo;have aS9:=hok.ref_lt thi;have hpl:=hok.part_lt (y:=y) tlo;have hph:=hok.part_lt (y:=y) thi
 have HSL:Hid (∀ z,Upd B.maps w z->Calls Tryz.prog 68 #[.pointer (some ⟨b,0,none⟩),.int .u32 p.lo,.int .i64 y] z fun e w'=>e=.returned (.tuple #[.int .u32 (K.part y p.lo).1,.int .u32 (K.part y p.lo).2,.bool (decide (K.vI p.lo=(y:Int)))])/\Upd [] z w'):=fun z u =>
  ay8 b p.lo y K T q z (hM.ker.upd u hM.dq) tlo
 have HSH:Hid (∀ z,Upd B.maps w z->Calls Tryz.prog 68 #[.pointer (some ⟨b,0,none⟩),.int .u32 p.hi,.int .i64 y] z fun e w'=>e=.returned (.tuple #[.int .u32 (K.part y p.hi).1,.int .u32 (K.part y p.hi).2,.bool (decide (K.vI p.hi=(y:Int)))])/\Upd [] z w'):=fun z u =>
  ay8 b p.hi y K T q z (hM.ker.upd u hM.dq) thi
 have HP:=Lib.hid (And.intro hp (And.intro hpt (And.intro hpv (And.intro tlo (And.intro thi (And.intro hb hv))))));have eH:=KV.haveQ_at (x:=x) hp;have eM:=KV.moreQ_at (x:=x) (y:=y) hp;rw [hpv] at eH eM;have HEH:=Lib.hid eH;have HEM:=Lib.hid eM;have HM:=Lib.hid hM;have HS:=Lib.hid hS;have HIH:=Lib.hid IH;have ck0:=aac (j:=0) hM.bk rfl
 show Calls _ _ #[.int .u32 r,.pointer (some ⟨B.kk,0,none⟩),.pointer (some ⟨B.sk,0,none⟩),.pointer (some ⟨B.xb,0,none⟩),.pointer (some ⟨B.yb,0,none⟩),.pointer (some ⟨B.hk,0,none⟩),.pointer (some ⟨B.mo,0,none⟩),.pointer (some ⟨B.wk,0,none⟩)] _ _
 obtain ⟨lo,hlo⟩ : ∃ lo,p.lo=lo:=⟨_,rfl⟩;obtain ⟨hi,hhi⟩ : ∃ hi,p.hi=hi:=⟨_,rfl⟩;have HLH:=Lib.hid (And.intro hlo hhi);rw [hlo] at HN HSL HEH HEM aS8 hpl;rw [hhi] at HN HSH HEH HEM aS9 hph;clear hM hS hv hp hpt ht hok hpv tlo thi avw hb IH eH eM hlo hhi
 go_enter Tryz.func66,Tryz.ntmps66
 go_wp2_with fail;refine HN.out.mono ?_;rintro e w1 ⟨rfl,hu⟩;have hbx:=heap_alloc_new w1 (.cells #[.int .i64 (v:Int),.int .u32 lo,.int .u32 hi] 142 (0,0));have hu2:=hu.alloc (.cells #[.int .i64 (v:Int),.int .u32 lo,.int .u32 hi] 142 (0,0));have hM2:=HM.out.keep hu2;obtain ⟨w2,hw2⟩ : ∃ w2,w1.alloc (.cells #[.int .i64 (v:Int),.int .u32 lo,.int .u32 hi] 142 (0,0))=w2:=⟨_,rfl⟩;rw [hw2] at hbx hu2 hM2;have hn1:w.heap.size<=w1.heap.size:=hu.size;have HW2:=Lib.hid hw2;obtain ⟨c,aqL,hat,_⟩:=hM2.ms.lookup_int ara Tryz.underlying139 Tryz.underlying3 (aCI _) (keyOf_int_mk Tryz.underlying77 (wfR hr))
 have hno:Maps.has S (.int .u32 r)=false:=by
  cases e:Maps.has S (.int .u32 r) with
  | false=>rfl
  | true=>exact absurd ((HS.out.s.has r hr).1 e) aS7
 have hc:c=0:=by
  rw [atKey_of_not_has hno] at hat
  simpa using hat.symm
 subst hc;have hsz:=aH5 HS.out.s (hM2.ms.canon ara) (hM2.ms.tidy ara);obtain ⟨w9,aZQ,ab3,awq⟩:=hM2.ms.store ara Tryz.underlying139 hsz (keyOf_int_mk Tryz.underlying77 (wfR hr)) (plainElem_int (H:=Unit) Tryz.underlying3 (wfI (n:=1) (by omega) (by omega)));have hu9:=ajV awq;have hM9:=hM2.seen hu9 (amg ab3);have cs0:=aac (j:=0) hM2.bs rfl;have cx9:=aac (j:=0) hM9.bx rfl;have hml:B.sm<w.heap.size/\B.hm<w.heap.size/\B.mm<w.heap.size:=⟨HM.out.ms.lt,HM.out.mh.lt,HM.out.mm.lt⟩
 have aW5:w1.heap.size∉B.maps:=by simp [RB.maps];omega
 have aQe:=(hu9.block _ (aa4 hbx) (by simp;omega)).trans hbx
 have HBX:Hid (∀ z,Upd B.maps w9 z->z.cell? ⟨w1.heap.size,0,none⟩=some (.int .i64 (v:Int))/\z.cell? ⟨w1.heap.size,1,none⟩=some (.int .u32 lo)/\z.cell? ⟨w1.heap.size,2,none⟩=some (.int .u32 hi)):=fun z u=>by
  have h:=(u.block _ (aa4 aQe) aW5).trans aQe;exact ⟨aac h rfl,aac h rfl,aac h rfl⟩
 have x0:=aac (j:=0) hbx rfl;obtain ⟨z0,z1,z2⟩:=HBX.out _ (Upd.refl _ _);have HU9:Hid (Upd B.maps w w9):=(hu2.mono (by simp):Upd B.maps w w2).trans (hu9.mono (by simp [RB.maps]));have HM9:=Lib.hid hM9;have HS9:=Lib.hid (HS.out.s.put hrl)
 have HND:Hid ((V++[r]).Nodup):=by
  show (V++[r]).Nodup
  rw [List.nodup_append];refine ⟨HP.out.2.2.2.2.2.2,by simp,fun a ha c hc=>?_⟩
  simp at hc;subst hc
  rintro rfl;exact aS7 ha
 have hv0:¬ ((v:Int)<0):=by omega
 obtain ⟨bb,hbb⟩ : ∃ bb,((v:Int) == (x:Int))=bb:=⟨_,rfl⟩
 have HBB:Hid (bb=decide ((v:Int)=(x:Int))):=by show bb=_;rw [<- hbb];rfl
 generalize aTa:w1.heap.size=w2s at *;have HN1:=Lib.hid aTa;clear hu hbx aQe hu2 hM2 hw2 hat ab3 awq hu9 hM9 hsz hno hn1 hml aTa;go_upto_region 1 with fail;rw [HW2.out,HN1.out];go_upto_if 37 with fail
 go_cut [] from 38 to 73 (fun wc=>aM9 b B x y K T q (V++[r]) (S.put (.int .u32 r) (.lit (.int .i64 1))) w9 wc)
 case first =>
  cases bb with
  | false =>
   have hne:¬ ((v:Int)=(x:Int)):=by simpa using HBB.out
   have e1:K.haveQ x r=[]:=by rw [HEH.out,if_neg hne]
   have e2:K.moreQ x y r=[]:=by rw [HEM.out,if_neg fun h=>hne h.1]
   have HR:Hid (aM9 b B x y K T q (V++[r]) (S.put (.int .u32 r) (.lit (.int .i64 1))) w9 w9) :=
    ⟨H,M,HM9.out,⟨HS9.out,by rw [List.flatMap_append];simpa [e1] using HS.out.h,by rw [List.flatMap_append];simpa [e2] using HS.out.m⟩,Upd.refl _ _⟩
   clear hne e1 e2;go_wp2_with fail;go_meet;exact HR.out
  | true =>
   have hve:(v:Int)=(x:Int):=by simpa using HBB.out
   have cy9:=aac (j:=0) HM9.out.by_ rfl;have ck9:=aac (j:=0) HM9.out.bk rfl;obtain ⟨l0,hl0⟩ : ∃ l0,(K.part y lo).1=l0:=⟨_,rfl⟩;obtain ⟨l1,hl1⟩ : ∃ l1,(K.part y lo).2=l1:=⟨_,rfl⟩;obtain ⟨h0,hh0⟩ : ∃ h0,(K.part y hi).1=h0:=⟨_,rfl⟩;obtain ⟨h1,hh1⟩ : ∃ h1,(K.part y hi).2=h1:=⟨_,rfl⟩;obtain ⟨aa,haa⟩ : ∃ aa,decide (K.vI lo=(y:Int))=aa:=⟨_,rfl⟩;obtain ⟨ab,hab⟩ : ∃ ab,decide (K.vI hi=(y:Int))=ab:=⟨_,rfl⟩;rw [hl0,hl1,haa] at HSL;rw [hh0,hh1,hab] at HSH;rw [hl0,hl1] at hpl;rw [hh0,hh1] at hph
   have e1:K.haveQ x r=[(lo,hi)]:=by rw [HEH.out,if_pos hve]
   have e2:K.moreQ x y r=if (aa||ab)=true then [(l0,h0),(l1,h1)] else []:=by
    rw [HEM.out,hl0,hl1,hh0,hh1,<- haa,<- hab]
    by_cases h1:K.vI lo=(y:Int)\/K.vI hi=(y:Int)
    ·rw [if_pos ⟨hve,h1⟩,if_pos (by simpa using h1)]
    ·rw [if_neg fun h=>h1 h.2,if_neg (by simpa using h1)]
   have HE1:=Lib.hid e1;have HE2:=Lib.hid e2;have HS3:=Lib.hid (HSL.out _ HU9.out);clear hve e1 e2 hl0 hl1 hh0 hh1 haa hab cx9;go_wp2_with fail;refine HS3.out.mono ?_;rintro e w3 ⟨rfl,hu3⟩;have HS4:=Lib.hid (HSH.out _ (HU9.out.trans (hu3.mono (by simp))));have hM3:=HM9.out.keep hu3;have HM3:=Lib.hid hM3;have cy3:=aac (j:=0) hM3.by_ rfl;have ck3:=aac (j:=0) hM3.bk rfl;obtain ⟨a0,a1,a2⟩:=HBX.out _ (hu3.mono (by simp));have HU3:=Lib.hid hu3;clear hM3 hu3 cy9 ck9 z0 z1 z2;go_wp2_with fail;refine HS4.out.mono ?_;rintro e w4 ⟨rfl,hu4⟩;have hM4:=HM3.out.keep hu4;have ch4:=aac (j:=0) hM4.bh rfl;obtain ⟨z0,z1,z2⟩:=HBX.out _ ((HU3.out.trans hu4).mono (by simp));obtain ⟨w5,aZS,aOy,aKE⟩:=hM4.mh.store ae3 Tryz.underlying138 (arM HS.out.h (hM4.mh.canon ae3) (hM4.mh.tidy ae3)) (ay7 (a:=lo) (b:=hi) (by omega) (by omega)) (plainElem_int (H:=Unit) Tryz.underlying3 (wfI (n:=1) (by omega) (by omega)));have hu5:=ajV aKE;have hM5:=hM4.have_ hu5 (amg aOy)
   have hS5:ajK ((V++[r]).flatMap (K.haveQ x)) (H.put (lk lo hi) (.lit (.int .i64 1))):=by
    rw [List.flatMap_append];simpa [HE1.out] using HS.out.h.put aS8 aS9
   have HM5:=Lib.hid hM5;have HS5:=Lib.hid hS5;have HU5:Hid (Upd [B.hm,B.mm] w9 w5):=((HU3.out.trans hu4).mono (by simp)).trans (hu5.mono (by simp));clear hM4 hu4 aOy aKE hu5 hM5 hS5 a0 a1 a2 cy3 ck3;obtain ⟨cc,hcc⟩ : ∃ cc,(aa||ab)=cc:=⟨_,rfl⟩;rw [hcc] at HE2
   cases cc with
   | false =>
    have haa:aa=false:=by cases aa <;> simp_all
    have hab:ab=false:=by cases ab <;> simp_all
    subst haa hab
    have HR:Hid (aM9 b B x y K T q (V++[r]) (S.put (.int .u32 r) (.lit (.int .i64 1))) w9 w5) :=
     ⟨_,M,HM5.out,⟨HS9.out,HS5.out,by rw [List.flatMap_append];simpa [HE2.out] using HS.out.m⟩,HU5.out⟩
    clear hcc;go_wp2_with fail;go_meet;exact HR.out
   | true =>
    have cm5:=aac (j:=0) HM5.out.bm rfl;obtain ⟨w6,aZT,aEb,aKF⟩:=HM5.out.mm.store ae3 Tryz.underlying138 (arM HS.out.m (HM5.out.mm.canon ae3) (HM5.out.mm.tidy ae3)) (ay7 (a:=l0) (b:=h0) (by omega) (by omega)) (plainElem_int (H:=Unit) Tryz.underlying3 (wfI (n:=1) (by omega) (by omega)));have hu6:=ajV aKF;have hM6:=HM5.out.more hu6 (amg aEb);have hS6:=HS.out.m.put (a:=l0) (b:=h0) (by omega) (by omega);have cm6:=aac (j:=0) hM6.bm rfl;obtain ⟨w7,aZU,aEd,aKG⟩:=hM6.mm.store ae3 Tryz.underlying138 (arM hS6 (hM6.mm.canon ae3) (hM6.mm.tidy ae3)) (ay7 (a:=l1) (b:=h1) (by omega) (by omega)) (plainElem_int (H:=Unit) Tryz.underlying3 (wfI (n:=1) (by omega) (by omega)));have hu7:=ajV aKG;have hM7:=hM6.more hu7 (amg aEd);have hS7:=hS6.put (a:=l1) (b:=h1) (by omega) (by omega)
    have HR:Hid (aM9 b B x y K T q (V++[r]) (S.put (.int .u32 r) (.lit (.int .i64 1))) w9 w7) :=
     ⟨_,_,hM7,⟨HS9.out,HS5.out,by rw [List.flatMap_append];simpa [HE2.out] using hS7⟩,HU5.out.trans ((hu6.trans hu7).mono (by simp))⟩
    have hor:aa=true\/(aa=false/\ab=true):=by cases aa <;> simp_all
    clear aEb aKF hu6 hM6 hS6 aEd aKG hu7 hM7 hS7 hcc
    rcases hor with rfl | ⟨rfl,rfl⟩
    ·go_wp2_with fail
     go_meet;exact HR.out
    ·go_wp2_with fail
     go_meet;exact HR.out
 case rest =>
  obtain ⟨H1,M1,hMc,hSc,huc⟩:=hcut.ex
  have aOz:∀ k,k∈[B.hm,B.mm]->k∈B.maps:=fun k hk=>by simp [RB.maps] at hk ⊢;exact .inr hk
  have HUC:Hid (Upd B.maps w9 wc):=huc.mono aOz;obtain ⟨a0,a1,a2⟩:=HBX.out _ HUC.out;have cw:=aac (j:=0) hMc.bw rfl;unfold RB.caps at cw;have HC1:=Lib.hid (HIH.out p.lo (V++[r]) _ H1 M1 wc hMc hSc HND.out HP.out.2.2.2.1 HP.out.2.2.2.2.2.1.1);rw [HLH.out.1] at HC1;clear hMc hSc huc hcut aOz cx9 z0 z1 z2;go_wp2_with fail;refine HC1.out.mono ?_;rintro e w4 ⟨rfl,hQ⟩;obtain ⟨N0,S4,H4,M4,hN0,hS4,hM4,hu4⟩:=hQ.ex;have HU4:=Lib.hid (HUC.out.trans hu4);obtain ⟨b0,b1,b2⟩:=HBX.out _ HU4.out;have cw4:=aac (j:=0) hM4.bw rfl;unfold RB.caps at cw4;have HC2:=Lib.hid (HIH.out p.hi (V++[r]++N0) S4 H4 M4 w4 hM4 hS4 hN0.nd HP.out.2.2.2.2.1 HP.out.2.2.2.2.2.1.2);rw [HLH.out.2] at HC2;have H4':=Lib.hid hN0;clear hQ hN0 hS4 hM4 hu4 a0 a1 a2 cw;go_wp2_with fail;refine HC2.out.mono ?_;rintro e w5 ⟨rfl,hQ⟩;obtain ⟨N1,S5,H5,M5,hN1,hS5,hM5,hu5⟩:=hQ.ex
  have HE:Hid (RWQ b B x y K T q V r w w5):=by
   have e:V++r::(N0++N1)=V++[r]++N0++N1:=by simp
   refine ⟨r::(N0++N1),S5,H5,M5,aqj.node h2 (aaU.tk_iff.2 ⟨p,HP.out.1,HP.out.2.1⟩) HP.out.1 (by rw [HLH.out.1];exact H4'.out) (by rw [HLH.out.2];exact hN1),by rw [e];exact hS5,hM5,HU9.out.trans (HU4.out.trans hu5)⟩
  clear hQ hN1 hS5 hM5 hu5 b0 b1 b2 cw4;go_wp2_with fail;go_end0;exact ⟨rfl,HE.out⟩
theorem aw0 (b:Nat) (B:RB) (x y:Nat) (K:KV) (T:List DM) (q:abM):∀ (n d:Nat),K.vars+1-d<=n->aOx b B x y K T q d
 | n,d,hn=>by
  intro r V S H M w hM hS hv ht hd
  have hok:=hM.ker.ok
  by_cases h2:2<=r
  ·have hl:=hok.wf.dep_lt hok.ord h2 ht
   by_cases hin:r∈V
   ·exact aFY b B x y K T q r V S H M w hM hS hv ht h2 hin
   ·match n,hn with
    | 0,hn=>omega
    | n+1,hn =>
     exact aH4 b B x y K T q r V S H M w hM hS hv ht h2 hin (aw0 b B x y K T q n (K.dep r+1) (by omega))
  ·exact aEa b B x y K T q r V S H M w hM hS hv ht (by omega)
structure WalkA (K:KV) (V rs N:List Nat):Prop where
 nd:(V++N).Nodup
 has:∀ r,r∈rs->2<=r->r∈V++N
 two:∀ x,x∈N->2<=x/\K.A.tk x=true
 under:∀ x,x∈N->∃ r,r∈rs/\K.Under r x
 kids:∀ (x:Nat) (p:abu),x∈N->K.A.list[x]?=some p->(p.lo<2\/p.lo∈V++N)/\(p.hi<2\/p.hi∈V++N)
theorem ajL.alls {K:KV} {V rs N:List Nat} (h:ajL K V rs N):V.Nodup->WalkA K V rs N:=by
 induction h with
 | nil V=>intro hv;exact ⟨by simpa using hv,by simp,by simp,by simp,by simp⟩
 | @cons V N N' r rs h t ih =>
  intro hv
  have a:=ih h.nd
  have e:V++(N++N')=V++N++N':=by simp
  refine ⟨by rw [e];exact a.nd,fun s hs h2=>?_,fun x hx=>?_,fun x hx=>?_,fun x p hx hp=>?_⟩
  ·rw [e]
   rcases List.mem_cons.1 hs with rfl | hs
   ·exact List.mem_append.2 (.inl (h.has h2))
   ·exact a.has s hs h2
  ·rcases List.mem_append.1 hx with hx | hx
   ·exact h.two x hx
   ·exact a.two x hx
  ·rcases List.mem_append.1 hx with hx | hx
   ·exact ⟨r,by simp,h.under x hx⟩
   ·obtain ⟨s,hs,hu⟩:=a.under x hx
    exact ⟨s,by simp [hs],hu⟩
  ·rw [e]
   rcases List.mem_append.1 hx with hx | hx
   ·obtain ⟨k1,k2⟩:=h.kids x p hx hp
    exact ⟨k1.imp_right fun k=>List.mem_append.2 (.inl k),k2.imp_right fun k=>List.mem_append.2 (.inl k)⟩
   ·exact a.kids x p hx hp
end Go.Proofs.YtdackeldhdchaaaGreat
namespace Go.Proofs.YtdackeldhdchaaaGreat
open Go.RowKit
theorem KV.Ok.root_above {K:KV} (hk:K.Ok) {r:Nat} (h2:2<=r) (ht:K.A.tk r=true):∃ f,0<K.hold f/\K.Under f r:=by
 have hr:=KV.live_reach hk.wf hk.pos hk.ord _ r h2 ht (Nat.le_refl _)
 have key:∀ s,K.Reach s->2<=s->∃ f,0<K.hold f/\K.Under f s:=fun s hs=>by
  induction hs with
  | root hh=>intro h2;exact ⟨_,hh,.refl h2⟩
  | lo hq hq2 hqp _ ih =>
   intro h2
   obtain ⟨f,hf,hu⟩:=ih hq2;exact ⟨f,hf,.lo hu hqp h2⟩
  | hi hq hq2 hqp _ ih =>
   intro h2
   obtain ⟨f,hf,hu⟩:=ih hq2;exact ⟨f,hf,.hi hu hqp h2⟩
 exact key r hr h2
theorem WalkA.below {K:KV} {rs N:List Nat} {s x:Nat} (a:WalkA K [] rs N) (hs:s∈rs) (hu:K.Under s x):x∈N:=by
 induction hu with
 | refl h2=>simpa using a.has s hs h2
 | lo _ hp h2 ih =>
  rcases (a.kids _ _ ih hp).1 with h3 | h3
  ·omega
  ·simpa using h3
 | hi _ hp h2 ih =>
  rcases (a.kids _ _ ih hp).2 with h3 | h3
  ·omega
  ·simpa using h3
end Go.Proofs.YtdackeldhdchaaaGreat
namespace Go.Proofs.YtdackeldhdchaaaGreat
open Go.RowKit Go.Maps Go.ChangeMaps Go.WideShapes
theorem aBS {K:KV} {x s:Nat} {q:Nat × Nat}:q∈K.haveQ x s↔∃ p,K.A.list[s]?=some p/\p.var=(x:Int)/\q=(p.lo,p.hi):=by
 unfold KV.haveQ
 cases h:K.A.list[s]? with
 | none=>simp
 | some p =>
  by_cases hv:p.var=(x:Int)
  ·simp [hv]
  ·simp [hv]
theorem aKH {K:KV} (_hk:K.Ok) {V:List Nat} (hV:∀ s,s∈V↔2<=s/\K.A.tk s=true) (x:Nat) (q:Nat × Nat):q∈V.flatMap (K.haveQ x)↔K.has3 x q.1 q.2:=by
 rw [List.mem_flatMap];constructor
 ·rintro ⟨s,hs,hq⟩
  obtain ⟨p,hp,hv,rfl⟩:=aBS.1 hq;obtain ⟨h2,ht⟩:=(hV s).1 hs;obtain ⟨p',hp',hpt⟩:=aaU.tk_iff.1 ht
  rw [hp] at hp';cases hp'
  exact ⟨s,p,h2,hp,hpt,hv,rfl,rfl⟩
 ·rintro ⟨s,p,h2,hp,hpt,hv,e1,e2⟩
  exact ⟨s,(hV s).2 ⟨h2,aaU.tk_iff.2 ⟨p,hp,hpt⟩⟩,aBS.2 ⟨p,hp,hv,by rw [e1,e2]⟩⟩
theorem aKJ {K:KV} (_hk:K.Ok) {V:List Nat} (hV:∀ s,s∈V↔2<=s/\K.A.tk s=true) {l x y:Nat} {C:List CrV} (CA:aiH K l x y C) (q:Nat × Nat):q∈V.flatMap (K.moreQ x y)↔q∈C.flatMap CrV.qs:=by
 rw [List.mem_flatMap,List.mem_flatMap]
 have key:∀ {c:CrV},c∈C->K.moreQ x y c.r=c.qs:=fun {c} hc=>by
  obtain ⟨p,F,hv,_,_⟩:=(CA.ok c hc).ex;have hcr:=(CA.ok c hc).cr;obtain ⟨_,p',hp',_,_,hk'⟩:=hcr
  rw [F.at_] at hp';cases hp'
  rw [KV.moreQ_at F.at_,if_pos ⟨hv,hk'⟩,F.e0,F.e1];rfl
 constructor
 ·rintro ⟨s,hs,hq⟩
  obtain ⟨h2,ht⟩:=(hV s).1 hs;obtain ⟨p,hp,hpt⟩:=aaU.tk_iff.1 ht
  by_cases hc:p.var=(x:Int)/\(K.vI p.lo=(y:Int)\/K.vI p.hi=(y:Int))
  ·obtain ⟨c,hcm,rfl⟩:=List.mem_map.1 (CA.all s ⟨h2,p,hp,hpt,hc.1,hc.2⟩)
   rw [key hcm] at hq;exact ⟨c,hcm,hq⟩
  ·rw [KV.moreQ_at hp,if_neg hc] at hq;simp at hq
 ·rintro ⟨c,hc,hq⟩
  obtain ⟨h2,p,hp,hpt,_⟩:=(CA.ok c hc).cr;exact ⟨c.r,(hV _).2 ⟨h2,aaU.tk_iff.2 ⟨p,hp,hpt⟩⟩,by rw [key hc];exact hq⟩
theorem aH6 {Q:List (Nat × Nat)} {D:DM} (h:ajK Q D) (hc:Maps.Canon D) (ht:Tidy D):Maps.size D<=1099511627776:=by
 have:=ai7 hc (ks:=(List.range 1048576).flatMap fun a=>(List.range 1048576).map fun b=>lk a b) (fun k hk=>by
  obtain ⟨a,b,rfl,ha,hb⟩:=h.dom k hk
  exact List.mem_flatMap.2 ⟨a,List.mem_range.2 ha,List.mem_map.2 ⟨b,List.mem_range.2 hb,rfl⟩⟩) ht
 rw [aBR] at this;omega
structure aw1 (Q:List (Nat × Nat)) (left:Lit->Bool) (ps:List (Nat × Nat)):Prop where
 nd:ps.Nodup
 lt:∀ p,p∈ps->p.1<1048576/\p.2<1048576
 iff:∀ p:Nat × Nat,p.1<1048576->p.2<1048576->(p∈ps↔p∈Q/\left (lk p.1 p.2)=false)
theorem aw1.start {Q:List (Nat × Nat)} {D:DM} (h:ajK Q D):aw1 Q (Maps.has D) [] :=
 ⟨by simp,by simp,fun p h1 h2=>by
  have:=h.has p.1 p.2 (by omega) (by omega);constructor
  ·intro h;simp at h
  ·rintro ⟨h3,h4⟩
   rw [this.2 h3] at h4;cases h4⟩
theorem aw1.step {Q:List (Nat × Nat)} {left:Lit->Bool} {ps:List (Nat × Nat)} {a b:Nat} (h:aw1 Q left ps) (ha:a<1048576) (hb:b<1048576) (hQ:(a,b)∈Q) (hl:left (lk a b)=true):aw1 Q (fun z=>left z&&!z.sameKey (lk a b)) (ps++[(a,b)]):=by
 refine ⟨?_,fun p hp=>?_,fun p h1 h2=>?_⟩
 ·rw [List.nodup_append]
  refine ⟨h.nd,by simp,fun c hc d hd=>?_⟩
  simp at hd;subst hd
  rintro rfl;have:=((h.iff _ ha hb).1 hc).2
  rw [hl] at this;cases this
 ·rcases List.mem_append.1 hp with hp | hp
  ·exact h.lt p hp
  ·simp at hp;subst hp;exact ⟨ha,hb⟩
 ·rw [List.mem_append,h.iff p h1 h2]
  by_cases e:p=(a,b)
  ·subst e;simp [hQ,WideAt.sameKey_self (aKD a b)]
  ·have hne:lk p.1 p.2≠lk a b:=fun h3=>by
    obtain ⟨e1,e2⟩:=aKC (by omega) (by omega) (by omega) (by omega) h3;exact e (by rw [<- e1,<- e2])
   simp [e,sameKey_ne hne]
def aqR (H:List (Nat × Nat)) (ps:List (Nat × Nat)):Nat:=(ps.filter fun p=>decide (p.1≠p.2)&&decide (p∉H)).length
theorem avX (H ps:List (Nat × Nat)) (p:Nat × Nat):aqR H (ps++[p])=aqR H ps+if p.1≠p.2/\p∉H then 1 else 0:=by
 unfold aqR;rw [List.filter_append,List.length_append]
 by_cases h:p.1≠p.2/\p∉H
 ·simp [h.1,h.2]
 ·rw [if_neg h]
  have:List.filter (fun p=>decide (p.1≠p.2)&&decide (p∉H)) [p]=[]:=by
   rw [List.filter_eq_nil_iff]
   intro a ha
   simp only [List.mem_singleton] at ha;subst ha
   simpa [Decidable.not_and_iff_or_not] using h
  rw [this];rfl
theorem aNa (H ps:List (Nat × Nat)):aqR H ps<=ps.length:=List.length_filter_le _ _
theorem aF2 {K:KV} (hk:K.Ok) {V:List Nat} (hV:∀ s,s∈V↔2<=s/\K.A.tk s=true) {l x y:Nat} {D:DM} (_hM:ajK (V.flatMap (K.moreQ x y)) D) {ps:List (Nat × Nat)} {left:Lit->Bool} (h:aw1 (V.flatMap (K.moreQ x y)) left ps) (hl:∀ k,left k=false)
  {C:List CrV} {N:List (Nat × Nat)} (CA:aiH K l x y C) (F:FrN K x (C.flatMap CrV.qs) N):aqR (V.flatMap (K.haveQ x)) ps=N.length:=by
 have key:∀ q,q∈ps.filter (fun p=>decide (p.1≠p.2)&&decide (p∉V.flatMap (K.haveQ x)))↔q∈N:=fun q=>by
  rw [List.mem_filter,F.iff,<- aKJ hk hV CA]
  simp only [Bool.and_eq_true,decide_eq_true_eq,aKH hk hV]
  constructor
  ·rintro ⟨h1,h2⟩
   obtain ⟨h3,h4⟩:=h.lt q h1;exact ⟨((h.iff q h3 h4).1 h1).1,h2⟩
  ·rintro ⟨h1,h2⟩
   obtain ⟨s,hs,hq⟩:=List.mem_flatMap.1 h1
   have hlt:q.1<1048576/\q.2<1048576:=by
    obtain ⟨_,ht⟩:=(hV s).1 hs;obtain ⟨p,hp,hpt⟩:=aaU.tk_iff.1 ht;rw [KV.moreQ_at hp] at hq;have h2s:=((hV s).1 hs).1;obtain ⟨t1,t2⟩:=hk.wf.cl s p h2s hp hpt;have a:=hk.part_lt (y:=y) t1;have b:=hk.part_lt (y:=y) t2
    split at hq
    ·simp at hq
     rcases hq with rfl | rfl
     ·exact ⟨a.1,b.1⟩
     ·exact ⟨a.2,b.2⟩
    ·simp at hq
   exact ⟨(h.iff q hlt.1 hlt.2).2 ⟨h1,hl _⟩,h2⟩
 have e:=((List.perm_ext_iff_of_nodup (h.nd.filter _) F.nd).2 key).length_eq;exact e
theorem ajL.all {K:KV} (hk:K.Ok) {N:List Nat} (h:ajL K [] K.roots N):∀ s,s∈N↔2<=s/\K.A.tk s=true:=fun s=>by
 have a:=h.alls List.nodup_nil;refine ⟨fun hs=>a.two s hs,fun ⟨h2,ht⟩=>?_⟩;obtain ⟨f,hf,hu⟩:=hk.root_above h2 ht;exact a.below (KV.mem_roots.2 hf) hu
theorem aEe (b:Nat) (K:KV) (T:List DM) (q:abM) (w:World) (h:abv w b K T q) :
  Calls Tryz.prog 69 #[.pointer (some ⟨b,0,none⟩)] w fun e w'=>e=.returned (.int .i64 K.A.places)/\w'=w:=by
 have c0:w.cell? ⟨b,0,none⟩=some (.pointer (some ⟨q.a,0,none⟩)):=aac h.blk rfl;have HA:=Lib.hid h.ar;clear h
 go_enter Tryz.func69,Tryz.ntmps69
 go_wp2_with fail;refine (av2 q.a q.FA K.A w HA.out).mono ?_;rintro e w1 ⟨rfl,rfl⟩;go_wp2_with fail;go_ret;exact ⟨rfl,rfl⟩
end Go.Proofs.YtdackeldhdchaaaGreat
