import Derived.Test.YtdackeldhdchaaaGreatPR14
import Derived.Test.YtdackeldhdchaaaGreatPR10
import Derived.Test.YtdackeldhdchaaaGreatPR7
import Derived.Test.YtdackeldhdchaaaGreatPR1
import Derived.Test.YtdackeldhdchaaaGreatPR2
import Derived.RangeFuncBox
import Derived.RangeFuncLeaves
import Derived.Shelf.Abstract
import Derived.WalkKit
import Derived.OwnWalkIn
import Derived.TacticsInMore
import Derived.LoopNIn
import Derived.LoopIn
import Derived.Maps.AppendAt
import Derived.Sort.MapsRangeIn
import Derived.RangeFuncNested
import Derived.RangeFuncBound
import Derived.Deep.QuietTactic
set_option maxRecDepth 100000
set_option maxHeartbeats 6400000
namespace Go.Proofs.YtdackeldhdchaaaGreat
open Go.RowKit Go.Maps Go.ChangeMaps Go.WideShapes
structure Qh (b:Nat) (K:KV) (F:List Nat) (S:((Nat->Bool)->Bool)->Prop) (t:TV) (w:World) (e:Ending) (w':World):Prop where
 ex:∃ (r:Nat) (code:Int) (K':KV) (F':List Nat),e=.returned (.tuple #[.int .u32 r,.int .i64 code])/\Eu K S t.fn r code K'/\bu w' b K' F'/\af F w w'/\Sub F w F'/\(K.trail=[]->K'.trail=[])
theorem xI {K:KV} (hk:K.Ok) {t:TV} (ht:t.Ok) (hn:t.n=K.vars) (h:∀ v,v<K.vars->jW t v=false) (y:Nat->Bool):t.fn y=t.bit 0:=by
 have bM:∀ v,v<K.vars->K.lev v<K.vars->¬ fJ t.fn v:=fun v hv' _ hh=>by
  have h1:=(ik ht (by rw [hn];exact hv')).2 hh
  rw [h v hv'] at h1;cases h1
 have e:=jy hk.ord.pm (g:=t.fn) K.vars (Nat.le_refl _) bM (fun _=>false) y;rw [<- e]
 have e0:∀ n,idx n (fun _=>false)=0:=fun n=>by
  induction n with
  | zero=>rfl
  | succ n ih=>simp [idx,ih]
 have e2:t.bit 0=t.fn (fun _=>false):=by unfold TV.fn;rw [e0]
 rw [e2]
 exact TV.fn_same t fun v hv'=>by
  simp only [KV.mix]
  rw [hn] at hv';rw [if_pos ⟨hv',(hk.ord.pm.lo v hv').1⟩]
theorem qO {i:Nat} (h:i<=1000):wrap64 ((i:Int)+1)=((i+1:Nat):Int):=by rw [IntWalk.wrap64_in _ (by omega)];omega
theorem BG (b:Nat):∀ (d:Nat) (K:KV) (F Z:List Nat) (S:((Nat->Bool)->Bool)->Prop) (c:Value) (t:TV) (lv:Nat) (w:World),bu w b K F->(∀ k,k∈Z->k<w.heap.size)->(∀ k,k∈F->k∈Z)->fO w Z c t->t.n=K.vars ->
  lv+d=K.vars->(∀ v,v<K.vars->K.lev v<lv->jW t v=false)->(∀ x,K.hold x+2*d<65000)->(∀ g,K.SubN t.fn g->S g) ->
  Calls Tryz.prog 52 #[.pointer (some ⟨b,0,none⟩),bK t c,.int .i64 lv] w fun e w'=>Qh b K F S t w e w':=by
 intro d
 induction d using Nat.strongRecOn with
 | ind d ih =>
 intro K F Z S c t lv w hK hZ VU ht nH VF qP BH hS
 obtain ⟨ta,tc,rfl,_⟩:=fP ht.row;have HK:=Lib.hid hK;have HT:=Lib.hid ht
 have HZ:Hid (∀ x:World,af [] w x->∀ k,k∈Z->k<x.heap.size):=fun x u k hk=>Nat.lt_of_lt_of_le (hZ k hk) u.size
 have DJ:=hK.ok.wf.vs;have zC:=hK.ok.ord.pm.ol;obtain ⟨w0,kP⟩ : ∃ w0,w.alloc (.cells #[.int .i64 t.n,.slice ta t.ws.length tc] 121 (0,0))=w0:=⟨_,rfl⟩
 have jY:af [] w w0:=by rw [<- kP];exact (af.refl _ _).alloc _
 have hb:=jc w (.int .i64 t.n) (.slice ta t.ws.length tc);rw [kP] at hb;have dR:=Lib.hid jY
 have Qi:Hid (Calls Tryz.prog 48 #[.pointer (some ⟨b,0,none⟩)] w0 fun e w'=>∃ (g cap:Nat),e=.returned (.slice (some ⟨g,0,none⟩) K.order.length cap)/\w'.ownsRow w0.heap.size 3 1 (.slice (some ⟨g,0,none⟩) K.order.length cap) K.order.length (aK K.order)/\af [] w0 w'):=by
  obtain ⟨T,q,hk,_⟩:=hK;exact oJ b K T q w0 (hk.upd jY (by simp)).mem (by omega) (by omega)
 have HDP:Hid (∀ (x:World) (v:Nat),af [] w x->v<K.vars->Calls Tryz.prog 114 #[bK t (.slice ta t.ws.length tc),.int .i64 v] x fun e w'=>e=.returned (.bool (jW t v))/\af [] x w'):=fun x v u hv=>pJ Z _ t v x (ht.keep0 u) (HZ.out x u) (by omega) (by omega)
 have Su:Hid (∀ x:World,af [] w x->Calls Tryz.prog 115 #[bK t (.slice ta t.ws.length tc),.int .i64 0] x fun e w'=>e=.returned (.bool (t.bit 0))/\af [] x w'):=fun x u=>He Z _ t 0 x (ht.keep0 u) (Nat.two_pow_pos _)
 have HCF:Hid (∀ (x:World) (S':List Nat) (v:Nat) (bb:Bool),af S' w x->(∀ k,k∈S'->k∈Z\/w.heap.size<=k)->v<K.vars->Calls Tryz.prog 116 #[bK t (.slice ta t.ws.length tc),.int .i64 v,.bool bb] x fun e w'=>Bl (bG t v bb) x e w'):=fun x S' v bb u UG hv=>pI Z _ t v bb x (ht.keep u UG) (by omega)
 have uo:Hid (∀ (v:Nat) (b:Bool),(bG t v b).n=t.n):=fun _ _=>rfl
 have Ew:=Lib.hid (And.intro nH (And.intro VF (And.intro qP (And.intro BH (And.intro hS VU)))));have UU:=Lib.hid ih;have yL:=Lib.hid kP;have VV:=Lib.hid zC
 have J9:lv<=K.vars:=by omega
 have Sv:K.vars<=64:=DJ.2;unfold bK at HDP Su HCF ⊢;generalize t.ws.length=W at *;generalize hn:t.n=n at *;have HN:=Lib.hid hn
 have HB:Hid (∀ x:World,af [] w0 x->x.cell? ⟨w.heap.size,0,none⟩=some (.int .i64 n)/\x.cell? ⟨w.heap.size,1,none⟩=some (.slice ta W tc)):=fun x u=>bH u hb
 rw [zC] at Qi;generalize zM:K.vars=kv at *;have Ey:=Lib.hid zM;clear hK hZ VU ht nH VF qP BH hS hn ih kP jY zC DJ hb zM
 go_enter Tryz.func52,Tryz.ntmps52
 go_upto_region 1 with fail;rw [yL.out];go_wp2_with fail;refine Qi.out.mono ?_;rintro e w1 ⟨og,oc,rfl,aB,hu⟩;have iH:=Lib.hid (dR.out.trans hu)
 have Jo:Hid (∀ x:World,af [] w1 x->x.cell? ⟨w.heap.size,0,none⟩=some (.int .i64 n)/\x.cell? ⟨w.heap.size,1,none⟩=some (.slice ta W tc)):=fun x u=>HB.out x (hu.trans u)
 have HRC:Hid (∀ (x:World) (i v:Nat),af [] w1 x->K.order[i]?=some v->x.cell? ⟨og,i,none⟩=some (.int .i64 v)):=fun x i v u hv=>u.cell0 (ax aB (by simp only [aK,List.getElem?_map];rw [hv];rfl))
 clear hu aB;go_wp2_with fail
 go_loopg [2] (kv-lv) (fun gg s2 wr=>∃ i:Nat,kv-i=gg/\lv<=i/\i<=kv/\s2=.int .i64 i/\(∀ v,v<K.vars->K.lev v<i->jW t v=false)/\af [] w1 wr)
 case atStart=>exact ⟨lv,rfl,Nat.le_refl _,J9,rfl,by have:=Ew.out.2.2.1;have h2:K.vars=kv:=Ey.out;rw [h2];exact this,af.refl _ _⟩
 case round =>
  obtain ⟨i,rfl,fE,hi,rfl,bM,hU⟩:=hrel;have Dw:=Lib.hid bM;have HU:=Lib.hid hU;clear bM hU
  by_cases aZ:i<kv
  ·have Jd:(i:Int)<(kv:Int):=by omega
   have oZ:(0:Int)<=(i:Int):=by omega
   obtain ⟨v,hv⟩ : ∃ v,K.order[i]?=some v:=⟨_,List.getElem?_eq_getElem (by have h1:K.vars=kv:=Ey.out;have h2:=VV.out;omega)⟩;have jK:=HK.out.ok.ord.pm.at_order hv;have HV:=Lib.hid (And.intro hv jK)
   have Qj:v<kv:=by have h1:K.vars=kv:=Ey.out;omega
   have x0:=HRC.out _ i v HU.out hv;obtain ⟨b0,b1⟩:=Jo.out _ HU.out
   have iZ:Hid (∀ z,af [] wr z->(z.cell? ⟨w.heap.size,0,none⟩=some (.int .i64 n)/\z.cell? ⟨w.heap.size,1,none⟩=some (.slice ta W tc))/\z.cell? ⟨og,i,none⟩=some (.int .i64 v)):=fun z u=>⟨Jo.out _ (HU.out.trans u),u.cell0 x0⟩
   have VW:=Lib.hid (HDP.out wr.drew v (iH.out.trans HU.out.drew) Qj);obtain ⟨dd,hdd⟩ : ∃ dd,jW t v=dd:=⟨_,rfl⟩;have HDV:=Lib.hid hdd;rw [hdd] at VW;clear hv jK b0 b1 hdd x0;go_upto_region 2 with fail
   go_region_held3 (fun z=>(z.cell? ⟨w.heap.size,0,none⟩=some (.int .i64 n)/\z.cell? ⟨w.heap.size,1,none⟩=some (.slice ta W tc))/\z.cell? ⟨og,i,none⟩=some (.int .i64 v)) (first | exact iZ.out _ (af.refl _ _).drew | exact iZ.out _ dF.out) (first
    | (go_at_call 114;refine VW.out.mono ?_;rintro e w2 ⟨rfl,hu⟩;have dF:=Lib.hid ((af.refl [] wr).drew.trans hu);clear hu))
   cases dd with
   | false =>
    have YH:=qO (i:=i) (by omega);go_wp2_with fail
    go_roundg (kv-(i+1))
    case measure=>omega
    case rel =>
     refine ⟨i+1,rfl,by omega,by omega,by simp,fun u hu hl=>?_,HU.out.trans dF.out⟩
     by_cases e:u=v
     ·subst e;exact HDV.out
     ·refine Dw.out u hu ?_
      have h1:K.lev v=i:=HV.out.2.2;have h2:=HK.out.ok.ord.pm
      have h3:K.lev u≠K.lev v:=fun h=>e (by
       have a:=h2.order_at hu;have c:=h2.order_at HV.out.2.1
       rw [h] at a;rw [a] at c;simpa using c)
      omega
   | true =>
    have Qk:Hid (Split K t v):=⟨HT.out.ok,by have h1:K.vars=kv:=Ey.out;have h2:t.n=n:=HN.out;have h3:=Ew.out.1;omega,HV.out.2.1,HDV.out,fun u hu hl=>Dw.out u hu (by have h1:K.lev v=i:=HV.out.2.2;omega)⟩
    have NU:¬ ((kv:Int)<=(i:Int)):=by omega
    obtain ⟨d',PZ⟩ : ∃ d',d'+K.lev v+1=K.vars:=⟨K.vars-K.lev v-1,by have:=(HK.out.ok.ord.pm.lo v Qk.out.vn).1;omega⟩;have VX:K.lev v=i:=HV.out.2.2
    have VY:d'<d:=by have h1:K.vars=kv:=Ey.out;have h2:=Ew.out.2.1;omega
    have HD:=Lib.hid (And.intro PZ (And.intro VX VY));obtain ⟨⟨b0,b1⟩,x0⟩:=iZ.out _ dF.out;have HUA:=Lib.hid (iH.out.trans (HU.out.trans dF.out))
    have Sj:Hid (∀ (S':List Nat) (x:World),af S' w2 x->(∀ k,k∈S'->k∈Z)->x.cell? ⟨w.heap.size,0,none⟩=some (.int .i64 n)/\x.cell? ⟨w.heap.size,1,none⟩=some (.slice ta W tc)):=fun S' x u UG=>by
     have hnz:w.heap.size∉S':=fun hm=>by have:=HZ.out w (af.refl _ _) _ (UG _ hm);omega
     exact ⟨(u.cell (World.block_lt_of_cell? _ _ b0) hnz).trans b0,(u.cell (World.block_lt_of_cell? _ _ b1) hnz).trans b1⟩
    have zN:=Lib.hid (HCF.out w2 [] v false HUA.out (by simp) Qj)
    have aah:¬ (kv<=i):=by omega
    have afX:0<=i:=by omega
    have YH:=qO (i:=i) (by omega)
    have NT:((i+1:Nat):Int)=(i:Int)+1:=by omega
    have Ez:=Lib.hid NT;rw [NT] at YH;have VU:=Ew.out.2.2.2.2.2;have OJ:=Lib.hid VU;clear PZ VX VY VW NT VU;go_wp2_with fail;refine zN.out.mono ?_;rintro e w3 hE;obtain ⟨c1,rfl,h1,eu⟩:=hE.ex;obtain ⟨la,lc,rfl,_⟩:=fP h1.row;have jQ:=Lib.hid (HUA.out.trans eu);have aai:=Lib.hid eu
    have Ko:=UU.out d' HD.out.2.2 K F Z S (.slice la (bG t v false).ws.length lc) (bG t v false) (i+1) w3 (HK.out.upd jQ.out (by simp)) (HZ.out _ jQ.out) OJ.out (h1.tin (HZ.out _ HUA.out)) (by rw [uo.out,<- HN.out];exact Qk.out.n) (by have h1:=HD.out.1;have h2:=HD.out.2.1;omega)
     (fun u hu hl=>Qk.out.nodep HK.out.ok.ord.pm false HD.out.1 hu (by have h1:=HD.out.1;have h2:=HD.out.2.1;omega)) (fun x=>by have:=Ew.out.2.2.2.1 x;have:=HD.out.2.2;omega) (fun g hg=>Ew.out.2.2.2.2.1 g (Qk.out.sub HK.out.ok.ord.pm hg))
    rw [Ez.out] at Ko;unfold bK at Ko ⊢;have VZ:=uo.out v false;rw [VZ] at Ko ⊢;have V3:=Lib.hid Ko;generalize (bG t v false).ws.length=LW at *;clear hE h1 eu Ko VZ b0 b1 x0;go_wp2_with fail;refine V3.out.mono ?_;rintro e w4 hE;obtain ⟨r1,ac7,K1,F1,rfl,hR1,OL,fF,uI,qQ⟩:=hE.ex;have aaj:=Lib.hid qQ;clear qQ;have zO:=Lib.hid (And.intro OL (And.intro fF uI))
    rcases hR1 with ⟨rfl,e1,t1,dn1,sZ,n1⟩ | ⟨rfl,rfl,e1,bk1,sZ,nf⟩
    ·have yM:=Lib.hid (And.intro e1 (And.intro t1 (And.intro dn1 (And.intro sZ n1))))
     have V4:af F w2 w4:=(aai.out.mono (by simp):af F w2 w3).trans fF;obtain ⟨b0,b1⟩:=Sj.out F w4 V4 OJ.out;have EC:=Lib.hid (HCF.out w4 F v true ((jQ.out.mono (by simp):af F w w3).trans fF) (fun k hk=>.inl (OJ.out k hk)) Qj);clear hE OL fF uI e1 t1 dn1 sZ n1 V4 V3 zN;go_wp2_with fail;refine EC.out.mono ?_;rintro e w5 hE;obtain ⟨c2,rfl,h2,nU⟩:=hE.ex;obtain ⟨ga,gc,rfl,_⟩:=fP h2.row;have e1:=yM.out.1;have sZ:=yM.out.2.2.2.1;have DC:=Lib.hid nU
     have BI:=UU.out d' HD.out.2.2 K1 F1 F1 S (.slice ga (bG t v true).ws.length gc) (bG t v true) (i+1) w5 (zO.out.1.upd nU (by simp)) (fun k hk=>Nat.lt_of_lt_of_le (zO.out.1.lt k hk) nU.size) (fun k hk=>hk) (h2.tin zO.out.1.lt) (by rw [uo.out,e1.vr,<- HN.out];exact Qk.out.n) (by rw [e1.vr];have h1:=HD.out.1;have h2:=HD.out.2.1;omega)
      (fun u hu hl=>Qk.out.nodep HK.out.ok.ord.pm true HD.out.1 (by rw [<- e1.vr];exact hu) (by rw [e1.lev] at hl;have h1:=HD.out.1;have h2:=HD.out.2.1;omega)) (fun x=>by have:=Ew.out.2.2.2.1 x;have:=HD.out.2.2;rw [sZ];split <;> omega) (fun g hg=>Ew.out.2.2.2.2.1 g (Qk.out.sub HK.out.ok.ord.pm (e1.subN.1 hg)))
     rw [Ez.out] at BI;unfold bK at BI ⊢;have V5:=uo.out v true;rw [V5] at BI ⊢;have Ql:=Lib.hid BI;generalize (bG t v true).ws.length=GW at *;clear hE h2 nU BI V5 b0 b1 e1 sZ UU EC;go_wp2_with fail;refine Ql.out.mono ?_;rintro e w6 hE;obtain ⟨r2,ada,K2,F2,rfl,hR2,ED,kY,dV,_⟩:=hE.ex;have YI:=Lib.hid (And.intro ED (And.intro kY dV));have V6:Hid (yK F w F2 w6):=(((yK.of0 (F:=F) jQ.out).trans ⟨zO.out.2.1,zO.out.2.2⟩).trans (yK.of0 DC.out)).trans ⟨kY,dV⟩;clear hE ED kY dV Ql
     rcases hR2 with ⟨rfl,e2,t2,dn2,qF,n2⟩ | ⟨rfl,rfl,e2,b2,qF,nf⟩
     ·-- both parts are held: Make
      have k1:=zO.out.1.ok;have k2:=YI.out.1.ok;have u2:=YI.out.1.uni;have e02:K.Ext K2:=yM.out.1.trans e2;have ta2:K2.A.tk r1=true:=e2.tk yM.out.2.1
      have da2:∀ y,K2.den r1 y=(bG t v false).fn y:=fun y=>by rw [e2.den k1.wf y yM.out.2.1];exact yM.out.2.2.1 y
      have oW:r1<=4294967295:=by have:=k2.ref_lt ta2;omega
      have DZ:r2<=4294967295:=by have:=k2.ref_lt t2;omega
      have V7:∀ x,K2.hold x<65535:=fun x=>by
       have:=Ew.out.2.2.2.1 x;have:=HD.out.2.2
       rw [qF,yM.out.2.2.2.1];split <;> split <;> omega
      have hn2:∀ x,K2.A.tk x=true->K.A.tk x=false->S (K2.den x):=fun x h1 h2=>by
       cases h3:K1.A.tk x with
       | false=>exact n2 x h1 h3
       | true =>
        have e1:K2.den x=K1.den x:=funext fun y=>e2.den k1.wf y h3
        rw [e1];exact yM.out.2.2.2.2 x h3 h2
      have OM:∀ x,K2.hold x=K.hold x+(if x=r1/\2<=r1 then 1 else 0)+(if x=r2/\2<=r2 then 1 else 0):=fun x=>by rw [qF,yM.out.2.2.2.1]
      have hSt:S t.fn:=Ew.out.2.2.2.2.1 _ ⟨0,fun _=>false,fun y=>by congr 1;funext u;simp [KV.mix]⟩;have V8:=Lib.hid (fun (r:Nat) (code:Int) (K3:KV) (k3:K3.Ok) (hM:jB K2 (v:Int) r1 r2 r code K3)=>J7 Qk.out e02 k2 u2 ta2 t2 da2 dn2 V7 hSt hn2 k3 hM);have Qm:=Lib.hid (And.intro OM e02);clear k1 k2 u2 e02 ta2 da2 V7 hn2 hSt OM e2 t2 dn2 qF n2 yM;go_wp2_with fail;refine (OI b v r1 r2 K2 F2 _ YI.out.1 oW DZ).mono ?_;rintro e w7 ⟨r,code,K3,F3,rfl,hM,Jp,eu,vz⟩;have hres:=V8.out r code K3 Jp.ok hM;have HK3:=Lib.hid (And.intro Jp (And.intro eu vz));clear hM Jp eu vz V8
      have UX:(2<=r1->0<K3.hold r1)/\(2<=r2->0<K3.hold r2-(if r2=r1/\2<=r1 then 1 else 0)):=by
       rcases hres with ⟨_,_,_,_,h3,_⟩ | ⟨_,_,rfl,_⟩
       ·refine ⟨fun h=>?_,fun h=>?_⟩
        ·rw [h3,Qm.out.1,if_pos (⟨rfl,h⟩ : r1=r1/\2<=r1)];omega
        ·rw [h3,Qm.out.1,if_pos (⟨rfl,h⟩ : r2=r2/\2<=r2)];split <;> omega
       ·refine ⟨fun h=>?_,fun h=>?_⟩
        ·rw [Qm.out.1,if_pos (⟨rfl,h⟩ : r1=r1/\2<=r1)];omega
        ·rw [Qm.out.1,if_pos (⟨rfl,h⟩ : r2=r2/\2<=r2)];split <;> omega
      have HH3:=Lib.hid UX;have Sz:=Lib.hid hres;clear UX hres
      have mP:Hid (∀ (K4 K5:KV),K3.Dropped r1 K4->K4.Dropped r2 K5->K5.Ok->Eu K S t.fn r code K5):=fun K4 K5 D4 D5 k5=>by
       have e5:K5.Ext K3:=D5.ext.trans D4.ext
       have hd:∀ x,K5.hold x=K3.hold x-(if x=r1/\2<=r1 then 1 else 0)-(if x=r2/\2<=r2 then 1 else 0):=fun x=>by
        rw [D5.hd,D4.hd];split <;> split <;> omega
       rcases Sz.out with ⟨rfl,h1,h2,h3,h4,h5⟩ | ⟨rfl,rfl,rfl,h4⟩
       ·refine OH HK.out.ok k5 (Qm.out.2.trans h1) e5 h3 (fun x=>?_) h5
        rw [hd,h4,Qm.out.1];split <;> split <;> split <;> omega
       ·refine FX HK.out.ok k5 Qm.out.2 e5 (fun x=>?_) h4
        rw [hd,Qm.out.1];split <;> split <;> omega
      go_wp2_with fail;refine (zL b r1 K3 F3 _ HK3.out.1 oW HH3.out.1).mono ?_;rintro e w8 ⟨K4,F4,rfl,hD4,SA,xB,hs4⟩;have YJ:=Lib.hid (And.intro SA (And.intro (yK.mk xB hs4) hD4));clear hD4 SA xB hs4;go_wp2_with fail;refine (zL b r2 K4 F4 _ YJ.out.1 DZ (fun h=>by have:=HH3.out.2 h;rw [YJ.out.2.2.hd];split at this <;> split <;> simp_all)).mono ?_;rintro e w9 ⟨K5,F5,rfl,V9,Qn,nU,NV⟩;have Kq:=Lib.hid (And.intro Qn (And.intro (yK.mk nU NV) V9));clear V9 Qn nU NV;go_wp2_with fail;go_ret2;have DK:=((V6.out.trans ⟨HK3.out.2.1,HK3.out.2.2⟩).trans YJ.out.2.1).trans Kq.out.2.1;exact ⟨r,code,K5,F5,rfl,mP.out K4 K5 YJ.out.2.2 Kq.out.2.2 Kq.out.1.ok,Kq.out.1,DK.up,DK.sub,fun _=>Kq.out.2.2.tr⟩
     ·-- the second part has no room: the first is given up
      have k1:=zO.out.1.ok
      have oW:r1<=4294967295:=by have:=k1.ref_lt yM.out.2.1;omega
      have OM:2<=r1->0<K2.hold r1:=fun h=>by rw [qF,yM.out.2.2.2.1,if_pos (⟨rfl,h⟩ : r1=r1/\2<=r1)];omega
      have mP:Hid (∀ K5:KV,K2.Dropped r1 K5->K5.Ok->Eu K S t.fn 0 9 K5):=fun K5 D5 k5 =>
       FX HK.out.ok k5 (yM.out.1.trans e2) D5.ext (fun x=>by rw [D5.hd,qF,yM.out.2.2.2.1];split <;> omega) (nf.back k1.wf yM.out.1 yM.out.2.2.2.2)
      clear k1 e2 b2 qF nf yM;go_wp2_with fail;refine (zL b r1 K2 F2 _ YI.out.1 oW OM).mono ?_;rintro e w8 ⟨K5,F5,rfl,V9,Qn,nU,NV⟩;have Kq:=Lib.hid (And.intro Qn (And.intro (yK.mk nU NV) V9));clear V9 Qn nU NV;go_wp2_with fail;go_ret2;have DK:=V6.out.trans Kq.out.2.1;exact ⟨0,9,K5,F5,rfl,mP.out K5 Kq.out.2.2 Kq.out.1.ok,Kq.out.1,DK.up,DK.sub,fun _=>Kq.out.2.2.tr⟩
    ·have HX:=Lib.hid (And.intro fF uI)
     have HL:Hid (Eu K S t.fn 0 9 K1):=.inr ⟨rfl,rfl,e1,bk1,sZ,nf⟩;clear hE OL fF uI e1 bk1 sZ nf;go_wp2_with fail;go_ret2;exact ⟨0,9,K1,F1,rfl,HL.out,zO.out.1,jQ.out.trans0 zO.out.2.1,fun k hk=>(zO.out.2.2 k hk).imp id fun h=>Nat.le_trans jQ.out.size h,aaj.out⟩
  ·obtain rfl:i=kv:=by omega
   have Jd:¬ ((i:Int)<(i:Int)):=by omega
   have NU:((i:Int)<=(i:Int)):=by omega
   have uO:=Lib.hid (xI HK.out.ok HT.out.ok (by have h1:K.vars=i:=Ey.out;have h2:t.n=n:=HN.out;have h3:=Ew.out.1;omega) (fun u hu=>Dw.out u hu (by have:=(HK.out.ok.ord.pm.lo u hu).1;have h1:K.vars=i:=Ey.out;omega)));have aah:i<=i:=Nat.le_refl _;obtain ⟨b0,b1⟩:=Jo.out wr.drew HU.out.drew;have FK:=Lib.hid (Su.out wr.drew (iH.out.trans HU.out.drew));obtain ⟨bb,xJ⟩ : ∃ bb,t.bit 0=bb:=⟨_,rfl⟩;have HBV:=Lib.hid xJ;rw [xJ] at FK
   have We:Hid (∀ z,af [] w z->Qh b K F S t w (.returned (.tuple #[.int .u32 ((if bb=true then 1 else 0:Nat)),.int .i64 0])) z):=fun z u =>
    ⟨_,0,K,F,rfl,.inl ⟨rfl,KV.Ext.refl K,HK.out.ok.tk_const (by split <;> omega),fun y=>by
     rw [uO.out,HBV.out,K.den_const (by split <;> omega)];cases bb <;> rfl,fun x=>by rw [if_neg (by rintro ⟨_,h⟩;split at h <;> omega)];omega,fun x h1 h2=>by rw [h1] at h2;cases h2⟩,HK.out.upd u (by simp),u.mono (by simp),Sub.refl _ _,id⟩
   clear xJ;go_upto_region 2 with fail
   go_region
   go_wp2_with fail;refine FK.out.mono ?_;rintro e w2 ⟨rfl,hu⟩;have HE:=Lib.hid (We.out _ (iH.out.trans (HU.out.drew.trans hu)));clear hu b0 b1 We
   cases bb with
   | true =>
    go_wp2_with fail;go_ret2;exact HE.out
   | false =>
    go_wp2_with fail;go_ret2;exact HE.out
end Go.Proofs.YtdackeldhdchaaaGreat
namespace Go.Proofs.YtdackeldhdchaaaGreat
open Go.RowKit Go.Maps Go.ChangeMaps Go.WideShapes Go.Shelf
attribute [local go_sem] Oper.semAt_some
structure zQ (D:DM) (left:Lit->Bool) (ps:List (Lit × Int)):Prop where
 nd:(ps.map (·.1)).Nodup
 at_:∀ p,p∈ps->∀ z,D.atKey p.1 z=.lit (.int .u32 p.2)
 mem:∀ k,k∈ps.map (·.1)↔(Maps.has D k=true/\left k=false)
theorem zQ.start (D:DM):zQ D (Maps.has D) []:=⟨by simp,by simp,fun k=>by cases Maps.has D k <;> simp⟩
theorem zQ.step {D:DM} {left:Lit->Bool} {ps:List (Lit × Int)} (h:zQ D left ps) {k:Lit} {c:Int} (hk:WideAt.IsKeyLit k) (hl:left k=true) (bI:∀ z,D.atKey k z=.lit (.int .u32 c)):zQ D (fun z=>left z&&!z.sameKey k) (ps++[(k,c)]):=by
 have hh:Maps.has D k=true:=has_true_of_atKey bI;refine ⟨?_,fun p hp=>?_,fun z=>?_⟩
 ·rw [List.map_append,List.nodup_append]
  refine ⟨h.nd,by simp,fun a ha b hb=>?_⟩
  simp at hb;subst hb
  rintro rfl;have:=((h.mem a).1 ha).2
  rw [hl] at this;cases this
 ·rcases List.mem_append.1 hp with hp | hp
  ·exact h.at_ p hp
  ·simp at hp;subst hp;exact bI
 ·rw [List.map_append,List.mem_append,h.mem]
  by_cases e:z=k
  ·subst e;simp [hh,WideAt.sameKey_self hk]
  ·simp [e,sameKey_ne e]
def je (D:DM) (l:List Int):Prop:=∃ ps:List (Lit × Int),(ps.map (·.1)).Nodup/\(∀ p,p∈ps->∀ z,D.atKey p.1 z=.lit (.int .u32 p.2))/\(∀ k,k∈ps.map (·.1)↔Maps.has D k=true)/\l=ps.map (·.2)
theorem zQ.all {D:DM} {left:Lit->Bool} {ps:List (Lit × Int)} (h:zQ D left ps) (hl:∀ k,left k=false):je D (ps.map (·.2)):=⟨ps,h.nd,h.at_,fun k=>by rw [h.mem,hl];simp,rfl⟩
theorem Hg {key:Value} {kl:Lit} (h:keyOf Tryz.prog 142 key=some kl):WideAt.IsKeyLit kl:=by
 unfold keyOf at h;rw [Tryz.underlying142] at h
 simp at h
 obtain ⟨_,ls,_,rfl⟩:=h
 trivial
theorem EE (n:Nat) (hn:1<=n) (l Bm b nn:Nat) (D:DM) (J Jx:List Int->World->Prop)
  (hY:∀ pre x W,J pre W->pre.length<Maps.size D->YieldAt Fence.wide (n-1) Tryz.prog l #[.int .u32 x] W fun e W' =>
   (e=.returned (.bool true)/\J (pre++[x]) W'/\KeepsWalks W W')\/(e=.returned (.bool false)/\Jx (pre++[x]) W'))
  (W:World) (hJ:AbidesFrom W.heap.size J) (hm:W.cell? ⟨Bm,0,none⟩=some (.map (some b))) (aJ:W.ownsMap Tryz.prog 142 (plainElem Tryz.prog 77) b nn D) (h0:J [] W) :
  CallsIn Fence.wide n Tryz.prog 227 #[.func (.yield l) #[] #[],.pointer (some ⟨Bm,0,none⟩)] W fun e W'=>(∃ v,e=.returned v) /\
   ((∃ xs,je D xs/\J xs W')\/(∃ pre,True/\Jx pre W')):=by
 refine callsIn_of_wp Tryz.func227 rfl trivial ?_ rfl
 simp only [Tryz.ntmps227,List.size_toArray,List.length_cons,List.length_nil,Nat.reduceAdd,Nat.reduceSub,Array.replicate_succ,Array.replicate_zero,List.push_toArray,List.append_toArray,List.nil_append,List.cons_append]
 gi_wp2_with (first
  | (gi_at_range;refine wpListIn_range_own _ rfl _ 219 rfl 142 77 aW Tryz.underlying219 _ b nn _ rfl aJ ?_;intro w0 EF SB UI)
  | gi_in)
 go_frame
 gi_loopw [4] (fun _ wr=>∃ (left:Lit->Bool) (cnt:Nat) (ps:List (Lit × Int)),wr.ranges Tryz.prog 142 (plainElem Tryz.prog 77) b W.heap.size nn D left cnt/\ps.length+cnt<=Maps.size D/\zQ D left ps/\J (ps.map (·.2)) wr)
  (fun _ wr=>wr.rangeLeft b W.heap.size)
 case atStart =>
  exact ⟨_,_,[],EF,by simp,zQ.start D,hJ [] W w0 none h0 SB (fun r e=>by cases e)⟩
 case round =>
  obtain ⟨left,cnt,ps,BJ,NT,hC,hJs⟩:=hrel
  gi_wp2_with (first
   | (gi_at_next;refine wpListIn_next_ranges _ rfl _ rfl 142 aW (plainElem Tryz.prog 77) id (Value.int .u32) (fun key kl hk=>⟨key,rfl⟩) (fun v y hv=>by obtain ⟨c,rfl,_⟩:=plainElem_int_inv Tryz.underlying77 hv;exact ⟨c,rfl⟩) b W.heap.size nn _ _ _ rfl BJ ?_ ?_)
   | gi_in)
  ·intro BK sW
   gi_wp2
   go_end0;exact ⟨⟨_,rfl⟩,.inl ⟨_,hC.all sW,hJs⟩⟩
  ·intro x c kl yd yp w2 aap gW UY hv bI BL aZ D9 dV hen
   obtain ⟨c',ec,ez,_⟩:=plainElem_int_inv Tryz.underlying77 hv
   obtain rfl:c=c':=by simpa using ec
   obtain rfl:yd=.lit (.int .u32 c):=(Prod.mk.inj ez).1;have hJ2:J (ps.map (·.2)) w2:=hJ _ wr w2 (some W.heap.size) hJs D9 (fun r e=>by cases e;exact ⟨Nat.le_refl _,BJ.iter_walk⟩);obtain ⟨fn,tmps,assign,body,hy,hR⟩:=hY (ps.map (·.2)) c w2 hJ2 (by simp;omega);clear dV
   gi_wp2
   refine hR.mono ?_;have YK:=hC.step (Hg gW) UY bI;rintro e W3 (⟨rfl,hJ3,hk3⟩ | ⟨rfl,aaq⟩)
   ·gi_wp2
    have Wh:=BL.of_walks hk3
    go_roundw
    case rel=>exact ⟨_,aap,ps++[(kl,c)],Wh,by simp;omega,YK,by simpa using hJ3⟩
    case measure=>rw [Wh.left_eq,BJ.left_eq];exact aZ
   ·gi_wp2
    refine bodyPost_ret (results_none rfl _ _ _) rfl ?_;exact ⟨⟨_,rfl⟩,.inr ⟨_,trivial,aaq⟩⟩
theorem Hl (n:Nat) (mb:Option Nat) (w:World) :
  CallsIn Fence.wide n Tryz.prog 216 #[.map mb] w fun e w'=>e=.returned (.func (.func 227) #[] #[.pointer (some ⟨w.heap.size,0,none⟩)])/\w'=w.alloc (.cells #[.map mb] 219):=by
 refine callsIn_of_wp Tryz.func216 rfl trivial ?_ rfl
 simp only [Tryz.ntmps216,List.size_toArray,List.length_cons,List.length_nil,Nat.reduceAdd,Nat.reduceSub,Array.replicate_succ,Array.replicate_zero,List.push_toArray,List.append_toArray,List.nil_append,List.cons_append]
 gi_wp2
 go_ret;exact ⟨rfl,rfl⟩
theorem zS (n:Nat) (hn:1<=n) (Bm b nn:Nat) (D:DM) (w:World) (hBm:Bm<w.heap.size) (hm:w.cell? ⟨Bm,0,none⟩=some (.map (some b))) (aJ:w.ownsMap Tryz.prog 142 (plainElem Tryz.prog 77) b nn D) :
  SeqStopsK Fence.wide n Tryz.prog 227 #[.pointer (some ⟨Bm,0,none⟩)] (fun x:Int=>#[Value.int .u32 x]) KeepsWalks (je D) (fun _=>True) (Maps.size D) w:=fun l J Jx W hW hJ _ hY h0=>by
 have FY:W.ownsMap Tryz.prog 142 (plainElem Tryz.prog 77) b nn D:=bJ aJ (hW.block b aJ.lt);exact EE n hn l Bm b nn D J Jx hY W hJ ((hW.cell (p:=⟨Bm,0,none⟩) hBm).trans hm) FY h0
attribute [local go_sem] Oper.semAt_some
theorem Tryz.infoRefE:(Tryz.prog.info? 77).map (fun i=>(i.zero,i.size,i.bytes))=some (some (.int .u32 0),1,4):=by kernel_rfl
structure zT (D:DM) (n0:Nat) (w:World) (e:Ending) (w':World):Prop where
 ex:∃ (v:Value) (l:List Int),e=.returned v/\je D l/\w'.ownsRow n0 77 1 v l.length (l.map (Value.int .u32))/\Below w.heap.size w w'
theorem zU (n:Nat) (hn:3<=n) (Bm b nn:Nat) (D:DM) (w:World) (hBm:Bm<w.heap.size) (hm:w.cell? ⟨Bm,0,none⟩=some (.map (some b))) (aJ:w.ownsMap Tryz.prog 142 (plainElem Tryz.prog 77) b nn D) (df:Maps.size D<=1048576) :
  CallsIn Fence.wide n Tryz.prog 229 #[.slice none 0 0,.func (.func 227) #[] #[.pointer (some ⟨Bm,0,none⟩)]] w fun e w'=>zT D w.heap.size w e w':=by
 have h1:1<=n:=by omega
 obtain ⟨i0,hi,pW,hz1,dX⟩:=info_parts Tryz.infoRefE;refine callsIn_of_wp_marks Tryz.func229 rfl trivial ?_ rfl
 simp only [Tryz.ntmps229,List.size_toArray,List.length_cons,List.length_nil,Nat.reduceAdd,Nat.reduceSub,Array.replicate_succ,Array.replicate_zero,List.push_toArray,List.append_toArray,List.nil_append,List.cons_append]
 gi_wp2
 have bO:=Boxed.new w 42 (.slice none 0 0);have hB0:Below w.heap.size w (w.alloc (.cells #[.slice none 0 0] 42)):=(Below.refl _ w).alloc (Nat.le_refl _) _;have Qo:(w.alloc (.cells #[.slice none 0 0] 42)).cell? ⟨Bm,0,none⟩=some (.map (some b)):=(hB0.cell (p:=⟨Bm,0,none⟩) hBm).trans hm;have nV:(w.alloc (.cells #[.slice none 0 0] 42)).ownsMap Tryz.prog 142 (plainElem Tryz.prog 77) b nn D:=bJ aJ (hB0.block b aJ.lt)
 refine wpIn_rangeFunc_ownG rfl h1 (gf:=227) (lb:=#[.pointer (some ⟨Bm,0,none⟩)]) rfl trivial (enters_of Tryz.func227 (by kernel_rfl) rfl)
  (zS (n-1) (by omega) Bm b nn D _ (by simp;omega) Qo nV) walksK_t walksK_b (Below.refl _ _) (fun _=>rfl)
  (fun pre W=>(∃ v,Boxed W w.heap.size 42 v/\W.ownsRow w.heap.size 77 1 v pre.length (pre.map (Value.int .u32))/\True)/\Below w.heap.size w W)
  (fun _ _ _=>False)
  (OwnFrom.and (Own.from (holdsRow_own w.heap.size w.heap.size 42 77 1 (fun pre:List Int=>pre.length) (fun pre=>pre.map (Value.int .u32)) (fun _ _=>True)) _) (ownFrom_below (Nat.le_refl _) (by simp)))
  (fun _ _ _ _ _ hs _ _=>hs)
  ⟨⟨_,bO,World.ownsRow_nil _ _ _ _,trivial⟩,hB0⟩
  (fun x=>{ tmps:=#[.slice none 0 0,.func (.func 227) #[] #[.pointer (some ⟨Bm,0,none⟩)],.pointer (some ⟨w.heap.size,0,none⟩),undef,.slice none 0 0,.int .u32 x,.func (.func 227) #[] #[.pointer (some ⟨Bm,0,none⟩)],.int .u32 x,undef,undef,undef,undef,undef],defers:=[] }) ?assign ?body ?done ?stop
 case assign =>
  intro l x W K hK
  gi_wp2
  exact hK
 case body =>
  rintro l pre x W ⟨⟨v,hv,aB,_⟩,hB⟩ aZ;have hc:=hv.cell
  gi_wp2_with (gi_at_builtin;refine wpListIn_append_own _ rfl _ _ 42 rfl w.heap.size 77 i0 (.int .u32 0) 1 4 Tryz.underlying42 hi pW hz1 dX rfl (by decide) _ _ _ rfl (aB.alloc _) ⟨W.heap.size,0,none⟩ 1 1 [.int .u32 x] rfl rfl (cell_one_new _ _ _) (by simp [Value.oneCell']) (by unfold maxLen;omega) (by omega) (by have:=hB.size;simp;omega) ?_;intro v' w1 FY Wi _;obtain ⟨g',SC,rfl⟩:=ownsRow_succ FY;obtain ⟨Vy,hv2,rH,RX,dW⟩:=hv.appended (by decide) aB hB.size (Nat.le_refl _) FY Wi;have zJ:=Vy.cell;have SE:=Vy.frozen)
  exact ⟨RX.from _,RX.walks,⟨_,hv2,by simpa using rH,trivial⟩,hB.trans dW⟩
 case done =>
  rintro Dd ys W hD hys ⟨⟨v,hv,aB,_⟩,hB⟩ hK;have hc:=hv.cell
  gi_wp2
  refine ⟨by simp,.inl ⟨_,_,rfl,run_takeDeferred hK,?_⟩⟩;exact ⟨_,results_tmp rfl _ _ _,v,ys,rfl,hys,ownsRow_putObj aB _ hK rfl,hB.trans (belowK_b (w:=w) (Nat.le_refl _) W Dd _ _ (by simp at hD;omega) hK rfl rfl)⟩
 case stop =>
  rintro Dd c pre W _ _ h _;exact h.elim
theorem EG (n:Nat) (hn:4<=n) (Bm b nn:Nat) (D:DM) (w:World) (hBm:Bm<w.heap.size) (hm:w.cell? ⟨Bm,0,none⟩=some (.map (some b))) (aJ:w.ownsMap Tryz.prog 142 (plainElem Tryz.prog 77) b nn D) (df:Maps.size D<=1048576) :
  CallsIn Fence.wide n Tryz.prog 225 #[.func (.func 227) #[] #[.pointer (some ⟨Bm,0,none⟩)]] w fun e w'=>zT D w.heap.size w e w':=by
 refine callsIn_of_wp Tryz.func225 rfl trivial ?_ rfl
 simp only [Tryz.ntmps225,List.size_toArray,List.length_cons,List.length_nil,Nat.reduceAdd,Nat.reduceSub,Array.replicate_succ,Array.replicate_zero,List.push_toArray,List.append_toArray,List.nil_append,List.cons_append]
 gi_wp2
 refine ⟨trivial,fun _=>by omega,?_⟩;refine (zU (n-1) (by omega) Bm b nn D _ hBm hm aJ df).mono ?_;rintro e w' hE;obtain ⟨v,l,rfl,hl,hr,hB⟩:=hE.ex;clear hE
 gi_wp2
 go_ret;exact ⟨v,l,rfl,hl,hr,hB⟩
end Go.Proofs.YtdackeldhdchaaaGreat
namespace Go.Proofs.YtdackeldhdchaaaGreat
open Go.RowKit Go.Maps Go.ChangeMaps Go.WideShapes
theorem EH (w:World):Calls Tryz.prog 242 #[.int .u64 0] w fun e w'=>(∃ c:Int,e=.returned (.int .i64 c))/\w'=w:=by
 go_enter Tryz.func242,Tryz.ntmps242
 go_wp2_with fail;go_ret;exact ⟨⟨_,rfl⟩,rfl⟩
theorem Kr (w:World):Calls Tryz.prog 231 #[.int .u64 0] w fun e w'=>(∃ c:Int,e=.returned (.int .i64 c))/\w'=w:=by
 go_enter Tryz.func231,Tryz.ntmps231
 go_wp2_with fail;refine (EH _).mono ?_;rintro e w1 ⟨⟨c,rfl⟩,rfl⟩;go_wp2_with fail;go_ret;exact ⟨⟨_,rfl⟩,rfl⟩
theorem xK (a:Option Addr) (c:Nat) (w:World):Calls Tryz.prog 232 #[.slice a 0 c,.int .i64 0,.int .i64 0] w fun e w'=>e=.returned (.tuple #[])/\w'=w:=by
 go_enter Tryz.func232,Tryz.ntmps232
 go_wp2_with fail
 go_loopg [6] 0 (fun gg s6 wr=>gg=0/\s6=.int .i64 1/\wr=w)
 case atStart=>exact ⟨rfl,rfl,rfl⟩
 case round =>
  obtain ⟨rfl,rfl,rfl⟩:=hrel;go_wp2_with fail;go_end0;exact ⟨rfl,rfl⟩
theorem Hm (a:Option Addr) (c:Nat) (l:Int) (w:World):Calls Tryz.prog 230 #[.slice a 0 c,.int .i64 0,.int .i64 0,.int .i64 l] w fun e w'=>e=.returned (.tuple #[])/\w'=w:=by
 go_enter Tryz.func230,Tryz.ntmps230
 go_wp2_with fail
 go_loopg [1,2,3] 0 (fun gg s1 s2 s3 wr=>gg=0/\s1=.int .i64 0/\s2=.int .i64 0/\wr=w)
 case atStart=>exact ⟨rfl,rfl,rfl,rfl⟩
 case round =>
  obtain ⟨rfl,rfl,rfl,rfl⟩:=hrel;go_wp2_with fail;refine (xK a c _).mono ?_;rintro e w1 ⟨rfl,rfl⟩;go_wp2_with fail;refine bodyPost_ret (results_none rfl _ _ _) rfl ?_;exact ⟨rfl,rfl⟩
theorem EI (a:Option Addr) (c:Nat) (w:World):Calls Tryz.prog 226 #[.slice a 0 c] w fun e w'=>e=.returned (.tuple #[])/\w'=w:=by
 go_enter Tryz.func226,Tryz.ntmps226
 go_wp2_with fail;refine (Kr _).mono ?_;rintro e w1 ⟨⟨l,rfl⟩,rfl⟩;go_wp2_with fail;refine (Hm a c l _).mono ?_;rintro e w2 ⟨rfl,rfl⟩;go_wp2_with fail;go_end0;exact ⟨rfl,rfl⟩
theorem xM (Bm b nn:Nat) (D:DM) (w:World) (hBm:Bm<w.heap.size) (hm:w.cell? ⟨Bm,0,none⟩=some (.map (some b))) (aJ:w.ownsMap Tryz.prog 142 (plainElem Tryz.prog 77) b nn D) (df:Maps.size D<=1048576) :
  Calls Tryz.prog 225 #[.func (.func 227) #[] #[.pointer (some ⟨Bm,0,none⟩)]] w fun e w'=>zT D w.heap.size w e w' :=
 callsIn_wide.1 (EG 10 (by omega) Bm b nn D w hBm hm aJ df)
theorem zV (mb:Option Nat) (w:World) :
  Calls Tryz.prog 216 #[.map mb] w fun e w'=>e=.returned (.func (.func 227) #[] #[.pointer (some ⟨w.heap.size,0,none⟩)])/\w'=w.alloc (.cells #[.map mb] 219) :=
 callsIn_wide.1 (Hl 10 mb w)
theorem Ho {n:Nat} {w w':World} (h:Below n w w') (hn:w.heap.size<=n):af [] w w' :=
 ⟨h.os,h.tape,h.output,h.size,fun k hk _=>h.block k (by omega)⟩
theorem yN (l:List Nat) (r n:Nat):(aK l).set r (.int .i64 n)=aK (l.set r n):=by simp [aK,List.map_set]
theorem ay.setOrder {w:World} {b g n' c r n:Nat} {K:KV} {T:List DM} {q:aA} (h:ay w b K T q) (hq:q.ov=.slice (some ⟨g,0,none⟩) n' c) (hr:r<K.order.length) :
  ay (w.setCell ⟨g,r,none⟩ (.int .i64 n)) b { K with order:=K.order.set r n } T q:=by
 have hg:q.o g=5:=h.oo g (by rw [hq];rfl)
 have hne:∀ {k c},q.o k=c->c≠5->k≠g:=fun {k c} hk hc hm=>hc (by rw [<- hk,hm,hg])
 have hk:∀ {k c},q.o k=c->c≠5->(w.setCell ⟨g,r,none⟩ (.int .i64 n)).heap[k]?=w.heap[k]?:=fun hk hc=>aI (hne hk hc)
 refine ⟨by rw [hk h.ob (by omega)];exact h.blk,h.ar.keep fun k hm=>hk (h.oa k hm) (by omega),h.tab.keep fun k hm=>hk (h.ot k hm) (by omega),ah h.us fun k hm=>hk (h.ou k hm) (by omega),
  ah h.hs fun k hm=>hk (h.oh k hm) (by omega),?_,ah h.ls fun k hm=>hk (h.ol k hm) (by omega),ah h.ts fun k hm=>hk (h.ox k hm) (by omega),
  h.ob,h.oa,h.ot,h.ou,h.oh,h.oo,h.ol,h.ox⟩
 have hu:=h.os;rw [hq] at hu ⊢;have:=dA hu (j:=r) (by omega) (.int .i64 n);rw [yN] at this
 simpa using this
theorem ay.setLevel {w:World} {b g n' c r n:Nat} {K:KV} {T:List DM} {q:aA} (h:ay w b K T q) (hq:q.lv=.slice (some ⟨g,0,none⟩) n' c) (hr:r<K.level.length) :
  ay (w.setCell ⟨g,r,none⟩ (.int .i64 n)) b { K with level:=K.level.set r n } T q:=by
 have hg:q.o g=6:=h.ol g (by rw [hq];rfl)
 have hne:∀ {k c},q.o k=c->c≠6->k≠g:=fun {k c} hk hc hm=>hc (by rw [<- hk,hm,hg])
 have hk:∀ {k c},q.o k=c->c≠6->(w.setCell ⟨g,r,none⟩ (.int .i64 n)).heap[k]?=w.heap[k]?:=fun hk hc=>aI (hne hk hc)
 refine ⟨by rw [hk h.ob (by omega)];exact h.blk,h.ar.keep fun k hm=>hk (h.oa k hm) (by omega),h.tab.keep fun k hm=>hk (h.ot k hm) (by omega),ah h.us fun k hm=>hk (h.ou k hm) (by omega),
  ah h.hs fun k hm=>hk (h.oh k hm) (by omega),ah h.os fun k hm=>hk (h.oo k hm) (by omega),?_,ah h.ts fun k hm=>hk (h.ox k hm) (by omega),
  h.ob,h.oa,h.ot,h.ou,h.oh,h.oo,h.ol,h.ox⟩
 have hu:=h.ls;rw [hq] at hu ⊢;have:=dA hu (j:=r) (by omega) (.int .i64 n);rw [yN] at this
 simpa using this
theorem ay.growTrail {w w5:World} {b g5 cap l:Nat} {X:Obj} {K:KV} {T:List DM} {q:aA} (h:ay w b K T q) (hg:(w.alloc X).grownBy w5 q.tv.ownBlock) (bI:q.tv.ownBlock=some g5\/g5=w.heap.size+1)
  (aJ:w5.ownsRow 0 3 1 (.slice (some ⟨g5,0,none⟩) (K.trail.length+1) cap) (K.trail.length+1) (aK K.trail++[.int .i64 l])) :
  ay (w5.setCell ⟨b,7,none⟩ (.slice (some ⟨g5,0,none⟩) (K.trail.length+1) cap)) b { K with trail:=K.trail++[l] } T { q with tv:=.slice (some ⟨g5,0,none⟩) (K.trail.length+1) cap,o:=bP q w.heap.size 7 }:=by
 have hb:=aj h.blk
 have DD:b≠g5:=by
  rcases bI with e | e
  ·rintro rfl;have e1:=h.ob;have e2:=h.ox b e;omega
  ·omega
 have keep:∀ {k c:Nat},q.o k=c->c≠7->c≠0->k<w.heap.size->(w5.setCell ⟨b,7,none⟩ (.slice (some ⟨g5,0,none⟩) (K.trail.length+1) cap)).heap[k]?=w.heap[k]?:=by
  intro k c hk hc h0 hl
  rw [aI (by rintro rfl;exact h0 (hk ▸ h.ob)),hg.block k (by rw [World.size_alloc];omega) (fun e=>hc (hk ▸ h.ox k e.symm)),Below.heap_alloc _ _ _ hl]
 have mi:w5.heap[b]?=w.heap[b]?:=by
  rw [hg.block b (by rw [World.size_alloc];omega) (fun e=>by have e1:=h.ob;have e2:=h.ox b e.symm;omega),Below.heap_alloc _ _ _ hb]
 rw [h.blk] at mi
 refine ⟨by rw [aF mi];simp,h.ar.keep fun k hm=>keep (h.oa k hm) (by omega) (by omega) (h.ar.lt k hm),h.tab.keep fun k hm=>keep (h.ot k hm) (by omega) (by omega) (h.tab.lt k hm),
  ah h.us fun k hm=>keep (h.ou k hm) (by omega) (by omega) (h.us.lt k hm).2,ah h.hs fun k hm=>keep (h.oh k hm) (by omega) (by omega) (h.hs.lt k hm).2,ah h.os fun k hm=>keep (h.oo k hm) (by omega) (by omega) (h.os.lt k hm).2,ah h.ls fun k hm=>keep (h.ol k hm) (by omega) (by omega) (h.ls.lt k hm).2,?_,?_,?_,?_,?_,?_,?_,?_,?_⟩
 ·show World.ownsRow _ 0 _ 1 _ (K.trail++[l]).length (aK (K.trail++[l]))
  have e:=aV aJ (a:=⟨b,7,none⟩) (by simpa [Value.ownBlock] using DD) (.slice (some ⟨g5,0,none⟩) (K.trail.length+1) cap)
  simpa [aK] using e
 ·show bP q _ _ b=0
  rw [aT hb];exact h.ob
 ·intro k hk;show bP q _ _ k=1;rw [aT (h.ar.lt k hk)];exact h.oa k hk
 ·intro k hk;show bP q _ _ k=2;rw [aT (h.tab.lt k hk)];exact h.ot k hk
 ·intro k hk;show bP q _ _ k=3;rw [aT (h.us.lt k hk).2];exact h.ou k hk
 ·intro k hk;show bP q _ _ k=4;rw [aT (h.hs.lt k hk).2];exact h.oh k hk
 ·intro k hk;show bP q _ _ k=5;rw [aT (h.os.lt k hk).2];exact h.oo k hk
 ·intro k hk;show bP q _ _ k=6;rw [aT (h.ls.lt k hk).2];exact h.ol k hk
 ·intro k hk
  simp [Value.ownBlock] at hk;subst hk
  show bP q _ _ g5=7
  rcases bI with e | e
  ·rw [aT (h.ts.lt g5 e).2];exact h.ox g5 e
  ·unfold bP;rw [if_pos (by omega)]
def KV.swapK (K:KV) (l:Nat):KV:={ K with order:=(K.order.set l (K.order.getD (l+1) 0)).set (l+1) (K.order.getD l 0),level:=(K.level.set (K.order.getD l 0) (l+1)).set (K.order.getD (l+1) 0) l }
theorem zW {l:List Nat} {i:Nat} (h:i<l.length):l[i]?=some (l.getD i 0):=by
 rw [List.getD_eq_getElem?_getD,List.getElem?_eq_getElem h];rfl
theorem Tryz.infoIntE:(Tryz.prog.info? 3).map (fun i=>(i.zero,i.size,i.bytes))=some (some (.int .i64 0),1,8):=by kernel_rfl
theorem jl {w:World} {base g n' c:Nat} {l:List Nat} {n:Nat} (h:w.ownsRow base 3 1 (.slice (some ⟨g,0,none⟩) n' c) n (aK l)) {j:Nat} (hj:j<l.length):w.cell? ⟨g,j,none⟩=some (.int .i64 (l.getD j 0:Nat)) :=
 ax h (by rw [aK,List.getElem?_map,zW hj];rfl)
theorem Kt {b l go gl co cl n1 n2:Nat} {K:KV} {T:List DM} {q:aA} {w:World} (hm:ay w b K T q) (ho:q.ov=.slice (some ⟨go,0,none⟩) n1 co) (hv:q.lv=.slice (some ⟨gl,0,none⟩) n2 cl) (h1:l<K.order.length) (h2:l+1<K.order.length)
  (h3:K.order.getD l 0<K.level.length) (h4:K.order.getD (l+1) 0<K.level.length) :
  ay ((((w.setCell ⟨go,l,none⟩ (.int .i64 (K.order.getD (l+1) 0:Nat))).setCell ⟨go,l+1,none⟩ (.int .i64 (K.order.getD l 0:Nat))).setCell ⟨gl,K.order.getD l 0,none⟩ (.int .i64 ((l:Int)+1))).setCell ⟨gl,K.order.getD (l+1) 0,none⟩ (.int .i64 l)).drew.drew b (K.swapK l) T q /\
  af (q.all b) w ((((w.setCell ⟨go,l,none⟩ (.int .i64 (K.order.getD (l+1) 0:Nat))).setCell ⟨go,l+1,none⟩ (.int .i64 (K.order.getD l 0:Nat))).setCell ⟨gl,K.order.getD l 0,none⟩ (.int .i64 ((l:Int)+1))).setCell ⟨gl,K.order.getD (l+1) 0,none⟩ (.int .i64 l)).drew.drew:=by
 have m1:=hm.setOrder (n:=K.order.getD (l+1) 0) ho h1;have m2:=m1.setOrder (n:=K.order.getD l 0) (r:=l+1) ho (by simpa using h2);have m3:=m2.setLevel (n:=l+1) (r:=K.order.getD l 0) hv h3;have m4:=m3.setLevel (n:=l) (r:=K.order.getD (l+1) 0) hv (by rw [List.length_set];exact h4);have go1:go∈q.all b:=aA.mem.2 (.inr (.inr (.inr (.inr (.inr (.inl (by rw [ho];rfl)))))));have gl1:gl∈q.all b:=aA.mem.2 (.inr (.inr (.inr (.inr (.inr (.inr (.inl (by rw [hv];rfl))))))))
 exact ⟨(m4.upd ((af.refl [] _).drew) (by simp)).upd ((af.refl [] _).drew) (by simp),
  ((((((af.refl (q.all b) w).setCell (p:=⟨go,l,none⟩) (.inl go1) _).setCell (p:=⟨go,l+1,none⟩) (.inl go1) _).setCell (p:=⟨gl,_,none⟩) (.inl gl1) _).setCell (p:=⟨gl,_,none⟩) (.inl gl1) _).drew).drew⟩
end Go.Proofs.YtdackeldhdchaaaGreat
