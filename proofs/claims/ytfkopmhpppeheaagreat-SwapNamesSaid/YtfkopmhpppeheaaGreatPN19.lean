import Derived.Test.YtfkopmhpppeheaaGreatPN18
import Derived.Test.YtfkopmhpppeheaaGreatPN14
import Derived.Test.YtfkopmhpppeheaaGreatPN7
import Derived.Test.YtfkopmhpppeheaaGreatPN1
import Derived.Test.YtfkopmhpppeheaaGreatPN2
import Derived.Test.YtfkopmhpppeheaaGreatPN12
import Derived.RangeFuncBox
import Derived.RangeFuncLeaves
import Derived.Shelf.Abstract
import Derived.WalkKit
import Derived.OwnWalkIn
import Derived.TacticsInMore
import Derived.LoopNIn
import Derived.LoopIn
import Derived.Maps.AppendAt
import Derived.Sort.MapsRangeIn
import Derived.RangeFuncNested
import Derived.RangeFuncBound
import Derived.Deep.QuietTactic
set_option maxRecDepth 100000
set_option maxHeartbeats 6400000
namespace Go.Proofs.YtfkopmhpppeheaaGreat
open Go.RowKit Go.Maps Go.ChangeMaps Go.WideShapes
structure aai (b:Nat) (K:KV) (F:List Nat) (S:((Nat->Bool)->Bool)->Prop) (t:TV) (w:World) (e:Ending) (w':World):Prop where
 ex:∃ (r:Nat) (code:Int) (K':KV) (F':List Nat),e=.returned (.tuple #[.int .u32 r,.int .i64 code])/\Nk K S t.fn r code K'/\aZ w' b K' F'/\af F w w'/\Sub F w F'/\(K.trail=[]->K'.trail=[])
theorem EE {K:KV} (hk:K.Ok) {t:TV} (ht:t.Ok) (hn:t.n=K.vars) (h:∀ v,v<K.vars->oW t v=false) (y:Nat->Bool):t.fn y=t.bit 0:=by
 have bK:∀ v,v<K.vars->K.lev v<K.vars->¬ jI t.fn v:=fun v hv' _ hh=>by
  have h1:=(nG ht (by rw [hn];exact hv')).2 hh
  rw [h v hv'] at h1;cases h1
 have e:=nJ hk.ord.pm (g:=t.fn) K.vars (Nat.le_refl _) bK (fun _=>false) y;rw [<- e]
 have e0:∀ n,idx n (fun _=>false)=0:=fun n=>by
  induction n with
  | zero=>rfl
  | succ n ih=>simp [idx,ih]
 have e2:t.bit 0=t.fn (fun _=>false):=by unfold TV.fn;rw [e0]
 rw [e2]
 exact TV.AU t fun v hv'=>by
  simp only [KV.mix]
  rw [hn] at hv';rw [if_pos ⟨hv',(hk.ord.pm.lo v hv').1⟩]
theorem yP {i:Nat} (h:i<=1000):wrap64 ((i:Int)+1)=((i+1:Nat):Int):=by rw [IntWalk.wrap64_in _ (by omega)];omega
theorem JA (b:Nat):∀ (d:Nat) (K:KV) (F Z:List Nat) (S:((Nat->Bool)->Bool)->Prop) (c:Value) (t:TV) (lv:Nat) (w:World),aZ w b K F->(∀ k,k∈Z->k<w.heap.size)->(∀ k,k∈F->k∈Z)->jG w Z c t->t.n=K.vars ->
  lv+d=K.vars->(∀ v,v<K.vars->K.lev v<lv->oW t v=false)->(∀ x,K.hold x+2*d<65000)->(∀ g,K.jv t.fn g->S g) ->
  Calls Tryz.prog 61 #[.pointer (some ⟨b,0,none⟩),dI t c,.int .i64 lv] w fun e w'=>aai b K F S t w e w':=by
 intro d
 induction d using Nat.strongRecOn with
 | ind d ih =>
 intro K F Z S c t lv w hK hZ hFZ ht vg Ht vT CJ hS
 obtain ⟨ta,tc,rfl,_⟩:=aj ht.row;have HK:=Lib.hid hK;have HT:=Lib.hid ht
 have HZ:Hid (∀ x:World,af [] w x->∀ k,k∈Z->k<x.heap.size):=fun x u k hk=>Nat.lt_of_lt_of_le (hZ k hk) u.size
 have zx:=hK.ok.wf.vs;have yC:=hK.ok.ord.pm.ol;obtain ⟨w0,AZ⟩ : ∃ w0,w.alloc (.cells #[.int .i64 t.n,.slice ta t.ws.length tc] 122 (0,0))=w0:=⟨_,rfl⟩
 have wO:af [] w w0:=by rw [<- AZ];exact (af.refl _ _).alloc _
 have hb:=nH w (.int .i64 t.n) (.slice ta t.ws.length tc);rw [AZ] at hb;have jR:=Lib.hid wO
 have UK:Hid (Calls Tryz.prog 43 #[.pointer (some ⟨b,0,none⟩)] w0 fun e w'=>∃ (g cap:Nat),e=.returned (.slice (some ⟨g,0,none⟩) K.order.length cap)/\w'.ownsRow w0.heap.size 3 1 (.slice (some ⟨g,0,none⟩) K.order.length cap) K.order.length (aQ K.order)/\af [] w0 w'):=by
  obtain ⟨T,q,hk,_⟩:=hK;exact qH b K T q w0 (hk.upd wO (by simp)).mem (by omega) (by omega)
 have HDP:Hid (∀ (x:World) (v:Nat),af [] w x->v<K.vars->Calls Tryz.prog 134 #[dI t (.slice ta t.ws.length tc),.int .i64 v] x fun e w'=>e=.returned (.bool (oW t v))/\af [] x w'):=fun x v u hv=>xh Z _ t v x (ht.keep0 u) (HZ.out x u) (by omega) (by omega)
 have Uc:Hid (∀ x:World,af [] w x->Calls Tryz.prog 135 #[dI t (.slice ta t.ws.length tc),.int .i64 0] x fun e w'=>e=.returned (.bool (t.bit 0))/\af [] x w'):=fun x u=>Qk Z _ t 0 x (ht.keep0 u) (Nat.two_pow_pos _)
 have HCF:Hid (∀ (x:World) (S':List Nat) (v:Nat) (bb:Bool),af S' w x->(∀ k,k∈S'->k∈Z\/w.heap.size<=k)->v<K.vars->Calls Tryz.prog 136 #[dI t (.slice ta t.ws.length tc),.int .i64 v,.bool bb] x fun e w'=>Jo (cO t v bb) x e w'):=fun x S' v bb u hS' hv=>xg Z _ t v bb x (ht.keep u hS') (by omega)
 have A7:Hid (∀ (v:Nat) (b:Bool),(cO t v b).n=t.n):=fun _ _=>rfl
 have QG:=Lib.hid (And.intro vg (And.intro Ht (And.intro vT (And.intro CJ (And.intro hS hFZ)))));have XO:=Lib.hid ih;have Xr:=Lib.hid AZ;have HOL:=Lib.hid yC
 have UM:lv<=K.vars:=by omega
 have X4:K.vars<=64:=zx.2;unfold dI at HDP Uc HCF ⊢;generalize t.ws.length=W at *;generalize hn:t.n=n at *;have HN:=Lib.hid hn
 have HB:Hid (∀ x:World,af [] w0 x->x.cell? ⟨w.heap.size,0,none⟩=some (.int .i64 n)/\x.cell? ⟨w.heap.size,1,none⟩=some (.slice ta W tc)):=fun x u=>dw u hb
 rw [yC] at UK;generalize Nl:K.vars=kv at *;have QH:=Lib.hid Nl;clear hK hZ hFZ ht vg Ht vT CJ hS hn ih AZ wO yC zx hb Nl
 go_enter Tryz.func61,Tryz.ntmps61
 go_upto_region 1 with fail;rw [Xr.out];go_wp2_with fail;refine UK.out.mono ?_;rintro e w1 ⟨og,oc,rfl,aC,hu⟩;have mG:=Lib.hid (jR.out.trans hu)
 have Af:Hid (∀ x:World,af [] w1 x->x.cell? ⟨w.heap.size,0,none⟩=some (.int .i64 n)/\x.cell? ⟨w.heap.size,1,none⟩=some (.slice ta W tc)):=fun x u=>HB.out x (hu.trans u)
 have HRC:Hid (∀ (x:World) (i v:Nat),af [] w1 x->K.order[i]?=some v->x.cell? ⟨og,i,none⟩=some (.int .i64 v)):=fun x i v u hv=>u.cell0 (au aC (by simp only [aQ,List.getElem?_map];rw [hv];rfl))
 clear hu aC;go_wp2_with fail
 go_loopg [2] (kv-lv) (fun gg s2 wr=>∃ i:Nat,kv-i=gg/\lv<=i/\i<=kv/\s2=.int .i64 i/\(∀ v,v<K.vars->K.lev v<i->oW t v=false)/\af [] w1 wr)
 case atStart=>exact ⟨lv,rfl,Nat.le_refl _,UM,rfl,by have:=QG.out.2.2.1;have h2:K.vars=kv:=QH.out;rw [h2];exact this,af.refl _ _⟩
 case round =>
  obtain ⟨i,rfl,fF,hi,rfl,bK,hU⟩:=hrel;have FP:=Lib.hid bK;have HU:=Lib.hid hU;clear bK hU
  by_cases aW:i<kv
  ·have Sm:(i:Int)<(kv:Int):=by omega
   have sG:(0:Int)<=(i:Int):=by omega
   obtain ⟨v,hv⟩ : ∃ v,K.order[i]?=some v:=⟨_,List.getElem?_eq_getElem (by have h1:K.vars=kv:=QH.out;have h2:=HOL.out;omega)⟩;have sH:=HK.out.ok.ord.pm.lU hv;have HV:=Lib.hid (And.intro hv sH)
   have hvk:v<kv:=by have h1:K.vars=kv:=QH.out;omega
   have x0:=HRC.out _ i v HU.out hv;obtain ⟨b0,b1⟩:=Af.out _ HU.out
   have nN:Hid (∀ z,af [] wr z->(z.cell? ⟨w.heap.size,0,none⟩=some (.int .i64 n)/\z.cell? ⟨w.heap.size,1,none⟩=some (.slice ta W tc))/\z.cell? ⟨og,i,none⟩=some (.int .i64 v)):=fun z u=>⟨Af.out _ (HU.out.trans u),u.cell0 x0⟩
   have HDD:=Lib.hid (HDP.out wr.drew v (mG.out.trans HU.out.drew) hvk);obtain ⟨dd,hdd⟩ : ∃ dd,oW t v=dd:=⟨_,rfl⟩;have HDV:=Lib.hid hdd;rw [hdd] at HDD;clear hv sH b0 b1 hdd x0;go_upto_region 2 with fail
   go_region_held3 (fun z=>(z.cell? ⟨w.heap.size,0,none⟩=some (.int .i64 n)/\z.cell? ⟨w.heap.size,1,none⟩=some (.slice ta W tc))/\z.cell? ⟨og,i,none⟩=some (.int .i64 v)) (first | exact nN.out _ (af.refl _ _).drew | exact nN.out _ eF.out) (first
    | (go_at_call 134;refine HDD.out.mono ?_;rintro e w2 ⟨rfl,hu⟩;have eF:=Lib.hid ((af.refl [] wr).drew.trans hu);clear hu))
   cases dd with
   | false =>
    have hwn:=yP (i:=i) (by omega);go_wp2_with fail
    go_roundg (kv-(i+1))
    case measure=>omega
    case rel =>
     refine ⟨i+1,rfl,by omega,by omega,by simp,fun u hu hl=>?_,HU.out.trans eF.out⟩
     by_cases e:u=v
     ·subst e;exact HDV.out
     ·refine FP.out u hu ?_
      have h1:K.lev v=i:=HV.out.2.2;have h2:=HK.out.ok.ord.pm
      have h3:K.lev u≠K.lev v:=fun h=>e (by
       have a:=h2.nI hu;have c:=h2.nI HV.out.2.1
       rw [h] at a;rw [a] at c;simpa using c)
      omega
   | true =>
    have HSP:Hid (Split K t v):=⟨HT.out.ok,by have h1:K.vars=kv:=QH.out;have h2:t.n=n:=HN.out;have h3:=QG.out.1;omega,HV.out.2.1,HDV.out,fun u hu hl=>FP.out u hu (by have h1:K.lev v=i:=HV.out.2.2;omega)⟩
    have Qh:¬ ((kv:Int)<=(i:Int)):=by omega
    obtain ⟨d',Xp⟩ : ∃ d',d'+K.lev v+1=K.vars:=⟨K.vars-K.lev v-1,by have:=(HK.out.ok.ord.pm.lo v HSP.out.vn).1;omega⟩;have afp:K.lev v=i:=HV.out.2.2
    have afq:d'<d:=by have h1:K.vars=kv:=QH.out;have h2:=QG.out.2.1;omega
    have HD:=Lib.hid (And.intro Xp (And.intro afp afq));obtain ⟨⟨b0,b1⟩,x0⟩:=nN.out _ eF.out;have HUA:=Lib.hid (mG.out.trans (HU.out.trans eF.out))
    have LZ:Hid (∀ (S':List Nat) (x:World),af S' w2 x->(∀ k,k∈S'->k∈Z)->x.cell? ⟨w.heap.size,0,none⟩=some (.int .i64 n)/\x.cell? ⟨w.heap.size,1,none⟩=some (.slice ta W tc)):=fun S' x u hS'=>by
     have hnz:w.heap.size∉S':=fun hm=>by have:=HZ.out w (af.refl _ _) _ (hS' _ hm);omega
     exact ⟨(u.cell (World.block_lt_of_cell? _ _ b0) hnz).trans b0,(u.cell (World.block_lt_of_cell? _ _ b1) hnz).trans b1⟩
    have H8:=Lib.hid (HCF.out w2 [] v false HUA.out (by simp) hvk)
    have akj:¬ (kv<=i):=by omega
    have arq:0<=i:=by omega
    have hwn:=yP (i:=i) (by omega)
    have EC:((i+1:Nat):Int)=(i:Int)+1:=by omega
    have Np:=Lib.hid EC;rw [EC] at hwn;have hFZ:=QG.out.2.2.2.2.2;have Yv:=Lib.hid hFZ;clear Xp afp afq HDD EC hFZ;go_wp2_with fail;refine H8.out.mono ?_;rintro e w3 hE;obtain ⟨c1,rfl,h1,fG⟩:=hE.ex;obtain ⟨la,lc,rfl,_⟩:=aj h1.row;have o8:=Lib.hid (HUA.out.trans fG);have akk:=Lib.hid fG
    have UN:=XO.out d' HD.out.2.2 K F Z S (.slice la (cO t v false).ws.length lc) (cO t v false) (i+1) w3 (HK.out.upd o8.out (by simp)) (HZ.out _ o8.out) Yv.out (h1.tin (HZ.out _ HUA.out)) (by rw [A7.out,<- HN.out];exact HSP.out.n) (by have h1:=HD.out.1;have h2:=HD.out.2.1;omega)
     (fun u hu hl=>HSP.out.aah HK.out.ok.ord.pm false HD.out.1 hu (by have h1:=HD.out.1;have h2:=HD.out.2.1;omega)) (fun x=>by have:=QG.out.2.2.2.1 x;have:=HD.out.2.2;omega) (fun g hg=>QG.out.2.2.2.2.1 g (HSP.out.sub HK.out.ok.ord.pm hg))
    rw [Np.out] at UN;unfold dI at UN ⊢;have afr:=A7.out v false;rw [afr] at UN ⊢;have afs:=Lib.hid UN;generalize (cO t v false).ws.length=LW at *;clear hE h1 fG UN afr b0 b1 x0;go_wp2_with fail;refine afs.out.mono ?_;rintro e w4 hE;obtain ⟨r1,Jk,K1,F1,rfl,Lh,O3,iq,xe,yQ⟩:=hE.ex;have akl:=Lib.hid yQ;clear yQ;have FX:=Lib.hid (And.intro O3 (And.intro iq xe))
    rcases Lh with ⟨rfl,e1,t1,dn1,AY,n1⟩ | ⟨rfl,rfl,e1,bk1,AY,nf⟩
    ·have FY:=Lib.hid (And.intro e1 (And.intro t1 (And.intro dn1 (And.intro AY n1))))
     have aft:af F w2 w4:=(akk.out.mono (by simp):af F w2 w3).trans iq;obtain ⟨b0,b1⟩:=LZ.out F w4 aft Yv.out;have Nq:=Lib.hid (HCF.out w4 F v true ((o8.out.mono (by simp):af F w w3).trans iq) (fun k hk=>.inl (Yv.out k hk)) hvk);clear hE O3 iq xe e1 t1 dn1 AY n1 aft afs H8;go_wp2_with fail;refine Nq.out.mono ?_;rintro e w5 hE;obtain ⟨c2,rfl,h2,nK⟩:=hE.ex;obtain ⟨ga,gc,rfl,_⟩:=aj h2.row;have e1:=FY.out.1;have AY:=FY.out.2.2.2.1;have Jy:=Lib.hid nK
     have JB:=XO.out d' HD.out.2.2 K1 F1 F1 S (.slice ga (cO t v true).ws.length gc) (cO t v true) (i+1) w5 (FX.out.1.upd nK (by simp)) (fun k hk=>Nat.lt_of_lt_of_le (FX.out.1.lt k hk) nK.size) (fun k hk=>hk) (h2.tin FX.out.1.lt) (by rw [A7.out,e1.vr,<- HN.out];exact HSP.out.n) (by rw [e1.vr];have h1:=HD.out.1;have h2:=HD.out.2.1;omega)
      (fun u hu hl=>HSP.out.aah HK.out.ok.ord.pm true HD.out.1 (by rw [<- e1.vr];exact hu) (by rw [e1.lev] at hl;have h1:=HD.out.1;have h2:=HD.out.2.1;omega)) (fun x=>by have:=QG.out.2.2.2.1 x;have:=HD.out.2.2;rw [AY];split <;> omega) (fun g hg=>QG.out.2.2.2.2.1 g (HSP.out.sub HK.out.ok.ord.pm (e1.akg.1 hg)))
     rw [Np.out] at JB;unfold dI at JB ⊢;have afu:=A7.out v true;rw [afu] at JB ⊢;have aal:=Lib.hid JB;generalize (cO t v true).ws.length=GW at *;clear hE h2 nK JB afu b0 b1 e1 AY XO Nq;go_wp2_with fail;refine aal.out.mono ?_;rintro e w6 hE;obtain ⟨r2,Tt,K2,F2,rfl,hR2,vU,jE,dR,_⟩:=hE.ex;have HK2:=Lib.hid (And.intro vU (And.intro jE dR));have afv:Hid (l9 F w F2 w6):=(((l9.of0 (F:=F) o8.out).trans ⟨FX.out.2.1,FX.out.2.2⟩).trans (l9.of0 Jy.out)).trans ⟨jE,dR⟩;clear hE vU jE dR aal
     rcases hR2 with ⟨rfl,e2,t2,dn2,wP,n2⟩ | ⟨rfl,rfl,e2,b2,wP,nf⟩
     ·-- both parts are held: Make
      have k1:=FX.out.1.ok;have k2:=HK2.out.1.ok;have u2:=HK2.out.1.uni;have e02:K.Ext K2:=FY.out.1.trans e2;have ta2:K2.A.tk r1=true:=e2.tk FY.out.2.1
      have da2:∀ y,K2.den r1 y=(cO t v false).fn y:=fun y=>by rw [e2.den k1.wf y FY.out.2.1];exact FY.out.2.2.1 y
      have uG:r1<=4294967295:=by have:=k2.bZ ta2;omega
      have Ff:r2<=4294967295:=by have:=k2.bZ t2;omega
      have Lr:∀ x,K2.hold x<65535:=fun x=>by
       have:=QG.out.2.2.2.1 x;have:=HD.out.2.2
       rw [wP,FY.out.2.2.2.1];split <;> split <;> omega
      have hn2:∀ x,K2.A.tk x=true->K.A.tk x=false->S (K2.den x):=fun x h1 h2=>by
       cases h3:K1.A.tk x with
       | false=>exact n2 x h1 h3
       | true =>
        have e1:K2.den x=K1.den x:=funext fun y=>e2.den k1.wf y h3
        rw [e1];exact FY.out.2.2.2.2 x h3 h2
      have Yw:∀ x,K2.hold x=K.hold x+(if x=r1/\2<=r1 then 1 else 0)+(if x=r2/\2<=r2 then 1 else 0):=fun x=>by rw [wP,FY.out.2.2.2.1]
      have hSt:S t.fn:=QG.out.2.2.2.2.1 _ ⟨0,fun _=>false,fun y=>by congr 1;funext u;simp [KV.mix]⟩;have HMK:=Lib.hid (fun (r:Nat) (code:Int) (K3:KV) (k3:K3.Ok) (hM:jJ K2 (v:Int) r1 r2 r code K3)=>UI HSP.out e02 k2 u2 ta2 t2 da2 dn2 Lr hSt hn2 k3 hM);have HH1:=Lib.hid (And.intro Yw e02);clear k1 k2 u2 e02 ta2 da2 Lr hn2 hSt Yw e2 t2 dn2 wP n2 FY;go_wp2_with fail;refine (Yu b v r1 r2 K2 F2 _ HK2.out.1 uG Ff).mono ?_;rintro e w7 ⟨r,code,K3,F3,rfl,hM,SS,fG,xG⟩;have hres:=HMK.out r code K3 SS.ok hM;have HK3:=Lib.hid (And.intro SS (And.intro fG xG));clear hM SS fG xG HMK
      have hh3:(2<=r1->0<K3.hold r1)/\(2<=r2->0<K3.hold r2-(if r2=r1/\2<=r1 then 1 else 0)):=by
       rcases hres with ⟨_,_,_,_,h3,_⟩ | ⟨_,_,rfl,_⟩
       ·refine ⟨fun h=>?_,fun h=>?_⟩
        ·rw [h3,HH1.out.1,if_pos (⟨rfl,h⟩ : r1=r1/\2<=r1)];omega
        ·rw [h3,HH1.out.1,if_pos (⟨rfl,h⟩ : r2=r2/\2<=r2)];split <;> omega
       ·refine ⟨fun h=>?_,fun h=>?_⟩
        ·rw [HH1.out.1,if_pos (⟨rfl,h⟩ : r1=r1/\2<=r1)];omega
        ·rw [HH1.out.1,if_pos (⟨rfl,h⟩ : r2=r2/\2<=r2)];split <;> omega
      have HH3:=Lib.hid hh3;have ab6:=Lib.hid hres;clear hh3 hres
      have tN:Hid (∀ (K4 K5:KV),K3.Dropped r1 K4->K4.Dropped r2 K5->K5.Ok->Nk K S t.fn r code K5):=fun K4 K5 D4 D5 k5=>by
       have e5:K5.Ext K3:=D5.ext.trans D4.ext
       have hd:∀ x,K5.hold x=K3.hold x-(if x=r1/\2<=r1 then 1 else 0)-(if x=r2/\2<=r2 then 1 else 0):=fun x=>by
        rw [D5.hd,D4.hd];split <;> split <;> omega
       rcases ab6.out with ⟨rfl,h1,h2,h3,h4,h5⟩ | ⟨rfl,rfl,rfl,h4⟩
       ·refine Yt HK.out.ok k5 (HH1.out.2.trans h1) e5 h3 (fun x=>?_) h5
        rw [hd,h4,HH1.out.1];split <;> split <;> split <;> omega
       ·refine O1 HK.out.ok k5 HH1.out.2 e5 (fun x=>?_) h4
        rw [hd,HH1.out.1];split <;> split <;> omega
      go_wp2_with fail;refine (Hz b r1 K3 F3 _ HK3.out.1 uG HH3.out.1).mono ?_;rintro e w8 ⟨K4,F4,rfl,hD4,hK4,Ah,hs4⟩;have HK4:=Lib.hid (And.intro hK4 (And.intro (l9.mk Ah hs4) hD4));clear hD4 hK4 Ah hs4;go_wp2_with fail;refine (Hz b r2 K4 F4 _ HK4.out.1 Ff (fun h=>by have:=HH3.out.2 h;rw [HK4.out.2.2.hd];split at this <;> split <;> simp_all)).mono ?_;rintro e w9 ⟨K5,F5,rfl,hD5,hK5,nK,Xt⟩;have UO:=Lib.hid (And.intro hK5 (And.intro (l9.mk nK Xt) hD5));clear hD5 hK5 nK Xt;go_wp2_with fail;go_ret2;have A8:=((afv.out.trans ⟨HK3.out.2.1,HK3.out.2.2⟩).trans HK4.out.2.1).trans UO.out.2.1;exact ⟨r,code,K5,F5,rfl,tN.out K4 K5 HK4.out.2.2 UO.out.2.2 UO.out.1.ok,UO.out.1,A8.up,A8.sub,fun _=>UO.out.2.2.tr⟩
     ·-- the second part has no room: the first is given up
      have k1:=FX.out.1.ok
      have uG:r1<=4294967295:=by have:=k1.bZ FY.out.2.1;omega
      have Yw:2<=r1->0<K2.hold r1:=fun h=>by rw [wP,FY.out.2.2.2.1,if_pos (⟨rfl,h⟩ : r1=r1/\2<=r1)];omega
      have tN:Hid (∀ K5:KV,K2.Dropped r1 K5->K5.Ok->Nk K S t.fn 0 9 K5):=fun K5 D5 k5 =>
       O1 HK.out.ok k5 (FY.out.1.trans e2) D5.ext (fun x=>by rw [D5.hd,wP,FY.out.2.2.2.1];split <;> omega) (nf.back k1.wf FY.out.1 FY.out.2.2.2.2)
      clear k1 e2 b2 wP nf FY;go_wp2_with fail;refine (Hz b r1 K2 F2 _ HK2.out.1 uG Yw).mono ?_;rintro e w8 ⟨K5,F5,rfl,hD5,hK5,nK,Xt⟩;have UO:=Lib.hid (And.intro hK5 (And.intro (l9.mk nK Xt) hD5));clear hD5 hK5 nK Xt;go_wp2_with fail;go_ret2;have A8:=afv.out.trans UO.out.2.1;exact ⟨0,9,K5,F5,rfl,tN.out K5 UO.out.2.2 UO.out.1.ok,UO.out.1,A8.up,A8.sub,fun _=>UO.out.2.2.tr⟩
    ·have HX:=Lib.hid (And.intro iq xe)
     have HL:Hid (Nk K S t.fn 0 9 K1):=.inr ⟨rfl,rfl,e1,bk1,AY,nf⟩;clear hE O3 iq xe e1 bk1 AY nf;go_wp2_with fail;go_ret2;exact ⟨0,9,K1,F1,rfl,HL.out,FX.out.1,o8.out.vV FX.out.2.1,fun k hk=>(FX.out.2.2 k hk).imp id fun h=>Nat.le_trans o8.out.size h,akl.out⟩
  ·obtain rfl:i=kv:=by omega
   have Sm:¬ ((i:Int)<(i:Int)):=by omega
   have Qh:((i:Int)<=(i:Int)):=by omega
   have BQ:=Lib.hid (EE HK.out.ok HT.out.ok (by have h1:K.vars=i:=QH.out;have h2:t.n=n:=HN.out;have h3:=QG.out.1;omega) (fun u hu=>FP.out u hu (by have:=(HK.out.ok.ord.pm.lo u hu).1;have h1:K.vars=i:=QH.out;omega)));have akj:i<=i:=Nat.le_refl _;obtain ⟨b0,b1⟩:=Af.out wr.drew HU.out.drew;have Lu:=Lib.hid (Uc.out wr.drew (mG.out.trans HU.out.drew));obtain ⟨bb,zJ⟩ : ∃ bb,t.bit 0=bb:=⟨_,rfl⟩;have HBV:=Lib.hid zJ;rw [zJ] at Lu
   have Yx:Hid (∀ z,af [] w z->aai b K F S t w (.returned (.tuple #[.int .u32 ((if bb=true then 1 else 0:Nat)),.int .i64 0])) z):=fun z u =>
    ⟨_,0,K,F,rfl,.inl ⟨rfl,KV.Ext.refl K,HK.out.ok.gX (by split <;> omega),fun y=>by
     rw [BQ.out,HBV.out,K.aN (by split <;> omega)];cases bb <;> rfl,fun x=>by rw [if_neg (by rintro ⟨_,h⟩;split at h <;> omega)];omega,fun x h1 h2=>by rw [h1] at h2;cases h2⟩,HK.out.upd u (by simp),u.mono (by simp),Sub.refl _ _,id⟩
   clear zJ;go_upto_region 2 with fail
   go_region
   go_wp2_with fail;refine Lu.out.mono ?_;rintro e w2 ⟨rfl,hu⟩;have HE:=Lib.hid (Yx.out _ (mG.out.trans (HU.out.drew.trans hu)));clear hu b0 b1 Yx
   cases bb with
   | true =>
    go_wp2_with fail;go_ret2;exact HE.out
   | false =>
    go_wp2_with fail;go_ret2;exact HE.out
end Go.Proofs.YtfkopmhpppeheaaGreat
namespace Go.Proofs.YtfkopmhpppeheaaGreat
open Go.RowKit Go.Maps Go.ChangeMaps Go.WideShapes Go.Shelf
attribute [local go_sem] Oper.semAt_some
structure H9 (D:DM) (left:Lit->Bool) (ps:List (Lit × Int)):Prop where
 nd:(ps.map (·.1)).Nodup
 at_:∀ p,p∈ps->∀ z,D.atKey p.1 z=.lit (.int .u32 p.2)
 mem:∀ k,k∈ps.map (·.1)↔(Maps.has D k=true/\left k=false)
theorem H9.start (D:DM):H9 D (Maps.has D) []:=⟨by simp,by simp,fun k=>by cases Maps.has D k <;> simp⟩
theorem H9.step {D:DM} {left:Lit->Bool} {ps:List (Lit × Int)} (h:H9 D left ps) {k:Lit} {c:Int} (hk:WideAt.IsKeyLit k) (hl:left k=true) (bI:∀ z,D.atKey k z=.lit (.int .u32 c)):H9 D (fun z=>left z&&!z.sameKey k) (ps++[(k,c)]):=by
 have hh:Maps.has D k=true:=has_true_of_atKey bI;refine ⟨?_,fun p hp=>?_,fun z=>?_⟩
 ·rw [List.map_append,List.nodup_append]
  refine ⟨h.nd,by simp,fun a ha b hb=>?_⟩
  simp at hb;subst hb
  rintro rfl;have:=((h.mem a).1 ha).2
  rw [hl] at this;cases this
 ·rcases List.mem_append.1 hp with hp | hp
  ·exact h.at_ p hp
  ·simp at hp;subst hp;exact bI
 ·rw [List.map_append,List.mem_append,h.mem]
  by_cases e:z=k
  ·subst e;simp [hh,WideAt.sameKey_self hk]
  ·simp [e,sameKey_ne e]
def mD (D:DM) (l:List Int):Prop:=∃ ps:List (Lit × Int),(ps.map (·.1)).Nodup/\(∀ p,p∈ps->∀ z,D.atKey p.1 z=.lit (.int .u32 p.2))/\(∀ k,k∈ps.map (·.1)↔Maps.has D k=true)/\l=ps.map (·.2)
theorem H9.all {D:DM} {left:Lit->Bool} {ps:List (Lit × Int)} (h:H9 D left ps) (hl:∀ k,left k=false):mD D (ps.map (·.2)):=⟨ps,h.nd,h.at_,fun k=>by rw [h.mem,hl];simp,rfl⟩
theorem QI {key:Value} {kl:Lit} (h:keyOf Tryz.prog 116 key=some kl):WideAt.IsKeyLit kl:=by
 unfold keyOf at h;rw [Tryz.underlying116] at h
 simp at h
 obtain ⟨_,ls,_,rfl⟩:=h
 trivial
theorem Nr (n:Nat) (hn:1<=n) (l Bm b nn:Nat) (D:DM) (J Jx:List Int->World->Prop)
  (hY:∀ pre x W,J pre W->pre.length<Maps.size D->YieldAt Fence.wide (n-1) Tryz.prog l #[.int .u32 x] W fun e W' =>
   (e=.returned (.bool true)/\J (pre++[x]) W'/\KeepsWalks W W')\/(e=.returned (.bool false)/\Jx (pre++[x]) W'))
  (W:World) (hJ:AbidesFrom W.heap.size J) (hm:W.cell? ⟨Bm,0,none⟩=some (.map (some b))) (aK:W.ownsMap Tryz.prog 116 (plainElem Tryz.prog 77) b nn D) (h0:J [] W) :
  CallsIn Fence.wide n Tryz.prog 250 #[.func (.yield l) #[] #[],.pointer (some ⟨Bm,0,none⟩)] W fun e W'=>(∃ v,e=.returned v) /\
   ((∃ xs,mD D xs/\J xs W')\/(∃ pre,True/\Jx pre W')):=by
 refine callsIn_of_wp Tryz.func250 rfl trivial ?_ rfl
 simp only [Tryz.ntmps250,List.size_toArray,List.length_cons,List.length_nil,Nat.reduceAdd,Nat.reduceSub,Array.replicate_succ,Array.replicate_zero,List.push_toArray,List.append_toArray,List.nil_append,List.cons_append]
 gi_wp2_with (first
  | (gi_at_range;refine wpListIn_range_own _ rfl _ 186 rfl 116 77 aT Tryz.underlying186 _ b nn _ rfl aK ?_;intro w0 CO UQ Ya)
  | gi_in)
 go_frame
 gi_loopw [4] (fun _ wr=>∃ (left:Lit->Bool) (cnt:Nat) (ps:List (Lit × Int)),wr.ranges Tryz.prog 116 (plainElem Tryz.prog 77) b W.heap.size nn D left cnt/\ps.length+cnt<=Maps.size D/\H9 D left ps/\J (ps.map (·.2)) wr)
  (fun _ wr=>wr.rangeLeft b W.heap.size)
 case atStart =>
  exact ⟨_,_,[],CO,by simp,H9.start D,hJ [] W w0 none h0 UQ (fun r e=>by cases e)⟩
 case round =>
  obtain ⟨left,cnt,ps,Ei,EC,hC,hJs⟩:=hrel
  gi_wp2_with (first
   | (gi_at_next;refine wpListIn_next_ranges _ rfl _ rfl 116 aT (plainElem Tryz.prog 77) id (Value.int .u32) (fun key kl hk=>⟨key,rfl⟩) (fun v y hv=>by obtain ⟨c,rfl,_⟩:=plainElem_int_inv Tryz.underlying77 hv;exact ⟨c,rfl⟩) b W.heap.size nn _ _ _ rfl Ei ?_ ?_)
   | gi_in)
  ·intro Jc yu
   gi_wp2
   go_end0;exact ⟨⟨_,rfl⟩,.inl ⟨_,hC.all yu,hJs⟩⟩
  ·intro x c kl yd yp w2 akq iV hlk hv bI CP aW Lp dR I4
   obtain ⟨c',ec,ez,_⟩:=plainElem_int_inv Tryz.underlying77 hv
   obtain rfl:c=c':=by simpa using ec
   obtain rfl:yd=.lit (.int .u32 c):=(Prod.mk.inj ez).1;have hJ2:J (ps.map (·.2)) w2:=hJ _ wr w2 (some W.heap.size) hJs Lp (fun r e=>by cases e;exact ⟨Nat.le_refl _,Ei.iter_walk⟩);obtain ⟨fn,tmps,assign,body,hy,hR⟩:=hY (ps.map (·.2)) c w2 hJ2 (by simp;omega);clear dR
   gi_wp2
   refine hR.mono ?_;have hC2:=hC.step (QI iV) hlk bI;rintro e W3 (⟨rfl,hJ3,hk3⟩ | ⟨rfl,aks⟩)
   ·gi_wp2
    have QJ:=CP.of_walks hk3
    go_roundw
    case rel=>exact ⟨_,akq,ps++[(kl,c)],QJ,by simp;omega,hC2,by simpa using hJ3⟩
    case measure=>rw [QJ.left_eq,Ei.left_eq];exact aW
   ·gi_wp2
    refine bodyPost_ret (results_none rfl _ _ _) rfl ?_;exact ⟨⟨_,rfl⟩,.inr ⟨_,trivial,aks⟩⟩
theorem QK (n:Nat) (mb:Option Nat) (w:World) :
  CallsIn Fence.wide n Tryz.prog 242 #[.map mb] w fun e w'=>e=.returned (.func (.func 250) #[] #[.pointer (some ⟨w.heap.size,0,none⟩)])/\w'=w.alloc (.cells #[.map mb] 186):=by
 refine callsIn_of_wp Tryz.func242 rfl trivial ?_ rfl
 simp only [Tryz.ntmps242,List.size_toArray,List.length_cons,List.length_nil,Nat.reduceAdd,Nat.reduceSub,Array.replicate_succ,Array.replicate_zero,List.push_toArray,List.append_toArray,List.nil_append,List.cons_append]
 gi_wp2
 go_ret;exact ⟨rfl,rfl⟩
theorem Ia (n:Nat) (hn:1<=n) (Bm b nn:Nat) (D:DM) (w:World) (hBm:Bm<w.heap.size) (hm:w.cell? ⟨Bm,0,none⟩=some (.map (some b))) (aK:w.ownsMap Tryz.prog 116 (plainElem Tryz.prog 77) b nn D) :
  SeqStopsK Fence.wide n Tryz.prog 250 #[.pointer (some ⟨Bm,0,none⟩)] (fun x:Int=>#[Value.int .u32 x]) KeepsWalks (mD D) (fun _=>True) (Maps.size D) w:=fun l J Jx W hW hJ _ hY h0=>by
 have O4:W.ownsMap Tryz.prog 116 (plainElem Tryz.prog 77) b nn D:=aV aK (hW.block b aK.lt);exact Nr n hn l Bm b nn D J Jx hY W hJ ((hW.cell (p:=⟨Bm,0,none⟩) hBm).trans hm) O4 h0
attribute [local go_sem] Oper.semAt_some
theorem Tryz.UR:(Tryz.prog.info? 77).map (fun i=>(i.zero,i.size,i.bytes))=some (some (.int .u32 0),1,4):=by kernel_rfl
structure Ib (D:DM) (n0:Nat) (w:World) (e:Ending) (w':World):Prop where
 ex:∃ (v:Value) (l:List Int),e=.returned v/\mD D l/\w'.ownsRow n0 77 1 v l.length (l.map (Value.int .u32))/\Below w.heap.size w w'
theorem Ic (n:Nat) (hn:3<=n) (Bm b nn:Nat) (D:DM) (w:World) (hBm:Bm<w.heap.size) (hm:w.cell? ⟨Bm,0,none⟩=some (.map (some b))) (aK:w.ownsMap Tryz.prog 116 (plainElem Tryz.prog 77) b nn D) (dG:Maps.size D<=1048576) :
  CallsIn Fence.wide n Tryz.prog 251 #[.slice none 0 0,.func (.func 250) #[] #[.pointer (some ⟨Bm,0,none⟩)]] w fun e w'=>Ib D w.heap.size w e w':=by
 have h1:1<=n:=by omega
 obtain ⟨i0,hi,tV,hz1,fE⟩:=info_parts Tryz.UR;refine callsIn_of_wp_marks Tryz.func251 rfl trivial ?_ rfl
 simp only [Tryz.ntmps251,List.size_toArray,List.length_cons,List.length_nil,Nat.reduceAdd,Nat.reduceSub,Array.replicate_succ,Array.replicate_zero,List.push_toArray,List.append_toArray,List.nil_append,List.cons_append]
 gi_wp2
 have bO:=Boxed.new w 42 (.slice none 0 0);have hB0:Below w.heap.size w (w.alloc (.cells #[.slice none 0 0] 42)):=(Below.refl _ w).alloc (Nat.le_refl _) _;have hm1:(w.alloc (.cells #[.slice none 0 0] 42)).cell? ⟨Bm,0,none⟩=some (.map (some b)):=(hB0.cell (p:=⟨Bm,0,none⟩) hBm).trans hm;have vk:(w.alloc (.cells #[.slice none 0 0] 42)).ownsMap Tryz.prog 116 (plainElem Tryz.prog 77) b nn D:=aV aK (hB0.block b aK.lt)
 refine wpIn_rangeFunc_ownG rfl h1 (gf:=250) (lb:=#[.pointer (some ⟨Bm,0,none⟩)]) rfl trivial (enters_of Tryz.func250 (by kernel_rfl) rfl)
  (Ia (n-1) (by omega) Bm b nn D _ (by simp;omega) hm1 vk) walksK_t walksK_b (Below.refl _ _) (fun _=>rfl)
  (fun pre W=>(∃ v,Boxed W w.heap.size 42 v/\W.ownsRow w.heap.size 77 1 v pre.length (pre.map (Value.int .u32))/\True)/\Below w.heap.size w W)
  (fun _ _ _=>False)
  (OwnFrom.and (Own.from (holdsRow_own w.heap.size w.heap.size 42 77 1 (fun pre:List Int=>pre.length) (fun pre=>pre.map (Value.int .u32)) (fun _ _=>True)) _) (ownFrom_below (Nat.le_refl _) (by simp)))
  (fun _ _ _ _ _ hs _ _=>hs)
  ⟨⟨_,bO,World.ownsRow_nil _ _ _ _,trivial⟩,hB0⟩
  (fun x=>{ tmps:=#[.slice none 0 0,.func (.func 250) #[] #[.pointer (some ⟨Bm,0,none⟩)],.pointer (some ⟨w.heap.size,0,none⟩),undef,.slice none 0 0,.int .u32 x,.func (.func 250) #[] #[.pointer (some ⟨Bm,0,none⟩)],.int .u32 x,undef,undef,undef,undef,undef],defers:=[] }) ?assign ?body ?done ?stop
 case assign =>
  intro l x W K hK
  gi_wp2
  exact hK
 case body =>
  rintro l pre x W ⟨⟨v,hv,aC,_⟩,hB⟩ aW;have hc:=hv.cell
  gi_wp2_with (gi_at_builtin;refine wpListIn_append_own _ rfl _ _ 42 rfl w.heap.size 77 i0 (.int .u32 0) 1 4 Tryz.underlying42 hi tV hz1 fE rfl (by decide) _ _ _ rfl (aC.alloc _) ⟨W.heap.size,0,none⟩ 1 1 [.int .u32 x] rfl rfl (cell_one_new _ _ _) (by simp [Value.oneCell']) (by unfold maxLen;omega) (by omega) (by have:=hB.size;simp;omega) ?_;intro v' w1 O4 afy _;obtain ⟨g',ab8,rfl⟩:=ownsRow_succ O4;obtain ⟨hv1,hv2,rQ,yB,fU⟩:=hv.appended (by decide) aC hB.size (Nat.le_refl _) O4 afy;have Eo:=hv1.cell;have hf1:=hv1.frozen)
  exact ⟨yB.from _,yB.walks,⟨_,hv2,by simpa using rQ,trivial⟩,hB.trans fU⟩
 case done =>
  rintro Dd ys W hD hys ⟨⟨v,hv,aC,_⟩,hB⟩ hK;have hc:=hv.cell
  gi_wp2
  refine ⟨by simp,.inl ⟨_,_,rfl,run_takeDeferred hK,?_⟩⟩;exact ⟨_,results_tmp rfl _ _ _,v,ys,rfl,hys,ownsRow_putObj aC _ hK rfl,hB.trans (belowK_b (w:=w) (Nat.le_refl _) W Dd _ _ (by simp at hD;omega) hK rfl rfl)⟩
 case stop =>
  rintro Dd c pre W _ _ h _;exact h.elim
theorem Ns (n:Nat) (hn:4<=n) (Bm b nn:Nat) (D:DM) (w:World) (hBm:Bm<w.heap.size) (hm:w.cell? ⟨Bm,0,none⟩=some (.map (some b))) (aK:w.ownsMap Tryz.prog 116 (plainElem Tryz.prog 77) b nn D) (dG:Maps.size D<=1048576) :
  CallsIn Fence.wide n Tryz.prog 248 #[.func (.func 250) #[] #[.pointer (some ⟨Bm,0,none⟩)]] w fun e w'=>Ib D w.heap.size w e w':=by
 refine callsIn_of_wp Tryz.func248 rfl trivial ?_ rfl
 simp only [Tryz.ntmps248,List.size_toArray,List.length_cons,List.length_nil,Nat.reduceAdd,Nat.reduceSub,Array.replicate_succ,Array.replicate_zero,List.push_toArray,List.append_toArray,List.nil_append,List.cons_append]
 gi_wp2
 refine ⟨trivial,fun _=>by omega,?_⟩;refine (Ic (n-1) (by omega) Bm b nn D _ hBm hm aK dG).mono ?_;rintro e w' hE;obtain ⟨v,l,rfl,hl,hr,hB⟩:=hE.ex;clear hE
 gi_wp2
 go_ret;exact ⟨v,l,rfl,hl,hr,hB⟩
end Go.Proofs.YtfkopmhpppeheaaGreat
namespace Go.Proofs.YtfkopmhpppeheaaGreat
open Go.RowKit Go.Maps Go.ChangeMaps Go.WideShapes
theorem Nu (w:World):Calls Tryz.prog 264 #[.int .u64 0] w fun e w'=>(∃ c:Int,e=.returned (.int .i64 c))/\w'=w:=by
 go_enter Tryz.func264,Tryz.ntmps264
 go_wp2_with fail;go_ret;exact ⟨⟨_,rfl⟩,rfl⟩
theorem UT (w:World):Calls Tryz.prog 253 #[.int .u64 0] w fun e w'=>(∃ c:Int,e=.returned (.int .i64 c))/\w'=w:=by
 go_enter Tryz.func253,Tryz.ntmps253
 go_wp2_with fail;refine (Nu _).mono ?_;rintro e w1 ⟨⟨c,rfl⟩,rfl⟩;go_wp2_with fail;go_ret;exact ⟨⟨_,rfl⟩,rfl⟩
theorem EF (a:Option Addr) (c:Nat) (w:World):Calls Tryz.prog 254 #[.slice a 0 c,.int .i64 0,.int .i64 0] w fun e w'=>e=.returned (.tuple #[])/\w'=w:=by
 go_enter Tryz.func254,Tryz.ntmps254
 go_wp2_with fail
 go_loopg [6] 0 (fun gg s6 wr=>gg=0/\s6=.int .i64 1/\wr=w)
 case atStart=>exact ⟨rfl,rfl,rfl⟩
 case round =>
  obtain ⟨rfl,rfl,rfl⟩:=hrel;go_wp2_with fail;go_end0;exact ⟨rfl,rfl⟩
theorem QL (a:Option Addr) (c:Nat) (l:Int) (w:World):Calls Tryz.prog 252 #[.slice a 0 c,.int .i64 0,.int .i64 0,.int .i64 l] w fun e w'=>e=.returned (.tuple #[])/\w'=w:=by
 go_enter Tryz.func252,Tryz.ntmps252
 go_wp2_with fail
 go_loopg [1,2,3] 0 (fun gg s1 s2 s3 wr=>gg=0/\s1=.int .i64 0/\s2=.int .i64 0/\wr=w)
 case atStart=>exact ⟨rfl,rfl,rfl,rfl⟩
 case round =>
  obtain ⟨rfl,rfl,rfl,rfl⟩:=hrel;go_wp2_with fail;refine (EF a c _).mono ?_;rintro e w1 ⟨rfl,rfl⟩;go_wp2_with fail;refine bodyPost_ret (results_none rfl _ _ _) rfl ?_;exact ⟨rfl,rfl⟩
theorem Nv (a:Option Addr) (c:Nat) (w:World):Calls Tryz.prog 249 #[.slice a 0 c] w fun e w'=>e=.returned (.tuple #[])/\w'=w:=by
 go_enter Tryz.func249,Tryz.ntmps249
 go_wp2_with fail;refine (UT _).mono ?_;rintro e w1 ⟨⟨l,rfl⟩,rfl⟩;go_wp2_with fail;refine (QL a c l _).mono ?_;rintro e w2 ⟨rfl,rfl⟩;go_wp2_with fail;go_end0;exact ⟨rfl,rfl⟩
theorem EG (Bm b nn:Nat) (D:DM) (w:World) (hBm:Bm<w.heap.size) (hm:w.cell? ⟨Bm,0,none⟩=some (.map (some b))) (aK:w.ownsMap Tryz.prog 116 (plainElem Tryz.prog 77) b nn D) (dG:Maps.size D<=1048576) :
  Calls Tryz.prog 248 #[.func (.func 250) #[] #[.pointer (some ⟨Bm,0,none⟩)]] w fun e w'=>Ib D w.heap.size w e w' :=
 callsIn_wide.1 (Ns 10 (by omega) Bm b nn D w hBm hm aK dG)
theorem Ie (mb:Option Nat) (w:World) :
  Calls Tryz.prog 242 #[.map mb] w fun e w'=>e=.returned (.func (.func 250) #[] #[.pointer (some ⟨w.heap.size,0,none⟩)])/\w'=w.alloc (.cells #[.map mb] 186) :=
 callsIn_wide.1 (QK 10 mb w)
theorem QM {n:Nat} {w w':World} (h:Below n w w') (hn:w.heap.size<=n):af [] w w' :=
 ⟨h.os,h.tape,h.output,h.size,fun k hk _=>h.block k (by omega)⟩
theorem uJ (l:List Nat) (r n:Nat):(aQ l).set r (.int .i64 n)=aQ (l.set r n):=by simp [aQ,List.map_set]
theorem aF.JC {w:World} {b g n' c r n:Nat} {K:KV} {T:List DM} {q:aA} (h:aF w b K T q) (hq:q.ov=.slice (some ⟨g,0,none⟩) n' c) (hr:r<K.order.length) :
  aF (w.setCell ⟨g,r,none⟩ (.int .i64 n)) b { K with order:=K.order.set r n } T q:=by
 have hg:q.o g=5:=h.oo g (by rw [hq];rfl)
 have hne:∀ {k c},q.o k=c->c≠5->k≠g:=fun {k c} hk hc hm=>hc (by rw [<- hk,hm,hg])
 have hk:∀ {k c},q.o k=c->c≠5->(w.setCell ⟨g,r,none⟩ (.int .i64 n)).heap[k]?=w.heap[k]?:=fun hk hc=>aG (hne hk hc)
 refine ⟨by rw [hk h.ob (by omega)];exact h.blk,h.ar.keep fun k hm=>hk (h.oa k hm) (by omega),h.tab.keep fun k hm=>hk (h.ot k hm) (by omega),ai h.us fun k hm=>hk (h.ou k hm) (by omega),
  ai h.hs fun k hm=>hk (h.oh k hm) (by omega),?_,ai h.ls fun k hm=>hk (h.ol k hm) (by omega),ai h.ts fun k hm=>hk (h.ox k hm) (by omega),
  h.ob,h.oa,h.ot,h.ou,h.oh,h.oo,h.ol,h.ox⟩
 have hu:=h.os;rw [hq] at hu ⊢;have:=dL hu (j:=r) (by omega) (.int .i64 n);rw [uJ] at this
 simpa using this
theorem aF.JD {w:World} {b g n' c r n:Nat} {K:KV} {T:List DM} {q:aA} (h:aF w b K T q) (hq:q.lv=.slice (some ⟨g,0,none⟩) n' c) (hr:r<K.level.length) :
  aF (w.setCell ⟨g,r,none⟩ (.int .i64 n)) b { K with level:=K.level.set r n } T q:=by
 have hg:q.o g=6:=h.ol g (by rw [hq];rfl)
 have hne:∀ {k c},q.o k=c->c≠6->k≠g:=fun {k c} hk hc hm=>hc (by rw [<- hk,hm,hg])
 have hk:∀ {k c},q.o k=c->c≠6->(w.setCell ⟨g,r,none⟩ (.int .i64 n)).heap[k]?=w.heap[k]?:=fun hk hc=>aG (hne hk hc)
 refine ⟨by rw [hk h.ob (by omega)];exact h.blk,h.ar.keep fun k hm=>hk (h.oa k hm) (by omega),h.tab.keep fun k hm=>hk (h.ot k hm) (by omega),ai h.us fun k hm=>hk (h.ou k hm) (by omega),
  ai h.hs fun k hm=>hk (h.oh k hm) (by omega),ai h.os fun k hm=>hk (h.oo k hm) (by omega),?_,ai h.ts fun k hm=>hk (h.ox k hm) (by omega),
  h.ob,h.oa,h.ot,h.ou,h.oh,h.oo,h.ol,h.ox⟩
 have hu:=h.ls;rw [hq] at hu ⊢;have:=dL hu (j:=r) (by omega) (.int .i64 n);rw [uJ] at this
 simpa using this
theorem aF.QN {w w5:World} {b g5 cap l:Nat} {X:Obj} {K:KV} {T:List DM} {q:aA} (h:aF w b K T q) (hg:(w.alloc X).grownBy w5 q.tv.ownBlock) (bI:q.tv.ownBlock=some g5\/g5=w.heap.size+1)
  (aK:w5.ownsRow 0 3 1 (.slice (some ⟨g5,0,none⟩) (K.trail.length+1) cap) (K.trail.length+1) (aQ K.trail++[.int .i64 l])) :
  aF (w5.setCell ⟨b,7,none⟩ (.slice (some ⟨g5,0,none⟩) (K.trail.length+1) cap)) b { K with trail:=K.trail++[l] } T { q with tv:=.slice (some ⟨g5,0,none⟩) (K.trail.length+1) cap,o:=dC q w.heap.size 7 }:=by
 have hb:=ah h.blk
 have LD:b≠g5:=by
  rcases bI with e | e
  ·rintro rfl;have e1:=h.ob;have e2:=h.ox b e;omega
  ·omega
 have keep:∀ {k c:Nat},q.o k=c->c≠7->c≠0->k<w.heap.size->(w5.setCell ⟨b,7,none⟩ (.slice (some ⟨g5,0,none⟩) (K.trail.length+1) cap)).heap[k]?=w.heap[k]?:=by
  intro k c hk hc h0 hl
  rw [aG (by rintro rfl;exact h0 (hk ▸ h.ob)),hg.block k (by rw [World.size_alloc];omega) (fun e=>hc (hk ▸ h.ox k e.symm)),Below.heap_alloc _ _ _ hl]
 have qM:w5.heap[b]?=w.heap[b]?:=by
  rw [hg.block b (by rw [World.size_alloc];omega) (fun e=>by have e1:=h.ob;have e2:=h.ox b e.symm;omega),Below.heap_alloc _ _ _ hb]
 rw [h.blk] at qM
 refine ⟨by rw [aB qM];simp,h.ar.keep fun k hm=>keep (h.oa k hm) (by omega) (by omega) (h.ar.lt k hm),h.tab.keep fun k hm=>keep (h.ot k hm) (by omega) (by omega) (h.tab.lt k hm),
  ai h.us fun k hm=>keep (h.ou k hm) (by omega) (by omega) (h.us.lt k hm).2,ai h.hs fun k hm=>keep (h.oh k hm) (by omega) (by omega) (h.hs.lt k hm).2,ai h.os fun k hm=>keep (h.oo k hm) (by omega) (by omega) (h.os.lt k hm).2,ai h.ls fun k hm=>keep (h.ol k hm) (by omega) (by omega) (h.ls.lt k hm).2,?_,?_,?_,?_,?_,?_,?_,?_,?_⟩
 ·show World.ownsRow _ 0 _ 1 _ (K.trail++[l]).length (aQ (K.trail++[l]))
  have e:=bf aK (a:=⟨b,7,none⟩) (by simpa [Value.ownBlock] using LD) (.slice (some ⟨g5,0,none⟩) (K.trail.length+1) cap)
  simpa [aQ] using e
 ·show dC q _ _ b=0
  rw [aX hb];exact h.ob
 ·intro k hk;show dC q _ _ k=1;rw [aX (h.ar.lt k hk)];exact h.oa k hk
 ·intro k hk;show dC q _ _ k=2;rw [aX (h.tab.lt k hk)];exact h.ot k hk
 ·intro k hk;show dC q _ _ k=3;rw [aX (h.us.lt k hk).2];exact h.ou k hk
 ·intro k hk;show dC q _ _ k=4;rw [aX (h.hs.lt k hk).2];exact h.oh k hk
 ·intro k hk;show dC q _ _ k=5;rw [aX (h.os.lt k hk).2];exact h.oo k hk
 ·intro k hk;show dC q _ _ k=6;rw [aX (h.ls.lt k hk).2];exact h.ol k hk
 ·intro k hk
  simp [Value.ownBlock] at hk;subst hk
  show dC q _ _ g5=7
  rcases bI with e | e
  ·rw [aX (h.ts.lt g5 e).2];exact h.ox g5 e
  ·unfold dC;rw [if_pos (by omega)]
def KV.qc (K:KV) (l:Nat):KV:={ K with order:=(K.order.set l (K.order.getD (l+1) 0)).set (l+1) (K.order.getD l 0),level:=(K.level.set (K.order.getD l 0) (l+1)).set (K.order.getD (l+1) 0) l }
theorem Ig {l:List Nat} {i:Nat} (h:i<l.length):l[i]?=some (l.getD i 0):=by
 rw [List.getD_eq_getElem?_getD,List.getElem?_eq_getElem h];rfl
theorem Tryz.UU:(Tryz.prog.info? 3).map (fun i=>(i.zero,i.size,i.bytes))=some (some (.int .i64 0),1,8):=by kernel_rfl
theorem mQ {w:World} {base g n' c:Nat} {l:List Nat} {n:Nat} (h:w.ownsRow base 3 1 (.slice (some ⟨g,0,none⟩) n' c) n (aQ l)) {j:Nat} (hj:j<l.length):w.cell? ⟨g,j,none⟩=some (.int .i64 (l.getD j 0:Nat)) :=
 au h (by rw [aQ,List.getElem?_map,Ig hj];rfl)
theorem UX {b l go gl co cl n1 n2:Nat} {K:KV} {T:List DM} {q:aA} {w:World} (hm:aF w b K T q) (ho:q.ov=.slice (some ⟨go,0,none⟩) n1 co) (hv:q.lv=.slice (some ⟨gl,0,none⟩) n2 cl) (h1:l<K.order.length) (h2:l+1<K.order.length)
  (h3:K.order.getD l 0<K.level.length) (h4:K.order.getD (l+1) 0<K.level.length) :
  aF ((((w.setCell ⟨go,l,none⟩ (.int .i64 (K.order.getD (l+1) 0:Nat))).setCell ⟨go,l+1,none⟩ (.int .i64 (K.order.getD l 0:Nat))).setCell ⟨gl,K.order.getD l 0,none⟩ (.int .i64 ((l:Int)+1))).setCell ⟨gl,K.order.getD (l+1) 0,none⟩ (.int .i64 l)).drew.drew b (K.qc l) T q /\
  af (q.all b) w ((((w.setCell ⟨go,l,none⟩ (.int .i64 (K.order.getD (l+1) 0:Nat))).setCell ⟨go,l+1,none⟩ (.int .i64 (K.order.getD l 0:Nat))).setCell ⟨gl,K.order.getD l 0,none⟩ (.int .i64 ((l:Int)+1))).setCell ⟨gl,K.order.getD (l+1) 0,none⟩ (.int .i64 l)).drew.drew:=by
 have m1:=hm.JC (n:=K.order.getD (l+1) 0) ho h1;have m2:=m1.JC (n:=K.order.getD l 0) (r:=l+1) ho (by simpa using h2);have m3:=m2.JD (n:=l+1) (r:=K.order.getD l 0) hv h3;have m4:=m3.JD (n:=l) (r:=K.order.getD (l+1) 0) hv (by rw [List.length_set];exact h4);have go1:go∈q.all b:=aA.mem.2 (.inr (.inr (.inr (.inr (.inr (.inl (by rw [ho];rfl)))))));have gl1:gl∈q.all b:=aA.mem.2 (.inr (.inr (.inr (.inr (.inr (.inr (.inl (by rw [hv];rfl))))))))
 exact ⟨(m4.upd ((af.refl [] _).drew) (by simp)).upd ((af.refl [] _).drew) (by simp),
  ((((((af.refl (q.all b) w).setCell (p:=⟨go,l,none⟩) (.inl go1) _).setCell (p:=⟨go,l+1,none⟩) (.inl go1) _).setCell (p:=⟨gl,_,none⟩) (.inl gl1) _).setCell (p:=⟨gl,_,none⟩) (.inl gl1) _).drew).drew⟩
end Go.Proofs.YtfkopmhpppeheaaGreat
