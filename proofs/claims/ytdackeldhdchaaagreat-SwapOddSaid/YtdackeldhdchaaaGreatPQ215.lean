import Derived.Test.YtdackeldhdchaaaGreatPQ214
import Derived.Test.YtdackeldhdchaaaGreatPQ210
import Derived.Test.YtdackeldhdchaaaGreatPQ27
import Derived.Test.YtdackeldhdchaaaGreatPQ21
import Derived.Test.YtdackeldhdchaaaGreatPQ22
import Derived.RangeFuncBox
import Derived.RangeFuncLeaves
import Derived.Shelf.Abstract
import Derived.WalkKit
import Derived.OwnWalkIn
import Derived.TacticsInMore
import Derived.LoopNIn
import Derived.LoopIn
import Derived.Maps.AppendAt
import Derived.Sort.MapsRangeIn
import Derived.RangeFuncNested
import Derived.RangeFuncBound
import Derived.Deep.QuietTactic
set_option maxRecDepth 100000
set_option maxHeartbeats 6400000
namespace Go.Proofs.YtdackeldhdchaaaGreat
open Go.RowKit Go.Maps Go.ChangeMaps Go.WideShapes
structure aNM (b:Nat) (K:KV) (F:List Nat) (S:((Nat->Bool)->Bool)->Prop) (t:TV) (w:World) (e:Ending) (w':World):Prop where
 ex:∃ (r:Nat) (code:Int) (K':KV) (F':List Nat),e=.returned (.tuple #[.int .u32 r,.int .i64 code])/\aFq K S t.fn r code K'/\ad1 w' b K' F'/\Upd F w w'/\Sub F w F'/\(K.trail=[]->K'.trail=[])
theorem azZ {K:KV} (hk:K.Ok) {t:TV} (ht:t.Ok) (hn:t.n=K.vars) (h:∀ v,v<K.vars->anJ t v=false) (y:Nat->Bool):t.fn y=t.bit 0:=by
 have hno:∀ v,v<K.vars->K.lev v<K.vars->¬ ahP t.fn v:=fun v hv' _ hh=>by
  have h1:=(ajo ht (by rw [hn];exact hv')).2 hh
  rw [h v hv'] at h1;cases h1
 have e:=amw hk.ord.pm (g:=t.fn) K.vars (Nat.le_refl _) hno (fun _=>false) y;rw [<- e]
 have e0:∀ n,idx n (fun _=>false)=0:=fun n=>by
  induction n with
  | zero=>rfl
  | succ n ih=>simp [idx,ih]
 have e2:t.bit 0=t.fn (fun _=>false):=by unfold TV.fn;rw [e0]
 rw [e2]
 exact TV.fn_same t fun v hv'=>by
  simp only [KV.mix]
  rw [hn] at hv';rw [if_pos ⟨hv',(hk.ord.pm.lo v hv').1⟩]
theorem avv {i:Nat} (h:i<=1000):wrap64 ((i:Int)+1)=((i+1:Nat):Int):=by rw [IntWalk.wrap64_in _ (by omega)];omega
theorem aDi (b:Nat):∀ (d:Nat) (K:KV) (F Z:List Nat) (S:((Nat->Bool)->Bool)->Prop) (c:Value) (t:TV) (lv:Nat) (w:World),ad1 w b K F->(∀ k,k∈Z->k<w.heap.size)->(∀ k,k∈F->k∈Z)->TIn w Z c t->t.n=K.vars ->
  lv+d=K.vars->(∀ v,v<K.vars->K.lev v<lv->anJ t v=false)->(∀ x,K.hold x+2*d<65000)->(∀ g,K.SubN t.fn g->S g) ->
  Calls Tryz.prog 52 #[.pointer (some ⟨b,0,none⟩),aeH t c,.int .i64 lv] w fun e w'=>aNM b K F S t w e w':=by
 intro d
 induction d using Nat.strongRecOn with
 | ind d ih =>
 intro K F Z S c t lv w hK hZ hFZ ht htn hlv avw aDj hS
 obtain ⟨ta,tc,rfl,_⟩:=ahV ht.row;have HK:=Lib.hid hK;have HT:=Lib.hid ht
 have HZ:Hid (∀ x:World,Upd [] w x->∀ k,k∈Z->k<x.heap.size):=fun x u k hk=>Nat.lt_of_lt_of_le (hZ k hk) u.size
 have hvs:=hK.ok.wf.vs;have hol:=hK.ok.ord.pm.ol;obtain ⟨w0,hw0⟩ : ∃ w0,w.alloc (.cells #[.int .i64 t.n,.slice ta t.ws.length tc] 121 (0,0))=w0:=⟨_,rfl⟩
 have hu0:Upd [] w w0:=by rw [<- hw0];exact (Upd.refl _ _).alloc _
 have hb:=alC w (.int .i64 t.n) (.slice ta t.ws.length tc);rw [hw0] at hb;have HU0:=Lib.hid hu0
 have HOR:Hid (Calls Tryz.prog 48 #[.pointer (some ⟨b,0,none⟩)] w0 fun e w'=>∃ (g cap:Nat),e=.returned (.slice (some ⟨g,0,none⟩) K.order.length cap)/\w'.ownsRow w0.heap.size 3 1 (.slice (some ⟨g,0,none⟩) K.order.length cap) K.order.length (acf K.order)/\Upd [] w0 w'):=by
  obtain ⟨T,q,hk,_⟩:=hK;exact atF b K T q w0 (hk.upd hu0 (by simp)).mem (by omega) (by omega)
 have HDP:Hid (∀ (x:World) (v:Nat),Upd [] w x->v<K.vars->Calls Tryz.prog 114 #[aeH t (.slice ta t.ws.length tc),.int .i64 v] x fun e w'=>e=.returned (.bool (anJ t v))/\Upd [] x w'):=fun x v u hv=>atW Z _ t v x (ht.keep0 u) (HZ.out x u) (by omega) (by omega)
 have HBT:Hid (∀ x:World,Upd [] w x->Calls Tryz.prog 115 #[aeH t (.slice ta t.ws.length tc),.int .i64 0] x fun e w'=>e=.returned (.bool (t.bit 0))/\Upd [] x w'):=fun x u=>aHm Z _ t 0 x (ht.keep0 u) (Nat.two_pow_pos _)
 have HCF:Hid (∀ (x:World) (S':List Nat) (v:Nat) (bb:Bool),Upd S' w x->(∀ k,k∈S'->k∈Z\/w.heap.size<=k)->v<K.vars->Calls Tryz.prog 116 #[aeH t (.slice ta t.ws.length tc),.int .i64 v,.bool bb] x fun e w'=>aC7 (aee t v bb) x e w'):=fun x S' v bb u hS' hv=>atV Z _ t v bb x (ht.keep u hS') (by omega)
 have HNN:Hid (∀ (v:Nat) (b:Bool),(aee t v b).n=t.n):=fun _ _=>rfl
 have HSS:=Lib.hid (And.intro htn (And.intro hlv (And.intro avw (And.intro aDj (And.intro hS hFZ)))));have HIH:=Lib.hid ih;have HW0:=Lib.hid hw0;have HOL:=Lib.hid hol
 have aJn:lv<=K.vars:=by omega
 have aPi:K.vars<=64:=hvs.2;unfold aeH at HDP HBT HCF ⊢;generalize t.ws.length=W at *;generalize hn:t.n=n at *;have HN:=Lib.hid hn
 have HB:Hid (∀ x:World,Upd [] w0 x->x.cell? ⟨w.heap.size,0,none⟩=some (.int .i64 n)/\x.cell? ⟨w.heap.size,1,none⟩=some (.slice ta W tc)):=fun x u=>aer u hb
 rw [hol] at HOR;generalize hkv:K.vars=kv at *;have HKV:=Lib.hid hkv;clear hK hZ hFZ ht htn hlv avw aDj hS hn ih hw0 hu0 hol hvs hb hkv
 go_enter Tryz.func52,Tryz.ntmps52
 go_upto_region 1 with fail;rw [HW0.out];go_wp2_with fail;refine HOR.out.mono ?_;rintro e w1 ⟨og,oc,rfl,abP,hu⟩;have HU1:=Lib.hid (HU0.out.trans hu)
 have HB1:Hid (∀ x:World,Upd [] w1 x->x.cell? ⟨w.heap.size,0,none⟩=some (.int .i64 n)/\x.cell? ⟨w.heap.size,1,none⟩=some (.slice ta W tc)):=fun x u=>HB.out x (hu.trans u)
 have HRC:Hid (∀ (x:World) (i v:Nat),Upd [] w1 x->K.order[i]?=some v->x.cell? ⟨og,i,none⟩=some (.int .i64 v)):=fun x i v u hv=>u.cell0 (abf abP (by simp only [acf,List.getElem?_map];rw [hv];rfl))
 clear hu abP;go_wp2_with fail
 go_loopg [2] (kv-lv) (fun gg s2 wr=>∃ i:Nat,kv-i=gg/\lv<=i/\i<=kv/\s2=.int .i64 i/\(∀ v,v<K.vars->K.lev v<i->anJ t v=false)/\Upd [] w1 wr)
 case atStart=>exact ⟨lv,rfl,Nat.le_refl _,aJn,rfl,by have:=HSS.out.2.2.1;have h2:K.vars=kv:=HKV.out;rw [h2];exact this,Upd.refl _ _⟩
 case round =>
  obtain ⟨i,rfl,hil,hi,rfl,hno,hU⟩:=hrel;have HNO:=Lib.hid hno;have HU:=Lib.hid hU;clear hno hU
  by_cases hlt:i<kv
  ·have hik:(i:Int)<(kv:Int):=by omega
   have hi0:(0:Int)<=(i:Int):=by omega
   obtain ⟨v,hv⟩ : ∃ v,K.order[i]?=some v:=⟨_,List.getElem?_eq_getElem (by have h1:K.vars=kv:=HKV.out;have h2:=HOL.out;omega)⟩;have hov:=HK.out.ok.ord.pm.at_order hv;have HV:=Lib.hid (And.intro hv hov)
   have hvk:v<kv:=by have h1:K.vars=kv:=HKV.out;omega
   have x0:=HRC.out _ i v HU.out hv;obtain ⟨b0,b1⟩:=HB1.out _ HU.out
   have HSE:Hid (∀ z,Upd [] wr z->(z.cell? ⟨w.heap.size,0,none⟩=some (.int .i64 n)/\z.cell? ⟨w.heap.size,1,none⟩=some (.slice ta W tc))/\z.cell? ⟨og,i,none⟩=some (.int .i64 v)):=fun z u=>⟨HB1.out _ (HU.out.trans u),u.cell0 x0⟩
   have HDD:=Lib.hid (HDP.out wr.drew v (HU1.out.trans HU.out.drew) hvk);obtain ⟨dd,hdd⟩ : ∃ dd,anJ t v=dd:=⟨_,rfl⟩;have HDV:=Lib.hid hdd;rw [hdd] at HDD;clear hv hov b0 b1 hdd x0;go_upto_region 2 with fail
   go_region_held3 (fun z=>(z.cell? ⟨w.heap.size,0,none⟩=some (.int .i64 n)/\z.cell? ⟨w.heap.size,1,none⟩=some (.slice ta W tc))/\z.cell? ⟨og,i,none⟩=some (.int .i64 v)) (first | exact HSE.out _ (Upd.refl _ _).drew | exact HSE.out _ HU2.out) (first
    | (go_at_call 114;refine HDD.out.mono ?_;rintro e w2 ⟨rfl,hu⟩;have HU2:=Lib.hid ((Upd.refl [] wr).drew.trans hu);clear hu))
   cases dd with
   | false =>
    have hwn:=avv (i:=i) (by omega);go_wp2_with fail
    go_roundg (kv-(i+1))
    case measure=>omega
    case rel =>
     refine ⟨i+1,rfl,by omega,by omega,by simp,fun u hu hl=>?_,HU.out.trans HU2.out⟩
     by_cases e:u=v
     ·subst e;exact HDV.out
     ·refine HNO.out u hu ?_
      have h1:K.lev v=i:=HV.out.2.2;have h2:=HK.out.ok.ord.pm
      have h3:K.lev u≠K.lev v:=fun h=>e (by
       have a:=h2.order_at hu;have c:=h2.order_at HV.out.2.1
       rw [h] at a;rw [a] at c;simpa using c)
      omega
   | true =>
    have HSP:Hid (Split K t v):=⟨HT.out.ok,by have h1:K.vars=kv:=HKV.out;have h2:t.n=n:=HN.out;have h3:=HSS.out.1;omega,HV.out.2.1,HDV.out,fun u hu hl=>HNO.out u hu (by have h1:K.lev v=i:=HV.out.2.2;omega)⟩
    have hge:¬ ((kv:Int)<=(i:Int)):=by omega
    obtain ⟨d',hd'⟩ : ∃ d',d'+K.lev v+1=K.vars:=⟨K.vars-K.lev v-1,by have:=(HK.out.ok.ord.pm.lo v HSP.out.vn).1;omega⟩;have aRM:K.lev v=i:=HV.out.2.2
    have aRN:d'<d:=by have h1:K.vars=kv:=HKV.out;have h2:=HSS.out.2.1;omega
    have HD:=Lib.hid (And.intro hd' (And.intro aRM aRN));obtain ⟨⟨b0,b1⟩,x0⟩:=HSE.out _ HU2.out;have HUA:=Lib.hid (HU1.out.trans (HU.out.trans HU2.out))
    have HB2:Hid (∀ (S':List Nat) (x:World),Upd S' w2 x->(∀ k,k∈S'->k∈Z)->x.cell? ⟨w.heap.size,0,none⟩=some (.int .i64 n)/\x.cell? ⟨w.heap.size,1,none⟩=some (.slice ta W tc)):=fun S' x u hS'=>by
     have hnz:w.heap.size∉S':=fun hm=>by have:=HZ.out w (Upd.refl _ _) _ (hS' _ hm);omega
     exact ⟨(u.cell (World.block_lt_of_cell? _ _ b0) hnz).trans b0,(u.cell (World.block_lt_of_cell? _ _ b1) hnz).trans b1⟩
    have HC0:=Lib.hid (HCF.out w2 [] v false HUA.out (by simp) hvk)
    have aVG:¬ (kv<=i):=by omega
    have a1x:0<=i:=by omega
    have hwn:=avv (i:=i) (by omega)
    have hcs:((i+1:Nat):Int)=(i:Int)+1:=by omega
    have HCS:=Lib.hid hcs;rw [hcs] at hwn;have hFZ:=HSS.out.2.2.2.2.2;have HFZ:=Lib.hid hFZ;clear hd' aRM aRN HDD hcs hFZ;go_wp2_with fail;refine HC0.out.mono ?_;rintro e w3 hE;obtain ⟨c1,rfl,h1,hu3⟩:=hE.ex;obtain ⟨la,lc,rfl,_⟩:=ahV h1.row;have HU3:=Lib.hid (HUA.out.trans hu3);have aVH:=Lib.hid hu3
    have aJo:=HIH.out d' HD.out.2.2 K F Z S (.slice la (aee t v false).ws.length lc) (aee t v false) (i+1) w3 (HK.out.upd HU3.out (by simp)) (HZ.out _ HU3.out) HFZ.out (h1.tin (HZ.out _ HUA.out)) (by rw [HNN.out,<- HN.out];exact HSP.out.n) (by have h1:=HD.out.1;have h2:=HD.out.2.1;omega)
     (fun u hu hl=>HSP.out.nodep HK.out.ok.ord.pm false HD.out.1 hu (by have h1:=HD.out.1;have h2:=HD.out.2.1;omega)) (fun x=>by have:=HSS.out.2.2.2.1 x;have:=HD.out.2.2;omega) (fun g hg=>HSS.out.2.2.2.2.1 g (HSP.out.sub HK.out.ok.ord.pm hg))
    rw [HCS.out] at aJo;unfold aeH at aJo ⊢;have aRP:=HNN.out v false;rw [aRP] at aJo ⊢;have aRQ:=Lib.hid aJo;generalize (aee t v false).ws.length=LW at *;clear hE h1 hu3 aJo aRP b0 b1 x0;go_wp2_with fail;refine aRQ.out.mono ?_;rintro e w4 hE;obtain ⟨r1,aYy,K1,F1,rfl,hR1,hK1,hu1,hs1,avA⟩:=hE.ex;have aVI:=Lib.hid avA;clear avA;have HK1:=Lib.hid (And.intro hK1 (And.intro hu1 hs1))
    rcases hR1 with ⟨rfl,e1,t1,dn1,hd1,n1⟩ | ⟨rfl,rfl,e1,bk1,hd1,nf⟩
    ·have HX1:=Lib.hid (And.intro e1 (And.intro t1 (And.intro dn1 (And.intro hd1 n1))))
     have aRR:Upd F w2 w4:=(aVH.out.mono (by simp):Upd F w2 w3).trans hu1;obtain ⟨b0,b1⟩:=HB2.out F w4 aRR HFZ.out;have HC1:=Lib.hid (HCF.out w4 F v true ((HU3.out.mono (by simp):Upd F w w3).trans hu1) (fun k hk=>.inl (HFZ.out k hk)) hvk);clear hE hK1 hu1 hs1 e1 t1 dn1 hd1 n1 aRR aRQ HC0;go_wp2_with fail;refine HC1.out.mono ?_;rintro e w5 hE;obtain ⟨c2,rfl,h2,hu5⟩:=hE.ex;obtain ⟨ga,gc,rfl,_⟩:=ahV h2.row;have e1:=HX1.out.1;have hd1:=HX1.out.2.2.2.1;have HU5:=Lib.hid hu5
     have aDk:=HIH.out d' HD.out.2.2 K1 F1 F1 S (.slice ga (aee t v true).ws.length gc) (aee t v true) (i+1) w5 (HK1.out.1.upd hu5 (by simp)) (fun k hk=>Nat.lt_of_lt_of_le (HK1.out.1.lt k hk) hu5.size) (fun k hk=>hk) (h2.tin HK1.out.1.lt) (by rw [HNN.out,e1.vr,<- HN.out];exact HSP.out.n) (by rw [e1.vr];have h1:=HD.out.1;have h2:=HD.out.2.1;omega)
      (fun u hu hl=>HSP.out.nodep HK.out.ok.ord.pm true HD.out.1 (by rw [<- e1.vr];exact hu) (by rw [e1.lev] at hl;have h1:=HD.out.1;have h2:=HD.out.2.1;omega)) (fun x=>by have:=HSS.out.2.2.2.1 x;have:=HD.out.2.2;rw [hd1];split <;> omega) (fun g hg=>HSS.out.2.2.2.2.1 g (HSP.out.sub HK.out.ok.ord.pm (e1.subN.1 hg)))
     rw [HCS.out] at aDk;unfold aeH at aDk ⊢;have aRS:=HNN.out v true;rw [aRS] at aDk ⊢;have aNR:=Lib.hid aDk;generalize (aee t v true).ws.length=GW at *;clear hE h2 hu5 aDk aRS b0 b1 e1 hd1 HIH HC1;go_wp2_with fail;refine aNR.out.mono ?_;rintro e w6 hE;obtain ⟨r2,aYB,K2,F2,rfl,hR2,hK2,hu2,hs2,_⟩:=hE.ex;have HK2:=Lib.hid (And.intro hK2 (And.intro hu2 hs2));have aRT:Hid (Stp F w F2 w6):=(((Stp.of0 (F:=F) HU3.out).trans ⟨HK1.out.2.1,HK1.out.2.2⟩).trans (Stp.of0 HU5.out)).trans ⟨hu2,hs2⟩;clear hE hK2 hu2 hs2 aNR
     rcases hR2 with ⟨rfl,e2,t2,dn2,hd2,n2⟩ | ⟨rfl,rfl,e2,b2,hd2,nf⟩
     ·-- both parts are held: Make
      have k1:=HK1.out.1.ok;have k2:=HK2.out.1.ok;have u2:=HK2.out.1.uni;have e02:K.Ext K2:=HX1.out.1.trans e2;have ta2:K2.A.tk r1=true:=e2.tk HX1.out.2.1
      have da2:∀ y,K2.den r1 y=(aee t v false).fn y:=fun y=>by rw [e2.den k1.wf y HX1.out.2.1];exact HX1.out.2.2.1 y
      have hl1:r1<=4294967295:=by have:=k2.ref_lt ta2;omega
      have hl2:r2<=4294967295:=by have:=k2.ref_lt t2;omega
      have hh2:∀ x,K2.hold x<65535:=fun x=>by
       have:=HSS.out.2.2.2.1 x;have:=HD.out.2.2
       rw [hd2,HX1.out.2.2.2.1];split <;> split <;> omega
      have hn2:∀ x,K2.A.tk x=true->K.A.tk x=false->S (K2.den x):=fun x h1 h2=>by
       cases h3:K1.A.tk x with
       | false=>exact n2 x h1 h3
       | true =>
        have e1:K2.den x=K1.den x:=funext fun y=>e2.den k1.wf y h3
        rw [e1];exact HX1.out.2.2.2.2 x h3 h2
      have hh1:∀ x,K2.hold x=K.hold x+(if x=r1/\2<=r1 then 1 else 0)+(if x=r2/\2<=r2 then 1 else 0):=fun x=>by rw [hd2,HX1.out.2.2.2.1]
      have hSt:S t.fn:=HSS.out.2.2.2.2.1 _ ⟨0,fun _=>false,fun y=>by congr 1;funext u;simp [KV.mix]⟩;have HMK:=Lib.hid (fun (r:Nat) (code:Int) (K3:KV) (k3:K3.Ok) (hM:amB K2 (v:Int) r1 r2 r code K3)=>aJk HSP.out e02 k2 u2 ta2 t2 da2 dn2 hh2 hSt hn2 k3 hM);have HH1:=Lib.hid (And.intro hh1 e02);clear k1 k2 u2 e02 ta2 da2 hh2 hn2 hSt hh1 e2 t2 dn2 hd2 n2 HX1;go_wp2_with fail;refine (aMz b v r1 r2 K2 F2 _ HK2.out.1 hl1 hl2).mono ?_;rintro e w7 ⟨r,code,K3,F3,rfl,hM,hK3,hu3,hs3⟩;have hres:=HMK.out r code K3 hK3.ok hM;have HK3:=Lib.hid (And.intro hK3 (And.intro hu3 hs3));clear hM hK3 hu3 hs3 HMK
      have hh3:(2<=r1->0<K3.hold r1)/\(2<=r2->0<K3.hold r2-(if r2=r1/\2<=r1 then 1 else 0)):=by
       rcases hres with ⟨_,_,_,_,h3,_⟩ | ⟨_,_,rfl,_⟩
       ·refine ⟨fun h=>?_,fun h=>?_⟩
        ·rw [h3,HH1.out.1,if_pos (⟨rfl,h⟩ : r1=r1/\2<=r1)];omega
        ·rw [h3,HH1.out.1,if_pos (⟨rfl,h⟩ : r2=r2/\2<=r2)];split <;> omega
       ·refine ⟨fun h=>?_,fun h=>?_⟩
        ·rw [HH1.out.1,if_pos (⟨rfl,h⟩ : r1=r1/\2<=r1)];omega
        ·rw [HH1.out.1,if_pos (⟨rfl,h⟩ : r2=r2/\2<=r2)];split <;> omega
      have HH3:=Lib.hid hh3;have aPj:=Lib.hid hres;clear hh3 hres
      have akU:Hid (∀ (K4 K5:KV),K3.Dropped r1 K4->K4.Dropped r2 K5->K5.Ok->aFq K S t.fn r code K5):=fun K4 K5 D4 D5 k5=>by
       have e5:K5.Ext K3:=D5.ext.trans D4.ext
       have hd:∀ x,K5.hold x=K3.hold x-(if x=r1/\2<=r1 then 1 else 0)-(if x=r2/\2<=r2 then 1 else 0):=fun x=>by
        rw [D5.hd,D4.hd];split <;> split <;> omega
       rcases aPj.out with ⟨rfl,h1,h2,h3,h4,h5⟩ | ⟨rfl,rfl,rfl,h4⟩
       ·refine aMy HK.out.ok k5 (HH1.out.2.trans h1) e5 h3 (fun x=>?_) h5
        rw [hd,h4,HH1.out.1];split <;> split <;> split <;> omega
       ·refine aGw HK.out.ok k5 HH1.out.2 e5 (fun x=>?_) h4
        rw [hd,HH1.out.1];split <;> split <;> omega
      go_wp2_with fail;refine (aCf b r1 K3 F3 _ HK3.out.1 hl1 HH3.out.1).mono ?_;rintro e w8 ⟨K4,F4,rfl,hD4,hK4,hu4,hs4⟩;have HK4:=Lib.hid (And.intro hK4 (And.intro (Stp.mk hu4 hs4) hD4));clear hD4 hK4 hu4 hs4;go_wp2_with fail;refine (aCf b r2 K4 F4 _ HK4.out.1 hl2 (fun h=>by have:=HH3.out.2 h;rw [HK4.out.2.2.hd];split at this <;> split <;> simp_all)).mono ?_;rintro e w9 ⟨K5,F5,rfl,hD5,hK5,hu5,hs5⟩;have HK5:=Lib.hid (And.intro hK5 (And.intro (Stp.mk hu5 hs5) hD5));clear hD5 hK5 hu5 hs5;go_wp2_with fail;go_ret2;have hst:=((aRT.out.trans ⟨HK3.out.2.1,HK3.out.2.2⟩).trans HK4.out.2.1).trans HK5.out.2.1;exact ⟨r,code,K5,F5,rfl,akU.out K4 K5 HK4.out.2.2 HK5.out.2.2 HK5.out.1.ok,HK5.out.1,hst.up,hst.sub,fun _=>HK5.out.2.2.tr⟩
     ·-- the second part has no room: the first is given up
      have k1:=HK1.out.1.ok
      have hl1:r1<=4294967295:=by have:=k1.ref_lt HX1.out.2.1;omega
      have hh1:2<=r1->0<K2.hold r1:=fun h=>by rw [hd2,HX1.out.2.2.2.1,if_pos (⟨rfl,h⟩ : r1=r1/\2<=r1)];omega
      have akU:Hid (∀ K5:KV,K2.Dropped r1 K5->K5.Ok->aFq K S t.fn 0 9 K5):=fun K5 D5 k5 =>
       aGw HK.out.ok k5 (HX1.out.1.trans e2) D5.ext (fun x=>by rw [D5.hd,hd2,HX1.out.2.2.2.1];split <;> omega) (nf.back k1.wf HX1.out.1 HX1.out.2.2.2.2)
      clear k1 e2 b2 hd2 nf HX1;go_wp2_with fail;refine (aCf b r1 K2 F2 _ HK2.out.1 hl1 hh1).mono ?_;rintro e w8 ⟨K5,F5,rfl,hD5,hK5,hu5,hs5⟩;have HK5:=Lib.hid (And.intro hK5 (And.intro (Stp.mk hu5 hs5) hD5));clear hD5 hK5 hu5 hs5;go_wp2_with fail;go_ret2;have hst:=aRT.out.trans HK5.out.2.1;exact ⟨0,9,K5,F5,rfl,akU.out K5 HK5.out.2.2 HK5.out.1.ok,HK5.out.1,hst.up,hst.sub,fun _=>HK5.out.2.2.tr⟩
    ·have HX:=Lib.hid (And.intro hu1 hs1)
     have HL:Hid (aFq K S t.fn 0 9 K1):=.inr ⟨rfl,rfl,e1,bk1,hd1,nf⟩;clear hE hK1 hu1 hs1 e1 bk1 hd1 nf;go_wp2_with fail;go_ret2;exact ⟨0,9,K1,F1,rfl,HL.out,HK1.out.1,HU3.out.trans0 HK1.out.2.1,fun k hk=>(HK1.out.2.2 k hk).imp id fun h=>Nat.le_trans HU3.out.size h,aVI.out⟩
  ·obtain rfl:i=kv:=by omega
   have hik:¬ ((i:Int)<(i:Int)):=by omega
   have hge:((i:Int)<=(i:Int)):=by omega
   have HCN:=Lib.hid (azZ HK.out.ok HT.out.ok (by have h1:K.vars=i:=HKV.out;have h2:t.n=n:=HN.out;have h3:=HSS.out.1;omega) (fun u hu=>HNO.out u hu (by have:=(HK.out.ok.ord.pm.lo u hu).1;have h1:K.vars=i:=HKV.out;omega)));have aVG:i<=i:=Nat.le_refl _;obtain ⟨b0,b1⟩:=HB1.out wr.drew HU.out.drew;have HBB:=Lib.hid (HBT.out wr.drew (HU1.out.trans HU.out.drew));obtain ⟨bb,hbb⟩ : ∃ bb,t.bit 0=bb:=⟨_,rfl⟩;have HBV:=Lib.hid hbb;rw [hbb] at HBB
   have aME:Hid (∀ z,Upd [] w z->aNM b K F S t w (.returned (.tuple #[.int .u32 ((if bb=true then 1 else 0:Nat)),.int .i64 0])) z):=fun z u =>
    ⟨_,0,K,F,rfl,.inl ⟨rfl,KV.Ext.refl K,HK.out.ok.tk_const (by split <;> omega),fun y=>by
     rw [HCN.out,HBV.out,K.den_const (by split <;> omega)];cases bb <;> rfl,fun x=>by rw [if_neg (by rintro ⟨_,h⟩;split at h <;> omega)];omega,fun x h1 h2=>by rw [h1] at h2;cases h2⟩,HK.out.upd u (by simp),u.mono (by simp),Sub.refl _ _,id⟩
   clear hbb;go_upto_region 2 with fail
   go_region
   go_wp2_with fail;refine HBB.out.mono ?_;rintro e w2 ⟨rfl,hu⟩;have HE:=Lib.hid (aME.out _ (HU1.out.trans (HU.out.drew.trans hu)));clear hu b0 b1 aME
   cases bb with
   | true =>
    go_wp2_with fail;go_ret2;exact HE.out
   | false =>
    go_wp2_with fail;go_ret2;exact HE.out
end Go.Proofs.YtdackeldhdchaaaGreat
namespace Go.Proofs.YtdackeldhdchaaaGreat
open Go.RowKit Go.Maps Go.ChangeMaps Go.WideShapes Go.Shelf
attribute [local go_sem] Oper.semAt_some
structure aCj (D:DM) (left:Lit->Bool) (ps:List (Lit × Int)):Prop where
 nd:(ps.map (·.1)).Nodup
 at_:∀ p,p∈ps->∀ z,D.atKey p.1 z=.lit (.int .u32 p.2)
 mem:∀ k,k∈ps.map (·.1)↔(Maps.has D k=true/\left k=false)
theorem aCj.start (D:DM):aCj D (Maps.has D) []:=⟨by simp,by simp,fun k=>by cases Maps.has D k <;> simp⟩
theorem aCj.step {D:DM} {left:Lit->Bool} {ps:List (Lit × Int)} (h:aCj D left ps) {k:Lit} {c:Int} (hk:WideAt.IsKeyLit k) (hl:left k=true) (hat:∀ z,D.atKey k z=.lit (.int .u32 c)):aCj D (fun z=>left z&&!z.sameKey k) (ps++[(k,c)]):=by
 have hh:Maps.has D k=true:=has_true_of_atKey hat;refine ⟨?_,fun p hp=>?_,fun z=>?_⟩
 ·rw [List.map_append,List.nodup_append]
  refine ⟨h.nd,by simp,fun a ha b hb=>?_⟩
  simp at hb;subst hb
  rintro rfl;have:=((h.mem a).1 ha).2
  rw [hl] at this;cases this
 ·rcases List.mem_append.1 hp with hp | hp
  ·exact h.at_ p hp
  ·simp at hp;subst hp;exact hat
 ·rw [List.map_append,List.mem_append,h.mem]
  by_cases e:z=k
  ·subst e;simp [hh,WideAt.sameKey_self hk]
  ·simp [e,sameKey_ne e]
def amd (D:DM) (l:List Int):Prop:=∃ ps:List (Lit × Int),(ps.map (·.1)).Nodup/\(∀ p,p∈ps->∀ z,D.atKey p.1 z=.lit (.int .u32 p.2))/\(∀ k,k∈ps.map (·.1)↔Maps.has D k=true)/\l=ps.map (·.2)
theorem aCj.all {D:DM} {left:Lit->Bool} {ps:List (Lit × Int)} (h:aCj D left ps) (hl:∀ k,left k=false):amd D (ps.map (·.2)):=⟨ps,h.nd,h.at_,fun k=>by rw [h.mem,hl];simp,rfl⟩
theorem aHn {key:Value} {kl:Lit} (h:keyOf Tryz.prog 142 key=some kl):WideAt.IsKeyLit kl:=by
 unfold keyOf at h;rw [Tryz.underlying142] at h
 simp at h
 obtain ⟨_,ls,_,rfl⟩:=h
 trivial
theorem aFx (n:Nat) (hn:1<=n) (l Bm b nn:Nat) (D:DM) (J Jx:List Int->World->Prop)
  (hY:∀ pre x W,J pre W->pre.length<Maps.size D->YieldAt Fence.wide (n-1) Tryz.prog l #[.int .u32 x] W fun e W' =>
   (e=.returned (.bool true)/\J (pre++[x]) W'/\KeepsWalks W W')\/(e=.returned (.bool false)/\Jx (pre++[x]) W'))
  (W:World) (hJ:AbidesFrom W.heap.size J) (hm:W.cell? ⟨Bm,0,none⟩=some (.map (some b))) (ab3:W.ownsMap Tryz.prog 142 (plainElem Tryz.prog 77) b nn D) (h0:J [] W) :
  CallsIn Fence.wide n Tryz.prog 227 #[.func (.yield l) #[] #[],.pointer (some ⟨Bm,0,none⟩)] W fun e W'=>(∃ v,e=.returned v) /\
   ((∃ xs,amd D xs/\J xs W')\/(∃ pre,True/\Jx pre W')):=by
 refine callsIn_of_wp Tryz.func227 rfl trivial ?_ rfl
 simp only [Tryz.ntmps227,List.size_toArray,List.length_cons,List.length_nil,Nat.reduceAdd,Nat.reduceSub,Array.replicate_succ,Array.replicate_zero,List.push_toArray,List.append_toArray,List.nil_append,List.cons_append]
 gi_wp2_with (first
  | (gi_at_range;refine wpListIn_range_own _ rfl _ 219 rfl 142 77 adh Tryz.underlying219 _ b nn _ rfl ab3 ?_;intro w0 aFz hg0 hs0)
  | gi_in)
 go_frame
 gi_loopw [4] (fun _ wr=>∃ (left:Lit->Bool) (cnt:Nat) (ps:List (Lit × Int)),wr.ranges Tryz.prog 142 (plainElem Tryz.prog 77) b W.heap.size nn D left cnt/\ps.length+cnt<=Maps.size D/\aCj D left ps/\J (ps.map (·.2)) wr)
  (fun _ wr=>wr.rangeLeft b W.heap.size)
 case atStart =>
  exact ⟨_,_,[],aFz,by simp,aCj.start D,hJ [] W w0 none h0 hg0 (fun r e=>by cases e)⟩
 case round =>
  obtain ⟨left,cnt,ps,hrg,hcs,hC,hJs⟩:=hrel
  gi_wp2_with (first
   | (gi_at_next;refine wpListIn_next_ranges _ rfl _ rfl 142 adh (plainElem Tryz.prog 77) id (Value.int .u32) (fun key kl hk=>⟨key,rfl⟩) (fun v y hv=>by obtain ⟨c,rfl,_⟩:=plainElem_int_inv Tryz.underlying77 hv;exact ⟨c,rfl⟩) b W.heap.size nn _ _ _ rfl hrg ?_ ?_)
   | gi_in)
  ·intro hc0 hl0
   gi_wp2
   go_end0;exact ⟨⟨_,rfl⟩,.inl ⟨_,hC.all hl0,hJs⟩⟩
  ·intro x c kl yd yp w2 aVN aiQ hlk hv hat aDm hlt hg2 hs2 hen
   obtain ⟨c',ec,ez,_⟩:=plainElem_int_inv Tryz.underlying77 hv
   obtain rfl:c=c':=by simpa using ec
   obtain rfl:yd=.lit (.int .u32 c):=(Prod.mk.inj ez).1;have hJ2:J (ps.map (·.2)) w2:=hJ _ wr w2 (some W.heap.size) hJs hg2 (fun r e=>by cases e;exact ⟨Nat.le_refl _,hrg.iter_walk⟩);obtain ⟨fn,tmps,assign,body,hy,hR⟩:=hY (ps.map (·.2)) c w2 hJ2 (by simp;omega);clear hs2
   gi_wp2
   refine hR.mono ?_;have hC2:=hC.step (aHn aiQ) hlk hat;rintro e W3 (⟨rfl,hJ3,hk3⟩ | ⟨rfl,aVO⟩)
   ·gi_wp2
    have aRX:=aDm.of_walks hk3
    go_roundw
    case rel=>exact ⟨_,aVN,ps++[(kl,c)],aRX,by simp;omega,hC2,by simpa using hJ3⟩
    case measure=>rw [aRX.left_eq,hrg.left_eq];exact hlt
   ·gi_wp2
    refine bodyPost_ret (results_none rfl _ _ _) rfl ?_;exact ⟨⟨_,rfl⟩,.inr ⟨_,trivial,aVO⟩⟩
theorem aHo (n:Nat) (mb:Option Nat) (w:World) :
  CallsIn Fence.wide n Tryz.prog 216 #[.map mb] w fun e w'=>e=.returned (.func (.func 227) #[] #[.pointer (some ⟨w.heap.size,0,none⟩)])/\w'=w.alloc (.cells #[.map mb] 219):=by
 refine callsIn_of_wp Tryz.func216 rfl trivial ?_ rfl
 simp only [Tryz.ntmps216,List.size_toArray,List.length_cons,List.length_nil,Nat.reduceAdd,Nat.reduceSub,Array.replicate_succ,Array.replicate_zero,List.push_toArray,List.append_toArray,List.nil_append,List.cons_append]
 gi_wp2
 go_ret;exact ⟨rfl,rfl⟩
theorem aCk (n:Nat) (hn:1<=n) (Bm b nn:Nat) (D:DM) (w:World) (hBm:Bm<w.heap.size) (hm:w.cell? ⟨Bm,0,none⟩=some (.map (some b))) (ab3:w.ownsMap Tryz.prog 142 (plainElem Tryz.prog 77) b nn D) :
  SeqStopsK Fence.wide n Tryz.prog 227 #[.pointer (some ⟨Bm,0,none⟩)] (fun x:Int=>#[Value.int .u32 x]) KeepsWalks (amd D) (fun _=>True) (Maps.size D) w:=fun l J Jx W hW hJ _ hY h0=>by
 have aGx:W.ownsMap Tryz.prog 142 (plainElem Tryz.prog 77) b nn D:=aev ab3 (hW.block b ab3.lt);exact aFx n hn l Bm b nn D J Jx hY W hJ ((hW.cell (p:=⟨Bm,0,none⟩) hBm).trans hm) aGx h0
attribute [local go_sem] Oper.semAt_some
theorem Tryz.infoRefE:(Tryz.prog.info? 77).map (fun i=>(i.zero,i.size,i.bytes))=some (some (.int .u32 0),1,4):=by kernel_rfl
structure aCl (D:DM) (n0:Nat) (w:World) (e:Ending) (w':World):Prop where
 ex:∃ (v:Value) (l:List Int),e=.returned v/\amd D l/\w'.ownsRow n0 77 1 v l.length (l.map (Value.int .u32))/\Below w.heap.size w w'
theorem aCm (n:Nat) (hn:3<=n) (Bm b nn:Nat) (D:DM) (w:World) (hBm:Bm<w.heap.size) (hm:w.cell? ⟨Bm,0,none⟩=some (.map (some b))) (ab3:w.ownsMap Tryz.prog 142 (plainElem Tryz.prog 77) b nn D) (hsz:Maps.size D<=1048576) :
  CallsIn Fence.wide n Tryz.prog 229 #[.slice none 0 0,.func (.func 227) #[] #[.pointer (some ⟨Bm,0,none⟩)]] w fun e w'=>aCl D w.heap.size w e w':=by
 have h1:1<=n:=by omega
 obtain ⟨i0,hi,hz0,hz1,hz2⟩:=info_parts Tryz.infoRefE;refine callsIn_of_wp_marks Tryz.func229 rfl trivial ?_ rfl
 simp only [Tryz.ntmps229,List.size_toArray,List.length_cons,List.length_nil,Nat.reduceAdd,Nat.reduceSub,Array.replicate_succ,Array.replicate_zero,List.push_toArray,List.append_toArray,List.nil_append,List.cons_append]
 gi_wp2
 have bO:=Boxed.new w 42 (.slice none 0 0);have hB0:Below w.heap.size w (w.alloc (.cells #[.slice none 0 0] 42)):=(Below.refl _ w).alloc (Nat.le_refl _) _;have hm1:(w.alloc (.cells #[.slice none 0 0] 42)).cell? ⟨Bm,0,none⟩=some (.map (some b)):=(hB0.cell (p:=⟨Bm,0,none⟩) hBm).trans hm;have ase:(w.alloc (.cells #[.slice none 0 0] 42)).ownsMap Tryz.prog 142 (plainElem Tryz.prog 77) b nn D:=aev ab3 (hB0.block b ab3.lt)
 refine wpIn_rangeFunc_ownG rfl h1 (gf:=227) (lb:=#[.pointer (some ⟨Bm,0,none⟩)]) rfl trivial (enters_of Tryz.func227 (by kernel_rfl) rfl)
  (aCk (n-1) (by omega) Bm b nn D _ (by simp;omega) hm1 ase) walksK_t walksK_b (Below.refl _ _) (fun _=>rfl)
  (fun pre W=>(∃ v,Boxed W w.heap.size 42 v/\W.ownsRow w.heap.size 77 1 v pre.length (pre.map (Value.int .u32))/\True)/\Below w.heap.size w W)
  (fun _ _ _=>False)
  (OwnFrom.and (Own.from (holdsRow_own w.heap.size w.heap.size 42 77 1 (fun pre:List Int=>pre.length) (fun pre=>pre.map (Value.int .u32)) (fun _ _=>True)) _) (ownFrom_below (Nat.le_refl _) (by simp)))
  (fun _ _ _ _ _ hs _ _=>hs)
  ⟨⟨_,bO,World.ownsRow_nil _ _ _ _,trivial⟩,hB0⟩
  (fun x=>{ tmps:=#[.slice none 0 0,.func (.func 227) #[] #[.pointer (some ⟨Bm,0,none⟩)],.pointer (some ⟨w.heap.size,0,none⟩),undef,.slice none 0 0,.int .u32 x,.func (.func 227) #[] #[.pointer (some ⟨Bm,0,none⟩)],.int .u32 x,undef,undef,undef,undef,undef],defers:=[] }) ?assign ?body ?done ?stop
 case assign =>
  intro l x W K hK
  gi_wp2
  exact hK
 case body =>
  rintro l pre x W ⟨⟨v,hv,abP,_⟩,hB⟩ hlt;have hc:=hv.cell
  gi_wp2_with (gi_at_builtin;refine wpListIn_append_own _ rfl _ _ 42 rfl w.heap.size 77 i0 (.int .u32 0) 1 4 Tryz.underlying42 hi hz0 hz1 hz2 rfl (by decide) _ _ _ rfl (abP.alloc _) ⟨W.heap.size,0,none⟩ 1 1 [.int .u32 x] rfl rfl (cell_one_new _ _ _) (by simp [Value.oneCell']) (by unfold maxLen;omega) (by omega) (by have:=hB.size;simp;omega) ?_;intro v' w1 aGx aRY _;obtain ⟨g',aMF,rfl⟩:=ownsRow_succ aGx;obtain ⟨hv1,hv2,hr2,hk2,hb2⟩:=hv.appended (by decide) abP hB.size (Nat.le_refl _) aGx aRY;have hc1:=hv1.cell;have hf1:=hv1.frozen)
  exact ⟨hk2.from _,hk2.walks,⟨_,hv2,by simpa using hr2,trivial⟩,hB.trans hb2⟩
 case done =>
  rintro Dd ys W hD hys ⟨⟨v,hv,abP,_⟩,hB⟩ hK;have hc:=hv.cell
  gi_wp2
  refine ⟨by simp,.inl ⟨_,_,rfl,run_takeDeferred hK,?_⟩⟩;exact ⟨_,results_tmp rfl _ _ _,v,ys,rfl,hys,ownsRow_putObj abP _ hK rfl,hB.trans (belowK_b (w:=w) (Nat.le_refl _) W Dd _ _ (by simp at hD;omega) hK rfl rfl)⟩
 case stop =>
  rintro Dd c pre W _ _ h _;exact h.elim
theorem aFA (n:Nat) (hn:4<=n) (Bm b nn:Nat) (D:DM) (w:World) (hBm:Bm<w.heap.size) (hm:w.cell? ⟨Bm,0,none⟩=some (.map (some b))) (ab3:w.ownsMap Tryz.prog 142 (plainElem Tryz.prog 77) b nn D) (hsz:Maps.size D<=1048576) :
  CallsIn Fence.wide n Tryz.prog 225 #[.func (.func 227) #[] #[.pointer (some ⟨Bm,0,none⟩)]] w fun e w'=>aCl D w.heap.size w e w':=by
 refine callsIn_of_wp Tryz.func225 rfl trivial ?_ rfl
 simp only [Tryz.ntmps225,List.size_toArray,List.length_cons,List.length_nil,Nat.reduceAdd,Nat.reduceSub,Array.replicate_succ,Array.replicate_zero,List.push_toArray,List.append_toArray,List.nil_append,List.cons_append]
 gi_wp2
 refine ⟨trivial,fun _=>by omega,?_⟩;refine (aCm (n-1) (by omega) Bm b nn D _ hBm hm ab3 hsz).mono ?_;rintro e w' hE;obtain ⟨v,l,rfl,hl,hr,hB⟩:=hE.ex;clear hE
 gi_wp2
 go_ret;exact ⟨v,l,rfl,hl,hr,hB⟩
end Go.Proofs.YtdackeldhdchaaaGreat
namespace Go.Proofs.YtdackeldhdchaaaGreat
open Go.RowKit Go.Maps Go.ChangeMaps Go.WideShapes
theorem aFB (w:World):Calls Tryz.prog 242 #[.int .u64 0] w fun e w'=>(∃ c:Int,e=.returned (.int .i64 c))/\w'=w:=by
 go_enter Tryz.func242,Tryz.ntmps242
 go_wp2_with fail;go_ret;exact ⟨⟨_,rfl⟩,rfl⟩
theorem aJr (w:World):Calls Tryz.prog 231 #[.int .u64 0] w fun e w'=>(∃ c:Int,e=.returned (.int .i64 c))/\w'=w:=by
 go_enter Tryz.func231,Tryz.ntmps231
 go_wp2_with fail;refine (aFB _).mono ?_;rintro e w1 ⟨⟨c,rfl⟩,rfl⟩;go_wp2_with fail;go_ret;exact ⟨⟨_,rfl⟩,rfl⟩
theorem az3 (a:Option Addr) (c:Nat) (w:World):Calls Tryz.prog 232 #[.slice a 0 c,.int .i64 0,.int .i64 0] w fun e w'=>e=.returned (.tuple #[])/\w'=w:=by
 go_enter Tryz.func232,Tryz.ntmps232
 go_wp2_with fail
 go_loopg [6] 0 (fun gg s6 wr=>gg=0/\s6=.int .i64 1/\wr=w)
 case atStart=>exact ⟨rfl,rfl,rfl⟩
 case round =>
  obtain ⟨rfl,rfl,rfl⟩:=hrel;go_wp2_with fail;go_end0;exact ⟨rfl,rfl⟩
theorem aHp (a:Option Addr) (c:Nat) (l:Int) (w:World):Calls Tryz.prog 230 #[.slice a 0 c,.int .i64 0,.int .i64 0,.int .i64 l] w fun e w'=>e=.returned (.tuple #[])/\w'=w:=by
 go_enter Tryz.func230,Tryz.ntmps230
 go_wp2_with fail
 go_loopg [1,2,3] 0 (fun gg s1 s2 s3 wr=>gg=0/\s1=.int .i64 0/\s2=.int .i64 0/\wr=w)
 case atStart=>exact ⟨rfl,rfl,rfl,rfl⟩
 case round =>
  obtain ⟨rfl,rfl,rfl,rfl⟩:=hrel;go_wp2_with fail;refine (az3 a c _).mono ?_;rintro e w1 ⟨rfl,rfl⟩;go_wp2_with fail;refine bodyPost_ret (results_none rfl _ _ _) rfl ?_;exact ⟨rfl,rfl⟩
theorem aFC (a:Option Addr) (c:Nat) (w:World):Calls Tryz.prog 226 #[.slice a 0 c] w fun e w'=>e=.returned (.tuple #[])/\w'=w:=by
 go_enter Tryz.func226,Tryz.ntmps226
 go_wp2_with fail;refine (aJr _).mono ?_;rintro e w1 ⟨⟨l,rfl⟩,rfl⟩;go_wp2_with fail;refine (aHp a c l _).mono ?_;rintro e w2 ⟨rfl,rfl⟩;go_wp2_with fail;go_end0;exact ⟨rfl,rfl⟩
theorem az4 (Bm b nn:Nat) (D:DM) (w:World) (hBm:Bm<w.heap.size) (hm:w.cell? ⟨Bm,0,none⟩=some (.map (some b))) (ab3:w.ownsMap Tryz.prog 142 (plainElem Tryz.prog 77) b nn D) (hsz:Maps.size D<=1048576) :
  Calls Tryz.prog 225 #[.func (.func 227) #[] #[.pointer (some ⟨Bm,0,none⟩)]] w fun e w'=>aCl D w.heap.size w e w' :=
 callsIn_wide.1 (aFA 10 (by omega) Bm b nn D w hBm hm ab3 hsz)
theorem aCn (mb:Option Nat) (w:World) :
  Calls Tryz.prog 216 #[.map mb] w fun e w'=>e=.returned (.func (.func 227) #[] #[.pointer (some ⟨w.heap.size,0,none⟩)])/\w'=w.alloc (.cells #[.map mb] 219) :=
 callsIn_wide.1 (aHo 10 mb w)
theorem aHq {n:Nat} {w w':World} (h:Below n w w') (hn:w.heap.size<=n):Upd [] w w' :=
 ⟨h.os,h.tape,h.output,h.size,fun k hk _=>h.block k (by omega)⟩
theorem aBc (l:List Nat) (r n:Nat):(acf l).set r (.int .i64 n)=acf (l.set r n):=by simp [acf,List.map_set]
theorem abv.setOrder {w:World} {b g n' c r n:Nat} {K:KV} {T:List DM} {q:abM} (h:abv w b K T q) (hq:q.ov=.slice (some ⟨g,0,none⟩) n' c) (hr:r<K.order.length) :
  abv (w.setCell ⟨g,r,none⟩ (.int .i64 n)) b { K with order:=K.order.set r n } T q:=by
 have hg:q.o g=5:=h.oo g (by rw [hq];rfl)
 have hne:∀ {k c},q.o k=c->c≠5->k≠g:=fun {k c} hk hc hm=>hc (by rw [<- hk,hm,hg])
 have hk:∀ {k c},q.o k=c->c≠5->(w.setCell ⟨g,r,none⟩ (.int .i64 n)).heap[k]?=w.heap[k]?:=fun hk hc=>acb (hne hk hc)
 refine ⟨by rw [hk h.ob (by omega)];exact h.blk,h.ar.keep fun k hm=>hk (h.oa k hm) (by omega),h.tab.keep fun k hm=>hk (h.ot k hm) (by omega),aaX h.us fun k hm=>hk (h.ou k hm) (by omega),
  aaX h.hs fun k hm=>hk (h.oh k hm) (by omega),?_,aaX h.ls fun k hm=>hk (h.ol k hm) (by omega),aaX h.ts fun k hm=>hk (h.ox k hm) (by omega),
  h.ob,h.oa,h.ot,h.ou,h.oh,h.oo,h.ol,h.ox⟩
 have hu:=h.os;rw [hq] at hu ⊢;have:=ae1 hu (j:=r) (by omega) (.int .i64 n);rw [aBc] at this
 simpa using this
theorem abv.setLevel {w:World} {b g n' c r n:Nat} {K:KV} {T:List DM} {q:abM} (h:abv w b K T q) (hq:q.lv=.slice (some ⟨g,0,none⟩) n' c) (hr:r<K.level.length) :
  abv (w.setCell ⟨g,r,none⟩ (.int .i64 n)) b { K with level:=K.level.set r n } T q:=by
 have hg:q.o g=6:=h.ol g (by rw [hq];rfl)
 have hne:∀ {k c},q.o k=c->c≠6->k≠g:=fun {k c} hk hc hm=>hc (by rw [<- hk,hm,hg])
 have hk:∀ {k c},q.o k=c->c≠6->(w.setCell ⟨g,r,none⟩ (.int .i64 n)).heap[k]?=w.heap[k]?:=fun hk hc=>acb (hne hk hc)
 refine ⟨by rw [hk h.ob (by omega)];exact h.blk,h.ar.keep fun k hm=>hk (h.oa k hm) (by omega),h.tab.keep fun k hm=>hk (h.ot k hm) (by omega),aaX h.us fun k hm=>hk (h.ou k hm) (by omega),
  aaX h.hs fun k hm=>hk (h.oh k hm) (by omega),aaX h.os fun k hm=>hk (h.oo k hm) (by omega),?_,aaX h.ts fun k hm=>hk (h.ox k hm) (by omega),
  h.ob,h.oa,h.ot,h.ou,h.oh,h.oo,h.ol,h.ox⟩
 have hu:=h.ls;rw [hq] at hu ⊢;have:=ae1 hu (j:=r) (by omega) (.int .i64 n);rw [aBc] at this
 simpa using this
theorem abv.growTrail {w w5:World} {b g5 cap l:Nat} {X:Obj} {K:KV} {T:List DM} {q:abM} (h:abv w b K T q) (hg:(w.alloc X).grownBy w5 q.tv.ownBlock) (hat:q.tv.ownBlock=some g5\/g5=w.heap.size+1)
  (ab3:w5.ownsRow 0 3 1 (.slice (some ⟨g5,0,none⟩) (K.trail.length+1) cap) (K.trail.length+1) (acf K.trail++[.int .i64 l])) :
  abv (w5.setCell ⟨b,7,none⟩ (.slice (some ⟨g5,0,none⟩) (K.trail.length+1) cap)) b { K with trail:=K.trail++[l] } T { q with tv:=.slice (some ⟨g5,0,none⟩) (K.trail.length+1) cap,o:=aeI q w.heap.size 7 }:=by
 have hb:=aa4 h.blk
 have hbg:b≠g5:=by
  rcases hat with e | e
  ·rintro rfl;have e1:=h.ob;have e2:=h.ox b e;omega
  ·omega
 have keep:∀ {k c:Nat},q.o k=c->c≠7->c≠0->k<w.heap.size->(w5.setCell ⟨b,7,none⟩ (.slice (some ⟨g5,0,none⟩) (K.trail.length+1) cap)).heap[k]?=w.heap[k]?:=by
  intro k c hk hc h0 hl
  rw [acb (by rintro rfl;exact h0 (hk ▸ h.ob)),hg.block k (by rw [World.size_alloc];omega) (fun e=>hc (hk ▸ h.ox k e.symm)),Below.heap_alloc _ _ _ hl]
 have hbk:w5.heap[b]?=w.heap[b]?:=by
  rw [hg.block b (by rw [World.size_alloc];omega) (fun e=>by have e1:=h.ob;have e2:=h.ox b e.symm;omega),Below.heap_alloc _ _ _ hb]
 rw [h.blk] at hbk
 refine ⟨by rw [abV hbk];simp,h.ar.keep fun k hm=>keep (h.oa k hm) (by omega) (by omega) (h.ar.lt k hm),h.tab.keep fun k hm=>keep (h.ot k hm) (by omega) (by omega) (h.tab.lt k hm),
  aaX h.us fun k hm=>keep (h.ou k hm) (by omega) (by omega) (h.us.lt k hm).2,aaX h.hs fun k hm=>keep (h.oh k hm) (by omega) (by omega) (h.hs.lt k hm).2,aaX h.os fun k hm=>keep (h.oo k hm) (by omega) (by omega) (h.os.lt k hm).2,aaX h.ls fun k hm=>keep (h.ol k hm) (by omega) (by omega) (h.ls.lt k hm).2,?_,?_,?_,?_,?_,?_,?_,?_,?_⟩
 ·show World.ownsRow _ 0 _ 1 _ (K.trail++[l]).length (acf (K.trail++[l]))
  have e:=ac9 ab3 (a:=⟨b,7,none⟩) (by simpa [Value.ownBlock] using hbg) (.slice (some ⟨g5,0,none⟩) (K.trail.length+1) cap)
  simpa [acf] using e
 ·show aeI q _ _ b=0
  rw [acD hb];exact h.ob
 ·intro k hk;show aeI q _ _ k=1;rw [acD (h.ar.lt k hk)];exact h.oa k hk
 ·intro k hk;show aeI q _ _ k=2;rw [acD (h.tab.lt k hk)];exact h.ot k hk
 ·intro k hk;show aeI q _ _ k=3;rw [acD (h.us.lt k hk).2];exact h.ou k hk
 ·intro k hk;show aeI q _ _ k=4;rw [acD (h.hs.lt k hk).2];exact h.oh k hk
 ·intro k hk;show aeI q _ _ k=5;rw [acD (h.os.lt k hk).2];exact h.oo k hk
 ·intro k hk;show aeI q _ _ k=6;rw [acD (h.ls.lt k hk).2];exact h.ol k hk
 ·intro k hk
  simp [Value.ownBlock] at hk;subst hk
  show aeI q _ _ g5=7
  rcases hat with e | e
  ·rw [acD (h.ts.lt g5 e).2];exact h.ox g5 e
  ·unfold aeI;rw [if_pos (by omega)]
def KV.swapK (K:KV) (l:Nat):KV:={ K with order:=(K.order.set l (K.order.getD (l+1) 0)).set (l+1) (K.order.getD l 0),level:=(K.level.set (K.order.getD l 0) (l+1)).set (K.order.getD (l+1) 0) l }
theorem aCo {l:List Nat} {i:Nat} (h:i<l.length):l[i]?=some (l.getD i 0):=by
 rw [List.getD_eq_getElem?_getD,List.getElem?_eq_getElem h];rfl
theorem Tryz.infoIntE:(Tryz.prog.info? 3).map (fun i=>(i.zero,i.size,i.bytes))=some (some (.int .i64 0),1,8):=by kernel_rfl
theorem ami {w:World} {base g n' c:Nat} {l:List Nat} {n:Nat} (h:w.ownsRow base 3 1 (.slice (some ⟨g,0,none⟩) n' c) n (acf l)) {j:Nat} (hj:j<l.length):w.cell? ⟨g,j,none⟩=some (.int .i64 (l.getD j 0:Nat)) :=
 abf h (by rw [acf,List.getElem?_map,aCo hj];rfl)
theorem aJs {b l go gl co cl n1 n2:Nat} {K:KV} {T:List DM} {q:abM} {w:World} (hm:abv w b K T q) (ho:q.ov=.slice (some ⟨go,0,none⟩) n1 co) (hv:q.lv=.slice (some ⟨gl,0,none⟩) n2 cl) (h1:l<K.order.length) (h2:l+1<K.order.length)
  (h3:K.order.getD l 0<K.level.length) (h4:K.order.getD (l+1) 0<K.level.length) :
  abv ((((w.setCell ⟨go,l,none⟩ (.int .i64 (K.order.getD (l+1) 0:Nat))).setCell ⟨go,l+1,none⟩ (.int .i64 (K.order.getD l 0:Nat))).setCell ⟨gl,K.order.getD l 0,none⟩ (.int .i64 ((l:Int)+1))).setCell ⟨gl,K.order.getD (l+1) 0,none⟩ (.int .i64 l)).drew.drew b (K.swapK l) T q /\
  Upd (q.all b) w ((((w.setCell ⟨go,l,none⟩ (.int .i64 (K.order.getD (l+1) 0:Nat))).setCell ⟨go,l+1,none⟩ (.int .i64 (K.order.getD l 0:Nat))).setCell ⟨gl,K.order.getD l 0,none⟩ (.int .i64 ((l:Int)+1))).setCell ⟨gl,K.order.getD (l+1) 0,none⟩ (.int .i64 l)).drew.drew:=by
 have m1:=hm.setOrder (n:=K.order.getD (l+1) 0) ho h1;have m2:=m1.setOrder (n:=K.order.getD l 0) (r:=l+1) ho (by simpa using h2);have m3:=m2.setLevel (n:=l+1) (r:=K.order.getD l 0) hv h3;have m4:=m3.setLevel (n:=l) (r:=K.order.getD (l+1) 0) hv (by rw [List.length_set];exact h4);have go1:go∈q.all b:=abM.mem.2 (.inr (.inr (.inr (.inr (.inr (.inl (by rw [ho];rfl)))))));have gl1:gl∈q.all b:=abM.mem.2 (.inr (.inr (.inr (.inr (.inr (.inr (.inl (by rw [hv];rfl))))))))
 exact ⟨(m4.upd ((Upd.refl [] _).drew) (by simp)).upd ((Upd.refl [] _).drew) (by simp),
  ((((((Upd.refl (q.all b) w).setCell (p:=⟨go,l,none⟩) (.inl go1) _).setCell (p:=⟨go,l+1,none⟩) (.inl go1) _).setCell (p:=⟨gl,_,none⟩) (.inl gl1) _).setCell (p:=⟨gl,_,none⟩) (.inl gl1) _).drew).drew⟩
end Go.Proofs.YtdackeldhdchaaaGreat
