import Derived.Test.YtfkopmhpppeheaaGreatPN37
import Derived.Test.YtfkopmhpppeheaaGreatPN30
import Derived.Test.YtfkopmhpppeheaaGreatPN1
import Derived.Test.YtfkopmhpppeheaaGreatPN35
import Derived.Deep.CutBlock
set_option maxRecDepth 100000
set_option maxHeartbeats 12800000
namespace Go.Proofs.YtfkopmhpppeheaaGreat
open Go.RowKit Go.Maps Go.ChangeMaps Go.WideShapes
structure Xb (b:Nat) (K0:KV) (F0:List Nat) (wL:World) (B:KV) (Fi:List Nat) (wr:World):Prop where
 ker:aZ wr b B Fi
 stp:l9 F0 wL Fi wr
 way:Way K0 B B.trail
structure Ot (b m:Nat) (K0:KV) (F0:List Nat) (wL:World) (s17:Value) (wx:World):Prop where
 ex:∃ (B:KV) (Fi:List Nat),Xb b K0 F0 wL B Fi wx/\s17=.int .i64 (B.trail.length:Nat)/\B.trail.length<=m
theorem Gy (b:Nat) (K:KV) (F:List Nat) (w:World) (h:aZ w b K F) :
  Calls Tryz.prog 35 #[.pointer (some ⟨b,0,none⟩)] w fun e w'=>∃ (a:Option Addr) (c:Nat),e=.returned (.slice a K.roots.length c)/\af [] w w' :=
 (JK b K F w h).mono fun e w' hE=>by
  obtain ⟨v,rfl,hr,hu⟩:=hE;obtain ⟨a,c,rfl,_⟩:=aj hr;exact ⟨a,c,rfl,hu⟩
theorem D7 (a0:Int) (ga va ua:Option Addr) (gn gc vn vc un uc:Nat) (Vs Us:List Int) (w:World) (hG:lK w ga gn) (hV:EX w .i64 va vn vc Vs) (hX:EX w .u64 ua un uc Us) :
  Calls Tryz.prog 9 #[.int .i64 a0,.slice ga gn gc,.slice va vn vc,.slice ua un uc] w fun e w'=>e=.returned (.bool true)/\af [] w w':=by
 have HG:=Lib.hid hG;have HV:=Lib.hid hV;have HX:=Lib.hid hX;have hvm:vn<=maxLen:=hV.row.mx;have hum:un<=maxLen:=hX.row.mx;clear hG hV hX
 go_enter Tryz.func9,Tryz.ntmps9
 go_wp2_with fail;refine (IM _).mono ?_;rintro e w1 ⟨rfl,iq⟩;have mG:=Lib.hid iq;clear iq;go_wp2_with fail;refine (KF a0 ga va gn gc vn vc w1 HG.out.mx hvm).mono ?_;rintro e w2 ⟨rfl,jE⟩;have eF:Hid (af [] w w2):=mG.out.trans jE;clear jE mG;obtain ⟨Bm,hB⟩ : ∃ B,KE a0 gn vn=B:=⟨_,rfl⟩;rw [hB]
 cases Bm with
 | false =>
  clear hB;go_wp2_with fail;go_ret;exact ⟨rfl,eF.out⟩
 | true =>
  obtain ⟨h1,h64,h40,h80⟩ : 1<=a0/\a0<=64/\gn<=40/\vn<=80:=by
   unfold KE at hB;simp at hB;omega
  clear hB
  by_cases h60:un<=60
  ·obtain ⟨n,rfl⟩ : ∃ n:Nat,a0=(n:Int):=⟨a0.toNat,by omega⟩
   have AO:1<=n:=by omega
   have X3:n<=64:=by omega
   have amG:¬ ((60:Int)<(un:Int)):=by omega
   have atN:decide ((60:Int)<(un:Int))=false:=by simp;omega
   have HBS:=Lib.hid (Oh n ga gn gc w2 AO X3 (HG.out.keep0 eF.out) h40);clear h1 h64;go_wp2_with fail;refine HBS.out.mono ?_;rintro e w3 hE;obtain ⟨b,K,F,refs,bv,rfl,hK,hBl,TB,I9,hFr,fG⟩:=hE.ex;obtain ⟨oa,oc,rfl,_⟩:=aj TB;have o8:Hid (af [] w w3):=eF.out.trans fG;have wZ:=hBl.vr;have qG:=hBl.tr;have yC:=hK.ok.ord.pm.ol;rw [wZ] at yC
   have HFR:Hid (∀ k,k∈F->w.heap.size<=k):=fun k hk=>by have:=hFr k hk;have:=eF.out.size;omega
   have HK:=Lib.hid (And.intro hK (And.intro wZ (And.intro qG hBl)));have HBR:=Lib.hid (And.intro TB I9);have rF:=hBl.hl;have HVL:=Lib.hid (pJ b K F refs _ oa ua oc un uc Us w3 hK TB hBl.tk (HX.out.row.keep0 o8.out) (fun x hx=>wf_u64 (HX.out.wf x hx)) hBl.hl h60);obtain ⟨RN,hRN⟩ : ∃ RN,refs.length=RN:=⟨_,rfl⟩;rw [hRN] at HVL;rw [hRN];have Zv:=Lib.hid hRN;clear hE hK hBl TB I9 hFr fG HBS eF wZ qG hRN;go_wp2_with fail;refine HVL.out.mono ?_;rintro e w4 hE;obtain ⟨sa,sc,rfl,hsr,Ah⟩:=hE.ex;obtain ⟨LB,hLB⟩ : ∃ LB,(K.says refs Us).length=LB:=⟨_,rfl⟩;rw [hLB];rw [hLB] at hsr;have HLB:=Lib.hid hLB;have HSR:=Lib.hid (And.intro hsr Ah)
   have hlb:LB<=2460:=by
    rw [<- hLB,K.says_len];have e:=HX.out.row.len;have h5:=Nat.mul_le_mul rF h60
    rw [e];omega
   have UK:=Lib.hid (jC b K F w4 (HK.out.1.upd Ah (by simp)));rw [yC] at UK;clear hE hsr Ah hLB HVL;go_wp2_with fail;refine UK.out.mono ?_;rintro e w5 ⟨og,ocp,rfl,hor,nK⟩;obtain ⟨Ll,Ht⟩ : ∃ x,(K.A.used:Int)-2=x:=⟨_,rfl⟩;have adf:=Lib.hid (HSR.out.2.trans nK);have adg:=qO b K F w5 (HK.out.1.upd adf.out (by simp));rw [Ht] at adg;have amI:=Lib.hid adg;have HO5:=Lib.hid (And.intro hor nK);have QA:=Lib.hid Ht;clear hor nK adg Ht;go_wp2_with fail;refine amI.out.mono ?_;rintro e w5' ⟨rfl,rfl⟩;have HRO:=Lib.hid (Gy b K F w5' (HK.out.1.upd adf.out (by simp)));obtain ⟨RL,XI⟩ : ∃ RL,K.roots.length=RL:=⟨_,rfl⟩;rw [XI] at HRO;have NR:=Lib.hid XI;clear XI;go_wp2_with fail;refine HRO.out.mono ?_;rintro e w6 ⟨ra,rc,rfl,uI⟩;have ahd:=Lib.hid (adf.out.trans uI);have hTR:=xI b K F w6 (HK.out.1.upd ahd.out (by simp));rw [HK.out.2.2.1] at hTR;have HTR:Hid (Calls Tryz.prog 44 #[.pointer (some ⟨b,0,none⟩)] w6 fun e w'=>e=.returned (.int .i64 0)/\w'=w6):=hTR;have hSO:=ru b K F w6 (HK.out.1.upd ahd.out (by simp));rw [HK.out.2.1] at hSO;have HSO:=Lib.hid hSO;have HU6:=Lib.hid uI;clear hTR hSO uI;go_wp2_with fail;refine HTR.out.mono ?_;rintro e w6' ⟨rfl,rfl⟩;go_wp2_with fail;refine HSO.out.mono ?_;rintro e wL ⟨rfl,huL⟩;have adh:Hid (af [] w5' wL):=HU6.out.trans huL;have adi:Hid (af [] w4 wL):=HO5.out.2.trans adh.out;have Zw:Hid (af [] w3 wL):=HSR.out.2.trans adi.out;have SY:Hid (aZ wL b K F/\l9 [] w F wL):=⟨HK.out.1.upd Zw.out (by simp),o8.out.trans Zw.out,fun k hk=>.inr (HFR.out k hk)⟩
   have Vp:Hid (∀ k,w3.heap.size<=k->k∉F):=fun k hk hm=>by have:=HK.out.1.lt k hm;omega
   have OT:Hid (∀ Fi z,l9 F wL Fi z->z.ownsRow w2.heap.size 77 1 (.slice oa RN oc) RN (aI refs)/\z.ownsRow w3.heap.size 4 1 (.slice sa LB sc) LB (iM (K.says refs Us))/\z.ownsRow w4.heap.size 3 1 (.slice (some ⟨og,0,none⟩) n ocp) n (aQ K.order)):=fun Fi z h=>by
    have key:∀ k,k<wL.heap.size->k∉F->z.heap[k]?=wL.heap[k]?:=fun k hk hn=>h.up.block k hk hn
    refine ⟨?_,ai HSR.out.1 fun k hk=>?_,ai HO5.out.1 fun k hk=>?_⟩
    ·have hb:=HBR.out.1
     have hd:=HBR.out.2;rw [Zv.out] at hb hd
     refine ai hb fun k hk=>?_
     have h5:=(hb.lt k hk).2;rw [key k (Nat.lt_of_lt_of_le h5 Zw.out.size) (hd k hk)];exact Zw.out.block k h5 (by simp)
    ·have h5:=HSR.out.1.lt k hk
     rw [key k (Nat.lt_of_lt_of_le h5.2 adi.out.size) (Vp.out k h5.1)];exact adi.out.block k h5.2 (by simp)
    ·have h5:=HO5.out.1.lt k hk
     rw [key k (Nat.lt_of_lt_of_le h5.2 adh.out.size) (Vp.out k (Nat.le_trans HSR.out.2.size h5.1))];exact adh.out.block k h5.2 (by simp)
   have NS:Hid (Xb b K F wL K F wL):=⟨SY.out.1,⟨af.refl _ _,Sub.refl _ _⟩,by rw [HK.out.2.2.1];exact .nil (Home.refl HK.out.1.ok HK.out.1.uni)⟩;clear huL
   go_upto_block 0 with fail
   go_cut [17,19,20,21,22,23,24,25,26,27,28,29,30] from 84 to 200 (fun s17 _ _ _ _ _ _ _ _ _ _ _ _ wx=>Ot b vn K F wL s17 wx)
   case first =>
    go_wp2_with fail
    go_loopg [17,84] vn (fun g s17 s84 wr=>∃ (i:Nat) (B:KV) (Fi:List Nat),vn-i=g/\i<=vn/\s84=.int .i64 i/\s17=.int .i64 (B.trail.length:Nat)/\Xb b K F wL B Fi wr/\B.trail.length<=i)
    case atStart=>exact ⟨0,K,F,by omega,by omega,rfl,by rw [HK.out.2.2.1];rfl,NS.out,by rw [HK.out.2.2.1];simp⟩
    case round =>
     obtain ⟨i,B,Fi,rfl,hi,rfl,rfl,hR,Hu⟩:=hrel
     by_cases aW:i<vn
     ·obtain ⟨x,hx,hc⟩:=HV.out.row.at_ i aW
      subst hx
      have fF:(i:Int)<(vn:Int):=by omega
      have cx:=(SY.out.2.trans hR.stp).up.cell0 hc;generalize Vs.getD i 0=X at *
      by_cases hn2:n<2
      ·have atP:(n:Int)<2:=by omega
       have HQ:=Lib.hid (Ot.mk (m:=vn) ⟨B,Fi,hR,rfl,by omega⟩);clear hR hc;go_wp2_with fail;go_meet;exact HQ.out
      ·obtain ⟨l,hl,hm⟩:=zk X (n-1) (by omega) (by omega)
       have hnm:((n-1:Nat):Int)=(n:Int)-1:=by omega
       rw [hnm] at hm;have HM:=Lib.hid hm
       have bK:¬ ((n:Int)<2):=by omega
       have atQ:decide ((n:Int)<2)=false:=by simp;omega
       have EL:=hR.way.facts;have UD:B.vars=n:=EL.vr.trans HK.out.2.1;have hbo:B.order.length=n:=hR.ker.ok.ord.pm.ol.trans UD;have uP:=hR.ker.ok.used_m;have adk:=hR.ker.ok.nodes_len;have ahe:=Lib.hid (jC b B Fi wr hR.ker);rw [hbo] at ahe;obtain ⟨D8,adl⟩ : ∃ x,(B.A.used:Int)-2=x:=⟨_,rfl⟩;obtain ⟨plI,O9⟩ : ∃ x,(B.A.places:Int)-2=x:=⟨_,rfl⟩
       have HLB:Hid (∀ z,af [] wr z->Calls Tryz.prog 33 #[.pointer (some ⟨b,0,none⟩)] z fun e w'=>e=.returned (.int .i64 D8)/\w'=z):=fun z u=>by
        rw [<- adl];exact qO b B Fi z (hR.ker.upd u (by simp))
       have TE:Hid (∀ z,af [] wr z->Calls Tryz.prog 22 #[.pointer (some ⟨b,0,none⟩),.int .i64 l] z fun e w'=>∃ n:Nat,e=.returned (.tuple #[.int .i64 n,.int .i64 plI,.int .i64 0])/\af [] z w'/\jr B l n):=fun z u=>by
        rw [<- O9];exact PO b l B Fi z (hR.ker.upd u (by simp)) (by omega)
       have Jw:Hid (∀ z,af [] wr z->Calls Tryz.prog 20 #[.pointer (some ⟨b,0,none⟩),.int .i64 l] z fun e w'=>We b l B Fi (ExL l B) z e w'):=fun z u =>
        Zp b l B Fi z (hR.ker.upd u (by simp)) (by omega) (by omega)
       have HB:=Lib.hid (And.intro hR (And.intro UD (And.intro hbo (And.intro adl O9))));obtain ⟨TL,Jf⟩ : ∃ TL,B.trail.length=TL:=⟨_,rfl⟩;rw [Jf] at Hu;rw [Jf];have HTL:=Lib.hid Jf
       have AZ:0<=D8:=by omega
       have pX:D8<=1048576:=by omega
       clear hm hnm EL UD hbo uP adk hR hc adl O9 Jf;go_wp2_with fail;refine (HM.out wr).mono ?_;rintro e wr' ⟨rfl,rfl⟩;go_wp2_with fail;refine ahe.out.mono ?_;rintro e wa ⟨ng,ncp,rfl,hna,hua⟩;have MO:=Lib.hid (And.intro hna hua);clear hna hua;go_wp2_with fail;refine (HLB.out wa MO.out.2).mono ?_;rintro e wa' ⟨rfl,rfl⟩;go_wp2_with fail;refine (TE.out wa' MO.out.2).mono ?_;rintro e wc ⟨nn,rfl,huc,hrn⟩;have HC:=Lib.hid (And.intro (MO.out.2.trans huc) (And.intro huc hrn));clear huc hrn;go_wp2_with fail;refine (Jw.out wc HC.out.1).mono ?_;rintro e wd hE;obtain ⟨code,K',F',rfl,hK',Qz,wB,hx⟩:=hE.ex;have HSD:Hid (l9 F wL F' wd):=(HB.out.1.stp.trans (l9.of0 HC.out.1)).trans ⟨Qz,wB⟩
       rcases hx with ⟨rfl,rfl,hno9⟩ | ⟨rfl,hyes,dS⟩
       ·have hle:¬ ((nn:Int)<=plI):=by have:=hno9 nn HC.out.2.2;have:=HB.out.2.2.2.2;omega
        have amN:decide ((nn:Int)<=plI)=false:=by simp;omega
        rw [if_neg (by decide)]
        have HQ:Hid (Xb b K F wL _ F' (wd.alloc (.cells #[.int .i64 0,.int .i64 0,.int .i64 0] 46 (0,0)))) :=
         ⟨hK'.upd ((af.refl [] wd).alloc _) (by simp),HSD.out.trans (l9.of0 ((af.refl [] wd).alloc _)),HB.out.1.way⟩
        clear hE hK' Qz wB hno9;go_wp2_with fail
        go_roundg (vn-(i+1))
        case measure=>omega
        case rel=>exact ⟨i+1,_,F',rfl,by omega,by simp,by rw [HTL.out],HQ.out,by rw [HTL.out];omega⟩
       ·have hle:(nn:Int)<=plI:=by have:=dS nn HC.out.2.2;have:=HB.out.2.2.2.2;omega
        have amN:decide ((nn:Int)<=plI)=true:=by simp;omega
        rw [if_pos rfl];have UD:=HB.out.2.1;obtain ⟨hxp,ahh,ahi⟩:=ExL.way HB.out.1.ker.ok HB.out.1.ker.uni hK'.ok hK'.uni (by omega) HB.out.1.way hyes dS;have AO:jr K' l nn:=hxp.room HC.out.2.2;have Nl:K'.vars=n:=hxp.ex.vr.trans UD;have hko:K'.order.length=n:=hK'.ok.ord.pm.ol.trans Nl;have Qh:=jr.ge HB.out.1.ker.ok HB.out.1.ker.uni (by omega) HC.out.2.2;have ahj:=jr.ge hK'.ok hK'.uni (by omega) AO;have uP:=hK'.ok.used_m;have adk:=hK'.ok.nodes_len;obtain ⟨D9,Zx⟩ : ∃ x,(K'.A.used:Int)-2=x:=⟨_,rfl⟩;rw [HB.out.2.2.2.1] at Qh;rw [Zx] at ahj;rw [HB.out.2.2.2.1,Zx]
        have atT:0<=D9:=by omega
        have atU:D9<=1048576:=by omega
        have ahk:K'.order=bM B.order l:=hxp.ex.od
        have adm:ng∉F':=fun hm=>by
         have h1:=MO.out.1.lt ng (by simp [Value.ownBlock])
         rcases wB ng hm with h | h
         ·have:=HB.out.1.ker.lt ng h;omega
         ·have:=HC.out.2.1.size;omega
        have PS:wd.ownsRow wr'.heap.size 3 1 (.slice (some ⟨ng,0,none⟩) n ncp) n (aQ B.order):=ai MO.out.1 fun k hk=>by
         have h1:=MO.out.1.lt k hk;have h2:=HC.out.2.1.block k h1.2 (by simp);rw [Qz.block k (by have:=HC.out.2.1.size;omega) fun hm=>by have:=HB.out.1.ker.lt k hm;omega,h2]
        have XT:=heap_alloc_new wd (.cells #[.int .i64 (l:Int),.int .i64 D8,.int .i64 D9] 46 (0,0));have hue:af [] wd (wd.alloc (.cells #[.int .i64 (l:Int),.int .i64 D8,.int .i64 D9] 46 (0,0))):=(af.refl _ _).alloc _;obtain ⟨we,hwe⟩ : ∃ we,wd.alloc (.cells #[.int .i64 (l:Int),.int .i64 D8,.int .i64 D9] 46 (0,0))=we:=⟨_,rfl⟩;rw [hwe] at XT hue
        have amO:ng<wd.heap.size:=by have h1:=(PS.lt ng (by simp [Value.ownBlock])).2;exact h1
        have V9:Hid (∀ z,af [ng] we z->z.cell? ⟨wd.heap.size,0,none⟩=some (.int .i64 (l:Int))/\z.cell? ⟨wd.heap.size,1,none⟩=some (.int .i64 D8)/\z.cell? ⟨wd.heap.size,2,none⟩=some (.int .i64 D9)):=fun z u=>by
         have h:=(u.block _ (ah XT) (by simp;omega)).trans XT;exact ⟨ae h rfl,ae h rfl,ae h rfl⟩
        have Gz:=ai PS fun k hk=>hue.block k (PS.lt k hk).2 (by simp)
        have rP:l<B.order.length:=by rw [HB.out.2.2.1];omega
        have ahl:l+1<B.order.length:=by rw [HB.out.2.2.1];omega
        have x0:=nM Gz rP;have x1:=nM Gz ahl;have f0:=aS Gz l;have f1:=aS Gz (l+1);have CB:=dL Gz (j:=l) (by omega) (.int .i64 (B.order.getD (l+1) 0:Nat));have f2:=aS CB (l+1);have mf:=dL CB (j:=l+1) (by omega) (.int .i64 (B.order.getD l 0:Nat));rw [uJ,uJ,show (B.order.set l (B.order.getD (l+1) 0)).set (l+1) (B.order.getD l 0)=K'.order from ahk.symm] at mf;have xZ:af [ng] we ((we.setCell ⟨ng,l,none⟩ (.int .i64 (B.order.getD (l+1) 0:Nat))).setCell ⟨ng,l+1,none⟩ (.int .i64 (B.order.getD l 0:Nat))):=((af.refl [ng] we).setCell (p:=⟨ng,l,none⟩) (.inl (by simp)) _).setCell (p:=⟨ng,l+1,none⟩) (.inl (by simp)) _;generalize B.order.getD l 0=xu at *;generalize B.order.getD (l+1) 0=xv at *;obtain ⟨wX,hwX⟩ : ∃ wX,(we.setCell ⟨ng,l,none⟩ (.int .i64 (xv:Int))).setCell ⟨ng,l+1,none⟩ (.int .i64 (xu:Int))=wX:=⟨_,rfl⟩;rw [hwX] at mf xZ;have huX:af [] wX wX.drew:=(af.refl _ _).drew;have PT:af [ng] we wX.drew:=xZ.trans (huX.mono (by simp))
        have yB:aZ wX.drew b K' F':=(hK'.upd hue (by simp)).upd PT fun k hk hm=>by simp at hm;subst hm;exact adm hk
        have ahm:wL.heap.size<=ng:=by
         have h1:=(MO.out.1.lt ng (by simp [Value.ownBlock])).1;have h2:=HB.out.1.stp.up.size;omega
        have dR:l9 F wL F' wX.drew:=⟨(HSD.out.trans (l9.of0 hue)).up.then PT fun k hk=>.inr (by simp at hk;subst hk;exact ahm),fun k hk=>(HSD.out.sub k hk)⟩;have NQ:Hid (wX.drew.ownsRow wr'.heap.size 3 1 (.slice (some ⟨ng,0,none⟩) n ncp) n (aQ K'.order)/\af [ng] we wX.drew/\aZ wX.drew b K' F'/\l9 F wL F' wX.drew):=⟨ai mf fun k hk=>huX.block k (mf.lt k hk).2 (by simp),PT,yB,dR⟩;have HWX:=Lib.hid hwX;have SL:=Lib.hid (And.intro hue (And.intro adm amO));have Aj:=Lib.hid (And.intro AO (And.intro Nl (And.intro hko (And.intro Zx (And.intro ahh ahi)))));have HWE:=Lib.hid hwe
        have hli:(l:Int)+1<(n:Int):=by omega
        have atX:(l:Int)<(n:Int):=by omega
        clear hE hK' Qz wB dS hyes hxp ahh ahi AO Nl hko uP adk Zx ahk adm PS XT hue hwe Gz rP ahl CB mf xZ yB UD hwX huX PT ahm dR;go_upto_region 22 with fail;rw [HWE.out];go_upto_region 26 with fail
        go_region
        rw [HWX.out];generalize wX.drew=wN at *;generalize wd.heap.size=cb at *;have amR:=Lib.hid (PO b l K' F' wN NQ.out.2.2.1 (by rw [Aj.out.2.1];omega))
        have hgd:decide ((nn:Int)<D8)=false:=by simp;omega
        have atY:decide ((nn:Int)<D9)=false:=by simp;omega
        have hgn:¬ ((nn:Int)<D8):=by omega
        have atZ:¬ ((nn:Int)<D9):=by omega
        clear x0 x1 f0 f1 f2 Qh ahj;go_wp2_with fail;refine amR.out.mono ?_;rintro e wR ⟨n2,rfl,huR,ahn⟩;have aho:n2=nn:=jr.uniq NQ.out.2.2.1.ok NQ.out.2.2.1.uni (by rw [Aj.out.2.1];omega) ahn Aj.out.1;rw [aho];have HUR:=Lib.hid huR;have HO3:=Lib.hid (jC b K' F' wR.drew ((NQ.out.2.2.1.upd huR (by simp)).upd ((af.refl [] wR).drew) (by simp)));rw [Aj.out.2.2.1] at HO3
        have NY:Hid (∀ z,af [] wR z->Calls Tryz.prog 33 #[.pointer (some ⟨b,0,none⟩)] z fun e w'=>e=.returned (.int .i64 D9)/\w'=z):=fun z u=>by
         rw [<- Aj.out.2.2.2.1];exact qO b K' F' z ((NQ.out.2.2.1.upd HUR.out (by simp)).upd u (by simp))
        have nN:Hid (∀ z,af [] wR z->z.cell? ⟨cb,0,none⟩=some (.int .i64 (l:Int))/\z.cell? ⟨cb,1,none⟩=some (.int .i64 D8)/\z.cell? ⟨cb,2,none⟩=some (.int .i64 D9)):=fun z u =>
         V9.out z ((NQ.out.2.1.trans (HUR.out.mono (by simp))).trans (u.mono (by simp)))
        clear huR ahn aho;go_upto_region 28 with fail;refine fZ (fun z=>z.cell? ⟨cb,0,none⟩=some (.int .i64 (l:Int))/\z.cell? ⟨cb,1,none⟩=some (.int .i64 D8)/\z.cell? ⟨cb,2,none⟩=some (.int .i64 D9)) (fun _=>True) [] (by kernel_rfl) ?_;have hS:=nN.out _ (af.refl _ _).drew;have hE:True:=trivial;refine dN 0 rfl hS (fun _=>hE) ?_;refine dN 2 rfl hS (fun _=>hE) ?_;refine aJ (rs:=[1]) (by kernel_rfl) (by simp) ?_;refine ay.cons rfl (fun Kx hK=>?_) ?_
        rotate_left
        exact ay.nil
        go_simp
        refine HO3.out.mono ?_;rintro e wS ⟨g3,cp3,rfl,ahq,huS⟩;have HUS:Hid (af [] wR wS):=(af.refl [] wR).drew.trans huS;have HOC:=Lib.hid (yj _ _ (.slice (some ⟨g3,0,none⟩) n cp3) (.slice (some ⟨ng,0,none⟩) n ncp) K'.order wS (by rw [Aj.out.2.2.1];exact ahq) (by rw [Aj.out.2.2.1];exact ai NQ.out.1 fun k hk=>(HUR.out.trans HUS.out).block k (NQ.out.1.lt k hk).2 (by simp)) (by rw [Aj.out.2.2.1];omega));clear ahq huS;go_wp2_with fail;refine hK.out _ _ ⟨nN.out _ HUS.out,fun _=>trivial⟩ (fun hHeld=>?_);clear hK Kx;obtain ⟨hS,hE⟩:=hHeld;have hE:=hE (by kernel_rfl)
        (try simp only [Act.put,List.getElem_toArray,List.getElem_cons_succ,List.getElem_cons_zero,List.setIfInBounds_toArray,List.set_cons_zero,List.set_cons_succ])
        refine aJ (rs:=[3]) (by kernel_rfl) (by simp) ?_;refine ay.cons rfl (fun Kx hK=>?_) ?_
        rotate_left
        exact ay.nil
        go_simp
        refine HOC.out.mono ?_;rintro e wT ⟨rfl,huT⟩;have HUT:Hid (af [] wR wT):=HUS.out.trans huT;clear huT;go_wp2_with fail;refine hK.out _ _ ⟨nN.out _ HUT.out,fun _=>trivial⟩ (fun hHeld=>?_);clear hK Kx;obtain ⟨hS,hE⟩:=hHeld;have hE:=hE (by kernel_rfl)
        (try simp only [Act.put,List.getElem_toArray,List.getElem_cons_succ,List.getElem_cons_zero,List.setIfInBounds_toArray,List.set_cons_zero,List.set_cons_succ])
        refine dN 4 rfl hS (fun _=>hE) ?_;refine dN 5 rfl hS (fun _=>hE) ?_;refine dN 6 rfl hS (fun _=>hE) ?_;refine dN 7 rfl hS (fun _=>hE) ?_;refine dN 8 rfl hS (fun _=>hE) ?_;refine dN 9 rfl hS (fun _=>hE) ?_;refine dN 10 rfl hS (fun _=>hE) ?_;refine dN 11 rfl hS (fun _=>hE) ?_;refine dN 12 rfl hS (fun _=>hE) ?_;refine dN 13 rfl hS (fun _=>hE) ?_;refine dN 14 rfl hS (fun _=>hE) ?_;refine dN 15 rfl hS (fun _=>hE) ?_;refine dN 16 rfl hS (fun _=>hE) ?_;refine dN 17 rfl hS (fun _=>hE) ?_;refine dN 18 rfl hS (fun _=>hE) ?_;refine dN 19 rfl hS (fun _=>hE) ?_;refine dN 20 rfl hS (fun _=>hE) ?_;refine aJ (rs:=[21]) (by kernel_rfl) (by simp) ?_;refine ay.cons rfl (fun Kx hK=>?_) ?_
        rotate_left
        exact ay.nil
        go_simp
        refine (NY.out _ HUT.out).mono ?_;rintro e wT' ⟨rfl,rfl⟩;go_wp2_with fail;refine hK.out _ _ ⟨nN.out _ HUT.out,fun _=>trivial⟩ (fun hHeld=>?_);clear hK Kx;obtain ⟨hS,hE⟩:=hHeld;have hE:=hE (by kernel_rfl)
        (try simp only [Act.put,List.getElem_toArray,List.getElem_cons_succ,List.getElem_cons_zero,List.setIfInBounds_toArray,List.set_cons_zero,List.set_cons_succ])
        refine dN 22 rfl hS (fun _=>hE) ?_;refine dN 23 rfl hS (fun _=>hE) ?_;refine dN 24 rfl hS (fun _=>hE) ?_;refine dN 25 rfl hS (fun _=>hE) ?_;refine dN 26 rfl hS (fun _=>hE) ?_;refine dN 27 rfl hS (fun _=>hE) ?_;refine dN 28 rfl hS (fun _=>hE) ?_;refine dN 29 rfl hS (fun _=>hE) ?_;refine dN 30 rfl hS (fun _=>hE) ?_;refine dN 31 rfl hS (fun _=>hE) ?_;refine dN 32 rfl hS (fun _=>hE) ?_;refine dN 33 rfl hS (fun _=>hE) ?_;refine dN 34 rfl hS (fun _=>hE) ?_;refine dN 35 rfl hS (fun _=>hE) ?_;refine dN 36 rfl hS (fun _=>hE) ?_;refine dN 37 rfl hS (fun _=>hE) ?_;refine dN 38 rfl hS (fun _=>hE) ?_;refine dN 39 rfl hS (fun _=>hE) ?_;refine dN 40 rfl hS (fun _=>hE) ?_;refine dN 41 rfl hS (fun _=>hE) ?_;refine dN 42 rfl hS (fun _=>hE) ?_;refine dN 43 rfl hS (fun _=>hE) ?_;refine fD (by kernel_rfl) ?_ _;clear hS hE
        (try go_simp)
        have HQ:Hid (Xb b K F wL K' F' wT'):=⟨(NQ.out.2.2.1.upd HUR.out (by simp)).upd HUT.out (by simp),(NQ.out.2.2.2.trans (l9.of0 HUR.out)).trans (l9.of0 HUT.out),Aj.out.2.2.2.2.2⟩
        have ahs:Hid (K'.trail.length=TL+1):=by show _=_;rw [Aj.out.2.2.2.2.1,List.length_append,HTL.out];rfl
        go_wp2_with fail
        go_roundg (vn-(i+1))
        case measure=>omega
        case rel=>exact ⟨i+1,K',F',rfl,by omega,by simp,by rw [ahs.out];simp,HQ.out,by rw [ahs.out];omega⟩
     ·have fF:¬ ((i:Int)<(vn:Int)):=by omega
      have HQ:=Lib.hid (Ot.mk (m:=vn) ⟨B,Fi,hR,rfl,by omega⟩);clear hR;go_wp2_with fail;go_meet;exact HQ.out
   case rest =>
    obtain ⟨B,Fi,hR,rfl,hm⟩:=hcut.ex;have EL:=hR.way.facts;have HRF:Hid (∀ r,r∈refs->r<2\/0<K.hold r):=HK.out.2.2.2.hr;have hsy:=EL.says HRF.out Us;have Px:=HX.out;have A8:l9 [] w Fi wc:=SY.out.2.trans hR.stp;have Z8:=pJ b B Fi refs _ oa ua oc un uc Us wc hR.ker (by rw [Zv.out];exact (OT.out Fi wc hR.stp).1) (fun r hr=>EL.tk hR.ker.ok (HRF.out r hr)) (Px.row.keep0 A8.up) (fun x hx=>wf_u64 (Px.wf x hx)) (by rw [Zv.out];exact (show RN<=41 by rw [<- Zv.out];exact rF)) h60;rw [Zv.out] at Z8;have HVL:=Lib.hid Z8;have UD:B.vars=n:=EL.vr.trans HK.out.2.1;have HSY:Hid (B.says refs Us=K.says refs Us):=hsy;obtain ⟨TL,Jf⟩ : ∃ TL,B.trail.length=TL:=⟨_,rfl⟩;rw [Jf];rw [Jf] at hm
    have OU:Hid (∀ z,af [] wc z->Calls Tryz.prog 35 #[.pointer (some ⟨b,0,none⟩)] z fun e w'=>∃ (a:Option Addr) (c:Nat),e=.returned (.slice a RL c)/\af [] z w'):=fun z u=>by
     have:=Gy b B Fi z (hR.ker.upd u (by simp));rw [EL.roots,NR.out] at this;exact this
    have amU:Hid (∀ z,af [] wc z->Calls Tryz.prog 44 #[.pointer (some ⟨b,0,none⟩)] z fun e w'=>e=.returned (.int .i64 (TL:Nat))/\w'=z):=fun z u=>by
     rw [<- Jf];exact xI b B Fi z (hR.ker.upd u (by simp))
    have HSD:Hid (∀ z,af [] wc z->Calls Tryz.prog 45 #[.pointer (some ⟨b,0,none⟩),.int .i64 n] z fun e w'=>e=.returned (.bool true)/\af [] z w'):=fun z u=>by
     rw [<- UD];exact ru b B Fi z (hR.ker.upd u (by simp))
    have HBK:Hid (∀ z,af [] wc z->Calls Tryz.prog 23 #[.pointer (some ⟨b,0,none⟩),.int .i64 0] z fun e w'=>∃ (B':KV) (F':List Nat),e=.returned (.tuple #[.int .i64 (TL:Nat),.int .i64 0])/\aZ w' b B' F'/\l9 Fi z F' w'/\Home K B'):=fun z u=>by
     rw [<- Jf];exact KW b K B Fi z (hR.ker.upd u (by simp)) hR.way (by omega)
    have HR:=Lib.hid hR;clear hcut hR EL hsy Px A8 Z8 UD Jf;go_wp2_with fail;refine HVL.out.mono ?_;rintro e w8 hE;obtain ⟨sb,sc2,rfl,adn,PL⟩:=hE.ex;rw [HSY.out,HLB.out] at adn;rw [HSY.out,HLB.out];have xm:=Lib.hid (And.intro adn PL);clear hE adn PL;go_wp2_with fail;refine (HSD.out w8 xm.out.2).mono ?_;rintro e w9 ⟨rfl,NI⟩;have HU9:Hid (af [] w8 w9):=NI;have aht:Hid (af [] wc w9):=xm.out.2.trans NI;clear NI;go_wp2_with fail;refine (OU.out w9 aht.out).mono ?_;rintro e w10 ⟨ra2,rc2,rfl,Ul⟩;have Xc:Hid (af [] wc w10):=aht.out.trans Ul;have amV:Hid (af [] w8 w10):=HU9.out.trans Ul;clear Ul;go_wp2_with fail;refine (amU.out w10 Xc.out).mono ?_;rintro e ahu ⟨rfl,rfl⟩
    have Gl:Hid (∀ z,af [] ahu z->z.ownsRow w3.heap.size 4 1 (.slice sa LB sc) LB (iM (K.says refs Us))/\z.ownsRow wc.heap.size 4 1 (.slice sb LB sc2) LB (iM (K.says refs Us))):=fun z u =>
     ⟨(OT.out Fi z (HR.out.stp.trans (l9.of0 (Xc.out.trans u)))).2.1,ai xm.out.1 fun k hk=>(amV.out.trans u).block k (xm.out.1.lt k hk).2 (by simp)⟩
    go_wp2_with fail
    go_loopg [233] LB (fun g s233 wr=>∃ i:Nat,LB-i=g/\i<=LB/\s233=.int .i64 i/\af [] ahu wr)
    case atStart=>exact ⟨0,by omega,by omega,rfl,af.refl _ _⟩
    case round =>
     obtain ⟨i,rfl,hi,rfl,hU⟩:=hrel;obtain ⟨q1,q2⟩:=Gl.out wr hU
     by_cases aW:i<LB
     ·obtain ⟨g1,rfl⟩:=bC q1 (by omega)
      obtain ⟨g2,rfl⟩:=bC q2 (by omega)
      have fF:(i:Int)<(LB:Int):=by omega
      have XJ:(K.says refs Us)[i]?=some ((K.says refs Us).getD i false):=by
       rw [List.getD_eq_getElem?_getD,List.getElem?_eq_getElem (by rw [HLB.out];exact aW)];rfl
      have x1:=au q1 (j:=i) (u:=.bool ((K.says refs Us).getD i false)) (by rw [iM,List.getElem?_map,XJ];rfl);have x2:=au q2 (j:=i) (u:=.bool ((K.says refs Us).getD i false)) (by rw [iM,List.getElem?_map,XJ];rfl);generalize (K.says refs Us).getD i false=bb at *;have HU:=Lib.hid hU;clear hU q1 q2 XJ
      cases bb with
      | false =>
       go_wp2_with fail
       go_quiet (fail)
       go_wp2_with fail
       go_roundg (LB-(i+1))
       case measure=>omega
       case rel=>exact ⟨i+1,rfl,by omega,by simp,HU.out.drewN _⟩
      | true =>
       go_wp2_with fail
       go_quiet (fail)
       go_wp2_with fail
       go_roundg (LB-(i+1))
       case measure=>omega
       case rel=>exact ⟨i+1,rfl,by omega,by simp,HU.out.drewN _⟩
     ·obtain rfl:LB=i:=by omega
      have fF:¬ ((LB:Int)<(LB:Int)):=by omega
      have OE:Hid (af [] wc wr):=Xc.out.trans hU;clear hU q1 q2;go_wp2_with fail;refine (HBK.out wr OE.out).mono ?_;rintro e EW ⟨B2,F2,rfl,vU,dR,hH⟩;have A8:l9 F wL F2 EW:=(HR.out.stp.trans (l9.of0 OE.out)).trans dR;have EL:KU K B2:=⟨hH.vr,hH.pl,hH.hd,hH.den⟩;have ahv:Hid (B2.says refs Us=K.says refs Us):=EL.says HRF.out Us;have Z8:=pJ b B2 F2 refs _ oa ua oc un uc Us EW vU (by rw [Zv.out];exact (OT.out F2 EW A8).1) (fun r hr=>EL.tk vU.ok (HRF.out r hr)) (HX.out.row.keep0 (SY.out.2.trans A8).up) (fun x hx=>wf_u64 (HX.out.wf x hx)) (by rw [Zv.out];exact (show RN<=41 by rw [<- Zv.out];exact rF)) h60;rw [Zv.out] at Z8;have amW:=Lib.hid Z8;have HK2:=Lib.hid (And.intro vU (And.intro A8 hH))
      have amX:Hid (∀ z,af [] EW z->Calls Tryz.prog 33 #[.pointer (some ⟨b,0,none⟩)] z fun e w'=>e=.returned (.int .i64 Ll)/\w'=z):=fun z u=>by
       rw [<- QA.out,<- hH.used];exact qO b B2 F2 z (vU.upd u (by simp))
      have amY:Hid (∀ z,af [] EW z->Calls Tryz.prog 45 #[.pointer (some ⟨b,0,none⟩),.int .i64 n] z fun e w'=>e=.returned (.bool true)/\af [] z w'):=fun z u=>by
       rw [<- HK.out.2.1,<- hH.vr];exact ru b B2 F2 z (vU.upd u (by simp))
      have amZ:Hid (∀ z,af [] EW z->Calls Tryz.prog 43 #[.pointer (some ⟨b,0,none⟩)] z fun e w'=>∃ (g cap:Nat),e=.returned (.slice (some ⟨g,0,none⟩) n cap)/\w'.ownsRow z.heap.size 3 1 (.slice (some ⟨g,0,none⟩) n cap) n (aQ K.order)/\af [] z w'):=fun z u=>by
       have:=jC b B2 F2 z (vU.upd u (by simp))
       rw [hH.od,yC] at this;exact this
      clear Z8 vU A8 EL dR hH;go_wp2_with fail;refine amW.out.mono ?_;rintro e IL hE;obtain ⟨sd,sc3,rfl,ado,AB⟩:=hE.ex;rw [ahv.out,HLB.out] at ado;rw [ahv.out,HLB.out];have Pq:=Lib.hid (And.intro ado AB);clear hE ado AB;go_wp2_with fail;refine (amZ.out IL Pq.out.2).mono ?_;rintro e LM ⟨g4,cp4,rfl,ahw,RS⟩;have WY:Hid (af [] EW LM):=Pq.out.2.trans RS;have ahx:Hid (af [] IL LM):=RS;have HOC:=Lib.hid (yj _ _ (.slice (some ⟨g4,0,none⟩) n cp4) (.slice (some ⟨og,0,none⟩) n ocp) K.order LM (by rw [yC];exact ahw) (by rw [yC];exact (OT.out F2 LM (HK2.out.2.1.trans (l9.of0 WY.out))).2.2) (by rw [yC];omega));clear ahw RS;go_wp2_with fail;refine HOC.out.mono ?_;rintro e w14 ⟨rfl,adp⟩;have adq:Hid (af [] EW w14):=WY.out.trans adp;have ahy:Hid (af [] IL w14):=ahx.out.trans adp;clear adp;go_wp2_with fail;refine (amX.out w14 adq.out).mono ?_;rintro e am1 ⟨rfl,rfl⟩;go_wp2_with fail;refine (amY.out am1 adq.out).mono ?_;rintro e w15 ⟨rfl,adr⟩;have ahz:Hid (af [] EW w15):=adq.out.trans adr;have ahA:Hid (af [] IL w15):=ahy.out.trans adr
      have ahB:Hid (∀ z,af [] w15 z->z.ownsRow w3.heap.size 4 1 (.slice sa LB sc) LB (iM (K.says refs Us))/\z.ownsRow EW.heap.size 4 1 (.slice sd LB sc3) LB (iM (K.says refs Us))):=fun z u =>
       ⟨(OT.out F2 z (HK2.out.2.1.trans (l9.of0 (ahz.out.trans u)))).2.1,ai Pq.out.1 fun k hk=>(ahA.out.trans u).block k (Pq.out.1.lt k hk).2 (by simp)⟩
      clear adr;go_wp2_with fail
      go_loopg [291] LB (fun g s291 wr=>∃ i:Nat,LB-i=g/\i<=LB/\s291=.int .i64 i/\af [] w15 wr)
      case atStart=>exact ⟨0,by omega,by omega,rfl,af.refl _ _⟩
      case round =>
       obtain ⟨i,rfl,hi,rfl,hU⟩:=hrel;obtain ⟨q1,q2⟩:=ahB.out wr hU
       by_cases aW:i<LB
       ·obtain ⟨g1,rfl⟩:=bC q1 (by omega)
        obtain ⟨g2,rfl⟩:=bC q2 (by omega)
        have fF:(i:Int)<(LB:Int):=by omega
        have XJ:(K.says refs Us)[i]?=some ((K.says refs Us).getD i false):=by
         rw [List.getD_eq_getElem?_getD,List.getElem?_eq_getElem (by rw [HLB.out];exact aW)];rfl
        have x1:=au q1 (j:=i) (u:=.bool ((K.says refs Us).getD i false)) (by rw [iM,List.getElem?_map,XJ];rfl);have x2:=au q2 (j:=i) (u:=.bool ((K.says refs Us).getD i false)) (by rw [iM,List.getElem?_map,XJ];rfl);generalize (K.says refs Us).getD i false=bb at *;have HU:=Lib.hid hU;clear hU q1 q2 XJ
        cases bb with
        | false =>
         go_wp2_with fail
         go_quiet (fail)
         go_wp2_with fail
         go_roundg (LB-(i+1))
         case measure=>omega
         case rel=>exact ⟨i+1,rfl,by omega,by simp,HU.out.drewN _⟩
        | true =>
         go_wp2_with fail
         go_quiet (fail)
         go_wp2_with fail
         go_roundg (LB-(i+1))
         case measure=>omega
         case rel=>exact ⟨i+1,rfl,by omega,by simp,HU.out.drewN _⟩
       ·obtain rfl:LB=i:=by omega
        have fF:¬ ((LB:Int)<(LB:Int)):=by omega
        have Yx:Hid (af [] w wr):=((SY.out.2.trans HK2.out.2.1).trans (l9.of0 (ahz.out.trans hU))).up;clear hU q1 q2;go_wp2_with fail;go_ret;exact ⟨rfl,Yx.out⟩
  ·have amG:(60:Int)<(un:Int):=by omega
   go_wp2_with fail;go_ret;exact ⟨rfl,eF.out⟩
end Go.Proofs.YtfkopmhpppeheaaGreat
namespace Go.Proofs.YtfkopmhpppeheaaGreat
open Go.ChangeShapes Go.WideShapes Go.ChangeAt Go.RowKit
theorem KX:Tryz.prog.cellsOf 184=3:=by kernel_rfl
theorem ads {x:Int} (h:(Lit.int .u8 x).wf=true):∃ n:Nat,x=(n:Int)/\n<=255:=by
 have h1:0<=x/\x<=255:=by
  simp only [Lit.wf,Bool.and_eq_true,decide_eq_true_eq] at h
  have e1:IntKind.u8.min=0:=rfl;have e2:IntKind.u8.max=255:=rfl;omega
 exact ⟨x.toNat,by omega,by omega⟩
theorem Ou {H:Type} {enc:TypeId × Value->H} {W:World} {fuel:Nat} {cs:List Value} {x:DataW H × List MemPlace} (h:DataW.trod enc Tryz.prog W 0 (fun _=>true) true fuel 184 cs=some x) :
  ∃ (op:Nat) (a b:Int),cs=[.int .u8 op,.int .i64 a,.int .i64 b]/\op<=255:=by
 obtain ⟨ys,m,_,_,dG,hl,hf⟩:=Go.DataW.trod_struct Tryz.underlying184 h;rw [KX] at dG
 match cs,dG with
 | [c0,c1,c2],_ =>
  match ys,hl with
  | [y0,y1,y2],_ =>
   have h0:=hf 0 _ rfl;have h1:=hf 1 _ rfl;have h2:=hf 2 _ rfl
   simp [PK,adb] at h0 h1 h2
   obtain ⟨o,e0,_,hw⟩:=Go.DataW.trod_int Tryz.underlying5 h0;obtain ⟨a,e1,_,_⟩:=Go.DataW.trod_int Tryz.underlying3 h1;obtain ⟨b,e2,_,_⟩:=Go.DataW.trod_int Tryz.underlying3 h2
   simp at e0 e1 e2
   subst e0 e1 e2;obtain ⟨n,rfl,hn⟩:=ads hw;exact ⟨n,a,b,rfl,hn⟩
theorem lK.Zy {H:Type} {enc:TypeId × Value->H} {W:World} {fuel:Nat} {cs:List Value} {x:DataW H × List MemPlace} (h:DataW.trod enc Tryz.prog W 0 (fun _=>true) true fuel 103 cs=some x) :
  ∃ (a:Option Addr) (n c:Nat),cs=[.slice a n c]/\lK W a n:=by
 rcases Go.DataW.trod_slice Tryz.underlying103 h with ⟨rfl,_⟩ | ⟨a,len,cap,elems,rest,n,_,rfl,_,_,hl,hm,hlen,hel,_,_⟩
 ·exact ⟨none,0,0,rfl,Nat.zero_le _,fun i hi=>by omega⟩
 ·rw [KX] at hel
  refine ⟨some a,len,cap,rfl,by omega,fun i hi=>?_⟩;have h1:=hel i hi;rw [List.getElem?_eq_getElem (by omega)] at h1;obtain ⟨cs',hc,ht⟩:=Option.bind_eq_some_iff.1 h1;obtain ⟨op,A,B,rfl,ho⟩:=Ou ht;obtain ⟨_,h7,Xd⟩:=World.cells?_some hc;have c0:=Xd 0 (by rw [<- h7];simp);have c1:=Xd 1 (by rw [<- h7];simp);have c2:=Xd 2 (by rw [<- h7];simp)
  have ea:(a.add (i*3)).add 0=a.add (i*3):=by unfold Addr.add;simp
  rw [ea] at c0;exact ⟨a,op,A,B,rfl,ho,c0,c1,c2⟩
end Go.Proofs.YtfkopmhpppeheaaGreat
