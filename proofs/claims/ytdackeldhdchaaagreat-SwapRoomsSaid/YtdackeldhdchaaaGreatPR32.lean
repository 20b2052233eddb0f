import Derived.Test.YtdackeldhdchaaaGreatPR31
import Derived.Test.YtdackeldhdchaaaGreatPR30
set_option maxRecDepth 100000
set_option maxHeartbeats 3200000
namespace Go.Proofs.YtdackeldhdchaaaGreat
open Go.RowKit Go.Maps Go.ChangeMaps Go.WideShapes
structure Us (n room:Int) (tn ln:Nat) (Ts:List jH) (w:World) (e:Ending) (w':World):Prop where
 ex:∃ B:Bool,e=.returned (.bool B)/\af [] w w'/\(B=true->Nr n room tn ln Ts)
theorem Ns (n room:Int) (ta la:Option Addr) (tn tc ln lc:Nat) (Ts:List jH) (w:World) (h:lG w ta tn tc Ts) (SK:ln<=maxLen) :
  Calls Tryz.prog 12 #[.agg #[.int .i64 n,.int .i64 room,.slice ta tn tc,.slice la ln lc]] w fun e w'=>Us n room tn ln Ts w e w':=by
 have HT:=Lib.hid h;have yJ:tn<=maxLen:=Nat.le_trans h.nc h.cm;have HB:=Lib.hid (heap_alloc_new w (.cells #[.int .i64 n,.int .i64 room,.slice ta tn tc,.slice la ln lc] 25 (0,0)));obtain ⟨w0,kP⟩ : ∃ w0,w.alloc (.cells #[.int .i64 n,.int .i64 room,.slice ta tn tc,.slice la ln lc] 25 (0,0))=w0:=⟨_,rfl⟩
 have jY:af [] w w0:=by rw [<- kP];exact (af.refl _ _).alloc _
 rw [kP] at HB;have dR:=Lib.hid jY;have yL:=Lib.hid kP
 have Ju:Hid (∀ z,af [] w0 z->z.cell? ⟨w.heap.size,0,none⟩=some (.int .i64 n)/\z.cell? ⟨w.heap.size,1,none⟩=some (.int .i64 room)/\z.cell? ⟨w.heap.size,2,none⟩=some (.slice ta tn tc)/\z.cell? ⟨w.heap.size,3,none⟩=some (.slice la ln lc)):=fun z u=>by
  have hb:=(u.block _ (aj HB.out) (by simp)).trans HB.out;exact ⟨ae hb rfl,ae hb rfl,ae hb rfl,ae hb rfl⟩
 unfold maxLen at SK yJ;obtain ⟨x0,x1,x2,x3⟩:=Ju.out _ (af.refl _ _);clear h kP jY;obtain ⟨b1,rQ⟩ : ∃ b,decide (n<1)=b:=⟨_,rfl⟩;have H1:=Lib.hid rQ;obtain ⟨b2,dW⟩ : ∃ b,decide (8<n)=b:=⟨_,rfl⟩;have H2:=Lib.hid dW;obtain ⟨b3,FQ⟩ : ∃ b,decide (room<2)=b:=⟨_,rfl⟩;have H3:=Lib.hid FQ;obtain ⟨b4,DF⟩ : ∃ b,decide (1048576<room)=b:=⟨_,rfl⟩;have H4:=Lib.hid DF;obtain ⟨b5,Ba⟩ : ∃ b,decide (40<(tn:Int))=b:=⟨_,rfl⟩;have H5:=Lib.hid Ba;obtain ⟨b6,DI⟩ : ∃ b,decide (200<(ln:Int))=b:=⟨_,rfl⟩;have H6:=Lib.hid DI
 by_cases hbad:(b1||b2||b3||b4||b5||b6)=true
 ·have bM:∀ z,af [] w z->Us n room tn ln Ts w (.returned (.bool false)) z:=fun z u=>⟨false,rfl,u,fun h=>by cases h⟩
  have Dw:=Lib.hid bM;clear bM
  cases b1 <;> cases b2 <;> cases b3 <;> cases b4 <;> cases b5 <;> cases b6 <;> (first | (exact absurd hbad (by decide)) | (
   clear hbad
   go_enter Tryz.func12,Tryz.ntmps12
   go_upto_region 1 with fail;rw [yL.out];go_wp2_with fail;go_ret
   exact Dw.out _ dR.out))
 ·have hg:b1=false/\b2=false/\b3=false/\b4=false/\b5=false/\b6=false:=by
   simp only [Bool.or_eq_true,not_or,Bool.not_eq_true] at hbad
   exact ⟨hbad.1.1.1.1.1,hbad.1.1.1.1.2,hbad.1.1.1.2,hbad.1.1.2,hbad.1.2,hbad.2⟩
  obtain ⟨rfl,rfl,rfl,rfl,rfl,rfl⟩:=hg;clear hbad
  have H0:Hid ((1<=n/\n<=8)/\(2<=room/\room<=1048576)/\tn<=40/\ln<=200):=by
   have a1:=of_decide_eq_false H1.out;have a2:=of_decide_eq_false H2.out;have a3:=of_decide_eq_false H3.out;have a4:=of_decide_eq_false H4.out;have a5:=of_decide_eq_false H5.out;have a6:=of_decide_eq_false H6.out;exact ⟨⟨by omega,by omega⟩,⟨by omega,by omega⟩,by omega,by omega⟩
  have ahM:=H0.out.2.2.1;clear H1 H2 H3 H4 H5 H6 SK yJ
  go_enter Tryz.func12,Tryz.ntmps12
  go_upto_region 1 with fail;rw [yL.out];go_wp2_with fail;clear rQ dW FQ DF Ba DI
  go_loopg [38] tn (fun g s38 wr=>∃ i:Nat,tn-i=g/\i<=tn/\s38=.int .i64 i/\af [] w0 wr/\∀ j t,j<i->Ts[j]?=some t->t.n=n/\t.tv.Ok)
  case atStart=>exact ⟨0,by omega,by omega,rfl,af.refl _ _,fun j t hj=>by omega⟩
  case round =>
   obtain ⟨i,rfl,hi,rfl,hU,dY⟩:=hrel;have Jr:=Lib.hid dY;have HU:=Lib.hid hU;clear dY x0 x1 x2 x3
   by_cases aZ:i<tn
   ·have fE:(i:Int)<(tn:Int):=by omega
    obtain ⟨g,t,rfl,ht,c0,c1,hr⟩:=(HT.out.keep0 (dR.out.trans hU)).at_ i aZ;rw [Addr.add_succ' _ 0] at c1
    simp only [Nat.zero_add] at c1
    have Yq:=Lib.hid ht;obtain ⟨tN,Zn⟩ : ∃ tN,t.n=tN:=⟨_,rfl⟩;obtain ⟨tA,htA⟩ : ∃ tA,t.a=tA:=⟨_,rfl⟩;obtain ⟨tL,htL⟩ : ∃ tL,t.len=tL:=⟨_,rfl⟩;obtain ⟨tC,htC⟩ : ∃ tC,t.cap=tC:=⟨_,rfl⟩;rw [Zn] at c0;rw [htA,htL,htC] at c1 hr
    have HTV:Hid (TV.Ok ⟨tN.toNat,t.ws⟩->t.tv.Ok):=by rw [<- Zn];exact fun h=>h
    have HTN:=Lib.hid Zn;clear Zn htA htL htC ht;have bf:=heap_alloc_new wr (.cells #[.int .i64 tN,.slice tA tL tC] 121 (0,0));have nP:af [] wr (wr.alloc (.cells #[.int .i64 tN,.slice tA tL tC] 121 (0,0))):=(af.refl _ _).alloc _;obtain ⟨w6,DU⟩ : ∃ w6,wr.alloc (.cells #[.int .i64 tN,.slice tA tL tC] 121 (0,0))=w6:=⟨_,rfl⟩;rw [DU] at bf nP;have QU:=Lib.hid DU;have y0:w6.cell? ⟨wr.heap.size,0,none⟩=some (.int .i64 tN):=ae bf rfl;have y1:w6.cell? ⟨wr.heap.size,1,none⟩=some (.slice tA tL tC):=ae bf rfl;have x0:=(Ju.out w6 (HU.out.trans nP)).1;have Q7:=Lib.hid nP;have HR:=Lib.hid (hr.keep0 nP);clear hU hr DU bf nP
    by_cases hn:tN=n
    ·have hN:tN=((tN.toNat:Nat):Int):=by have h1:=H0.out.1;omega
     have HFM:=Lib.hid (Fp tN.toNat tA tL tC t.ws w6 (by have h1:=H0.out.1;omega) HR.out);have Ov:=Lib.hid hn;rw [<- hN] at HFM
     have E5:(tN != n)=false:=by rw [hn];simp
     clear hn hN;go_upto_region 6 with fail;rw [QU.out];go_wp2_with fail;refine HFM.out.mono ?_;rintro e w7 hE;obtain ⟨B,rfl,um,hB⟩:=hE.ex;have HB7:=Lib.hid (And.intro um hB);clear hE um hB;cases B
     ·go_wp2_with fail
      go_ret;exact ⟨false,rfl,dR.out.trans (HU.out.trans (Q7.out.trans HB7.out.1)),fun h=>by cases h⟩
     ·go_wp2_with fail
      go_roundg (tn-(i+1))
      case measure=>omega
      case rel =>
       refine ⟨i+1,rfl,by omega,by simp,HU.out.trans (Q7.out.trans HB7.out.1),fun j t' hj zB=>?_⟩
       by_cases Dv:j=i
       ·subst Dv
        rw [Yq.out] at zB
        injection zB with zB
        subst zB;exact ⟨HTN.out.trans Ov.out,HTV.out (HB7.out.2 (by simp))⟩
       ·exact Jr.out j t' (by omega) zB
    ·have E5:(tN != n)=true:=by simpa using hn
     clear hn;go_upto_region 6 with fail;rw [QU.out];go_wp2_with fail;go_ret;exact ⟨false,rfl,dR.out.trans (HU.out.trans Q7.out),fun h=>by cases h⟩
   ·obtain rfl:i=tn:=by omega
    have fE:¬ ((i:Int)<(i:Int)):=by omega
    clear hU;go_wp2_with fail;go_ret
    exact ⟨true,rfl,dR.out.trans HU.out,fun _=>⟨H0.out.1,H0.out.2.1,H0.out.2.2.1,H0.out.2.2.2,fun t ht=>by
     obtain ⟨j,hj⟩:=List.mem_iff_getElem?.1 ht;have hl:=(List.getElem?_eq_some_iff.1 hj).1;rw [HT.out.len] at hl
     exact Jr.out j t hl hj⟩⟩
theorem Ut {w:World} {g k:Nat} {C:Array Value} {t:TypeId} {fr:Nat × Nat} {n c:Nat} (h:w.heap[g]?=some (.cells C t fr)) (hk:(Value.slice (some ⟨g,0,none⟩) n c).ownBlock=some k):k<w.heap.size:=by
 have h1:g=k:=by simpa [Value.ownBlock] using hk
 subst h1;exact aj h
structure ChQ (w:World) (e:Ending) (w':World):Prop where
 ex:∃ g:Nat,e=.returned (.agg #[.int .i64 3,.slice (some ⟨g,0,none⟩) 1 1])/\w'.heap[g]?=some (.cells #[.int .u64 216] 90 (0,0))/\w.heap.size<=g/\af [] w w'
theorem Dp (w:World):Calls Tryz.prog 49 #[] w fun e w'=>ChQ w e w':=by
 have rQ:=heap_alloc_new (w.alloc (.cells #[.int .i64 3,.slice (some ⟨w.heap.size+1,0,none⟩) 1 1] 121 (0,0))) (.cells #[.int .u64 216] 90 (0,0));rw [World.size_alloc] at rQ
 have kC:((w.alloc (.cells #[.int .i64 3,.slice (some ⟨w.heap.size+1,0,none⟩) 1 1] 121 (0,0))).alloc (.cells #[.int .u64 216] 90 (0,0))).heap[w.heap.size]?=some (.cells #[.int .i64 3,.slice (some ⟨w.heap.size+1,0,none⟩) 1 1] 121 (0,0)) :=
  (Below.heap_alloc _ _ _ (aj (heap_alloc_new _ _))).trans (heap_alloc_new _ _)
 have z0:=ae (j:=0) kC rfl;have z1:=ae (j:=1) kC rfl;have hu:=((af.refl [] w).alloc (.cells #[.int .i64 3,.slice (some ⟨w.heap.size+1,0,none⟩) 1 1] 121 (0,0))).alloc (.cells #[.int .u64 216] 90 (0,0));have HE:Hid (ChQ w (.returned (.agg #[.int .i64 3,.slice (some ⟨w.heap.size+1,0,none⟩) 1 1])) _):=⟨_,rfl,rQ,Nat.le_succ _,hu⟩;clear kC rQ hu
 go_enter Tryz.func49,Tryz.ntmps49
 go_wp2_with fail;refine bodyPost_ret (v:=.agg #[.int .i64 3,.slice (some ⟨w.heap.size+1,0,none⟩) 1 1]) (by simp [results,Tryz.results49,go_sem,z0,z1]) rfl HE.out
theorem AU (w:World):Calls Tryz.prog 11 #[] w fun e w'=>e=.returned (.bool true)/\af [] w w':=by
 go_enter Tryz.func11,Tryz.ntmps11
 go_wp2_with fail;refine (Dp w).mono ?_;rintro e w1 hE;obtain ⟨g,rfl,hb,hg,fF⟩:=hE.ex;have dW:=heap_alloc_new w1 (.cells #[.int .i64 3,.slice (some ⟨g,0,none⟩) 1 1] 121 (0,0));have kY:af [] w1 (w1.alloc (.cells #[.int .i64 3,.slice (some ⟨g,0,none⟩) 1 1] 121 (0,0))):=(af.refl _ _).alloc _;obtain ⟨w2,eQ⟩ : ∃ w2,w1.alloc (.cells #[.int .i64 3,.slice (some ⟨g,0,none⟩) 1 1] 121 (0,0))=w2:=⟨_,rfl⟩;rw [eQ] at dW kY
 have hro:w2.ownsRow 0 90 1 (.slice (some ⟨g,0,none⟩) 1 1) 1 (dB [216]):=ah (w:=w1) ⟨rfl,.inr ⟨g,1,_,rfl,Nat.zero_le _,hb,Nat.le_refl _,by unfold maxLen;omega,rfl,rfl⟩⟩ fun k hk=>kY.block k (Ut hb hk) (by simp)
 have hT:fO w2 [] (.slice (some ⟨g,0,none⟩) 1 1) PN:=⟨MX,ng.of hro,by simp⟩
 have hL:nz w2 (.slice (some ⟨w1.heap.size,0,none⟩) 1 1) [PN]:=⟨some ⟨w1.heap.size,0,none⟩,1,rfl,by unfold maxLen;simp,fun i t ht=>by
  obtain rfl:i=0:=by have h1:=(List.getElem?_eq_some_iff.1 ht).1;simp at h1;omega
  simp at ht;subst ht
  exact ⟨_,_,rfl,(show w2.cell? ((⟨w1.heap.size,0,none⟩ : Addr).add (0*2))=some (.int .i64 (3:Nat)) from L6 (ae (j:=0) dW rfl)),IB (i:=0) (ae (j:=1) dW rfl),_,hT.any⟩⟩
 have X6:=Lib.hid (wL 3 10 _ [PN] none 0 0 [] w2 (by omega) (by omega) hL (by simp) (by intro t ht;simp at ht;subst ht;exact ⟨MX,rfl⟩) ⟨rfl,by unfold maxLen;omega,fun i hi=>by omega⟩ (by omega));have tY:=Lib.hid eQ;have dF:=Lib.hid (fF.trans kY);clear hT hro hL hb dW fF kY eQ hg;go_wp2_with fail;rw [tY.out];refine X6.out.mono ?_;rintro e w3 hE;obtain ⟨a,b,m,rv,tv,K,F,p,refs,rfl,hP,hl,_,pg,_,_,eu⟩:=hE.ex;have hM:(l9 3 10 [PN]).1.exchs []=JC:=rfl;rw [hM] at hP hl;obtain ⟨v1,v2,v3,v4,v5,v6,v7⟩:=MZ;obtain ⟨q1,q2,q3⟩:=Na;obtain ⟨MM,hMM⟩ : ∃ MM,JC=MM:=⟨_,rfl⟩;rw [hMM] at hP hl v1 v2 v3 v4 v5 v6 v7 q1 q2 q3;clear hMM hM;have HP:=Lib.hid (And.intro hP (And.intro hl.km pg));have jQ:=Lib.hid (dF.out.trans eu)
 have rO:Hid (∀ S z,af S w3 z->a∉S->z.cell? ⟨a,0,none⟩=some (.pointer (some ⟨b,0,none⟩))):=fun S z u h=>(u.cell (aj hP.blk) h).trans hP.cells.1
 have hRM:=Gx b 0 K F MM w3 hP.mem.ker hl.km (by omega);rw [v2,v3] at hRM;have Jv:=Lib.hid hRM;have a3:=rO.out [] w3 (af.refl _ _) (by simp);clear hE hP hl pg eu hRM X6;go_wp2_with fail;refine Jv.out.mono ?_;rintro e w4 ⟨rfl,xB⟩;have zA:=Lib.hid xB;have a4:=rO.out [] w4 xB (by simp);clear xB a3;go_wp2_with fail;have SA:=HP.out.1.mem.ker.upd zA.out (by simp);refine (Md b 0 K F MM w4 SA HP.out.2.1 (by omega)).mono ?_;rintro e w5 hE;obtain ⟨K5,F5,rfl,Qn,hm5,X7,Uu⟩:=hE.ex;rw [v4,v5];unfold Zc;have nU:af F w3 w5:=(zA.out.mono (by simp):af F w3 w4).trans Uu.up;have bf:=heap_alloc_new w5 (.cells #[.int .i64 0,.int .i64 3,.int .i64 4] 46 (0,0));have KU:af [] w5 (w5.alloc (.cells #[.int .i64 0,.int .i64 3,.int .i64 4] 46 (0,0))):=(af.refl _ _).alloc _;have RN:=Lib.hid HP.out.1.na.1;have a6:=rO.out F (w5.alloc (.cells #[.int .i64 0,.int .i64 3,.int .i64 4] 46 (0,0))) (nU.trans (KU.mono (by simp))) RN.out;have JD:=Lib.hid (And.intro Qn (And.intro hm5 (And.intro X7 (And.intro Uu (And.intro nU bf)))));clear hE Qn hm5 X7 Uu SA a4 nU bf KU;obtain ⟨w6,DU⟩ : ∃ w6,w5.alloc (.cells #[.int .i64 0,.int .i64 3,.int .i64 4] 46 (0,0))=w6:=⟨_,rfl⟩;have QU:=Lib.hid DU
 have nP:af [] w5 w6:=by rw [<- DU];exact (af.refl _ _).alloc _
 have DI:=JD.out.2.2.2.2.2;rw [DU] at a6 DI;have Q7:=Lib.hid (And.intro nP DI);have hBK:=PM b 0 K5 F5 (MM.exch 0) w6 (JD.out.1.upd nP (by simp)) JD.out.2.1 (by omega) (by omega);rw [show (((0:Nat):Int))=0 from rfl] at hBK;have Xm:=Lib.hid hBK;clear DU nP DI hBK;go_upto_region 6 with fail;rw [QU.out];go_wp2_with fail;refine Xm.out.mono ?_;rintro e w7 hE;obtain ⟨K7,F7,rfl,Ue,hm7,X8,Uw⟩:=hE.ex;rw [v6] at hm7 ⊢
 have um:af F w3 w7:=((JD.out.2.2.2.2.1.trans (Q7.out.1.mono (by simp))).then Uw.up fun k hk=>by
  rcases JD.out.2.2.2.1.sub k hk with h | h
  ·exact .inl h
  ·exact .inr (Nat.le_trans zA.out.size h))
 have a7:=rO.out F w7 um RN.out;have DV:=Lib.hid (And.intro Ue (And.intro hm7 (And.intro X8 (And.intro Uw um))));clear hE Ue hm7 X8 Uw um a6 Xm;have KD:=heap_alloc_new w7 (.cells #[.int .i64 0,.int .i64 1] 3 (0,0));have L9:af [] w7 (w7.alloc (.cells #[.int .i64 0,.int .i64 1] 3 (0,0))):=(af.refl _ _).alloc _;obtain ⟨w8,TQ⟩ : ∃ w8,w7.alloc (.cells #[.int .i64 0,.int .i64 1] 3 (0,0))=w8:=⟨_,rfl⟩;rw [TQ] at KD L9;have HW8:=Lib.hid TQ
 have hro:wG w8 .i64 (some ⟨w7.heap.size,0,none⟩) 2 [0,1]:=⟨rfl,by unfold maxLen;omega,fun i hi=>⟨_,rfl,by
  rcases (show i=0\/i=1 by omega) with rfl | rfl
  ·exact ae KD rfl
  ·exact ae KD rfl⟩⟩
 have hPL:=II b (some ⟨w7.heap.size,0,none⟩) 2 2 [0,1] K7 F7 (MV.backN (1-0) (MM.exch 0)) w8 (DV.out.1.upd L9 (by simp)) DV.out.2.1 (by rw [show (1-0:Nat)=1 from rfl,q1];omega) hro (by omega) (fun x hx hm=>by
  injection hx with hx
  subst hx;have:=DV.out.1.lt _ hm
  exact absurd this (Nat.lt_irrefl _))
 have HPL:=Lib.hid hPL;have NY:=Lib.hid L9;clear TQ KD L9 hro hPL;go_upto_region 7 with fail;go_wp2_with fail;rw [HW8.out];refine HPL.out.mono ?_;rintro e w9 hE;obtain ⟨v9,K9,F9,rfl,Fq,_,hK9,_,_,Ux⟩:=hE.ex;rw [show (1-0:Nat)=1 from rfl,q3] at Fq;rw [show (1-0:Nat)=1 from rfl,q2];obtain ⟨o9,c9,rfl,_⟩:=aC Fq;obtain ⟨g9,rfl⟩:=bY Fq (by decide);have d0:w9.cell? ⟨g9,3,none⟩=some (.int .i64 1):=ax Fq rfl;have d1:w9.cell? ⟨g9,4,none⟩=some (.int .i64 4):=ax Fq rfl;have d2:w9.cell? ⟨g9,5,none⟩=some (.int .i64 5):=ax Fq rfl
 have hn5:w5.heap.size∉F5:=fun hm=>by have:=JD.out.1.lt _ hm;omega
 have hl5:=aj Q7.out.2
 have hn7:w5.heap.size∉F7:=fun hm=>by
  rcases DV.out.2.2.2.1.sub _ hm with h | h
  ·exact hn5 h
  ·omega
 have G8:=(DV.out.2.2.2.1.up.block _ hl5 hn5).trans Q7.out.2;have KD:=(NY.out.block _ (aj G8) (by simp)).trans G8;have NW:=(Ux.up.block _ (aj KD) hn7).trans KD;have e0:=ae (j:=0) NW rfl;have e1:=ae (j:=1) NW rfl;have e2:=ae (j:=2) NW rfl
 have mP:Hid (af [] w w9):=by
  have h7:af F w3 w9:=(DV.out.2.2.2.2.trans (NY.out.mono (by simp))).then Ux.up fun k hk=>by
   rcases DV.out.2.2.2.1.sub k hk with h | h
   ·rcases JD.out.2.2.2.1.sub k h with h | h
    ·exact .inl h
    ·exact .inr (Nat.le_trans zA.out.size h)
   ·exact .inr (Nat.le_trans (Nat.le_trans zA.out.size (Nat.le_trans JD.out.2.2.2.1.up.size Q7.out.1.size)) h)
  exact jQ.out.then h7 fun k hk=>.inr (by
   have h1:=HP.out.1.lo k (.inl hk);have h2:=dF.out.size
   omega)
 clear hE Fq hK9 Ux hn5 hl5 hn7 G8 KD NW a7;go_wp2_with fail;go_ret;exact ⟨rfl,mP.out⟩
theorem nz.of_scene {w:World} {ta:Option Addr} {tn tc:Nat} {Ts:List jH} {n:Nat} (h:lG w ta tn tc Ts) (hf:∀ t,t∈Ts->t.n=(n:Int)/\t.tv.Ok):nz w (.slice ta tn tc) (Ts.map jH.tv):=by
 have hl:(Ts.map jH.tv).length=tn:=by rw [List.length_map,h.len]
 refine ⟨ta,tc,by rw [hl],by rw [hl];exact Nat.le_trans h.nc h.cm,fun i t ht=>?_⟩;have hi:=(List.getElem?_eq_some_iff.1 ht).1;rw [hl] at hi;obtain ⟨g,r,e1,hr,c0,c1,aB⟩:=h.at_ i hi;rw [List.getElem?_map,hr] at ht
 injection ht with ht
 subst ht;obtain ⟨hn,dY⟩:=hf r (List.mem_of_getElem? hr);have Vl:r.tv.ws.length=r.len:=aB.row.len
 have xR:0<r.len:=by rw [<- Vl,dY.len];exact oU _
 obtain ⟨x,hx,_⟩:=aB.row.at_ 0 xR
 have E5:r.n=((r.tv.n:Nat):Int):=by show r.n=((r.n.toNat:Nat):Int);omega
 refine ⟨g,.slice r.a r.len r.cap,e1,by rw [c0,E5],c1,w.heap.size,⟨dY,⟨⟨r.a,r.cap,by rw [Vl],.inr ⟨x,hx⟩⟩,fun y n' m e j u hj=>?_,fun k hk=>?_,fun k hk=>.inr ⟨⟨_,List.mem_singleton.2 rfl⟩,fun z hz=>?_⟩⟩,fun k hk hm=>?_⟩⟩
 ·injection e with e _ _
  rw [dB,List.getElem?_map] at hj;obtain ⟨v,hv,rfl⟩:=Option.map_eq_some_iff.1 hj;have JA:=(List.getElem?_eq_some_iff.1 hv).1
  have JA:j<r.len:=by omega
  obtain ⟨x',O1,hc⟩:=aB.row.at_ j JA;rw [O1] at e
  injection e with e
  subst e;rw [hc];have hv':r.ws[j]?=some v:=hv;rw [List.getD_eq_getElem?_getD,hv'];rfl
 all_goals
  have U5:k<w.heap.size:=by
   obtain ⟨x',O1,hc⟩:=aB.row.at_ 0 xR;rw [O1] at hk
   have hb:x'.block=k:=by simpa [Value.ownBlock] using hk
   rw [<- hb];have:=World.block_lt_of_cell? _ _ hc
   rwa [zh] at this
 ·exact ⟨Nat.zero_le _,U5⟩
 ·rw [List.mem_singleton.1 hz];exact U5
 ·rw [List.mem_singleton.1 hm] at U5
  omega
theorem wV (n room:Int) (ta la:Option Addr) (tn tc ln lc:Nat) (Ts:List jH) (Ls:List Int) (w:World) (h:AQ w ta la tn tc ln lc Ts Ls) :
  Calls Tryz.prog 4 #[.agg #[.int .i64 n,.int .i64 room,.slice ta tn tc,.slice la ln lc]] w fun e w'=>e=.returned (.bool true)/\af [] w w':=by
 have HS:=Lib.hid h;have UQ:ln<=maxLen:=Nat.le_trans h.ls.nc h.ls.cm
 have RV:Hid (∀ z,af [] w z->Calls Tryz.prog 12 #[.agg #[.int .i64 n,.int .i64 room,.slice ta tn tc,.slice la ln lc]] z fun e w'=>Us n room tn ln Ts z e w'):=fun z u=>Ns n room ta la tn tc ln lc Ts z (h.ts.keep0 u) UQ
 have kC:=heap_alloc_new w (.cells #[.int .i64 n,.int .i64 room,.slice ta tn tc,.slice la ln lc] 25 (0,0));have jY:af [] w (w.alloc (.cells #[.int .i64 n,.int .i64 room,.slice ta tn tc,.slice la ln lc] 25 (0,0))):=(af.refl _ _).alloc _;obtain ⟨w0,kP⟩ : ∃ w0,w.alloc (.cells #[.int .i64 n,.int .i64 room,.slice ta tn tc,.slice la ln lc] 25 (0,0))=w0:=⟨_,rfl⟩;rw [kP] at kC jY;have yL:=Lib.hid kP;have dR:=Lib.hid jY
 have HC:Hid (∀ z,af [] w0 z->z.cell? ⟨w.heap.size,0,none⟩=some (.int .i64 n)/\z.cell? ⟨w.heap.size,1,none⟩=some (.int .i64 room)/\z.cell? ⟨w.heap.size,2,none⟩=some (.slice ta tn tc)/\z.cell? ⟨w.heap.size,3,none⟩=some (.slice la ln lc)):=fun z u=>⟨u.cell0 (ae kC rfl),u.cell0 (ae kC rfl),u.cell0 (ae kC rfl),u.cell0 (ae kC rfl)⟩
 clear h UQ kC jY kP
 go_enter Tryz.func4,Tryz.ntmps4
 go_wp2_with fail;rw [yL.out];refine (AU w0).mono ?_;rintro e w1 ⟨rfl,hu⟩;have iH:=Lib.hid hu;obtain ⟨x0,x1,x2,x3⟩:=HC.out w1 hu;clear hu;go_wp2_with fail;refine (RV.out w1 (dR.out.trans iH.out)).mono ?_;rintro e w2 hE;obtain ⟨B,rfl,hu,hB⟩:=hE.ex;have HB:=Lib.hid hB;have dF:=Lib.hid (iH.out.trans hu);obtain ⟨x0,x1,x2,x3⟩:=HC.out w2 dF.out;clear hE hu hB
 cases B with
 | false =>
  go_wp2_with fail;go_ret;exact ⟨rfl,dR.out.trans dF.out⟩
 | true =>
  have hf:=HB.out rfl;obtain ⟨N,hN⟩ : ∃ N:Nat,n=(N:Int):=⟨n.toNat,by have:=hf.n1;omega⟩;obtain ⟨R,hR⟩ : ∃ R:Nat,room=(R:Int):=⟨room.toNat,by have:=hf.room;omega⟩;subst hN hR
  have Y7:1<=N/\N<=8:=by have:=hf.n1;omega
  have hr8:2<=R/\R<=1048576:=by have:=hf.room;omega
  have X6:=Lib.hid (wL N R (.slice ta tn tc) (Ts.map jH.tv) la ln lc Ls w2 Y7 hr8 (nz.of_scene (HS.out.ts.keep0 (dR.out.trans dF.out)) hf.ok) (by rw [List.length_map,HS.out.ts.len];exact hf.tn) (fun t ht=>by
   obtain ⟨r,hr,rfl⟩:=List.mem_map.1 ht;obtain ⟨h1,h2⟩:=hf.ok r hr
   exact ⟨h2,by show r.n.toNat=N;omega⟩) (HS.out.ls.row.keep0 (dR.out.trans dF.out)) hf.ln)
  obtain ⟨hN1,hN8⟩:=Y7;clear hf hr8;go_wp2_with fail;refine X6.out.mono ?_;rintro e w3 hE;obtain ⟨a,b,m,rv,tv,K,F,p,refs,rfl,hP,hL,_,pg,_,_,hu⟩:=hE.ex;generalize (l9 N R (Ts.map jH.tv)).1.exchs Ls=M at *;generalize (l9 N R (Ts.map jH.tv)).2=tabs at *;have HP:=Lib.hid (And.intro hP hL);have jQ:=Lib.hid (dF.out.trans hu);obtain ⟨y0,_,_,_⟩:=HC.out w3 jQ.out
  have HDO:Hid (∀ (z:World) (l:Int),af [] w3 z->Calls Tryz.prog 16 #[.pointer (some ⟨a,0,none⟩),.agg #[.int .i64 4,.int .i64 l,.slice none 0 0]] z fun e w'=>e=.returned (.bool true)/\af [] z w'):=fun z l u=>yu _ a b m rv tv K F M p refs tabs l none 0 0 z (hP.keep0 u) hL
  have Js:Hid (∀ z:World,af [] w3 z->Calls Tryz.prog 15 #[.pointer (some ⟨a,0,none⟩)] z fun e w'=>e=.returned (.bool true)/\af [] z w'):=fun z u=>yt _ a b m rv tv K F M p refs tabs z (hP.keep0 u) hL
  clear hE hP hL pg hu x0 x1 x2 x3 X6 RV;go_wp2_with fail
  go_loopg [5] (N+2) (fun g s5 wr=>∃ i:Nat,N+2-i=g/\i<=N+2/\s5=.int .i64 ((i:Int)-1)/\af [] w3 wr)
  case atStart=>exact ⟨0,by omega,by omega,by simp,af.refl _ _⟩
  case round =>
   obtain ⟨i,rfl,hi,rfl,hU⟩:=hrel;have HU:=Lib.hid hU;obtain ⟨z0,_,_,_⟩:=HC.out wr (jQ.out.trans hU);obtain ⟨li,YV⟩ : ∃ li:Int,(i:Int)-1=li:=⟨_,rfl⟩;have PO:=Lib.hid YV;rw [YV];clear hU y0 YV
   by_cases aZ:i<N+2
   ·have hd:decide (li<=(N:Int))=true:=by have:=PO.out;simp;omega
    have qF:li<=(N:Int):=by have:=PO.out;omega
    have Bf:IntKind.i64.wrap (li+1)=li+1:=IntWalk.i64_in _ (by have:=PO.out;omega);have HD:=Lib.hid (HDO.out wr li HU.out);go_wp2_with fail;refine HD.out.mono ?_;rintro e w4 ⟨rfl,hu⟩;have zA:=Lib.hid (HU.out.trans hu);clear hu;go_wp2_with fail;refine (Js.out w4 zA.out).mono ?_;rintro e w5 ⟨rfl,hu⟩;have DC:=Lib.hid (zA.out.trans hu);clear hu;go_wp2_with fail
    go_roundg (N+2-(i+1))
    case measure=>omega
    case rel=>exact ⟨i+1,rfl,by omega,by have:=PO.out;first | (simp;omega) | (congr 1;omega),DC.out⟩
   ·have hd:decide (li<=(N:Int))=false:=by have:=PO.out;simp;omega
    have qF:¬ (li<=(N:Int)):=by have:=PO.out;omega
    go_wp2_with fail;go_ret;exact ⟨rfl,dR.out.trans (jQ.out.trans HU.out)⟩
end Go.Proofs.YtdackeldhdchaaaGreat
