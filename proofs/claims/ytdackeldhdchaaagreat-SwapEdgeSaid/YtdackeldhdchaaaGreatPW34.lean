import Derived.Test.YtdackeldhdchaaaGreatPW32
import Derived.Test.YtdackeldhdchaaaGreatPW33
set_option maxRecDepth 100000
set_option maxHeartbeats 6400000
namespace Go.Proofs.YtdackeldhdchaaaGreat
open Go.RowKit Go.Maps Go.ChangeMaps Go.WideShapes
theorem PS.stands {w:World} {n0 a b m n:Nat} {rv tv:Value} {M:MV} {refs:List Nat} {tabs:List TV} (h:PS w n0 a b m n rv tv M refs tabs) :
  Calls Tryz.prog 15 #[.pointer (some ⟨a,0,none⟩)] w fun e w'=>e=.returned (.bool true)/\Upd [] w w':=by
 obtain ⟨K,F,p,h1,h2,_,_⟩:=h.ex;exact akt n0 a b m rv tv K F M p refs tabs w h1 h2
theorem PS.trail {w:World} {n0 a b m n:Nat} {rv tv:Value} {M:MV} {refs:List Nat} {tabs:List TV} (h:PS w n0 a b m n rv tv M refs tabs) :
  ∃ (xa:Option Addr) (xc:Nat),∀ z,Upd [] w z->z.cell? ⟨a,1,none⟩=some (.pointer (some ⟨m,0,none⟩))/\z.cell? ⟨m,4,none⟩=some (.slice xa M.trail.length xc):=by
 obtain ⟨K,F,p,h1,h2,_,_⟩:=h.ex;obtain ⟨xa,xc,hxv,_⟩:=aar h1.mem.mod.ts;obtain ⟨_,_,_,_,c4⟩:=h1.mem.mod.cells;rw [hxv] at c4;obtain ⟨_,a1,_,_⟩:=h1.cells;exact ⟨xa,xc,fun z u=>⟨u.cell0 a1,u.cell0 c4⟩⟩
theorem akv (n room:Int) (ta la:Option Addr) (tn tc ln lc:Nat) (Ts:List adt) (Ls:List Int) (l:Int) (w:World) (h:al2 w ta la tn tc ln lc Ts Ls) :
  Calls Tryz.prog 5 #[.agg #[.int .i64 n,.int .i64 room,.slice ta tn tc,.slice la ln lc],.int .i64 l] w fun e w'=>e=.returned (.bool true)/\Upd [] w w':=by
 have HS:=Lib.hid h;have hlm:ln<=maxLen:=Nat.le_trans h.ls.nc h.ls.cm
 have HFT:Hid (∀ z,Upd [] w z->Calls Tryz.prog 12 #[.agg #[.int .i64 n,.int .i64 room,.slice ta tn tc,.slice la ln lc]] z fun e w'=>ax7 n room tn ln Ts z e w'):=fun z u=>atg n room ta la tn tc ln lc Ts z (h.ts.keep0 u) hlm
 have hb0:=heap_alloc_new w (.cells #[.int .i64 n,.int .i64 room,.slice ta tn tc,.slice la ln lc] 25 (0,0));have hu0:Upd [] w (w.alloc (.cells #[.int .i64 n,.int .i64 room,.slice ta tn tc,.slice la ln lc] 25 (0,0))):=(Upd.refl _ _).alloc _;obtain ⟨w0,hw0⟩ : ∃ w0,w.alloc (.cells #[.int .i64 n,.int .i64 room,.slice ta tn tc,.slice la ln lc] 25 (0,0))=w0:=⟨_,rfl⟩;rw [hw0] at hb0 hu0;have HW0:=Lib.hid hw0;have HU0:=Lib.hid hu0
 have HBL:Hid (∀ z,Upd [] w0 z->z.heap[w.heap.size]?=some (.cells #[.int .i64 n,.int .i64 room,.slice ta tn tc,.slice la ln lc] 25 (0,0))):=fun z u=>(u.block _ (aak hb0) (by simp)).trans hb0
 have HC:Hid (∀ z,Upd [] w0 z->z.cell? ⟨w.heap.size,0,none⟩=some (.int .i64 n)/\z.cell? ⟨w.heap.size,1,none⟩=some (.int .i64 room)/\z.cell? ⟨w.heap.size,2,none⟩=some (.slice ta tn tc)/\z.cell? ⟨w.heap.size,3,none⟩=some (.slice la ln lc)):=fun z u=>⟨u.cell0 (aab hb0 rfl),u.cell0 (aab hb0 rfl),u.cell0 (aab hb0 rfl),u.cell0 (aab hb0 rfl)⟩
 clear h hlm hb0 hu0 hw0
 go_enter Tryz.func5,Tryz.ntmps5
 go_wp2_with fail;rw [HW0.out];refine (al3 w0).mono ?_;rintro e w1 ⟨rfl,hu⟩;have HU1:=Lib.hid hu;obtain ⟨x0,x1,x2,x3⟩:=HC.out w1 hu;clear hu;go_wp2_with fail;refine (HFT.out w1 (HU0.out.trans HU1.out)).mono ?_;rintro e w2 hE;obtain ⟨B,rfl,hu,hB⟩:=hE.ex;have HB:=Lib.hid hB;have HU2:=Lib.hid (HU1.out.trans hu);clear hE hu hB x0 x1 x2 x3
 cases B with
 | false =>
  go_wp2_with fail;go_ret;exact ⟨rfl,HU0.out.trans HU2.out⟩
 | true =>
  have hf:=HB.out rfl;obtain ⟨N,hN⟩ : ∃ N:Nat,n=(N:Int):=⟨n.toNat,by have:=hf.n1;omega⟩;subst hN
  have hn8:1<=N/\N<=8:=by have:=hf.n1;omega
  have hbl:=HBL.out w2 HU2.out;have hb3:=aat (j:=1) hbl (.int .i64 4096);have x1:w2.cell? ⟨w.heap.size,1,none⟩=some (.int .i64 room):=aab hbl rfl;have f1:=aal 1 hbl;have hu3:Upd [] w (w2.setCell ⟨w.heap.size,1,none⟩ (.int .i64 4096)):=(HU0.out.trans HU2.out).setCell (p:=⟨w.heap.size,1,none⟩) (.inr (Nat.le_refl _)) _;obtain ⟨w3,hw3⟩ : ∃ w3,w2.setCell ⟨w.heap.size,1,none⟩ (.int .i64 4096)=w3:=⟨_,rfl⟩;rw [hw3] at hb3 hu3;have HW3:=Lib.hid hw3;have HU3:=Lib.hid hu3
  have HC3:Hid (∀ z,Upd [] w3 z->z.cell? ⟨w.heap.size,0,none⟩=some (.int .i64 N)/\z.cell? ⟨w.heap.size,1,none⟩=some (.int .i64 4096)/\z.cell? ⟨w.heap.size,2,none⟩=some (.slice ta tn tc)/\z.cell? ⟨w.heap.size,3,none⟩=some (.slice la ln lc)):=fun z u=>by
   have h1:=(u.block _ (aak hb3) (by simp)).trans hb3;exact ⟨aab h1 rfl,aab h1 rfl,aab h1 rfl,aab h1 rfl⟩
  have hBG:=agk N 4096 (.slice ta tn tc) (Ts.map adt.tv) la ln lc Ls w3 hn8 (by omega) (aea.of_scene (HS.out.ts.keep0 hu3) hf.ok) (by rw [List.length_map,HS.out.ts.len];exact hf.tn) (fun t ht=>by
   obtain ⟨r,hr,rfl⟩:=List.mem_map.1 ht;obtain ⟨h1,h2⟩:=hf.ok r hr
   exact ⟨h2,by show r.n.toNat=N;omega⟩) (HS.out.ls.row.keep0 hu3) hf.ln
  rw [show ((4096:Nat):Int)=4096 from rfl] at hBG;have HBG:=Lib.hid hBG
  have hls:Ls.length<=200:=by rw [HS.out.ls.row.len];exact hf.ln
  have HLS:=Lib.hid hls;obtain ⟨hN1,hN8⟩:=hn8;clear hf hbl hb3 hu3 hw3 hBG hls;go_upto_region 6 with fail;rw [HW3.out];obtain ⟨c0,c1,c2,c3⟩:=HC3.out w3 (Upd.refl _ _);clear x1 f1;go_wp2_with fail;refine HBG.out.mono ?_;rintro e w4 hE;obtain ⟨a,b,m,rv,tv,K,F,p,refs,rfl,hP,hL,hPC,hvr,aBr,htl,hu⟩:=hE.ex;obtain ⟨ra,rc,rfl,_⟩:=aar hP.mem.rr;obtain ⟨xa,xc,rfl,_⟩:=hP.mem.tt.form;obtain ⟨hHD,hNN,_,_⟩:=akZ N 4096 (Ts.map adt.tv);have hsm:=ajI Ls (acV N 4096 (Ts.map adt.tv)).1;have awv:((acV N 4096 (Ts.map adt.tv)).1.exchs Ls).held=agl (acV N 4096 (Ts.map adt.tv)).2:=hsm.1.trans hHD;clear hHD hNN hsm;generalize (acV N 4096 (Ts.map adt.tv)).1.exchs Ls=M at *;generalize (acV N 4096 (Ts.map adt.tv)).2=tabs at *;have HP:=Lib.hid (And.intro hP (And.intro hL (And.intro hPC (And.intro hvr (And.intro aBr (And.intro (Nat.le_trans htl HLS.out) awv))))));have HU4:=Lib.hid hu;have HUW:=Lib.hid (HU3.out.trans hu);obtain ⟨a0,a1,_,_⟩:=hP.cells;have HDR:=Lib.hid (alT m l M p _ w4 hP.mem.mod hP.mem.z hL.km.fit (hL.km.len hP.mem.ker.ok))
  have hMn:M.n=N:=by have:=hL.km.agr.same.n;omega
  have HMN:=Lib.hid hMn;clear hE hP hL hPC hvr aBr htl hu awv hMn HBG HFT c0 c1 c2 c3
  by_cases hr:l<0\/(M.n:Int)-2<l
  ·have e1:M.roomV l=(0,0,1):=if_pos hr
   have e2:M.exchE l=1:=if_pos hr;rw [e1] at HDR;have HTK:=Lib.hid (ajB b l K F M);have HE2:=Lib.hid e2;clear hr e1 e2;go_wp2_with fail;refine HDR.out.mono ?_;rintro e w5 ⟨rfl,hu⟩;have HU5:=Lib.hid hu;have d0:=hu.cell0 a0;clear hu a0 a1;go_wp2_with fail;refine (HTK.out w5 (HP.out.1.mem.ker.upd HU5.out (by simp)) HP.out.2.1.km (by have:=HP.out.2.2.2.2.2.1;omega)).mono ?_;rintro e w6 hE;obtain ⟨K',F',rfl,hK6,hm6,hs6,hp6⟩:=hE.ex;rw [HE2.out];unfold chV
   have agG:Hid (∀ z,Upd [] w6 z->Upd [] w z):=fun z u =>
    ((HUW.out.trans HU5.out).then hp6.up fun k hk=>.inr (by
     have h1:=HP.out.1.lo k (.inl hk);have h2:=HU3.out.size
     omega)).trans u
   clear hE hK6 hm6 hs6 hp6 d0;generalize M.tryV l=tv1 at *;go_wp2_with fail;go_ret;exact ⟨rfl,agG.out _ ((Upd.refl _ _).alloc _)⟩
  ·have e1:M.roomV l=(((M.U l.toNat:Nat):Int),(M.c:Int)-2,0):=if_neg hr
   rw [e1] at HDR;have hUs:=MV.U_small HP.out.2.2.2.2.1 (by have:=HP.out.2.1.km.fit.ol;exact this) l.toNat;have HRG:=Lib.hid (show ¬ (l<0\/(N:Int)-2<l) by rw [<- HMN.out];exact hr);clear e1 hr;obtain ⟨U,hU⟩ : ∃ U,M.U l.toNat=U:=⟨_,rfl⟩;have HUU:=Lib.hid hU;rw [hU] at HDR hUs;obtain ⟨c2v,aBs⟩ : ∃ c2v:Int,(M.c:Int)-2=c2v:=⟨_,rfl⟩;rw [aBs] at HDR;clear hU aBs;obtain ⟨uI,huI⟩ : ∃ uI:Int,(U:Int)=uI:=⟨_,rfl⟩;have HUI:=Lib.hid huI;rw [huI] at HDR;have hw2:IntKind.i64.wrap (uI+2)=uI+2:=IntWalk.i64_in _ (by omega);have hw1:IntKind.i64.wrap (uI+1)=uI+1:=IntWalk.i64_in _ (by omega);have aLv:wrap64 (uI+2)=uI+2:=IntWalk.wrap64_in _ (by omega);have aLw:wrap64 (uI+1)=uI+1:=IntWalk.wrap64_in _ (by omega);clear huI;go_wp2_with fail;refine HDR.out.mono ?_;rintro e w5 ⟨rfl,hu⟩;have HU5:=Lib.hid hu;clear hu a0 a1;have hbL:=heap_alloc_new w5 (.cells #[.int .i64 (uI+2),.int .i64 (uI+1)] 3 (0,0));have huL:Upd [] w5 (w5.alloc (.cells #[.int .i64 (uI+2),.int .i64 (uI+1)] 3 (0,0))):=(Upd.refl _ _).alloc _;obtain ⟨wL,hwL⟩ : ∃ wL,w5.alloc (.cells #[.int .i64 (uI+2),.int .i64 (uI+1)] 3 (0,0))=wL:=⟨_,rfl⟩;rw [hwL] at hbL huL;have HWL:=Lib.hid hwL;have HUL:=Lib.hid (HU5.out.trans huL)
   have aFO:Hid (∀ z,Upd [] wL z->z.heap[w5.heap.size]?=some (.cells #[.int .i64 (uI+2),.int .i64 (uI+1)] 3 (0,0))):=fun z u=>(u.block _ (aak hbL) (by simp)).trans hbL
   clear hwL hbL huL;go_upto_region 14 with fail;rw [HWL.out]
   go_loopg [61] 2 (fun g s61 wr=>∃ i:Nat,2-i=g/\i<=2/\s61=.int .i64 i/\Upd [] wL wr)
   case atStart=>exact ⟨0,by omega,by omega,rfl,Upd.refl _ _⟩
   case round =>
    obtain ⟨i,rfl,hi,rfl,hU⟩:=hrel;have HU:=Lib.hid hU;clear hU
    by_cases hlt:i<2
    ·have hil:(i:Int)<2:=by omega
     obtain ⟨N1,avd⟩ : ∃ N1,U+2-i=N1:=⟨_,rfl⟩;obtain ⟨xI,hxI⟩ : ∃ xI:Int,(N1:Int)=xI:=⟨_,rfl⟩;have HX:=Lib.hid (And.intro avd hxI)
     have y0:wr.cell? ⟨w5.heap.size,i,none⟩=some (.int .i64 xI):=by
      have h1:=aFO.out wr HU.out
      rcases (show i=0\/i=1 by omega) with rfl | rfl
      ·rw [aab (j:=0) h1 rfl,<- hxI,<- avd,<- HUI.out];simp
      ·rw [aab (j:=1) h1 rfl,<- hxI,<- avd,<- HUI.out]
       simp
     clear avd hxI
     by_cases h2:xI<2
     ·go_wp2_with fail
      go_roundg (2-(i+1))
      case measure=>omega
      case rel=>exact ⟨i+1,rfl,by omega,by simp,HU.out⟩
     ·have hx1:2<=N1/\N1<=1048576:=by have h1:=HX.out.1;have h2:=HX.out.2;omega
      have hPr:=HP.out.1.keep0 (HUL.out.trans HU.out);obtain ⟨_,_,_,a3⟩:=hPr.cells
      have ave:Hid (∀ z,Upd [] wr z->z.cell? ⟨w.heap.size,0,none⟩=some (.int .i64 N)/\z.cell? ⟨a,3,none⟩=some (.slice xa tabs.length xc)):=fun z u=>⟨(HC3.out z (HU4.out.trans (HUL.out.trans (HU.out.trans u)))).1,u.cell0 a3⟩
      clear hPr a3;go_upto_region 17 with fail;refine aa9 (fun z=>z.cell? ⟨w.heap.size,0,none⟩=some (.int .i64 N)/\z.cell? ⟨a,3,none⟩=some (.slice xa tabs.length xc)) (fun _=>True) [] (by kernel_rfl) ?_;have hS:=ave.out _ (Upd.refl _ _).drew;have hE:True:=trivial;refine tkS 0 rfl hS (fun _=>hE) ?_;refine tkS 1 rfl hS (fun _=>hE) ?_;refine tkS 2 rfl hS (fun _=>hE) ?_;refine tkS 3 rfl hS (fun _=>hE) ?_;refine tkS 4 rfl hS (fun _=>hE) ?_;refine tkS 5 rfl hS (fun _=>hE) ?_;refine tkS 6 rfl hS (fun _=>hE) ?_;refine tkS 7 rfl hS (fun _=>hE) ?_;refine aao (rs:=[8]) (by kernel_rfl) (by simp) ?_;refine aaf.cons rfl (fun Kx hK=>?_) ?_
      rotate_left
      exact aaf.nil
      go_simp
      refine hK.out _ _ ⟨ave.out _ ((Upd.refl _ _).drew.alloc _),fun _=>trivial⟩ (fun hHeld=>?_);clear hK Kx;obtain ⟨hS,hE⟩:=hHeld;have hE:=hE (by kernel_rfl)
      (try simp only [Act.put,List.setIfInBounds_toArray,List.set_cons_zero,List.set_cons_succ])
      refine aao (rs:=[9]) (by kernel_rfl) (by simp) ?_;refine aaf.cons rfl (fun Kx hK=>?_) ?_
      rotate_left
      exact aaf.nil
      go_simp
      refine hK.out _ _ ⟨ave.out _ ((Upd.refl _ _).drew.alloc _),fun _=>trivial⟩ (fun hHeld=>?_);clear hK Kx;obtain ⟨hS,hE⟩:=hHeld;have hE:=hE (by kernel_rfl)
      (try simp only [Act.put,List.setIfInBounds_toArray,List.set_cons_zero,List.set_cons_succ])
      refine aa1 (by kernel_rfl) ?_ _;clear hS hE
      (try go_simp)
      have hb6:(wr.alloc (.cells #[.int .i64 N,.int .i64 xI,.slice xa tabs.length xc,.slice none 0 0] 25 (0,0))).drew.heap[wr.heap.size]?=some (.cells #[.int .i64 N,.int .i64 xI,.slice xa tabs.length xc,.slice none 0 0] 25 (0,0)):=heap_alloc_new wr _;have hu6:Upd [] wr (wr.alloc (.cells #[.int .i64 N,.int .i64 xI,.slice xa tabs.length xc,.slice none 0 0] 25 (0,0))).drew:=((Upd.refl _ _).alloc _).drew;obtain ⟨w6,hw6⟩ : ∃ w6,(wr.alloc (.cells #[.int .i64 N,.int .i64 xI,.slice xa tabs.length xc,.slice none 0 0] 25 (0,0))).drew=w6:=⟨_,rfl⟩;rw [hw6] at hb6 hu6;have HW6:=Lib.hid hw6;have HU6:=Lib.hid (HU.out.trans hu6);have hP6:=HP.out.1.keep0 (HUL.out.trans (HU.out.trans hu6));have hBQ:=agk N N1 (.slice xa tabs.length xc) tabs none 0 0 [] w6 ⟨hN1,hN8⟩ hx1 (aea.of hP6.mem.tt (by have h1:=HP.out.2.1.lr;have h2:=HP.out.2.1.rb;unfold maxLen;omega)) (by have h1:=HP.out.2.1.lr;have h2:=HP.out.2.1.rb;omega) (fun t ht=>by have h1:=HP.out.2.1.ok t ht;exact ⟨h1.1,h1.2.trans HP.out.2.2.2.1⟩) ⟨rfl,by unfold maxLen;omega,fun i hi=>by omega⟩ (by omega);rw [HX.out.2] at hBQ;have HBQ:=Lib.hid hBQ;have d0:w6.cell? ⟨wr.heap.size,0,none⟩=some (.int .i64 N):=aab hb6 rfl;have d1:w6.cell? ⟨wr.heap.size,1,none⟩=some (.int .i64 xI):=aab hb6 rfl;have d2:w6.cell? ⟨wr.heap.size,2,none⟩=some (.slice xa tabs.length xc):=aab hb6 rfl;have d3:w6.cell? ⟨wr.heap.size,3,none⟩=some (.slice none 0 0):=aab hb6 rfl;clear hb6 hu6 hw6 hBQ hP6 y0 ave
      try rw [HW6.out]
      go_wp2_with fail;refine HBQ.out.mono ?_;rintro e w7 hE;obtain ⟨a2,b2,m2,rv2,tv2,K2,F2,p2,acT,rfl,hP2,hL2,aBu,aBv,_,ayc,hu7⟩:=hE.ex;obtain ⟨rb,rd,rfl,_⟩:=aar hP2.mem.rr;obtain ⟨aBw,aBx,aBy,aBz⟩:=akZ N N1 tabs;have hM0:(acV N N1 tabs).1.exchs []=(acV N N1 tabs).1:=rfl;rw [hM0] at hP2 hL2 ayc;generalize (acV N N1 tabs).1=M' at *;generalize (acV N N1 tabs).2=tabs2 at *;have HU7:=Lib.hid (HU6.out.trans hu7);have HQ:Hid (PS w7 (w6.heap.size+1) a2 b2 m2 N (.slice rb acT.length rd) tv2 M' acT tabs2/\M'.held=agl tabs2/\M'.n=N/\M'.c=N1/\(tabs2.length=tabs.length->tabs2=tabs)/\M'.trail.length<=0/\acT.length=tabs2.length):=⟨⟨K2,F2,p2,hP2,hL2,aBu,aBv⟩,aBw,aBx,aBy,aBz,by simpa using ayc,hL2.lr⟩;have hPr:=HP.out.1.keep0 (HUL.out.trans HU7.out);obtain ⟨oa,oc,hov,_⟩:=aar hPr.mem.mod.os;have hos:=hPr.mem.mod.os;rw [hov] at hos;obtain ⟨_,_,g2,_,_⟩:=hPr.mem.mod.cells;rw [hov] at g2;obtain ⟨_,g1,g3,_⟩:=hPr.cells;obtain ⟨_,_,g4,_⟩:=hP2.cells
      have avf:∀ k,k<w4.heap.size->k<w6.heap.size+1:=fun k hk=>by have h1:=HUL.out.size;have h2:=HU6.out.size;omega
      have hal:a<w6.heap.size+1:=avf a (aak HP.out.1.blk);have hml:m<w6.heap.size+1:=avf m (aak HP.out.1.mem.mod.blk)
      have aBA:∀ k,(Value.slice oa M.order.length oc).ownBlock=some k->k<w6.heap.size+1:=fun k hk=>avf k ((HP.out.1.mem.mod.os.lt k (by rw [hov];exact hk)).2)
      have apq:=HP.out.2.1.km.good HP.out.1.mem.ker.ok
      have hol:M.order.length=N:=by rw [apq.len];exact HMN.out
      have HTO:Hid (∀ z,Upd [] w7 z->Calls Tryz.prog 19 #[.pointer (some ⟨a2,0,none⟩),.slice oa M.order.length oc] z fun e w'=>ToQ (w6.heap.size+1) a2 b2 m2 N (.slice rb acT.length rd) tv2 M' acT tabs2 M.order z e w'):=fun z u =>
       alZ (w6.heap.size+1) a2 b2 m2 N 0 (.slice rb acT.length rd) tv2 M' acT tabs2 oa oc M.order z (HQ.out.1.keep0 u) (aag hos fun k hk=>u.block k (hos.lt k hk).2 (by simp)) aBA hol apq.nd (fun v hv=>by have h1:=apq.fit.on v hv;have h2:=HMN.out;omega) (by have:=HQ.out.2.2.2.2.2.1;omega)
      have avg:Hid (∀ z,Upd [] w7 z->(z.cell? ⟨a,1,none⟩=some (.pointer (some ⟨m,0,none⟩))/\z.cell? ⟨a,2,none⟩=some (.slice ra refs.length rc)/\z.cell? ⟨m,2,none⟩=some (.slice oa M.order.length oc))/\z.cell? ⟨a2,2,none⟩=some (.slice rb acT.length rd)):=fun z u=>⟨⟨u.cell0 g1,u.cell0 g3,u.cell0 g2⟩,u.cell0 g4⟩
      have awx:Hid (∀ z M5,Fro (w6.heap.size+1) w7 z->PS z (w6.heap.size+1) a2 b2 m2 N (.slice rb acT.length rd) tv2 M5 acT tabs2->(z.cell? ⟨a,1,none⟩=some (.pointer (some ⟨m,0,none⟩))/\z.cell? ⟨a,2,none⟩=some (.slice ra refs.length rc)/\z.cell? ⟨m,2,none⟩=some (.slice oa M.order.length oc))/\z.cell? ⟨a2,2,none⟩=some (.slice rb acT.length rd)):=fun z M5 f hps=>by
       obtain ⟨_,_,_,h1,_⟩:=hps.ex;exact ⟨⟨f.cell g1 hal,f.cell g3 hal,f.cell g2 hml⟩,h1.cells.2.2.1⟩
      have HFR:Hid (∀ z,Fro (w6.heap.size+1) w7 z->Upd [] wL z):=fun z f=>f.upd HU7.out (by have:=HU6.out.size;omega)
      clear hE hP2 hL2 aBu aBv ayc hu7 aBw aBx aBy aBz hM0 hPr hov hos g1 g2 g3 g4 avf hal hml aBA apq hol d0 d1 d2 d3 HBQ;obtain ⟨⟨e0,e1,e2⟩,e3⟩:=avg.out w7 (Upd.refl _ _)
      by_cases hlen:acT.length=refs.length
      ·have hll:=hlen
       have aul:=Lib.hid hlen;rw [hlen] at avg awx HTO e3;have HQL:=Lib.hid (show tabs2=tabs from HQ.out.2.2.2.2.1 (by have h1:=HQ.out.2.2.2.2.2.2;have h2:=HP.out.2.1.lr;omega));clear hll hlen;go_wp2_with fail;refine aa9 (fun z=>(z.cell? ⟨a,1,none⟩=some (.pointer (some ⟨m,0,none⟩))/\z.cell? ⟨a,2,none⟩=some (.slice ra refs.length rc)/\z.cell? ⟨m,2,none⟩=some (.slice oa M.order.length oc))/\z.cell? ⟨a2,2,none⟩=some (.slice rb refs.length rd)) (fun _=>True) [] (by kernel_rfl) ?_;have hS:=avg.out _ (Upd.refl _ _).drew;have hE:True:=trivial;refine tkS 0 rfl hS (fun _=>hE) ?_;refine tkS 1 rfl hS (fun _=>hE) ?_;refine tkS 2 rfl hS (fun _=>hE) ?_;refine tkS 3 rfl hS (fun _=>hE) ?_;refine tkS 4 rfl hS (fun _=>hE) ?_;refine tkS 5 rfl hS (fun _=>hE) ?_;refine tkS 6 rfl hS (fun _=>hE) ?_;refine tkS 7 rfl hS (fun _=>hE) ?_;refine tkS 8 rfl hS (fun _=>hE) ?_;refine tkS 9 rfl hS (fun _=>hE) ?_;refine tkS 10 rfl hS (fun _=>hE) ?_;refine tkS 11 rfl hS (fun _=>hE) ?_;refine tkS 12 rfl hS (fun _=>hE) ?_ (hy:=Or.inl ⟨by kernel_rfl,by intro x hSx;(try dsimp only at hSx);go_simp;try with_reducible rfl⟩);refine tkS 13 rfl hS (fun _=>hE) ?_ (hy:=Or.inl ⟨by kernel_rfl,by intro x hSx;(try dsimp only at hSx);go_simp;try with_reducible rfl⟩);refine tkS 14 rfl hS (fun _=>hE) ?_ (hy:=Or.inl ⟨by kernel_rfl,by intro x hSx;(try dsimp only at hSx);go_simp;try with_reducible rfl⟩);refine tkS 15 rfl hS (fun _=>hE) ?_ (hy:=Or.inl ⟨by kernel_rfl,by intro x hSx;(try dsimp only at hSx);go_simp;try with_reducible rfl⟩);refine tkS 16 rfl hS (fun _=>hE) ?_ (hy:=Or.inl ⟨by kernel_rfl,by intro x hSx;(try dsimp only at hSx);go_simp;try with_reducible rfl⟩);refine tkS 17 rfl hS (fun _=>hE) ?_ (hy:=Or.inl ⟨by kernel_rfl,by intro x hSx;(try dsimp only at hSx);go_simp;try with_reducible rfl⟩);refine tkS 18 rfl hS (fun _=>hE) ?_ (hy:=Or.inl ⟨by kernel_rfl,by intro x hSx;(try dsimp only at hSx);go_simp;try with_reducible rfl⟩);refine tkS 19 rfl hS (fun _=>hE) ?_ (hy:=Or.inl ⟨by kernel_rfl,by intro x hSx;(try dsimp only at hSx);go_simp;try with_reducible rfl⟩);refine aao (rs:=[20]) (by kernel_rfl) (by simp) ?_;refine aaf.cons rfl (fun Kx hK=>?_) ?_
       rotate_left
       exact aaf.nil
       go_simp
       refine (HTO.out _ (Upd.refl _ _).drew).mono ?_;rintro e w8 hE8;obtain ⟨Bq,M5,rfl,hps,hfr,hh5,hc5,hn5,aBB,afv⟩:=hE8.ex;have aBC:Fro (w6.heap.size+1) w7 w8:=(Fro.of0 (Upd.refl [] w7).drew).trans hfr;have HQ5:=Lib.hid (And.intro hps (And.intro aBC (And.intro hh5 (And.intro hc5 (And.intro hn5 (And.intro aBB afv))))));clear hE8 hps hfr hh5 hc5 hn5 aBB afv aBC;go_wp2_with fail;refine hK.out _ _ ⟨awx.out w8 M5 HQ5.out.2.1 HQ5.out.1,fun _=>trivial⟩ (fun hHeld=>?_);clear hK Kx;obtain ⟨hS,hE⟩:=hHeld;have hE:=hE (by kernel_rfl)
       (try simp only [Act.put,List.setIfInBounds_toArray,List.set_cons_zero,List.set_cons_succ])
       refine tkS 21 rfl hS (fun _=>hE) ?_ (hy:=Or.inl ⟨by kernel_rfl,by intro x hSx;(try dsimp only at hSx);go_simp;try with_reducible rfl⟩);refine tkS 22 rfl hS (fun _=>hE) ?_;refine aa1 (by kernel_rfl) ?_ _;clear hS hE
       (try go_simp)
       clear e0 e1 e2 e3
       have HRE:Hid (∀ z,Fro (w6.heap.size+1) w8 z->Upd [] wL z):=fun z f=>HFR.out z (HQ5.out.2.1.trans f)
       cases Bq with
       | false =>
        go_wp2_with fail
        go_roundg (2-(i+1))
        case measure=>omega
        case rel=>exact ⟨i+1,rfl,by omega,by simp,HRE.out _ (Fro.refl _ _)⟩
       | true =>
        have afv:=HQ5.out.2.2.2.2.2.2 rfl
        have hU5:M5.U l.toNat=U:=by
         rw [<- HUU.out];exact MV.U_same (by rw [HQ5.out.2.2.1,HQ.out.2.1,HP.out.2.2.2.2.2.2,HQL.out]) afv _
        have hn5:M5.n=N:=HQ5.out.2.2.2.2.1.trans HQ.out.2.2.1;have hc5:M5.c=N1:=HQ5.out.2.2.2.1.trans HQ.out.2.2.2.1
        have hEX:(i=0->(M5.exch l).trail.length=M5.trail.length+1)/\(i=1->(M5.exch l).trail.length=M5.trail.length):=by
         have h1:=HRG.out;have h2:=HX.out.1;refine ⟨fun h0=>?_,fun h0=>?_⟩
         ·have hE:M5.exchE l=0:=by
           unfold MV.exchE;rw [hn5,if_neg h1,hU5,hc5,if_neg (by omega)]
          obtain ⟨_,_,_,e⟩:=MV.exch_yes hE;rw [e];simp
         ·have hE:M5.exchE l≠0:=by
           unfold MV.exchE;rw [hn5,if_neg h1,hU5,hc5,if_pos (by omega)]
           decide
          unfold MV.exch;rw [if_neg hE]
        obtain ⟨t5,ht5⟩ : ∃ t5,M5.trail.length=t5:=⟨_,rfl⟩;obtain ⟨t6,ht6⟩ : ∃ t6,(M5.exch l).trail.length=t6:=⟨_,rfl⟩
        have htb:t5<=1000:=by have h1:=HQ5.out.2.2.2.2.2.1;have h2:=HQ.out.2.2.2.2.2.1;omega
        have aLz:t6<=2000:=by have h1:=(MV.exch_trail M5 l).1;omega
        rw [ht5,ht6] at hEX;have hxi:=HX.out;have hui:=HUI.out;obtain ⟨D,hD⟩ : ∃ D:Bool,decide (i=0)=D:=⟨_,rfl⟩
        have hd1:decide ((t5:Int)<(t6:Int))=D:=by rw [<- hD,Bool.eq_iff_iff];simp;omega
        have hd2:decide (t5<t6)=D:=by rw [<- hD,Bool.eq_iff_iff];simp;omega
        have hd3:(xI == uI+2)=D:=by rw [<- hD,Bool.eq_iff_iff];simp;omega
        have hd4:decide (xI=uI+2)=D:=by rw [<- hD,Bool.eq_iff_iff];simp;omega
        have hdd:(D != D)=false:=by simp
        obtain ⟨xa5,xc5,HT5⟩:=HQ5.out.1.trail;rw [ht5] at HT5;obtain ⟨e0,e1⟩:=HT5 w8 (Upd.refl _ _);have HDT:=Lib.hid (alV (w6.heap.size+1) a2 b2 m2 N _ _ M5 acT tabs2 l none 0 0 w8 HQ5.out.1 (by omega));have HT6:=Lib.hid (And.intro ht5 ht6);clear afv hU5 hn5 hc5 hEX ht5 ht6 hxi hui hD HT5;go_wp2_with fail;refine HDT.out.mono ?_;rintro e w9 hE9;obtain rfl:=hE9.en;have HQ9:=Lib.hid (And.intro hE9.ps hE9.fr);clear hE9 e0 e1 HDT;go_wp2_with fail;refine HQ9.out.1.stands.mono ?_;rintro e w10 ⟨rfl,apw⟩;have aFT:=Lib.hid apw;obtain ⟨xa6,xc6,HT9⟩:=HQ9.out.1.trail;rw [HT6.out.2] at HT9;obtain ⟨e0,e1⟩:=HT9 w10 apw;have HDB:=Lib.hid (aku (w6.heap.size+1) a2 b2 m2 N _ _ (M5.exch l) acT tabs2 (t5:Int) none 0 0 w10 (HQ9.out.1.keep0 apw) (by have:=HT6.out.2;omega));clear apw HT9;go_wp2_with fail;refine HDB.out.mono ?_;rintro e w11 avh;obtain rfl:=avh.en;have aBD:=Lib.hid (And.intro avh.ps avh.fr);clear avh e0 e1 HDB;go_wp2_with fail;refine aBD.out.1.stands.mono ?_;rintro e w12 ⟨rfl,alP⟩;have aFV:=Lib.hid alP;clear alP;go_wp2_with fail
        go_roundg (2-(i+1))
        case measure=>omega
        case rel=>exact ⟨i+1,rfl,by omega,by simp,HRE.out _ (((HQ9.out.2.trans (Fro.of0 aFT.out)).trans aBD.out.2).trans (Fro.of0 aFV.out))⟩
      ·have hne:((acT.length:Int) != (refs.length:Int))=true:=by simp;omega
       have aov:(acT.length != refs.length)=true:=by simpa using hlen
       have aLB:((acT.length:Int) == (refs.length:Int))=false:=by simp;omega
       have aLC:(acT.length == refs.length)=false:=by simpa using hlen
       have aLD:¬ ((acT.length:Int)=(refs.length:Int)):=by omega
       have aLE:decide ((acT.length:Int)=(refs.length:Int))=false:=by simp;omega
       have aLF:decide (acT.length=refs.length)=false:=by simpa using hlen
       go_wp2_with fail;refine aa9 (fun z=>(z.cell? ⟨a,1,none⟩=some (.pointer (some ⟨m,0,none⟩))/\z.cell? ⟨a,2,none⟩=some (.slice ra refs.length rc)/\z.cell? ⟨m,2,none⟩=some (.slice oa M.order.length oc))/\z.cell? ⟨a2,2,none⟩=some (.slice rb acT.length rd)) (fun _=>True) [] (by kernel_rfl) ?_;have hS:=avg.out _ (Upd.refl _ _).drew;have hE:True:=trivial;refine tkS 0 rfl hS (fun _=>hE) ?_;refine tkS 1 rfl hS (fun _=>hE) ?_;refine tkS 2 rfl hS (fun _=>hE) ?_;refine tkS 3 rfl hS (fun _=>hE) ?_;refine tkS 4 rfl hS (fun _=>hE) ?_;refine tkS 5 rfl hS (fun _=>hE) ?_;refine tkS 6 rfl hS (fun _=>hE) ?_;refine tkS 7 rfl hS (fun _=>hE) ?_;refine tkS 8 rfl hS (fun _=>hE) ?_;refine tkS 9 rfl hS (fun _=>hE) ?_;refine tkS 10 rfl hS (fun _=>hE) ?_;refine tkS 11 rfl hS (fun _=>hE) ?_;refine tkS 12 rfl hS (fun _=>hE) ?_ (hy:=Or.inr ⟨by kernel_rfl,rfl⟩);refine tkS 13 rfl hS (fun _=>hE) ?_ (hy:=Or.inr ⟨by kernel_rfl,rfl⟩);refine tkS 14 rfl hS (fun _=>hE) ?_ (hy:=Or.inr ⟨by kernel_rfl,rfl⟩);refine tkS 15 rfl hS (fun _=>hE) ?_ (hy:=Or.inr ⟨by kernel_rfl,rfl⟩);refine tkS 16 rfl hS (fun _=>hE) ?_ (hy:=Or.inr ⟨by kernel_rfl,rfl⟩);refine tkS 17 rfl hS (fun _=>hE) ?_ (hy:=Or.inr ⟨by kernel_rfl,rfl⟩);refine tkS 18 rfl hS (fun _=>hE) ?_ (hy:=Or.inr ⟨by kernel_rfl,rfl⟩);refine tkS 19 rfl hS (fun _=>hE) ?_ (hy:=Or.inr ⟨by kernel_rfl,rfl⟩);refine tkS 20 rfl hS (fun _=>hE) ?_ (hy:=Or.inr ⟨by kernel_rfl,rfl⟩);refine tkS 21 rfl hS (fun _=>hE) ?_ (hy:=Or.inr ⟨by kernel_rfl,rfl⟩);refine tkS 22 rfl hS (fun _=>hE) ?_;refine aa1 (by kernel_rfl) ?_ _;clear hS hE
       (try go_simp)
       go_wp2_with fail
       go_roundg (2-(i+1))
       case measure=>omega
       case rel=>exact ⟨i+1,rfl,by omega,by simp,HU7.out.drew⟩
    ·obtain rfl:i=2:=by omega
     go_wp2_with fail;go_ret;exact ⟨rfl,HUW.out.trans (HUL.out.trans HU.out)⟩
end Go.Proofs.YtdackeldhdchaaaGreat
