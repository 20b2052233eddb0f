import Derived.Test.YtdackeldhdchaaaGreatPR26
import Derived.Test.YtdackeldhdchaaaGreatPR25
set_option maxRecDepth 100000
set_option maxHeartbeats 6400000
namespace Go.Proofs.YtdackeldhdchaaaGreat
open Go.RowKit Go.Maps Go.ChangeMaps Go.WideShapes
structure QT (n0 a b m:Nat) (K:KV) (F:List Nat) (M:MV) (p:aQ) (refs:List Nat) (tabs:List TV) (r:Nat) (t:TV) (w:World) (e:Ending) (w':World):Prop where
 ex:∃ rv tv:Value,e=.returned (.bool true)/\ug w' n0 a b m rv tv K F M p (refs++[r]) (tabs++[t])/\o8 n0 w w'
structure nZ (n W:Nat) (t:TV) (w0:World) (s7 s8:Value) (wc:World):Prop where
 ex:∃ (B:Nat) (ga:Option Addr) (gc:Nat),s7=.pointer (some ⟨B,0,none⟩)/\s8=.bool true/\wc.heap[B]?=some (.cells #[.int .i64 n,.slice ga W gc] 121 (0,0))/\fO wc [] (.slice ga W gc) t/\af [] w0 wc
theorem nZ.of1 {n W gc:Nat} {t:TV} {ga:Option Addr} {w0 w1 x:World} (h:lU x w1 (.slice ga W gc) t) (u:af [] w0 w1):nZ n W t w0 (.pointer (some ⟨w1.heap.size,0,none⟩)) (.bool true) (w1.alloc (.cells #[.int .i64 n,.slice ga W gc] 121 (0,0))) :=
 ⟨_,ga,gc,rfl,rfl,heap_alloc_new _ _,(h.tin (Z:=[]) (by simp)).keep0 ((af.refl _ _).alloc _),u.alloc _⟩
theorem nZ.of2 {n W gc:Nat} {t:TV} {ga:Option Addr} {w0 w1 x:World} (hb:w1.heap[w0.heap.size]?=some (.cells #[.int .i64 0,.slice none 0 0] 121 (0,0))) (h:lU x w1 (.slice ga W gc) t) (u:af [] w0 w1) :
  nZ n W t w0 (.pointer (some ⟨w0.heap.size,0,none⟩)) (.bool true) ((w1.setCell ⟨w0.heap.size,0,none⟩ (.int .i64 n)).setCell ⟨w0.heap.size,1,none⟩ (.slice ga W gc)):=by
 have e1:=aF (j:=0) hb (.int .i64 n);have e2:=aF (j:=1) e1 (.slice ga W gc);refine ⟨_,ga,gc,rfl,rfl,e2,?_,(u.setCell (p:=⟨w0.heap.size,0,none⟩) (.inr (Nat.le_refl _)) _).setCell (p:=⟨w0.heap.size,1,none⟩) (.inr (Nat.le_refl _)) _⟩
 exact (h.tin (Z:=[]) (by simp)).foreign (((af.refl [w0.heap.size] w1).setCell (p:=⟨w0.heap.size,0,none⟩) (.inl (by simp)) _).setCell (p:=⟨w0.heap.size,1,none⟩) (.inl (by simp)) _) fun k hk=>by simp at hk;subst hk;exact ⟨_,_,_,hb,by decide⟩
theorem Iu {K:KV} (hk:K.Ok) (hu:K.Uni) {r s:Nat} {t u:TV} (h1:Names K r t) (h2:Names K s u) (ht:t.Ok) (iF:u.Ok) (e:t.n=u.n):(decide (u=t) != decide (s=r))=false:=by
 by_cases h:u=t
 ·subst h
  have:=Names.eq hk hu h1 h2
  subst this;simp
 ·have hne:s≠r:=fun e2=>by
   subst e2;exact h (Names.teq h2 h1 iF ht e.symm)
  simp [h,hne]
theorem Iw (n0 a b m:Nat) (rv tv:Value) (K:KV) (F:List Nat) (M:MV) (p:aQ) (refs:List Nat) (tabs:List TV) (r:Nat) (c:Value) (t:TV) (w:World) (h:ug w n0 a b m rv tv K F M p refs tabs) (l:ni K M refs tabs) (ht:fO w (F++p.all m) c t) (nH:t.n=K.vars) (LU:Names K r t) :
  Calls Tryz.prog 54 #[.pointer (some ⟨a,0,none⟩),.int .u32 r,bK t c] w fun e w'=>QT n0 a b m K F M p refs tabs r t w e w':=by
 obtain ⟨ra,rc,rfl,_⟩:=aC h.mem.rr;obtain ⟨xa,xc,rfl,U8⟩:=h.mem.tt.form;obtain ⟨ta,tc,rfl,_⟩:=fP ht.row;have HL:=Lib.hid h;have Iy:=Lib.hid l;have HT:=Lib.hid ht;have HNM:=Lib.hid LU
 have Ve:K.vars<=8:=by rw [<- l.km.agr.same.n];exact l.km.fit.n6
 have Vf:M.n=K.vars:=l.km.agr.same.n;have dR:=Lib.hid ((af.refl [] w).alloc (.cells #[.int .i64 t.n,.slice ta t.ws.length tc] 121 (0,0)));have hb:=jc w (.int .i64 t.n) (.slice ta t.ws.length tc)
 have sU:Hid (∀ z,af [] w z->Calls Tryz.prog 121 #[.pointer (some ⟨b,0,none⟩),.int .i64 K.vars,.int .u32 r] z fun e w'=>FZ t z e w'):=fun z u=>by
  have e:K.tab r=t:=h.mem.ker.ok.tab_eq (by omega) LU.1 ht.ok nH LU.2;rw [<- e];exact nX b r K F z (h.mem.ker.upd u (by simp)) LU.1 Ve
 have uK:Hid (∀ (z:World) (Z1 Z2:List Nat) (c1 c2:Value) (t1 t2:TV),fO z Z1 c1 t1->fO z Z2 c2 t2->Calls Tryz.prog 122 #[bK t1 c1,bK t2 c2] z fun e w'=>e=.returned (.bool (decide (t1=t2)))/\af [] z w'):=fun z Z1 Z2 c1 c2 t1 t2 h1 h2 =>
  iE [z.heap.size] c1 c2 t1 t2 z h1.any h2.any
 have HC:Hid (∀ z,af [] w z->z.cell? ⟨a,0,none⟩=some (.pointer (some ⟨b,0,none⟩))/\z.cell? ⟨a,1,none⟩=some (.pointer (some ⟨m,0,none⟩))/\z.cell? ⟨a,2,none⟩=some (.slice ra refs.length rc)/\z.cell? ⟨a,3,none⟩=some (.slice xa tabs.length xc)/\z.cell? ⟨m,0,none⟩=some (.int .i64 K.vars)):=fun z u=>by
  obtain ⟨c0,c1,c2,c3⟩:=h.cells;have hm0:=h.mem.mod.cells.1;rw [Vf] at hm0;exact ⟨u.cell0 c0,u.cell0 c1,u.cell0 c2,u.cell0 c3,u.cell0 hm0⟩
 have ZT:∀ k,((Value.slice ra refs.length rc).ownBlock=some k\/(Value.slice xa tabs.length xc).ownBlock=some k)->k<w.heap.size/\k≠a:=fun k hk=>by
  rcases hk with hk | hk
  ·refine ⟨(h.mem.rr.lt k hk).2,fun e=>?_⟩
   subst e;exact mV h.mem.rr h.blk (by decide) hk
  ·obtain ⟨xs,hr⟩:=h.mem.tt.row
   refine ⟨(hr.lt k hk).2,fun e=>?_⟩;subst e;exact mV hr h.blk (by decide) hk
 have Jo:=Lib.hid ZT;have haw:a<w.heap.size:=aj h.blk;obtain ⟨kv,zM⟩ : ∃ kv,K.vars=kv:=⟨_,rfl⟩;have Ey:=Lib.hid zM;rw [zM] at sU HC Ve
 have hn:t.n=kv:=by rw [nH,zM]
 obtain ⟨n,E5⟩ : ∃ n,t.n=n:=⟨_,rfl⟩;obtain ⟨W,hW⟩ : ∃ W,t.ws.length=W:=⟨_,rfl⟩;have HN:=Lib.hid E5;have E8:=Lib.hid hW
 have HNK:Hid (n=kv):=by show _=_;omega
 rw [E5,hW] at dR hb
 have HX0:Hid (∀ z,af [] (w.alloc (.cells #[.int .i64 n,.slice ta W tc] 121 (0,0))) z->z.cell? ⟨w.heap.size,0,none⟩=some (.int .i64 n)/\z.cell? ⟨w.heap.size,1,none⟩=some (.slice ta W tc)):=fun z u=>bH u hb
 show Calls _ _ #[.pointer (some ⟨a,0,none⟩),.int .u32 r,.agg #[.int .i64 t.n,.slice ta t.ws.length tc]] _ _
 rw [E5,hW]
 have htw:W<=1024:=by rw [<- hW];exact ht.ok.len_le
 clear h l ht LU Vf hb zM nH E5 hW hn ZT
 go_enter Tryz.func54,Tryz.ntmps54
 obtain ⟨w0,kP⟩ : ∃ w0,w.alloc (.cells #[.int .i64 n,.slice ta W tc] 121 (0,0))=w0:=⟨_,rfl⟩;rw [kP] at dR HX0;have yL:=Lib.hid kP;clear kP
 have iZ:Hid (∀ z,af [] w0 z->z.cell? ⟨a,0,none⟩=some (.pointer (some ⟨b,0,none⟩))/\z.cell? ⟨a,1,none⟩=some (.pointer (some ⟨m,0,none⟩))/\z.cell? ⟨m,0,none⟩=some (.int .i64 kv)):=fun z u=>by
  obtain ⟨c0,c1,_,_,c4⟩:=HC.out z (dR.out.trans u);exact ⟨c0,c1,c4⟩
 have Ou:=Lib.hid (sU.out w0.drew dR.out.drew);go_upto_region 1 with fail;rw [yL.out]
 go_cut [7,8] from 11 to 26 (fun s7 s8 wc=>nZ n W t w0 s7 s8 wc)
 case first =>
  refine fD (fun z=>z.cell? ⟨a,0,none⟩=some (.pointer (some ⟨b,0,none⟩))/\z.cell? ⟨a,1,none⟩=some (.pointer (some ⟨m,0,none⟩))/\z.cell? ⟨m,0,none⟩=some (.int .i64 kv)) (fun _=>True) [] (by kernel_rfl) ?_;have hS:=iZ.out _ (af.refl _ _).drew;have hE:True:=trivial;refine fZ 0 rfl hS (fun _=>hE) ?_;refine fZ 1 rfl hS (fun _=>hE) ?_;refine fZ 2 rfl hS (fun _=>hE) ?_;refine fZ 3 rfl hS (fun _=>hE) ?_;refine fZ 4 rfl hS (fun _=>hE) ?_;refine fZ 5 rfl hS (fun _=>hE) ?_;refine fZ 6 rfl hS (fun _=>hE) ?_;refine fZ 7 rfl hS (fun _=>hE) ?_;refine fZ 8 rfl hS (fun _=>hE) ?_;refine fZ 9 rfl hS (fun _=>hE) ?_;refine fZ 10 rfl hS (fun _=>hE) ?_;refine fZ 11 rfl hS (fun _=>hE) ?_;refine aG (rs:=[12,16]) (by kernel_rfl) (by simp) ?_;refine ai.cons rfl (fun Kx hK=>?_) ?_
  ·
   go_simp
   refine (sU.out _ (dR.out.trans (af.refl [] w0).drew)).mono ?_;rintro e w1 LX;obtain ⟨c1,rfl,Aq,hu⟩:=LX.ex;obtain ⟨ga,gc,rfl,_⟩:=fP Aq.row;have iH:Hid (af [] w0 w1):=af.trans (af.refl [] w0).drew hu;unfold bK;rw [E8.out] at Aq ⊢;rw [HN.out];have qE:=Lib.hid Aq;clear LX hu Aq;go_wp2_with fail;refine hK.out _ _ ⟨iZ.out _ iH.out,fun _=>trivial⟩ (fun hHeld=>?_);clear hK Kx;obtain ⟨hS,hE⟩:=hHeld;have hE:=hE (by kernel_rfl)
   (try simp only [Act.put,List.setIfInBounds_toArray,List.set_cons_zero,List.set_cons_succ])
   refine fZ 13 rfl hS (fun _=>hE) ?_;refine fZ 14 rfl hS (fun _=>hE) ?_;refine fZ 15 rfl hS (fun _=>hE) ?_;refine aG (rs:=[16]) (by kernel_rfl) (by simp) ?_;refine ai.cons rfl (fun Kx hK=>?_) ?_
   rotate_left
   exact ai.nil
   go_simp
   refine hK.out _ _ ⟨iZ.out _ (iH.out.alloc _),fun _=>trivial⟩ (fun hHeld=>?_);clear hK Kx;obtain ⟨hS,hE⟩:=hHeld;have hE:=hE (by kernel_rfl)
   (try simp only [Act.put,List.setIfInBounds_toArray,List.set_cons_zero,List.set_cons_succ])
   refine aG (rs:=[17]) (by kernel_rfl) (by simp) ?_;refine ai.cons rfl (fun Kx hK=>?_) ?_
   rotate_left
   exact ai.nil
   go_simp
   refine hK.out _ _ ⟨iZ.out _ (iH.out.alloc _),fun _=>trivial⟩ (fun hHeld=>?_);clear hK Kx;obtain ⟨hS,hE⟩:=hHeld;have hE:=hE (by kernel_rfl)
   (try simp only [Act.put,List.setIfInBounds_toArray,List.set_cons_zero,List.set_cons_succ])
   refine fZ 18 rfl hS (fun _=>hE) ?_;refine dJ (by kernel_rfl) ?_ _;clear hS hE
   (try go_simp)
   go_wp2_with fail;go_meet;exact nZ.of1 qE.out iH.out
  refine ai.cons rfl (fun Kx hK=>?_) ?_
  rotate_left
  exact ai.nil
  go_simp
  refine hK.out _ _ ⟨iZ.out _ ((af.refl [] w0).drew.alloc _),fun _=>trivial⟩ (fun hHeld=>?_);clear hK Kx;obtain ⟨hS,hE⟩:=hHeld;have hE:=hE (by kernel_rfl)
  (try simp only [Act.put,List.setIfInBounds_toArray,List.set_cons_zero,List.set_cons_succ])
  refine aG (rs:=[12]) (by kernel_rfl) (by simp) ?_;refine ai.cons rfl (fun Kx hK=>?_) ?_
  rotate_left
  exact ai.nil
  go_simp
  refine (sU.out _ (dR.out.trans ((af.refl [] w0).drew.alloc (.cells #[.int .i64 0,.slice none 0 0] 121 (0,0))))).mono ?_;rintro e w1 LX;obtain ⟨c1,rfl,Aq,hu⟩:=LX.ex;obtain ⟨ga,gc,rfl,_⟩:=fP Aq.row;have iH:Hid (af [] w0 w1):=af.trans ((af.refl [] w0).drew.alloc (.cells #[.int .i64 0,.slice none 0 0] 121 (0,0))) hu;unfold bK;rw [E8.out] at Aq ⊢;rw [HN.out];have qE:=Lib.hid Aq;have bf:=(hu.block w0.heap.size (by rw [World.size_alloc];show w0.heap.size<w0.heap.size+1;omega) (by simp)).trans (heap_alloc_new w0.drew (.cells #[.int .i64 0,.slice none 0 0] 121 (0,0)));have y0:=ae (j:=0) bf rfl;have y1:=ae (j:=1) bf rfl;have g0:=ak 0 bf;have g1:=ak 1 bf;have oz:=Lib.hid bf;clear LX hu Aq bf;go_wp2_with fail;refine hK.out _ _ ⟨iZ.out _ iH.out,fun _=>trivial⟩ (fun hHeld=>?_);clear hK Kx;obtain ⟨hS,hE⟩:=hHeld;have hE:=hE (by kernel_rfl)
  (try simp only [Act.put,List.setIfInBounds_toArray,List.set_cons_zero,List.set_cons_succ])
  refine fZ 13 rfl hS (fun _=>hE) ?_;refine fZ 14 rfl hS (fun _=>hE) ?_;refine fZ 15 rfl hS (fun _=>hE) ?_;refine aG (rs:=[17]) (by kernel_rfl) (by simp) ?_;refine ai.cons rfl (fun Kx hK=>?_) ?_
  rotate_left
  exact ai.nil
  go_simp
  refine hK.out _ _ ⟨iZ.out _ ((iH.out.setCell (p:=⟨w0.heap.size,0,none⟩) (.inr (Nat.le_refl _)) _).setCell (p:=⟨w0.heap.size,1,none⟩) (.inr (Nat.le_refl _)) _),fun _=>trivial⟩ (fun hHeld=>?_);clear hK Kx;obtain ⟨hS,hE⟩:=hHeld;have hE:=hE (by kernel_rfl)
  (try simp only [Act.put,List.setIfInBounds_toArray,List.set_cons_zero,List.set_cons_succ])
  refine fZ 18 rfl hS (fun _=>hE) ?_;refine dJ (by kernel_rfl) ?_ _;clear hS hE
  (try go_simp)
  go_wp2_with fail;go_meet;exact nZ.of2 oz.out qE.out iH.out
 case rest =>
  obtain ⟨B,ga,gc,rfl,rfl,TU,Xo,fF⟩:=hcut.ex;have Jm:=Lib.hid (dR.out.trans fF);have uI:=uK.out wc [] _ _ _ t t Xo (HT.out.keep0 Jm.out);unfold bK at uI;rw [E8.out,HN.out] at uI;rw [show decide (t=t)=true by simp] at uI;have sV:=Lib.hid uI;have v0:=ae (j:=0) TU rfl;have v1:=ae (j:=1) TU rfl;obtain ⟨b0,b1⟩:=HX0.out wc fF;clear hcut TU Xo fF uI;go_wp2_with fail;refine sV.out.mono ?_;rintro e w2 ⟨rfl,hu⟩;have dF:=Lib.hid (Jm.out.trans hu)
  have Iz:Hid (∀ z,af [] w2 z->z.cell? ⟨w.heap.size,0,none⟩=some (.int .i64 n)/\z.cell? ⟨w.heap.size,1,none⟩=some (.slice ta W tc)):=fun z u=>⟨u.cell0 (hu.cell0 b0),u.cell0 (hu.cell0 b1)⟩
  obtain ⟨_,_,c2,c3,_⟩:=HC.out w2 dF.out;clear hu v0 v1 b0 b1;obtain ⟨TL,Jw⟩ : ∃ TL,tabs.length=TL:=⟨_,rfl⟩;have TW:=Lib.hid Jw
  have Xp:TL<=40:=by have h1:=Iy.out.lr;have h2:=Iy.out.rb;omega
  rw [Jw] at c3;clear Jw;go_wp2_with fail
  go_loopg [40] TL (fun gg s40 wr=>∃ i:Nat,TL-i=gg/\i<=TL/\s40=.int .i64 i/\af [] w2 wr)
  case atStart=>exact ⟨0,by omega,by omega,rfl,af.refl _ _⟩
  case round =>
   obtain ⟨i,rfl,hi,rfl,hU⟩:=hrel
   by_cases aZ:i<TL
   ·have fE:(i:Int)<(TL:Int):=by omega
    have oZ:(0:Int)<=(i:Int):=by omega
    obtain ⟨u,hu⟩ : ∃ u,tabs[i]?=some u:=⟨_,List.getElem?_eq_getElem (by have h:=TW.out;omega)⟩
    have oP:refs.length=TL:=by have h1:=Iy.out.lr;have h2:=TW.out;omega
    obtain ⟨s,hs⟩ : ∃ s,refs[i]?=some s:=⟨_,List.getElem?_eq_getElem (by omega)⟩;have HPI:=Lib.hid (HL.out.keep0 (dF.out.trans hU));obtain ⟨g,rfl⟩:=U8 (by have h:=TW.out;omega);obtain ⟨cu,x0,x1,lQ⟩:=HPI.out.mem.tt.at_ hu;obtain ⟨ua,uc,rfl,_⟩:=fP lQ.row;obtain ⟨gr,rfl⟩:=bY HPI.out.mem.rr (by omega);have z0:=ax HPI.out.mem.rr (pY hs)
    have qB:u.n=n:=by have h1:=(Iy.out.ok u (List.mem_of_getElem? hu)).2;have h2:K.vars=kv:=Ey.out;have h3:n=kv:=HNK.out;omega
    have vS:(decide (u=t) != decide (s=r))=false:=Iu HL.out.mem.ker.ok HL.out.mem.ker.uni HNM.out (Iy.out.nm i s u hs hu) HT.out.ok (Iy.out.ok u (List.mem_of_getElem? hu)).1 (by rw [HN.out,qB]);obtain ⟨du,Xq⟩ : ∃ du,decide (u=t)=du:=⟨_,rfl⟩
    have hdr:((s:Int) == (r:Int))=du:=by
     rw [Xq] at vS
     have h2:decide (s=r)=du:=by cases du <;> simpa using vS
     rw [<- h2,Bool.eq_iff_iff];simp;omega
    have hdd:(du != du)=false:=by simp
    obtain ⟨UW,Ed⟩ : ∃ UW,u.ws.length=UW:=⟨_,rfl⟩;rw [qB] at x0;rw [Ed] at x1;have bf:=jc wr (.int .i64 n) (.slice ua UW uc);have nP:af [] wr (wr.alloc (.cells #[.int .i64 n,.slice ua UW uc] 121 (0,0))):=(af.refl _ _).alloc _;obtain ⟨w6,DU⟩ : ∃ w6,wr.alloc (.cells #[.int .i64 n,.slice ua UW uc] 121 (0,0))=w6:=⟨_,rfl⟩;rw [DU] at bf nP;have QU:=Lib.hid DU
    have Ew:Hid (∀ z,af [] w6 z->Calls Tryz.prog 122 #[.agg #[.int .i64 n,.slice ua UW uc],.agg #[.int .i64 n,.slice ta W tc]] z fun e w'=>e=.returned (.bool du)/\af [] z w'):=fun z uz=>by
     have h1:=uK.out z _ _ _ _ u t ((lQ.keep0 nP).keep0 uz) (HT.out.keep0 ((dF.out.trans hU).trans (nP.trans uz)));unfold bK at h1;rw [E8.out,HN.out,qB,Ed,Xq] at h1;exact h1
    have LY:Hid (∀ z,af [] w6 z->(z.cell? ⟨wr.heap.size,0,none⟩=some (.int .i64 n)/\z.cell? ⟨wr.heap.size,1,none⟩=some (.slice ua UW uc))/\(z.cell? ⟨w.heap.size,0,none⟩=some (.int .i64 n)/\z.cell? ⟨w.heap.size,1,none⟩=some (.slice ta W tc))/\z.cell? ⟨a,2,none⟩=some (.slice (some ⟨gr,0,none⟩) refs.length rc)/\z.cell? ⟨gr,i,none⟩=some (.int .u32 s)):=fun z uz =>
     ⟨bH uz bf,Iz.out z (hU.trans (nP.trans uz)),(HC.out z ((dF.out.trans hU).trans (nP.trans uz))).2.2.1,uz.cell0 (nP.cell0 z0)⟩
    have Yn:=Lib.hid (hU.trans nP)
    have Xr:(i:Int)<(refs.length:Int):=by omega
    have Xt:i<refs.length:=by omega
    rw [oP] at LY Xr Xt;clear hU hu hs lQ qB vS Xq Ed nP DU z0 c2 Xr Xt oP;go_wp2_with fail;rw [QU.out]
    go_region_held3 (fun z=>(z.cell? ⟨wr.heap.size,0,none⟩=some (.int .i64 n)/\z.cell? ⟨wr.heap.size,1,none⟩=some (.slice ua UW uc))/\(z.cell? ⟨w.heap.size,0,none⟩=some (.int .i64 n)/\z.cell? ⟨w.heap.size,1,none⟩=some (.slice ta W tc))/\z.cell? ⟨a,2,none⟩=some (.slice (some ⟨gr,0,none⟩) TL rc)/\z.cell? ⟨gr,i,none⟩=some (.int .u32 s)) (first | exact LY.out _ (af.refl _ _).drew | exact LY.out _ Qc.out) (first
     | (go_at_call 122;refine (Ew.out _ (af.refl _ _).drew).mono ?_;rintro e w7 ⟨rfl,hu⟩;have Qc:=Lib.hid ((af.refl [] w6).drew.trans hu);clear hu))
    go_wp2_with fail
    go_roundg (TL-(i+1))
    case measure=>omega
    case rel=>exact ⟨i+1,rfl,by omega,by first | rfl | (rw [qO (by omega)]) | simp,Yn.out.trans Qc.out⟩
   ·obtain rfl:i=TL:=by omega
    have fE:¬ ((i:Int)<(i:Int)):=by omega
    generalize wr=w3 at *;have IA:=Lib.hid (And.intro (HL.out.keep0 (dF.out.trans hU)) (o8.of0 (n0:=n0) (dF.out.trans hU)))
    have abx:Hid (fO w3 (F++p.all m) (.slice ta W tc) t):=by
     have h:=HT.out.keep0 (dF.out.trans hU)
     rw [E8.out] at h;exact h
    obtain ⟨b0,b1⟩:=Iz.out w3 hU;obtain ⟨c0,_,c2,c3,_⟩:=HC.out w3 (dF.out.trans hU)
    have HS:Hid (∀ x:World,af ((Value.slice ra refs.length rc).ownBlock.toList++(Value.slice xa tabs.length xc).ownBlock.toList) w3 x->x.cell? ⟨a,2,none⟩=some (.slice ra refs.length rc)/\x.cell? ⟨a,3,none⟩=some (.slice xa tabs.length xc)/\x.cell? ⟨w.heap.size,0,none⟩=some (.int .i64 n)/\x.cell? ⟨w.heap.size,1,none⟩=some (.slice ta W tc)):=fun x u=>by
     have no:∀ k,(k=a\/k=w.heap.size)->k∉(Value.slice ra refs.length rc).ownBlock.toList++(Value.slice xa tabs.length xc).ownBlock.toList:=fun k hk hm=>by
      have hm:(Value.slice ra refs.length rc).ownBlock=some k\/(Value.slice xa tabs.length xc).ownBlock=some k:=by simpa using hm
      have:=Jo.out k hm
      rcases hk with rfl | rfl
      ·exact this.2 rfl
      ·omega
     exact ⟨(u.cell (World.block_lt_of_cell? _ _ c2) (no a (.inl rfl))).trans c2,(u.cell (World.block_lt_of_cell? _ _ c3) (no a (.inl rfl))).trans c3,(u.cell (World.block_lt_of_cell? _ _ b0) (no _ (.inr rfl))).trans b0,(u.cell (World.block_lt_of_cell? _ _ b1) (no _ (.inr rfl))).trans b1⟩
    clear hU sU uK HC HX0 Iz iZ Ou;go_upto_region 10 with fail;obtain ⟨cs,Xu,Xv,Xw⟩:=IA.out.1.mem.tt.ex;obtain ⟨tr,Vx,UH,rH,hr3⟩:=info_parts Tryz.infoRefS;obtain ⟨tt,ht0,ht1,Y6,Xx⟩:=info_parts Tryz.infoTable;have Jy:=Lib.hid (And.intro Vx (And.intro UH (And.intro rH hr3)));have Jz:=Lib.hid (And.intro ht0 (And.intro ht1 (And.intro Y6 Xx)));have Ez:=Lib.hid (And.intro Xu (And.intro Xv Xw))
    have HRR:Hid (∀ x:World,af (Value.slice xa tabs.length xc).ownBlock.toList w3 x->x.ownsRow 0 77 1 (.slice ra refs.length rc) refs.length (aN refs)):=fun x u=>ah IA.out.1.mem.rr fun k hk=>u.block k (IA.out.1.mem.rr.lt k hk).2 fun hm=>BQ IA.out.1.mem.rr Ez.out.2.1 (by decide) hk (by simpa using hm)
    have Gm:Hid (∀ x:World,af (Value.slice ra refs.length rc).ownBlock.toList w3 x->x.ownsRow 0 121 2 (.slice xa tabs.length xc) tabs.length (dQ tabs cs)):=fun x u=>ah Ez.out.2.1 fun k hk=>u.block k (Ez.out.2.1.lt k hk).2 fun hm=>BQ Ez.out.2.1 IA.out.1.mem.rr (by decide) hk (by simpa using hm)
    have OJ:Hid (∀ x:World,af ((Value.slice ra refs.length rc).ownBlock.toList++(Value.slice xa tabs.length xc).ownBlock.toList) w3 x->x.frozen? ⟨a,2,none⟩=false/\x.frozen? ⟨a,3,none⟩=false/\x.cell? ⟨a,2,none⟩=some (.slice ra refs.length rc)/\x.cell? ⟨a,3,none⟩=some (.slice xa tabs.length xc)):=fun x u=>by
     have no:a∉(Value.slice ra refs.length rc).ownBlock.toList++(Value.slice xa tabs.length xc).ownBlock.toList:=fun hm=>by
      rcases List.mem_append.1 hm with hm | hm
      ·exact mV IA.out.1.mem.rr IA.out.1.blk (by decide) (by simpa using hm)
      ·exact mV Ez.out.2.1 IA.out.1.blk (by decide) (by simpa using hm)
     have hb:=(u.block a (aj IA.out.1.blk) no).trans IA.out.1.blk;exact ⟨ak 2 hb,ak 3 hb,ae hb rfl,ae hb rfl⟩
    have Lj:Hid (∀ k,some k=(Value.slice ra refs.length rc).ownBlock->k<w3.heap.size):=fun k hk=>(IA.out.1.mem.rr.lt k hk.symm).2
    have EC:Hid (∀ u,u∈[Value.int .u32 r]->u.oneCell'=true):=by intro u hu;simp at hu;subst hu;rfl
    have lH:Hid (∀ u,u∈[Value.int .i64 n,Value.slice ta W tc]->u.oneCell'=true):=by intro u hu;simp at hu;rcases hu with rfl | rfl <;> rfl
    have yJ:tabs.length<=500:=by have h1:=Iy.out.lr;have h2:=Iy.out.rb;omega
    have oP:refs.length<=500:=by have h2:=Iy.out.rb;omega
    clear Vx UH rH hr3 ht0 ht1 Y6 Xx Xu Xv Xw
    have LZ:Hid (∀ (g1 jL g2 gV:Nat) (w6:World),af ((Value.slice ra refs.length rc).ownBlock.toList++(Value.slice xa tabs.length xc).ownBlock.toList) w3 w6->w6.ownsRow 0 77 1 (.slice (some ⟨g1,0,none⟩) (refs.length+1) jL) (refs.length+1) (aN refs++[.int .u32 r]) ->
      w6.ownsRow 0 121 2 (.slice (some ⟨g2,0,none⟩) (tabs.length+1) gV) (tabs.length+1) (dQ tabs cs++[.int .i64 n,.slice ta W tc])->(((Value.slice ra refs.length rc).ownBlock=some g1\/w3.heap.size<=g1)/\((Value.slice xa tabs.length xc).ownBlock=some g2\/w3.heap.size<=g2)) ->
      QT n0 a b m K F M p refs tabs r t w (.returned (.bool true)) ((w6.setCell ⟨a,2,none⟩ (.slice (some ⟨g1,0,none⟩) (refs.length+1) jL)).setCell ⟨a,3,none⟩ (.slice (some ⟨g2,0,none⟩) (tabs.length+1) gV))):=fun g1 jL g2 gV w6 u o1 o2 at_=>by
     rw [<- HN.out] at o2;obtain ⟨hl,hf⟩:=IA.out.1.push u Ez.out.1 Ez.out.2.2 o1 o2 at_.1 at_.2 abx.out;exact ⟨_,_,rfl,hl,IA.out.2.trans hf⟩
    obtain ⟨y02,y03,y00,y01⟩:=HS.out (w3.alloc (.cells #[.int .u32 r] 77 (0,0))) ((af.refl _ _).alloc _);obtain ⟨y12,y13,y10,y11⟩:=HS.out (w3.alloc (.cells #[.int .i64 n,.slice ta W tc] 121 (0,0))) ((af.refl _ _).alloc _);obtain ⟨y22,y23,y20,y21⟩:=HS.out ((w3.alloc (.cells #[.int .u32 r] 77 (0,0))).alloc (.cells #[.int .i64 n,.slice ta W tc] 121 (0,0))) (((af.refl _ _).alloc _).alloc _);obtain ⟨y32,y33,y30,y31⟩:=HS.out ((w3.alloc (.cells #[.int .i64 n,.slice ta W tc] 121 (0,0))).alloc (.cells #[.int .u32 r] 77 (0,0))) (((af.refl _ _).alloc _).alloc _)
    have Iz:Hid (((w3.alloc (.cells #[.int .u32 r] 77 (0,0))).alloc (.cells #[.int .i64 n,.slice ta W tc] 121 (0,0))).heap[w3.heap.size+1]?=some (.cells #[.int .i64 n,.slice ta W tc] 121 (0,0))):=by
     have h:=heap_alloc_new (w3.alloc (.cells #[.int .u32 r] 77 (0,0))) (.cells #[.int .i64 n,.slice ta W tc] 121 (0,0))
     rw [World.size_alloc] at h;exact h
    have Vg:Hid (((w3.alloc (.cells #[.int .i64 n,.slice ta W tc] 121 (0,0))).alloc (.cells #[.int .u32 r] 77 (0,0))).heap[w3.heap.size]?=some (.cells #[.int .i64 n,.slice ta W tc] 121 (0,0))):=(Below.heap_alloc _ _ _ (aj (heap_alloc_new _ _))).trans (heap_alloc_new _ _)
    have Vh:Hid (∀ k,w3.heap.size<=k->some k≠(Value.slice ra refs.length rc).ownBlock):=fun k hk e=>by have:=Lj.out k e;omega
    have TY:Hid ((w3.alloc (.cells #[.int .u32 r] 77 (0,0))).heap[w3.heap.size]?=some (.cells #[.int .u32 r] 77 (0,0))):=heap_alloc_new _ _;have TZ:Hid (((w3.alloc (.cells #[.int .u32 r] 77 (0,0))).alloc (.cells #[.int .i64 n,.slice ta W tc] 121 (0,0))).heap[w3.heap.size]?=some (.cells #[.int .u32 r] 77 (0,0))):=(Below.heap_alloc _ _ _ (aj (heap_alloc_new _ _))).trans (heap_alloc_new _ _)
    have Ua:Hid (((w3.alloc (.cells #[.int .i64 n,.slice ta W tc] 121 (0,0))).alloc (.cells #[.int .u32 r] 77 (0,0))).heap[w3.heap.size+1]?=some (.cells #[.int .u32 r] 77 (0,0))):=by
     have h:=heap_alloc_new (w3.alloc (.cells #[.int .i64 n,.slice ta W tc] 121 (0,0))) (.cells #[.int .u32 r] 77 (0,0))
     rw [World.size_alloc] at h;exact h
    have Ub:Hid (∀ x:World,af ((Value.slice ra refs.length rc).ownBlock.toList++(Value.slice xa tabs.length xc).ownBlock.toList) w3 x->x.cell? ⟨w.heap.size,0,none⟩=some (.int .i64 n)/\x.cell? ⟨w.heap.size,1,none⟩=some (.slice ta W tc)):=fun x u=>⟨(HS.out x u).2.2.1,(HS.out x u).2.2.2⟩
    have hne:w.heap.size≠a:=by omega
    have iZ:Hid (∀ x:World,af ((Value.slice ra refs.length rc).ownBlock.toList++(Value.slice xa tabs.length xc).ownBlock.toList) w3 x->(x.cell? ⟨w.heap.size,0,none⟩=some (.int .i64 n)/\x.cell? ⟨w.heap.size,1,none⟩=some (.slice ta W tc))/\x.cell? ⟨a,2,none⟩=some (.slice ra refs.length rc)/\x.cell? ⟨a,3,none⟩=some (.slice xa tabs.length xc)):=fun x u=>⟨Ub.out x u,(OJ.out x u).2.2.1,(OJ.out x u).2.2.2⟩
    refine fD (fun x=>x.cell? ⟨w.heap.size,0,none⟩=some (.int .i64 n)/\x.cell? ⟨w.heap.size,1,none⟩=some (.slice ta W tc)) (fun x=>x.cell? ⟨a,2,none⟩=some (.slice ra refs.length rc)/\x.cell? ⟨a,3,none⟩=some (.slice xa tabs.length xc)) [18,21] (by kernel_rfl) ?_;have hS:=(iZ.out _ (af.refl _ _).drew).1;have hE:=(iZ.out _ (af.refl _ _).drew).2;refine fZ 0 rfl hS (fun _=>hE) ?_;refine fZ 1 rfl hS (fun _=>hE) ?_;refine fZ 2 rfl hS (fun _=>hE) ?_;refine fZ 3 rfl hS (fun _=>hE) ?_;refine fZ 4 rfl hS (fun _=>hE) ?_;refine pF (i:=5) (v:=?v5) rfl (by kernel_rfl) (by kernel_rfl) (by kernel_rfl) (by kernel_rfl) (by kernel_rfl) (by kernel_rfl) (fun _ _ _ h=>h) (Or.inl ⟨by rfl,?hy5⟩) hS (fun _=>hE) ?rest5
    case hy5=>(intro x G6;(try dsimp only at G6);go_simp;try with_reducible rfl)
    (try simp only [Act.put])
    refine fZ 6 rfl hS (fun _=>hE) ?_;refine fZ 9 rfl hS (fun _=>hE) ?_;refine fZ 10 rfl hS (fun _=>hE) ?_;refine fZ 11 rfl hS (fun _=>hE) ?_;refine pF (i:=12) (v:=?v10) rfl (by kernel_rfl) (by kernel_rfl) (by kernel_rfl) (by kernel_rfl) (by kernel_rfl) (by kernel_rfl) (fun _ _ _ h=>h) (Or.inl ⟨by rfl,?hy10⟩) hS (fun _=>hE) ?rest10
    case hy10=>(intro x G6;(try dsimp only at G6);go_simp;try with_reducible rfl)
    (try simp only [Act.put])
    refine fZ 13 rfl hS (fun _=>hE) ?_;refine aG (rs:=[7,14]) (by kernel_rfl) (by simp) ?_;refine ai.cons rfl (fun K hK=>?_) ?_
    ·go_simp
     refine hK.out _ _ ⟨(iZ.out _ ((af.refl _ _).drew.alloc _)).1,fun _=>(iZ.out _ ((af.refl _ _).drew.alloc _)).2⟩ (fun hHeld=>?_);clear hK K;obtain ⟨hS,hE⟩:=hHeld;have hE:=hE (by kernel_rfl)
     (try simp only [Act.put,List.setIfInBounds_toArray,List.set_cons_zero,List.set_cons_succ])
     refine aG (rs:=[8,14]) (by kernel_rfl) (by simp) ?_;refine ai.cons rfl (fun K hK=>?_) ?_
     ·
      (refine step_append_lies _ (by rfl) (.tmp 64) (.tmp 66) 42 (by rfl) 0 77 tr _ 1 4 Tryz.underlying42 Jy.out.1 Jy.out.2.1 Jy.out.2.2.1 Jy.out.2.2.2 (by rfl) (by decide) (.slice ra refs.length rc) refs.length (aN refs) (by rfl) (HRR.out _ (by repeat (first | exact af.refl _ _ | refine af.drew ?_ | refine af.alloc ?_ _))) ⟨_,0,none⟩ 1 1 [.int .u32 r] (by rfl) (by rfl) (World.news_of_block (cs:=#[.int .u32 r]) (t:=77) (fr:=(0,0)) (by first | exact TY.out | exact TZ.out | exact Ua.out)) EC.out (by omega) (by unfold maxLen;omega) (by omega) (Nat.zero_le _) _ (by rfl) ?_;intro g1 jL w5 nV qy CZ yj;have jb:=Lib.hid (And.intro (af.grown (S:=(Value.slice ra refs.length rc).ownBlock.toList++(Value.slice xa tabs.length xc).ownBlock.toList) (w:=w3) (by repeat (first | exact af.refl _ _ | refine af.drew ?_ | refine af.alloc ?_ _)) qy (fun k hk=>.inl (by simp [hk]))) (And.intro (af.grown (S:=(Value.slice ra refs.length rc).ownBlock.toList) (w:=w3) (by repeat (first | exact af.refl _ _ | refine af.drew ?_ | refine af.alloc ?_ _)) qy (fun k hk=>.inl (by simp [hk]))) (And.intro nV (qV (w:=w3) (S:=[]) (by repeat (first | exact af.refl _ _ | refine af.drew ?_ | refine af.alloc ?_ _)) CZ))));have wJ:=Lib.hid qy;obtain ⟨q2,q3,q0,q1⟩:=HS.out w5 jb.out.1;obtain ⟨p2,p3',p0,p1⟩:=HS.out (w5.alloc (.cells #[.int .i64 n,.slice ta W tc] 121 (0,0))) (jb.out.1.alloc _);clear nV qy CZ yj)
      refine hK.out _ _ ⟨(iZ.out _ jb.out.1).1,fun _=>(iZ.out _ jb.out.1).2⟩ (fun hHeld=>?_);clear hK K;obtain ⟨hS,hE⟩:=hHeld;have hE:=hE (by kernel_rfl)
      (try simp only [Act.put,List.setIfInBounds_toArray])
      refine aG (rs:=[14]) (by kernel_rfl) (by simp) ?_;refine ai.cons rfl (fun K hK=>?_) ?_
      rotate_left
      exact ai.nil
      go_simp
      refine hK.out _ _ ⟨(iZ.out _ (jb.out.1.alloc _)).1,fun _=>(iZ.out _ (jb.out.1.alloc _)).2⟩ (fun hHeld=>?_);clear hK K;obtain ⟨hS,hE⟩:=hHeld;have hE:=hE (by kernel_rfl)
      (try simp only [Act.put,List.setIfInBounds_toArray,List.set_cons_zero,List.set_cons_succ])
      refine aG (rs:=[15]) (by kernel_rfl) (by simp) ?_;refine ai.cons rfl (fun K hK=>?_) ?_
      rotate_left
      exact ai.nil
      (refine step_append_lies _ (by rfl) (.tmp 71) (.tmp 73) 22 (by rfl) 0 121 tt _ 2 32 Tryz.underlying22 Jz.out.1 Jz.out.2.1 Jz.out.2.2.1 Jz.out.2.2.2 (by rfl) (by decide) (.slice xa tabs.length xc) tabs.length (dQ tabs cs) (by rfl) (Gm.out _ (by repeat (first | exact jb.out.2.1 | refine af.drew ?_ | refine af.alloc ?_ _))) ⟨_,0,none⟩ 1 1 [.int .i64 n,.slice ta W tc] (by rfl) (by rfl) (World.news_of_block (cs:=#[.int .i64 n,.slice ta W tc]) (t:=121) (fr:=(0,0)) (by first | exact heap_alloc_new _ _ | exact (wJ.out.block _ (aj Iz.out) (Vh.out _ (by omega))).trans Iz.out | exact (wJ.out.block _ (aj Vg.out) (Vh.out _ (by omega))).trans Vg.out)) lH.out (by omega) (by unfold maxLen;omega) (by omega) (Nat.zero_le _) _ (by rfl) ?_;intro g2 gV w6 sH wK l7 qh;have lu:=Lib.hid (And.intro (af.grown (S:=(Value.slice ra refs.length rc).ownBlock.toList++(Value.slice xa tabs.length xc).ownBlock.toList) (w:=w3) (by repeat (first | exact jb.out.1 | refine af.drew ?_ | refine af.alloc ?_ _)) wK (fun k hk=>.inl (by simp [hk]))) (And.intro (vJ (by repeat (first | exact af.refl _ _ | refine af.drew ?_ | refine af.alloc ?_ _)) wK jb.out.2.2.1 (fun k hk hq=>BQ jb.out.2.2.1 (Gm.out _ jb.out.2.1) (by decide) hk hq)) (And.intro sH (And.intro jb.out.2.2.2 (qV (w:=w3) (S:=(Value.slice ra refs.length rc).ownBlock.toList++(Value.slice xa tabs.length xc).ownBlock.toList) (by repeat (first | exact jb.out.1 | refine af.drew ?_ | refine af.alloc ?_ _)) l7)))));obtain ⟨Si,fz3,k2,k3⟩:=OJ.out w6 lu.out.1;clear sH wK l7 qh wJ jb)
      refine hK.out _ _ ⟨(iZ.out _ lu.out.1).1,fun _=>(iZ.out _ lu.out.1).2⟩ (fun hHeld=>?_);clear hK K;obtain ⟨hS,hE⟩:=hHeld;have hE:=hE (by kernel_rfl)
      (try simp only [Act.put,List.setIfInBounds_toArray])
      refine fZ 16 rfl hS (fun _=>hE) ?_;refine fZ 17 rfl hS (fun _=>hE) ?_;refine aG (rs:=[18]) (by kernel_rfl) (by simp) ?_;refine ai.cons rfl (fun K hK=>?_) ?_
      rotate_left
      exact ai.nil
      go_simp
      refine hK.out _ _ ⟨(by refine jg (Ub.out _ lu.out.1) ?_ _;assumption),fun h=>Je (by kernel_rfl) h⟩ (fun hHeld=>?_);clear hK K;obtain ⟨hS,_⟩:=hHeld
      (try simp only [Act.put,List.setIfInBounds_toArray,List.set_cons_zero,List.set_cons_succ])
      refine fZ 19 rfl hS (fun h=>Je (by kernel_rfl) h) ?_;refine fZ 20 rfl hS (fun h=>Je (by kernel_rfl) h) ?_;refine aG (rs:=[21]) (by kernel_rfl) (by simp) ?_;refine ai.cons rfl (fun K hK=>?_) ?_
      rotate_left
      exact ai.nil
      go_simp
      refine hK.out _ _ ⟨(by refine jg (jg (Ub.out _ lu.out.1) ?_ _) ?_ _ <;> assumption),fun h=>Je (by kernel_rfl) h⟩ (fun hHeld=>?_);clear hK K;obtain ⟨hS,_⟩:=hHeld
      (try simp only [Act.put,List.setIfInBounds_toArray,List.set_cons_zero,List.set_cons_succ])
      refine dJ (by kernel_rfl) ?_ _;go_wp2_with fail;go_ret;exact LZ.out _ _ _ _ _ lu.out.1 lu.out.2.1 lu.out.2.2.1 lu.out.2.2.2
     refine ai.cons rfl (fun K hK=>?_) ?_
     rotate_left
     exact ai.nil
     go_simp
     refine hK.out _ _ ⟨(iZ.out _ (((af.refl _ _).drew.alloc _).alloc _)).1,fun _=>(iZ.out _ (((af.refl _ _).drew.alloc _).alloc _)).2⟩ (fun hHeld=>?_);clear hK K;obtain ⟨hS,hE⟩:=hHeld;have hE:=hE (by kernel_rfl)
     (try simp only [Act.put,List.setIfInBounds_toArray,List.set_cons_zero,List.set_cons_succ])
     refine aG (rs:=[8]) (by kernel_rfl) (by simp) ?_;refine ai.cons rfl (fun K hK=>?_) ?_
     rotate_left
     exact ai.nil
     (refine step_append_lies _ (by rfl) (.tmp 64) (.tmp 66) 42 (by rfl) 0 77 tr _ 1 4 Tryz.underlying42 Jy.out.1 Jy.out.2.1 Jy.out.2.2.1 Jy.out.2.2.2 (by rfl) (by decide) (.slice ra refs.length rc) refs.length (aN refs) (by rfl) (HRR.out _ (by repeat (first | exact af.refl _ _ | refine af.drew ?_ | refine af.alloc ?_ _))) ⟨_,0,none⟩ 1 1 [.int .u32 r] (by rfl) (by rfl) (World.news_of_block (cs:=#[.int .u32 r]) (t:=77) (fr:=(0,0)) (by first | exact TY.out | exact TZ.out | exact Ua.out)) EC.out (by omega) (by unfold maxLen;omega) (by omega) (Nat.zero_le _) _ (by rfl) ?_;intro g1 jL w5 nV qy CZ yj;have jb:=Lib.hid (And.intro (af.grown (S:=(Value.slice ra refs.length rc).ownBlock.toList++(Value.slice xa tabs.length xc).ownBlock.toList) (w:=w3) (by repeat (first | exact af.refl _ _ | refine af.drew ?_ | refine af.alloc ?_ _)) qy (fun k hk=>.inl (by simp [hk]))) (And.intro (af.grown (S:=(Value.slice ra refs.length rc).ownBlock.toList) (w:=w3) (by repeat (first | exact af.refl _ _ | refine af.drew ?_ | refine af.alloc ?_ _)) qy (fun k hk=>.inl (by simp [hk]))) (And.intro nV (qV (w:=w3) (S:=[]) (by repeat (first | exact af.refl _ _ | refine af.drew ?_ | refine af.alloc ?_ _)) CZ))));have wJ:=Lib.hid qy;obtain ⟨q2,q3,q0,q1⟩:=HS.out w5 jb.out.1;obtain ⟨p2,p3',p0,p1⟩:=HS.out (w5.alloc (.cells #[.int .i64 n,.slice ta W tc] 121 (0,0))) (jb.out.1.alloc _);clear nV qy CZ yj)
     refine hK.out _ _ ⟨(iZ.out _ jb.out.1).1,fun _=>(iZ.out _ jb.out.1).2⟩ (fun hHeld=>?_);clear hK K;obtain ⟨hS,hE⟩:=hHeld;have hE:=hE (by kernel_rfl)
     (try simp only [Act.put,List.setIfInBounds_toArray])
     refine aG (rs:=[15]) (by kernel_rfl) (by simp) ?_;refine ai.cons rfl (fun K hK=>?_) ?_
     rotate_left
     exact ai.nil
     (refine step_append_lies _ (by rfl) (.tmp 71) (.tmp 73) 22 (by rfl) 0 121 tt _ 2 32 Tryz.underlying22 Jz.out.1 Jz.out.2.1 Jz.out.2.2.1 Jz.out.2.2.2 (by rfl) (by decide) (.slice xa tabs.length xc) tabs.length (dQ tabs cs) (by rfl) (Gm.out _ (by repeat (first | exact jb.out.2.1 | refine af.drew ?_ | refine af.alloc ?_ _))) ⟨_,0,none⟩ 1 1 [.int .i64 n,.slice ta W tc] (by rfl) (by rfl) (World.news_of_block (cs:=#[.int .i64 n,.slice ta W tc]) (t:=121) (fr:=(0,0)) (by first | exact heap_alloc_new _ _ | exact (wJ.out.block _ (aj Iz.out) (Vh.out _ (by omega))).trans Iz.out | exact (wJ.out.block _ (aj Vg.out) (Vh.out _ (by omega))).trans Vg.out)) lH.out (by omega) (by unfold maxLen;omega) (by omega) (Nat.zero_le _) _ (by rfl) ?_;intro g2 gV w6 sH wK l7 qh;have lu:=Lib.hid (And.intro (af.grown (S:=(Value.slice ra refs.length rc).ownBlock.toList++(Value.slice xa tabs.length xc).ownBlock.toList) (w:=w3) (by repeat (first | exact jb.out.1 | refine af.drew ?_ | refine af.alloc ?_ _)) wK (fun k hk=>.inl (by simp [hk]))) (And.intro (vJ (by repeat (first | exact af.refl _ _ | refine af.drew ?_ | refine af.alloc ?_ _)) wK jb.out.2.2.1 (fun k hk hq=>BQ jb.out.2.2.1 (Gm.out _ jb.out.2.1) (by decide) hk hq)) (And.intro sH (And.intro jb.out.2.2.2 (qV (w:=w3) (S:=(Value.slice ra refs.length rc).ownBlock.toList++(Value.slice xa tabs.length xc).ownBlock.toList) (by repeat (first | exact jb.out.1 | refine af.drew ?_ | refine af.alloc ?_ _)) l7)))));obtain ⟨Si,fz3,k2,k3⟩:=OJ.out w6 lu.out.1;clear sH wK l7 qh wJ jb)
     refine hK.out _ _ ⟨(iZ.out _ lu.out.1).1,fun _=>(iZ.out _ lu.out.1).2⟩ (fun hHeld=>?_);clear hK K;obtain ⟨hS,hE⟩:=hHeld;have hE:=hE (by kernel_rfl)
     (try simp only [Act.put])
     refine fZ 16 rfl hS (fun _=>hE) ?_;refine fZ 17 rfl hS (fun _=>hE) ?_;refine aG (rs:=[18]) (by kernel_rfl) (by simp) ?_;refine ai.cons rfl (fun K hK=>?_) ?_
     rotate_left
     exact ai.nil
     go_simp
     refine hK.out _ _ ⟨(by refine jg (Ub.out _ lu.out.1) ?_ _;assumption),fun h=>Je (by kernel_rfl) h⟩ (fun hHeld=>?_);clear hK K;obtain ⟨hS,_⟩:=hHeld
     (try simp only [Act.put,List.setIfInBounds_toArray,List.set_cons_zero,List.set_cons_succ])
     refine fZ 19 rfl hS (fun h=>Je (by kernel_rfl) h) ?_;refine fZ 20 rfl hS (fun h=>Je (by kernel_rfl) h) ?_;refine aG (rs:=[21]) (by kernel_rfl) (by simp) ?_;refine ai.cons rfl (fun K hK=>?_) ?_
     rotate_left
     exact ai.nil
     go_simp
     refine hK.out _ _ ⟨(by refine jg (jg (Ub.out _ lu.out.1) ?_ _) ?_ _ <;> assumption),fun h=>Je (by kernel_rfl) h⟩ (fun hHeld=>?_);clear hK K;obtain ⟨hS,_⟩:=hHeld
     (try simp only [Act.put,List.setIfInBounds_toArray,List.set_cons_zero,List.set_cons_succ])
     refine dJ (by kernel_rfl) ?_ _;go_wp2_with fail;go_ret;exact LZ.out _ _ _ _ _ lu.out.1 lu.out.2.1 lu.out.2.2.1 lu.out.2.2.2
    refine ai.cons rfl (fun K hK=>?_) ?_
    rotate_left
    exact ai.nil
    go_simp
    refine hK.out _ _ ⟨(iZ.out _ ((af.refl _ _).drew.alloc _)).1,fun _=>(iZ.out _ ((af.refl _ _).drew.alloc _)).2⟩ (fun hHeld=>?_);clear hK K;obtain ⟨hS,hE⟩:=hHeld;have hE:=hE (by kernel_rfl)
    (try simp only [Act.put,List.setIfInBounds_toArray,List.set_cons_zero,List.set_cons_succ])
    refine aG (rs:=[7]) (by kernel_rfl) (by simp) ?_;refine ai.cons rfl (fun K hK=>?_) ?_
    rotate_left
    exact ai.nil
    go_simp
    refine hK.out _ _ ⟨(iZ.out _ (((af.refl _ _).drew.alloc _).alloc _)).1,fun _=>(iZ.out _ (((af.refl _ _).drew.alloc _).alloc _)).2⟩ (fun hHeld=>?_);clear hK K;obtain ⟨hS,hE⟩:=hHeld;have hE:=hE (by kernel_rfl)
    (try simp only [Act.put,List.setIfInBounds_toArray,List.set_cons_zero,List.set_cons_succ])
    refine aG (rs:=[8]) (by kernel_rfl) (by simp) ?_;refine ai.cons rfl (fun K hK=>?_) ?_
    rotate_left
    exact ai.nil
    (refine step_append_lies _ (by rfl) (.tmp 64) (.tmp 66) 42 (by rfl) 0 77 tr _ 1 4 Tryz.underlying42 Jy.out.1 Jy.out.2.1 Jy.out.2.2.1 Jy.out.2.2.2 (by rfl) (by decide) (.slice ra refs.length rc) refs.length (aN refs) (by rfl) (HRR.out _ (by repeat (first | exact af.refl _ _ | refine af.drew ?_ | refine af.alloc ?_ _))) ⟨_,0,none⟩ 1 1 [.int .u32 r] (by rfl) (by rfl) (World.news_of_block (cs:=#[.int .u32 r]) (t:=77) (fr:=(0,0)) (by first | exact TY.out | exact TZ.out | exact Ua.out)) EC.out (by omega) (by unfold maxLen;omega) (by omega) (Nat.zero_le _) _ (by rfl) ?_;intro g1 jL w5 nV qy CZ yj;have jb:=Lib.hid (And.intro (af.grown (S:=(Value.slice ra refs.length rc).ownBlock.toList++(Value.slice xa tabs.length xc).ownBlock.toList) (w:=w3) (by repeat (first | exact af.refl _ _ | refine af.drew ?_ | refine af.alloc ?_ _)) qy (fun k hk=>.inl (by simp [hk]))) (And.intro (af.grown (S:=(Value.slice ra refs.length rc).ownBlock.toList) (w:=w3) (by repeat (first | exact af.refl _ _ | refine af.drew ?_ | refine af.alloc ?_ _)) qy (fun k hk=>.inl (by simp [hk]))) (And.intro nV (qV (w:=w3) (S:=[]) (by repeat (first | exact af.refl _ _ | refine af.drew ?_ | refine af.alloc ?_ _)) CZ))));have wJ:=Lib.hid qy;obtain ⟨q2,q3,q0,q1⟩:=HS.out w5 jb.out.1;obtain ⟨p2,p3',p0,p1⟩:=HS.out (w5.alloc (.cells #[.int .i64 n,.slice ta W tc] 121 (0,0))) (jb.out.1.alloc _);clear nV qy CZ yj)
    refine hK.out _ _ ⟨(iZ.out _ jb.out.1).1,fun _=>(iZ.out _ jb.out.1).2⟩ (fun hHeld=>?_);clear hK K;obtain ⟨hS,hE⟩:=hHeld;have hE:=hE (by kernel_rfl)
    (try simp only [Act.put,List.setIfInBounds_toArray])
    refine aG (rs:=[15]) (by kernel_rfl) (by simp) ?_;refine ai.cons rfl (fun K hK=>?_) ?_
    rotate_left
    exact ai.nil
    (refine step_append_lies _ (by rfl) (.tmp 71) (.tmp 73) 22 (by rfl) 0 121 tt _ 2 32 Tryz.underlying22 Jz.out.1 Jz.out.2.1 Jz.out.2.2.1 Jz.out.2.2.2 (by rfl) (by decide) (.slice xa tabs.length xc) tabs.length (dQ tabs cs) (by rfl) (Gm.out _ (by repeat (first | exact jb.out.2.1 | refine af.drew ?_ | refine af.alloc ?_ _))) ⟨_,0,none⟩ 1 1 [.int .i64 n,.slice ta W tc] (by rfl) (by rfl) (World.news_of_block (cs:=#[.int .i64 n,.slice ta W tc]) (t:=121) (fr:=(0,0)) (by first | exact heap_alloc_new _ _ | exact (wJ.out.block _ (aj Iz.out) (Vh.out _ (by omega))).trans Iz.out | exact (wJ.out.block _ (aj Vg.out) (Vh.out _ (by omega))).trans Vg.out)) lH.out (by omega) (by unfold maxLen;omega) (by omega) (Nat.zero_le _) _ (by rfl) ?_;intro g2 gV w6 sH wK l7 qh;have lu:=Lib.hid (And.intro (af.grown (S:=(Value.slice ra refs.length rc).ownBlock.toList++(Value.slice xa tabs.length xc).ownBlock.toList) (w:=w3) (by repeat (first | exact jb.out.1 | refine af.drew ?_ | refine af.alloc ?_ _)) wK (fun k hk=>.inl (by simp [hk]))) (And.intro (vJ (by repeat (first | exact af.refl _ _ | refine af.drew ?_ | refine af.alloc ?_ _)) wK jb.out.2.2.1 (fun k hk hq=>BQ jb.out.2.2.1 (Gm.out _ jb.out.2.1) (by decide) hk hq)) (And.intro sH (And.intro jb.out.2.2.2 (qV (w:=w3) (S:=(Value.slice ra refs.length rc).ownBlock.toList++(Value.slice xa tabs.length xc).ownBlock.toList) (by repeat (first | exact jb.out.1 | refine af.drew ?_ | refine af.alloc ?_ _)) l7)))));obtain ⟨Si,fz3,k2,k3⟩:=OJ.out w6 lu.out.1;clear sH wK l7 qh wJ jb)
    refine hK.out _ _ ⟨(iZ.out _ lu.out.1).1,fun _=>(iZ.out _ lu.out.1).2⟩ (fun hHeld=>?_);clear hK K;obtain ⟨hS,hE⟩:=hHeld;have hE:=hE (by kernel_rfl)
    (try simp only [Act.put])
    refine fZ 16 rfl hS (fun _=>hE) ?_;refine fZ 17 rfl hS (fun _=>hE) ?_;refine aG (rs:=[18]) (by kernel_rfl) (by simp) ?_;refine ai.cons rfl (fun K hK=>?_) ?_
    rotate_left
    exact ai.nil
    go_simp
    refine hK.out _ _ ⟨(by refine jg (Ub.out _ lu.out.1) ?_ _;assumption),fun h=>Je (by kernel_rfl) h⟩ (fun hHeld=>?_);clear hK K;obtain ⟨hS,_⟩:=hHeld
    (try simp only [Act.put,List.setIfInBounds_toArray,List.set_cons_zero,List.set_cons_succ])
    refine fZ 19 rfl hS (fun h=>Je (by kernel_rfl) h) ?_;refine fZ 20 rfl hS (fun h=>Je (by kernel_rfl) h) ?_;refine aG (rs:=[21]) (by kernel_rfl) (by simp) ?_;refine ai.cons rfl (fun K hK=>?_) ?_
    rotate_left
    exact ai.nil
    go_simp
    refine hK.out _ _ ⟨(by refine jg (jg (Ub.out _ lu.out.1) ?_ _) ?_ _ <;> assumption),fun h=>Je (by kernel_rfl) h⟩ (fun hHeld=>?_);clear hK K;obtain ⟨hS,_⟩:=hHeld
    (try simp only [Act.put,List.setIfInBounds_toArray,List.set_cons_zero,List.set_cons_succ])
    refine dJ (by kernel_rfl) ?_ _;go_wp2_with fail;go_ret;exact LZ.out _ _ _ _ _ lu.out.1 lu.out.2.1 lu.out.2.2.1 lu.out.2.2.2
theorem L6 {w:World} {g i:Nat} {v:Option Value} (h:w.cell? ⟨g,i,none⟩=v):w.cell? ((⟨g,0,none⟩ : Addr).add i)=v:=by
 rw [<- h];unfold Addr.add;simp;split <;> simp_all
theorem IB {w:World} {g i:Nat} {v:Option Value} (h:w.cell? ⟨g,i+1,none⟩=v):w.cell? (((⟨g,0,none⟩ : Addr).add i).add 1)=v:=by
 rw [<- h];unfold Addr.add;simp;split <;> simp_all
structure nz (w:World) (v:Value) (L:List TV):Prop where
 ex:∃ (A:Option Addr) (c:Nat),v=.slice A L.length c/\L.length<=maxLen/\∀ i t,L[i]?=some t->∃ (x:Addr) (d:Value),A=some x/\w.cell? (x.add (i*2))=some (.int .i64 t.n)/\w.cell? ((x.add (i*2)).add 1)=some d/\∃ N,fO w [N] d t
theorem nz.keep0 {w w':World} {v:Value} {L:List TV} (h:nz w v L) (u:af [] w w'):nz w' v L:=by
 obtain ⟨A,c,e,hm,ha⟩:=h.ex;refine ⟨A,c,e,hm,fun i t ht=>?_⟩;obtain ⟨x,d,h1,h2,h3,N,h4⟩:=ha i t ht;exact ⟨x,d,h1,u.cell0 h2,u.cell0 h3,N,h4.keep0 u⟩
structure Uc (K:KV) (M:MV) (t:TV) (r:Nat) (code:Int) (K':KV):Prop where
 ce:code=M.ansE t
 ext:K.Ext K'
 km:KM K' (M.ans t)
 yes:code=0->Names K' r t/\∀ x,K'.hold x=K.hold x+if x=r/\2<=r then 1 else 0
 no:code≠0->∀ x,K'.hold x=K.hold x
 tr:(M.ans t).trail=[]
 hl:(M.ans t).held.length<=M.held.length+1
theorem Uc.of {K K':KV} {M:MV} {t:TV} {r:Nat} {code:Int} (h:KM K M) (hk:K.Ok) (hu:K.Uni) (dD:K'.Ok) (iF:K'.Uni) (ht:t.Ok) (nH:t.n=K.vars) (hl:M.held.length+1<=65536) (hb:∀ x,K.hold x<65000) (h1:M.trail=[]) (h2:K'.trail=[])
  (L:Eu K (K.SubN t.fn) t.fn r code K'):Uc K M t r code K':=by
 have hn:=h.n16
 have hh:¬ 65535<=M.holds t:=by
  by_cases hr:∃ s,Names K s t
  ·obtain ⟨s,hs⟩:=hr
   rw [h.agr.holds hk hu ht nH hs];have:=hb s;omega
  ·rw [h.agr.holds0 fun s hs=>hr ⟨s,hs⟩];omega
 rcases L with ⟨rfl,e,t1,d,hd,_⟩ | ⟨rfl,rfl,e,e',hd,bM⟩
 ·have hr:Names K' r t:=⟨t1,d⟩
  obtain ⟨_,a2⟩:=h.agr.step hk hu dD iF hn ht nH e hr hd;have hf:=h.agr.fits_yes hk dD iF hn ht nH e hr hd
  have hE:M.ansE t=0:=by unfold MV.ansE;rw [if_neg hh,if_pos hf]
  have hA:M.ans t={ M.hold1 t with trail:=[] }:=by unfold MV.ans;rw [if_pos hE]
  refine ⟨hE.symm,e,?_,fun _=>⟨hr,hd⟩,fun hc=>absurd rfl hc,by rw [hA],?_⟩
  ·rw [hA]
   exact ⟨a2.retrail [],(h.fit.hold1 hl ht (nH.trans h.agr.same.n.symm)).retrail [],h2,MV.TrFit.nil rfl⟩
  ·rw [hA];exact MV.hold1_len M t
 ·have hf:=h.agr.fits_no hk hn ht nH bM
  have hE:M.ansE t=9:=by unfold MV.ansE;rw [if_neg hh,if_neg (by rw [hf];simp)]
  have hA:M.ans t=M:=by unfold MV.ans;rw [if_neg (by rw [hE];decide)]
  refine ⟨hE.symm,e,?_,fun hc=>absurd hc (by decide),fun _=>hd,by rw [hA];exact h1,by rw [hA];omega⟩;rw [hA];exact ⟨h.agr.same_kernel hk e hd,h.fit,h2.trans h1.symm,h.tf⟩
theorem ni.ext {K K':KV} {M M':MV} {refs:List Nat} {tabs:List TV} (l:ni K M refs tabs) (hk:K.Ok) (e:K.Ext K') (h:KM K' M'):ni K' M' refs tabs :=
 ⟨h,l.lr,l.rb,fun t ht=>by rw [e.vr];exact l.ok t ht,fun i r t h1 h2=>(l.nm i r t h1 h2).ext hk e⟩
theorem ni.push {K:KV} {M:MV} {refs:List Nat} {tabs:List TV} {r:Nat} {t:TV} (l:ni K M refs tabs) (hr:refs.length<40) (ht:t.Ok) (nH:t.n=K.vars) (hn:Names K r t):ni K M (refs++[r]) (tabs++[t]):=by
 refine ⟨l.km,by simp [l.lr],by simp;omega,fun u hu=>?_,fun i s u h1 h2=>?_⟩
 ·rcases List.mem_append.1 hu with h | h
  ·exact l.ok u h
  ·simp at h;subst h;exact ⟨ht,nH⟩
 ·have hl:=l.lr
  by_cases hi:i<refs.length
  ·rw [List.getElem?_append_left hi] at h1
   rw [List.getElem?_append_left (by omega)] at h2;exact l.nm i s u h1 h2
  ·rw [List.getElem?_append_right (by omega)] at h1
   rw [List.getElem?_append_right (by omega)] at h2
   have:i=refs.length:=by
    have h3:=(List.getElem?_eq_some_iff.1 h1).1
    simp at h3;omega
   subst this;rw [hl] at h2
   simp at h1 h2;subst h1 h2
   exact hn
theorem wH.push {K K':KV} {refs:List Nat} {r:Nat} (h:wH K refs) (hd:∀ x,K'.hold x=K.hold x+if x=r/\2<=r then 1 else 0):wH K' (refs++[r]):=fun x hx=>by
 rw [hd,h x hx,List.count_append,List.count_singleton]
 by_cases e:x=r
 ·subst e;simp [hx]
 ·have:¬ r=x:=fun h=>e h.symm
  simp [e,this]
theorem ni.stay {K K':KV} {M M':MV} {refs:List Nat} {tabs:List TV} (l:ni K M refs tabs) (c:wH K refs) (dD:K'.Ok) (s:lD K K') (h:KM K' M'):ni K' M' refs tabs/\wH K' refs:=by
 refine ⟨⟨h,l.lr,l.rb,fun t ht=>by rw [s.vr];exact l.ok t ht,fun i r t h1 h2=>?_⟩,fun x hx=>by rw [s.hd];exact c x hx⟩;have hn:=l.nm i r t h1 h2
 have hr:0<K.hold r\/r<2:=by
  by_cases h2:r<2
  ·exact .inr h2
  ·rw [c r (by omega)]
   exact .inl (List.count_pos_iff.2 (List.mem_of_getElem? h1))
 refine ⟨?_,fun y=>by rw [s.den r hr];exact hn.2 y⟩
 rcases hr with hr | hr
 ·exact (dD.wf.ht r (by rw [s.hd];exact hr)).2
 ·exact dD.tk_const hr
def nM (s:MV × List TV) (t:TV):MV × List TV:=if s.1.ansE t=0 then (s.1.ans t,s.2++[t]) else s
def l9 (n c:Nat) (L:List TV):MV × List TV:=L.foldl nM (MV.new n c,[])
theorem y9 {n c i:Nat} {L:List TV} {t:TV} (h:L[i]?=some t):l9 n c (L.take (i+1))=nM (l9 n c (L.take i)) t:=by
 unfold l9;rw [List.take_add_one,h];simp
theorem sJ (s:MV × List TV) (t:TV):(nM s t).1=s.1.ans t:=by
 unfold nM
 by_cases h:s.1.ansE t=0
 ·rw [if_pos h]
 ·rw [if_neg h];unfold MV.ans;rw [if_neg h]
theorem sK (s:MV × List TV) (t:TV):(nM s t).2=if s.1.ansE t=0 then s.2++[t] else s.2:=by
 unfold nM;split <;> rfl
def MV.exchs (M:MV) (l:List Int):MV:=l.foldl MV.exch M
theorem MV.exchs_succ {M:MV} {i:Nat} {L:List Int} (h:i<L.length):M.exchs (L.take (i+1))=(M.exchs (L.take i)).exch (L.getD i 0):=by
 unfold MV.exchs;rw [List.take_add_one,List.getElem?_eq_getElem h,List.getD_eq_getElem?_getD,List.getElem?_eq_getElem h,List.foldl_append];rfl
theorem MV.exch_trail (M:MV) (l:Int):(M.exch l).trail.length<=M.trail.length+1/\(M.exch l).held=M.held:=by
 unfold MV.exch;split
 ·simp
 ·exact ⟨by omega,rfl⟩
end Go.Proofs.YtdackeldhdchaaaGreat
