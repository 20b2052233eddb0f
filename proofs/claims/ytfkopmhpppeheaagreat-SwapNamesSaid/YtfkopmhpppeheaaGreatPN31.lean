import Derived.Test.YtfkopmhpppeheaaGreatPN30
import Derived.Test.YtfkopmhpppeheaaGreatPN29
set_option maxRecDepth 100000
set_option maxHeartbeats 6400000
namespace Go.Proofs.YtfkopmhpppeheaaGreat
open Go.RowKit Go.Maps Go.ChangeMaps Go.WideShapes
structure aaY (n0 a b m:Nat) (K:KV) (F:List Nat) (M:MV) (p:bG) (refs:List Nat) (tabs:List TV) (r:Nat) (t:TV) (w:World) (e:Ending) (w':World):Prop where
 ex:∃ rv tv:Value,e=.returned (.bool true)/\Em w' n0 a b m rv tv K F M p (refs++[r]) (tabs++[t])/\wQ n0 w w'
structure DD (n W:Nat) (t:TV) (w0:World) (s7 s8:Value) (wc:World):Prop where
 ex:∃ (B:Nat) (ga:Option Addr) (gc:Nat),s7=.pointer (some ⟨B,0,none⟩)/\s8=.bool true/\wc.heap[B]?=some (.cells #[.int .i64 n,.slice ga W gc] 122 (0,0))/\jG wc [] (.slice ga W gc) t/\af [] w0 wc
theorem DD.of1 {n W gc:Nat} {t:TV} {ga:Option Addr} {w0 w1 x:World} (h:rV x w1 (.slice ga W gc) t) (u:af [] w0 w1):DD n W t w0 (.pointer (some ⟨w1.heap.size,0,none⟩)) (.bool true) (w1.alloc (.cells #[.int .i64 n,.slice ga W gc] 122 (0,0))) :=
 ⟨_,ga,gc,rfl,rfl,heap_alloc_new _ _,(h.tin (Z:=[]) (by simp)).keep0 ((af.refl _ _).alloc _),u.alloc _⟩
theorem DD.of2 {n W gc:Nat} {t:TV} {ga:Option Addr} {w0 w1 x:World} (hb:w1.heap[w0.heap.size]?=some (.cells #[.int .i64 0,.slice none 0 0] 122 (0,0))) (h:rV x w1 (.slice ga W gc) t) (u:af [] w0 w1) :
  DD n W t w0 (.pointer (some ⟨w0.heap.size,0,none⟩)) (.bool true) ((w1.setCell ⟨w0.heap.size,0,none⟩ (.int .i64 n)).setCell ⟨w0.heap.size,1,none⟩ (.slice ga W gc)):=by
 have e1:=aB (j:=0) hb (.int .i64 n);have e2:=aB (j:=1) e1 (.slice ga W gc);refine ⟨_,ga,gc,rfl,rfl,e2,?_,(u.setCell (p:=⟨w0.heap.size,0,none⟩) (.inr (Nat.le_refl _)) _).setCell (p:=⟨w0.heap.size,1,none⟩) (.inr (Nat.le_refl _)) _⟩
 exact (h.tin (Z:=[]) (by simp)).foreign (((af.refl [w0.heap.size] w1).setCell (p:=⟨w0.heap.size,0,none⟩) (.inl (by simp)) _).setCell (p:=⟨w0.heap.size,1,none⟩) (.inl (by simp)) _) fun k hk=>by simp at hk;subst hk;exact ⟨_,_,_,hb,by decide⟩
theorem Ro {K:KV} (hk:K.Ok) (hu:K.Uni) {r s:Nat} {t u:TV} (h1:Names K r t) (h2:Names K s u) (ht:t.Ok) (jy:u.Ok) (e:t.n=u.n):(decide (u=t) != decide (s=r))=false:=by
 by_cases h:u=t
 ·subst h
  have:=Names.eq hk hu h1 h2
  subst this;simp
 ·have hne:s≠r:=fun e2=>by
   subst e2;exact h (Names.teq h2 h1 jy ht e.symm)
  simp [h,hne]
theorem Rq (n0 a b m:Nat) (rv tv:Value) (K:KV) (F:List Nat) (M:MV) (p:bG) (refs:List Nat) (tabs:List TV) (r:Nat) (c:Value) (t:TV) (w:World) (h:Em w n0 a b m rv tv K F M p refs tabs) (l:x9 K M refs tabs) (ht:jG w (F++p.all m) c t) (vg:t.n=K.vars) (hnm:Names K r t) :
  Calls Tryz.prog 63 #[.pointer (some ⟨a,0,none⟩),.int .u32 r,dI t c] w fun e w'=>aaY n0 a b m K F M p refs tabs r t w e w':=by
 obtain ⟨ra,rc,rfl,_⟩:=aj h.mem.rr;obtain ⟨xa,xc,rfl,hxa⟩:=h.mem.tt.form;obtain ⟨ta,tc,rfl,_⟩:=aj ht.row;have HL:=Lib.hid h;have Zf:=Lib.hid l;have HT:=Lib.hid ht;have HNM:=Lib.hid hnm
 have hv8:K.vars<=8:=by rw [<- l.km.agr.same.n];exact l.km.fit.n6
 have hMn:M.n=K.vars:=l.km.agr.same.n;have jR:=Lib.hid ((af.refl [] w).alloc (.cells #[.int .i64 t.n,.slice ta t.ws.length tc] 122 (0,0)));have hb:=nH w (.int .i64 t.n) (.slice ta t.ws.length tc)
 have Jw:Hid (∀ z,af [] w z->Calls Tryz.prog 140 #[.pointer (some ⟨b,0,none⟩),.int .i64 K.vars,.int .u32 r] z fun e w'=>aav t z e w'):=fun z u=>by
  have e:K.tab r=t:=h.mem.ker.ok.tab_eq (by omega) hnm.1 ht.ok vg hnm.2;rw [<- e];exact EK b r K F z (h.mem.ker.upd u (by simp)) hnm.1 hv8
 have BN:Hid (∀ (z:World) (Z1 Z2:List Nat) (c1 c2:Value) (t1 t2:TV),jG z Z1 c1 t1->jG z Z2 c2 t2->Calls Tryz.prog 57 #[dI t1 c1,dI t2 c2] z fun e w'=>e=.returned (.bool (decide (t1=t2)))/\af [] z w'):=fun z Z1 Z2 c1 c2 t1 t2 h1 h2 =>
  mJ [] c1 c2 t1 t2 z ⟨h1.ok,h1.row,by simp⟩ ⟨h2.ok,h2.row,by simp⟩
 have HC:Hid (∀ z,af [] w z->z.cell? ⟨a,0,none⟩=some (.pointer (some ⟨b,0,none⟩))/\z.cell? ⟨a,1,none⟩=some (.pointer (some ⟨m,0,none⟩))/\z.cell? ⟨a,2,none⟩=some (.slice ra refs.length rc)/\z.cell? ⟨a,3,none⟩=some (.slice xa tabs.length xc)/\z.cell? ⟨m,0,none⟩=some (.int .i64 K.vars)):=fun z u=>by
  obtain ⟨c0,c1,c2,c3⟩:=h.cells;have hm0:=h.mem.mod.cells.1;rw [hMn] at hm0;exact ⟨u.cell0 c0,u.cell0 c1,u.cell0 c2,u.cell0 c3,u.cell0 hm0⟩
 have hB1:∀ k,((Value.slice ra refs.length rc).ownBlock=some k\/(Value.slice xa tabs.length xc).ownBlock=some k)->k<w.heap.size/\k≠a:=fun k hk=>by
  rcases hk with hk | hk
  ·refine ⟨(h.mem.rr.lt k hk).2,fun e=>?_⟩
   subst e;exact pG h.mem.rr h.blk (by decide) hk
  ·obtain ⟨xs,hr⟩:=h.mem.tt.row
   refine ⟨(hr.lt k hk).2,fun e=>?_⟩;subst e;exact pG hr h.blk (by decide) hk
 have Af:=Lib.hid hB1;have haw:a<w.heap.size:=ah h.blk;obtain ⟨kv,Nl⟩ : ∃ kv,K.vars=kv:=⟨_,rfl⟩;have QH:=Lib.hid Nl;rw [Nl] at Jw HC hv8
 have hn:t.n=kv:=by rw [vg,Nl]
 obtain ⟨n,hnn⟩ : ∃ n,t.n=n:=⟨_,rfl⟩;obtain ⟨W,hW⟩ : ∃ W,t.ws.length=W:=⟨_,rfl⟩;have HN:=Lib.hid hnn;have XC:=Lib.hid hW
 have HNK:Hid (n=kv):=by show _=_;omega
 rw [hnn,hW] at jR hb
 have HX0:Hid (∀ z,af [] (w.alloc (.cells #[.int .i64 n,.slice ta W tc] 122 (0,0))) z->z.cell? ⟨w.heap.size,0,none⟩=some (.int .i64 n)/\z.cell? ⟨w.heap.size,1,none⟩=some (.slice ta W tc)):=fun z u=>dw u hb
 show Calls _ _ #[.pointer (some ⟨a,0,none⟩),.int .u32 r,.agg #[.int .i64 t.n,.slice ta t.ws.length tc]] _ _
 rw [hnn,hW]
 have htw:W<=1024:=by rw [<- hW];exact ht.ok.len_le
 clear h l ht hnm hMn hb Nl vg hnn hW hn hB1
 go_enter Tryz.func63,Tryz.ntmps63
 obtain ⟨w0,AZ⟩ : ∃ w0,w.alloc (.cells #[.int .i64 n,.slice ta W tc] 122 (0,0))=w0:=⟨_,rfl⟩;rw [AZ] at jR HX0;have Xr:=Lib.hid AZ;clear AZ
 have nN:Hid (∀ z,af [] w0 z->z.cell? ⟨a,0,none⟩=some (.pointer (some ⟨b,0,none⟩))/\z.cell? ⟨a,1,none⟩=some (.pointer (some ⟨m,0,none⟩))/\z.cell? ⟨m,0,none⟩=some (.int .i64 kv)):=fun z u=>by
  obtain ⟨c0,c1,_,_,c4⟩:=HC.out z (jR.out.trans u);exact ⟨c0,c1,c4⟩
 have Yd:=Lib.hid (Jw.out w0.drew jR.out.drew);go_upto_region 1 with fail;rw [Xr.out]
 go_cut [7,8] from 11 to 26 (fun s7 s8 wc=>DD n W t w0 s7 s8 wc)
 case first =>
  refine fZ (fun z=>z.cell? ⟨a,0,none⟩=some (.pointer (some ⟨b,0,none⟩))/\z.cell? ⟨a,1,none⟩=some (.pointer (some ⟨m,0,none⟩))/\z.cell? ⟨m,0,none⟩=some (.int .i64 kv)) (fun _=>True) [] (by kernel_rfl) ?_;have hS:=nN.out _ (af.refl _ _).drew;have hE:True:=trivial;refine dN 0 rfl hS (fun _=>hE) ?_;refine dN 1 rfl hS (fun _=>hE) ?_;refine dN 2 rfl hS (fun _=>hE) ?_;refine dN 3 rfl hS (fun _=>hE) ?_;refine dN 4 rfl hS (fun _=>hE) ?_;refine dN 5 rfl hS (fun _=>hE) ?_;refine dN 6 rfl hS (fun _=>hE) ?_;refine dN 7 rfl hS (fun _=>hE) ?_;refine dN 8 rfl hS (fun _=>hE) ?_;refine dN 9 rfl hS (fun _=>hE) ?_;refine dN 10 rfl hS (fun _=>hE) ?_;refine dN 11 rfl hS (fun _=>hE) ?_;refine aJ (rs:=[12,16]) (by kernel_rfl) (by simp) ?_;refine ay.cons rfl (fun Kx hK=>?_) ?_
  ·
   go_simp
   refine (Jw.out _ (jR.out.trans (af.refl [] w0).drew)).mono ?_;rintro e w1 zW;obtain ⟨c1,rfl,Zg,hu⟩:=zW.ex;obtain ⟨ga,gc,rfl,_⟩:=aj Zg.row;have mG:Hid (af [] w0 w1):=af.trans (af.refl [] w0).drew hu;unfold dI;rw [XC.out] at Zg ⊢;rw [HN.out];have AX:=Lib.hid Zg;clear zW hu Zg;go_wp2_with fail;refine hK.out _ _ ⟨nN.out _ mG.out,fun _=>trivial⟩ (fun hHeld=>?_);clear hK Kx;obtain ⟨hS,hE⟩:=hHeld;have hE:=hE (by kernel_rfl)
   (try simp only [Act.put,List.setIfInBounds_toArray,List.set_cons_zero,List.set_cons_succ])
   refine dN 13 rfl hS (fun _=>hE) ?_;refine dN 14 rfl hS (fun _=>hE) ?_;refine dN 15 rfl hS (fun _=>hE) ?_;refine aJ (rs:=[16]) (by kernel_rfl) (by simp) ?_;refine ay.cons rfl (fun Kx hK=>?_) ?_
   rotate_left
   exact ay.nil
   go_simp
   refine hK.out _ _ ⟨nN.out _ (mG.out.alloc _),fun _=>trivial⟩ (fun hHeld=>?_);clear hK Kx;obtain ⟨hS,hE⟩:=hHeld;have hE:=hE (by kernel_rfl)
   (try simp only [Act.put,List.setIfInBounds_toArray,List.set_cons_zero,List.set_cons_succ])
   refine aJ (rs:=[17]) (by kernel_rfl) (by simp) ?_;refine ay.cons rfl (fun Kx hK=>?_) ?_
   rotate_left
   exact ay.nil
   go_simp
   refine hK.out _ _ ⟨nN.out _ (mG.out.alloc _),fun _=>trivial⟩ (fun hHeld=>?_);clear hK Kx;obtain ⟨hS,hE⟩:=hHeld;have hE:=hE (by kernel_rfl)
   (try simp only [Act.put,List.setIfInBounds_toArray,List.set_cons_zero,List.set_cons_succ])
   refine dN 18 rfl hS (fun _=>hE) ?_;refine fD (by kernel_rfl) ?_ _;clear hS hE
   (try go_simp)
   go_wp2_with fail;go_meet;exact DD.of1 AX.out mG.out
  refine ay.cons rfl (fun Kx hK=>?_) ?_
  rotate_left
  exact ay.nil
  go_simp
  refine hK.out _ _ ⟨nN.out _ ((af.refl [] w0).drew.alloc _),fun _=>trivial⟩ (fun hHeld=>?_);clear hK Kx;obtain ⟨hS,hE⟩:=hHeld;have hE:=hE (by kernel_rfl)
  (try simp only [Act.put,List.setIfInBounds_toArray,List.set_cons_zero,List.set_cons_succ])
  refine aJ (rs:=[12]) (by kernel_rfl) (by simp) ?_;refine ay.cons rfl (fun Kx hK=>?_) ?_
  rotate_left
  exact ay.nil
  go_simp
  refine (Jw.out _ (jR.out.trans ((af.refl [] w0).drew.alloc (.cells #[.int .i64 0,.slice none 0 0] 122 (0,0))))).mono ?_;rintro e w1 zW;obtain ⟨c1,rfl,Zg,hu⟩:=zW.ex;obtain ⟨ga,gc,rfl,_⟩:=aj Zg.row;have mG:Hid (af [] w0 w1):=af.trans ((af.refl [] w0).drew.alloc (.cells #[.int .i64 0,.slice none 0 0] 122 (0,0))) hu;unfold dI;rw [XC.out] at Zg ⊢;rw [HN.out];have AX:=Lib.hid Zg;have aY:=(hu.block w0.heap.size (by rw [World.size_alloc];show w0.heap.size<w0.heap.size+1;omega) (by simp)).trans (heap_alloc_new w0.drew (.cells #[.int .i64 0,.slice none 0 0] 122 (0,0)));have y0:=ae (j:=0) aY rfl;have y1:=ae (j:=1) aY rfl;have g0:=ax 0 aY;have g1:=ax 1 aY;have pO:=Lib.hid aY;clear zW hu Zg aY;go_wp2_with fail;refine hK.out _ _ ⟨nN.out _ mG.out,fun _=>trivial⟩ (fun hHeld=>?_);clear hK Kx;obtain ⟨hS,hE⟩:=hHeld;have hE:=hE (by kernel_rfl)
  (try simp only [Act.put,List.setIfInBounds_toArray,List.set_cons_zero,List.set_cons_succ])
  refine dN 13 rfl hS (fun _=>hE) ?_;refine dN 14 rfl hS (fun _=>hE) ?_;refine dN 15 rfl hS (fun _=>hE) ?_;refine aJ (rs:=[17]) (by kernel_rfl) (by simp) ?_;refine ay.cons rfl (fun Kx hK=>?_) ?_
  rotate_left
  exact ay.nil
  go_simp
  refine hK.out _ _ ⟨nN.out _ ((mG.out.setCell (p:=⟨w0.heap.size,0,none⟩) (.inr (Nat.le_refl _)) _).setCell (p:=⟨w0.heap.size,1,none⟩) (.inr (Nat.le_refl _)) _),fun _=>trivial⟩ (fun hHeld=>?_);clear hK Kx;obtain ⟨hS,hE⟩:=hHeld;have hE:=hE (by kernel_rfl)
  (try simp only [Act.put,List.setIfInBounds_toArray,List.set_cons_zero,List.set_cons_succ])
  refine dN 18 rfl hS (fun _=>hE) ?_;refine fD (by kernel_rfl) ?_ _;clear hS hE
  (try go_simp)
  go_wp2_with fail;go_meet;exact DD.of2 pO.out AX.out mG.out
 case rest =>
  obtain ⟨B,ga,gc,rfl,rfl,hbB,hTg,iq⟩:=hcut.ex;have HUC:=Lib.hid (jR.out.trans iq);have xe:=BN.out wc [] _ _ _ t t hTg (HT.out.keep0 HUC.out);unfold dI at xe;rw [XC.out,HN.out] at xe;rw [show decide (t=t)=true by simp] at xe;have Ai:=Lib.hid xe;have v0:=ae (j:=0) hbB rfl;have v1:=ae (j:=1) hbB rfl;obtain ⟨b0,b1⟩:=HX0.out wc iq;clear hcut hbB hTg iq xe;go_wp2_with fail;refine Ai.out.mono ?_;rintro e w2 ⟨rfl,hu⟩;have eF:=Lib.hid (HUC.out.trans hu)
  have Rt:Hid (∀ z,af [] w2 z->z.cell? ⟨w.heap.size,0,none⟩=some (.int .i64 n)/\z.cell? ⟨w.heap.size,1,none⟩=some (.slice ta W tc)):=fun z u=>⟨u.cell0 (hu.cell0 b0),u.cell0 (hu.cell0 b1)⟩
  obtain ⟨_,_,c2,c3,_⟩:=HC.out w2 eF.out;clear hu v0 v1 b0 b1;obtain ⟨TL,Jf⟩ : ∃ TL,tabs.length=TL:=⟨_,rfl⟩;have acK:=Lib.hid Jf
  have ao8:TL<=40:=by have h1:=Zf.out.lr;have h2:=Zf.out.rb;omega
  rw [Jf] at c3;clear Jf;go_wp2_with fail
  go_loopg [40] TL (fun gg s40 wr=>∃ i:Nat,TL-i=gg/\i<=TL/\s40=.int .i64 i/\af [] w2 wr)
  case atStart=>exact ⟨0,by omega,by omega,rfl,af.refl _ _⟩
  case round =>
   obtain ⟨i,rfl,hi,rfl,hU⟩:=hrel
   by_cases aW:i<TL
   ·have fF:(i:Int)<(TL:Int):=by omega
    have sG:(0:Int)<=(i:Int):=by omega
    obtain ⟨u,hu⟩ : ∃ u,tabs[i]?=some u:=⟨_,List.getElem?_eq_getElem (by have h:=acK.out;omega)⟩
    have rF:refs.length=TL:=by have h1:=Zf.out.lr;have h2:=acK.out;omega
    obtain ⟨s,hs⟩ : ∃ s,refs[i]?=some s:=⟨_,List.getElem?_eq_getElem (by omega)⟩;have HPI:=Lib.hid (HL.out.keep0 (eF.out.trans hU));obtain ⟨g,rfl⟩:=hxa (by have h:=acK.out;omega);obtain ⟨cu,x0,x1,uQ⟩:=HPI.out.mem.tt.at_ hu;obtain ⟨ua,uc,rfl,_⟩:=aj uQ.row;obtain ⟨gr,rfl⟩:=bC HPI.out.mem.rr (by omega);have z0:=au HPI.out.mem.rr (jZ hs)
    have uZ:u.n=n:=by have h1:=(Zf.out.ok u (List.mem_of_getElem? hu)).2;have h2:K.vars=kv:=QH.out;have h3:n=kv:=HNK.out;omega
    have Dk:(decide (u=t) != decide (s=r))=false:=Ro HL.out.mem.ker.ok HL.out.mem.ker.uni HNM.out (Zf.out.nm i s u hs hu) HT.out.ok (Zf.out.ok u (List.mem_of_getElem? hu)).1 (by rw [HN.out,uZ]);obtain ⟨du,hdu⟩ : ∃ du,decide (u=t)=du:=⟨_,rfl⟩
    have hdr:((s:Int) == (r:Int))=du:=by
     rw [hdu] at Dk
     have h2:decide (s=r)=du:=by cases du <;> simpa using Dk
     rw [<- h2,Bool.eq_iff_iff];simp;omega
    have hdd:(du != du)=false:=by simp
    obtain ⟨UW,MK⟩ : ∃ UW,u.ws.length=UW:=⟨_,rfl⟩;rw [uZ] at x0;rw [MK] at x1;have aY:=nH wr (.int .i64 n) (.slice ua UW uc);have uI:af [] wr (wr.alloc (.cells #[.int .i64 n,.slice ua UW uc] 122 (0,0))):=(af.refl _ _).alloc _;obtain ⟨w6,NW⟩ : ∃ w6,wr.alloc (.cells #[.int .i64 n,.slice ua UW uc] 122 (0,0))=w6:=⟨_,rfl⟩;rw [NW] at aY uI;have HW6:=Lib.hid NW
    have QG:Hid (∀ z,af [] w6 z->Calls Tryz.prog 57 #[.agg #[.int .i64 n,.slice ua UW uc],.agg #[.int .i64 n,.slice ta W tc]] z fun e w'=>e=.returned (.bool du)/\af [] z w'):=fun z uz=>by
     have h1:=BN.out z _ _ _ _ u t ((uQ.keep0 uI).keep0 uz) (HT.out.keep0 ((eF.out.trans hU).trans (uI.trans uz)));unfold dI at h1;rw [XC.out,HN.out,uZ,MK,hdu] at h1;exact h1
    have acM:Hid (∀ z,af [] w6 z->(z.cell? ⟨wr.heap.size,0,none⟩=some (.int .i64 n)/\z.cell? ⟨wr.heap.size,1,none⟩=some (.slice ua UW uc))/\(z.cell? ⟨w.heap.size,0,none⟩=some (.int .i64 n)/\z.cell? ⟨w.heap.size,1,none⟩=some (.slice ta W tc))/\z.cell? ⟨a,2,none⟩=some (.slice (some ⟨gr,0,none⟩) refs.length rc)/\z.cell? ⟨gr,i,none⟩=some (.int .u32 s)):=fun z uz =>
     ⟨dw uz aY,Rt.out z (hU.trans (uI.trans uz)),(HC.out z ((eF.out.trans hU).trans (uI.trans uz))).2.2.1,uz.cell0 (uI.cell0 z0)⟩
    have HUU:=Lib.hid (hU.trans uI)
    have agl:(i:Int)<(refs.length:Int):=by omega
    have agm:i<refs.length:=by omega
    rw [rF] at acM agl agm;clear hU hu hs uQ uZ Dk hdu MK uI NW z0 c2 agl agm rF;go_wp2_with fail;rw [HW6.out]
    go_region_held3 (fun z=>(z.cell? ⟨wr.heap.size,0,none⟩=some (.int .i64 n)/\z.cell? ⟨wr.heap.size,1,none⟩=some (.slice ua UW uc))/\(z.cell? ⟨w.heap.size,0,none⟩=some (.int .i64 n)/\z.cell? ⟨w.heap.size,1,none⟩=some (.slice ta W tc))/\z.cell? ⟨a,2,none⟩=some (.slice (some ⟨gr,0,none⟩) TL rc)/\z.cell? ⟨gr,i,none⟩=some (.int .u32 s)) (first | exact acM.out _ (af.refl _ _).drew | exact acM.out _ HU7.out) (first
     | (go_at_call 57;refine (QG.out _ (af.refl _ _).drew).mono ?_;rintro e w7 ⟨rfl,hu⟩;have HU7:=Lib.hid ((af.refl [] w6).drew.trans hu);clear hu))
    go_wp2_with fail
    go_roundg (TL-(i+1))
    case measure=>omega
    case rel=>exact ⟨i+1,rfl,by omega,by first | rfl | (rw [yP (by omega)]) | simp,HUU.out.trans HU7.out⟩
   ·obtain rfl:i=TL:=by omega
    have fF:¬ ((i:Int)<(i:Int)):=by omega
    generalize wr=w3 at *;have NY:=Lib.hid (And.intro (HL.out.keep0 (eF.out.trans hU)) (wQ.of0 (n0:=n0) (eF.out.trans hU)))
    have aly:Hid (jG w3 (F++p.all m) (.slice ta W tc) t):=by
     have h:=HT.out.keep0 (eF.out.trans hU)
     rw [XC.out] at h;exact h
    obtain ⟨b0,b1⟩:=Rt.out w3 hU;obtain ⟨c0,_,c2,c3,_⟩:=HC.out w3 (eF.out.trans hU)
    have HS:Hid (∀ x:World,af ((Value.slice ra refs.length rc).ownBlock.toList++(Value.slice xa tabs.length xc).ownBlock.toList) w3 x->x.cell? ⟨a,2,none⟩=some (.slice ra refs.length rc)/\x.cell? ⟨a,3,none⟩=some (.slice xa tabs.length xc)/\x.cell? ⟨w.heap.size,0,none⟩=some (.int .i64 n)/\x.cell? ⟨w.heap.size,1,none⟩=some (.slice ta W tc)):=fun x u=>by
     have no:∀ k,(k=a\/k=w.heap.size)->k∉(Value.slice ra refs.length rc).ownBlock.toList++(Value.slice xa tabs.length xc).ownBlock.toList:=fun k hk hm=>by
      have hm:(Value.slice ra refs.length rc).ownBlock=some k\/(Value.slice xa tabs.length xc).ownBlock=some k:=by simpa using hm
      have:=Af.out k hm
      rcases hk with rfl | rfl
      ·exact this.2 rfl
      ·omega
     exact ⟨(u.cell (World.block_lt_of_cell? _ _ c2) (no a (.inl rfl))).trans c2,(u.cell (World.block_lt_of_cell? _ _ c3) (no a (.inl rfl))).trans c3,(u.cell (World.block_lt_of_cell? _ _ b0) (no _ (.inr rfl))).trans b0,(u.cell (World.block_lt_of_cell? _ _ b1) (no _ (.inr rfl))).trans b1⟩
    clear hU Jw BN HC HX0 Rt nN Yd;go_upto_region 10 with fail;obtain ⟨cs,agn,agp,agq⟩:=NY.out.1.mem.tt.ex;obtain ⟨tr,LQ,Sv,rQ,hr3⟩:=info_parts Tryz.infoRefS;obtain ⟨tt,ht0,ht1,ht2,ht3⟩:=info_parts Tryz.infoTable;have Kr:=Lib.hid (And.intro LQ (And.intro Sv (And.intro rQ hr3)));have S9:=Lib.hid (And.intro ht0 (And.intro ht1 (And.intro ht2 ht3)));have Np:=Lib.hid (And.intro agn (And.intro agp agq))
    have HRR:Hid (∀ x:World,af (Value.slice xa tabs.length xc).ownBlock.toList w3 x->x.ownsRow 0 77 1 (.slice ra refs.length rc) refs.length (aI refs)):=fun x u=>ai NY.out.1.mem.rr fun k hk=>u.block k (NY.out.1.mem.rr.lt k hk).2 fun hm=>CZ NY.out.1.mem.rr Np.out.2.1 (by decide) hk (by simpa using hm)
    have Po:Hid (∀ x:World,af (Value.slice ra refs.length rc).ownBlock.toList w3 x->x.ownsRow 0 122 2 (.slice xa tabs.length xc) tabs.length (fV tabs cs)):=fun x u=>ai Np.out.2.1 fun k hk=>u.block k (Np.out.2.1.lt k hk).2 fun hm=>CZ Np.out.2.1 NY.out.1.mem.rr (by decide) hk (by simpa using hm)
    have Yv:Hid (∀ x:World,af ((Value.slice ra refs.length rc).ownBlock.toList++(Value.slice xa tabs.length xc).ownBlock.toList) w3 x->x.frozen? ⟨a,2,none⟩=false/\x.frozen? ⟨a,3,none⟩=false/\x.cell? ⟨a,2,none⟩=some (.slice ra refs.length rc)/\x.cell? ⟨a,3,none⟩=some (.slice xa tabs.length xc)):=fun x u=>by
     have no:a∉(Value.slice ra refs.length rc).ownBlock.toList++(Value.slice xa tabs.length xc).ownBlock.toList:=fun hm=>by
      rcases List.mem_append.1 hm with hm | hm
      ·exact pG NY.out.1.mem.rr NY.out.1.blk (by decide) (by simpa using hm)
      ·exact pG Np.out.2.1 NY.out.1.blk (by decide) (by simpa using hm)
     have hb:=(u.block a (ah NY.out.1.blk) no).trans NY.out.1.blk;exact ⟨ax 2 hb,ax 3 hb,ae hb rfl,ae hb rfl⟩
    have NR:Hid (∀ k,some k=(Value.slice ra refs.length rc).ownBlock->k<w3.heap.size):=fun k hk=>(NY.out.1.mem.rr.lt k hk.symm).2
    have Nq:Hid (∀ u,u∈[Value.int .u32 r]->u.oneCell'=true):=by intro u hu;simp at hu;subst hu;rfl
    have mg:Hid (∀ u,u∈[Value.int .i64 n,Value.slice ta W tc]->u.oneCell'=true):=by intro u hu;simp at hu;rcases hu with rfl | rfl <;> rfl
    have Hu:tabs.length<=500:=by have h1:=Zf.out.lr;have h2:=Zf.out.rb;omega
    have rF:refs.length<=500:=by have h2:=Zf.out.rb;omega
    clear LQ Sv rQ hr3 ht0 ht1 ht2 ht3 agn agp agq
    have V6:Hid (∀ (g1 oD g2 jc:Nat) (w6:World),af ((Value.slice ra refs.length rc).ownBlock.toList++(Value.slice xa tabs.length xc).ownBlock.toList) w3 w6->w6.ownsRow 0 77 1 (.slice (some ⟨g1,0,none⟩) (refs.length+1) oD) (refs.length+1) (aI refs++[.int .u32 r]) ->
      w6.ownsRow 0 122 2 (.slice (some ⟨g2,0,none⟩) (tabs.length+1) jc) (tabs.length+1) (fV tabs cs++[.int .i64 n,.slice ta W tc])->(((Value.slice ra refs.length rc).ownBlock=some g1\/w3.heap.size<=g1)/\((Value.slice xa tabs.length xc).ownBlock=some g2\/w3.heap.size<=g2)) ->
      aaY n0 a b m K F M p refs tabs r t w (.returned (.bool true)) ((w6.setCell ⟨a,2,none⟩ (.slice (some ⟨g1,0,none⟩) (refs.length+1) oD)).setCell ⟨a,3,none⟩ (.slice (some ⟨g2,0,none⟩) (tabs.length+1) jc))):=fun g1 oD g2 jc w6 u o1 o2 at_=>by
     rw [<- HN.out] at o2;obtain ⟨hl,hf⟩:=NY.out.1.push u Np.out.1 Np.out.2.2 o1 o2 at_.1 at_.2 aly.out;exact ⟨_,_,rfl,hl,NY.out.2.trans hf⟩
    obtain ⟨y02,y03,y00,y01⟩:=HS.out (w3.alloc (.cells #[.int .u32 r] 77 (0,0))) ((af.refl _ _).alloc _);obtain ⟨y12,y13,y10,y11⟩:=HS.out (w3.alloc (.cells #[.int .i64 n,.slice ta W tc] 122 (0,0))) ((af.refl _ _).alloc _);obtain ⟨y22,y23,y20,y21⟩:=HS.out ((w3.alloc (.cells #[.int .u32 r] 77 (0,0))).alloc (.cells #[.int .i64 n,.slice ta W tc] 122 (0,0))) (((af.refl _ _).alloc _).alloc _);obtain ⟨y32,y33,y30,y31⟩:=HS.out ((w3.alloc (.cells #[.int .i64 n,.slice ta W tc] 122 (0,0))).alloc (.cells #[.int .u32 r] 77 (0,0))) (((af.refl _ _).alloc _).alloc _)
    have Rt:Hid (((w3.alloc (.cells #[.int .u32 r] 77 (0,0))).alloc (.cells #[.int .i64 n,.slice ta W tc] 122 (0,0))).heap[w3.heap.size+1]?=some (.cells #[.int .i64 n,.slice ta W tc] 122 (0,0))):=by
     have h:=heap_alloc_new (w3.alloc (.cells #[.int .u32 r] 77 (0,0))) (.cells #[.int .i64 n,.slice ta W tc] 122 (0,0))
     rw [World.size_alloc] at h;exact h
    have HXC:Hid (((w3.alloc (.cells #[.int .i64 n,.slice ta W tc] 122 (0,0))).alloc (.cells #[.int .u32 r] 77 (0,0))).heap[w3.heap.size]?=some (.cells #[.int .i64 n,.slice ta W tc] 122 (0,0))):=(Below.heap_alloc _ _ _ (ah (heap_alloc_new _ _))).trans (heap_alloc_new _ _)
    have HNX:Hid (∀ k,w3.heap.size<=k->some k≠(Value.slice ra refs.length rc).ownBlock):=fun k hk e=>by have:=NR.out k e;omega
    have acN:Hid ((w3.alloc (.cells #[.int .u32 r] 77 (0,0))).heap[w3.heap.size]?=some (.cells #[.int .u32 r] 77 (0,0))):=heap_alloc_new _ _;have acO:Hid (((w3.alloc (.cells #[.int .u32 r] 77 (0,0))).alloc (.cells #[.int .i64 n,.slice ta W tc] 122 (0,0))).heap[w3.heap.size]?=some (.cells #[.int .u32 r] 77 (0,0))):=(Below.heap_alloc _ _ _ (ah (heap_alloc_new _ _))).trans (heap_alloc_new _ _)
    have acP:Hid (((w3.alloc (.cells #[.int .i64 n,.slice ta W tc] 122 (0,0))).alloc (.cells #[.int .u32 r] 77 (0,0))).heap[w3.heap.size+1]?=some (.cells #[.int .u32 r] 77 (0,0))):=by
     have h:=heap_alloc_new (w3.alloc (.cells #[.int .i64 n,.slice ta W tc] 122 (0,0))) (.cells #[.int .u32 r] 77 (0,0))
     rw [World.size_alloc] at h;exact h
    have HSB:Hid (∀ x:World,af ((Value.slice ra refs.length rc).ownBlock.toList++(Value.slice xa tabs.length xc).ownBlock.toList) w3 x->x.cell? ⟨w.heap.size,0,none⟩=some (.int .i64 n)/\x.cell? ⟨w.heap.size,1,none⟩=some (.slice ta W tc)):=fun x u=>⟨(HS.out x u).2.2.1,(HS.out x u).2.2.2⟩
    have hne:w.heap.size≠a:=by omega
    have nN:Hid (∀ x:World,af ((Value.slice ra refs.length rc).ownBlock.toList++(Value.slice xa tabs.length xc).ownBlock.toList) w3 x->(x.cell? ⟨w.heap.size,0,none⟩=some (.int .i64 n)/\x.cell? ⟨w.heap.size,1,none⟩=some (.slice ta W tc))/\x.cell? ⟨a,2,none⟩=some (.slice ra refs.length rc)/\x.cell? ⟨a,3,none⟩=some (.slice xa tabs.length xc)):=fun x u=>⟨HSB.out x u,(Yv.out x u).2.2.1,(Yv.out x u).2.2.2⟩
    refine fZ (fun x=>x.cell? ⟨w.heap.size,0,none⟩=some (.int .i64 n)/\x.cell? ⟨w.heap.size,1,none⟩=some (.slice ta W tc)) (fun x=>x.cell? ⟨a,2,none⟩=some (.slice ra refs.length rc)/\x.cell? ⟨a,3,none⟩=some (.slice xa tabs.length xc)) [18,21] (by kernel_rfl) ?_;have hS:=(nN.out _ (af.refl _ _).drew).1;have hE:=(nN.out _ (af.refl _ _).drew).2;refine dN 0 rfl hS (fun _=>hE) ?_;refine dN 1 rfl hS (fun _=>hE) ?_;refine dN 2 rfl hS (fun _=>hE) ?_;refine dN 3 rfl hS (fun _=>hE) ?_;refine dN 4 rfl hS (fun _=>hE) ?_;refine wV (i:=5) (v:=?v5) rfl (by kernel_rfl) (by kernel_rfl) (by kernel_rfl) (by kernel_rfl) (by kernel_rfl) (by kernel_rfl) (fun _ _ _ h=>h) (Or.inl ⟨by rfl,?hy5⟩) hS (fun _=>hE) ?rest5
    case hy5=>(intro x QC;(try dsimp only at QC);go_simp;try with_reducible rfl)
    (try simp only [Act.put])
    refine dN 6 rfl hS (fun _=>hE) ?_;refine dN 9 rfl hS (fun _=>hE) ?_;refine dN 10 rfl hS (fun _=>hE) ?_;refine dN 11 rfl hS (fun _=>hE) ?_;refine wV (i:=12) (v:=?v10) rfl (by kernel_rfl) (by kernel_rfl) (by kernel_rfl) (by kernel_rfl) (by kernel_rfl) (by kernel_rfl) (fun _ _ _ h=>h) (Or.inl ⟨by rfl,?hy10⟩) hS (fun _=>hE) ?rest10
    case hy10=>(intro x QC;(try dsimp only at QC);go_simp;try with_reducible rfl)
    (try simp only [Act.put])
    refine dN 13 rfl hS (fun _=>hE) ?_;refine aJ (rs:=[7,14]) (by kernel_rfl) (by simp) ?_;refine ay.cons rfl (fun K hK=>?_) ?_
    ·go_simp
     refine hK.out _ _ ⟨(nN.out _ ((af.refl _ _).drew.alloc _)).1,fun _=>(nN.out _ ((af.refl _ _).drew.alloc _)).2⟩ (fun hHeld=>?_);clear hK K;obtain ⟨hS,hE⟩:=hHeld;have hE:=hE (by kernel_rfl)
     (try simp only [Act.put,List.setIfInBounds_toArray,List.set_cons_zero,List.set_cons_succ])
     refine aJ (rs:=[8,14]) (by kernel_rfl) (by simp) ?_;refine ay.cons rfl (fun K hK=>?_) ?_
     ·
      (refine step_append_lies _ (by rfl) (.tmp 64) (.tmp 66) 42 (by rfl) 0 77 tr _ 1 4 Tryz.underlying42 Kr.out.1 Kr.out.2.1 Kr.out.2.2.1 Kr.out.2.2.2 (by rfl) (by decide) (.slice ra refs.length rc) refs.length (aI refs) (by rfl) (HRR.out _ (by repeat (first | exact af.refl _ _ | refine af.drew ?_ | refine af.alloc ?_ _))) ⟨_,0,none⟩ 1 1 [.int .u32 r] (by rfl) (by rfl) (World.news_of_block (cs:=#[.int .u32 r]) (t:=77) (fr:=(0,0)) (by first | exact acN.out | exact acO.out | exact acP.out)) Nq.out (by omega) (by unfold maxLen;omega) (by omega) (Nat.zero_le _) _ (by rfl) ?_;intro g1 oD w5 vk yc Kt AA;have mi:=Lib.hid (And.intro (af.grown (S:=(Value.slice ra refs.length rc).ownBlock.toList++(Value.slice xa tabs.length xc).ownBlock.toList) (w:=w3) (by repeat (first | exact af.refl _ _ | refine af.drew ?_ | refine af.alloc ?_ _)) yc (fun k hk=>.inl (by simp [hk]))) (And.intro (af.grown (S:=(Value.slice ra refs.length rc).ownBlock.toList) (w:=w3) (by repeat (first | exact af.refl _ _ | refine af.drew ?_ | refine af.alloc ?_ _)) yc (fun k hk=>.inl (by simp [hk]))) (And.intro vk (yS (w:=w3) (S:=[]) (by repeat (first | exact af.refl _ _ | refine af.drew ?_ | refine af.alloc ?_ _)) Kt))));have DF:=Lib.hid yc;obtain ⟨q2,q3,q0,q1⟩:=HS.out w5 mi.out.1;obtain ⟨p2,p3',p0,p1⟩:=HS.out (w5.alloc (.cells #[.int .i64 n,.slice ta W tc] 122 (0,0))) (mi.out.1.alloc _);clear vk yc Kt AA)
      refine hK.out _ _ ⟨(nN.out _ mi.out.1).1,fun _=>(nN.out _ mi.out.1).2⟩ (fun hHeld=>?_);clear hK K;obtain ⟨hS,hE⟩:=hHeld;have hE:=hE (by kernel_rfl)
      (try simp only [Act.put,List.setIfInBounds_toArray])
      refine aJ (rs:=[14]) (by kernel_rfl) (by simp) ?_;refine ay.cons rfl (fun K hK=>?_) ?_
      rotate_left
      exact ay.nil
      go_simp
      refine hK.out _ _ ⟨(nN.out _ (mi.out.1.alloc _)).1,fun _=>(nN.out _ (mi.out.1.alloc _)).2⟩ (fun hHeld=>?_);clear hK K;obtain ⟨hS,hE⟩:=hHeld;have hE:=hE (by kernel_rfl)
      (try simp only [Act.put,List.setIfInBounds_toArray,List.set_cons_zero,List.set_cons_succ])
      refine aJ (rs:=[15]) (by kernel_rfl) (by simp) ?_;refine ay.cons rfl (fun K hK=>?_) ?_
      rotate_left
      exact ay.nil
      (refine step_append_lies _ (by rfl) (.tmp 71) (.tmp 73) 22 (by rfl) 0 122 tt _ 2 32 Tryz.underlying22 S9.out.1 S9.out.2.1 S9.out.2.2.1 S9.out.2.2.2 (by rfl) (by decide) (.slice xa tabs.length xc) tabs.length (fV tabs cs) (by rfl) (Po.out _ (by repeat (first | exact mi.out.2.1 | refine af.drew ?_ | refine af.alloc ?_ _))) ⟨_,0,none⟩ 1 1 [.int .i64 n,.slice ta W tc] (by rfl) (by rfl) (World.news_of_block (cs:=#[.int .i64 n,.slice ta W tc]) (t:=122) (fr:=(0,0)) (by first | exact heap_alloc_new _ _ | exact (DF.out.block _ (ah Rt.out) (HNX.out _ (by omega))).trans Rt.out | exact (DF.out.block _ (ah HXC.out) (HNX.out _ (by omega))).trans HXC.out)) mg.out (by omega) (by unfold maxLen;omega) (by omega) (Nat.zero_le _) _ (by rfl) ?_;intro g2 jc w6 zX DI su pF;have qR:=Lib.hid (And.intro (af.grown (S:=(Value.slice ra refs.length rc).ownBlock.toList++(Value.slice xa tabs.length xc).ownBlock.toList) (w:=w3) (by repeat (first | exact mi.out.1 | refine af.drew ?_ | refine af.alloc ?_ _)) DI (fun k hk=>.inl (by simp [hk]))) (And.intro (C9 (by repeat (first | exact af.refl _ _ | refine af.drew ?_ | refine af.alloc ?_ _)) DI mi.out.2.2.1 (fun k hk hq=>CZ mi.out.2.2.1 (Po.out _ mi.out.2.1) (by decide) hk hq)) (And.intro zX (And.intro mi.out.2.2.2 (yS (w:=w3) (S:=(Value.slice ra refs.length rc).ownBlock.toList++(Value.slice xa tabs.length xc).ownBlock.toList) (by repeat (first | exact mi.out.1 | refine af.drew ?_ | refine af.alloc ?_ _)) su)))));obtain ⟨fz2,fz3,k2,k3⟩:=Yv.out w6 qR.out.1;clear zX DI su pF DF mi)
      refine hK.out _ _ ⟨(nN.out _ qR.out.1).1,fun _=>(nN.out _ qR.out.1).2⟩ (fun hHeld=>?_);clear hK K;obtain ⟨hS,hE⟩:=hHeld;have hE:=hE (by kernel_rfl)
      (try simp only [Act.put,List.setIfInBounds_toArray])
      refine dN 16 rfl hS (fun _=>hE) ?_;refine dN 17 rfl hS (fun _=>hE) ?_;refine aJ (rs:=[18]) (by kernel_rfl) (by simp) ?_;refine ay.cons rfl (fun K hK=>?_) ?_
      rotate_left
      exact ay.nil
      go_simp
      refine hK.out _ _ ⟨(by refine mF (HSB.out _ qR.out.1) ?_ _;assumption),fun h=>Su (by kernel_rfl) h⟩ (fun hHeld=>?_);clear hK K;obtain ⟨hS,_⟩:=hHeld
      (try simp only [Act.put,List.setIfInBounds_toArray,List.set_cons_zero,List.set_cons_succ])
      refine dN 19 rfl hS (fun h=>Su (by kernel_rfl) h) ?_;refine dN 20 rfl hS (fun h=>Su (by kernel_rfl) h) ?_;refine aJ (rs:=[21]) (by kernel_rfl) (by simp) ?_;refine ay.cons rfl (fun K hK=>?_) ?_
      rotate_left
      exact ay.nil
      go_simp
      refine hK.out _ _ ⟨(by refine mF (mF (HSB.out _ qR.out.1) ?_ _) ?_ _ <;> assumption),fun h=>Su (by kernel_rfl) h⟩ (fun hHeld=>?_);clear hK K;obtain ⟨hS,_⟩:=hHeld
      (try simp only [Act.put,List.setIfInBounds_toArray,List.set_cons_zero,List.set_cons_succ])
      refine fD (by kernel_rfl) ?_ _;go_wp2_with fail;go_ret;exact V6.out _ _ _ _ _ qR.out.1 qR.out.2.1 qR.out.2.2.1 qR.out.2.2.2
     refine ay.cons rfl (fun K hK=>?_) ?_
     rotate_left
     exact ay.nil
     go_simp
     refine hK.out _ _ ⟨(nN.out _ (((af.refl _ _).drew.alloc _).alloc _)).1,fun _=>(nN.out _ (((af.refl _ _).drew.alloc _).alloc _)).2⟩ (fun hHeld=>?_);clear hK K;obtain ⟨hS,hE⟩:=hHeld;have hE:=hE (by kernel_rfl)
     (try simp only [Act.put,List.setIfInBounds_toArray,List.set_cons_zero,List.set_cons_succ])
     refine aJ (rs:=[8]) (by kernel_rfl) (by simp) ?_;refine ay.cons rfl (fun K hK=>?_) ?_
     rotate_left
     exact ay.nil
     (refine step_append_lies _ (by rfl) (.tmp 64) (.tmp 66) 42 (by rfl) 0 77 tr _ 1 4 Tryz.underlying42 Kr.out.1 Kr.out.2.1 Kr.out.2.2.1 Kr.out.2.2.2 (by rfl) (by decide) (.slice ra refs.length rc) refs.length (aI refs) (by rfl) (HRR.out _ (by repeat (first | exact af.refl _ _ | refine af.drew ?_ | refine af.alloc ?_ _))) ⟨_,0,none⟩ 1 1 [.int .u32 r] (by rfl) (by rfl) (World.news_of_block (cs:=#[.int .u32 r]) (t:=77) (fr:=(0,0)) (by first | exact acN.out | exact acO.out | exact acP.out)) Nq.out (by omega) (by unfold maxLen;omega) (by omega) (Nat.zero_le _) _ (by rfl) ?_;intro g1 oD w5 vk yc Kt AA;have mi:=Lib.hid (And.intro (af.grown (S:=(Value.slice ra refs.length rc).ownBlock.toList++(Value.slice xa tabs.length xc).ownBlock.toList) (w:=w3) (by repeat (first | exact af.refl _ _ | refine af.drew ?_ | refine af.alloc ?_ _)) yc (fun k hk=>.inl (by simp [hk]))) (And.intro (af.grown (S:=(Value.slice ra refs.length rc).ownBlock.toList) (w:=w3) (by repeat (first | exact af.refl _ _ | refine af.drew ?_ | refine af.alloc ?_ _)) yc (fun k hk=>.inl (by simp [hk]))) (And.intro vk (yS (w:=w3) (S:=[]) (by repeat (first | exact af.refl _ _ | refine af.drew ?_ | refine af.alloc ?_ _)) Kt))));have DF:=Lib.hid yc;obtain ⟨q2,q3,q0,q1⟩:=HS.out w5 mi.out.1;obtain ⟨p2,p3',p0,p1⟩:=HS.out (w5.alloc (.cells #[.int .i64 n,.slice ta W tc] 122 (0,0))) (mi.out.1.alloc _);clear vk yc Kt AA)
     refine hK.out _ _ ⟨(nN.out _ mi.out.1).1,fun _=>(nN.out _ mi.out.1).2⟩ (fun hHeld=>?_);clear hK K;obtain ⟨hS,hE⟩:=hHeld;have hE:=hE (by kernel_rfl)
     (try simp only [Act.put,List.setIfInBounds_toArray])
     refine aJ (rs:=[15]) (by kernel_rfl) (by simp) ?_;refine ay.cons rfl (fun K hK=>?_) ?_
     rotate_left
     exact ay.nil
     (refine step_append_lies _ (by rfl) (.tmp 71) (.tmp 73) 22 (by rfl) 0 122 tt _ 2 32 Tryz.underlying22 S9.out.1 S9.out.2.1 S9.out.2.2.1 S9.out.2.2.2 (by rfl) (by decide) (.slice xa tabs.length xc) tabs.length (fV tabs cs) (by rfl) (Po.out _ (by repeat (first | exact mi.out.2.1 | refine af.drew ?_ | refine af.alloc ?_ _))) ⟨_,0,none⟩ 1 1 [.int .i64 n,.slice ta W tc] (by rfl) (by rfl) (World.news_of_block (cs:=#[.int .i64 n,.slice ta W tc]) (t:=122) (fr:=(0,0)) (by first | exact heap_alloc_new _ _ | exact (DF.out.block _ (ah Rt.out) (HNX.out _ (by omega))).trans Rt.out | exact (DF.out.block _ (ah HXC.out) (HNX.out _ (by omega))).trans HXC.out)) mg.out (by omega) (by unfold maxLen;omega) (by omega) (Nat.zero_le _) _ (by rfl) ?_;intro g2 jc w6 zX DI su pF;have qR:=Lib.hid (And.intro (af.grown (S:=(Value.slice ra refs.length rc).ownBlock.toList++(Value.slice xa tabs.length xc).ownBlock.toList) (w:=w3) (by repeat (first | exact mi.out.1 | refine af.drew ?_ | refine af.alloc ?_ _)) DI (fun k hk=>.inl (by simp [hk]))) (And.intro (C9 (by repeat (first | exact af.refl _ _ | refine af.drew ?_ | refine af.alloc ?_ _)) DI mi.out.2.2.1 (fun k hk hq=>CZ mi.out.2.2.1 (Po.out _ mi.out.2.1) (by decide) hk hq)) (And.intro zX (And.intro mi.out.2.2.2 (yS (w:=w3) (S:=(Value.slice ra refs.length rc).ownBlock.toList++(Value.slice xa tabs.length xc).ownBlock.toList) (by repeat (first | exact mi.out.1 | refine af.drew ?_ | refine af.alloc ?_ _)) su)))));obtain ⟨fz2,fz3,k2,k3⟩:=Yv.out w6 qR.out.1;clear zX DI su pF DF mi)
     refine hK.out _ _ ⟨(nN.out _ qR.out.1).1,fun _=>(nN.out _ qR.out.1).2⟩ (fun hHeld=>?_);clear hK K;obtain ⟨hS,hE⟩:=hHeld;have hE:=hE (by kernel_rfl)
     (try simp only [Act.put])
     refine dN 16 rfl hS (fun _=>hE) ?_;refine dN 17 rfl hS (fun _=>hE) ?_;refine aJ (rs:=[18]) (by kernel_rfl) (by simp) ?_;refine ay.cons rfl (fun K hK=>?_) ?_
     rotate_left
     exact ay.nil
     go_simp
     refine hK.out _ _ ⟨(by refine mF (HSB.out _ qR.out.1) ?_ _;assumption),fun h=>Su (by kernel_rfl) h⟩ (fun hHeld=>?_);clear hK K;obtain ⟨hS,_⟩:=hHeld
     (try simp only [Act.put,List.setIfInBounds_toArray,List.set_cons_zero,List.set_cons_succ])
     refine dN 19 rfl hS (fun h=>Su (by kernel_rfl) h) ?_;refine dN 20 rfl hS (fun h=>Su (by kernel_rfl) h) ?_;refine aJ (rs:=[21]) (by kernel_rfl) (by simp) ?_;refine ay.cons rfl (fun K hK=>?_) ?_
     rotate_left
     exact ay.nil
     go_simp
     refine hK.out _ _ ⟨(by refine mF (mF (HSB.out _ qR.out.1) ?_ _) ?_ _ <;> assumption),fun h=>Su (by kernel_rfl) h⟩ (fun hHeld=>?_);clear hK K;obtain ⟨hS,_⟩:=hHeld
     (try simp only [Act.put,List.setIfInBounds_toArray,List.set_cons_zero,List.set_cons_succ])
     refine fD (by kernel_rfl) ?_ _;go_wp2_with fail;go_ret;exact V6.out _ _ _ _ _ qR.out.1 qR.out.2.1 qR.out.2.2.1 qR.out.2.2.2
    refine ay.cons rfl (fun K hK=>?_) ?_
    rotate_left
    exact ay.nil
    go_simp
    refine hK.out _ _ ⟨(nN.out _ ((af.refl _ _).drew.alloc _)).1,fun _=>(nN.out _ ((af.refl _ _).drew.alloc _)).2⟩ (fun hHeld=>?_);clear hK K;obtain ⟨hS,hE⟩:=hHeld;have hE:=hE (by kernel_rfl)
    (try simp only [Act.put,List.setIfInBounds_toArray,List.set_cons_zero,List.set_cons_succ])
    refine aJ (rs:=[7]) (by kernel_rfl) (by simp) ?_;refine ay.cons rfl (fun K hK=>?_) ?_
    rotate_left
    exact ay.nil
    go_simp
    refine hK.out _ _ ⟨(nN.out _ (((af.refl _ _).drew.alloc _).alloc _)).1,fun _=>(nN.out _ (((af.refl _ _).drew.alloc _).alloc _)).2⟩ (fun hHeld=>?_);clear hK K;obtain ⟨hS,hE⟩:=hHeld;have hE:=hE (by kernel_rfl)
    (try simp only [Act.put,List.setIfInBounds_toArray,List.set_cons_zero,List.set_cons_succ])
    refine aJ (rs:=[8]) (by kernel_rfl) (by simp) ?_;refine ay.cons rfl (fun K hK=>?_) ?_
    rotate_left
    exact ay.nil
    (refine step_append_lies _ (by rfl) (.tmp 64) (.tmp 66) 42 (by rfl) 0 77 tr _ 1 4 Tryz.underlying42 Kr.out.1 Kr.out.2.1 Kr.out.2.2.1 Kr.out.2.2.2 (by rfl) (by decide) (.slice ra refs.length rc) refs.length (aI refs) (by rfl) (HRR.out _ (by repeat (first | exact af.refl _ _ | refine af.drew ?_ | refine af.alloc ?_ _))) ⟨_,0,none⟩ 1 1 [.int .u32 r] (by rfl) (by rfl) (World.news_of_block (cs:=#[.int .u32 r]) (t:=77) (fr:=(0,0)) (by first | exact acN.out | exact acO.out | exact acP.out)) Nq.out (by omega) (by unfold maxLen;omega) (by omega) (Nat.zero_le _) _ (by rfl) ?_;intro g1 oD w5 vk yc Kt AA;have mi:=Lib.hid (And.intro (af.grown (S:=(Value.slice ra refs.length rc).ownBlock.toList++(Value.slice xa tabs.length xc).ownBlock.toList) (w:=w3) (by repeat (first | exact af.refl _ _ | refine af.drew ?_ | refine af.alloc ?_ _)) yc (fun k hk=>.inl (by simp [hk]))) (And.intro (af.grown (S:=(Value.slice ra refs.length rc).ownBlock.toList) (w:=w3) (by repeat (first | exact af.refl _ _ | refine af.drew ?_ | refine af.alloc ?_ _)) yc (fun k hk=>.inl (by simp [hk]))) (And.intro vk (yS (w:=w3) (S:=[]) (by repeat (first | exact af.refl _ _ | refine af.drew ?_ | refine af.alloc ?_ _)) Kt))));have DF:=Lib.hid yc;obtain ⟨q2,q3,q0,q1⟩:=HS.out w5 mi.out.1;obtain ⟨p2,p3',p0,p1⟩:=HS.out (w5.alloc (.cells #[.int .i64 n,.slice ta W tc] 122 (0,0))) (mi.out.1.alloc _);clear vk yc Kt AA)
    refine hK.out _ _ ⟨(nN.out _ mi.out.1).1,fun _=>(nN.out _ mi.out.1).2⟩ (fun hHeld=>?_);clear hK K;obtain ⟨hS,hE⟩:=hHeld;have hE:=hE (by kernel_rfl)
    (try simp only [Act.put,List.setIfInBounds_toArray])
    refine aJ (rs:=[15]) (by kernel_rfl) (by simp) ?_;refine ay.cons rfl (fun K hK=>?_) ?_
    rotate_left
    exact ay.nil
    (refine step_append_lies _ (by rfl) (.tmp 71) (.tmp 73) 22 (by rfl) 0 122 tt _ 2 32 Tryz.underlying22 S9.out.1 S9.out.2.1 S9.out.2.2.1 S9.out.2.2.2 (by rfl) (by decide) (.slice xa tabs.length xc) tabs.length (fV tabs cs) (by rfl) (Po.out _ (by repeat (first | exact mi.out.2.1 | refine af.drew ?_ | refine af.alloc ?_ _))) ⟨_,0,none⟩ 1 1 [.int .i64 n,.slice ta W tc] (by rfl) (by rfl) (World.news_of_block (cs:=#[.int .i64 n,.slice ta W tc]) (t:=122) (fr:=(0,0)) (by first | exact heap_alloc_new _ _ | exact (DF.out.block _ (ah Rt.out) (HNX.out _ (by omega))).trans Rt.out | exact (DF.out.block _ (ah HXC.out) (HNX.out _ (by omega))).trans HXC.out)) mg.out (by omega) (by unfold maxLen;omega) (by omega) (Nat.zero_le _) _ (by rfl) ?_;intro g2 jc w6 zX DI su pF;have qR:=Lib.hid (And.intro (af.grown (S:=(Value.slice ra refs.length rc).ownBlock.toList++(Value.slice xa tabs.length xc).ownBlock.toList) (w:=w3) (by repeat (first | exact mi.out.1 | refine af.drew ?_ | refine af.alloc ?_ _)) DI (fun k hk=>.inl (by simp [hk]))) (And.intro (C9 (by repeat (first | exact af.refl _ _ | refine af.drew ?_ | refine af.alloc ?_ _)) DI mi.out.2.2.1 (fun k hk hq=>CZ mi.out.2.2.1 (Po.out _ mi.out.2.1) (by decide) hk hq)) (And.intro zX (And.intro mi.out.2.2.2 (yS (w:=w3) (S:=(Value.slice ra refs.length rc).ownBlock.toList++(Value.slice xa tabs.length xc).ownBlock.toList) (by repeat (first | exact mi.out.1 | refine af.drew ?_ | refine af.alloc ?_ _)) su)))));obtain ⟨fz2,fz3,k2,k3⟩:=Yv.out w6 qR.out.1;clear zX DI su pF DF mi)
    refine hK.out _ _ ⟨(nN.out _ qR.out.1).1,fun _=>(nN.out _ qR.out.1).2⟩ (fun hHeld=>?_);clear hK K;obtain ⟨hS,hE⟩:=hHeld;have hE:=hE (by kernel_rfl)
    (try simp only [Act.put])
    refine dN 16 rfl hS (fun _=>hE) ?_;refine dN 17 rfl hS (fun _=>hE) ?_;refine aJ (rs:=[18]) (by kernel_rfl) (by simp) ?_;refine ay.cons rfl (fun K hK=>?_) ?_
    rotate_left
    exact ay.nil
    go_simp
    refine hK.out _ _ ⟨(by refine mF (HSB.out _ qR.out.1) ?_ _;assumption),fun h=>Su (by kernel_rfl) h⟩ (fun hHeld=>?_);clear hK K;obtain ⟨hS,_⟩:=hHeld
    (try simp only [Act.put,List.setIfInBounds_toArray,List.set_cons_zero,List.set_cons_succ])
    refine dN 19 rfl hS (fun h=>Su (by kernel_rfl) h) ?_;refine dN 20 rfl hS (fun h=>Su (by kernel_rfl) h) ?_;refine aJ (rs:=[21]) (by kernel_rfl) (by simp) ?_;refine ay.cons rfl (fun K hK=>?_) ?_
    rotate_left
    exact ay.nil
    go_simp
    refine hK.out _ _ ⟨(by refine mF (mF (HSB.out _ qR.out.1) ?_ _) ?_ _ <;> assumption),fun h=>Su (by kernel_rfl) h⟩ (fun hHeld=>?_);clear hK K;obtain ⟨hS,_⟩:=hHeld
    (try simp only [Act.put,List.setIfInBounds_toArray,List.set_cons_zero,List.set_cons_succ])
    refine fD (by kernel_rfl) ?_ _;go_wp2_with fail;go_ret;exact V6.out _ _ _ _ _ qR.out.1 qR.out.2.1 qR.out.2.2.1 qR.out.2.2.2
theorem V7 {w:World} {g i:Nat} {v:Option Value} (h:w.cell? ⟨g,i,none⟩=v):w.cell? ((⟨g,0,none⟩ : Addr).add i)=v:=by
 rw [<- h];unfold Addr.add;simp;split <;> simp_all
theorem Ru {w:World} {g i:Nat} {v:Option Value} (h:w.cell? ⟨g,i+1,none⟩=v):w.cell? (((⟨g,0,none⟩ : Addr).add i).add 1)=v:=by
 rw [<- h];unfold Addr.add;simp;split <;> simp_all
structure DJ (w:World) (v:Value) (L:List TV):Prop where
 ex:∃ (A:Option Addr) (c:Nat),v=.slice A L.length c/\L.length<=maxLen/\∀ i t,L[i]?=some t->∃ (x:Addr) (d:Value),A=some x/\w.cell? (x.add (i*2))=some (.int .i64 t.n)/\w.cell? ((x.add (i*2)).add 1)=some d/\jG w [] d t
theorem DJ.keep0 {w w':World} {v:Value} {L:List TV} (h:DJ w v L) (u:af [] w w'):DJ w' v L:=by
 obtain ⟨A,c,e,hm,ha⟩:=h.ex;refine ⟨A,c,e,hm,fun i t ht=>?_⟩;obtain ⟨x,d,h1,h2,h3,h4⟩:=ha i t ht;exact ⟨x,d,h1,u.cell0 h2,u.cell0 h3,h4.keep0 u⟩
structure acR (K:KV) (M:MV) (t:TV) (r:Nat) (code:Int) (K':KV):Prop where
 ce:code=M.x8 t
 ext:K.Ext K'
 km:KM K' (M.ans t)
 yes:code=0->Names K' r t/\∀ x,K'.hold x=K.hold x+if x=r/\2<=r then 1 else 0
 no:code≠0->∀ x,K'.hold x=K.hold x
 tr:(M.ans t).trail=[]
 hl:(M.ans t).held.length<=M.held.length+1
theorem acR.of {K K':KV} {M:MV} {t:TV} {r:Nat} {code:Int} (h:KM K M) (hk:K.Ok) (hu:K.Uni) (dB:K'.Ok) (jy:K'.Uni) (ht:t.Ok) (vg:t.n=K.vars) (hl:M.held.length+1<=65536) (hb:∀ x,K.hold x<65000) (h1:M.trail=[]) (h2:K'.trail=[])
  (L:Nk K (K.jv t.fn) t.fn r code K'):acR K M t r code K':=by
 have hn:=h.n16
 have hh:¬ 65535<=M.holds t:=by
  by_cases hr:∃ s,Names K s t
  ·obtain ⟨s,hs⟩:=hr
   rw [h.agr.holds hk hu ht vg hs];have:=hb s;omega
  ·rw [h.agr.holds0 fun s hs=>hr ⟨s,hs⟩];omega
 rcases L with ⟨rfl,e,t1,d,hd,_⟩ | ⟨rfl,rfl,e,e',hd,bK⟩
 ·have hr:Names K' r t:=⟨t1,d⟩
  obtain ⟨_,a2⟩:=h.agr.step hk hu dB jy hn ht vg e hr hd;have hf:=h.agr.Ve hk dB jy hn ht vg e hr hd
  have hE:M.x8 t=0:=by unfold MV.x8;rw [if_neg hh,if_pos hf]
  have hA:M.ans t={ M.jB t with trail:=[] }:=by unfold MV.ans;rw [if_pos hE]
  refine ⟨hE.symm,e,?_,fun _=>⟨hr,hd⟩,fun hc=>absurd rfl hc,by rw [hA],?_⟩
  ·rw [hA]
   exact ⟨a2.IE [],(h.fit.jB hl ht (vg.trans h.agr.same.n.symm)).IE [],h2,MV.qm.nil rfl⟩
  ·rw [hA];exact MV.QS M t
 ·have hf:=h.agr.YE hk hn ht vg bK
  have hE:M.x8 t=9:=by unfold MV.x8;rw [if_neg hh,if_neg (by rw [hf];simp)]
  have hA:M.ans t=M:=by unfold MV.ans;rw [if_neg (by rw [hE];decide)]
  refine ⟨hE.symm,e,?_,fun hc=>absurd hc (by decide),fun _=>hd,by rw [hA];exact h1,by rw [hA];omega⟩;rw [hA];exact ⟨h.agr.zL hk e hd,h.fit,h2.trans h1.symm,h.tf⟩
theorem x9.ext {K K':KV} {M M':MV} {refs:List Nat} {tabs:List TV} (l:x9 K M refs tabs) (hk:K.Ok) (e:K.Ext K') (h:KM K' M'):x9 K' M' refs tabs :=
 ⟨h,l.lr,l.rb,fun t ht=>by rw [e.vr];exact l.ok t ht,fun i r t h1 h2=>(l.nm i r t h1 h2).ext hk e⟩
theorem x9.push {K:KV} {M:MV} {refs:List Nat} {tabs:List TV} {r:Nat} {t:TV} (l:x9 K M refs tabs) (hr:refs.length<40) (ht:t.Ok) (vg:t.n=K.vars) (hn:Names K r t):x9 K M (refs++[r]) (tabs++[t]):=by
 refine ⟨l.km,by simp [l.lr],by simp;omega,fun u hu=>?_,fun i s u h1 h2=>?_⟩
 ·rcases List.mem_append.1 hu with h | h
  ·exact l.ok u h
  ·simp at h;subst h;exact ⟨ht,vg⟩
 ·have hl:=l.lr
  by_cases hi:i<refs.length
  ·rw [List.getElem?_append_left hi] at h1
   rw [List.getElem?_append_left (by omega)] at h2;exact l.nm i s u h1 h2
  ·rw [List.getElem?_append_right (by omega)] at h1
   rw [List.getElem?_append_right (by omega)] at h2
   have:i=refs.length:=by
    have h3:=(List.getElem?_eq_some_iff.1 h1).1
    simp at h3;omega
   subst this;rw [hl] at h2
   simp at h1 h2;subst h1 h2
   exact hn
theorem DC.push {K K':KV} {refs:List Nat} {r:Nat} (h:DC K refs) (hd:∀ x,K'.hold x=K.hold x+if x=r/\2<=r then 1 else 0):DC K' (refs++[r]):=fun x hx=>by
 rw [hd,h x hx,List.count_append,List.count_singleton]
 by_cases e:x=r
 ·subst e;simp [hx]
 ·have:¬ r=x:=fun h=>e h.symm
  simp [e,this]
theorem x9.stay {K K':KV} {M M':MV} {refs:List Nat} {tabs:List TV} (l:x9 K M refs tabs) (c:DC K refs) (dB:K'.Ok) (s:qW K K') (h:KM K' M'):x9 K' M' refs tabs/\DC K' refs:=by
 refine ⟨⟨h,l.lr,l.rb,fun t ht=>by rw [s.vr];exact l.ok t ht,fun i r t h1 h2=>?_⟩,fun x hx=>by rw [s.hd];exact c x hx⟩;have hn:=l.nm i r t h1 h2
 have hr:0<K.hold r\/r<2:=by
  by_cases h2:r<2
  ·exact .inr h2
  ·rw [c r (by omega)]
   exact .inl (List.count_pos_iff.2 (List.mem_of_getElem? h1))
 refine ⟨?_,fun y=>by rw [s.den r hr];exact hn.2 y⟩
 rcases hr with hr | hr
 ·exact (dB.wf.ht r (by rw [s.hd];exact hr)).2
 ·exact dB.gX hr
def uM (s:MV × List TV) (t:TV):MV × List TV:=if s.1.x8 t=0 then (s.1.ans t,s.2++[t]) else s
def uU (n c:Nat) (L:List TV):MV × List TV:=L.foldl uM (MV.new n c,[])
theorem Gt {n c i:Nat} {L:List TV} {t:TV} (h:L[i]?=some t):uU n c (L.take (i+1))=uM (uU n c (L.take i)) t:=by
 unfold uU;rw [List.take_add_one,h];simp
theorem zY (s:MV × List TV) (t:TV):(uM s t).1=s.1.ans t:=by
 unfold uM
 by_cases h:s.1.x8 t=0
 ·rw [if_pos h]
 ·rw [if_neg h];unfold MV.ans;rw [if_neg h]
theorem zZ (s:MV × List TV) (t:TV):(uM s t).2=if s.1.x8 t=0 then s.2++[t] else s.2:=by
 unfold uM;split <;> rfl
def MV.qp (M:MV) (l:List Int):MV:=l.foldl MV.gQ M
theorem MV.NZ {M:MV} {i:Nat} {L:List Int} (h:i<L.length):M.qp (L.take (i+1))=(M.qp (L.take i)).gQ (L.getD i 0):=by
 unfold MV.qp;rw [List.take_add_one,List.getElem?_eq_getElem h,List.getD_eq_getElem?_getD,List.getElem?_eq_getElem h,List.foldl_append];rfl
theorem MV.DK (M:MV) (l:Int):(M.gQ l).trail.length<=M.trail.length+1/\(M.gQ l).held=M.held:=by
 unfold MV.gQ;split
 ·simp
 ·exact ⟨by omega,rfl⟩
end Go.Proofs.YtfkopmhpppeheaaGreat
