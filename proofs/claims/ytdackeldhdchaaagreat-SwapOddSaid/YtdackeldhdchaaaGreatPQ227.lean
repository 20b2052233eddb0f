import Derived.Test.YtdackeldhdchaaaGreatPQ226
import Derived.Test.YtdackeldhdchaaaGreatPQ225
set_option maxRecDepth 100000
set_option maxHeartbeats 6400000
namespace Go.Proofs.YtdackeldhdchaaaGreat
open Go.RowKit Go.Maps Go.ChangeMaps Go.WideShapes
structure aOp (n0 a b m:Nat) (K:KV) (F:List Nat) (M:MV) (p:acd) (refs:List Nat) (tabs:List TV) (r:Nat) (t:TV) (w:World) (e:Ending) (w':World):Prop where
 ex:∃ rv tv:Value,e=.returned (.bool true)/\PIn w' n0 a b m rv tv K F M p (refs++[r]) (tabs++[t])/\Fro n0 w w'
structure asU (n W:Nat) (t:TV) (w0:World) (s7 s8:Value) (wc:World):Prop where
 ex:∃ (B:Nat) (ga:Option Addr) (gc:Nat),s7=.pointer (some ⟨B,0,none⟩)/\s8=.bool true/\wc.heap[B]?=some (.cells #[.int .i64 n,.slice ga W gc] 121 (0,0))/\TIn wc [] (.slice ga W gc) t/\Upd [] w0 wc
theorem asU.of1 {n W gc:Nat} {t:TV} {ga:Option Addr} {w0 w1 x:World} (h:aqI x w1 (.slice ga W gc) t) (u:Upd [] w0 w1):asU n W t w0 (.pointer (some ⟨w1.heap.size,0,none⟩)) (.bool true) (w1.alloc (.cells #[.int .i64 n,.slice ga W gc] 121 (0,0))) :=
 ⟨_,ga,gc,rfl,rfl,heap_alloc_new _ _,(h.tin (Z:=[]) (by simp)).keep0 ((Upd.refl _ _).alloc _),u.alloc _⟩
theorem asU.of2 {n W gc:Nat} {t:TV} {ga:Option Addr} {w0 w1 x:World} (hb:w1.heap[w0.heap.size]?=some (.cells #[.int .i64 0,.slice none 0 0] 121 (0,0))) (h:aqI x w1 (.slice ga W gc) t) (u:Upd [] w0 w1) :
  asU n W t w0 (.pointer (some ⟨w0.heap.size,0,none⟩)) (.bool true) ((w1.setCell ⟨w0.heap.size,0,none⟩ (.int .i64 n)).setCell ⟨w0.heap.size,1,none⟩ (.slice ga W gc)):=by
 have e1:=abV (j:=0) hb (.int .i64 n);have e2:=abV (j:=1) e1 (.slice ga W gc);refine ⟨_,ga,gc,rfl,rfl,e2,?_,(u.setCell (p:=⟨w0.heap.size,0,none⟩) (.inr (Nat.le_refl _)) _).setCell (p:=⟨w0.heap.size,1,none⟩) (.inr (Nat.le_refl _)) _⟩
 exact (h.tin (Z:=[]) (by simp)).foreign (((Upd.refl [w0.heap.size] w1).setCell (p:=⟨w0.heap.size,0,none⟩) (.inl (by simp)) _).setCell (p:=⟨w0.heap.size,1,none⟩) (.inl (by simp)) _) fun k hk=>by simp at hk;subst hk;exact ⟨_,_,_,hb,by decide⟩
theorem aHT {K:KV} (hk:K.Ok) (hu:K.Uni) {r s:Nat} {t u:TV} (h1:Names K r t) (h2:Names K s u) (ht:t.Ok) (hu':u.Ok) (e:t.n=u.n):(decide (u=t) != decide (s=r))=false:=by
 by_cases h:u=t
 ·subst h
  have:=Names.eq hk hu h1 h2
  subst this;simp
 ·have hne:s≠r:=fun e2=>by
   subst e2;exact h (Names.teq h2 h1 hu' ht e.symm)
  simp [h,hne]
theorem aHU (n0 a b m:Nat) (rv tv:Value) (K:KV) (F:List Nat) (M:MV) (p:acd) (refs:List Nat) (tabs:List TV) (r:Nat) (c:Value) (t:TV) (w:World) (h:PIn w n0 a b m rv tv K F M p refs tabs) (l:aq7 K M refs tabs) (ht:TIn w (F++p.all m) c t) (htn:t.n=K.vars) (hnm:Names K r t) :
  Calls Tryz.prog 54 #[.pointer (some ⟨a,0,none⟩),.int .u32 r,aeH t c] w fun e w'=>aOp n0 a b m K F M p refs tabs r t w e w':=by
 obtain ⟨ra,rc,rfl,_⟩:=abI h.mem.rr;obtain ⟨xa,xc,rfl,hxa⟩:=h.mem.tt.form;obtain ⟨ta,tc,rfl,_⟩:=ahV ht.row;have HL:=Lib.hid h;have HLG:=Lib.hid l;have HT:=Lib.hid ht;have HNM:=Lib.hid hnm
 have hv8:K.vars<=8:=by rw [<- l.km.agr.same.n];exact l.km.fit.n6
 have hMn:M.n=K.vars:=l.km.agr.same.n;have HU0:=Lib.hid ((Upd.refl [] w).alloc (.cells #[.int .i64 t.n,.slice ta t.ws.length tc] 121 (0,0)));have hb:=alC w (.int .i64 t.n) (.slice ta t.ws.length tc)
 have HTB:Hid (∀ z,Upd [] w z->Calls Tryz.prog 121 #[.pointer (some ⟨b,0,none⟩),.int .i64 K.vars,.int .u32 r] z fun e w'=>aGy t z e w'):=fun z u=>by
  have e:K.tab r=t:=h.mem.ker.ok.tab_eq (by omega) hnm.1 ht.ok htn hnm.2;rw [<- e];exact asf b r K F z (h.mem.ker.upd u (by simp)) hnm.1 hv8
 have HSM:Hid (∀ (z:World) (Z1 Z2:List Nat) (c1 c2:Value) (t1 t2:TV),TIn z Z1 c1 t1->TIn z Z2 c2 t2->Calls Tryz.prog 122 #[aeH t1 c1,aeH t2 c2] z fun e w'=>e=.returned (.bool (decide (t1=t2)))/\Upd [] z w'):=fun z Z1 Z2 c1 c2 t1 t2 h1 h2 =>
  ajX [z.heap.size] c1 c2 t1 t2 z h1.any h2.any
 have HC:Hid (∀ z,Upd [] w z->z.cell? ⟨a,0,none⟩=some (.pointer (some ⟨b,0,none⟩))/\z.cell? ⟨a,1,none⟩=some (.pointer (some ⟨m,0,none⟩))/\z.cell? ⟨a,2,none⟩=some (.slice ra refs.length rc)/\z.cell? ⟨a,3,none⟩=some (.slice xa tabs.length xc)/\z.cell? ⟨m,0,none⟩=some (.int .i64 K.vars)):=fun z u=>by
  obtain ⟨c0,c1,c2,c3⟩:=h.cells;have hm0:=h.mem.mod.cells.1;rw [hMn] at hm0;exact ⟨u.cell0 c0,u.cell0 c1,u.cell0 c2,u.cell0 c3,u.cell0 hm0⟩
 have hB1:∀ k,((Value.slice ra refs.length rc).ownBlock=some k\/(Value.slice xa tabs.length xc).ownBlock=some k)->k<w.heap.size/\k≠a:=fun k hk=>by
  rcases hk with hk | hk
  ·refine ⟨(h.mem.rr.lt k hk).2,fun e=>?_⟩
   subst e;exact aq1 h.mem.rr h.blk (by decide) hk
  ·obtain ⟨xs,hr⟩:=h.mem.tt.row
   refine ⟨(hr.lt k hk).2,fun e=>?_⟩;subst e;exact aq1 hr h.blk (by decide) hk
 have HB1:=Lib.hid hB1;have haw:a<w.heap.size:=aa4 h.blk;obtain ⟨kv,hkv⟩ : ∃ kv,K.vars=kv:=⟨_,rfl⟩;have HKV:=Lib.hid hkv;rw [hkv] at HTB HC hv8
 have hn:t.n=kv:=by rw [htn,hkv]
 obtain ⟨n,hnn⟩ : ∃ n,t.n=n:=⟨_,rfl⟩;obtain ⟨W,hW⟩ : ∃ W,t.ws.length=W:=⟨_,rfl⟩;have HN:=Lib.hid hnn;have HWL:=Lib.hid hW
 have HNK:Hid (n=kv):=by show _=_;omega
 rw [hnn,hW] at HU0 hb
 have HX0:Hid (∀ z,Upd [] (w.alloc (.cells #[.int .i64 n,.slice ta W tc] 121 (0,0))) z->z.cell? ⟨w.heap.size,0,none⟩=some (.int .i64 n)/\z.cell? ⟨w.heap.size,1,none⟩=some (.slice ta W tc)):=fun z u=>aer u hb
 show Calls _ _ #[.pointer (some ⟨a,0,none⟩),.int .u32 r,.agg #[.int .i64 t.n,.slice ta t.ws.length tc]] _ _
 rw [hnn,hW]
 have htw:W<=1024:=by rw [<- hW];exact ht.ok.len_le
 clear h l ht hnm hMn hb hkv htn hnn hW hn hB1
 go_enter Tryz.func54,Tryz.ntmps54
 obtain ⟨w0,hw0⟩ : ∃ w0,w.alloc (.cells #[.int .i64 n,.slice ta W tc] 121 (0,0))=w0:=⟨_,rfl⟩;rw [hw0] at HU0 HX0;have HW0:=Lib.hid hw0;clear hw0
 have HSE:Hid (∀ z,Upd [] w0 z->z.cell? ⟨a,0,none⟩=some (.pointer (some ⟨b,0,none⟩))/\z.cell? ⟨a,1,none⟩=some (.pointer (some ⟨m,0,none⟩))/\z.cell? ⟨m,0,none⟩=some (.int .i64 kv)):=fun z u=>by
  obtain ⟨c0,c1,_,_,c4⟩:=HC.out z (HU0.out.trans u);exact ⟨c0,c1,c4⟩
 have HT0:=Lib.hid (HTB.out w0.drew HU0.out.drew);go_upto_region 1 with fail;rw [HW0.out]
 go_cut [7,8] from 11 to 26 (fun s7 s8 wc=>asU n W t w0 s7 s8 wc)
 case first =>
  refine ahs (fun z=>z.cell? ⟨a,0,none⟩=some (.pointer (some ⟨b,0,none⟩))/\z.cell? ⟨a,1,none⟩=some (.pointer (some ⟨m,0,none⟩))/\z.cell? ⟨m,0,none⟩=some (.int .i64 kv)) (fun _=>True) [] (by kernel_rfl) ?_;have hS:=HSE.out _ (Upd.refl _ _).drew;have hE:True:=trivial;refine tkS 0 rfl hS (fun _=>hE) ?_;refine tkS 1 rfl hS (fun _=>hE) ?_;refine tkS 2 rfl hS (fun _=>hE) ?_;refine tkS 3 rfl hS (fun _=>hE) ?_;refine tkS 4 rfl hS (fun _=>hE) ?_;refine tkS 5 rfl hS (fun _=>hE) ?_;refine tkS 6 rfl hS (fun _=>hE) ?_;refine tkS 7 rfl hS (fun _=>hE) ?_;refine tkS 8 rfl hS (fun _=>hE) ?_;refine tkS 9 rfl hS (fun _=>hE) ?_;refine tkS 10 rfl hS (fun _=>hE) ?_;refine tkS 11 rfl hS (fun _=>hE) ?_;refine abZ (rs:=[12,16]) (by kernel_rfl) (by simp) ?_;refine aa7.cons rfl (fun Kx hK=>?_) ?_
  ·
   go_simp
   refine (HTB.out _ (HU0.out.trans (Upd.refl [] w0).drew)).mono ?_;rintro e w1 hE1;obtain ⟨c1,rfl,hT1,hu⟩:=hE1.ex;obtain ⟨ga,gc,rfl,_⟩:=ahV hT1.row;have HU1:Hid (Upd [] w0 w1):=Upd.trans (Upd.refl [] w0).drew hu;unfold aeH;rw [HWL.out] at hT1 ⊢;rw [HN.out];have HT1:=Lib.hid hT1;clear hE1 hu hT1;go_wp2_with fail;refine hK.out _ _ ⟨HSE.out _ HU1.out,fun _=>trivial⟩ (fun hHeld=>?_);clear hK Kx;obtain ⟨hS,hE⟩:=hHeld;have hE:=hE (by kernel_rfl)
   (try simp only [Act.put,List.setIfInBounds_toArray,List.set_cons_zero,List.set_cons_succ])
   refine tkS 13 rfl hS (fun _=>hE) ?_;refine tkS 14 rfl hS (fun _=>hE) ?_;refine tkS 15 rfl hS (fun _=>hE) ?_;refine abZ (rs:=[16]) (by kernel_rfl) (by simp) ?_;refine aa7.cons rfl (fun Kx hK=>?_) ?_
   rotate_left
   exact aa7.nil
   go_simp
   refine hK.out _ _ ⟨HSE.out _ (HU1.out.alloc _),fun _=>trivial⟩ (fun hHeld=>?_);clear hK Kx;obtain ⟨hS,hE⟩:=hHeld;have hE:=hE (by kernel_rfl)
   (try simp only [Act.put,List.setIfInBounds_toArray,List.set_cons_zero,List.set_cons_succ])
   refine abZ (rs:=[17]) (by kernel_rfl) (by simp) ?_;refine aa7.cons rfl (fun Kx hK=>?_) ?_
   rotate_left
   exact aa7.nil
   go_simp
   refine hK.out _ _ ⟨HSE.out _ (HU1.out.alloc _),fun _=>trivial⟩ (fun hHeld=>?_);clear hK Kx;obtain ⟨hS,hE⟩:=hHeld;have hE:=hE (by kernel_rfl)
   (try simp only [Act.put,List.setIfInBounds_toArray,List.set_cons_zero,List.set_cons_succ])
   refine tkS 18 rfl hS (fun _=>hE) ?_;refine afM (by kernel_rfl) ?_ _;clear hS hE
   (try go_simp)
   go_wp2_with fail;go_meet;exact asU.of1 HT1.out HU1.out
  refine aa7.cons rfl (fun Kx hK=>?_) ?_
  rotate_left
  exact aa7.nil
  go_simp
  refine hK.out _ _ ⟨HSE.out _ ((Upd.refl [] w0).drew.alloc _),fun _=>trivial⟩ (fun hHeld=>?_);clear hK Kx;obtain ⟨hS,hE⟩:=hHeld;have hE:=hE (by kernel_rfl)
  (try simp only [Act.put,List.setIfInBounds_toArray,List.set_cons_zero,List.set_cons_succ])
  refine abZ (rs:=[12]) (by kernel_rfl) (by simp) ?_;refine aa7.cons rfl (fun Kx hK=>?_) ?_
  rotate_left
  exact aa7.nil
  go_simp
  refine (HTB.out _ (HU0.out.trans ((Upd.refl [] w0).drew.alloc (.cells #[.int .i64 0,.slice none 0 0] 121 (0,0))))).mono ?_;rintro e w1 hE1;obtain ⟨c1,rfl,hT1,hu⟩:=hE1.ex;obtain ⟨ga,gc,rfl,_⟩:=ahV hT1.row;have HU1:Hid (Upd [] w0 w1):=Upd.trans ((Upd.refl [] w0).drew.alloc (.cells #[.int .i64 0,.slice none 0 0] 121 (0,0))) hu;unfold aeH;rw [HWL.out] at hT1 ⊢;rw [HN.out];have HT1:=Lib.hid hT1;have hbx:=(hu.block w0.heap.size (by rw [World.size_alloc];show w0.heap.size<w0.heap.size+1;omega) (by simp)).trans (heap_alloc_new w0.drew (.cells #[.int .i64 0,.slice none 0 0] 121 (0,0)));have y0:=aac (j:=0) hbx rfl;have y1:=aac (j:=1) hbx rfl;have g0:=abq 0 hbx;have g1:=abq 1 hbx;have HBX:=Lib.hid hbx;clear hE1 hu hT1 hbx;go_wp2_with fail;refine hK.out _ _ ⟨HSE.out _ HU1.out,fun _=>trivial⟩ (fun hHeld=>?_);clear hK Kx;obtain ⟨hS,hE⟩:=hHeld;have hE:=hE (by kernel_rfl)
  (try simp only [Act.put,List.setIfInBounds_toArray,List.set_cons_zero,List.set_cons_succ])
  refine tkS 13 rfl hS (fun _=>hE) ?_;refine tkS 14 rfl hS (fun _=>hE) ?_;refine tkS 15 rfl hS (fun _=>hE) ?_;refine abZ (rs:=[17]) (by kernel_rfl) (by simp) ?_;refine aa7.cons rfl (fun Kx hK=>?_) ?_
  rotate_left
  exact aa7.nil
  go_simp
  refine hK.out _ _ ⟨HSE.out _ ((HU1.out.setCell (p:=⟨w0.heap.size,0,none⟩) (.inr (Nat.le_refl _)) _).setCell (p:=⟨w0.heap.size,1,none⟩) (.inr (Nat.le_refl _)) _),fun _=>trivial⟩ (fun hHeld=>?_);clear hK Kx;obtain ⟨hS,hE⟩:=hHeld;have hE:=hE (by kernel_rfl)
  (try simp only [Act.put,List.setIfInBounds_toArray,List.set_cons_zero,List.set_cons_succ])
  refine tkS 18 rfl hS (fun _=>hE) ?_;refine afM (by kernel_rfl) ?_ _;clear hS hE
  (try go_simp)
  go_wp2_with fail;go_meet;exact asU.of2 HBX.out HT1.out HU1.out
 case rest =>
  obtain ⟨B,ga,gc,rfl,rfl,hbB,hTg,hu1⟩:=hcut.ex;have HUC:=Lib.hid (HU0.out.trans hu1);have hs1:=HSM.out wc [] _ _ _ t t hTg (HT.out.keep0 HUC.out);unfold aeH at hs1;rw [HWL.out,HN.out] at hs1;rw [show decide (t=t)=true by simp] at hs1;have HS1:=Lib.hid hs1;have v0:=aac (j:=0) hbB rfl;have v1:=aac (j:=1) hbB rfl;obtain ⟨b0,b1⟩:=HX0.out wc hu1;clear hcut hbB hTg hu1 hs1;go_wp2_with fail;refine HS1.out.mono ?_;rintro e w2 ⟨rfl,hu⟩;have HU2:=Lib.hid (HUC.out.trans hu)
  have HXB:Hid (∀ z,Upd [] w2 z->z.cell? ⟨w.heap.size,0,none⟩=some (.int .i64 n)/\z.cell? ⟨w.heap.size,1,none⟩=some (.slice ta W tc)):=fun z u=>⟨u.cell0 (hu.cell0 b0),u.cell0 (hu.cell0 b1)⟩
  obtain ⟨_,_,c2,c3,_⟩:=HC.out w2 HU2.out;clear hu v0 v1 b0 b1;obtain ⟨TL,hTL⟩ : ∃ TL,tabs.length=TL:=⟨_,rfl⟩;have aP0:=Lib.hid hTL
  have aSL:TL<=40:=by have h1:=HLG.out.lr;have h2:=HLG.out.rb;omega
  rw [hTL] at c3;clear hTL;go_wp2_with fail
  go_loopg [40] TL (fun gg s40 wr=>∃ i:Nat,TL-i=gg/\i<=TL/\s40=.int .i64 i/\Upd [] w2 wr)
  case atStart=>exact ⟨0,by omega,by omega,rfl,Upd.refl _ _⟩
  case round =>
   obtain ⟨i,rfl,hi,rfl,hU⟩:=hrel
   by_cases hlt:i<TL
   ·have hil:(i:Int)<(TL:Int):=by omega
    have hi0:(0:Int)<=(i:Int):=by omega
    obtain ⟨u,hu⟩ : ∃ u,tabs[i]?=some u:=⟨_,List.getElem?_eq_getElem (by have h:=aP0.out;omega)⟩
    have hrl:refs.length=TL:=by have h1:=HLG.out.lr;have h2:=aP0.out;omega
    obtain ⟨s,hs⟩ : ∃ s,refs[i]?=some s:=⟨_,List.getElem?_eq_getElem (by omega)⟩;have HPI:=Lib.hid (HL.out.keep0 (HU2.out.trans hU));obtain ⟨g,rfl⟩:=hxa (by have h:=aP0.out;omega);obtain ⟨cu,x0,x1,htu⟩:=HPI.out.mem.tt.at_ hu;obtain ⟨ua,uc,rfl,_⟩:=ahV htu.row;obtain ⟨gr,rfl⟩:=aeP HPI.out.mem.rr (by omega);have z0:=abf HPI.out.mem.rr (aum hs)
    have hun:u.n=n:=by have h1:=(HLG.out.ok u (List.mem_of_getElem? hu)).2;have h2:K.vars=kv:=HKV.out;have h3:n=kv:=HNK.out;omega
    have auo:(decide (u=t) != decide (s=r))=false:=aHT HL.out.mem.ker.ok HL.out.mem.ker.uni HNM.out (HLG.out.nm i s u hs hu) HT.out.ok (HLG.out.ok u (List.mem_of_getElem? hu)).1 (by rw [HN.out,hun]);obtain ⟨du,hdu⟩ : ∃ du,decide (u=t)=du:=⟨_,rfl⟩
    have hdr:((s:Int) == (r:Int))=du:=by
     rw [hdu] at auo
     have h2:decide (s=r)=du:=by cases du <;> simpa using auo
     rw [<- h2,Bool.eq_iff_iff];simp;omega
    have hdd:(du != du)=false:=by simp
    obtain ⟨UW,hUW⟩ : ∃ UW,u.ws.length=UW:=⟨_,rfl⟩;rw [hun] at x0;rw [hUW] at x1;have hbx:=alC wr (.int .i64 n) (.slice ua UW uc);have hu6:Upd [] wr (wr.alloc (.cells #[.int .i64 n,.slice ua UW uc] 121 (0,0))):=(Upd.refl _ _).alloc _;obtain ⟨w6,hw6⟩ : ∃ w6,wr.alloc (.cells #[.int .i64 n,.slice ua UW uc] 121 (0,0))=w6:=⟨_,rfl⟩;rw [hw6] at hbx hu6;have HW6:=Lib.hid hw6
    have HSS:Hid (∀ z,Upd [] w6 z->Calls Tryz.prog 122 #[.agg #[.int .i64 n,.slice ua UW uc],.agg #[.int .i64 n,.slice ta W tc]] z fun e w'=>e=.returned (.bool du)/\Upd [] z w'):=fun z uz=>by
     have h1:=HSM.out z _ _ _ _ u t ((htu.keep0 hu6).keep0 uz) (HT.out.keep0 ((HU2.out.trans hU).trans (hu6.trans uz)));unfold aeH at h1;rw [HWL.out,HN.out,hun,hUW,hdu] at h1;exact h1
    have aKs:Hid (∀ z,Upd [] w6 z->(z.cell? ⟨wr.heap.size,0,none⟩=some (.int .i64 n)/\z.cell? ⟨wr.heap.size,1,none⟩=some (.slice ua UW uc))/\(z.cell? ⟨w.heap.size,0,none⟩=some (.int .i64 n)/\z.cell? ⟨w.heap.size,1,none⟩=some (.slice ta W tc))/\z.cell? ⟨a,2,none⟩=some (.slice (some ⟨gr,0,none⟩) refs.length rc)/\z.cell? ⟨gr,i,none⟩=some (.int .u32 s)):=fun z uz =>
     ⟨aer uz hbx,HXB.out z (hU.trans (hu6.trans uz)),(HC.out z ((HU2.out.trans hU).trans (hu6.trans uz))).2.2.1,uz.cell0 (hu6.cell0 z0)⟩
    have HUU:=Lib.hid (hU.trans hu6)
    have aSN:(i:Int)<(refs.length:Int):=by omega
    have aSO:i<refs.length:=by omega
    rw [hrl] at aKs aSN aSO;clear hU hu hs htu hun auo hdu hUW hu6 hw6 z0 c2 aSN aSO hrl;go_wp2_with fail;rw [HW6.out]
    go_region_held3 (fun z=>(z.cell? ⟨wr.heap.size,0,none⟩=some (.int .i64 n)/\z.cell? ⟨wr.heap.size,1,none⟩=some (.slice ua UW uc))/\(z.cell? ⟨w.heap.size,0,none⟩=some (.int .i64 n)/\z.cell? ⟨w.heap.size,1,none⟩=some (.slice ta W tc))/\z.cell? ⟨a,2,none⟩=some (.slice (some ⟨gr,0,none⟩) TL rc)/\z.cell? ⟨gr,i,none⟩=some (.int .u32 s)) (first | exact aKs.out _ (Upd.refl _ _).drew | exact aKs.out _ HU7.out) (first
     | (go_at_call 122;refine (HSS.out _ (Upd.refl _ _).drew).mono ?_;rintro e w7 ⟨rfl,hu⟩;have HU7:=Lib.hid ((Upd.refl [] w6).drew.trans hu);clear hu))
    go_wp2_with fail
    go_roundg (TL-(i+1))
    case measure=>omega
    case rel=>exact ⟨i+1,rfl,by omega,by first | rfl | (rw [avv (by omega)]) | simp,HUU.out.trans HU7.out⟩
   ·obtain rfl:i=TL:=by omega
    have hil:¬ ((i:Int)<(i:Int)):=by omega
    generalize wr=w3 at *;have HL3:=Lib.hid (And.intro (HL.out.keep0 (HU2.out.trans hU)) (Fro.of0 (n0:=n0) (HU2.out.trans hU)))
    have aWR:Hid (TIn w3 (F++p.all m) (.slice ta W tc) t):=by
     have h:=HT.out.keep0 (HU2.out.trans hU)
     rw [HWL.out] at h;exact h
    obtain ⟨b0,b1⟩:=HXB.out w3 hU;obtain ⟨c0,_,c2,c3,_⟩:=HC.out w3 (HU2.out.trans hU)
    have HS:Hid (∀ x:World,Upd ((Value.slice ra refs.length rc).ownBlock.toList++(Value.slice xa tabs.length xc).ownBlock.toList) w3 x->x.cell? ⟨a,2,none⟩=some (.slice ra refs.length rc)/\x.cell? ⟨a,3,none⟩=some (.slice xa tabs.length xc)/\x.cell? ⟨w.heap.size,0,none⟩=some (.int .i64 n)/\x.cell? ⟨w.heap.size,1,none⟩=some (.slice ta W tc)):=fun x u=>by
     have no:∀ k,(k=a\/k=w.heap.size)->k∉(Value.slice ra refs.length rc).ownBlock.toList++(Value.slice xa tabs.length xc).ownBlock.toList:=fun k hk hm=>by
      have hm:(Value.slice ra refs.length rc).ownBlock=some k\/(Value.slice xa tabs.length xc).ownBlock=some k:=by simpa using hm
      have:=HB1.out k hm
      rcases hk with rfl | rfl
      ·exact this.2 rfl
      ·omega
     exact ⟨(u.cell (World.block_lt_of_cell? _ _ c2) (no a (.inl rfl))).trans c2,(u.cell (World.block_lt_of_cell? _ _ c3) (no a (.inl rfl))).trans c3,(u.cell (World.block_lt_of_cell? _ _ b0) (no _ (.inr rfl))).trans b0,(u.cell (World.block_lt_of_cell? _ _ b1) (no _ (.inr rfl))).trans b1⟩
    clear hU HTB HSM HC HX0 HXB HSE HT0;go_upto_region 10 with fail;obtain ⟨cs,aKt,aM5,aSP⟩:=HL3.out.1.mem.tt.ex;obtain ⟨tr,hr0,hr1,hr2,hr3⟩:=info_parts Tryz.infoRefS;obtain ⟨tt,ht0,ht1,ht2,ht3⟩:=info_parts Tryz.infoTable;have HIR:=Lib.hid (And.intro hr0 (And.intro hr1 (And.intro hr2 hr3)));have HIT:=Lib.hid (And.intro ht0 (And.intro ht1 (And.intro ht2 ht3)));have HCS:=Lib.hid (And.intro aKt (And.intro aM5 aSP))
    have HRR:Hid (∀ x:World,Upd (Value.slice xa tabs.length xc).ownBlock.toList w3 x->x.ownsRow 0 77 1 (.slice ra refs.length rc) refs.length (ach refs)):=fun x u=>aaX HL3.out.1.mem.rr fun k hk=>u.block k (HL3.out.1.mem.rr.lt k hk).2 fun hm=>asA HL3.out.1.mem.rr HCS.out.2.1 (by decide) hk (by simpa using hm)
    have HRT:Hid (∀ x:World,Upd (Value.slice ra refs.length rc).ownBlock.toList w3 x->x.ownsRow 0 121 2 (.slice xa tabs.length xc) tabs.length (agp tabs cs)):=fun x u=>aaX HCS.out.2.1 fun k hk=>u.block k (HCS.out.2.1.lt k hk).2 fun hm=>asA HCS.out.2.1 HL3.out.1.mem.rr (by decide) hk (by simpa using hm)
    have HFZ:Hid (∀ x:World,Upd ((Value.slice ra refs.length rc).ownBlock.toList++(Value.slice xa tabs.length xc).ownBlock.toList) w3 x->x.frozen? ⟨a,2,none⟩=false/\x.frozen? ⟨a,3,none⟩=false/\x.cell? ⟨a,2,none⟩=some (.slice ra refs.length rc)/\x.cell? ⟨a,3,none⟩=some (.slice xa tabs.length xc)):=fun x u=>by
     have no:a∉(Value.slice ra refs.length rc).ownBlock.toList++(Value.slice xa tabs.length xc).ownBlock.toList:=fun hm=>by
      rcases List.mem_append.1 hm with hm | hm
      ·exact aq1 HL3.out.1.mem.rr HL3.out.1.blk (by decide) (by simpa using hm)
      ·exact aq1 HCS.out.2.1 HL3.out.1.blk (by decide) (by simpa using hm)
     have hb:=(u.block a (aa4 HL3.out.1.blk) no).trans HL3.out.1.blk;exact ⟨abq 2 hb,abq 3 hb,aac hb rfl,aac hb rfl⟩
    have HRL:Hid (∀ k,some k=(Value.slice ra refs.length rc).ownBlock->k<w3.heap.size):=fun k hk=>(HL3.out.1.mem.rr.lt k hk.symm).2
    have HC1:Hid (∀ u,u∈[Value.int .u32 r]->u.oneCell'=true):=by intro u hu;simp at hu;subst hu;rfl
    have HC2:Hid (∀ u,u∈[Value.int .i64 n,Value.slice ta W tc]->u.oneCell'=true):=by intro u hu;simp at hu;rcases hu with rfl | rfl <;> rfl
    have htl:tabs.length<=500:=by have h1:=HLG.out.lr;have h2:=HLG.out.rb;omega
    have hrl:refs.length<=500:=by have h2:=HLG.out.rb;omega
    clear hr0 hr1 hr2 hr3 ht0 ht1 ht2 ht3 aKt aM5 aSP
    have aKu:Hid (∀ (g1 anz g2 aiP:Nat) (w6:World),Upd ((Value.slice ra refs.length rc).ownBlock.toList++(Value.slice xa tabs.length xc).ownBlock.toList) w3 w6->w6.ownsRow 0 77 1 (.slice (some ⟨g1,0,none⟩) (refs.length+1) anz) (refs.length+1) (ach refs++[.int .u32 r]) ->
      w6.ownsRow 0 121 2 (.slice (some ⟨g2,0,none⟩) (tabs.length+1) aiP) (tabs.length+1) (agp tabs cs++[.int .i64 n,.slice ta W tc])->(((Value.slice ra refs.length rc).ownBlock=some g1\/w3.heap.size<=g1)/\((Value.slice xa tabs.length xc).ownBlock=some g2\/w3.heap.size<=g2)) ->
      aOp n0 a b m K F M p refs tabs r t w (.returned (.bool true)) ((w6.setCell ⟨a,2,none⟩ (.slice (some ⟨g1,0,none⟩) (refs.length+1) anz)).setCell ⟨a,3,none⟩ (.slice (some ⟨g2,0,none⟩) (tabs.length+1) aiP))):=fun g1 anz g2 aiP w6 u o1 o2 at_=>by
     rw [<- HN.out] at o2;obtain ⟨hl,hf⟩:=HL3.out.1.push u HCS.out.1 HCS.out.2.2 o1 o2 at_.1 at_.2 aWR.out;exact ⟨_,_,rfl,hl,HL3.out.2.trans hf⟩
    obtain ⟨y02,y03,y00,y01⟩:=HS.out (w3.alloc (.cells #[.int .u32 r] 77 (0,0))) ((Upd.refl _ _).alloc _);obtain ⟨y12,y13,y10,y11⟩:=HS.out (w3.alloc (.cells #[.int .i64 n,.slice ta W tc] 121 (0,0))) ((Upd.refl _ _).alloc _);obtain ⟨y22,y23,y20,y21⟩:=HS.out ((w3.alloc (.cells #[.int .u32 r] 77 (0,0))).alloc (.cells #[.int .i64 n,.slice ta W tc] 121 (0,0))) (((Upd.refl _ _).alloc _).alloc _);obtain ⟨y32,y33,y30,y31⟩:=HS.out ((w3.alloc (.cells #[.int .i64 n,.slice ta W tc] 121 (0,0))).alloc (.cells #[.int .u32 r] 77 (0,0))) (((Upd.refl _ _).alloc _).alloc _)
    have HXB:Hid (((w3.alloc (.cells #[.int .u32 r] 77 (0,0))).alloc (.cells #[.int .i64 n,.slice ta W tc] 121 (0,0))).heap[w3.heap.size+1]?=some (.cells #[.int .i64 n,.slice ta W tc] 121 (0,0))):=by
     have h:=heap_alloc_new (w3.alloc (.cells #[.int .u32 r] 77 (0,0))) (.cells #[.int .i64 n,.slice ta W tc] 121 (0,0))
     rw [World.size_alloc] at h;exact h
    have HXC:Hid (((w3.alloc (.cells #[.int .i64 n,.slice ta W tc] 121 (0,0))).alloc (.cells #[.int .u32 r] 77 (0,0))).heap[w3.heap.size]?=some (.cells #[.int .i64 n,.slice ta W tc] 121 (0,0))):=(Below.heap_alloc _ _ _ (aa4 (heap_alloc_new _ _))).trans (heap_alloc_new _ _)
    have HNX:Hid (∀ k,w3.heap.size<=k->some k≠(Value.slice ra refs.length rc).ownBlock):=fun k hk e=>by have:=HRL.out k e;omega
    have aP1:Hid ((w3.alloc (.cells #[.int .u32 r] 77 (0,0))).heap[w3.heap.size]?=some (.cells #[.int .u32 r] 77 (0,0))):=heap_alloc_new _ _;have aP2:Hid (((w3.alloc (.cells #[.int .u32 r] 77 (0,0))).alloc (.cells #[.int .i64 n,.slice ta W tc] 121 (0,0))).heap[w3.heap.size]?=some (.cells #[.int .u32 r] 77 (0,0))):=(Below.heap_alloc _ _ _ (aa4 (heap_alloc_new _ _))).trans (heap_alloc_new _ _)
    have aP3:Hid (((w3.alloc (.cells #[.int .i64 n,.slice ta W tc] 121 (0,0))).alloc (.cells #[.int .u32 r] 77 (0,0))).heap[w3.heap.size+1]?=some (.cells #[.int .u32 r] 77 (0,0))):=by
     have h:=heap_alloc_new (w3.alloc (.cells #[.int .i64 n,.slice ta W tc] 121 (0,0))) (.cells #[.int .u32 r] 77 (0,0))
     rw [World.size_alloc] at h;exact h
    have HSB:Hid (∀ x:World,Upd ((Value.slice ra refs.length rc).ownBlock.toList++(Value.slice xa tabs.length xc).ownBlock.toList) w3 x->x.cell? ⟨w.heap.size,0,none⟩=some (.int .i64 n)/\x.cell? ⟨w.heap.size,1,none⟩=some (.slice ta W tc)):=fun x u=>⟨(HS.out x u).2.2.1,(HS.out x u).2.2.2⟩
    have hne:w.heap.size≠a:=by omega
    have HSE:Hid (∀ x:World,Upd ((Value.slice ra refs.length rc).ownBlock.toList++(Value.slice xa tabs.length xc).ownBlock.toList) w3 x->(x.cell? ⟨w.heap.size,0,none⟩=some (.int .i64 n)/\x.cell? ⟨w.heap.size,1,none⟩=some (.slice ta W tc))/\x.cell? ⟨a,2,none⟩=some (.slice ra refs.length rc)/\x.cell? ⟨a,3,none⟩=some (.slice xa tabs.length xc)):=fun x u=>⟨HSB.out x u,(HFZ.out x u).2.2.1,(HFZ.out x u).2.2.2⟩
    refine ahs (fun x=>x.cell? ⟨w.heap.size,0,none⟩=some (.int .i64 n)/\x.cell? ⟨w.heap.size,1,none⟩=some (.slice ta W tc)) (fun x=>x.cell? ⟨a,2,none⟩=some (.slice ra refs.length rc)/\x.cell? ⟨a,3,none⟩=some (.slice xa tabs.length xc)) [18,21] (by kernel_rfl) ?_;have hS:=(HSE.out _ (Upd.refl _ _).drew).1;have hE:=(HSE.out _ (Upd.refl _ _).drew).2;refine tkS 0 rfl hS (fun _=>hE) ?_;refine tkS 1 rfl hS (fun _=>hE) ?_;refine tkS 2 rfl hS (fun _=>hE) ?_;refine tkS 3 rfl hS (fun _=>hE) ?_;refine tkS 4 rfl hS (fun _=>hE) ?_;refine atT (i:=5) (v:=?v5) rfl (by kernel_rfl) (by kernel_rfl) (by kernel_rfl) (by kernel_rfl) (by kernel_rfl) (by kernel_rfl) (fun _ _ _ h=>h) (Or.inl ⟨by rfl,?hy5⟩) hS (fun _=>hE) ?rest5
    case hy5=>(intro x hSx;(try dsimp only at hSx);go_simp;try with_reducible rfl)
    (try simp only [Act.put])
    refine tkS 6 rfl hS (fun _=>hE) ?_;refine tkS 9 rfl hS (fun _=>hE) ?_;refine tkS 10 rfl hS (fun _=>hE) ?_;refine tkS 11 rfl hS (fun _=>hE) ?_;refine atT (i:=12) (v:=?v10) rfl (by kernel_rfl) (by kernel_rfl) (by kernel_rfl) (by kernel_rfl) (by kernel_rfl) (by kernel_rfl) (fun _ _ _ h=>h) (Or.inl ⟨by rfl,?hy10⟩) hS (fun _=>hE) ?rest10
    case hy10=>(intro x hSx;(try dsimp only at hSx);go_simp;try with_reducible rfl)
    (try simp only [Act.put])
    refine tkS 13 rfl hS (fun _=>hE) ?_;refine abZ (rs:=[7,14]) (by kernel_rfl) (by simp) ?_;refine aa7.cons rfl (fun K hK=>?_) ?_
    ·go_simp
     refine hK.out _ _ ⟨(HSE.out _ ((Upd.refl _ _).drew.alloc _)).1,fun _=>(HSE.out _ ((Upd.refl _ _).drew.alloc _)).2⟩ (fun hHeld=>?_);clear hK K;obtain ⟨hS,hE⟩:=hHeld;have hE:=hE (by kernel_rfl)
     (try simp only [Act.put,List.setIfInBounds_toArray,List.set_cons_zero,List.set_cons_succ])
     refine abZ (rs:=[8,14]) (by kernel_rfl) (by simp) ?_;refine aa7.cons rfl (fun K hK=>?_) ?_
     ·
      (refine step_append_lies _ (by rfl) (.tmp 64) (.tmp 66) 42 (by rfl) 0 77 tr _ 1 4 Tryz.underlying42 HIR.out.1 HIR.out.2.1 HIR.out.2.2.1 HIR.out.2.2.2 (by rfl) (by decide) (.slice ra refs.length rc) refs.length (ach refs) (by rfl) (HRR.out _ (by repeat (first | exact Upd.refl _ _ | refine Upd.drew ?_ | refine Upd.alloc ?_ _))) ⟨_,0,none⟩ 1 1 [.int .u32 r] (by rfl) (by rfl) (World.news_of_block (cs:=#[.int .u32 r]) (t:=77) (fr:=(0,0)) (by first | exact aP1.out | exact aP2.out | exact aP3.out)) HC1.out (by omega) (by unfold maxLen;omega) (by omega) (Nat.zero_le _) _ (by rfl) ?_;intro g1 anz w5 ase auH aD9 aAO;have HG1:=Lib.hid (And.intro (Upd.grown (S:=(Value.slice ra refs.length rc).ownBlock.toList++(Value.slice xa tabs.length xc).ownBlock.toList) (w:=w3) (by repeat (first | exact Upd.refl _ _ | refine Upd.drew ?_ | refine Upd.alloc ?_ _)) auH (fun k hk=>.inl (by simp [hk]))) (And.intro (Upd.grown (S:=(Value.slice ra refs.length rc).ownBlock.toList) (w:=w3) (by repeat (first | exact Upd.refl _ _ | refine Upd.drew ?_ | refine Upd.alloc ?_ _)) auH (fun k hk=>.inl (by simp [hk]))) (And.intro ase (avJ (w:=w3) (S:=[]) (by repeat (first | exact Upd.refl _ _ | refine Upd.drew ?_ | refine Upd.alloc ?_ _)) aD9))));have ay4:=Lib.hid auH;obtain ⟨q2,q3,q0,q1⟩:=HS.out w5 HG1.out.1;obtain ⟨p2,p3',p0,p1⟩:=HS.out (w5.alloc (.cells #[.int .i64 n,.slice ta W tc] 121 (0,0))) (HG1.out.1.alloc _);clear ase auH aD9 aAO)
      refine hK.out _ _ ⟨(HSE.out _ HG1.out.1).1,fun _=>(HSE.out _ HG1.out.1).2⟩ (fun hHeld=>?_);clear hK K;obtain ⟨hS,hE⟩:=hHeld;have hE:=hE (by kernel_rfl)
      (try simp only [Act.put,List.setIfInBounds_toArray])
      refine abZ (rs:=[14]) (by kernel_rfl) (by simp) ?_;refine aa7.cons rfl (fun K hK=>?_) ?_
      rotate_left
      exact aa7.nil
      go_simp
      refine hK.out _ _ ⟨(HSE.out _ (HG1.out.1.alloc _)).1,fun _=>(HSE.out _ (HG1.out.1.alloc _)).2⟩ (fun hHeld=>?_);clear hK K;obtain ⟨hS,hE⟩:=hHeld;have hE:=hE (by kernel_rfl)
      (try simp only [Act.put,List.setIfInBounds_toArray,List.set_cons_zero,List.set_cons_succ])
      refine abZ (rs:=[15]) (by kernel_rfl) (by simp) ?_;refine aa7.cons rfl (fun K hK=>?_) ?_
      rotate_left
      exact aa7.nil
      (refine step_append_lies _ (by rfl) (.tmp 71) (.tmp 73) 22 (by rfl) 0 121 tt _ 2 32 Tryz.underlying22 HIT.out.1 HIT.out.2.1 HIT.out.2.2.1 HIT.out.2.2.2 (by rfl) (by decide) (.slice xa tabs.length xc) tabs.length (agp tabs cs) (by rfl) (HRT.out _ (by repeat (first | exact HG1.out.2.1 | refine Upd.drew ?_ | refine Upd.alloc ?_ _))) ⟨_,0,none⟩ 1 1 [.int .i64 n,.slice ta W tc] (by rfl) (by rfl) (World.news_of_block (cs:=#[.int .i64 n,.slice ta W tc]) (t:=121) (fr:=(0,0)) (by first | exact heap_alloc_new _ _ | exact (ay4.out.block _ (aa4 HXB.out) (HNX.out _ (by omega))).trans HXB.out | exact (ay4.out.block _ (aa4 HXC.out) (HNX.out _ (by omega))).trans HXC.out)) HC2.out (by omega) (by unfold maxLen;omega) (by omega) (Nat.zero_le _) _ (by rfl) ?_;intro g2 aiP w6 awP ay5 aqP aut;have HG2:=Lib.hid (And.intro (Upd.grown (S:=(Value.slice ra refs.length rc).ownBlock.toList++(Value.slice xa tabs.length xc).ownBlock.toList) (w:=w3) (by repeat (first | exact HG1.out.1 | refine Upd.drew ?_ | refine Upd.alloc ?_ _)) ay5 (fun k hk=>.inl (by simp [hk]))) (And.intro (ayL (by repeat (first | exact Upd.refl _ _ | refine Upd.drew ?_ | refine Upd.alloc ?_ _)) ay5 HG1.out.2.2.1 (fun k hk hq=>asA HG1.out.2.2.1 (HRT.out _ HG1.out.2.1) (by decide) hk hq)) (And.intro awP (And.intro HG1.out.2.2.2 (avJ (w:=w3) (S:=(Value.slice ra refs.length rc).ownBlock.toList++(Value.slice xa tabs.length xc).ownBlock.toList) (by repeat (first | exact HG1.out.1 | refine Upd.drew ?_ | refine Upd.alloc ?_ _)) aqP)))));obtain ⟨fz2,fz3,k2,k3⟩:=HFZ.out w6 HG2.out.1;clear awP ay5 aqP aut ay4 HG1)
      refine hK.out _ _ ⟨(HSE.out _ HG2.out.1).1,fun _=>(HSE.out _ HG2.out.1).2⟩ (fun hHeld=>?_);clear hK K;obtain ⟨hS,hE⟩:=hHeld;have hE:=hE (by kernel_rfl)
      (try simp only [Act.put,List.setIfInBounds_toArray])
      refine tkS 16 rfl hS (fun _=>hE) ?_;refine tkS 17 rfl hS (fun _=>hE) ?_;refine abZ (rs:=[18]) (by kernel_rfl) (by simp) ?_;refine aa7.cons rfl (fun K hK=>?_) ?_
      rotate_left
      exact aa7.nil
      go_simp
      refine hK.out _ _ ⟨(by refine amf (HSB.out _ HG2.out.1) ?_ _;assumption),fun h=>noE (by kernel_rfl) h⟩ (fun hHeld=>?_);clear hK K;obtain ⟨hS,_⟩:=hHeld
      (try simp only [Act.put,List.setIfInBounds_toArray,List.set_cons_zero,List.set_cons_succ])
      refine tkS 19 rfl hS (fun h=>noE (by kernel_rfl) h) ?_;refine tkS 20 rfl hS (fun h=>noE (by kernel_rfl) h) ?_;refine abZ (rs:=[21]) (by kernel_rfl) (by simp) ?_;refine aa7.cons rfl (fun K hK=>?_) ?_
      rotate_left
      exact aa7.nil
      go_simp
      refine hK.out _ _ ⟨(by refine amf (amf (HSB.out _ HG2.out.1) ?_ _) ?_ _ <;> assumption),fun h=>noE (by kernel_rfl) h⟩ (fun hHeld=>?_);clear hK K;obtain ⟨hS,_⟩:=hHeld
      (try simp only [Act.put,List.setIfInBounds_toArray,List.set_cons_zero,List.set_cons_succ])
      refine afM (by kernel_rfl) ?_ _;go_wp2_with fail;go_ret;exact aKu.out _ _ _ _ _ HG2.out.1 HG2.out.2.1 HG2.out.2.2.1 HG2.out.2.2.2
     refine aa7.cons rfl (fun K hK=>?_) ?_
     rotate_left
     exact aa7.nil
     go_simp
     refine hK.out _ _ ⟨(HSE.out _ (((Upd.refl _ _).drew.alloc _).alloc _)).1,fun _=>(HSE.out _ (((Upd.refl _ _).drew.alloc _).alloc _)).2⟩ (fun hHeld=>?_);clear hK K;obtain ⟨hS,hE⟩:=hHeld;have hE:=hE (by kernel_rfl)
     (try simp only [Act.put,List.setIfInBounds_toArray,List.set_cons_zero,List.set_cons_succ])
     refine abZ (rs:=[8]) (by kernel_rfl) (by simp) ?_;refine aa7.cons rfl (fun K hK=>?_) ?_
     rotate_left
     exact aa7.nil
     (refine step_append_lies _ (by rfl) (.tmp 64) (.tmp 66) 42 (by rfl) 0 77 tr _ 1 4 Tryz.underlying42 HIR.out.1 HIR.out.2.1 HIR.out.2.2.1 HIR.out.2.2.2 (by rfl) (by decide) (.slice ra refs.length rc) refs.length (ach refs) (by rfl) (HRR.out _ (by repeat (first | exact Upd.refl _ _ | refine Upd.drew ?_ | refine Upd.alloc ?_ _))) ⟨_,0,none⟩ 1 1 [.int .u32 r] (by rfl) (by rfl) (World.news_of_block (cs:=#[.int .u32 r]) (t:=77) (fr:=(0,0)) (by first | exact aP1.out | exact aP2.out | exact aP3.out)) HC1.out (by omega) (by unfold maxLen;omega) (by omega) (Nat.zero_le _) _ (by rfl) ?_;intro g1 anz w5 ase auH aD9 aAO;have HG1:=Lib.hid (And.intro (Upd.grown (S:=(Value.slice ra refs.length rc).ownBlock.toList++(Value.slice xa tabs.length xc).ownBlock.toList) (w:=w3) (by repeat (first | exact Upd.refl _ _ | refine Upd.drew ?_ | refine Upd.alloc ?_ _)) auH (fun k hk=>.inl (by simp [hk]))) (And.intro (Upd.grown (S:=(Value.slice ra refs.length rc).ownBlock.toList) (w:=w3) (by repeat (first | exact Upd.refl _ _ | refine Upd.drew ?_ | refine Upd.alloc ?_ _)) auH (fun k hk=>.inl (by simp [hk]))) (And.intro ase (avJ (w:=w3) (S:=[]) (by repeat (first | exact Upd.refl _ _ | refine Upd.drew ?_ | refine Upd.alloc ?_ _)) aD9))));have ay4:=Lib.hid auH;obtain ⟨q2,q3,q0,q1⟩:=HS.out w5 HG1.out.1;obtain ⟨p2,p3',p0,p1⟩:=HS.out (w5.alloc (.cells #[.int .i64 n,.slice ta W tc] 121 (0,0))) (HG1.out.1.alloc _);clear ase auH aD9 aAO)
     refine hK.out _ _ ⟨(HSE.out _ HG1.out.1).1,fun _=>(HSE.out _ HG1.out.1).2⟩ (fun hHeld=>?_);clear hK K;obtain ⟨hS,hE⟩:=hHeld;have hE:=hE (by kernel_rfl)
     (try simp only [Act.put,List.setIfInBounds_toArray])
     refine abZ (rs:=[15]) (by kernel_rfl) (by simp) ?_;refine aa7.cons rfl (fun K hK=>?_) ?_
     rotate_left
     exact aa7.nil
     (refine step_append_lies _ (by rfl) (.tmp 71) (.tmp 73) 22 (by rfl) 0 121 tt _ 2 32 Tryz.underlying22 HIT.out.1 HIT.out.2.1 HIT.out.2.2.1 HIT.out.2.2.2 (by rfl) (by decide) (.slice xa tabs.length xc) tabs.length (agp tabs cs) (by rfl) (HRT.out _ (by repeat (first | exact HG1.out.2.1 | refine Upd.drew ?_ | refine Upd.alloc ?_ _))) ⟨_,0,none⟩ 1 1 [.int .i64 n,.slice ta W tc] (by rfl) (by rfl) (World.news_of_block (cs:=#[.int .i64 n,.slice ta W tc]) (t:=121) (fr:=(0,0)) (by first | exact heap_alloc_new _ _ | exact (ay4.out.block _ (aa4 HXB.out) (HNX.out _ (by omega))).trans HXB.out | exact (ay4.out.block _ (aa4 HXC.out) (HNX.out _ (by omega))).trans HXC.out)) HC2.out (by omega) (by unfold maxLen;omega) (by omega) (Nat.zero_le _) _ (by rfl) ?_;intro g2 aiP w6 awP ay5 aqP aut;have HG2:=Lib.hid (And.intro (Upd.grown (S:=(Value.slice ra refs.length rc).ownBlock.toList++(Value.slice xa tabs.length xc).ownBlock.toList) (w:=w3) (by repeat (first | exact HG1.out.1 | refine Upd.drew ?_ | refine Upd.alloc ?_ _)) ay5 (fun k hk=>.inl (by simp [hk]))) (And.intro (ayL (by repeat (first | exact Upd.refl _ _ | refine Upd.drew ?_ | refine Upd.alloc ?_ _)) ay5 HG1.out.2.2.1 (fun k hk hq=>asA HG1.out.2.2.1 (HRT.out _ HG1.out.2.1) (by decide) hk hq)) (And.intro awP (And.intro HG1.out.2.2.2 (avJ (w:=w3) (S:=(Value.slice ra refs.length rc).ownBlock.toList++(Value.slice xa tabs.length xc).ownBlock.toList) (by repeat (first | exact HG1.out.1 | refine Upd.drew ?_ | refine Upd.alloc ?_ _)) aqP)))));obtain ⟨fz2,fz3,k2,k3⟩:=HFZ.out w6 HG2.out.1;clear awP ay5 aqP aut ay4 HG1)
     refine hK.out _ _ ⟨(HSE.out _ HG2.out.1).1,fun _=>(HSE.out _ HG2.out.1).2⟩ (fun hHeld=>?_);clear hK K;obtain ⟨hS,hE⟩:=hHeld;have hE:=hE (by kernel_rfl)
     (try simp only [Act.put])
     refine tkS 16 rfl hS (fun _=>hE) ?_;refine tkS 17 rfl hS (fun _=>hE) ?_;refine abZ (rs:=[18]) (by kernel_rfl) (by simp) ?_;refine aa7.cons rfl (fun K hK=>?_) ?_
     rotate_left
     exact aa7.nil
     go_simp
     refine hK.out _ _ ⟨(by refine amf (HSB.out _ HG2.out.1) ?_ _;assumption),fun h=>noE (by kernel_rfl) h⟩ (fun hHeld=>?_);clear hK K;obtain ⟨hS,_⟩:=hHeld
     (try simp only [Act.put,List.setIfInBounds_toArray,List.set_cons_zero,List.set_cons_succ])
     refine tkS 19 rfl hS (fun h=>noE (by kernel_rfl) h) ?_;refine tkS 20 rfl hS (fun h=>noE (by kernel_rfl) h) ?_;refine abZ (rs:=[21]) (by kernel_rfl) (by simp) ?_;refine aa7.cons rfl (fun K hK=>?_) ?_
     rotate_left
     exact aa7.nil
     go_simp
     refine hK.out _ _ ⟨(by refine amf (amf (HSB.out _ HG2.out.1) ?_ _) ?_ _ <;> assumption),fun h=>noE (by kernel_rfl) h⟩ (fun hHeld=>?_);clear hK K;obtain ⟨hS,_⟩:=hHeld
     (try simp only [Act.put,List.setIfInBounds_toArray,List.set_cons_zero,List.set_cons_succ])
     refine afM (by kernel_rfl) ?_ _;go_wp2_with fail;go_ret;exact aKu.out _ _ _ _ _ HG2.out.1 HG2.out.2.1 HG2.out.2.2.1 HG2.out.2.2.2
    refine aa7.cons rfl (fun K hK=>?_) ?_
    rotate_left
    exact aa7.nil
    go_simp
    refine hK.out _ _ ⟨(HSE.out _ ((Upd.refl _ _).drew.alloc _)).1,fun _=>(HSE.out _ ((Upd.refl _ _).drew.alloc _)).2⟩ (fun hHeld=>?_);clear hK K;obtain ⟨hS,hE⟩:=hHeld;have hE:=hE (by kernel_rfl)
    (try simp only [Act.put,List.setIfInBounds_toArray,List.set_cons_zero,List.set_cons_succ])
    refine abZ (rs:=[7]) (by kernel_rfl) (by simp) ?_;refine aa7.cons rfl (fun K hK=>?_) ?_
    rotate_left
    exact aa7.nil
    go_simp
    refine hK.out _ _ ⟨(HSE.out _ (((Upd.refl _ _).drew.alloc _).alloc _)).1,fun _=>(HSE.out _ (((Upd.refl _ _).drew.alloc _).alloc _)).2⟩ (fun hHeld=>?_);clear hK K;obtain ⟨hS,hE⟩:=hHeld;have hE:=hE (by kernel_rfl)
    (try simp only [Act.put,List.setIfInBounds_toArray,List.set_cons_zero,List.set_cons_succ])
    refine abZ (rs:=[8]) (by kernel_rfl) (by simp) ?_;refine aa7.cons rfl (fun K hK=>?_) ?_
    rotate_left
    exact aa7.nil
    (refine step_append_lies _ (by rfl) (.tmp 64) (.tmp 66) 42 (by rfl) 0 77 tr _ 1 4 Tryz.underlying42 HIR.out.1 HIR.out.2.1 HIR.out.2.2.1 HIR.out.2.2.2 (by rfl) (by decide) (.slice ra refs.length rc) refs.length (ach refs) (by rfl) (HRR.out _ (by repeat (first | exact Upd.refl _ _ | refine Upd.drew ?_ | refine Upd.alloc ?_ _))) ⟨_,0,none⟩ 1 1 [.int .u32 r] (by rfl) (by rfl) (World.news_of_block (cs:=#[.int .u32 r]) (t:=77) (fr:=(0,0)) (by first | exact aP1.out | exact aP2.out | exact aP3.out)) HC1.out (by omega) (by unfold maxLen;omega) (by omega) (Nat.zero_le _) _ (by rfl) ?_;intro g1 anz w5 ase auH aD9 aAO;have HG1:=Lib.hid (And.intro (Upd.grown (S:=(Value.slice ra refs.length rc).ownBlock.toList++(Value.slice xa tabs.length xc).ownBlock.toList) (w:=w3) (by repeat (first | exact Upd.refl _ _ | refine Upd.drew ?_ | refine Upd.alloc ?_ _)) auH (fun k hk=>.inl (by simp [hk]))) (And.intro (Upd.grown (S:=(Value.slice ra refs.length rc).ownBlock.toList) (w:=w3) (by repeat (first | exact Upd.refl _ _ | refine Upd.drew ?_ | refine Upd.alloc ?_ _)) auH (fun k hk=>.inl (by simp [hk]))) (And.intro ase (avJ (w:=w3) (S:=[]) (by repeat (first | exact Upd.refl _ _ | refine Upd.drew ?_ | refine Upd.alloc ?_ _)) aD9))));have ay4:=Lib.hid auH;obtain ⟨q2,q3,q0,q1⟩:=HS.out w5 HG1.out.1;obtain ⟨p2,p3',p0,p1⟩:=HS.out (w5.alloc (.cells #[.int .i64 n,.slice ta W tc] 121 (0,0))) (HG1.out.1.alloc _);clear ase auH aD9 aAO)
    refine hK.out _ _ ⟨(HSE.out _ HG1.out.1).1,fun _=>(HSE.out _ HG1.out.1).2⟩ (fun hHeld=>?_);clear hK K;obtain ⟨hS,hE⟩:=hHeld;have hE:=hE (by kernel_rfl)
    (try simp only [Act.put,List.setIfInBounds_toArray])
    refine abZ (rs:=[15]) (by kernel_rfl) (by simp) ?_;refine aa7.cons rfl (fun K hK=>?_) ?_
    rotate_left
    exact aa7.nil
    (refine step_append_lies _ (by rfl) (.tmp 71) (.tmp 73) 22 (by rfl) 0 121 tt _ 2 32 Tryz.underlying22 HIT.out.1 HIT.out.2.1 HIT.out.2.2.1 HIT.out.2.2.2 (by rfl) (by decide) (.slice xa tabs.length xc) tabs.length (agp tabs cs) (by rfl) (HRT.out _ (by repeat (first | exact HG1.out.2.1 | refine Upd.drew ?_ | refine Upd.alloc ?_ _))) ⟨_,0,none⟩ 1 1 [.int .i64 n,.slice ta W tc] (by rfl) (by rfl) (World.news_of_block (cs:=#[.int .i64 n,.slice ta W tc]) (t:=121) (fr:=(0,0)) (by first | exact heap_alloc_new _ _ | exact (ay4.out.block _ (aa4 HXB.out) (HNX.out _ (by omega))).trans HXB.out | exact (ay4.out.block _ (aa4 HXC.out) (HNX.out _ (by omega))).trans HXC.out)) HC2.out (by omega) (by unfold maxLen;omega) (by omega) (Nat.zero_le _) _ (by rfl) ?_;intro g2 aiP w6 awP ay5 aqP aut;have HG2:=Lib.hid (And.intro (Upd.grown (S:=(Value.slice ra refs.length rc).ownBlock.toList++(Value.slice xa tabs.length xc).ownBlock.toList) (w:=w3) (by repeat (first | exact HG1.out.1 | refine Upd.drew ?_ | refine Upd.alloc ?_ _)) ay5 (fun k hk=>.inl (by simp [hk]))) (And.intro (ayL (by repeat (first | exact Upd.refl _ _ | refine Upd.drew ?_ | refine Upd.alloc ?_ _)) ay5 HG1.out.2.2.1 (fun k hk hq=>asA HG1.out.2.2.1 (HRT.out _ HG1.out.2.1) (by decide) hk hq)) (And.intro awP (And.intro HG1.out.2.2.2 (avJ (w:=w3) (S:=(Value.slice ra refs.length rc).ownBlock.toList++(Value.slice xa tabs.length xc).ownBlock.toList) (by repeat (first | exact HG1.out.1 | refine Upd.drew ?_ | refine Upd.alloc ?_ _)) aqP)))));obtain ⟨fz2,fz3,k2,k3⟩:=HFZ.out w6 HG2.out.1;clear awP ay5 aqP aut ay4 HG1)
    refine hK.out _ _ ⟨(HSE.out _ HG2.out.1).1,fun _=>(HSE.out _ HG2.out.1).2⟩ (fun hHeld=>?_);clear hK K;obtain ⟨hS,hE⟩:=hHeld;have hE:=hE (by kernel_rfl)
    (try simp only [Act.put])
    refine tkS 16 rfl hS (fun _=>hE) ?_;refine tkS 17 rfl hS (fun _=>hE) ?_;refine abZ (rs:=[18]) (by kernel_rfl) (by simp) ?_;refine aa7.cons rfl (fun K hK=>?_) ?_
    rotate_left
    exact aa7.nil
    go_simp
    refine hK.out _ _ ⟨(by refine amf (HSB.out _ HG2.out.1) ?_ _;assumption),fun h=>noE (by kernel_rfl) h⟩ (fun hHeld=>?_);clear hK K;obtain ⟨hS,_⟩:=hHeld
    (try simp only [Act.put,List.setIfInBounds_toArray,List.set_cons_zero,List.set_cons_succ])
    refine tkS 19 rfl hS (fun h=>noE (by kernel_rfl) h) ?_;refine tkS 20 rfl hS (fun h=>noE (by kernel_rfl) h) ?_;refine abZ (rs:=[21]) (by kernel_rfl) (by simp) ?_;refine aa7.cons rfl (fun K hK=>?_) ?_
    rotate_left
    exact aa7.nil
    go_simp
    refine hK.out _ _ ⟨(by refine amf (amf (HSB.out _ HG2.out.1) ?_ _) ?_ _ <;> assumption),fun h=>noE (by kernel_rfl) h⟩ (fun hHeld=>?_);clear hK K;obtain ⟨hS,_⟩:=hHeld
    (try simp only [Act.put,List.setIfInBounds_toArray,List.set_cons_zero,List.set_cons_succ])
    refine afM (by kernel_rfl) ?_ _;go_wp2_with fail;go_ret;exact aKu.out _ _ _ _ _ HG2.out.1 HG2.out.2.1 HG2.out.2.2.1 HG2.out.2.2.2
theorem aKv {w:World} {g i:Nat} {v:Option Value} (h:w.cell? ⟨g,i,none⟩=v):w.cell? ((⟨g,0,none⟩ : Addr).add i)=v:=by
 rw [<- h];unfold Addr.add;simp;split <;> simp_all
theorem aHY {w:World} {g i:Nat} {v:Option Value} (h:w.cell? ⟨g,i+1,none⟩=v):w.cell? (((⟨g,0,none⟩ : Addr).add i).add 1)=v:=by
 rw [<- h];unfold Addr.add;simp;split <;> simp_all
structure aq8 (w:World) (v:Value) (L:List TV):Prop where
 ex:∃ (A:Option Addr) (c:Nat),v=.slice A L.length c/\L.length<=maxLen/\∀ i t,L[i]?=some t->∃ (x:Addr) (d:Value),A=some x/\w.cell? (x.add (i*2))=some (.int .i64 t.n)/\w.cell? ((x.add (i*2)).add 1)=some d/\∃ N,TIn w [N] d t
theorem aq8.keep0 {w w':World} {v:Value} {L:List TV} (h:aq8 w v L) (u:Upd [] w w'):aq8 w' v L:=by
 obtain ⟨A,c,e,hm,ha⟩:=h.ex;refine ⟨A,c,e,hm,fun i t ht=>?_⟩;obtain ⟨x,d,h1,h2,h3,N,h4⟩:=ha i t ht;exact ⟨x,d,h1,u.cell0 h2,u.cell0 h3,N,h4.keep0 u⟩
structure aP4 (K:KV) (M:MV) (t:TV) (r:Nat) (code:Int) (K':KV):Prop where
 ce:code=M.ansE t
 ext:K.Ext K'
 km:KM K' (M.ans t)
 yes:code=0->Names K' r t/\∀ x,K'.hold x=K.hold x+if x=r/\2<=r then 1 else 0
 no:code≠0->∀ x,K'.hold x=K.hold x
 tr:(M.ans t).trail=[]
 hl:(M.ans t).held.length<=M.held.length+1
theorem aP4.of {K K':KV} {M:MV} {t:TV} {r:Nat} {code:Int} (h:KM K M) (hk:K.Ok) (hu:K.Uni) (hk':K'.Ok) (hu':K'.Uni) (ht:t.Ok) (htn:t.n=K.vars) (hl:M.held.length+1<=65536) (hb:∀ x,K.hold x<65000) (h1:M.trail=[]) (h2:K'.trail=[])
  (L:aFq K (K.SubN t.fn) t.fn r code K'):aP4 K M t r code K':=by
 have hn:=h.n16
 have hh:¬ 65535<=M.holds t:=by
  by_cases hr:∃ s,Names K s t
  ·obtain ⟨s,hs⟩:=hr
   rw [h.agr.holds hk hu ht htn hs];have:=hb s;omega
  ·rw [h.agr.holds0 fun s hs=>hr ⟨s,hs⟩];omega
 rcases L with ⟨rfl,e,t1,d,hd,_⟩ | ⟨rfl,rfl,e,e',hd,hno⟩
 ·have hr:Names K' r t:=⟨t1,d⟩
  obtain ⟨_,a2⟩:=h.agr.step hk hu hk' hu' hn ht htn e hr hd;have hf:=h.agr.fits_yes hk hk' hu' hn ht htn e hr hd
  have hE:M.ansE t=0:=by unfold MV.ansE;rw [if_neg hh,if_pos hf]
  have hA:M.ans t={ M.hold1 t with trail:=[] }:=by unfold MV.ans;rw [if_pos hE]
  refine ⟨hE.symm,e,?_,fun _=>⟨hr,hd⟩,fun hc=>absurd rfl hc,by rw [hA],?_⟩
  ·rw [hA]
   exact ⟨a2.retrail [],(h.fit.hold1 hl ht (htn.trans h.agr.same.n.symm)).retrail [],h2,MV.TrFit.nil rfl⟩
  ·rw [hA];exact MV.hold1_len M t
 ·have hf:=h.agr.fits_no hk hn ht htn hno
  have hE:M.ansE t=9:=by unfold MV.ansE;rw [if_neg hh,if_neg (by rw [hf];simp)]
  have hA:M.ans t=M:=by unfold MV.ans;rw [if_neg (by rw [hE];decide)]
  refine ⟨hE.symm,e,?_,fun hc=>absurd hc (by decide),fun _=>hd,by rw [hA];exact h1,by rw [hA];omega⟩;rw [hA];exact ⟨h.agr.same_kernel hk e hd,h.fit,h2.trans h1.symm,h.tf⟩
theorem aq7.ext {K K':KV} {M M':MV} {refs:List Nat} {tabs:List TV} (l:aq7 K M refs tabs) (hk:K.Ok) (e:K.Ext K') (h:KM K' M'):aq7 K' M' refs tabs :=
 ⟨h,l.lr,l.rb,fun t ht=>by rw [e.vr];exact l.ok t ht,fun i r t h1 h2=>(l.nm i r t h1 h2).ext hk e⟩
theorem aq7.push {K:KV} {M:MV} {refs:List Nat} {tabs:List TV} {r:Nat} {t:TV} (l:aq7 K M refs tabs) (hr:refs.length<40) (ht:t.Ok) (htn:t.n=K.vars) (hn:Names K r t):aq7 K M (refs++[r]) (tabs++[t]):=by
 refine ⟨l.km,by simp [l.lr],by simp;omega,fun u hu=>?_,fun i s u h1 h2=>?_⟩
 ·rcases List.mem_append.1 hu with h | h
  ·exact l.ok u h
  ·simp at h;subst h;exact ⟨ht,htn⟩
 ·have hl:=l.lr
  by_cases hi:i<refs.length
  ·rw [List.getElem?_append_left hi] at h1
   rw [List.getElem?_append_left (by omega)] at h2;exact l.nm i s u h1 h2
  ·rw [List.getElem?_append_right (by omega)] at h1
   rw [List.getElem?_append_right (by omega)] at h2
   have:i=refs.length:=by
    have h3:=(List.getElem?_eq_some_iff.1 h1).1
    simp at h3;omega
   subst this;rw [hl] at h2
   simp at h1 h2;subst h1 h2
   exact hn
theorem axF.push {K K':KV} {refs:List Nat} {r:Nat} (h:axF K refs) (hd:∀ x,K'.hold x=K.hold x+if x=r/\2<=r then 1 else 0):axF K' (refs++[r]):=fun x hx=>by
 rw [hd,h x hx,List.count_append,List.count_singleton]
 by_cases e:x=r
 ·subst e;simp [hx]
 ·have:¬ r=x:=fun h=>e h.symm
  simp [e,this]
theorem aq7.stay {K K':KV} {M M':MV} {refs:List Nat} {tabs:List TV} (l:aq7 K M refs tabs) (c:axF K refs) (hk':K'.Ok) (s:aps K K') (h:KM K' M'):aq7 K' M' refs tabs/\axF K' refs:=by
 refine ⟨⟨h,l.lr,l.rb,fun t ht=>by rw [s.vr];exact l.ok t ht,fun i r t h1 h2=>?_⟩,fun x hx=>by rw [s.hd];exact c x hx⟩;have hn:=l.nm i r t h1 h2
 have hr:0<K.hold r\/r<2:=by
  by_cases h2:r<2
  ·exact .inr h2
  ·rw [c r (by omega)]
   exact .inl (List.count_pos_iff.2 (List.mem_of_getElem? h1))
 refine ⟨?_,fun y=>by rw [s.den r hr];exact hn.2 y⟩
 rcases hr with hr | hr
 ·exact (hk'.wf.ht r (by rw [s.hd];exact hr)).2
 ·exact hk'.tk_const hr
def arH (s:MV × List TV) (t:TV):MV × List TV:=if s.1.ansE t=0 then (s.1.ans t,s.2++[t]) else s
def aqQ (n c:Nat) (L:List TV):MV × List TV:=L.foldl arH (MV.new n c,[])
theorem aBQ {n c i:Nat} {L:List TV} {t:TV} (h:L[i]?=some t):aqQ n c (L.take (i+1))=arH (aqQ n c (L.take i)) t:=by
 unfold aqQ;rw [List.take_add_one,h];simp
theorem awW (s:MV × List TV) (t:TV):(arH s t).1=s.1.ans t:=by
 unfold arH
 by_cases h:s.1.ansE t=0
 ·rw [if_pos h]
 ·rw [if_neg h];unfold MV.ans;rw [if_neg h]
theorem awZ (s:MV × List TV) (t:TV):(arH s t).2=if s.1.ansE t=0 then s.2++[t] else s.2:=by
 unfold arH;split <;> rfl
def MV.exchs (M:MV) (l:List Int):MV:=l.foldl MV.exch M
theorem MV.exchs_succ {M:MV} {i:Nat} {L:List Int} (h:i<L.length):M.exchs (L.take (i+1))=(M.exchs (L.take i)).exch (L.getD i 0):=by
 unfold MV.exchs;rw [List.take_add_one,List.getElem?_eq_getElem h,List.getD_eq_getElem?_getD,List.getElem?_eq_getElem h,List.foldl_append];rfl
theorem MV.exch_trail (M:MV) (l:Int):(M.exch l).trail.length<=M.trail.length+1/\(M.exch l).held=M.held:=by
 unfold MV.exch;split
 ·simp
 ·exact ⟨by omega,rfl⟩
end Go.Proofs.YtdackeldhdchaaaGreat
