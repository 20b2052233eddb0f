import Derived.Test.YtdackeldhdchaaaGreatPQ228
import Derived.Test.YtdackeldhdchaaaGreatPQ230
import Derived.Test.YtdackeldhdchaaaGreatPQ225
import Derived.Test.YtdackeldhdchaaaGreatPQ216
import Derived.Test.YtdackeldhdchaaaGreatPQ226
import Derived.WalkKit
import Derived.ProofKit
import Derived.OpenShut
import Derived.ShutString
import Derived.ChangeOld
import Derived.ChangeSlices
import Derived.Below
set_option maxRecDepth 100000
set_option maxHeartbeats 6400000
namespace Go.Proofs.YtdackeldhdchaaaGreat
open Go.RowKit Go.Maps Go.ChangeMaps Go.WideShapes
theorem aCN (b1 b2:Nat) (v1 v2:Value) (l:List Nat) (w:World) (h1:w.ownsRow b1 3 1 v1 l.length (acf l)) (h2:w.ownsRow b2 3 1 v2 l.length (acf l)) (hl:l.length<=1048576) :
  Calls Tryz.prog 124 #[v1,v2] w fun e w'=>e=.returned (.bool true)/\Upd [] w w':=by
 obtain ⟨a1,c1,rfl,hg1⟩:=abI h1;obtain ⟨a2,c2,rfl,hg2⟩:=abI h2;have H1:=Lib.hid h1;have H2:=Lib.hid h2;clear h1 h2
 go_enter Tryz.func124,Tryz.ntmps124
 go_wp2_with fail
 go_loopg [13] l.length (fun g s13 wr=>∃ i:Nat,l.length-i=g/\i<=l.length/\s13=.int .i64 i/\Upd [] w wr)
 case atStart=>exact ⟨0,by omega,by omega,rfl,Upd.refl _ _⟩
 case round =>
  obtain ⟨i,rfl,hi,rfl,hU⟩:=hrel
  by_cases hlt:i<l.length
  ·obtain ⟨g1,rfl⟩:=aeP H1.out (by omega)
   obtain ⟨g2,rfl⟩:=aeP H2.out (by omega)
   have hil:(i:Int)<(l.length:Int):=by omega
   have x1:=auf (aaX H1.out fun k hk=>hU.block k (H1.out.lt k hk).2 (by simp)) hlt;have x2:=auf (aaX H2.out fun k hk=>hU.block k (H2.out.lt k hk).2 (by simp)) hlt;generalize l.getD i 0=X at *;have HU:=Lib.hid hU;clear hU
   have hp0:(0:Int)<=(i:Int):=by omega
   go_wp2_with fail
   go_quiet (fail)
   go_wp2_with fail
   go_roundg (l.length-(i+1))
   case measure=>omega
   case rel=>exact ⟨i+1,rfl,by omega,by simp,HU.out.drewN _⟩
  ·obtain rfl:i=l.length:=by omega
   have hil:¬ ((l.length:Int)<(l.length:Int)):=by omega
   have HU:=Lib.hid hU;clear hU;go_wp2_with fail;go_ret;exact ⟨rfl,HU.out⟩
theorem aCO (n0 a b m:Nat) (rv tv:Value) (K:KV) (F:List Nat) (M:MV) (p:acd) (refs:List Nat) (tabs:List TV) (w:World) (h:PIn w n0 a b m rv tv K F M p refs tabs) (l:aq7 K M refs tabs) :
  Calls Tryz.prog 56 #[.pointer (some ⟨a,0,none⟩)] w fun e w'=>e=.returned (.bool true)/\Upd [] w w':=by
 have hv8:K.vars<=8:=by rw [<- l.km.agr.same.n];exact l.km.fit.n6
 have hMn:M.n=K.vars:=l.km.agr.same.n;obtain ⟨oa,oc,hov,_⟩:=abI h.mem.mod.os;obtain ⟨ya,yc,hyv,_⟩:=h.mem.mod.hs.form;obtain ⟨c0m,_,c2m,c3m,_⟩:=h.mem.mod.cells;rw [hov] at c2m;rw [hyv] at c3m;have hos:=h.mem.mod.os;rw [hov] at hos;obtain ⟨ra,rc,rfl,_⟩:=abI h.mem.rr;obtain ⟨xa,xc,rfl,hxa⟩:=h.mem.tt.form;have HL:=Lib.hid h;have HLG:=Lib.hid l;have hol:=l.km.fit.ol;have hhl:=l.km.fit.hl
 have HZ:Hid (∀ x:World,Upd [] w x->∀ k,k∈F++p.all m->k<x.heap.size):=fun x u k hk=>Nat.lt_of_lt_of_le (h.mem.z k hk) u.size
 have aTo:Hid (∀ v,v<M.n->v∈M.order):=fun v hv=>by
  obtain ⟨x1,_,x3⟩:=l.km.lvl h.mem.ker.ok hv;exact List.mem_of_getElem? x3
 have HOR:Hid (∀ x:World,Upd [] w x->Calls Tryz.prog 48 #[.pointer (some ⟨b,0,none⟩)] x fun e w'=>∃ (g cap:Nat),e=.returned (.slice (some ⟨g,0,none⟩) M.order.length cap)/\w'.ownsRow x.heap.size 3 1 (.slice (some ⟨g,0,none⟩) M.order.length cap) M.order.length (acf M.order)/\Upd [] x w'):=fun x u=>by
  have:=az5 b K F x (h.mem.ker.upd u (by simp))
  rw [<- l.km.agr.same.od] at this;exact this
 have HOS:Hid (∀ x:World,Upd [] w x->x.ownsRow 0 3 1 (.slice oa M.order.length oc) M.order.length (acf M.order)):=fun x u=>aaX hos fun k hk=>u.block k (hos.lt k hk).2 (by simp)
 have HRT:Hid (∀ x:World,Upd [] w x->Calls Tryz.prog 33 #[.pointer (some ⟨b,0,none⟩)] x fun e w'=>∃ (a:Option Addr) (c:Nat),e=.returned (.slice a M.held.length c)/\Upd [] x w'):=fun x u=>by
  refine (aJt b K F x (h.mem.ker.upd u (by simp))).mono ?_;rintro e w' ⟨v,rfl,hr,hu⟩;obtain ⟨a,c,rfl,_⟩:=abI hr;rw [l.km.agr.roots_len h.mem.ker.ok h.mem.ker.uni (by omega)];exact ⟨a,c,rfl,hu⟩
 have hus:=l.km.agr.used h.mem.ker.ok h.mem.ker.uni (by omega)
 have HLI:Hid (∀ x:World,Upd [] w x->Calls Tryz.prog 31 #[.pointer (some ⟨b,0,none⟩)] x fun e w'=>e=.returned (.int .i64 (M.live:Nat))/\w'=x):=fun x u=>by
  have:=aCp b K F x (h.mem.ker.upd u (by simp));rw [hus] at this;unfold MV.live;rw [show ((M.lev.flatten.length:Nat):Int)=(((M.lev.flatten.length+2:Nat):Int)-2) by omega];exact this
 have HML:Hid (∀ x:World,Upd [] w x->Calls Tryz.prog 125 #[.pointer (some ⟨m,0,none⟩)] x fun e w'=>e=.returned (.int .i64 (M.live:Nat))/\Upd [] x w'):=fun x u =>
  atO m M p _ x (h.mem.mod.keep0 u) (HZ.out x u) l.km.fit
 have HWK:Hid (∀ (x:World) (v:Nat),Upd [] w x->v<M.n->Calls Tryz.prog 126 #[.pointer (some ⟨b,0,none⟩),.int .i64 v] x fun e w'=>e=.returned (.tuple #[.int .i64 (M.wid v),.int .i64 0])/\Upd [] x w'):=fun x v u hv =>
  aEm b v K F M x (h.mem.ker.upd u (by simp)) l.km hv
 have HWM:Hid (∀ (x:World) (v:Nat),Upd [] w x->v<M.n->Calls Tryz.prog 127 #[.pointer (some ⟨m,0,none⟩),.int .i64 v] x fun e w'=>e=.returned (.int .i64 (M.wid v))/\Upd [] x w'):=fun x v u hv =>
  aEh m v M p _ x (h.mem.mod.keep0 u) (HZ.out x u) l.km.fit (aTo.out v hv)
 have HTB:Hid (∀ z (r:Nat) (t:TV),Upd [] w z->Names K r t->t.Ok->t.n=K.vars->Calls Tryz.prog 121 #[.pointer (some ⟨b,0,none⟩),.int .i64 K.vars,.int .u32 r] z fun e w'=>aGy t z e w'):=fun z r t u hn ht htn=>by
  have e:K.tab r=t:=h.mem.ker.ok.tab_eq (by omega) hn.1 ht htn hn.2;rw [<- e];exact asf b r K F z (h.mem.ker.upd u (by simp)) hn.1 hv8
 have HSM:Hid (∀ (z:World) (Z1 Z2:List Nat) (c1 c2:Value) (t1 t2:TV),TIn z Z1 c1 t1->TIn z Z2 c2 t2->Calls Tryz.prog 122 #[aeH t1 c1,aeH t2 c2] z fun e w'=>e=.returned (.bool (decide (t1=t2)))/\Upd [] z w'):=fun z Z1 Z2 c1 c2 t1 t2 h1 h2 =>
  ajX [z.heap.size] c1 c2 t1 t2 z h1.any h2.any
 have HC:Hid (∀ z,Upd [] w z->(z.cell? ⟨a,0,none⟩=some (.pointer (some ⟨b,0,none⟩))/\z.cell? ⟨a,1,none⟩=some (.pointer (some ⟨m,0,none⟩))/\z.cell? ⟨a,2,none⟩=some (.slice ra refs.length rc)/\z.cell? ⟨a,3,none⟩=some (.slice xa tabs.length xc))/\z.cell? ⟨m,0,none⟩=some (.int .i64 K.vars)/\z.cell? ⟨m,2,none⟩=some (.slice oa M.order.length oc)/\z.cell? ⟨m,3,none⟩=some (.slice ya M.held.length yc)):=fun z u=>by
  obtain ⟨c0,c1,c2,c3⟩:=h.cells;rw [hMn] at c0m;exact ⟨⟨u.cell0 c0,u.cell0 c1,u.cell0 c2,u.cell0 c3⟩,u.cell0 c0m,u.cell0 c2m,u.cell0 c3m⟩
 obtain ⟨kv,hkv⟩ : ∃ kv,K.vars=kv:=⟨_,rfl⟩;have HKV:=Lib.hid hkv;rw [hMn,hkv] at HWK HWM;rw [hkv] at HTB HC hv8;obtain ⟨TL,hTL⟩ : ∃ TL,tabs.length=TL:=⟨_,rfl⟩
 have hrl:refs.length=TL:=by rw [l.lr,hTL]
 have aSL:TL<=40:=by have h2:=l.rb;omega
 have HTL:=Lib.hid (And.intro hTL hrl);rw [hTL,hrl] at HC;clear h l hov hyv hos hus c0m c2m c3m hMn hkv aTo hTL hrl;obtain ⟨⟨x0,x1,x2,x3⟩,x4,x5,x6⟩:=HC.out w (Upd.refl _ _)
 go_enter Tryz.func56,Tryz.ntmps56
 go_wp2_with fail
 go_region_held3 (fun x=>(x.cell? ⟨a,0,none⟩=some (.pointer (some ⟨b,0,none⟩))/\x.cell? ⟨a,1,none⟩=some (.pointer (some ⟨m,0,none⟩))/\x.cell? ⟨a,2,none⟩=some (.slice ra TL rc)/\x.cell? ⟨a,3,none⟩=some (.slice xa TL xc))/\x.cell? ⟨m,0,none⟩=some (.int .i64 kv)/\x.cell? ⟨m,2,none⟩=some (.slice oa M.order.length oc)/\x.cell? ⟨m,3,none⟩=some (.slice ya M.held.length yc)) (first | exact HC.out _ (Upd.refl _ _).drew | exact HC.out _ HO1.out.2 | exact HC.out _ HO2.out | exact HC.out _ HO3.out | exact HC.out _ HO4.out) (first
  | (go_at_call 48;refine (HOR.out _ (Upd.refl [] w).drew).mono ?_;rintro e w1 ⟨g,cap,rfl,ho,hu⟩;have HO1:=Lib.hid (And.intro ho ((Upd.refl [] w).drew.trans hu));clear ho hu)
  | (go_at_call 124;refine (aCN _ 0 _ _ M.order _ HO1.out.1 (HOS.out _ HO1.out.2) (by omega)).mono ?_;rintro e w2 ⟨rfl,hu⟩;have HO2:=Lib.hid (HO1.out.2.trans hu);clear hu)
  | (go_at_call 31;refine (HLI.out _ HO2.out).mono ?_;rintro e w3 ⟨rfl,rfl⟩)
  | (go_at_call 125;refine (HML.out _ HO2.out).mono ?_;rintro e w4 ⟨rfl,hu⟩;have HO3:=Lib.hid (HO2.out.trans hu);clear hu)
  | (go_at_call 33;refine (HRT.out _ HO3.out).mono ?_;rintro e w5 ⟨ga,gc,rfl,hu⟩;have HO4:=Lib.hid (HO3.out.trans hu);clear hu))
 have HUX:=Lib.hid HO4.out;clear HO1 HO2 HO3 HO4 HOR HOS HRT HLI HML x0 x1 x2 x3 x4 x5 x6;generalize w5=wX at *;obtain ⟨⟨x0,x1,x2,x3⟩,x4,x5,x6⟩:=HC.out wX HUX.out;go_wp2_with fail
 go_loopg [61] kv (fun g s61 wr=>∃ i:Nat,kv-i=g/\i<=kv/\s61=.int .i64 i/\Upd [] wX wr)
 case atStart=>exact ⟨0,by omega,by omega,rfl,Upd.refl _ _⟩
 case round =>
  obtain ⟨i,rfl,hi,rfl,hU⟩:=hrel;have HU:=Lib.hid (HUX.out.trans hU);have HUR:=Lib.hid hU;obtain ⟨⟨y0,y1,y2,y3⟩,y4,_,_⟩:=HC.out wr HU.out;clear hU x0 x1 x2 x3 x4 x5 x6
  by_cases hlt:i<kv
  ·have hil:(i:Int)<(kv:Int):=by omega
   go_wp2_with fail;refine (HWK.out wr i HU.out hlt).mono ?_;rintro e w7 ⟨rfl,hu⟩;have HU7:=Lib.hid (And.intro (HU.out.trans hu) (HUR.out.trans hu));obtain ⟨⟨y0,y1,y2,y3⟩,y4,_,_⟩:=HC.out w7 HU7.out.1;clear hu;go_wp2_with fail;refine (HWM.out w7 i HU7.out.1 hlt).mono ?_;rintro e w8 ⟨rfl,hu⟩;have HU8:=Lib.hid (HU7.out.2.trans hu);clear hu;go_wp2_with fail
   go_roundg (kv-(i+1))
   case measure=>omega
   case rel=>exact ⟨i+1,rfl,by omega,by simp,HU8.out⟩
  ·obtain rfl:i=kv:=by omega
   have hil:¬ ((i:Int)<(i:Int)):=by omega
   go_wp2_with fail;generalize wr=wY at *
   go_loopg [91] TL (fun g s91 wr=>∃ j:Nat,TL-j=g/\j<=TL/\s91=.int .i64 j/\Upd [] wY wr)
   case atStart=>exact ⟨0,by omega,by omega,rfl,Upd.refl _ _⟩
   case round =>
    obtain ⟨j,rfl,hj,rfl,hU⟩:=hrel;have HU0:=Lib.hid (HU.out.trans hU);have aXp:=Lib.hid hU;clear hU y0 y1 y2 y3 y4;generalize wr=w0 at *;obtain ⟨⟨y0,y1,y2,y3⟩,y4,_,_⟩:=HC.out w0 HU0.out
    by_cases hjt:j<TL
    ·have hjl:(j:Int)<(TL:Int):=by omega
     have hj0:(0:Int)<=(j:Int):=by omega
     obtain ⟨t,ht⟩ : ∃ t,tabs[j]?=some t:=⟨_,List.getElem?_eq_getElem (by have h:=HTL.out.1;omega)⟩;obtain ⟨r,hr⟩ : ∃ r,refs[j]?=some r:=⟨_,List.getElem?_eq_getElem (by have h:=HTL.out.2;omega)⟩;have hnm:=HLG.out.nm j r t hr ht;have aF8:=HLG.out.ok t (List.mem_of_getElem? ht);have hPI:=HL.out.keep0 HU0.out;obtain ⟨gt,rfl⟩:=hxa (by have h:=HTL.out.1;omega);obtain ⟨cu,z1,z2,htu⟩:=hPI.mem.tt.at_ ht;obtain ⟨ta,tc,rfl,_⟩:=ahV htu.row;obtain ⟨gr,rfl⟩:=aeP hPI.mem.rr (by have h:=HTL.out.2;omega);have z0:=abf hPI.mem.rr (aum hr);obtain ⟨n,hnn⟩ : ∃ n,t.n=n:=⟨_,rfl⟩;obtain ⟨W,hW⟩ : ∃ W,t.ws.length=W:=⟨_,rfl⟩;rw [hnn] at z1;rw [hW] at z2;have HN:=Lib.hid hnn;have HWL:=Lib.hid hW
     have htw:W<=1024:=by rw [<- hW];exact aF8.1.len_le
     have amm:=HL.out.mem.ker.ok.ref_lt hnm.1
     have HHD:Hid (∀ x:World,Upd [] w x->Calls Tryz.prog 74 #[.pointer (some ⟨b,0,none⟩),.int .u32 r] x fun e w'=>e=.returned (.int .i64 (K.hold r))/\w'=x):=fun x u=>aMG b r K F x (HL.out.mem.ker.upd u (by simp)) (by omega)
     have HTU:=Lib.hid (And.intro htu (And.intro aF8 hnm))
     have HHO:Hid (∀ x:World,Upd [] w0 x->Calls Tryz.prog 118 #[.pointer (some ⟨m,0,none⟩),.agg #[.int .i64 n,.slice ta W tc]] x fun e w'=>e=.returned (.int .i64 (K.hold r))/\Upd [] x w'):=fun x u=>by
      have h1:=ayB m M p (F++p.all m) (.slice ta t.ws.length tc) t x (HL.out.mem.mod.keep0 (HU0.out.trans u)) (HTU.out.1.keep0 u) (by omega);rw [HLG.out.km.agr.holds HL.out.mem.ker.ok HL.out.mem.ker.uni aF8.1 aF8.2 hnm] at h1;unfold aeH at h1;rw [HN.out,HWL.out] at h1;exact h1
     have HTB:Hid (∀ z,Upd [] w z->Calls Tryz.prog 121 #[.pointer (some ⟨b,0,none⟩),.int .i64 i,.int .u32 r] z fun e w'=>aGy t z e w'):=fun z u=>HTB.out z r t u hnm aF8.1 (aF8.2.trans HKV.out)
     have HSE:Hid (∀ z,Upd [] w0 z->z.cell? ⟨a,0,none⟩=some (.pointer (some ⟨b,0,none⟩))/\z.cell? ⟨a,1,none⟩=some (.pointer (some ⟨m,0,none⟩))/\z.cell? ⟨m,0,none⟩=some (.int .i64 i)):=fun z u=>by
      obtain ⟨⟨c0,c1,_⟩,c4,_⟩:=HC.out z (HU0.out.trans u);exact ⟨c0,c1,c4⟩
     have aKs:Hid (∀ z,Upd [] w0 z->(z.cell? ⟨a,0,none⟩=some (.pointer (some ⟨b,0,none⟩))/\z.cell? ⟨a,1,none⟩=some (.pointer (some ⟨m,0,none⟩))/\z.cell? ⟨a,3,none⟩=some (.slice (some ⟨gt,0,none⟩) TL xc))/\z.cell? ⟨gt,j*2,none⟩=some (.int .i64 n)/\z.cell? ⟨gt,j*2+1,none⟩=some (.slice ta W tc)):=fun z u=>by
      obtain ⟨⟨c0,c1,_,c3⟩,c4,_⟩:=HC.out z (HU0.out.trans u);exact ⟨⟨c0,c1,c3⟩,u.cell0 z1,u.cell0 z2⟩
     have a3p:=hv8;clear hPI htu ht hr hnn hW z1 z2 aF8 hnm amm;go_upto_region 13 with fail
     go_cut [8,9] from 96 to 111 (fun s8 s9 wc=>asU n W t w0 s8 s9 wc)
     case first =>
      refine ahs (fun z=>z.cell? ⟨a,0,none⟩=some (.pointer (some ⟨b,0,none⟩))/\z.cell? ⟨a,1,none⟩=some (.pointer (some ⟨m,0,none⟩))/\z.cell? ⟨m,0,none⟩=some (.int .i64 i)) (fun _=>True) [] (by kernel_rfl) ?_;have hS:=HSE.out _ (Upd.refl _ _).drew;have hE:True:=trivial;refine tkS 0 rfl hS (fun _=>hE) ?_;refine tkS 1 rfl hS (fun _=>hE) ?_;refine tkS 2 rfl hS (fun _=>hE) ?_;refine tkS 3 rfl hS (fun _=>hE) ?_;refine tkS 4 rfl hS (fun _=>hE) ?_;refine tkS 5 rfl hS (fun _=>hE) ?_;refine tkS 6 rfl hS (fun _=>hE) ?_;refine tkS 7 rfl hS (fun _=>hE) ?_;refine tkS 8 rfl hS (fun _=>hE) ?_;refine tkS 9 rfl hS (fun _=>hE) ?_;refine tkS 10 rfl hS (fun _=>hE) ?_;refine tkS 11 rfl hS (fun _=>hE) ?_;refine abZ (rs:=[12,16]) (by kernel_rfl) (by simp) ?_;refine aa7.cons rfl (fun Kx hK=>?_) ?_
      ·
       go_simp
       refine (HTB.out _ (HU0.out.trans (Upd.refl [] w0).drew)).mono ?_;rintro e w1 hE1;obtain ⟨c1,rfl,hT1,hu⟩:=hE1.ex;obtain ⟨ga,gc,rfl,_⟩:=ahV hT1.row;have HU1:Hid (Upd [] w0 w1):=Upd.trans (Upd.refl [] w0).drew hu;unfold aeH;rw [HWL.out] at hT1 ⊢;rw [HN.out];have HT1:=Lib.hid hT1;clear hE1 hu hT1;go_wp2_with fail;refine hK.out _ _ ⟨HSE.out _ HU1.out,fun _=>trivial⟩ (fun hHeld=>?_);clear hK Kx;obtain ⟨hS,hE⟩:=hHeld;have hE:=hE (by kernel_rfl)
       (try simp only [Act.put,List.setIfInBounds_toArray,List.set_cons_zero,List.set_cons_succ])
       refine tkS 13 rfl hS (fun _=>hE) ?_;refine tkS 14 rfl hS (fun _=>hE) ?_;refine tkS 15 rfl hS (fun _=>hE) ?_;refine abZ (rs:=[16]) (by kernel_rfl) (by simp) ?_;refine aa7.cons rfl (fun Kx hK=>?_) ?_
       rotate_left
       exact aa7.nil
       go_simp
       refine hK.out _ _ ⟨HSE.out _ (HU1.out.alloc _),fun _=>trivial⟩ (fun hHeld=>?_);clear hK Kx;obtain ⟨hS,hE⟩:=hHeld;have hE:=hE (by kernel_rfl)
       (try simp only [Act.put,List.setIfInBounds_toArray,List.set_cons_zero,List.set_cons_succ])
       refine abZ (rs:=[17]) (by kernel_rfl) (by simp) ?_;refine aa7.cons rfl (fun Kx hK=>?_) ?_
       rotate_left
       exact aa7.nil
       go_simp
       refine hK.out _ _ ⟨HSE.out _ (HU1.out.alloc _),fun _=>trivial⟩ (fun hHeld=>?_);clear hK Kx;obtain ⟨hS,hE⟩:=hHeld;have hE:=hE (by kernel_rfl)
       (try simp only [Act.put,List.setIfInBounds_toArray,List.set_cons_zero,List.set_cons_succ])
       refine tkS 18 rfl hS (fun _=>hE) ?_;refine afM (by kernel_rfl) ?_ _;clear hS hE
       (try go_simp)
       go_wp2_with fail;go_meet;exact asU.of1 HT1.out HU1.out
      refine aa7.cons rfl (fun Kx hK=>?_) ?_
      rotate_left
      exact aa7.nil
      go_simp
      refine hK.out _ _ ⟨HSE.out _ ((Upd.refl [] w0).drew.alloc _),fun _=>trivial⟩ (fun hHeld=>?_);clear hK Kx;obtain ⟨hS,hE⟩:=hHeld;have hE:=hE (by kernel_rfl)
      (try simp only [Act.put,List.setIfInBounds_toArray,List.set_cons_zero,List.set_cons_succ])
      refine abZ (rs:=[12]) (by kernel_rfl) (by simp) ?_;refine aa7.cons rfl (fun Kx hK=>?_) ?_
      rotate_left
      exact aa7.nil
      go_simp
      refine (HTB.out _ (HU0.out.trans ((Upd.refl [] w0).drew.alloc (.cells #[.int .i64 0,.slice none 0 0] 121 (0,0))))).mono ?_;rintro e w1 hE1;obtain ⟨c1,rfl,hT1,hu⟩:=hE1.ex;obtain ⟨ga,gc,rfl,_⟩:=ahV hT1.row;have HU1:Hid (Upd [] w0 w1):=Upd.trans ((Upd.refl [] w0).drew.alloc (.cells #[.int .i64 0,.slice none 0 0] 121 (0,0))) hu;unfold aeH;rw [HWL.out] at hT1 ⊢;rw [HN.out];have HT1:=Lib.hid hT1;have hbx:=(hu.block w0.heap.size (by rw [World.size_alloc];show w0.heap.size<w0.heap.size+1;omega) (by simp)).trans (heap_alloc_new w0.drew (.cells #[.int .i64 0,.slice none 0 0] 121 (0,0)));have y0:=aac (j:=0) hbx rfl;have y1:=aac (j:=1) hbx rfl;have g0:=abq 0 hbx;have g1:=abq 1 hbx;have HBX:=Lib.hid hbx;clear hE1 hu hT1 hbx;go_wp2_with fail;refine hK.out _ _ ⟨HSE.out _ HU1.out,fun _=>trivial⟩ (fun hHeld=>?_);clear hK Kx;obtain ⟨hS,hE⟩:=hHeld;have hE:=hE (by kernel_rfl)
      (try simp only [Act.put,List.setIfInBounds_toArray,List.set_cons_zero,List.set_cons_succ])
      refine tkS 13 rfl hS (fun _=>hE) ?_;refine tkS 14 rfl hS (fun _=>hE) ?_;refine tkS 15 rfl hS (fun _=>hE) ?_;refine abZ (rs:=[17]) (by kernel_rfl) (by simp) ?_;refine aa7.cons rfl (fun Kx hK=>?_) ?_
      rotate_left
      exact aa7.nil
      go_simp
      refine hK.out _ _ ⟨HSE.out _ ((HU1.out.setCell (p:=⟨w0.heap.size,0,none⟩) (.inr (Nat.le_refl _)) _).setCell (p:=⟨w0.heap.size,1,none⟩) (.inr (Nat.le_refl _)) _),fun _=>trivial⟩ (fun hHeld=>?_);clear hK Kx;obtain ⟨hS,hE⟩:=hHeld;have hE:=hE (by kernel_rfl)
      (try simp only [Act.put,List.setIfInBounds_toArray,List.set_cons_zero,List.set_cons_succ])
      refine tkS 18 rfl hS (fun _=>hE) ?_;refine afM (by kernel_rfl) ?_ _;clear hS hE
      (try go_simp)
      go_wp2_with fail;go_meet;exact asU.of2 HBX.out HT1.out HU1.out
     case rest =>
      obtain ⟨B,ga,gc,rfl,rfl,hbB,hTg,hu1⟩:=hcut.ex;have HUC:=Lib.hid hu1
      have HSS:Hid (∀ z,Upd [] wc z->Calls Tryz.prog 122 #[.agg #[.int .i64 n,.slice ga W gc],.agg #[.int .i64 n,.slice ta W tc]] z fun e w'=>e=.returned (.bool true)/\Upd [] z w'):=fun z uz=>by
       have h1:=HSM.out z _ _ _ _ t t (hTg.keep0 uz) (HTU.out.1.keep0 (hu1.trans uz));unfold aeH at h1;rw [HWL.out,HN.out,show decide (t=t)=true by simp] at h1;exact h1
      have HBX:Hid (∀ z,Upd [] wc z->(z.cell? ⟨B,0,none⟩=some (.int .i64 n)/\z.cell? ⟨B,1,none⟩=some (.slice ga W gc))/\(z.cell? ⟨a,0,none⟩=some (.pointer (some ⟨b,0,none⟩))/\z.cell? ⟨a,1,none⟩=some (.pointer (some ⟨m,0,none⟩))/\z.cell? ⟨a,3,none⟩=some (.slice (some ⟨gt,0,none⟩) TL xc))/\z.cell? ⟨gt,j*2,none⟩=some (.int .i64 n)/\z.cell? ⟨gt,j*2+1,none⟩=some (.slice ta W tc)):=fun z uz =>
       ⟨⟨uz.cell0 (aac hbB rfl),uz.cell0 (aac hbB rfl)⟩,aKs.out z (hu1.trans uz)⟩
      generalize K.hold r=kh at *;clear hcut hbB hTg hu1 HTB HSE y0 y1 y2 y3 y4;go_wp2_with fail
      go_region_held3 (fun z=>(z.cell? ⟨B,0,none⟩=some (.int .i64 n)/\z.cell? ⟨B,1,none⟩=some (.slice ga W gc))/\(z.cell? ⟨a,0,none⟩=some (.pointer (some ⟨b,0,none⟩))/\z.cell? ⟨a,1,none⟩=some (.pointer (some ⟨m,0,none⟩))/\z.cell? ⟨a,3,none⟩=some (.slice (some ⟨gt,0,none⟩) TL xc))/\z.cell? ⟨gt,j*2,none⟩=some (.int .i64 n)/\z.cell? ⟨gt,j*2+1,none⟩=some (.slice ta W tc)) (first | exact HBX.out _ (Upd.refl _ _).drew | exact HBX.out _ HO1.out | exact HBX.out _ HO2.out) (first
       | (go_at_call 122;refine (HSS.out _ (Upd.refl _ _).drew).mono ?_;rintro e w8 ⟨rfl,hu⟩;have HO1:=Lib.hid ((Upd.refl [] wc).drew.trans hu);clear hu)
       | (go_at_call 74;refine (HHD.out _ (HU0.out.trans (HUC.out.trans HO1.out))).mono ?_;rintro e w9 ⟨rfl,rfl⟩)
       | (go_at_call 118;refine (HHO.out _ (HUC.out.trans HO1.out)).mono ?_;rintro e w10 ⟨rfl,hu⟩;have HO2:=Lib.hid (HO1.out.trans hu);clear hu))
      go_wp2_with fail
      go_roundg (TL-(j+1))
      case measure=>omega
      case rel=>exact ⟨j+1,rfl,by omega,by simp,aXp.out.trans (HUC.out.trans HO2.out)⟩
    ·obtain rfl:j=TL:=by omega
     have hjl:¬ ((j:Int)<(j:Int)):=by omega
     go_wp2_with fail;go_ret;exact ⟨rfl,HU0.out⟩
theorem aAQ (n0 a b m:Nat) (rv tv:Value) (K:KV) (F:List Nat) (M:MV) (p:acd) (refs:List Nat) (tabs:List TV) (w:World) (h:PIn w n0 a b m rv tv K F M p refs tabs) (l:aq7 K M refs tabs) :
  Calls Tryz.prog 15 #[.pointer (some ⟨a,0,none⟩)] w fun e w'=>e=.returned (.bool true)/\Upd [] w w':=by
 have HST:Hid (∀ z,Upd [] w z->Calls Tryz.prog 56 #[.pointer (some ⟨a,0,none⟩)] z fun e w'=>e=.returned (.bool true)/\Upd [] z w'):=fun z u=>aCO n0 a b m rv tv K F M p refs tabs z (h.keep0 u) l
 have HTR:Hid (∀ z,Upd [] w z->Calls Tryz.prog 57 #[.pointer (some ⟨b,0,none⟩)] z fun e w'=>e=.returned (.int .i64 M.trail.length)/\w'=z):=fun z u=>by
  have:=ayH b K F z (h.mem.ker.upd u (by simp))
  rw [l.km.tr] at this;exact this
 obtain ⟨xa,xc,hxv,_⟩:=abI h.mem.mod.ts;obtain ⟨_,_,_,_,c4⟩:=h.mem.mod.cells;rw [hxv] at c4;obtain ⟨a0,a1,_,_⟩:=h.cells;generalize M.trail.length=TL at *
 have HC:Hid (∀ z,Upd [] w z->(z.cell? ⟨a,0,none⟩=some (.pointer (some ⟨b,0,none⟩))/\z.cell? ⟨a,1,none⟩=some (.pointer (some ⟨m,0,none⟩)))/\z.cell? ⟨m,4,none⟩=some (.slice xa TL xc)):=fun z u=>⟨⟨u.cell0 a0,u.cell0 a1⟩,u.cell0 c4⟩
 clear h l hxv c4 a0 a1
 go_enter Tryz.func15,Tryz.ntmps15
 go_wp2_with fail
 go_region_held3 (fun z=>(z.cell? ⟨a,0,none⟩=some (.pointer (some ⟨b,0,none⟩))/\z.cell? ⟨a,1,none⟩=some (.pointer (some ⟨m,0,none⟩)))/\z.cell? ⟨m,4,none⟩=some (.slice xa TL xc)) (first | exact HC.out _ (Upd.refl _ _).drew | exact HC.out _ HU2.out) (first
  | (go_at_call 56;refine (HST.out _ (Upd.refl _ _).drew).mono ?_;rintro e w2 ⟨rfl,hu⟩;have HU2:=Lib.hid ((Upd.refl [] w).drew.trans hu);clear hu)
  | (go_at_call 57;refine (HTR.out _ HU2.out).mono ?_;rintro e w3 ⟨rfl,rfl⟩))
 go_wp2_with fail;go_ret;exact ⟨rfl,HU2.out⟩
theorem aef.boxC {w w':World} {m:Nat} {M:MV} {p:acd} {Z:List Nat} {B:Nat} {C:Array Value} {e:TypeId} {fr:Nat × Nat} (h:aef w m M p Z) (hb:w.heap[B]?=some (.cells C e fr)) (u:Upd [B] w w')
  (e1:53≠e) (e2:3≠e) (e3:255≠e) (hcs:∀ (j:Nat) (n:Int),C[j]?≠some (.int .u64 n)):aef w' m M p Z:=by
 have k1:=h.not_ty hb e1 e2 e3;refine ⟨(u.block m (aa4 h.blk) (fun hm=>by simp at hm;subst hm;exact k1 (acd.mem.2 (.inl rfl)))).trans h.blk,aaX h.os fun k hk=>u.block k (h.os.lt k hk).2 (fun hm=>by simp at hm;subst hm;exact k1 (acd.mem.2 (.inr (.inl hk)))),?_,aaX h.ts fun k hk=>u.block k (h.ts.lt k hk).2 (fun hm=>by simp at hm;subst hm;exact k1 (acd.mem.2 (.inr (.inr (.inr hk))))),h.ne,h.sz⟩;obtain ⟨cs,h1,h2,h3⟩:=h.hs.ex;refine ⟨cs,h1,aaX h2 fun k hk=>u.block k (h2.lt k hk).2 (fun hm=>by simp at hm;subst hm;exact k1 (acd.mem.2 (.inr (.inr (.inl hk))))),fun i v d hv hd=>?_⟩;have h4:=h3 i v d hv hd;exact ⟨h4.ok,h4.row.kp fun k hk=>u.block k (h4.row.lt k hk).2 fun hm=>by simp at hm;subst hm;exact h4.nbc hb hcs hk,h4.fr⟩
theorem agq.boxC {m:Nat} {p:acd} {Z:List Nat} {M:MV} {w w1 w2:World} {B:Nat} {C:Array Value} {e:TypeId} {fr:Nat × Nat} (h:agq m p Z M w w1) (hb:w1.heap[B]?=some (.cells C e fr)) (u:Upd [B] w1 w2) (hB:w.heap.size<=B)
  (e1:53≠e) (e2:3≠e) (e3:255≠e) (hcs:∀ (j:Nat) (n:Int),C[j]?≠some (.int .u64 n)):agq m p Z M w w2:=by
 obtain ⟨q,h1,h2,h3⟩:=h.ex;exact ⟨q,h1.boxC hb u e1 e2 e3 hcs,h2.then u fun k hk=>.inr (by simp at hk;omega),h3⟩
theorem agq.post {m:Nat} {p:acd} {Z:List Nat} {M:MV} {w w1 w2:World} (h:agq m p Z M w w1) (u:Upd [] w1 w2):agq m p Z M w w2:=by
 obtain ⟨q,h1,h2,h3⟩:=h.ex;exact ⟨q,h1.keep0 u,h2.trans (u.mono (by simp)),h3⟩
theorem MV.exch_fit {M:MV} (h:M.Fit) (ho:M.order.length=M.n) (l:Int):(M.exch l).Fit:=by
 unfold MV.exch;split
 ·rename_i h0
  obtain ⟨h1,h2,_⟩:=MV.exch_yes h0;exact ⟨h.hl,h.n6,by show (adL M.order l.toNat).length<=8;rw [air];exact h.ol,fun x hx=>h.on x (arv (by omega) hx),h.tn,h.cb⟩
 ·exact h
structure aOB (m:Nat) (l:Int) (M:MV) (p:acd) (Z:List Nat) (w:World) (e:Ending) (w':World):Prop where
 ex:e=.returned (.tuple #[chV (M.tryV l),.int .i64 (M.exchE l)])/\agq m p Z (M.exch l) w w'
theorem aEn (m:Nat) (l:Int) (M:MV) (p:acd) (Z:List Nat) (w:World) (h:aef w m M p Z) (hZ:∀ k,k∈Z->k<w.heap.size) (hf:M.Fit) (ho:M.order.length=M.n) (ht:M.trail.length<=1000000) :
  Calls Tryz.prog 58 #[.pointer (some ⟨m,0,none⟩),.int .i64 l] w fun e w'=>aOB m l M p Z w e w':=by
 have HP:Hid (∀ k,k∈p.all m->k<w.heap.size):=fun k hk=>hZ k (h.sz k hk)
 have hb0:=heap_alloc_new w (.cells #[.int .i64 0,.int .i64 0,.int .i64 0] 129 (0,0));have hu0:Upd [] w (w.alloc (.cells #[.int .i64 0,.int .i64 0,.int .i64 0] 129 (0,0))):=(Upd.refl _ _).alloc _;obtain ⟨w0,hw0⟩ : ∃ w0,w.alloc (.cells #[.int .i64 0,.int .i64 0,.int .i64 0] 129 (0,0))=w0:=⟨_,rfl⟩;rw [hw0] at hb0 hu0;have HW0:=Lib.hid hw0;have HB0:=Lib.hid (And.intro hb0 hu0);have HLI:=Lib.hid (atO m M p Z w0 (h.keep0 hu0) (fun k hk=>Nat.lt_of_lt_of_le (hZ k hk) hu0.size) hf)
 have HEX:Hid (∀ z,Upd [] w z->Calls Tryz.prog 55 #[.pointer (some ⟨m,0,none⟩),.int .i64 l] z fun e w'=>aNI m M p Z l z e w'):=fun z u =>
  ayD m M p Z l z (h.keep0 u) (fun k hk=>Nat.lt_of_lt_of_le (hZ k hk) u.size) hf ho ht
 have HL2:Hid (∀ z y,Upd [] w z->agq m p Z (M.exch l) z y->Calls Tryz.prog 125 #[.pointer (some ⟨m,0,none⟩)] y fun e w'=>e=.returned (.int .i64 (M.exch l).live)/\Upd [] y w'):=fun z y u hm=>by
  obtain ⟨q,h1,h2,h3⟩:=hm.ex
  exact atO m (M.exch l) q _ y h1 (fun k hk=>by
   rcases List.mem_append.1 hk with hk | hk
   ·exact Nat.lt_of_lt_of_le (hZ k hk) (Nat.le_trans u.size h2.size)
   ·rcases acd.mem.1 hk with rfl | a1 | a1 | a1
    ·exact aa4 h1.blk
    ·exact (h1.os.lt k a1).2
    ·obtain ⟨xs,hr⟩:=h1.hs.row;exact (hr.lt k a1).2
    ·exact (h1.ts.lt k a1).2) (MV.exch_fit hf ho l)
 have HTV:Hid (M.tryV l=if M.exchE l=0 then (l,(M.live:Int),((M.exch l).live:Int)) else (0,0,0)):=rfl;obtain ⟨L1,hL1⟩ : ∃ L1,M.live=L1:=⟨_,rfl⟩;obtain ⟨L2,hL2⟩ : ∃ L2,(M.exch l).live=L2:=⟨_,rfl⟩;rw [hL1] at HLI HTV;rw [hL2] at HL2 HTV;obtain ⟨E,hE⟩ : ∃ E,M.exchE l=E:=⟨_,rfl⟩;have HE:=Lib.hid hE;rw [hE] at HTV;clear h hZ hf ho ht hb0 hu0 hw0 hL1 hL2 hE
 go_enter Tryz.func58,Tryz.ntmps58
 go_wp2_with fail;rw [HW0.out];go_wp2_with fail;refine HLI.out.mono ?_;rintro e w1 ⟨rfl,hu⟩;have HU1:=Lib.hid (And.intro (HB0.out.2.trans hu) ((hu.block _ (aa4 HB0.out.1) (by simp)).trans HB0.out.1));clear hu;go_wp2_with fail;refine (HEX.out w1 HU1.out.1).mono ?_;rintro e w2 hQ;obtain ⟨rfl,hm⟩:=hQ.ex;rw [HE.out]
 have hb2:w2.heap[w.heap.size]?=some (.cells #[.int .i64 0,.int .i64 0,.int .i64 0] 129 (0,0)):=by
  obtain ⟨q,h1,h2,h3⟩:=hm.ex;exact (h2.block _ (aa4 HU1.out.2) (fun hk=>by have:=HP.out _ hk;omega)).trans HU1.out.2
 have HM:=Lib.hid (And.intro hm hb2);clear hQ hm hb2 HEX HLI
 have hno:∀ (j:Nat) (n:Int),(#[Value.int .i64 0,Value.int .i64 0,Value.int .i64 0]:Array Value)[j]?≠some (.int .u64 n):=fun j n=>by rcases j with _ | _ | _ | j <;> simp
 have akU:Hid (∀ (v:Int × Int × Int) (x:World),Upd [] w2 x->M.tryV l=v->aOB m l M p Z w (.returned (.tuple #[.agg #[.int .i64 v.1,.int .i64 v.2.1,.int .i64 v.2.2],.int .i64 E])) (((x.setCell ⟨w.heap.size,0,none⟩ (.int .i64 v.1)).setCell ⟨w.heap.size,1,none⟩ (.int .i64 v.2.1)).setCell ⟨w.heap.size,2,none⟩ (.int .i64 v.2.2))):=fun v x u hv=>by
  have hbx:=(u.block _ (aa4 HM.out.2) (by simp)).trans HM.out.2;refine ⟨by rw [HE.out,hv];rfl,(((HM.out.1.pre HU1.out.1).post u).boxC hbx ((((Upd.refl _ _).setCell (p:=⟨w.heap.size,0,none⟩) (.inl (by simp)) _).setCell (p:=⟨w.heap.size,1,none⟩) (.inl (by simp)) _).setCell (p:=⟨w.heap.size,2,none⟩) (.inl (by simp)) _) (Nat.le_refl _) (by decide) (by decide) (by decide) hno)⟩
 clear hno
 by_cases h0:E=0
 ·subst h0
  have hne:((0:Int) != 0)=false:=rfl;go_wp2_with fail;refine (HL2.out w1 w2 HU1.out.1 HM.out.1).mono ?_;rintro e w3 ⟨rfl,hu⟩;have hb3:=(hu.block _ (aa4 HM.out.2) (by simp)).trans HM.out.2;obtain ⟨⟨s0,s1,s2,g0,g1,g2⟩,⟨s3,g3⟩,⟨s4,g4⟩,z0,z1,z2⟩:=ch3 hb3 (.int .i64 l) (.int .i64 L1) (.int .i64 L2);have HF:=Lib.hid (akU.out (l,(L1:Int),(L2:Int)) w3 hu (by rw [HTV.out];simp));clear hu hb3 akU HL2;go_wp2_with fail;refine bodyPost_ret (v:=.tuple #[.agg #[.int .i64 l,.int .i64 L1,.int .i64 L2],.int .i64 0]) (by simp [results,Tryz.results58,go_sem,z0,z1,z2]) rfl HF.out
 ·have hne:(E != 0)=true:=by simpa using h0
  obtain ⟨⟨s0,s1,s2,g0,g1,g2⟩,⟨s3,g3⟩,⟨s4,g4⟩,z0,z1,z2⟩:=ch3 HM.out.2 (.int .i64 0) (.int .i64 0) (.int .i64 0);have HF:=Lib.hid (akU.out (0,0,0) w2 (Upd.refl _ _) (by rw [HTV.out,if_neg h0]));clear akU HL2;go_wp2_with fail;refine bodyPost_ret (v:=.tuple #[.agg #[.int .i64 0,.int .i64 0,.int .i64 0],.int .i64 E]) (by simp [results,Tryz.results58,go_sem,z0,z1,z2]) rfl HF.out
theorem aw4:∀ {cs:List (Int × Int × Int)} {i:Nat} {c:Int × Int × Int},cs[i]?=some c->(adF cs)[i*3]?=some (.int .i64 c.1)/\(adF cs)[i*3+1]?=some (.int .i64 c.2.1)/\(adF cs)[i*3+2]?=some (.int .i64 c.2.2)
 | [],_,_,h=>by simp at h
 | a::cs,0,c,h=>by simp at h;subst h;exact ⟨rfl,rfl,rfl⟩
 | a::cs,i+1,c,h=>by
  have h1:=aw4 (cs:=cs) (i:=i) (c:=c) (by simpa using h);have e:adF (a::cs)=[.int .i64 a.1,.int .i64 a.2.1,.int .i64 a.2.2]++adF cs:=rfl;rw [e]
  have key:∀ k,([Value.int .i64 a.1,.int .i64 a.2.1,.int .i64 a.2.2]++adF cs)[k+3]?=(adF cs)[k]?:=fun k=>by
   rw [List.getElem?_append_right (by simp)];simp
  rw [show (i+1)*3=i*3+3 by omega,show i*3+3+1=i*3+1+3 by omega,show i*3+3+2=i*3+2+3 by omega,key,key,key];exact h1
theorem apB (b1 b2:Nat) (v1 v2:Value) (cs:List (Int × Int × Int)) (w:World) (h1:w.ownsRow b1 46 3 v1 cs.length (adF cs)) (h2:w.ownsRow b2 129 3 v2 cs.length (adF cs)) (hl:cs.length<=1000) :
  Calls Tryz.prog 24 #[v1,v2] w fun e w'=>e=.returned (.bool true)/\Upd [] w w':=by
 obtain ⟨a1,c1,rfl,hg1⟩:=abI h1;obtain ⟨a2,c2,rfl,hg2⟩:=abI h2;have H1:=Lib.hid h1;have H2:=Lib.hid h2;obtain ⟨m,hm⟩ : ∃ m,cs.length=m:=⟨_,rfl⟩;have HM:=Lib.hid hm;rw [hm] at hl ⊢;clear h1 h2 hm
 go_enter Tryz.func24,Tryz.ntmps24
 go_wp2_with fail
 go_loopg [13] m (fun g s13 wr=>∃ i:Nat,m-i=g/\i<=m/\s13=.int .i64 i/\Upd [] w wr)
 case atStart=>exact ⟨0,by omega,by omega,rfl,Upd.refl _ _⟩
 case round =>
  obtain ⟨i,rfl,hi,rfl,hU⟩:=hrel
  by_cases hlt:i<m
  ·obtain ⟨g1,rfl⟩:=aeP H1.out (by have:=HM.out;omega)
   obtain ⟨g2,rfl⟩:=aeP H2.out (by have:=HM.out;omega)
   have hil:(i:Int)<(m:Int):=by omega
   obtain ⟨c,hc⟩ : ∃ c,cs[i]?=some c:=⟨_,List.getElem?_eq_getElem (by have:=HM.out;omega)⟩;obtain ⟨q0,q1,q2⟩:=aw4 hc
   have r1:=aaX H1.out fun k hk=>hU.block k (H1.out.lt k hk).2 (by simp)
   have r2:=aaX H2.out fun k hk=>hU.block k (H2.out.lt k hk).2 (by simp)
   have x0:=abf r1 q0;have x1:=abf r1 q1;have x2:=abf r1 q2;have y0:=abf r2 q0;have y1:=abf r2 q1;have y2:=abf r2 q2;obtain ⟨p0,p1,p2⟩:=c
   have n0:(p0 != p0)=false:=by simp
   have n1:(p1 != p1)=false:=by simp
   have n2:(p2 != p2)=false:=by simp
   have hp0:(0:Int)<=(i:Int):=by omega
   have HU:=Lib.hid hU;clear hU hc q0 q1 q2 r1 r2;go_wp2_with fail
   go_quiet (fail)
   go_wp2_with fail
   go_roundg (m-(i+1))
   case measure=>omega
   case rel=>exact ⟨i+1,rfl,by omega,by simp,HU.out.drewN _⟩
  ·obtain rfl:i=m:=by omega
   have hil:¬ ((i:Int)<(i:Int)):=by omega
   have HU:=Lib.hid hU;clear hU;go_wp2_with fail;go_ret;exact ⟨rfl,HU.out⟩
structure PS (w:World) (n0 a b m n:Nat) (rv tv:Value) (M:MV) (refs:List Nat) (tabs:List TV):Prop where
 ex:∃ (K:KV) (F:List Nat) (p:acd),PIn w n0 a b m rv tv K F M p refs tabs/\aq7 K M refs tabs/\axF K refs/\K.vars=n
theorem PS.keep0 {w w':World} {n0 a b m n:Nat} {rv tv:Value} {M:MV} {refs:List Nat} {tabs:List TV} (h:PS w n0 a b m n rv tv M refs tabs) (u:Upd [] w w'):PS w' n0 a b m n rv tv M refs tabs:=by
 obtain ⟨K,F,p,h1,h2,h3,h4⟩:=h.ex;exact ⟨K,F,p,h1.keep0 u,h2,h3,h4⟩
end Go.Proofs.YtdackeldhdchaaaGreat
namespace Go.Proofs.YtdackeldhdchaaaGreat
open Go.ChangeShapes Go.WideShapes Go.ChangeAt Go.RowKit
theorem aK4:ownKnob Tryz.prog.godebug=none:=by kernel_rfl
theorem aEo:laidOutB Tryz.prog=true:=by kernel_rfl
theorem aF9 {P:Program} {w:World} {r:Reach} {base:Nat} {t:TypeId} {v:Value} {fs:Array Field} (ht:P.underlying t=some (.struct fs)) (h:Value.okWide P w r base t v):∃ cs,v=.agg cs/\cs.size=P.cellsOf t/\Row.okWide P w r base t cs:=by
 unfold Value.okWide at h;rw [ht] at h;exact h
theorem axY:Tryz.prog.cellsOf 3=1:=by kernel_rfl
theorem aNk:Tryz.prog.cellsOf 90=1:=by kernel_rfl
theorem aK5:Tryz.prog.cellsOf 23=1:=by kernel_rfl
theorem aK6:Tryz.prog.cellsOf 68=1:=by kernel_rfl
structure ar5 (w:World) (k:IntKind) (a:Option Addr) (n c:Nat) (zs:List Int):Prop where
 row:alg w k a n zs
 nc:n<=c
 cm:c<=maxLen
 wf:∀ z,z∈zs->(Lit.int k z).wf=true
theorem ar5.keep0 {w w':World} {k:IntKind} {a:Option Addr} {n c:Nat} {zs:List Int} (h:ar5 w k a n c zs) (u:Upd [] w w'):ar5 w' k a n c zs:=⟨h.row.keep0 u,h.nc,h.cm,h.wf⟩
theorem ar5.of_ints {H:Type} {W:World} {k:IntKind} {cs:List Value} {x:DataW H × List MemPlace}
  (h:(cs=[.slice none 0 0]/\x=(.nil,[])) \/
  ∃ (a:Addr) (len cap:Nat) (zs:List Int),cs=[.slice (some a) len cap]/\0<=a.block/\len<=cap/\cap<=maxLen/\zs.length=(if (fun _:Nat=>true) a.block then cap else len) /\
   x=(.slice (lits k (zs.take len)) (lits k (zs.drop len)),MemPlace.row a zs.length) /\
   (∀ i,i<zs.length->W.cell? (a.add i)=some (.int k (zs.getD i 0)))/\(∀ n∈zs,(Lit.int k n).wf=true)) :
  ∃ (a:Option Addr) (n c:Nat) (Zs:List Int),cs=[.slice a n c]/\ar5 W k a n c Zs:=by
 rcases h with ⟨rfl,_⟩ | ⟨a,len,cap,zs,rfl,_,hl,hm,hz,_,hc,hw⟩
 ·exact ⟨none,0,0,[],rfl,⟨rfl,Nat.zero_le _,fun i hi=>by omega⟩,Nat.le_refl _,Nat.zero_le _,fun z hz=>by cases hz⟩
 ·have hz':zs.length=cap:=by simpa using hz
  refine ⟨some a,len,cap,zs.take len,rfl,⟨by rw [List.length_take];omega,by omega,fun i hi=>⟨a,rfl,?_⟩⟩,hl,hm,fun z hz=>hw z (List.mem_of_mem_take hz)⟩;rw [hc i (by omega),List.getD_eq_getElem?_getD,List.getD_eq_getElem?_getD,List.getElem?_take_of_lt hi]
theorem aId (g o j:Nat):(⟨g,o,none⟩ : Addr).add j=⟨g,o+j,none⟩:=by unfold Addr.add;split <;> simp_all
end Go.Proofs.YtdackeldhdchaaaGreat
namespace Go.Proofs.YtdackeldhdchaaaGreat
open Go.RowKit Go.Maps Go.ChangeMaps Go.WideShapes Go.ChangeShapes Go.ChangeAt
structure amX where
 n:Int
 a:Option Addr
 len:Nat
 cap:Nat
 ws:List Int
def amX.cells (t:amX):List Value:=[.int .i64 t.n,.slice t.a t.len t.cap]
def amX.tv (t:amX):TV:=⟨t.n.toNat,t.ws⟩
structure apH (w:World) (a:Option Addr) (n c:Nat) (Ts:List amX):Prop where
 len:Ts.length=n
 nc:n<=c
 cm:c<=maxLen
 at_:∀ i,i<n->∃ (g:Addr) (t:amX),a=some g/\Ts[i]?=some t/\w.cell? (g.add (i*2))=some (.int .i64 t.n)/\w.cell? ((g.add (i*2)).add 1)=some (.slice t.a t.len t.cap)/\ar5 w .u64 t.a t.len t.cap t.ws
theorem apH.keep0 {w w':World} {a:Option Addr} {n c:Nat} {Ts:List amX} (h:apH w a n c Ts) (u:Upd [] w w'):apH w' a n c Ts :=
 ⟨h.len,h.nc,h.cm,fun i hi=>by obtain ⟨g,t,e1,e2,e3,e4,e5⟩:=h.at_ i hi;exact ⟨g,t,e1,e2,u.cell0 e3,u.cell0 e4,e5.keep0 u⟩⟩
theorem aGT:Tryz.prog.cellsOf 121=2:=by kernel_rfl
theorem aK7:Tryz.prog.cellsOf 22=1:=by kernel_rfl
theorem aIe:Tryz.prog.cellsOf 25=4:=by kernel_rfl
theorem add_zero' (g:Addr):g.add 0=g:=by unfold Addr.add;simp
theorem aIf {H:Type} {enc:TypeId × Value->H} {W:World} {fuel:Nat} {cs:List Value} {x:DataW H × List MemPlace} (h:DataW.trod enc Tryz.prog W 0 (fun _=>true) true fuel 121 cs=some x) :
  ∃ t:amX,cs=t.cells/\ar5 W .u64 t.a t.len t.cap t.ws:=by
 obtain ⟨ys,m,_,_,hsz,hl,hf⟩:=Go.DataW.trod_struct Tryz.underlying121 h;rw [aGT] at hsz
 match cs,hsz with
 | [c0,c1],_ =>
  match ys,hl with
  | [y0,y1],_ =>
   have h0:=hf 0 _ rfl;have h1:=hf 1 _ rfl
   simp [axY,aK6] at h0 h1
   obtain ⟨n,e0,_,_⟩:=Go.DataW.trod_int Tryz.underlying3 h0;obtain ⟨a,ln,lc,L,e1,hL⟩:=ar5.of_ints (open_ints Tryz.underlying68 Tryz.underlying90 aNk h1)
   simp at e0 e1
   subst e0 e1;exact ⟨⟨n,a,ln,lc,L⟩,rfl,hL⟩
theorem apH.of_trod {H:Type} {enc:TypeId × Value->H} {W:World} {fuel:Nat} {cs:List Value} {x:DataW H × List MemPlace} (h:DataW.trod enc Tryz.prog W 0 (fun _=>true) true fuel 22 cs=some x) :
  ∃ (a:Option Addr) (n c:Nat) (Ts:List amX),cs=[.slice a n c]/\apH W a n c Ts:=by
 rcases Go.DataW.trod_slice Tryz.underlying22 h with ⟨rfl,_⟩ | ⟨a,len,cap,elems,rest,n,_,rfl,_,_,hl,hm,hlen,hel,_,_⟩
 ·exact ⟨none,0,0,[],rfl,rfl,Nat.le_refl _,Nat.zero_le _,fun i hi=>by omega⟩
 ·rw [aGT] at hel
  have each:∀ i,i<len->∃ t:amX,(∀ j v,t.cells[j]?=some v->W.cell? ((a.add (i*2)).add j)=some v)/\ar5 W .u64 t.a t.len t.cap t.ws:=fun i hi=>by
   have h1:=hel i hi;rw [List.getElem?_eq_getElem (by omega)] at h1;obtain ⟨cs',hc,ht⟩:=Option.bind_eq_some_iff.1 h1;obtain ⟨o,rfl,hr⟩:=aIf ht;obtain ⟨_,h7,aTp⟩:=World.cells?_some hc;refine ⟨o,fun j v hv=>?_,hr⟩;rw [aTp j (by rw [<- h7];exact (List.getElem?_eq_some_iff.1 hv).1)];exact hv
  refine ⟨some a,len,cap,(List.range len).pmap (fun i hi=>Classical.choose (each i hi)) (fun i hi=>List.mem_range.1 hi),rfl,by simp,hl,hm,fun i hi=>?_⟩;have hc:=Classical.choose_spec (each i hi);exact ⟨a,Classical.choose (each i hi),rfl,by simp [hi],by have:=hc.1 0 _ rfl;rwa [add_zero'] at this,hc.1 1 _ rfl,hc.2⟩
structure aCP (w:World) (ta la:Option Addr) (tn tc ln lc:Nat) (Ts:List amX) (Ls:List Int):Prop where
 ts:apH w ta tn tc Ts
 ls:ar5 w .i64 la ln lc Ls
theorem aEp {H:Type} {enc:TypeId × Value->H} {W:World} {r:Reach} {base:Nat} {v:Value} {d:DataW H} {p:List MemPlace} (h:Value.okWide Tryz.prog W r base 25 v) (hd:DataW.Trod enc Tryz.prog W 0 (fun _=>true) true 25 v d p) :
  ∃ (n room:Int) (ta la:Option Addr) (tn tc ln lc:Nat) (Ts:List amX) (Ls:List Int),v=.agg #[.int .i64 n,.int .i64 room,.slice ta tn tc,.slice la ln lc]/\aCP W ta la tn tc ln lc Ts Ls:=by
 obtain ⟨cs,rfl,hsz,_⟩:=aF9 Tryz.underlying25 h;obtain ⟨fuel,hd⟩:=hd;have hsz:=hsz.trans aIe;obtain ⟨l⟩:=cs
 match l,hsz with
 | [c0,c1,c2,c3],_ =>
  obtain ⟨ys,m,_,_,_,hl,hf⟩:=Go.DataW.trod_struct Tryz.underlying25 hd
  match ys,hl with
  | [y0,y1,y2,y3],_ =>
   have h0:=hf 0 _ rfl;have h1:=hf 1 _ rfl;have h2:=hf 2 _ rfl;have h3:=hf 3 _ rfl
   simp [Value.cells,axY,aK5,aK7] at h0 h1 h2 h3
   obtain ⟨n,e0,_,_⟩:=Go.DataW.trod_int Tryz.underlying3 h0;obtain ⟨room,e1,_,_⟩:=Go.DataW.trod_int Tryz.underlying3 h1;obtain ⟨ta,tn,tc,Ts,e2,hT⟩:=apH.of_trod h2;obtain ⟨la,ln,lc,Ls,e3,hL⟩:=ar5.of_ints (open_ints Tryz.underlying23 Tryz.underlying3 axY h3)
   simp at e0 e1 e2 e3
   subst e0 e1 e2 e3;exact ⟨n,room,ta,la,tn,tc,ln,lc,Ts,Ls,rfl,hT,hL⟩
theorem aGU {n:Nat} {ws:List Int} (hn:n<=16) (hl:ws.length=adu n) (hu:∀ x,x∈ws->U64 x) (hf:n<6->ws.getD 0 0/((2 ^ 2 ^ n:Nat):Int)=0):TV.Ok ⟨n,ws⟩:=by
 refine ⟨hn,hl,hu,fun h6 x hx i hi=>?_⟩;have h6:n<6:=h6;have hi:2 ^ n<=i:=hi;have hx:x∈ws:=hx
 have h1:ws.length=1:=by rw [hl];unfold adu;rw [if_pos (by omega)]
 match ws,h1 with
 | [y],_ =>
  simp at hx
  subst hx;have h2:=hf h6
  simp at h2
  have h3:=hu x (by simp);obtain ⟨m,rfl⟩ : ∃ m:Nat,x=(m:Int):=⟨x.toNat,by unfold U64 at h3;omega⟩;rw [aiL];have hp:0<2 ^ 2 ^ n:=Nat.pow_pos (by omega)
  have h4:m<2 ^ 2 ^ n:=by
   have h5:((m/2 ^ 2 ^ n:Nat):Int)=0:=by push_cast;exact_mod_cast h2
   have h6:m/2 ^ 2 ^ n=0:=by omega
   rcases Nat.div_eq_zero_iff.1 h6 with h | h
   ·omega
   ·exact h
  exact Nat.testBit_lt_two_pow (Nat.lt_of_lt_of_le h4 (Nat.pow_le_pow_right (by omega) hi))
structure aK8 (n room:Int) (tn ln:Nat) (Ts:List amX):Prop where
 n1:1<=n/\n<=8
 room:2<=room/\room<=1048576
 tn:tn<=40
 ln:ln<=200
 ok:∀ t,t∈Ts->t.n=n/\t.tv.Ok
end Go.Proofs.YtdackeldhdchaaaGreat
namespace Go.Proofs.YtdackeldhdchaaaGreat
open Go.RowKit Go.Maps Go.ChangeMaps Go.WideShapes
structure aTq (n:Nat) (ws:List Int) (w:World) (e:Ending) (w':World):Prop where
 ex:∃ B:Bool,e=.returned (.bool B)/\Upd [] w w'/\(B=true->TV.Ok ⟨n,ws⟩)
theorem aGc (n:Nat) (a:Option Addr) (len cap:Nat) (ws:List Int) (w:World) (hn:n<=16) (hr:ar5 w .u64 a len cap ws) :
  Calls Tryz.prog 50 #[.agg #[.int .i64 n,.slice a len cap]] w fun e w'=>aTq n ws w e w':=by
 have HU:=Lib.hid ((Upd.refl [] w).alloc (.cells #[.int .i64 n,.slice a len cap] 121 (0,0)));have hb:=alC w (.int .i64 n) (.slice a len cap)
 have HSE:Hid (∀ z,Upd [] (w.alloc (.cells #[.int .i64 n,.slice a len cap] 121 (0,0))) z->z.cell? ⟨w.heap.size,0,none⟩=some (.int .i64 n)/\z.cell? ⟨w.heap.size,1,none⟩=some (.slice a len cap)):=fun z u=>⟨u.cell0 hb.1,u.cell0 hb.2⟩
 have HWS:=Lib.hid (fun z=>aze n z hn)
 have hn0:decide ((n:Int)<0)=false:=by simp
 have hn1:decide ((16:Int)<(n:Int))=false:=by simp;omega
 have HR:=Lib.hid hr
 have aE7:∀ x,x∈ws->U64 x:=fun x hx=>by
  have h1:=hr.wf x hx
  simp only [Lit.wf,Bool.and_eq_true,decide_eq_true_eq] at h1
  exact ⟨h1.1,by have h2:x<=18446744073709551615:=h1.2;omega⟩
 have a3q:=Lib.hid aE7
 by_cases hl:len=adu n
 ·have HL:=Lib.hid hl
  have aAe:=apJ n;obtain ⟨x,rfl,hx⟩:=hr.row.at_ 0 (by omega);have hx0:=(((Upd.refl [] w).alloc (.cells #[.int .i64 n,.slice (some x) len cap] 121 (0,0))).cell0 hx)
  have e0:x.add 0=x:=by unfold Addr.add;simp
  rw [e0] at hx hx0
  have hlen:ws.length=adu n:=by rw [hr.row.len,hl]
  have hll:len<=1024:=by
   rw [hl];unfold adu;split
   ·omega
   ·have:(2:Nat) ^ (n-6)<=2 ^ 10:=Nat.pow_le_pow_right (by omega) (by omega)
    omega
  rw [<- hl] at HWS aAe
  have hmm:((len:Int) != (len:Int))=false:=by simp
  have hp0:(0:Int)<(len:Int):=by omega
  by_cases h6:6<=n
  ·have hd6:decide ((6:Int)<=(n:Int))=true:=by simp;omega
   have HF:Hid (TV.Ok ⟨n,ws⟩):=aGU hn hlen aE7 (by omega);clear hr aE7 hl hlen hx hx0 e0 h6 hb
   go_enter Tryz.func50,Tryz.ntmps50
   go_wp2_with fail
   go_region_held3 (fun z=>z.cell? ⟨w.heap.size,0,none⟩=some (.int .i64 n)/\z.cell? ⟨w.heap.size,1,none⟩=some (.slice (some x) len cap)) (first | exact HSE.out _ (Upd.refl _ _).drew) (first
    | (go_at_call 113;refine (HWS.out _).mono ?_;rintro e w2 ⟨rfl,rfl⟩))
   obtain ⟨y0,y1⟩:=HSE.out _ (Upd.refl _ _).drew.drew;go_wp2_with fail
   go_quiet (fail)
   go_wp2_with fail;go_ret;exact ⟨true,rfl,HU.out.drew.drewN _,fun _=>HF.out⟩
  ·have hd6:decide ((6:Int)<=(n:Int))=false:=by simp;omega
   obtain ⟨X,hX⟩ : ∃ X,ws.getD 0 0=X:=⟨_,rfl⟩;rw [hX] at hx0
   have HF:Hid (∀ s:Nat,s=2 ^ n->((X/2 ^ s == 0)=true)->TV.Ok ⟨n,ws⟩):=fun s hs h=>aGU hn hlen aE7 fun _=>by
    subst hs;have h:=eq_of_beq h;rw [hX]
    push_cast
    exact h
   obtain ⟨s,hs⟩ : ∃ s:Nat,s=2 ^ n:=⟨_,rfl⟩;have HS:=Lib.hid hs
   have a3r:s<=32:=by
    have:(2:Nat) ^ n<=2 ^ 5:=Nat.pow_le_pow_right (by omega) (by omega);omega
   have hsl:(s:Int)<64:=by omega
   have hnl:(n:Int)<64:=by omega
   have hw2:IntKind.u64.wrap (2 ^ n)=(s:Int):=by
    have e2:((2:Int) ^ n)=((2 ^ n:Nat):Int):=by push_cast;rfl
    rw [e2,<- hs,IntWalk.u64_in _ (by omega)]
   have hw3:wrap64 (2 ^ n)=(s:Int):=by
    have e2:((2:Int) ^ n)=((2 ^ n:Nat):Int):=by push_cast;rfl
    rw [e2,<- hs];unfold wrap64;omega
   obtain ⟨Bq,hBq⟩ : ∃ Bq,(X/2 ^ s == 0)=Bq:=⟨_,rfl⟩;have HBQ:=Lib.hid hBq;clear hr aE7 hl hlen hx hX e0 h6 hb hs hBq
   go_enter Tryz.func50,Tryz.ntmps50
   go_wp2_with fail
   go_region_held3 (fun z=>z.cell? ⟨w.heap.size,0,none⟩=some (.int .i64 n)/\z.cell? ⟨w.heap.size,1,none⟩=some (.slice (some x) len cap)) (first | exact HSE.out _ (Upd.refl _ _).drew) (first
    | (go_at_call 113;refine (HWS.out _).mono ?_;rintro e w2 ⟨rfl,rfl⟩))
   obtain ⟨y0,y1⟩:=HSE.out _ (Upd.refl _ _).drew.drew;go_wp2_with fail
   go_quiet (fail)
   go_wp2_with fail;go_ret;exact ⟨(X/2 ^ s == 0),rfl,HU.out.drew.drewN _,HF.out s HS.out⟩
 ·have hne:((len:Int) != ((adu n:Nat):Int))=true:=by simp;omega
  have aHR:¬ ((len:Int)=((adu n:Nat):Int)):=by omega
  clear hr aE7 hb
  go_enter Tryz.func50,Tryz.ntmps50
  go_wp2_with fail
  go_region_held3 (fun z=>z.cell? ⟨w.heap.size,0,none⟩=some (.int .i64 n)/\z.cell? ⟨w.heap.size,1,none⟩=some (.slice a len cap)) (first | exact HSE.out _ (Upd.refl _ _).drew) (first
   | (go_at_call 113;refine (HWS.out _).mono ?_;rintro e w2 ⟨rfl,rfl⟩))
  go_wp2_with fail;go_ret;exact ⟨false,rfl,HU.out.drew,fun h=>by cases h⟩
end Go.Proofs.YtdackeldhdchaaaGreat
