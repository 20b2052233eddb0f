import Derived.Test.YtdackeldhdchaaaGreatPW28
import Derived.Test.YtdackeldhdchaaaGreatPW30
import Derived.Test.YtdackeldhdchaaaGreatPW25
import Derived.Test.YtdackeldhdchaaaGreatPW16
import Derived.Test.YtdackeldhdchaaaGreatPW26
set_option maxRecDepth 100000
set_option maxHeartbeats 6400000
namespace Go.Proofs.YtdackeldhdchaaaGreat
open Go.RowKit Go.Maps Go.ChangeMaps Go.WideShapes
theorem alR (b1 b2:Nat) (v1 v2:Value) (l:List Nat) (w:World) (h1:w.ownsRow b1 3 1 v1 l.length (aaC l)) (h2:w.ownsRow b2 3 1 v2 l.length (aaC l)) (hl:l.length<=1048576) :
  Calls Tryz.prog 124 #[v1,v2] w fun e w'=>e=.returned (.bool true)/\Upd [] w w':=by
 obtain ⟨a1,c1,rfl,hg1⟩:=aar h1;obtain ⟨a2,c2,rfl,hg2⟩:=aar h2;have H1:=Lib.hid h1;have H2:=Lib.hid h2;clear h1 h2
 go_enter Tryz.func124,Tryz.ntmps124
 go_wp2_with fail
 go_loopg [13] l.length (fun g s13 wr=>∃ i:Nat,l.length-i=g/\i<=l.length/\s13=.int .i64 i/\Upd [] w wr)
 case atStart=>exact ⟨0,by omega,by omega,rfl,Upd.refl _ _⟩
 case round =>
  obtain ⟨i,rfl,hi,rfl,hU⟩:=hrel
  by_cases hlt:i<l.length
  ·obtain ⟨g1,rfl⟩:=abg H1.out (by omega)
   obtain ⟨g2,rfl⟩:=abg H2.out (by omega)
   have hil:(i:Int)<(l.length:Int):=by omega
   have x1:=agF (aag H1.out fun k hk=>hU.block k (H1.out.lt k hk).2 (by simp)) hlt;have x2:=agF (aag H2.out fun k hk=>hU.block k (H2.out.lt k hk).2 (by simp)) hlt;generalize l.getD i 0=X at *;have HU:=Lib.hid hU;clear hU
   have hp0:(0:Int)<=(i:Int):=by omega
   go_wp2_with fail
   go_quiet (fail)
   go_wp2_with fail
   go_roundg (l.length-(i+1))
   case measure=>omega
   case rel=>exact ⟨i+1,rfl,by omega,by simp,HU.out.drewN _⟩
  ·obtain rfl:i=l.length:=by omega
   have hil:¬ ((l.length:Int)<(l.length:Int)):=by omega
   have HU:=Lib.hid hU;clear hU;go_wp2_with fail;go_ret;exact ⟨rfl,HU.out⟩
theorem alS (n0 a b m:Nat) (rv tv:Value) (K:KV) (F:List Nat) (M:MV) (p:aaE) (refs:List Nat) (tabs:List TV) (w:World) (h:PIn w n0 a b m rv tv K F M p refs tabs) (l:afB K M refs tabs) :
  Calls Tryz.prog 56 #[.pointer (some ⟨a,0,none⟩)] w fun e w'=>e=.returned (.bool true)/\Upd [] w w':=by
 have hv8:K.vars<=8:=by rw [<- l.km.agr.same.n];exact l.km.fit.n6
 have hMn:M.n=K.vars:=l.km.agr.same.n;obtain ⟨oa,oc,hov,_⟩:=aar h.mem.mod.os;obtain ⟨ya,yc,hyv,_⟩:=h.mem.mod.hs.form;obtain ⟨c0m,_,c2m,c3m,_⟩:=h.mem.mod.cells;rw [hov] at c2m;rw [hyv] at c3m;have hos:=h.mem.mod.os;rw [hov] at hos;obtain ⟨ra,rc,rfl,_⟩:=aar h.mem.rr;obtain ⟨xa,xc,rfl,hxa⟩:=h.mem.tt.form;have HL:=Lib.hid h;have HLG:=Lib.hid l;have hol:=l.km.fit.ol;have hhl:=l.km.fit.hl
 have HZ:Hid (∀ x:World,Upd [] w x->∀ k,k∈F++p.all m->k<x.heap.size):=fun x u k hk=>Nat.lt_of_lt_of_le (h.mem.z k hk) u.size
 have aBb:Hid (∀ v,v<M.n->v∈M.order):=fun v hv=>by
  obtain ⟨x1,_,x3⟩:=l.km.lvl h.mem.ker.ok hv;exact List.mem_of_getElem? x3
 have HOR:Hid (∀ x:World,Upd [] w x->Calls Tryz.prog 48 #[.pointer (some ⟨b,0,none⟩)] x fun e w'=>∃ (g cap:Nat),e=.returned (.slice (some ⟨g,0,none⟩) M.order.length cap)/\w'.ownsRow x.heap.size 3 1 (.slice (some ⟨g,0,none⟩) M.order.length cap) M.order.length (aaC M.order)/\Upd [] x w'):=fun x u=>by
  have:=akb b K F x (h.mem.ker.upd u (by simp))
  rw [<- l.km.agr.same.od] at this;exact this
 have HOS:Hid (∀ x:World,Upd [] w x->x.ownsRow 0 3 1 (.slice oa M.order.length oc) M.order.length (aaC M.order)):=fun x u=>aag hos fun k hk=>u.block k (hos.lt k hk).2 (by simp)
 have HRT:Hid (∀ x:World,Upd [] w x->Calls Tryz.prog 33 #[.pointer (some ⟨b,0,none⟩)] x fun e w'=>∃ (a:Option Addr) (c:Nat),e=.returned (.slice a M.held.length c)/\Upd [] x w'):=fun x u=>by
  refine (arK b K F x (h.mem.ker.upd u (by simp))).mono ?_;rintro e w' ⟨v,rfl,hr,hu⟩;obtain ⟨a,c,rfl,_⟩:=aar hr;rw [l.km.agr.roots_len h.mem.ker.ok h.mem.ker.uni (by omega)];exact ⟨a,c,rfl,hu⟩
 have hus:=l.km.agr.used h.mem.ker.ok h.mem.ker.uni (by omega)
 have HLI:Hid (∀ x:World,Upd [] w x->Calls Tryz.prog 31 #[.pointer (some ⟨b,0,none⟩)] x fun e w'=>e=.returned (.int .i64 (M.live:Nat))/\w'=x):=fun x u=>by
  have:=alr b K F x (h.mem.ker.upd u (by simp));rw [hus] at this;unfold MV.live;rw [show ((M.lev.flatten.length:Nat):Int)=(((M.lev.flatten.length+2:Nat):Int)-2) by omega];exact this
 have HML:Hid (∀ x:World,Upd [] w x->Calls Tryz.prog 125 #[.pointer (some ⟨m,0,none⟩)] x fun e w'=>e=.returned (.int .i64 (M.live:Nat))/\Upd [] x w'):=fun x u =>
  agh m M p _ x (h.mem.mod.keep0 u) (HZ.out x u) l.km.fit
 have HWK:Hid (∀ (x:World) (v:Nat),Upd [] w x->v<M.n->Calls Tryz.prog 126 #[.pointer (some ⟨b,0,none⟩),.int .i64 v] x fun e w'=>e=.returned (.tuple #[.int .i64 (M.wid v),.int .i64 0])/\Upd [] x w'):=fun x v u hv =>
  ann b v K F M x (h.mem.ker.upd u (by simp)) l.km hv
 have HWM:Hid (∀ (x:World) (v:Nat),Upd [] w x->v<M.n->Calls Tryz.prog 127 #[.pointer (some ⟨m,0,none⟩),.int .i64 v] x fun e w'=>e=.returned (.int .i64 (M.wid v))/\Upd [] x w'):=fun x v u hv =>
  anl m v M p _ x (h.mem.mod.keep0 u) (HZ.out x u) l.km.fit (aBb.out v hv)
 have HTB:Hid (∀ z (r:Nat) (t:TV),Upd [] w z->Names K r t->t.Ok->t.n=K.vars->Calls Tryz.prog 121 #[.pointer (some ⟨b,0,none⟩),.int .i64 K.vars,.int .u32 r] z fun e w'=>ao3 t z e w'):=fun z r t u hn ht htn=>by
  have e:K.tab r=t:=h.mem.ker.ok.tab_eq (by omega) hn.1 ht htn hn.2;rw [<- e];exact afS b r K F z (h.mem.ker.upd u (by simp)) hn.1 hv8
 have HSM:Hid (∀ (z:World) (Z1 Z2:List Nat) (c1 c2:Value) (t1 t2:TV),TIn z Z1 c1 t1->TIn z Z2 c2 t2->Calls Tryz.prog 122 #[abl t1 c1,abl t2 c2] z fun e w'=>e=.returned (.bool (decide (t1=t2)))/\Upd [] z w'):=fun z Z1 Z2 c1 c2 t1 t2 h1 h2 =>
  adg [z.heap.size] c1 c2 t1 t2 z h1.any h2.any
 have HC:Hid (∀ z,Upd [] w z->(z.cell? ⟨a,0,none⟩=some (.pointer (some ⟨b,0,none⟩))/\z.cell? ⟨a,1,none⟩=some (.pointer (some ⟨m,0,none⟩))/\z.cell? ⟨a,2,none⟩=some (.slice ra refs.length rc)/\z.cell? ⟨a,3,none⟩=some (.slice xa tabs.length xc))/\z.cell? ⟨m,0,none⟩=some (.int .i64 K.vars)/\z.cell? ⟨m,2,none⟩=some (.slice oa M.order.length oc)/\z.cell? ⟨m,3,none⟩=some (.slice ya M.held.length yc)):=fun z u=>by
  obtain ⟨c0,c1,c2,c3⟩:=h.cells;rw [hMn] at c0m;exact ⟨⟨u.cell0 c0,u.cell0 c1,u.cell0 c2,u.cell0 c3⟩,u.cell0 c0m,u.cell0 c2m,u.cell0 c3m⟩
 obtain ⟨kv,hkv⟩ : ∃ kv,K.vars=kv:=⟨_,rfl⟩;have HKV:=Lib.hid hkv;rw [hMn,hkv] at HWK HWM;rw [hkv] at HTB HC hv8;obtain ⟨TL,hTL⟩ : ∃ TL,tabs.length=TL:=⟨_,rfl⟩
 have hrl:refs.length=TL:=by rw [l.lr,hTL]
 have aAB:TL<=40:=by have h2:=l.rb;omega
 have HTL:=Lib.hid (And.intro hTL hrl);rw [hTL,hrl] at HC;clear h l hov hyv hos hus c0m c2m c3m hMn hkv aBb hTL hrl;obtain ⟨⟨x0,x1,x2,x3⟩,x4,x5,x6⟩:=HC.out w (Upd.refl _ _)
 go_enter Tryz.func56,Tryz.ntmps56
 go_wp2_with fail
 go_region_held3 (fun x=>(x.cell? ⟨a,0,none⟩=some (.pointer (some ⟨b,0,none⟩))/\x.cell? ⟨a,1,none⟩=some (.pointer (some ⟨m,0,none⟩))/\x.cell? ⟨a,2,none⟩=some (.slice ra TL rc)/\x.cell? ⟨a,3,none⟩=some (.slice xa TL xc))/\x.cell? ⟨m,0,none⟩=some (.int .i64 kv)/\x.cell? ⟨m,2,none⟩=some (.slice oa M.order.length oc)/\x.cell? ⟨m,3,none⟩=some (.slice ya M.held.length yc)) (first | exact HC.out _ (Upd.refl _ _).drew | exact HC.out _ HO1.out.2 | exact HC.out _ HO2.out | exact HC.out _ HO3.out | exact HC.out _ HO4.out) (first
  | (go_at_call 48;refine (HOR.out _ (Upd.refl [] w).drew).mono ?_;rintro e w1 ⟨g,cap,rfl,ho,hu⟩;have HO1:=Lib.hid (And.intro ho ((Upd.refl [] w).drew.trans hu));clear ho hu)
  | (go_at_call 124;refine (alR _ 0 _ _ M.order _ HO1.out.1 (HOS.out _ HO1.out.2) (by omega)).mono ?_;rintro e w2 ⟨rfl,hu⟩;have HO2:=Lib.hid (HO1.out.2.trans hu);clear hu)
  | (go_at_call 31;refine (HLI.out _ HO2.out).mono ?_;rintro e w3 ⟨rfl,rfl⟩)
  | (go_at_call 125;refine (HML.out _ HO2.out).mono ?_;rintro e w4 ⟨rfl,hu⟩;have HO3:=Lib.hid (HO2.out.trans hu);clear hu)
  | (go_at_call 33;refine (HRT.out _ HO3.out).mono ?_;rintro e w5 ⟨ga,gc,rfl,hu⟩;have HO4:=Lib.hid (HO3.out.trans hu);clear hu))
 have HUX:=Lib.hid HO4.out;clear HO1 HO2 HO3 HO4 HOR HOS HRT HLI HML x0 x1 x2 x3 x4 x5 x6;generalize w5=wX at *;obtain ⟨⟨x0,x1,x2,x3⟩,x4,x5,x6⟩:=HC.out wX HUX.out;go_wp2_with fail
 go_loopg [61] kv (fun g s61 wr=>∃ i:Nat,kv-i=g/\i<=kv/\s61=.int .i64 i/\Upd [] wX wr)
 case atStart=>exact ⟨0,by omega,by omega,rfl,Upd.refl _ _⟩
 case round =>
  obtain ⟨i,rfl,hi,rfl,hU⟩:=hrel;have HU:=Lib.hid (HUX.out.trans hU);have HUR:=Lib.hid hU;obtain ⟨⟨y0,y1,y2,y3⟩,y4,_,_⟩:=HC.out wr HU.out;clear hU x0 x1 x2 x3 x4 x5 x6
  by_cases hlt:i<kv
  ·have hil:(i:Int)<(kv:Int):=by omega
   go_wp2_with fail;refine (HWK.out wr i HU.out hlt).mono ?_;rintro e w7 ⟨rfl,hu⟩;have HU7:=Lib.hid (And.intro (HU.out.trans hu) (HUR.out.trans hu));obtain ⟨⟨y0,y1,y2,y3⟩,y4,_,_⟩:=HC.out w7 HU7.out.1;clear hu;go_wp2_with fail;refine (HWM.out w7 i HU7.out.1 hlt).mono ?_;rintro e w8 ⟨rfl,hu⟩;have HU8:=Lib.hid (HU7.out.2.trans hu);clear hu;go_wp2_with fail
   go_roundg (kv-(i+1))
   case measure=>omega
   case rel=>exact ⟨i+1,rfl,by omega,by simp,HU8.out⟩
  ·obtain rfl:i=kv:=by omega
   have hil:¬ ((i:Int)<(i:Int)):=by omega
   go_wp2_with fail;generalize wr=wY at *
   go_loopg [91] TL (fun g s91 wr=>∃ j:Nat,TL-j=g/\j<=TL/\s91=.int .i64 j/\Upd [] wY wr)
   case atStart=>exact ⟨0,by omega,by omega,rfl,Upd.refl _ _⟩
   case round =>
    obtain ⟨j,rfl,hj,rfl,hU⟩:=hrel;have HU0:=Lib.hid (HU.out.trans hU);have aFs:=Lib.hid hU;clear hU y0 y1 y2 y3 y4;generalize wr=w0 at *;obtain ⟨⟨y0,y1,y2,y3⟩,y4,_,_⟩:=HC.out w0 HU0.out
    by_cases hjt:j<TL
    ·have hjl:(j:Int)<(TL:Int):=by omega
     have hj0:(0:Int)<=(j:Int):=by omega
     obtain ⟨t,ht⟩ : ∃ t,tabs[j]?=some t:=⟨_,List.getElem?_eq_getElem (by have h:=HTL.out.1;omega)⟩;obtain ⟨r,hr⟩ : ∃ r,refs[j]?=some r:=⟨_,List.getElem?_eq_getElem (by have h:=HTL.out.2;omega)⟩;have hnm:=HLG.out.nm j r t hr ht;have aoG:=HLG.out.ok t (List.mem_of_getElem? ht);have hPI:=HL.out.keep0 HU0.out;obtain ⟨gt,rfl⟩:=hxa (by have h:=HTL.out.1;omega);obtain ⟨cu,z1,z2,htu⟩:=hPI.mem.tt.at_ ht;obtain ⟨ta,tc,rfl,_⟩:=acK htu.row;obtain ⟨gr,rfl⟩:=abg hPI.mem.rr (by have h:=HTL.out.2;omega);have z0:=aam hPI.mem.rr (agM hr);obtain ⟨n,hnn⟩ : ∃ n,t.n=n:=⟨_,rfl⟩;obtain ⟨W,hW⟩ : ∃ W,t.ws.length=W:=⟨_,rfl⟩;rw [hnn] at z1;rw [hW] at z2;have HN:=Lib.hid hnn;have HWL:=Lib.hid hW
     have htw:W<=1024:=by rw [<- hW];exact aoG.1.len_le
     have adU:=HL.out.mem.ker.ok.ref_lt hnm.1
     have HHD:Hid (∀ x:World,Upd [] w x->Calls Tryz.prog 74 #[.pointer (some ⟨b,0,none⟩),.int .u32 r] x fun e w'=>e=.returned (.int .i64 (K.hold r))/\w'=x):=fun x u=>auw b r K F x (HL.out.mem.ker.upd u (by simp)) (by omega)
     have HTU:=Lib.hid (And.intro htu (And.intro aoG hnm))
     have HHO:Hid (∀ x:World,Upd [] w0 x->Calls Tryz.prog 118 #[.pointer (some ⟨m,0,none⟩),.agg #[.int .i64 n,.slice ta W tc]] x fun e w'=>e=.returned (.int .i64 (K.hold r))/\Upd [] x w'):=fun x u=>by
      have h1:=ai4 m M p (F++p.all m) (.slice ta t.ws.length tc) t x (HL.out.mem.mod.keep0 (HU0.out.trans u)) (HTU.out.1.keep0 u) (by omega);rw [HLG.out.km.agr.holds HL.out.mem.ker.ok HL.out.mem.ker.uni aoG.1 aoG.2 hnm] at h1;unfold abl at h1;rw [HN.out,HWL.out] at h1;exact h1
     have HTB:Hid (∀ z,Upd [] w z->Calls Tryz.prog 121 #[.pointer (some ⟨b,0,none⟩),.int .i64 i,.int .u32 r] z fun e w'=>ao3 t z e w'):=fun z u=>HTB.out z r t u hnm aoG.1 (aoG.2.trans HKV.out)
     have HSE:Hid (∀ z,Upd [] w0 z->z.cell? ⟨a,0,none⟩=some (.pointer (some ⟨b,0,none⟩))/\z.cell? ⟨a,1,none⟩=some (.pointer (some ⟨m,0,none⟩))/\z.cell? ⟨m,0,none⟩=some (.int .i64 i)):=fun z u=>by
      obtain ⟨⟨c0,c1,_⟩,c4,_⟩:=HC.out z (HU0.out.trans u);exact ⟨c0,c1,c4⟩
     have asB:Hid (∀ z,Upd [] w0 z->(z.cell? ⟨a,0,none⟩=some (.pointer (some ⟨b,0,none⟩))/\z.cell? ⟨a,1,none⟩=some (.pointer (some ⟨m,0,none⟩))/\z.cell? ⟨a,3,none⟩=some (.slice (some ⟨gt,0,none⟩) TL xc))/\z.cell? ⟨gt,j*2,none⟩=some (.int .i64 n)/\z.cell? ⟨gt,j*2+1,none⟩=some (.slice ta W tc)):=fun z u=>by
      obtain ⟨⟨c0,c1,_,c3⟩,c4,_⟩:=HC.out z (HU0.out.trans u);exact ⟨⟨c0,c1,c3⟩,u.cell0 z1,u.cell0 z2⟩
     have aLc:=hv8;clear hPI htu ht hr hnn hW z1 z2 aoG hnm adU;go_upto_region 13 with fail
     go_cut [8,9] from 96 to 111 (fun s8 s9 wc=>afV n W t w0 s8 s9 wc)
     case first =>
      refine aa9 (fun z=>z.cell? ⟨a,0,none⟩=some (.pointer (some ⟨b,0,none⟩))/\z.cell? ⟨a,1,none⟩=some (.pointer (some ⟨m,0,none⟩))/\z.cell? ⟨m,0,none⟩=some (.int .i64 i)) (fun _=>True) [] (by kernel_rfl) ?_;have hS:=HSE.out _ (Upd.refl _ _).drew;have hE:True:=trivial;refine tkS 0 rfl hS (fun _=>hE) ?_;refine tkS 1 rfl hS (fun _=>hE) ?_;refine tkS 2 rfl hS (fun _=>hE) ?_;refine tkS 3 rfl hS (fun _=>hE) ?_;refine tkS 4 rfl hS (fun _=>hE) ?_;refine tkS 5 rfl hS (fun _=>hE) ?_;refine tkS 6 rfl hS (fun _=>hE) ?_;refine tkS 7 rfl hS (fun _=>hE) ?_;refine tkS 8 rfl hS (fun _=>hE) ?_;refine tkS 9 rfl hS (fun _=>hE) ?_;refine tkS 10 rfl hS (fun _=>hE) ?_;refine tkS 11 rfl hS (fun _=>hE) ?_;refine aao (rs:=[12,16]) (by kernel_rfl) (by simp) ?_;refine aaf.cons rfl (fun Kx hK=>?_) ?_
      ·
       go_simp
       refine (HTB.out _ (HU0.out.trans (Upd.refl [] w0).drew)).mono ?_;rintro e w1 hE1;obtain ⟨c1,rfl,hT1,hu⟩:=hE1.ex;obtain ⟨ga,gc,rfl,_⟩:=acK hT1.row;have HU1:Hid (Upd [] w0 w1):=Upd.trans (Upd.refl [] w0).drew hu;unfold abl;rw [HWL.out] at hT1 ⊢;rw [HN.out];have HT1:=Lib.hid hT1;clear hE1 hu hT1;go_wp2_with fail;refine hK.out _ _ ⟨HSE.out _ HU1.out,fun _=>trivial⟩ (fun hHeld=>?_);clear hK Kx;obtain ⟨hS,hE⟩:=hHeld;have hE:=hE (by kernel_rfl)
       (try simp only [Act.put,List.setIfInBounds_toArray,List.set_cons_zero,List.set_cons_succ])
       refine tkS 13 rfl hS (fun _=>hE) ?_;refine tkS 14 rfl hS (fun _=>hE) ?_;refine tkS 15 rfl hS (fun _=>hE) ?_;refine aao (rs:=[16]) (by kernel_rfl) (by simp) ?_;refine aaf.cons rfl (fun Kx hK=>?_) ?_
       rotate_left
       exact aaf.nil
       go_simp
       refine hK.out _ _ ⟨HSE.out _ (HU1.out.alloc _),fun _=>trivial⟩ (fun hHeld=>?_);clear hK Kx;obtain ⟨hS,hE⟩:=hHeld;have hE:=hE (by kernel_rfl)
       (try simp only [Act.put,List.setIfInBounds_toArray,List.set_cons_zero,List.set_cons_succ])
       refine aao (rs:=[17]) (by kernel_rfl) (by simp) ?_;refine aaf.cons rfl (fun Kx hK=>?_) ?_
       rotate_left
       exact aaf.nil
       go_simp
       refine hK.out _ _ ⟨HSE.out _ (HU1.out.alloc _),fun _=>trivial⟩ (fun hHeld=>?_);clear hK Kx;obtain ⟨hS,hE⟩:=hHeld;have hE:=hE (by kernel_rfl)
       (try simp only [Act.put,List.setIfInBounds_toArray,List.set_cons_zero,List.set_cons_succ])
       refine tkS 18 rfl hS (fun _=>hE) ?_;refine aa1 (by kernel_rfl) ?_ _;clear hS hE
       (try go_simp)
       go_wp2_with fail;go_meet;exact afV.of1 HT1.out HU1.out
      refine aaf.cons rfl (fun Kx hK=>?_) ?_
      rotate_left
      exact aaf.nil
      go_simp
      refine hK.out _ _ ⟨HSE.out _ ((Upd.refl [] w0).drew.alloc _),fun _=>trivial⟩ (fun hHeld=>?_);clear hK Kx;obtain ⟨hS,hE⟩:=hHeld;have hE:=hE (by kernel_rfl)
      (try simp only [Act.put,List.setIfInBounds_toArray,List.set_cons_zero,List.set_cons_succ])
      refine aao (rs:=[12]) (by kernel_rfl) (by simp) ?_;refine aaf.cons rfl (fun Kx hK=>?_) ?_
      rotate_left
      exact aaf.nil
      go_simp
      refine (HTB.out _ (HU0.out.trans ((Upd.refl [] w0).drew.alloc (.cells #[.int .i64 0,.slice none 0 0] 121 (0,0))))).mono ?_;rintro e w1 hE1;obtain ⟨c1,rfl,hT1,hu⟩:=hE1.ex;obtain ⟨ga,gc,rfl,_⟩:=acK hT1.row;have HU1:Hid (Upd [] w0 w1):=Upd.trans ((Upd.refl [] w0).drew.alloc (.cells #[.int .i64 0,.slice none 0 0] 121 (0,0))) hu;unfold abl;rw [HWL.out] at hT1 ⊢;rw [HN.out];have HT1:=Lib.hid hT1;have hbx:=(hu.block w0.heap.size (by rw [World.size_alloc];show w0.heap.size<w0.heap.size+1;omega) (by simp)).trans (heap_alloc_new w0.drew (.cells #[.int .i64 0,.slice none 0 0] 121 (0,0)));have y0:=aab (j:=0) hbx rfl;have y1:=aab (j:=1) hbx rfl;have g0:=aal 0 hbx;have g1:=aal 1 hbx;have HBX:=Lib.hid hbx;clear hE1 hu hT1 hbx;go_wp2_with fail;refine hK.out _ _ ⟨HSE.out _ HU1.out,fun _=>trivial⟩ (fun hHeld=>?_);clear hK Kx;obtain ⟨hS,hE⟩:=hHeld;have hE:=hE (by kernel_rfl)
      (try simp only [Act.put,List.setIfInBounds_toArray,List.set_cons_zero,List.set_cons_succ])
      refine tkS 13 rfl hS (fun _=>hE) ?_;refine tkS 14 rfl hS (fun _=>hE) ?_;refine tkS 15 rfl hS (fun _=>hE) ?_;refine aao (rs:=[17]) (by kernel_rfl) (by simp) ?_;refine aaf.cons rfl (fun Kx hK=>?_) ?_
      rotate_left
      exact aaf.nil
      go_simp
      refine hK.out _ _ ⟨HSE.out _ ((HU1.out.setCell (p:=⟨w0.heap.size,0,none⟩) (.inr (Nat.le_refl _)) _).setCell (p:=⟨w0.heap.size,1,none⟩) (.inr (Nat.le_refl _)) _),fun _=>trivial⟩ (fun hHeld=>?_);clear hK Kx;obtain ⟨hS,hE⟩:=hHeld;have hE:=hE (by kernel_rfl)
      (try simp only [Act.put,List.setIfInBounds_toArray,List.set_cons_zero,List.set_cons_succ])
      refine tkS 18 rfl hS (fun _=>hE) ?_;refine aa1 (by kernel_rfl) ?_ _;clear hS hE
      (try go_simp)
      go_wp2_with fail;go_meet;exact afV.of2 HBX.out HT1.out HU1.out
     case rest =>
      obtain ⟨B,ga,gc,rfl,rfl,hbB,hTg,hu1⟩:=hcut.ex;have HUC:=Lib.hid hu1
      have HSS:Hid (∀ z,Upd [] wc z->Calls Tryz.prog 122 #[.agg #[.int .i64 n,.slice ga W gc],.agg #[.int .i64 n,.slice ta W tc]] z fun e w'=>e=.returned (.bool true)/\Upd [] z w'):=fun z uz=>by
       have h1:=HSM.out z _ _ _ _ t t (hTg.keep0 uz) (HTU.out.1.keep0 (hu1.trans uz));unfold abl at h1;rw [HWL.out,HN.out,show decide (t=t)=true by simp] at h1;exact h1
      have HBX:Hid (∀ z,Upd [] wc z->(z.cell? ⟨B,0,none⟩=some (.int .i64 n)/\z.cell? ⟨B,1,none⟩=some (.slice ga W gc))/\(z.cell? ⟨a,0,none⟩=some (.pointer (some ⟨b,0,none⟩))/\z.cell? ⟨a,1,none⟩=some (.pointer (some ⟨m,0,none⟩))/\z.cell? ⟨a,3,none⟩=some (.slice (some ⟨gt,0,none⟩) TL xc))/\z.cell? ⟨gt,j*2,none⟩=some (.int .i64 n)/\z.cell? ⟨gt,j*2+1,none⟩=some (.slice ta W tc)):=fun z uz =>
       ⟨⟨uz.cell0 (aab hbB rfl),uz.cell0 (aab hbB rfl)⟩,asB.out z (hu1.trans uz)⟩
      generalize K.hold r=kh at *;clear hcut hbB hTg hu1 HTB HSE y0 y1 y2 y3 y4;go_wp2_with fail
      go_region_held3 (fun z=>(z.cell? ⟨B,0,none⟩=some (.int .i64 n)/\z.cell? ⟨B,1,none⟩=some (.slice ga W gc))/\(z.cell? ⟨a,0,none⟩=some (.pointer (some ⟨b,0,none⟩))/\z.cell? ⟨a,1,none⟩=some (.pointer (some ⟨m,0,none⟩))/\z.cell? ⟨a,3,none⟩=some (.slice (some ⟨gt,0,none⟩) TL xc))/\z.cell? ⟨gt,j*2,none⟩=some (.int .i64 n)/\z.cell? ⟨gt,j*2+1,none⟩=some (.slice ta W tc)) (first | exact HBX.out _ (Upd.refl _ _).drew | exact HBX.out _ HO1.out | exact HBX.out _ HO2.out) (first
       | (go_at_call 122;refine (HSS.out _ (Upd.refl _ _).drew).mono ?_;rintro e w8 ⟨rfl,hu⟩;have HO1:=Lib.hid ((Upd.refl [] wc).drew.trans hu);clear hu)
       | (go_at_call 74;refine (HHD.out _ (HU0.out.trans (HUC.out.trans HO1.out))).mono ?_;rintro e w9 ⟨rfl,rfl⟩)
       | (go_at_call 118;refine (HHO.out _ (HUC.out.trans HO1.out)).mono ?_;rintro e w10 ⟨rfl,hu⟩;have HO2:=Lib.hid (HO1.out.trans hu);clear hu))
      go_wp2_with fail
      go_roundg (TL-(j+1))
      case measure=>omega
      case rel=>exact ⟨j+1,rfl,by omega,by simp,aFs.out.trans (HUC.out.trans HO2.out)⟩
    ·obtain rfl:j=TL:=by omega
     have hjl:¬ ((j:Int)<(j:Int)):=by omega
     go_wp2_with fail;go_ret;exact ⟨rfl,HU0.out⟩
def MV.roomV (M:MV) (l:Int):Int × Int × Int:=if l<0\/(M.n:Int)-2<l then (0,0,1) else ((M.U l.toNat:Nat),(M.c:Int)-2,0)
theorem aqw (m:Nat) (l:Int) (M:MV) (p:aaE) (Z:List Nat) (w:World) (h:aa8 w m M p Z) (hn:M.n<=64) :
  Calls Tryz.prog 63 #[.pointer (some ⟨m,0,none⟩),.int .i64 l] w fun e w'=>e=.returned (.bool (!decide (l<0\/(M.n:Int)-2<l)))/\w'=w:=by
 obtain ⟨c0,_⟩:=h.cells;obtain ⟨n,hnn⟩ : ∃ n,M.n=n:=⟨_,rfl⟩;rw [hnn] at c0 hn ⊢;have hws:IntKind.i64.wrap ((n:Int)-2)=(n:Int)-2:=IntWalk.i64_in _ (by omega);clear h hnn
 by_cases h0:l<0
 ·have hd:decide ((0:Int)<=l)=false:=by simp;omega
  rw [show (!decide (l<0\/(n:Int)-2<l))=false by simp [h0]]
  go_enter Tryz.func63,Tryz.ntmps63
  go_wp2_with fail;go_ret;exact ⟨rfl,rfl⟩
 ·have hd:decide ((0:Int)<=l)=true:=by simp;omega
  by_cases h1:(n:Int)-2<l
  ·have hd1:decide (l<=(n:Int)-2)=false:=by simp;omega
   have hd2:¬ (l<=(n:Int)-2):=by omega
   rw [show (!decide (l<0\/(n:Int)-2<l))=false by simp [h1]]
   go_enter Tryz.func63,Tryz.ntmps63
   go_wp2_with fail;go_ret;exact ⟨rfl,rfl⟩
  ·have hd1:decide (l<=(n:Int)-2)=true:=by simp;omega
   have hd2:l<=(n:Int)-2:=by omega
   rw [show (!decide (l<0\/(n:Int)-2<l))=true by simp;omega]
   go_enter Tryz.func63,Tryz.ntmps63
   go_wp2_with fail;go_ret;exact ⟨rfl,rfl⟩
theorem alT (m:Nat) (l:Int) (M:MV) (p:aaE) (Z:List Nat) (w:World) (h:aa8 w m M p Z) (hZ:∀ k,k∈Z->k<w.heap.size) (hf:M.Fit) (hol:M.order.length=M.n) :
  Calls Tryz.prog 17 #[.pointer (some ⟨m,0,none⟩),.int .i64 l] w fun e w'=>e=.returned (.tuple #[.int .i64 (M.roomV l).1,.int .i64 (M.roomV l).2.1,.int .i64 (M.roomV l).2.2])/\Upd [] w w':=by
 have HIN:=Lib.hid (aqw m l M p Z w h (by have:=hf.n6;omega));have hcb:=hf.cb
 by_cases hr:l<0\/(M.n:Int)-2<l
 ·have hR:M.roomV l=(0,0,1):=if_pos hr
  rw [hR];rw [decide_eq_true hr] at HIN;clear h hr hR
  go_enter Tryz.func17,Tryz.ntmps17
  go_wp2_with fail;refine HIN.out.mono ?_;rintro e w1 ⟨rfl,rfl⟩;go_wp2_with fail;refine bodyPost_ret (v:=.tuple #[.int .i64 0,.int .i64 0,.int .i64 1]) (by simp [results,Tryz.results17,go_sem]) rfl ⟨rfl,Upd.refl _ _⟩
 ·have hR:M.roomV l=(((M.U l.toNat:Nat):Int),(M.c:Int)-2,0):=if_neg hr
  rw [hR];rw [decide_eq_false hr] at HIN
  have hl:((l.toNat:Nat):Int)=l:=by omega
  have HUS:=Lib.hid (fun z (u:Upd [] w z)=>ary m M p Z l.toNat z (h.keep0 u) (fun k hk=>Nat.lt_of_lt_of_le (hZ k hk) u.size) hf (by omega));rw [hl] at HUS;obtain ⟨_,c1,_⟩:=h.cells;generalize M.U l.toNat=U at *;obtain ⟨c,hc⟩ : ∃ c,M.c=c:=⟨_,rfl⟩;rw [hc] at c1 hcb ⊢;have hws:IntKind.i64.wrap ((c:Int)-2)=(c:Int)-2:=IntWalk.i64_in _ (by omega)
  have HC:Hid (∀ z,Upd [] w z->z.cell? ⟨m,1,none⟩=some (.int .i64 c)):=fun z u=>u.cell0 c1
  clear h hr hR hl hc
  go_enter Tryz.func17,Tryz.ntmps17
  go_wp2_with fail;refine HIN.out.mono ?_;rintro e w1 ⟨rfl,rfl⟩;go_wp2_with fail
  go_region_held3 (fun z=>z.cell? ⟨m,1,none⟩=some (.int .i64 c)) (first | exact HC.out _ (Upd.refl _ _).drew | exact HC.out _ HU2.out) (first
   | (go_at_call 64;refine (HUS.out _ (Upd.refl _ _).drew).mono ?_;rintro e w2 ⟨rfl,hu⟩;have HU2:=Lib.hid ((Upd.refl [] w1).drew.trans hu);clear hu))
  go_wp2_with fail;refine bodyPost_ret (v:=.tuple #[.int .i64 U,.int .i64 ((c:Int)-2),.int .i64 0]) (by simp [results,Tryz.results17,go_sem]) rfl ⟨rfl,HU2.out⟩
theorem akt (n0 a b m:Nat) (rv tv:Value) (K:KV) (F:List Nat) (M:MV) (p:aaE) (refs:List Nat) (tabs:List TV) (w:World) (h:PIn w n0 a b m rv tv K F M p refs tabs) (l:afB K M refs tabs) :
  Calls Tryz.prog 15 #[.pointer (some ⟨a,0,none⟩)] w fun e w'=>e=.returned (.bool true)/\Upd [] w w':=by
 have HST:Hid (∀ z,Upd [] w z->Calls Tryz.prog 56 #[.pointer (some ⟨a,0,none⟩)] z fun e w'=>e=.returned (.bool true)/\Upd [] z w'):=fun z u=>alS n0 a b m rv tv K F M p refs tabs z (h.keep0 u) l
 have HTR:Hid (∀ z,Upd [] w z->Calls Tryz.prog 57 #[.pointer (some ⟨b,0,none⟩)] z fun e w'=>e=.returned (.int .i64 M.trail.length)/\w'=z):=fun z u=>by
  have:=agK b K F z (h.mem.ker.upd u (by simp))
  rw [l.km.tr] at this;exact this
 obtain ⟨xa,xc,hxv,_⟩:=aar h.mem.mod.ts;obtain ⟨_,_,_,_,c4⟩:=h.mem.mod.cells;rw [hxv] at c4;obtain ⟨a0,a1,_,_⟩:=h.cells;generalize M.trail.length=TL at *
 have HC:Hid (∀ z,Upd [] w z->(z.cell? ⟨a,0,none⟩=some (.pointer (some ⟨b,0,none⟩))/\z.cell? ⟨a,1,none⟩=some (.pointer (some ⟨m,0,none⟩)))/\z.cell? ⟨m,4,none⟩=some (.slice xa TL xc)):=fun z u=>⟨⟨u.cell0 a0,u.cell0 a1⟩,u.cell0 c4⟩
 clear h l hxv c4 a0 a1
 go_enter Tryz.func15,Tryz.ntmps15
 go_wp2_with fail
 go_region_held3 (fun z=>(z.cell? ⟨a,0,none⟩=some (.pointer (some ⟨b,0,none⟩))/\z.cell? ⟨a,1,none⟩=some (.pointer (some ⟨m,0,none⟩)))/\z.cell? ⟨m,4,none⟩=some (.slice xa TL xc)) (first | exact HC.out _ (Upd.refl _ _).drew | exact HC.out _ HU2.out) (first
  | (go_at_call 56;refine (HST.out _ (Upd.refl _ _).drew).mono ?_;rintro e w2 ⟨rfl,hu⟩;have HU2:=Lib.hid ((Upd.refl [] w).drew.trans hu);clear hu)
  | (go_at_call 57;refine (HTR.out _ HU2.out).mono ?_;rintro e w3 ⟨rfl,rfl⟩))
 go_wp2_with fail;go_ret;exact ⟨rfl,HU2.out⟩
theorem aa8.boxC {w w':World} {m:Nat} {M:MV} {p:aaE} {Z:List Nat} {B:Nat} {C:Array Value} {e:TypeId} {fr:Nat × Nat} (h:aa8 w m M p Z) (hb:w.heap[B]?=some (.cells C e fr)) (u:Upd [B] w w')
  (e1:53≠e) (e2:3≠e) (e3:255≠e) (hcs:∀ (j:Nat) (n:Int),C[j]?≠some (.int .u64 n)):aa8 w' m M p Z:=by
 have k1:=h.not_ty hb e1 e2 e3;refine ⟨(u.block m (aak h.blk) (fun hm=>by simp at hm;subst hm;exact k1 (aaE.mem.2 (.inl rfl)))).trans h.blk,aag h.os fun k hk=>u.block k (h.os.lt k hk).2 (fun hm=>by simp at hm;subst hm;exact k1 (aaE.mem.2 (.inr (.inl hk)))),?_,aag h.ts fun k hk=>u.block k (h.ts.lt k hk).2 (fun hm=>by simp at hm;subst hm;exact k1 (aaE.mem.2 (.inr (.inr (.inr hk))))),h.ne,h.sz⟩;obtain ⟨cs,h1,h2,h3⟩:=h.hs.ex;refine ⟨cs,h1,aag h2 fun k hk=>u.block k (h2.lt k hk).2 (fun hm=>by simp at hm;subst hm;exact k1 (aaE.mem.2 (.inr (.inr (.inl hk))))),fun i v d hv hd=>?_⟩;have h4:=h3 i v d hv hd;exact ⟨h4.ok,h4.row.kp fun k hk=>u.block k (h4.row.lt k hk).2 fun hm=>by simp at hm;subst hm;exact h4.nbc hb hcs hk,h4.fr⟩
theorem abn.boxC {m:Nat} {p:aaE} {Z:List Nat} {M:MV} {w w1 w2:World} {B:Nat} {C:Array Value} {e:TypeId} {fr:Nat × Nat} (h:abn m p Z M w w1) (hb:w1.heap[B]?=some (.cells C e fr)) (u:Upd [B] w1 w2) (hB:w.heap.size<=B)
  (e1:53≠e) (e2:3≠e) (e3:255≠e) (hcs:∀ (j:Nat) (n:Int),C[j]?≠some (.int .u64 n)):abn m p Z M w w2:=by
 obtain ⟨q,h1,h2,h3⟩:=h.ex;exact ⟨q,h1.boxC hb u e1 e2 e3 hcs,h2.then u fun k hk=>.inr (by simp at hk;omega),h3⟩
theorem abn.post {m:Nat} {p:aaE} {Z:List Nat} {M:MV} {w w1 w2:World} (h:abn m p Z M w w1) (u:Upd [] w1 w2):abn m p Z M w w2:=by
 obtain ⟨q,h1,h2,h3⟩:=h.ex;exact ⟨q,h1.keep0 u,h2.trans (u.mono (by simp)),h3⟩
theorem MV.exch_fit {M:MV} (h:M.Fit) (ho:M.order.length=M.n) (l:Int):(M.exch l).Fit:=by
 unfold MV.exch;split
 ·rename_i h0
  obtain ⟨h1,h2,_⟩:=MV.exch_yes h0;exact ⟨h.hl,h.n6,by show (aaT M.order l.toNat).length<=8;rw [ab4];exact h.ol,fun x hx=>h.on x (afH (by omega) hx),h.tn,h.cb⟩
 ·exact h
structure as4 (m:Nat) (l:Int) (M:MV) (p:aaE) (Z:List Nat) (w:World) (e:Ending) (w':World):Prop where
 ex:e=.returned (.tuple #[chV (M.tryV l),.int .i64 (M.exchE l)])/\abn m p Z (M.exch l) w w'
theorem aid (m:Nat) (l:Int) (M:MV) (p:aaE) (Z:List Nat) (w:World) (h:aa8 w m M p Z) (hZ:∀ k,k∈Z->k<w.heap.size) (hf:M.Fit) (ho:M.order.length=M.n) (ht:M.trail.length<=1000000) :
  Calls Tryz.prog 58 #[.pointer (some ⟨m,0,none⟩),.int .i64 l] w fun e w'=>as4 m l M p Z w e w':=by
 have HP:Hid (∀ k,k∈p.all m->k<w.heap.size):=fun k hk=>hZ k (h.sz k hk)
 have hb0:=heap_alloc_new w (.cells #[.int .i64 0,.int .i64 0,.int .i64 0] 129 (0,0));have hu0:Upd [] w (w.alloc (.cells #[.int .i64 0,.int .i64 0,.int .i64 0] 129 (0,0))):=(Upd.refl _ _).alloc _;obtain ⟨w0,hw0⟩ : ∃ w0,w.alloc (.cells #[.int .i64 0,.int .i64 0,.int .i64 0] 129 (0,0))=w0:=⟨_,rfl⟩;rw [hw0] at hb0 hu0;have HW0:=Lib.hid hw0;have HB0:=Lib.hid (And.intro hb0 hu0);have HLI:=Lib.hid (agh m M p Z w0 (h.keep0 hu0) (fun k hk=>Nat.lt_of_lt_of_le (hZ k hk) hu0.size) hf)
 have HEX:Hid (∀ z,Upd [] w z->Calls Tryz.prog 55 #[.pointer (some ⟨m,0,none⟩),.int .i64 l] z fun e w'=>avz m M p Z l z e w'):=fun z u =>
  ai6 m M p Z l z (h.keep0 u) (fun k hk=>Nat.lt_of_lt_of_le (hZ k hk) u.size) hf ho ht
 have HL2:Hid (∀ z y,Upd [] w z->abn m p Z (M.exch l) z y->Calls Tryz.prog 125 #[.pointer (some ⟨m,0,none⟩)] y fun e w'=>e=.returned (.int .i64 (M.exch l).live)/\Upd [] y w'):=fun z y u hm=>by
  obtain ⟨q,h1,h2,h3⟩:=hm.ex
  exact agh m (M.exch l) q _ y h1 (fun k hk=>by
   rcases List.mem_append.1 hk with hk | hk
   ·exact Nat.lt_of_lt_of_le (hZ k hk) (Nat.le_trans u.size h2.size)
   ·rcases aaE.mem.1 hk with rfl | a1 | a1 | a1
    ·exact aak h1.blk
    ·exact (h1.os.lt k a1).2
    ·obtain ⟨xs,hr⟩:=h1.hs.row;exact (hr.lt k a1).2
    ·exact (h1.ts.lt k a1).2) (MV.exch_fit hf ho l)
 have HTV:Hid (M.tryV l=if M.exchE l=0 then (l,(M.live:Int),((M.exch l).live:Int)) else (0,0,0)):=rfl;obtain ⟨L1,hL1⟩ : ∃ L1,M.live=L1:=⟨_,rfl⟩;obtain ⟨L2,hL2⟩ : ∃ L2,(M.exch l).live=L2:=⟨_,rfl⟩;rw [hL1] at HLI HTV;rw [hL2] at HL2 HTV;obtain ⟨E,hE⟩ : ∃ E,M.exchE l=E:=⟨_,rfl⟩;have HE:=Lib.hid hE;rw [hE] at HTV;clear h hZ hf ho ht hb0 hu0 hw0 hL1 hL2 hE
 go_enter Tryz.func58,Tryz.ntmps58
 go_wp2_with fail;rw [HW0.out];go_wp2_with fail;refine HLI.out.mono ?_;rintro e w1 ⟨rfl,hu⟩;have HU1:=Lib.hid (And.intro (HB0.out.2.trans hu) ((hu.block _ (aak HB0.out.1) (by simp)).trans HB0.out.1));clear hu;go_wp2_with fail;refine (HEX.out w1 HU1.out.1).mono ?_;rintro e w2 hQ;obtain ⟨rfl,hm⟩:=hQ.ex;rw [HE.out]
 have hb2:w2.heap[w.heap.size]?=some (.cells #[.int .i64 0,.int .i64 0,.int .i64 0] 129 (0,0)):=by
  obtain ⟨q,h1,h2,h3⟩:=hm.ex;exact (h2.block _ (aak HU1.out.2) (fun hk=>by have:=HP.out _ hk;omega)).trans HU1.out.2
 have HM:=Lib.hid (And.intro hm hb2);clear hQ hm hb2 HEX HLI
 have hno:∀ (j:Nat) (n:Int),(#[Value.int .i64 0,Value.int .i64 0,Value.int .i64 0]:Array Value)[j]?≠some (.int .u64 n):=fun j n=>by rcases j with _ | _ | _ | j <;> simp
 have adE:Hid (∀ (v:Int × Int × Int) (x:World),Upd [] w2 x->M.tryV l=v->as4 m l M p Z w (.returned (.tuple #[.agg #[.int .i64 v.1,.int .i64 v.2.1,.int .i64 v.2.2],.int .i64 E])) (((x.setCell ⟨w.heap.size,0,none⟩ (.int .i64 v.1)).setCell ⟨w.heap.size,1,none⟩ (.int .i64 v.2.1)).setCell ⟨w.heap.size,2,none⟩ (.int .i64 v.2.2))):=fun v x u hv=>by
  have hbx:=(u.block _ (aak HM.out.2) (by simp)).trans HM.out.2;refine ⟨by rw [HE.out,hv];rfl,(((HM.out.1.pre HU1.out.1).post u).boxC hbx ((((Upd.refl _ _).setCell (p:=⟨w.heap.size,0,none⟩) (.inl (by simp)) _).setCell (p:=⟨w.heap.size,1,none⟩) (.inl (by simp)) _).setCell (p:=⟨w.heap.size,2,none⟩) (.inl (by simp)) _) (Nat.le_refl _) (by decide) (by decide) (by decide) hno)⟩
 clear hno
 by_cases h0:E=0
 ·subst h0
  have hne:((0:Int) != 0)=false:=rfl;go_wp2_with fail;refine (HL2.out w1 w2 HU1.out.1 HM.out.1).mono ?_;rintro e w3 ⟨rfl,hu⟩;have hb3:=(hu.block _ (aak HM.out.2) (by simp)).trans HM.out.2;obtain ⟨⟨s0,s1,s2,g0,g1,g2⟩,⟨s3,g3⟩,⟨s4,g4⟩,z0,z1,z2⟩:=ch3 hb3 (.int .i64 l) (.int .i64 L1) (.int .i64 L2);have HF:=Lib.hid (adE.out (l,(L1:Int),(L2:Int)) w3 hu (by rw [HTV.out];simp));clear hu hb3 adE HL2;go_wp2_with fail;refine bodyPost_ret (v:=.tuple #[.agg #[.int .i64 l,.int .i64 L1,.int .i64 L2],.int .i64 0]) (by simp [results,Tryz.results58,go_sem,z0,z1,z2]) rfl HF.out
 ·have hne:(E != 0)=true:=by simpa using h0
  obtain ⟨⟨s0,s1,s2,g0,g1,g2⟩,⟨s3,g3⟩,⟨s4,g4⟩,z0,z1,z2⟩:=ch3 HM.out.2 (.int .i64 0) (.int .i64 0) (.int .i64 0);have HF:=Lib.hid (adE.out (0,0,0) w2 (Upd.refl _ _) (by rw [HTV.out,if_neg h0]));clear adE HL2;go_wp2_with fail;refine bodyPost_ret (v:=.tuple #[.agg #[.int .i64 0,.int .i64 0,.int .i64 0],.int .i64 E]) (by simp [results,Tryz.results58,go_sem,z0,z1,z2]) rfl HF.out
theorem aie:∀ {cs:List (Int × Int × Int)} {i:Nat} {c:Int × Int × Int},cs[i]?=some c->(abY cs)[i*3]?=some (.int .i64 c.1)/\(abY cs)[i*3+1]?=some (.int .i64 c.2.1)/\(abY cs)[i*3+2]?=some (.int .i64 c.2.2)
 | [],_,_,h=>by simp at h
 | a::cs,0,c,h=>by simp at h;subst h;exact ⟨rfl,rfl,rfl⟩
 | a::cs,i+1,c,h=>by
  have h1:=aie (cs:=cs) (i:=i) (c:=c) (by simpa using h);have e:abY (a::cs)=[.int .i64 a.1,.int .i64 a.2.1,.int .i64 a.2.2]++abY cs:=rfl;rw [e]
  have key:∀ k,([Value.int .i64 a.1,.int .i64 a.2.1,.int .i64 a.2.2]++abY cs)[k+3]?=(abY cs)[k]?:=fun k=>by
   rw [List.getElem?_append_right (by simp)];simp
  rw [show (i+1)*3=i*3+3 by omega,show i*3+3+1=i*3+1+3 by omega,show i*3+3+2=i*3+2+3 by omega,key,key,key];exact h1
theorem alU (b1 b2:Nat) (v1 v2:Value) (cs:List (Int × Int × Int)) (w:World) (h1:w.ownsRow b1 46 3 v1 cs.length (abY cs)) (h2:w.ownsRow b2 129 3 v2 cs.length (abY cs)) (hl:cs.length<=1000) :
  Calls Tryz.prog 24 #[v1,v2] w fun e w'=>e=.returned (.bool true)/\Upd [] w w':=by
 obtain ⟨a1,c1,rfl,hg1⟩:=aar h1;obtain ⟨a2,c2,rfl,hg2⟩:=aar h2;have H1:=Lib.hid h1;have H2:=Lib.hid h2;obtain ⟨m,hm⟩ : ∃ m,cs.length=m:=⟨_,rfl⟩;have HM:=Lib.hid hm;rw [hm] at hl ⊢;clear h1 h2 hm
 go_enter Tryz.func24,Tryz.ntmps24
 go_wp2_with fail
 go_loopg [13] m (fun g s13 wr=>∃ i:Nat,m-i=g/\i<=m/\s13=.int .i64 i/\Upd [] w wr)
 case atStart=>exact ⟨0,by omega,by omega,rfl,Upd.refl _ _⟩
 case round =>
  obtain ⟨i,rfl,hi,rfl,hU⟩:=hrel
  by_cases hlt:i<m
  ·obtain ⟨g1,rfl⟩:=abg H1.out (by have:=HM.out;omega)
   obtain ⟨g2,rfl⟩:=abg H2.out (by have:=HM.out;omega)
   have hil:(i:Int)<(m:Int):=by omega
   obtain ⟨c,hc⟩ : ∃ c,cs[i]?=some c:=⟨_,List.getElem?_eq_getElem (by have:=HM.out;omega)⟩;obtain ⟨q0,q1,q2⟩:=aie hc
   have r1:=aag H1.out fun k hk=>hU.block k (H1.out.lt k hk).2 (by simp)
   have r2:=aag H2.out fun k hk=>hU.block k (H2.out.lt k hk).2 (by simp)
   have x0:=aam r1 q0;have x1:=aam r1 q1;have x2:=aam r1 q2;have y0:=aam r2 q0;have y1:=aam r2 q1;have y2:=aam r2 q2;obtain ⟨p0,p1,p2⟩:=c
   have n0:(p0 != p0)=false:=by simp
   have n1:(p1 != p1)=false:=by simp
   have n2:(p2 != p2)=false:=by simp
   have hp0:(0:Int)<=(i:Int):=by omega
   have HU:=Lib.hid hU;clear hU hc q0 q1 q2 r1 r2;go_wp2_with fail
   go_quiet (fail)
   go_wp2_with fail
   go_roundg (m-(i+1))
   case measure=>omega
   case rel=>exact ⟨i+1,rfl,by omega,by simp,HU.out.drewN _⟩
  ·obtain rfl:i=m:=by omega
   have hil:¬ ((i:Int)<(i:Int)):=by omega
   have HU:=Lib.hid hU;clear hU;go_wp2_with fail;go_ret;exact ⟨rfl,HU.out⟩
theorem abn.comp {m:Nat} {M2:MV} {p q:aaE} {Z:List Nat} {w w1 w2:World} (u1:Upd (p.all m) w w1) (s1:Sub (p.all m) w (q.all m)) (k:abn m q (Z++q.all m) M2 w1 w2):abn m p Z M2 w w2:=by
 obtain ⟨p2,h2,u2,s2⟩:=k.ex;refine ⟨p2,h2.apart (fun k hk=>.inl ?_) (fun k hk=>List.mem_append.2 (.inr hk)),u1.then u2 (fun k hk=>s1 k hk),fun k hk=>?_⟩
 ·rcases List.mem_append.1 hk with h | h
  ·exact List.mem_append.2 (.inl (List.mem_append.2 (.inl h)))
  ·exact List.mem_append.2 (.inr h)
 ·rcases s2 k hk with h | h
  ·exact s1 k h
  ·right;have:=u1.size;omega
theorem MV.undo_n (M:MV):M.undo.n=M.n/\M.undo.order.length=M.order.length/\M.undo.held=M.held:=⟨rfl,by show (aaT _ _).length=_;rw [ab4],rfl⟩
theorem MV.backN_n (M:MV):∀ j,(MV.backN j M).n=M.n/\(MV.backN j M).order.length=M.order.length/\(MV.backN j M).held=M.held
 | 0=>⟨rfl,rfl,rfl⟩
 | j+1=>by
  obtain ⟨h1,h2,h3⟩:=MV.backN_n M j;obtain ⟨g1,g2,g3⟩:=MV.undo_n (MV.backN j M);exact ⟨g1.trans h1,g2.trans h2,g3.trans h3⟩
theorem ano (m tr:Nat) (M:MV) (p:aaE) (Z:List Nat) (w:World) (h:aa8 w m M p Z) (hf:M.TrFit) (ho:M.order.length=M.n) (hn:M.n<=64) (ht:M.trail.length<=1000000) (htr:tr<=M.trail.length) :
  Calls Tryz.prog 128 #[.pointer (some ⟨m,0,none⟩),.int .i64 tr] w fun e w'=>e=.returned (.int .i64 (M.trail.length-tr:Nat))/\abn m p Z (MV.backN (M.trail.length-tr) M) w w':=by
 have H0:=Lib.hid (And.intro h (And.intro hf (And.intro ho (And.intro hn (And.intro ht htr)))));obtain ⟨n,hnn⟩ : ∃ n,M.trail.length=n:=⟨_,rfl⟩;have HN:=Lib.hid hnn;rw [hnn] at ht htr ⊢;obtain ⟨d,hd⟩ : ∃ d,n-tr=d:=⟨_,rfl⟩
 have HD:Hid (n=tr+d):=by show _=_;omega
 rw [hd];clear h hf ho hn hnn hd
 go_enter Tryz.func128,Tryz.ntmps128
 go_wp2_with fail
 go_loopg [5] d (fun g s5 wr=>∃ j:Nat,d-j=g/\j<=d/\s5=.int .i64 j/\abn m p Z (MV.backN j M) w wr/\(MV.backN j M).TrFit)
 case atStart=>exact ⟨0,by omega,by omega,rfl,abn.same H0.out.1 (Upd.refl _ _),H0.out.2.1⟩
 case round =>
  obtain ⟨j,rfl,hj,rfl,hE,hF⟩:=hrel;have hlen:=MV.backN_len M j;rw [HN.out] at hlen;obtain ⟨q,hq,hu,hs⟩:=hE.ex;obtain ⟨_,_,_,_,c4⟩:=hq.cells;obtain ⟨xa,xc,hxv,_⟩:=aar hq.ts;rw [hxv,hlen] at c4;have HE:=Lib.hid (And.intro hE hF)
  by_cases hlt:j<d
  ·obtain ⟨k,hk⟩ : ∃ k,n-j=k:=⟨_,rfl⟩
   have hkt:(tr:Int)<(k:Int):=by have:=HD.out;omega
   have HK:=Lib.hid hk
   have hne:(MV.backN j M).trail≠[]:=fun e=>by rw [e] at hlen;simp at hlen;have:=HD.out;omega
   obtain ⟨l1,_,l3⟩:=hF.last hne;obtain ⟨b1,b2,_⟩:=MV.backN_n M j
   have as5:(MV.backN j M).trail=(MV.backN j M).trail.dropLast++[(MV.backN j M).trail.getLastD 0]:=by
    rw [List.getLastD_eq_getLast?,List.getLast?_eq_some_getLast hne];exact (List.dropLast_concat_getLast hne).symm
   have HUN:=Lib.hid (aox m _ _ (MV.backN j M) q _ wr hq as5 (by rw [List.length_dropLast];omega) (by rw [b2,H0.out.2.2.1];omega) (by rw [b2,H0.out.2.2.1];exact H0.out.2.2.2.1));rw [hk] at c4;have HL3:=Lib.hid l3;have HQ:=Lib.hid (And.intro hq (And.intro hu hs));clear hE hF hq hu hs hxv hlen hne l1 l3 b1 b2 as5 hk;go_wp2_with fail;refine HUN.out.mono ?_;rintro e w2 ⟨rfl,hm⟩;have HM:Hid (abn m p Z (MV.backN (j+1) M) w w2):=abn.comp HQ.out.2.1 HQ.out.2.2 hm;clear hm HUN;go_wp2_with fail
   go_roundg (d-(j+1))
   case measure=>omega
   case rel=>exact ⟨j+1,rfl,by omega,by rw [IntWalk.wrap64_in _ (by have:=HD.out;omega)];simp,HM.out,HL3.out⟩
  ·obtain rfl:j=d:=by omega
   have hkt:¬ ((tr:Int)<((n-j:Nat):Int)):=by have:=HD.out;omega
   clear hE hF hq hu hs hxv hlen;obtain ⟨k,hk⟩ : ∃ k,n-j=k:=⟨_,rfl⟩;rw [hk] at c4 hkt;clear hk;go_wp2_with fail;go_ret;exact ⟨rfl,HE.out.1⟩
end Go.Proofs.YtdackeldhdchaaaGreat
