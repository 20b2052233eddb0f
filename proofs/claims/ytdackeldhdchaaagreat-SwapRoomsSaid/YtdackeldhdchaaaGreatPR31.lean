import Derived.Test.YtdackeldhdchaaaGreatPR28
import Derived.Test.YtdackeldhdchaaaGreatPR30
import Derived.Test.YtdackeldhdchaaaGreatPR25
import Derived.Test.YtdackeldhdchaaaGreatPR16
import Derived.WalkKit
import Derived.ProofKit
import Derived.OpenShut
import Derived.ShutString
import Derived.ChangeOld
import Derived.ChangeSlices
import Derived.Below
set_option maxRecDepth 100000
set_option maxHeartbeats 6400000
namespace Go.Proofs.YtdackeldhdchaaaGreat
open Go.RowKit Go.Maps Go.ChangeMaps Go.WideShapes
theorem AB (b1 b2:Nat) (v1 v2:Value) (l:List Nat) (w:World) (h1:w.ownsRow b1 3 1 v1 l.length (aK l)) (h2:w.ownsRow b2 3 1 v2 l.length (aK l)) (hl:l.length<=1048576) :
  Calls Tryz.prog 124 #[v1,v2] w fun e w'=>e=.returned (.bool true)/\af [] w w':=by
 obtain ⟨a1,c1,rfl,Uj⟩:=aC h1;obtain ⟨a2,c2,rfl,D9⟩:=aC h2;have H1:=Lib.hid h1;have H2:=Lib.hid h2;clear h1 h2
 go_enter Tryz.func124,Tryz.ntmps124
 go_wp2_with fail
 go_loopg [13] l.length (fun g s13 wr=>∃ i:Nat,l.length-i=g/\i<=l.length/\s13=.int .i64 i/\af [] w wr)
 case atStart=>exact ⟨0,by omega,by omega,rfl,af.refl _ _⟩
 case round =>
  obtain ⟨i,rfl,hi,rfl,hU⟩:=hrel
  by_cases aZ:i<l.length
  ·obtain ⟨g1,rfl⟩:=bY H1.out (by omega)
   obtain ⟨g2,rfl⟩:=bY H2.out (by omega)
   have fE:(i:Int)<(l.length:Int):=by omega
   have x1:=pV (ah H1.out fun k hk=>hU.block k (H1.out.lt k hk).2 (by simp)) aZ;have x2:=pV (ah H2.out fun k hk=>hU.block k (H2.out.lt k hk).2 (by simp)) aZ;generalize l.getD i 0=X at *;have HU:=Lib.hid hU;clear hU
   have Kw:(0:Int)<=(i:Int):=by omega
   go_wp2_with fail
   go_quiet (fail)
   go_wp2_with fail
   go_roundg (l.length-(i+1))
   case measure=>omega
   case rel=>exact ⟨i+1,rfl,by omega,by simp,HU.out.drewN _⟩
  ·obtain rfl:i=l.length:=by omega
   have fE:¬ ((l.length:Int)<(l.length:Int)):=by omega
   have HU:=Lib.hid hU;clear hU;go_wp2_with fail;go_ret;exact ⟨rfl,HU.out⟩
theorem AL (n0 a b m:Nat) (rv tv:Value) (K:KV) (F:List Nat) (M:MV) (p:aQ) (refs:List Nat) (tabs:List TV) (w:World) (h:ug w n0 a b m rv tv K F M p refs tabs) (l:ni K M refs tabs) :
  Calls Tryz.prog 56 #[.pointer (some ⟨a,0,none⟩)] w fun e w'=>e=.returned (.bool true)/\af [] w w':=by
 have Ve:K.vars<=8:=by rw [<- l.km.agr.same.n];exact l.km.fit.n6
 have Vf:M.n=K.vars:=l.km.agr.same.n;obtain ⟨oa,oc,jK,_⟩:=aC h.mem.mod.os;obtain ⟨ya,yc,SS,_⟩:=h.mem.mod.hs.form;obtain ⟨c0m,_,c2m,c3m,_⟩:=h.mem.mod.cells;rw [jK] at c2m;rw [SS] at c3m;have lY:=h.mem.mod.os;rw [jK] at lY;obtain ⟨ra,rc,rfl,_⟩:=aC h.mem.rr;obtain ⟨xa,xc,rfl,U8⟩:=h.mem.tt.form;have HL:=Lib.hid h;have Iy:=Lib.hid l;have zC:=l.km.fit.ol;have hhl:=l.km.fit.hl
 have HZ:Hid (∀ x:World,af [] w x->∀ k,k∈F++p.all m->k<x.heap.size):=fun x u k hk=>Nat.lt_of_lt_of_le (h.mem.z k hk) u.size
 have X3:Hid (∀ v,v<M.n->v∈M.order):=fun v hv=>by
  obtain ⟨x1,_,x3⟩:=l.km.lvl h.mem.ker.ok hv;exact List.mem_of_getElem? x3
 have Qi:Hid (∀ x:World,af [] w x->Calls Tryz.prog 48 #[.pointer (some ⟨b,0,none⟩)] x fun e w'=>∃ (g cap:Nat),e=.returned (.slice (some ⟨g,0,none⟩) M.order.length cap)/\w'.ownsRow x.heap.size 3 1 (.slice (some ⟨g,0,none⟩) M.order.length cap) M.order.length (aK M.order)/\af [] x w'):=fun x u=>by
  have:=xN b K F x (h.mem.ker.upd u (by simp))
  rw [<- l.km.agr.same.od] at this;exact this
 have NS:Hid (∀ x:World,af [] w x->x.ownsRow 0 3 1 (.slice oa M.order.length oc) M.order.length (aK M.order)):=fun x u=>ah lY fun k hk=>u.block k (lY.lt k hk).2 (by simp)
 have Gm:Hid (∀ x:World,af [] w x->Calls Tryz.prog 33 #[.pointer (some ⟨b,0,none⟩)] x fun e w'=>∃ (a:Option Addr) (c:Nat),e=.returned (.slice a M.held.length c)/\af [] x w'):=fun x u=>by
  refine (Ku b K F x (h.mem.ker.upd u (by simp))).mono ?_;rintro e w' ⟨v,rfl,hr,hu⟩;obtain ⟨a,c,rfl,_⟩:=aC hr;rw [l.km.agr.roots_len h.mem.ker.ok h.mem.ker.uni (by omega)];exact ⟨a,c,rfl,hu⟩
 have sS:=l.km.agr.used h.mem.ker.ok h.mem.ker.uni (by omega)
 have PO:Hid (∀ x:World,af [] w x->Calls Tryz.prog 31 #[.pointer (some ⟨b,0,none⟩)] x fun e w'=>e=.returned (.int .i64 (M.live:Nat))/\w'=x):=fun x u=>by
  have:=zX b K F x (h.mem.ker.upd u (by simp));rw [sS] at this;unfold MV.live;rw [show ((M.lev.flatten.length:Nat):Int)=(((M.lev.flatten.length+2:Nat):Int)-2) by omega];exact this
 have HML:Hid (∀ x:World,af [] w x->Calls Tryz.prog 125 #[.pointer (some ⟨m,0,none⟩)] x fun e w'=>e=.returned (.int .i64 (M.live:Nat))/\af [] x w'):=fun x u =>
  EZ m M p _ x (h.mem.mod.keep0 u) (HZ.out x u) l.km.fit
 have XW:Hid (∀ (x:World) (v:Nat),af [] w x->v<M.n->Calls Tryz.prog 126 #[.pointer (some ⟨b,0,none⟩),.int .i64 v] x fun e w'=>e=.returned (.tuple #[.int .i64 (M.wid v),.int .i64 0])/\af [] x w'):=fun x v u hv =>
  Dl b v K F M x (h.mem.ker.upd u (by simp)) l.km hv
 have HWM:Hid (∀ (x:World) (v:Nat),af [] w x->v<M.n->Calls Tryz.prog 127 #[.pointer (some ⟨m,0,none⟩),.int .i64 v] x fun e w'=>e=.returned (.int .i64 (M.wid v))/\af [] x w'):=fun x v u hv =>
  Dj m v M p _ x (h.mem.mod.keep0 u) (HZ.out x u) l.km.fit (X3.out v hv)
 have sU:Hid (∀ z (r:Nat) (t:TV),af [] w z->Names K r t->t.Ok->t.n=K.vars->Calls Tryz.prog 121 #[.pointer (some ⟨b,0,none⟩),.int .i64 K.vars,.int .u32 r] z fun e w'=>FZ t z e w'):=fun z r t u hn ht nH=>by
  have e:K.tab r=t:=h.mem.ker.ok.tab_eq (by omega) hn.1 ht nH hn.2;rw [<- e];exact nX b r K F z (h.mem.ker.upd u (by simp)) hn.1 Ve
 have uK:Hid (∀ (z:World) (Z1 Z2:List Nat) (c1 c2:Value) (t1 t2:TV),fO z Z1 c1 t1->fO z Z2 c2 t2->Calls Tryz.prog 122 #[bK t1 c1,bK t2 c2] z fun e w'=>e=.returned (.bool (decide (t1=t2)))/\af [] z w'):=fun z Z1 Z2 c1 c2 t1 t2 h1 h2 =>
  iE [z.heap.size] c1 c2 t1 t2 z h1.any h2.any
 have HC:Hid (∀ z,af [] w z->(z.cell? ⟨a,0,none⟩=some (.pointer (some ⟨b,0,none⟩))/\z.cell? ⟨a,1,none⟩=some (.pointer (some ⟨m,0,none⟩))/\z.cell? ⟨a,2,none⟩=some (.slice ra refs.length rc)/\z.cell? ⟨a,3,none⟩=some (.slice xa tabs.length xc))/\z.cell? ⟨m,0,none⟩=some (.int .i64 K.vars)/\z.cell? ⟨m,2,none⟩=some (.slice oa M.order.length oc)/\z.cell? ⟨m,3,none⟩=some (.slice ya M.held.length yc)):=fun z u=>by
  obtain ⟨c0,c1,c2,c3⟩:=h.cells;rw [Vf] at c0m;exact ⟨⟨u.cell0 c0,u.cell0 c1,u.cell0 c2,u.cell0 c3⟩,u.cell0 c0m,u.cell0 c2m,u.cell0 c3m⟩
 obtain ⟨kv,zM⟩ : ∃ kv,K.vars=kv:=⟨_,rfl⟩;have Ey:=Lib.hid zM;rw [Vf,zM] at XW HWM;rw [zM] at sU HC Ve;obtain ⟨TL,Jw⟩ : ∃ TL,tabs.length=TL:=⟨_,rfl⟩
 have oP:refs.length=TL:=by rw [l.lr,Jw]
 have Xp:TL<=40:=by have h2:=l.rb;omega
 have Ui:=Lib.hid (And.intro Jw oP);rw [Jw,oP] at HC;clear h l jK SS lY sS c0m c2m c3m Vf zM X3 Jw oP;obtain ⟨⟨x0,x1,x2,x3⟩,x4,x5,x6⟩:=HC.out w (af.refl _ _)
 go_enter Tryz.func56,Tryz.ntmps56
 go_wp2_with fail
 go_region_held3 (fun x=>(x.cell? ⟨a,0,none⟩=some (.pointer (some ⟨b,0,none⟩))/\x.cell? ⟨a,1,none⟩=some (.pointer (some ⟨m,0,none⟩))/\x.cell? ⟨a,2,none⟩=some (.slice ra TL rc)/\x.cell? ⟨a,3,none⟩=some (.slice xa TL xc))/\x.cell? ⟨m,0,none⟩=some (.int .i64 kv)/\x.cell? ⟨m,2,none⟩=some (.slice oa M.order.length oc)/\x.cell? ⟨m,3,none⟩=some (.slice ya M.held.length yc)) (first | exact HC.out _ (af.refl _ _).drew | exact HC.out _ Oh.out.2 | exact HC.out _ Q5.out | exact HC.out _ Zl.out | exact HC.out _ HO4.out) (first
  | (go_at_call 48;refine (Qi.out _ (af.refl [] w).drew).mono ?_;rintro e w1 ⟨g,cap,rfl,ho,hu⟩;have Oh:=Lib.hid (And.intro ho ((af.refl [] w).drew.trans hu));clear ho hu)
  | (go_at_call 124;refine (AB _ 0 _ _ M.order _ Oh.out.1 (NS.out _ Oh.out.2) (by omega)).mono ?_;rintro e w2 ⟨rfl,hu⟩;have Q5:=Lib.hid (Oh.out.2.trans hu);clear hu)
  | (go_at_call 31;refine (PO.out _ Q5.out).mono ?_;rintro e w3 ⟨rfl,rfl⟩)
  | (go_at_call 125;refine (HML.out _ Q5.out).mono ?_;rintro e w4 ⟨rfl,hu⟩;have Zl:=Lib.hid (Q5.out.trans hu);clear hu)
  | (go_at_call 33;refine (Gm.out _ Zl.out).mono ?_;rintro e w5 ⟨ga,gc,rfl,hu⟩;have HO4:=Lib.hid (Zl.out.trans hu);clear hu))
 have S9:=Lib.hid HO4.out;clear Oh Q5 Zl HO4 Qi NS Gm PO HML x0 x1 x2 x3 x4 x5 x6;generalize w5=wX at *;obtain ⟨⟨x0,x1,x2,x3⟩,x4,x5,x6⟩:=HC.out wX S9.out;go_wp2_with fail
 go_loopg [61] kv (fun g s61 wr=>∃ i:Nat,kv-i=g/\i<=kv/\s61=.int .i64 i/\af [] wX wr)
 case atStart=>exact ⟨0,by omega,by omega,rfl,af.refl _ _⟩
 case round =>
  obtain ⟨i,rfl,hi,rfl,hU⟩:=hrel;have HU:=Lib.hid (S9.out.trans hU);have HUR:=Lib.hid hU;obtain ⟨⟨y0,y1,y2,y3⟩,y4,_,_⟩:=HC.out wr HU.out;clear hU x0 x1 x2 x3 x4 x5 x6
  by_cases aZ:i<kv
  ·have fE:(i:Int)<(kv:Int):=by omega
   go_wp2_with fail;refine (XW.out wr i HU.out aZ).mono ?_;rintro e w7 ⟨rfl,hu⟩;have Qc:=Lib.hid (And.intro (HU.out.trans hu) (HUR.out.trans hu));obtain ⟨⟨y0,y1,y2,y3⟩,y4,_,_⟩:=HC.out w7 Qc.out.1;clear hu;go_wp2_with fail;refine (HWM.out w7 i Qc.out.1 aZ).mono ?_;rintro e w8 ⟨rfl,hu⟩;have NY:=Lib.hid (Qc.out.2.trans hu);clear hu;go_wp2_with fail
   go_roundg (kv-(i+1))
   case measure=>omega
   case rel=>exact ⟨i+1,rfl,by omega,by simp,NY.out⟩
  ·obtain rfl:i=kv:=by omega
   have fE:¬ ((i:Int)<(i:Int)):=by omega
   go_wp2_with fail;generalize wr=wY at *
   go_loopg [91] TL (fun g s91 wr=>∃ j:Nat,TL-j=g/\j<=TL/\s91=.int .i64 j/\af [] wY wr)
   case atStart=>exact ⟨0,by omega,by omega,rfl,af.refl _ _⟩
   case round =>
    obtain ⟨j,rfl,hj,rfl,hU⟩:=hrel;have dR:=Lib.hid (HU.out.trans hU);have acg:=Lib.hid hU;clear hU y0 y1 y2 y3 y4;generalize wr=w0 at *;obtain ⟨⟨y0,y1,y2,y3⟩,y4,_,_⟩:=HC.out w0 dR.out
    by_cases hjt:j<TL
    ·have JA:(j:Int)<(TL:Int):=by omega
     have hj0:(0:Int)<=(j:Int):=by omega
     obtain ⟨t,ht⟩ : ∃ t,tabs[j]?=some t:=⟨_,List.getElem?_eq_getElem (by have h:=Ui.out.1;omega)⟩;obtain ⟨r,hr⟩ : ∃ r,refs[j]?=some r:=⟨_,List.getElem?_eq_getElem (by have h:=Ui.out.2;omega)⟩;have LU:=Iy.out.nm j r t hr ht;have Fh:=Iy.out.ok t (List.mem_of_getElem? ht);have yl:=HL.out.keep0 dR.out;obtain ⟨gt,rfl⟩:=U8 (by have h:=Ui.out.1;omega);obtain ⟨cu,z1,z2,lQ⟩:=yl.mem.tt.at_ ht;obtain ⟨ta,tc,rfl,_⟩:=fP lQ.row;obtain ⟨gr,rfl⟩:=bY yl.mem.rr (by have h:=Ui.out.2;omega);have z0:=ax yl.mem.rr (pY hr);obtain ⟨n,E5⟩ : ∃ n,t.n=n:=⟨_,rfl⟩;obtain ⟨W,hW⟩ : ∃ W,t.ws.length=W:=⟨_,rfl⟩;rw [E5] at z1;rw [hW] at z2;have HN:=Lib.hid E5;have E8:=Lib.hid hW
     have htw:W<=1024:=by rw [<- hW];exact Fh.1.len_le
     have jr:=HL.out.mem.ker.ok.ref_lt LU.1
     have HHD:Hid (∀ x:World,af [] w x->Calls Tryz.prog 74 #[.pointer (some ⟨b,0,none⟩),.int .u32 r] x fun e w'=>e=.returned (.int .i64 (K.hold r))/\w'=x):=fun x u=>OQ b r K F x (HL.out.mem.ker.upd u (by simp)) (by omega)
     have Ec:=Lib.hid (And.intro lQ (And.intro Fh LU))
     have HHO:Hid (∀ x:World,af [] w0 x->Calls Tryz.prog 118 #[.pointer (some ⟨m,0,none⟩),.agg #[.int .i64 n,.slice ta W tc]] x fun e w'=>e=.returned (.int .i64 (K.hold r))/\af [] x w'):=fun x u=>by
      have h1:=uZ m M p (F++p.all m) (.slice ta t.ws.length tc) t x (HL.out.mem.mod.keep0 (dR.out.trans u)) (Ec.out.1.keep0 u) (by omega);rw [Iy.out.km.agr.holds HL.out.mem.ker.ok HL.out.mem.ker.uni Fh.1 Fh.2 LU] at h1;unfold bK at h1;rw [HN.out,E8.out] at h1;exact h1
     have sU:Hid (∀ z,af [] w z->Calls Tryz.prog 121 #[.pointer (some ⟨b,0,none⟩),.int .i64 i,.int .u32 r] z fun e w'=>FZ t z e w'):=fun z u=>sU.out z r t u LU Fh.1 (Fh.2.trans Ey.out)
     have iZ:Hid (∀ z,af [] w0 z->z.cell? ⟨a,0,none⟩=some (.pointer (some ⟨b,0,none⟩))/\z.cell? ⟨a,1,none⟩=some (.pointer (some ⟨m,0,none⟩))/\z.cell? ⟨m,0,none⟩=some (.int .i64 i)):=fun z u=>by
      obtain ⟨⟨c0,c1,_⟩,c4,_⟩:=HC.out z (dR.out.trans u);exact ⟨c0,c1,c4⟩
     have LY:Hid (∀ z,af [] w0 z->(z.cell? ⟨a,0,none⟩=some (.pointer (some ⟨b,0,none⟩))/\z.cell? ⟨a,1,none⟩=some (.pointer (some ⟨m,0,none⟩))/\z.cell? ⟨a,3,none⟩=some (.slice (some ⟨gt,0,none⟩) TL xc))/\z.cell? ⟨gt,j*2,none⟩=some (.int .i64 n)/\z.cell? ⟨gt,j*2+1,none⟩=some (.slice ta W tc)):=fun z u=>by
      obtain ⟨⟨c0,c1,_,c3⟩,c4,_⟩:=HC.out z (dR.out.trans u);exact ⟨⟨c0,c1,c3⟩,u.cell0 z1,u.cell0 z2⟩
     have ahI:=Ve;clear yl lQ ht hr E5 hW z1 z2 Fh LU jr;go_upto_region 13 with fail
     go_cut [8,9] from 96 to 111 (fun s8 s9 wc=>nZ n W t w0 s8 s9 wc)
     case first =>
      refine fD (fun z=>z.cell? ⟨a,0,none⟩=some (.pointer (some ⟨b,0,none⟩))/\z.cell? ⟨a,1,none⟩=some (.pointer (some ⟨m,0,none⟩))/\z.cell? ⟨m,0,none⟩=some (.int .i64 i)) (fun _=>True) [] (by kernel_rfl) ?_;have hS:=iZ.out _ (af.refl _ _).drew;have hE:True:=trivial;refine fZ 0 rfl hS (fun _=>hE) ?_;refine fZ 1 rfl hS (fun _=>hE) ?_;refine fZ 2 rfl hS (fun _=>hE) ?_;refine fZ 3 rfl hS (fun _=>hE) ?_;refine fZ 4 rfl hS (fun _=>hE) ?_;refine fZ 5 rfl hS (fun _=>hE) ?_;refine fZ 6 rfl hS (fun _=>hE) ?_;refine fZ 7 rfl hS (fun _=>hE) ?_;refine fZ 8 rfl hS (fun _=>hE) ?_;refine fZ 9 rfl hS (fun _=>hE) ?_;refine fZ 10 rfl hS (fun _=>hE) ?_;refine fZ 11 rfl hS (fun _=>hE) ?_;refine aG (rs:=[12,16]) (by kernel_rfl) (by simp) ?_;refine ai.cons rfl (fun Kx hK=>?_) ?_
      ·
       go_simp
       refine (sU.out _ (dR.out.trans (af.refl [] w0).drew)).mono ?_;rintro e w1 LX;obtain ⟨c1,rfl,Aq,hu⟩:=LX.ex;obtain ⟨ga,gc,rfl,_⟩:=fP Aq.row;have iH:Hid (af [] w0 w1):=af.trans (af.refl [] w0).drew hu;unfold bK;rw [E8.out] at Aq ⊢;rw [HN.out];have qE:=Lib.hid Aq;clear LX hu Aq;go_wp2_with fail;refine hK.out _ _ ⟨iZ.out _ iH.out,fun _=>trivial⟩ (fun hHeld=>?_);clear hK Kx;obtain ⟨hS,hE⟩:=hHeld;have hE:=hE (by kernel_rfl)
       (try simp only [Act.put,List.setIfInBounds_toArray,List.set_cons_zero,List.set_cons_succ])
       refine fZ 13 rfl hS (fun _=>hE) ?_;refine fZ 14 rfl hS (fun _=>hE) ?_;refine fZ 15 rfl hS (fun _=>hE) ?_;refine aG (rs:=[16]) (by kernel_rfl) (by simp) ?_;refine ai.cons rfl (fun Kx hK=>?_) ?_
       rotate_left
       exact ai.nil
       go_simp
       refine hK.out _ _ ⟨iZ.out _ (iH.out.alloc _),fun _=>trivial⟩ (fun hHeld=>?_);clear hK Kx;obtain ⟨hS,hE⟩:=hHeld;have hE:=hE (by kernel_rfl)
       (try simp only [Act.put,List.setIfInBounds_toArray,List.set_cons_zero,List.set_cons_succ])
       refine aG (rs:=[17]) (by kernel_rfl) (by simp) ?_;refine ai.cons rfl (fun Kx hK=>?_) ?_
       rotate_left
       exact ai.nil
       go_simp
       refine hK.out _ _ ⟨iZ.out _ (iH.out.alloc _),fun _=>trivial⟩ (fun hHeld=>?_);clear hK Kx;obtain ⟨hS,hE⟩:=hHeld;have hE:=hE (by kernel_rfl)
       (try simp only [Act.put,List.setIfInBounds_toArray,List.set_cons_zero,List.set_cons_succ])
       refine fZ 18 rfl hS (fun _=>hE) ?_;refine dJ (by kernel_rfl) ?_ _;clear hS hE
       (try go_simp)
       go_wp2_with fail;go_meet;exact nZ.of1 qE.out iH.out
      refine ai.cons rfl (fun Kx hK=>?_) ?_
      rotate_left
      exact ai.nil
      go_simp
      refine hK.out _ _ ⟨iZ.out _ ((af.refl [] w0).drew.alloc _),fun _=>trivial⟩ (fun hHeld=>?_);clear hK Kx;obtain ⟨hS,hE⟩:=hHeld;have hE:=hE (by kernel_rfl)
      (try simp only [Act.put,List.setIfInBounds_toArray,List.set_cons_zero,List.set_cons_succ])
      refine aG (rs:=[12]) (by kernel_rfl) (by simp) ?_;refine ai.cons rfl (fun Kx hK=>?_) ?_
      rotate_left
      exact ai.nil
      go_simp
      refine (sU.out _ (dR.out.trans ((af.refl [] w0).drew.alloc (.cells #[.int .i64 0,.slice none 0 0] 121 (0,0))))).mono ?_;rintro e w1 LX;obtain ⟨c1,rfl,Aq,hu⟩:=LX.ex;obtain ⟨ga,gc,rfl,_⟩:=fP Aq.row;have iH:Hid (af [] w0 w1):=af.trans ((af.refl [] w0).drew.alloc (.cells #[.int .i64 0,.slice none 0 0] 121 (0,0))) hu;unfold bK;rw [E8.out] at Aq ⊢;rw [HN.out];have qE:=Lib.hid Aq;have bf:=(hu.block w0.heap.size (by rw [World.size_alloc];show w0.heap.size<w0.heap.size+1;omega) (by simp)).trans (heap_alloc_new w0.drew (.cells #[.int .i64 0,.slice none 0 0] 121 (0,0)));have y0:=ae (j:=0) bf rfl;have y1:=ae (j:=1) bf rfl;have g0:=ak 0 bf;have g1:=ak 1 bf;have oz:=Lib.hid bf;clear LX hu Aq bf;go_wp2_with fail;refine hK.out _ _ ⟨iZ.out _ iH.out,fun _=>trivial⟩ (fun hHeld=>?_);clear hK Kx;obtain ⟨hS,hE⟩:=hHeld;have hE:=hE (by kernel_rfl)
      (try simp only [Act.put,List.setIfInBounds_toArray,List.set_cons_zero,List.set_cons_succ])
      refine fZ 13 rfl hS (fun _=>hE) ?_;refine fZ 14 rfl hS (fun _=>hE) ?_;refine fZ 15 rfl hS (fun _=>hE) ?_;refine aG (rs:=[17]) (by kernel_rfl) (by simp) ?_;refine ai.cons rfl (fun Kx hK=>?_) ?_
      rotate_left
      exact ai.nil
      go_simp
      refine hK.out _ _ ⟨iZ.out _ ((iH.out.setCell (p:=⟨w0.heap.size,0,none⟩) (.inr (Nat.le_refl _)) _).setCell (p:=⟨w0.heap.size,1,none⟩) (.inr (Nat.le_refl _)) _),fun _=>trivial⟩ (fun hHeld=>?_);clear hK Kx;obtain ⟨hS,hE⟩:=hHeld;have hE:=hE (by kernel_rfl)
      (try simp only [Act.put,List.setIfInBounds_toArray,List.set_cons_zero,List.set_cons_succ])
      refine fZ 18 rfl hS (fun _=>hE) ?_;refine dJ (by kernel_rfl) ?_ _;clear hS hE
      (try go_simp)
      go_wp2_with fail;go_meet;exact nZ.of2 oz.out qE.out iH.out
     case rest =>
      obtain ⟨B,ga,gc,rfl,rfl,TU,Xo,fF⟩:=hcut.ex;have Jm:=Lib.hid fF
      have Ew:Hid (∀ z,af [] wc z->Calls Tryz.prog 122 #[.agg #[.int .i64 n,.slice ga W gc],.agg #[.int .i64 n,.slice ta W tc]] z fun e w'=>e=.returned (.bool true)/\af [] z w'):=fun z uz=>by
       have h1:=uK.out z _ _ _ _ t t (Xo.keep0 uz) (Ec.out.1.keep0 (fF.trans uz));unfold bK at h1;rw [E8.out,HN.out,show decide (t=t)=true by simp] at h1;exact h1
      have oz:Hid (∀ z,af [] wc z->(z.cell? ⟨B,0,none⟩=some (.int .i64 n)/\z.cell? ⟨B,1,none⟩=some (.slice ga W gc))/\(z.cell? ⟨a,0,none⟩=some (.pointer (some ⟨b,0,none⟩))/\z.cell? ⟨a,1,none⟩=some (.pointer (some ⟨m,0,none⟩))/\z.cell? ⟨a,3,none⟩=some (.slice (some ⟨gt,0,none⟩) TL xc))/\z.cell? ⟨gt,j*2,none⟩=some (.int .i64 n)/\z.cell? ⟨gt,j*2+1,none⟩=some (.slice ta W tc)):=fun z uz =>
       ⟨⟨uz.cell0 (ae TU rfl),uz.cell0 (ae TU rfl)⟩,LY.out z (fF.trans uz)⟩
      generalize K.hold r=kh at *;clear hcut TU Xo fF sU iZ y0 y1 y2 y3 y4;go_wp2_with fail
      go_region_held3 (fun z=>(z.cell? ⟨B,0,none⟩=some (.int .i64 n)/\z.cell? ⟨B,1,none⟩=some (.slice ga W gc))/\(z.cell? ⟨a,0,none⟩=some (.pointer (some ⟨b,0,none⟩))/\z.cell? ⟨a,1,none⟩=some (.pointer (some ⟨m,0,none⟩))/\z.cell? ⟨a,3,none⟩=some (.slice (some ⟨gt,0,none⟩) TL xc))/\z.cell? ⟨gt,j*2,none⟩=some (.int .i64 n)/\z.cell? ⟨gt,j*2+1,none⟩=some (.slice ta W tc)) (first | exact oz.out _ (af.refl _ _).drew | exact oz.out _ Oh.out | exact oz.out _ Q5.out) (first
       | (go_at_call 122;refine (Ew.out _ (af.refl _ _).drew).mono ?_;rintro e w8 ⟨rfl,hu⟩;have Oh:=Lib.hid ((af.refl [] wc).drew.trans hu);clear hu)
       | (go_at_call 74;refine (HHD.out _ (dR.out.trans (Jm.out.trans Oh.out))).mono ?_;rintro e w9 ⟨rfl,rfl⟩)
       | (go_at_call 118;refine (HHO.out _ (Jm.out.trans Oh.out)).mono ?_;rintro e w10 ⟨rfl,hu⟩;have Q5:=Lib.hid (Oh.out.trans hu);clear hu))
      go_wp2_with fail
      go_roundg (TL-(j+1))
      case measure=>omega
      case rel=>exact ⟨j+1,rfl,by omega,by simp,acg.out.trans (Jm.out.trans Q5.out)⟩
    ·obtain rfl:j=TL:=by omega
     have JA:¬ ((j:Int)<(j:Int)):=by omega
     go_wp2_with fail;go_ret;exact ⟨rfl,dR.out⟩
def MV.roomV (M:MV) (l:Int):Int × Int × Int:=if l<0\/(M.n:Int)-2<l then (0,0,1) else ((M.U l.toNat:Nat),(M.c:Int)-2,0)
theorem Nh (b:Nat) (l:Int) (K:KV) (F:List Nat) (M:MV) (w:World) (h:bu w b K F) (hm:KM K M) :
  Calls Tryz.prog 20 #[.pointer (some ⟨b,0,none⟩),.int .i64 l] w fun e w'=>e=.returned (.tuple #[.int .i64 (M.roomV l).1,.int .i64 (M.roomV l).2.1,.int .i64 (M.roomV l).2.2])/\af [] w w':=by
 have hn:=hm.agr.same.n
 by_cases hr:l<0\/(M.n:Int)-2<l
 ·have hR:M.roomV l=(0,0,1):=if_pos hr
  rw [hR];have kC:=heap_alloc_new w (.cells #[.pointer (some ⟨b,0,none⟩)] 40 (0,0));have jY:af [] w (w.alloc (.cells #[.pointer (some ⟨b,0,none⟩)] 40 (0,0))):=(af.refl _ _).alloc _;obtain ⟨w0,kP⟩ : ∃ w0,w.alloc (.cells #[.pointer (some ⟨b,0,none⟩)] 40 (0,0))=w0:=⟨_,rfl⟩;rw [kP] at kC jY;have yL:=Lib.hid kP;have dR:=Lib.hid jY;have c0:w0.cell? ⟨w.heap.size,0,none⟩=some (.pointer (some ⟨b,0,none⟩)):=ae kC rfl;have XR:=Lib.hid (OO b K F w0 (h.upd jY (by simp)));have jK:=h.ok.wf.vs;rw [hn] at hr;obtain ⟨kv,zM⟩ : ∃ kv,K.vars=kv:=⟨_,rfl⟩;rw [zM] at XR hr jK;obtain ⟨_,jK⟩:=jK;have Vl:IntKind.i64.wrap ((kv:Int)-2)=(kv:Int)-2:=IntWalk.i64_in _ (by omega);clear h hm hn kC jY kP zM hR
  by_cases h0:l<0
  ·have hd:decide (l<0)=true:=by simpa using h0
   clear hr
   go_enter Tryz.func20,Tryz.ntmps20
   go_wp2_with fail;rw [yL.out];go_wp2_with fail;refine bodyPost_ret (v:=.tuple #[.int .i64 0,.int .i64 0,.int .i64 1]) (by simp [results,Tryz.results20,go_sem]) rfl ⟨rfl,dR.out⟩
  ·have h1:(kv:Int)-2<l:=by omega
   have hd:decide (l<0)=false:=by simpa using h0
   have sZ:decide ((kv:Int)-2<l)=true:=by simpa using h1
   clear hr
   go_enter Tryz.func20,Tryz.ntmps20
   go_wp2_with fail;rw [yL.out];go_wp2_with fail;refine XR.out.mono ?_;rintro e w1 ⟨rfl,rfl⟩;go_wp2_with fail;refine bodyPost_ret (v:=.tuple #[.int .i64 0,.int .i64 0,.int .i64 1]) (by simp [results,Tryz.results20,go_sem]) rfl ⟨rfl,dR.out⟩
 ·have hR:M.roomV l=(((M.U l.toNat:Nat):Int),(M.c:Int)-2,0):=if_neg hr
  rw [hR]
  have hl:((l.toNat:Nat):Int)=l:=by omega
  have h1:=Gx b l.toNat K F M w h hm (by omega);rw [hl] at h1;exact h1
theorem IW (m:Nat) (l:Int) (M:MV) (p:aQ) (Z:List Nat) (w:World) (h:bZ w m M p Z) (hn:M.n<=64) :
  Calls Tryz.prog 63 #[.pointer (some ⟨m,0,none⟩),.int .i64 l] w fun e w'=>e=.returned (.bool (!decide (l<0\/(M.n:Int)-2<l)))/\w'=w:=by
 obtain ⟨c0,_⟩:=h.cells;obtain ⟨n,E5⟩ : ∃ n,M.n=n:=⟨_,rfl⟩;rw [E5] at c0 hn ⊢;have Vl:IntKind.i64.wrap ((n:Int)-2)=(n:Int)-2:=IntWalk.i64_in _ (by omega);clear h E5
 by_cases h0:l<0
 ·have hd:decide ((0:Int)<=l)=false:=by simp;omega
  rw [show (!decide (l<0\/(n:Int)-2<l))=false by simp [h0]]
  go_enter Tryz.func63,Tryz.ntmps63
  go_wp2_with fail;go_ret;exact ⟨rfl,rfl⟩
 ·have hd:decide ((0:Int)<=l)=true:=by simp;omega
  by_cases h1:(n:Int)-2<l
  ·have sZ:decide (l<=(n:Int)-2)=false:=by simp;omega
   have qF:¬ (l<=(n:Int)-2):=by omega
   rw [show (!decide (l<0\/(n:Int)-2<l))=false by simp [h1]]
   go_enter Tryz.func63,Tryz.ntmps63
   go_wp2_with fail;go_ret;exact ⟨rfl,rfl⟩
  ·have sZ:decide (l<=(n:Int)-2)=true:=by simp;omega
   have qF:l<=(n:Int)-2:=by omega
   rw [show (!decide (l<0\/(n:Int)-2<l))=true by simp;omega]
   go_enter Tryz.func63,Tryz.ntmps63
   go_wp2_with fail;go_ret;exact ⟨rfl,rfl⟩
theorem AO (m:Nat) (l:Int) (M:MV) (p:aQ) (Z:List Nat) (w:World) (h:bZ w m M p Z) (hZ:∀ k,k∈Z->k<w.heap.size) (hf:M.Fit) (zC:M.order.length=M.n) :
  Calls Tryz.prog 17 #[.pointer (some ⟨m,0,none⟩),.int .i64 l] w fun e w'=>e=.returned (.tuple #[.int .i64 (M.roomV l).1,.int .i64 (M.roomV l).2.1,.int .i64 (M.roomV l).2.2])/\af [] w w':=by
 have ui:=Lib.hid (IW m l M p Z w h (by have:=hf.n6;omega));have NR:=hf.cb
 by_cases hr:l<0\/(M.n:Int)-2<l
 ·have hR:M.roomV l=(0,0,1):=if_pos hr
  rw [hR];rw [decide_eq_true hr] at ui;clear h hr hR
  go_enter Tryz.func17,Tryz.ntmps17
  go_wp2_with fail;refine ui.out.mono ?_;rintro e w1 ⟨rfl,rfl⟩;go_wp2_with fail;refine bodyPost_ret (v:=.tuple #[.int .i64 0,.int .i64 0,.int .i64 1]) (by simp [results,Tryz.results17,go_sem]) rfl ⟨rfl,af.refl _ _⟩
 ·have hR:M.roomV l=(((M.U l.toNat:Nat):Int),(M.c:Int)-2,0):=if_neg hr
  rw [hR];rw [decide_eq_false hr] at ui
  have hl:((l.toNat:Nat):Int)=l:=by omega
  have HUS:=Lib.hid (fun z (u:af [] w z)=>JZ m M p Z l.toNat z (h.keep0 u) (fun k hk=>Nat.lt_of_lt_of_le (hZ k hk) u.size) hf (by omega));rw [hl] at HUS;obtain ⟨_,c1,_⟩:=h.cells;generalize M.U l.toNat=U at *;obtain ⟨c,hc⟩ : ∃ c,M.c=c:=⟨_,rfl⟩;rw [hc] at c1 NR ⊢;have Vl:IntKind.i64.wrap ((c:Int)-2)=(c:Int)-2:=IntWalk.i64_in _ (by omega)
  have HC:Hid (∀ z,af [] w z->z.cell? ⟨m,1,none⟩=some (.int .i64 c)):=fun z u=>u.cell0 c1
  clear h hr hR hl hc
  go_enter Tryz.func17,Tryz.ntmps17
  go_wp2_with fail;refine ui.out.mono ?_;rintro e w1 ⟨rfl,rfl⟩;go_wp2_with fail
  go_region_held3 (fun z=>z.cell? ⟨m,1,none⟩=some (.int .i64 c)) (first | exact HC.out _ (af.refl _ _).drew | exact HC.out _ dF.out) (first
   | (go_at_call 64;refine (HUS.out _ (af.refl _ _).drew).mono ?_;rintro e w2 ⟨rfl,hu⟩;have dF:=Lib.hid ((af.refl [] w1).drew.trans hu);clear hu))
  go_wp2_with fail;refine bodyPost_ret (v:=.tuple #[.int .i64 U,.int .i64 ((c:Int)-2),.int .i64 0]) (by simp [results,Tryz.results17,go_sem]) rfl ⟨rfl,dF.out⟩
theorem yt (n0 a b m:Nat) (rv tv:Value) (K:KV) (F:List Nat) (M:MV) (p:aQ) (refs:List Nat) (tabs:List TV) (w:World) (h:ug w n0 a b m rv tv K F M p refs tabs) (l:ni K M refs tabs) :
  Calls Tryz.prog 15 #[.pointer (some ⟨a,0,none⟩)] w fun e w'=>e=.returned (.bool true)/\af [] w w':=by
 have Js:Hid (∀ z,af [] w z->Calls Tryz.prog 56 #[.pointer (some ⟨a,0,none⟩)] z fun e w'=>e=.returned (.bool true)/\af [] z w'):=fun z u=>AL n0 a b m rv tv K F M p refs tabs z (h.keep0 u) l
 have UO:Hid (∀ z,af [] w z->Calls Tryz.prog 57 #[.pointer (some ⟨b,0,none⟩)] z fun e w'=>e=.returned (.int .i64 M.trail.length)/\w'=z):=fun z u=>by
  have:=vC b K F z (h.mem.ker.upd u (by simp))
  rw [l.km.tr] at this;exact this
 obtain ⟨xa,xc,SN,_⟩:=aC h.mem.mod.ts;obtain ⟨_,_,_,_,c4⟩:=h.mem.mod.cells;rw [SN] at c4;obtain ⟨a0,a1,_,_⟩:=h.cells;generalize M.trail.length=TL at *
 have HC:Hid (∀ z,af [] w z->(z.cell? ⟨a,0,none⟩=some (.pointer (some ⟨b,0,none⟩))/\z.cell? ⟨a,1,none⟩=some (.pointer (some ⟨m,0,none⟩)))/\z.cell? ⟨m,4,none⟩=some (.slice xa TL xc)):=fun z u=>⟨⟨u.cell0 a0,u.cell0 a1⟩,u.cell0 c4⟩
 clear h l SN c4 a0 a1
 go_enter Tryz.func15,Tryz.ntmps15
 go_wp2_with fail
 go_region_held3 (fun z=>(z.cell? ⟨a,0,none⟩=some (.pointer (some ⟨b,0,none⟩))/\z.cell? ⟨a,1,none⟩=some (.pointer (some ⟨m,0,none⟩)))/\z.cell? ⟨m,4,none⟩=some (.slice xa TL xc)) (first | exact HC.out _ (af.refl _ _).drew | exact HC.out _ dF.out) (first
  | (go_at_call 56;refine (Js.out _ (af.refl _ _).drew).mono ?_;rintro e w2 ⟨rfl,hu⟩;have dF:=Lib.hid ((af.refl [] w).drew.trans hu);clear hu)
  | (go_at_call 57;refine (UO.out _ dF.out).mono ?_;rintro e w3 ⟨rfl,rfl⟩))
 go_wp2_with fail;go_ret;exact ⟨rfl,dF.out⟩
theorem yu (n0 a b m:Nat) (rv tv:Value) (K:KV) (F:List Nat) (M:MV) (p:aQ) (refs:List Nat) (tabs:List TV) (lv:Int) (oa:Option Addr) (on oc:Nat) (w:World) (h:ug w n0 a b m rv tv K F M p refs tabs) (l:ni K M refs tabs) :
  Calls Tryz.prog 16 #[.pointer (some ⟨a,0,none⟩),.agg #[.int .i64 4,.int .i64 lv,.slice oa on oc]] w fun e w'=>e=.returned (.bool true)/\af [] w w':=by
 have HRK:Hid (∀ z,af [] w z->Calls Tryz.prog 20 #[.pointer (some ⟨b,0,none⟩),.int .i64 lv] z fun e w'=>e=.returned (.tuple #[.int .i64 (M.roomV lv).1,.int .i64 (M.roomV lv).2.1,.int .i64 (M.roomV lv).2.2])/\af [] z w'):=fun z u=>Nh b lv K F M z (h.mem.ker.upd u (by simp)) l.km
 have Jv:Hid (∀ z,af [] w z->Calls Tryz.prog 17 #[.pointer (some ⟨m,0,none⟩),.int .i64 lv] z fun e w'=>e=.returned (.tuple #[.int .i64 (M.roomV lv).1,.int .i64 (M.roomV lv).2.1,.int .i64 (M.roomV lv).2.2])/\af [] z w'):=fun z u=>AO m lv M p _ z (h.mem.mod.keep0 u) (fun k hk=>Nat.lt_of_lt_of_le (h.mem.z k hk) u.size) l.km.fit (l.km.len h.mem.ker.ok)
 have kC:=heap_alloc_new w (.cells #[.int .i64 4,.int .i64 lv,.slice oa on oc] 34 (0,0));have jY:af [] w (w.alloc (.cells #[.int .i64 4,.int .i64 lv,.slice oa on oc] 34 (0,0))):=(af.refl _ _).alloc _;obtain ⟨w0,kP⟩ : ∃ w0,w.alloc (.cells #[.int .i64 4,.int .i64 lv,.slice oa on oc] 34 (0,0))=w0:=⟨_,rfl⟩;rw [kP] at kC jY;have yL:=Lib.hid kP;have dR:=Lib.hid jY;obtain ⟨a0,a1,_,_⟩:=h.cells;generalize (M.roomV lv).1=r1 at *;generalize (M.roomV lv).2.1=r2 at *;generalize (M.roomV lv).2.2=r3 at *
 have HC:Hid (∀ z,af [] w0 z->(z.cell? ⟨a,0,none⟩=some (.pointer (some ⟨b,0,none⟩))/\z.cell? ⟨a,1,none⟩=some (.pointer (some ⟨m,0,none⟩)))/\z.cell? ⟨w.heap.size,0,none⟩=some (.int .i64 4)/\z.cell? ⟨w.heap.size,1,none⟩=some (.int .i64 lv)):=fun z u=>⟨⟨(jY.trans u).cell0 a0,(jY.trans u).cell0 a1⟩,u.cell0 (ae kC rfl),u.cell0 (ae kC rfl)⟩
 obtain ⟨⟨x0,x1⟩,x2,x3⟩:=HC.out w0 (af.refl _ _);clear h l kC jY kP a0 a1
 go_enter Tryz.func16,Tryz.ntmps16
 go_wp2_with fail;rw [yL.out];go_wp2_with fail
 go_region_held3 (fun z=>(z.cell? ⟨a,0,none⟩=some (.pointer (some ⟨b,0,none⟩))/\z.cell? ⟨a,1,none⟩=some (.pointer (some ⟨m,0,none⟩)))/\z.cell? ⟨w.heap.size,0,none⟩=some (.int .i64 4)/\z.cell? ⟨w.heap.size,1,none⟩=some (.int .i64 lv)) (first | exact HC.out _ (af.refl _ _).drew | exact HC.out _ dF.out) (first
  | (go_at_call 20;refine (HRK.out _ (dR.out.trans (af.refl _ _).drew)).mono ?_;rintro e w2 ⟨rfl,hu⟩;have dF:=Lib.hid ((af.refl [] w0).drew.trans hu);clear hu))
 obtain ⟨⟨y0,y1⟩,y2,y3⟩:=HC.out w2 dF.out;clear x0 x1 x2 x3;go_wp2_with fail
 go_region_held3 (fun z=>(z.cell? ⟨a,0,none⟩=some (.pointer (some ⟨b,0,none⟩))/\z.cell? ⟨a,1,none⟩=some (.pointer (some ⟨m,0,none⟩)))/\z.cell? ⟨w.heap.size,0,none⟩=some (.int .i64 4)/\z.cell? ⟨w.heap.size,1,none⟩=some (.int .i64 lv)) (first | exact HC.out _ (dF.out.trans (af.refl _ _).drew) | exact HC.out _ jQ.out) (first
  | (go_at_call 17;refine (Jv.out _ (dR.out.trans (dF.out.trans (af.refl _ _).drew))).mono ?_;rintro e w3 ⟨rfl,hu⟩;have jQ:=Lib.hid (dF.out.trans ((af.refl [] w2).drew.trans hu));clear hu))
 go_wp2_with fail;go_ret;exact ⟨rfl,dR.out.trans jQ.out⟩
end Go.Proofs.YtdackeldhdchaaaGreat
namespace Go.Proofs.YtdackeldhdchaaaGreat
open Go.ChangeShapes Go.WideShapes Go.ChangeAt Go.RowKit
theorem Nj:ownKnob Tryz.prog.godebug=none:=by kernel_rfl
theorem Nk:laidOutB Tryz.prog=true:=by kernel_rfl
theorem Fj {P:Program} {w:World} {r:Reach} {base:Nat} {t:TypeId} {v:Value} {fs:Array Field} (ht:P.underlying t=some (.struct fs)) (h:Value.okWide P w r base t v):∃ cs,v=.agg cs/\cs.size=P.cellsOf t/\Row.okWide P w r base t cs:=by
 unfold Value.okWide at h;rw [ht] at h;exact h
theorem AP:Tryz.prog.cellsOf 3=1:=by kernel_rfl
theorem PQ:Tryz.prog.cellsOf 90=1:=by kernel_rfl
theorem Nl:Tryz.prog.cellsOf 23=1:=by kernel_rfl
theorem Np:Tryz.prog.cellsOf 68=1:=by kernel_rfl
structure uh (w:World) (k:IntKind) (a:Option Addr) (n c:Nat) (zs:List Int):Prop where
 row:wG w k a n zs
 nc:n<=c
 cm:c<=maxLen
 wf:∀ z,z∈zs->(Lit.int k z).wf=true
theorem uh.keep0 {w w':World} {k:IntKind} {a:Option Addr} {n c:Nat} {zs:List Int} (h:uh w k a n c zs) (u:af [] w w'):uh w' k a n c zs:=⟨h.row.keep0 u,h.nc,h.cm,h.wf⟩
theorem uh.of_ints {H:Type} {W:World} {k:IntKind} {cs:List Value} {x:DataW H × List MemPlace}
  (h:(cs=[.slice none 0 0]/\x=(.nil,[])) \/
  ∃ (a:Addr) (len cap:Nat) (zs:List Int),cs=[.slice (some a) len cap]/\0<=a.block/\len<=cap/\cap<=maxLen/\zs.length=(if (fun _:Nat=>true) a.block then cap else len) /\
   x=(.slice (lits k (zs.take len)) (lits k (zs.drop len)),MemPlace.row a zs.length) /\
   (∀ i,i<zs.length->W.cell? (a.add i)=some (.int k (zs.getD i 0)))/\(∀ n∈zs,(Lit.int k n).wf=true)) :
  ∃ (a:Option Addr) (n c:Nat) (Zs:List Int),cs=[.slice a n c]/\uh W k a n c Zs:=by
 rcases h with ⟨rfl,_⟩ | ⟨a,len,cap,zs,rfl,_,hl,hm,hz,_,hc,hw⟩
 ·exact ⟨none,0,0,[],rfl,⟨rfl,Nat.zero_le _,fun i hi=>by omega⟩,Nat.le_refl _,Nat.zero_le _,fun z hz=>by cases hz⟩
 ·have hz':zs.length=cap:=by simpa using hz
  refine ⟨some a,len,cap,zs.take len,rfl,⟨by rw [List.length_take];omega,by omega,fun i hi=>⟨a,rfl,?_⟩⟩,hl,hm,fun z hz=>hw z (List.mem_of_mem_take hz)⟩;rw [hc i (by omega),List.getD_eq_getElem?_getD,List.getD_eq_getElem?_getD,List.getElem?_take_of_lt hi]
end Go.Proofs.YtdackeldhdchaaaGreat
namespace Go.Proofs.YtdackeldhdchaaaGreat
open Go.RowKit Go.Maps Go.ChangeMaps Go.WideShapes Go.ChangeShapes Go.ChangeAt
structure jH where
 n:Int
 a:Option Addr
 len:Nat
 cap:Nat
 ws:List Int
def jH.cells (t:jH):List Value:=[.int .i64 t.n,.slice t.a t.len t.cap]
def jH.tv (t:jH):TV:=⟨t.n.toNat,t.ws⟩
structure lG (w:World) (a:Option Addr) (n c:Nat) (Ts:List jH):Prop where
 len:Ts.length=n
 nc:n<=c
 cm:c<=maxLen
 at_:∀ i,i<n->∃ (g:Addr) (t:jH),a=some g/\Ts[i]?=some t/\w.cell? (g.add (i*2))=some (.int .i64 t.n)/\w.cell? ((g.add (i*2)).add 1)=some (.slice t.a t.len t.cap)/\uh w .u64 t.a t.len t.cap t.ws
theorem lG.keep0 {w w':World} {a:Option Addr} {n c:Nat} {Ts:List jH} (h:lG w a n c Ts) (u:af [] w w'):lG w' a n c Ts :=
 ⟨h.len,h.nc,h.cm,fun i hi=>by obtain ⟨g,t,e1,e2,e3,e4,e5⟩:=h.at_ i hi;exact ⟨g,t,e1,e2,u.cell0 e3,u.cell0 e4,e5.keep0 u⟩⟩
theorem Gz:Tryz.prog.cellsOf 121=2:=by kernel_rfl
theorem Nq:Tryz.prog.cellsOf 22=1:=by kernel_rfl
theorem IX:Tryz.prog.cellsOf 25=4:=by kernel_rfl
theorem add_zero' (g:Addr):g.add 0=g:=by unfold Addr.add;simp
theorem IY {H:Type} {enc:TypeId × Value->H} {W:World} {fuel:Nat} {cs:List Value} {x:DataW H × List MemPlace} (h:DataW.trod enc Tryz.prog W 0 (fun _=>true) true fuel 121 cs=some x) :
  ∃ t:jH,cs=t.cells/\uh W .u64 t.a t.len t.cap t.ws:=by
 obtain ⟨ys,m,_,_,df,hl,hf⟩:=Go.DataW.trod_struct Tryz.underlying121 h;rw [Gz] at df
 match cs,df with
 | [c0,c1],_ =>
  match ys,hl with
  | [y0,y1],_ =>
   have h0:=hf 0 _ rfl;have h1:=hf 1 _ rfl
   simp [AP,Np] at h0 h1
   obtain ⟨n,e0,_,_⟩:=Go.DataW.trod_int Tryz.underlying3 h0;obtain ⟨a,ln,lc,L,e1,hL⟩:=uh.of_ints (open_ints Tryz.underlying68 Tryz.underlying90 PQ h1)
   simp at e0 e1
   subst e0 e1;exact ⟨⟨n,a,ln,lc,L⟩,rfl,hL⟩
theorem lG.of_trod {H:Type} {enc:TypeId × Value->H} {W:World} {fuel:Nat} {cs:List Value} {x:DataW H × List MemPlace} (h:DataW.trod enc Tryz.prog W 0 (fun _=>true) true fuel 22 cs=some x) :
  ∃ (a:Option Addr) (n c:Nat) (Ts:List jH),cs=[.slice a n c]/\lG W a n c Ts:=by
 rcases Go.DataW.trod_slice Tryz.underlying22 h with ⟨rfl,_⟩ | ⟨a,len,cap,elems,rest,n,_,rfl,_,_,hl,hm,hlen,hel,_,_⟩
 ·exact ⟨none,0,0,[],rfl,rfl,Nat.le_refl _,Nat.zero_le _,fun i hi=>by omega⟩
 ·rw [Gz] at hel
  have each:∀ i,i<len->∃ t:jH,(∀ j v,t.cells[j]?=some v->W.cell? ((a.add (i*2)).add j)=some v)/\uh W .u64 t.a t.len t.cap t.ws:=fun i hi=>by
   have h1:=hel i hi;rw [List.getElem?_eq_getElem (by omega)] at h1;obtain ⟨cs',hc,ht⟩:=Option.bind_eq_some_iff.1 h1;obtain ⟨o,rfl,hr⟩:=IY ht;obtain ⟨_,h7,X4⟩:=World.cells?_some hc;refine ⟨o,fun j v hv=>?_,hr⟩;rw [X4 j (by rw [<- h7];exact (List.getElem?_eq_some_iff.1 hv).1)];exact hv
  refine ⟨some a,len,cap,(List.range len).pmap (fun i hi=>Classical.choose (each i hi)) (fun i hi=>List.mem_range.1 hi),rfl,by simp,hl,hm,fun i hi=>?_⟩;have hc:=Classical.choose_spec (each i hi);exact ⟨a,Classical.choose (each i hi),rfl,by simp [hi],by have:=hc.1 0 _ rfl;rwa [add_zero'] at this,hc.1 1 _ rfl,hc.2⟩
structure AQ (w:World) (ta la:Option Addr) (tn tc ln lc:Nat) (Ts:List jH) (Ls:List Int):Prop where
 ts:lG w ta tn tc Ts
 ls:uh w .i64 la ln lc Ls
theorem Dn {H:Type} {enc:TypeId × Value->H} {W:World} {r:Reach} {base:Nat} {v:Value} {d:DataW H} {p:List MemPlace} (h:Value.okWide Tryz.prog W r base 25 v) (hd:DataW.Trod enc Tryz.prog W 0 (fun _=>true) true 25 v d p) :
  ∃ (n room:Int) (ta la:Option Addr) (tn tc ln lc:Nat) (Ts:List jH) (Ls:List Int),v=.agg #[.int .i64 n,.int .i64 room,.slice ta tn tc,.slice la ln lc]/\AQ W ta la tn tc ln lc Ts Ls:=by
 obtain ⟨cs,rfl,df,_⟩:=Fj Tryz.underlying25 h;obtain ⟨fuel,hd⟩:=hd;have df:=df.trans IX;obtain ⟨l⟩:=cs
 match l,df with
 | [c0,c1,c2,c3],_ =>
  obtain ⟨ys,m,_,_,_,hl,hf⟩:=Go.DataW.trod_struct Tryz.underlying25 hd
  match ys,hl with
  | [y0,y1,y2,y3],_ =>
   have h0:=hf 0 _ rfl;have h1:=hf 1 _ rfl;have h2:=hf 2 _ rfl;have h3:=hf 3 _ rfl
   simp [Value.cells,AP,Nl,Nq] at h0 h1 h2 h3
   obtain ⟨n,e0,_,_⟩:=Go.DataW.trod_int Tryz.underlying3 h0;obtain ⟨room,e1,_,_⟩:=Go.DataW.trod_int Tryz.underlying3 h1;obtain ⟨ta,tn,tc,Ts,e2,hT⟩:=lG.of_trod h2;obtain ⟨la,ln,lc,Ls,e3,hL⟩:=uh.of_ints (open_ints Tryz.underlying23 Tryz.underlying3 AP h3)
   simp at e0 e1 e2 e3
   subst e0 e1 e2 e3;exact ⟨n,room,ta,la,tn,tc,ln,lc,Ts,Ls,rfl,hT,hL⟩
theorem GG {n:Nat} {ws:List Int} (hn:n<=16) (hl:ws.length=aX n) (hu:∀ x,x∈ws->jf x) (hf:n<6->ws.getD 0 0/((2 ^ 2 ^ n:Nat):Int)=0):TV.Ok ⟨n,ws⟩:=by
 refine ⟨hn,hl,hu,fun h6 x hx i hi=>?_⟩;have h6:n<6:=h6;have hi:2 ^ n<=i:=hi;have hx:x∈ws:=hx
 have h1:ws.length=1:=by rw [hl];unfold aX;rw [if_pos (by omega)]
 match ws,h1 with
 | [y],_ =>
  simp at hx
  subst hx;have h2:=hf h6
  simp at h2
  have h3:=hu x (by simp);obtain ⟨m,rfl⟩ : ∃ m:Nat,x=(m:Int):=⟨x.toNat,by unfold jf at h3;omega⟩;rw [gQ];have hp:0<2 ^ 2 ^ n:=Nat.pow_pos (by omega)
  have h4:m<2 ^ 2 ^ n:=by
   have h5:((m/2 ^ 2 ^ n:Nat):Int)=0:=by push_cast;exact_mod_cast h2
   have h6:m/2 ^ 2 ^ n=0:=by omega
   rcases Nat.div_eq_zero_iff.1 h6 with h | h
   ·omega
   ·exact h
  exact Nat.testBit_lt_two_pow (Nat.lt_of_lt_of_le h4 (Nat.pow_le_pow_right (by omega) hi))
structure Nr (n room:Int) (tn ln:Nat) (Ts:List jH):Prop where
 n1:1<=n/\n<=8
 room:2<=room/\room<=1048576
 tn:tn<=40
 ln:ln<=200
 ok:∀ t,t∈Ts->t.n=n/\t.tv.Ok
end Go.Proofs.YtdackeldhdchaaaGreat
namespace Go.Proofs.YtdackeldhdchaaaGreat
open Go.RowKit Go.Maps Go.ChangeMaps Go.WideShapes
structure X5 (n:Nat) (ws:List Int) (w:World) (e:Ending) (w':World):Prop where
 ex:∃ B:Bool,e=.returned (.bool B)/\af [] w w'/\(B=true->TV.Ok ⟨n,ws⟩)
theorem Fp (n:Nat) (a:Option Addr) (len cap:Nat) (ws:List Int) (w:World) (hn:n<=16) (hr:uh w .u64 a len cap ws) :
  Calls Tryz.prog 50 #[.agg #[.int .i64 n,.slice a len cap]] w fun e w'=>X5 n ws w e w':=by
 have HU:=Lib.hid ((af.refl [] w).alloc (.cells #[.int .i64 n,.slice a len cap] 121 (0,0)));have hb:=jc w (.int .i64 n) (.slice a len cap)
 have iZ:Hid (∀ z,af [] (w.alloc (.cells #[.int .i64 n,.slice a len cap] 121 (0,0))) z->z.cell? ⟨w.heap.size,0,none⟩=some (.int .i64 n)/\z.cell? ⟨w.heap.size,1,none⟩=some (.slice a len cap)):=fun z u=>⟨u.cell0 hb.1,u.cell0 hb.2⟩
 have Zm:=Lib.hid (fun z=>wU n z hn)
 have hn0:decide ((n:Int)<0)=false:=by simp
 have JX:decide ((16:Int)<(n:Int))=false:=by simp;omega
 have HR:=Lib.hid hr
 have D8:∀ x,x∈ws->jf x:=fun x hx=>by
  have h1:=hr.wf x hx
  simp only [Lit.wf,Bool.and_eq_true,decide_eq_true_eq] at h1
  exact ⟨h1.1,by have h2:x<=18446744073709551615:=h1.2;omega⟩
 have ahK:=Lib.hid D8
 by_cases hl:len=aX n
 ·have HL:=Lib.hid hl
  have xR:=oU n;obtain ⟨x,rfl,hx⟩:=hr.row.at_ 0 (by omega);have hx0:=(((af.refl [] w).alloc (.cells #[.int .i64 n,.slice (some x) len cap] 121 (0,0))).cell0 hx)
  have e0:x.add 0=x:=by unfold Addr.add;simp
  rw [e0] at hx hx0
  have hlen:ws.length=aX n:=by rw [hr.row.len,hl]
  have uH:len<=1024:=by
   rw [hl];unfold aX;split
   ·omega
   ·have:(2:Nat) ^ (n-6)<=2 ^ 10:=Nat.pow_le_pow_right (by omega) (by omega)
    omega
  rw [<- hl] at Zm xR
  have Ht:((len:Int) != (len:Int))=false:=by simp
  have Kw:(0:Int)<(len:Int):=by omega
  by_cases h6:6<=n
  ·have Ry:decide ((6:Int)<=(n:Int))=true:=by simp;omega
   have HF:Hid (TV.Ok ⟨n,ws⟩):=GG hn hlen D8 (by omega);clear hr D8 hl hlen hx hx0 e0 h6 hb
   go_enter Tryz.func50,Tryz.ntmps50
   go_wp2_with fail
   go_region_held3 (fun z=>z.cell? ⟨w.heap.size,0,none⟩=some (.int .i64 n)/\z.cell? ⟨w.heap.size,1,none⟩=some (.slice (some x) len cap)) (first | exact iZ.out _ (af.refl _ _).drew) (first
    | (go_at_call 113;refine (Zm.out _).mono ?_;rintro e w2 ⟨rfl,rfl⟩))
   obtain ⟨y0,y1⟩:=iZ.out _ (af.refl _ _).drew.drew;go_wp2_with fail
   go_quiet (fail)
   go_wp2_with fail;go_ret;exact ⟨true,rfl,HU.out.drew.drewN _,fun _=>HF.out⟩
  ·have Ry:decide ((6:Int)<=(n:Int))=false:=by simp;omega
   obtain ⟨X,hX⟩ : ∃ X,ws.getD 0 0=X:=⟨_,rfl⟩;rw [hX] at hx0
   have HF:Hid (∀ s:Nat,s=2 ^ n->((X/2 ^ s == 0)=true)->TV.Ok ⟨n,ws⟩):=fun s hs h=>GG hn hlen D8 fun _=>by
    subst hs;have h:=eq_of_beq h;rw [hX]
    push_cast
    exact h
   obtain ⟨s,hs⟩ : ∃ s:Nat,s=2 ^ n:=⟨_,rfl⟩;have HS:=Lib.hid hs
   have ahL:s<=32:=by
    have:(2:Nat) ^ n<=2 ^ 5:=Nat.pow_le_pow_right (by omega) (by omega);omega
   have hsl:(s:Int)<64:=by omega
   have hnl:(n:Int)<64:=by omega
   have eQ:IntKind.u64.wrap (2 ^ n)=(s:Int):=by
    have e2:((2:Int) ^ n)=((2 ^ n:Nat):Int):=by push_cast;rfl
    rw [e2,<- hs,IntWalk.u64_in _ (by omega)]
   have fU:wrap64 (2 ^ n)=(s:Int):=by
    have e2:((2:Int) ^ n)=((2 ^ n:Nat):Int):=by push_cast;rfl
    rw [e2,<- hs];unfold wrap64;omega
   obtain ⟨Bq,hBq⟩ : ∃ Bq,(X/2 ^ s == 0)=Bq:=⟨_,rfl⟩;have HBQ:=Lib.hid hBq;clear hr D8 hl hlen hx hX e0 h6 hb hs hBq
   go_enter Tryz.func50,Tryz.ntmps50
   go_wp2_with fail
   go_region_held3 (fun z=>z.cell? ⟨w.heap.size,0,none⟩=some (.int .i64 n)/\z.cell? ⟨w.heap.size,1,none⟩=some (.slice (some x) len cap)) (first | exact iZ.out _ (af.refl _ _).drew) (first
    | (go_at_call 113;refine (Zm.out _).mono ?_;rintro e w2 ⟨rfl,rfl⟩))
   obtain ⟨y0,y1⟩:=iZ.out _ (af.refl _ _).drew.drew;go_wp2_with fail
   go_quiet (fail)
   go_wp2_with fail;go_ret;exact ⟨(X/2 ^ s == 0),rfl,HU.out.drew.drewN _,HF.out s HS.out⟩
 ·have hne:((len:Int) != ((aX n:Nat):Int))=true:=by simp;omega
  have Ir:¬ ((len:Int)=((aX n:Nat):Int)):=by omega
  clear hr D8 hb
  go_enter Tryz.func50,Tryz.ntmps50
  go_wp2_with fail
  go_region_held3 (fun z=>z.cell? ⟨w.heap.size,0,none⟩=some (.int .i64 n)/\z.cell? ⟨w.heap.size,1,none⟩=some (.slice a len cap)) (first | exact iZ.out _ (af.refl _ _).drew) (first
   | (go_at_call 113;refine (Zm.out _).mono ?_;rintro e w2 ⟨rfl,rfl⟩))
  go_wp2_with fail;go_ret;exact ⟨false,rfl,HU.out.drew,fun h=>by cases h⟩
end Go.Proofs.YtdackeldhdchaaaGreat
