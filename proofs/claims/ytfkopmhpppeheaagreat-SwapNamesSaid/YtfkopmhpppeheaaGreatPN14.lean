import Derived.Test.YtfkopmhpppeheaaGreatPN13
import Derived.Deep.RegionHeld3
set_option maxRecDepth 100000
set_option maxHeartbeats 3200000
namespace Go.Proofs.YtfkopmhpppeheaaGreat
open Go.RowKit Go.Maps Go.ChangeMaps Go.WideShapes
theorem ajI (x:Int) (a:Option Addr) (n c:Nat) (w:World):(Instr.field 122 (.agg #[.int .i64 x,.slice a n c]) 1).run Tryz.prog w=.ok (.slice a n c) w:=by kernel_rfl
def jq (F:Nat->Int) (m i:Nat):List Int:=(List.range m).map fun x=>if x<i then F x else 0
theorem yJ (F:Nat->Int) (m i:Nat):(jq F m i).length=m:=by simp [jq]
theorem BM (F:Nat->Int) (m:Nat):jq F m 0=List.replicate m 0:=by
 apply List.ext_getElem?
 intro j
 by_cases h:j<m
 ·simp [jq,h]
 ·simp [jq,h]
theorem FO (F:Nat->Int) {m i:Nat} (_hi:i<m):(jq F m i).set i (F i)=jq F m (i+1):=by
 apply List.ext_getElem?
 intro j
 rw [List.getElem?_set]
 by_cases h:j<m
 ·by_cases e:i=j
  ·subst e;simp [jq,h]
  ·rw [if_neg e]
   simp only [jq,List.getElem?_map,List.getElem?_range h,Option.map_some]
   by_cases h2:j<i
   ·rw [if_pos h2,if_pos (by omega)]
   ·rw [if_neg h2,if_neg (by omega)]
 ·by_cases e:i=j
  ·omega
  ·rw [if_neg e];simp [jq,h]
theorem Qo (f:Int->Int) (l:List Int) {m:Nat} (h:l.length=m):jq (fun i=>f (l.getD i 0)) m m=l.map f:=by
 apply List.ext_getElem?
 intro j
 by_cases hj:j<m
 ·have e:l[j]?=some (l.getD j 0):=by rw [List.getD_eq_getElem?_getD,List.getElem?_eq_getElem (by omega)];rfl
  rw [List.getElem?_map,e]
  simp only [jq,List.getElem?_map,List.getElem?_range hj,Option.map_some]
  rw [if_pos hj]
 ·rw [List.getElem?_eq_none (by rw [yJ];omega),List.getElem?_eq_none (by rw [List.length_map];omega)]
structure Eu (w:World) (n L g B:Nat) (x:Value) (W:List Int) (wr:World):Prop where
 row:wr.ownsRow w.heap.size 90 1 (.slice (some ⟨g,0,none⟩) L L) L (fO W)
 bx:wr.heap[B]?=some (.cells #[.int .i64 n,.slice (some ⟨g,0,none⟩) L L] 122 (0,0))
 rs:wr.heap[w.heap.size+1]?=some (.cells #[.int .i64 0,.slice none 0 0] 122 (0,0))
 tb:wr.heap[w.heap.size]?=some (.cells #[.int .i64 n,x] 122 (0,0))
 up:af [] w wr
 ne:g≠B/\g≠w.heap.size+1/\g≠w.heap.size/\B≠w.heap.size+1/\B≠w.heap.size/\w.heap.size<=B
theorem Ud (w:World) (x y:Value) {wa:World} (h:((w.alloc (.cells #[x,y] 122 (0,0))).alloc (.cells #[.int .i64 0,.slice none 0 0] 122 (0,0))).drew.grownBy wa none) :
  af [] w wa/\wa.heap[w.heap.size]?=some (.cells #[x,y] 122 (0,0))/\wa.heap[w.heap.size+1]?=some (.cells #[.int .i64 0,.slice none 0 0] 122 (0,0))/\((w.alloc (.cells #[x,y] 122 (0,0))).alloc (.cells #[.int .i64 0,.slice none 0 0] 122 (0,0))).drew.heap.size=w.heap.size+1+1:=by
 have e:((w.alloc (.cells #[x,y] 122 (0,0))).alloc (.cells #[.int .i64 0,.slice none 0 0] 122 (0,0))).drew.heap.size=w.heap.size+1+1:=by
  show ((w.alloc _).alloc _).heap.size=_
  rw [World.size_alloc,World.size_alloc]
 have u0:=(af.refl [] w).alloc (.cells #[x,y] 122 (0,0));have u1:=(af.refl [] (w.alloc (.cells #[x,y] 122 (0,0)))).alloc (.cells #[.int .i64 0,.slice none 0 0] 122 (0,0));have n1:=heap_alloc_new (w.alloc (.cells #[x,y] 122 (0,0))) (.cells #[.int .i64 0,.slice none 0 0] 122 (0,0));rw [World.size_alloc] at n1;have n0:=(u1.block _ (ah (heap_alloc_new w (.cells #[x,y] 122 (0,0)))) (by simp)).trans (heap_alloc_new w _);refine ⟨((u0.trans u1).drew).grown h (by simp),?_,?_,e⟩
 ·rw [h.block w.heap.size (by rw [e];omega) (by simp)];exact n0
 ·rw [h.block (w.heap.size+1) (by rw [e];omega) (by simp)];exact n1
theorem Ue (w:World) (x y:Value) {wb:World} (h:(((w.alloc (.cells #[x,y] 122 (0,0))).alloc (.cells #[.int .i64 0,.slice none 0 0] 122 (0,0))).alloc (.cells #[.int .i64 0,.slice none 0 0] 122 (0,0))).drew.grownBy wb none) :
  af [] w wb/\wb.heap[w.heap.size]?=some (.cells #[x,y] 122 (0,0))/\wb.heap[w.heap.size+1]?=some (.cells #[.int .i64 0,.slice none 0 0] 122 (0,0))/\wb.heap[w.heap.size+1+1]?=some (.cells #[.int .i64 0,.slice none 0 0] 122 (0,0))/\(((w.alloc (.cells #[x,y] 122 (0,0))).alloc (.cells #[.int .i64 0,.slice none 0 0] 122 (0,0))).alloc (.cells #[.int .i64 0,.slice none 0 0] 122 (0,0))).drew.heap.size=w.heap.size+1+1+1:=by
 have e0:((w.alloc (.cells #[x,y] 122 (0,0))).alloc (.cells #[.int .i64 0,.slice none 0 0] 122 (0,0))).heap.size=w.heap.size+1+1:=by
  rw [World.size_alloc,World.size_alloc]
 have e:(((w.alloc (.cells #[x,y] 122 (0,0))).alloc (.cells #[.int .i64 0,.slice none 0 0] 122 (0,0))).alloc (.cells #[.int .i64 0,.slice none 0 0] 122 (0,0))).drew.heap.size=w.heap.size+1+1+1:=by
  show (((w.alloc _).alloc _).alloc _).heap.size=_
  rw [World.size_alloc,World.size_alloc,World.size_alloc]
 have u0:=(af.refl [] w).alloc (.cells #[x,y] 122 (0,0));have u1:=(af.refl [] (w.alloc (.cells #[x,y] 122 (0,0)))).alloc (.cells #[.int .i64 0,.slice none 0 0] 122 (0,0));have u2:=(af.refl [] ((w.alloc (.cells #[x,y] 122 (0,0))).alloc (.cells #[.int .i64 0,.slice none 0 0] 122 (0,0)))).alloc (.cells #[.int .i64 0,.slice none 0 0] 122 (0,0));have n1:=heap_alloc_new (w.alloc (.cells #[x,y] 122 (0,0))) (.cells #[.int .i64 0,.slice none 0 0] 122 (0,0));have n1':=(u2.block _ (ah n1) (by simp)).trans n1;rw [World.size_alloc] at n1';have n0:=(u1.block _ (ah (heap_alloc_new w (.cells #[x,y] 122 (0,0)))) (by simp)).trans (heap_alloc_new w _);have n0':=(u2.block _ (ah n0) (by simp)).trans n0;have n2:=heap_alloc_new ((w.alloc (.cells #[x,y] 122 (0,0))).alloc (.cells #[.int .i64 0,.slice none 0 0] 122 (0,0))) (.cells #[.int .i64 0,.slice none 0 0] 122 (0,0));rw [e0] at n2;refine ⟨(((u0.trans u1).trans u2).drew).grown h (by simp),?_,?_,?_,e⟩
 ·rw [h.block w.heap.size (by rw [e];omega) (by simp)];exact n0'
 ·rw [h.block (w.heap.size+1) (by rw [e];omega) (by simp)];exact n1'
 ·rw [h.block (w.heap.size+1+1) (by rw [e];omega) (by simp)];exact n2
theorem Uf {w wa:World} {n L:Nat} {x:Value} (u:af [] w wa) (a1:wa.heap[w.heap.size]?=some (.cells #[.int .i64 n,x] 122 (0,0))) (a2:wa.heap[w.heap.size+1]?=some (.cells #[.int .i64 0,.slice none 0 0] 122 (0,0)))
  (oa:wa.ownsRow w.heap.size 90 1 (.slice (some ⟨w.heap.size+1+1,0,none⟩) L L) L (madeCells #[Value.int .u64 0] L).toList) :
  Eu w n L (w.heap.size+1+1) wa.heap.size x (List.replicate L 0) (wa.alloc (.cells #[.int .i64 n,.slice (some ⟨w.heap.size+1+1,0,none⟩) L L] 122 (0,0))):=by
 have hg:w.heap.size+1+1<wa.heap.size:=(oa.lt _ rfl).2
 have e:fO (List.replicate L 0)=(madeCells #[Value.int .u64 0] L).toList:=by rw [fO,List.map_replicate];exact (TN L).symm
 refine ⟨by rw [e];exact oa.alloc _,heap_alloc_new wa _,?_,?_,u.alloc _,by omega,by omega,by omega,by omega,by omega,by omega⟩
 ·rw [Below.heap_alloc _ _ _ (ah a2)];exact a2
 ·rw [Below.heap_alloc _ _ _ (ah a1)];exact a1
theorem Ug {w wb:World} {n L:Nat} {x:Value} (u:af [] w wb) (b1:wb.heap[w.heap.size]?=some (.cells #[.int .i64 n,x] 122 (0,0))) (b2:wb.heap[w.heap.size+1]?=some (.cells #[.int .i64 0,.slice none 0 0] 122 (0,0))) (b3:wb.heap[w.heap.size+1+1]?=some (.cells #[.int .i64 0,.slice none 0 0] 122 (0,0)))
  (ob:wb.ownsRow w.heap.size 90 1 (.slice (some ⟨w.heap.size+1+1+1,0,none⟩) L L) L (madeCells #[Value.int .u64 0] L).toList) :
  Eu w n L (w.heap.size+1+1+1) (w.heap.size+1+1) x (List.replicate L 0) ((wb.setCell ⟨w.heap.size+1+1,0,none⟩ (.int .i64 n)).setCell ⟨w.heap.size+1+1,1,none⟩ (.slice (some ⟨w.heap.size+1+1+1,0,none⟩) L L)):=by
 have e:fO (List.replicate L 0)=(madeCells #[Value.int .u64 0] L).toList:=by rw [fO,List.map_replicate];exact (TN L).symm
 have h1:=aB (j:=0) b3 (.int .i64 n);have h2:=aB (j:=1) h1 (.slice (some ⟨w.heap.size+1+1+1,0,none⟩) L L);refine ⟨?_,h2,?_,?_,(u.setCell (p:=⟨w.heap.size+1+1,0,none⟩) (.inr (by show w.heap.size<=w.heap.size+1+1;omega)) _).setCell (p:=⟨w.heap.size+1+1,1,none⟩) (.inr (by show w.heap.size<=w.heap.size+1+1;omega)) _,by omega,by omega,by omega,by omega,by omega,by omega⟩
 ·rw [e]
  exact bf (bf ob (a:=⟨w.heap.size+1+1,0,none⟩) (by simp [Value.ownBlock]) _) (a:=⟨w.heap.size+1+1,1,none⟩) (by simp [Value.ownBlock]) _
 ·rw [aG (by show w.heap.size+1≠w.heap.size+1+1;omega),aG (by show w.heap.size+1≠w.heap.size+1+1;omega)];exact b2
 ·rw [aG (by show w.heap.size≠w.heap.size+1+1;omega),aG (by show w.heap.size≠w.heap.size+1+1;omega)];exact b1
theorem Eu.set {w wr:World} {n L g B j:Nat} {x:Value} {W:List Int} (h:Eu w n L g B x W wr) (hj:j<L) (z:Int):Eu w n L g B x (W.set j z) (wr.setCell ⟨g,j,none⟩ (.int .u64 z)):=by
 have hg:=(h.row.lt g rfl).1;refine ⟨?_,by rw [aG h.ne.1.symm];exact h.bx,by rw [aG h.ne.2.1.symm];exact h.rs,by rw [aG h.ne.2.2.1.symm];exact h.tb,h.up.setCell (p:=⟨g,j,none⟩) (.inr hg) _,h.ne⟩;have:=dL h.row (j:=j) (by omega) (.int .u64 z)
 have e:(fO W).set j (.int .u64 z)=fO (W.set j z):=by simp [fO,List.map_set]
 rw [<- e];exact this
theorem Eu.upd {w wr w2:World} {n L g B:Nat} {x:Value} {W:List Int} (h:Eu w n L g B x W wr) (u:af [] wr w2):Eu w n L g B x W w2:=by
 have e:∀ {k:Nat} {o:Obj},wr.heap[k]?=some o->w2.heap[k]?=some o:=fun {k o} hk=>by rw [u.block k (ah hk) (by simp)];exact hk
 exact ⟨ai h.row fun k hk=>u.block k (h.row.lt k hk).2 (by simp),e h.bx,e h.rs,e h.tb,h.up.trans u,h.ne⟩
theorem Qp (Z:List Nat) (c:Value) (t:TV) (v:Nat) (b:Bool) (w:World) (h:jG w Z c t) (hv:v<t.n) (hv6:v<6) :
  Calls Tryz.prog 136 #[dI t c,.int .i64 v,.bool b] w fun e w'=>Jo (cO t v b) w e w':=by
 unfold dI;obtain ⟨i2,eU,fE,dR,fU⟩:=info_parts Tryz.GZ;have HI:=Lib.hid (And.intro eU (And.intro fE (And.intro dR fU)));have Bv:=h.ok.len_le;have I7:=h.ok.n16;obtain ⟨fa,ca,Qj,_⟩:=aj h.row;subst Qj;have HT:=Lib.hid h;obtain ⟨L,hL⟩ : ∃ L,t.ws.length=L:=⟨_,rfl⟩;rw [hL] at Bv;obtain ⟨n,hn⟩ : ∃ n,t.n=n:=⟨_,rfl⟩;rw [hn] at I7 hv;have HN:=Lib.hid (And.intro hL hn);have aC:=h.row;rw [hL] at aC;have bF:=Lib.hid aC
 simp only [hL,hn]
 clear h eU fE dR fU hL hn aC;obtain ⟨a0,a1⟩:=nH w (.int .i64 n) (.slice fa L ca);have pO:=Lib.hid (heap_alloc_new w (.cells #[.int .i64 n,.slice fa L ca] 122 (0,0)));have OU:=Lib.hid (heap_alloc_new (w.alloc (.cells #[.int .i64 n,.slice fa L ca] 122 (0,0))) (.cells #[.int .i64 0,.slice none 0 0] 122 (0,0)));have q0:=(((af.refl [] _).alloc (.cells #[.int .i64 0,.slice none 0 0] 122 (0,0))).cell (World.block_lt_of_cell? _ _ a0) (by simp)).trans a0;have q1:=(((af.refl [] _).alloc (.cells #[.int .i64 0,.slice none 0 0] 122 (0,0))).cell (World.block_lt_of_cell? _ _ a1) (by simp)).trans a1;clear a0 a1
 go_enter Tryz.func136,Tryz.ntmps136
 obtain ⟨wa,ra,oa,ga⟩:=run_make_full (P:=Tryz.prog) ((w.alloc (.cells #[.int .i64 n,.slice fa L ca] 122 (0,0))).alloc (.cells #[.int .i64 0,.slice none 0 0] 122 (0,0))).drew w.heap.size 68 90 i2 (.int .u64 0) 1 Tryz.underlying68 HI.out.1 HI.out.2.1 HI.out.2.2.1 .i64 .i64 L (by rw [HI.out.2.2.2];omega) (by unfold maxLen;omega) (by show w.heap.size<=((w.alloc _).alloc _).heap.size;rw [World.size_alloc,World.size_alloc];omega);obtain ⟨wb,rb,ob,gb⟩:=run_make_full (P:=Tryz.prog) (((w.alloc (.cells #[.int .i64 n,.slice fa L ca] 122 (0,0))).alloc (.cells #[.int .i64 0,.slice none 0 0] 122 (0,0))).alloc (.cells #[.int .i64 0,.slice none 0 0] 122 (0,0))).drew w.heap.size 68 90 i2 (.int .u64 0) 1 Tryz.underlying68 HI.out.1 HI.out.2.1 HI.out.2.2.1 .i64 .i64 L (by rw [HI.out.2.2.2];omega) (by unfold maxLen;omega) (by show w.heap.size<=(((w.alloc _).alloc _).alloc _).heap.size;rw [World.size_alloc,World.size_alloc,World.size_alloc];omega);obtain ⟨ua,a1,a2,a3⟩:=Ud w _ _ ga;obtain ⟨ub,b1,b2,b3,b4⟩:=Ue w _ _ gb;have pa0:wa.cell? ⟨w.heap.size,0,none⟩=some (.int .i64 n):=ae a1 rfl;have pa1:wa.cell? ⟨w.heap.size,1,none⟩=some (.slice fa L ca):=ae a1 rfl;have az:=(af.refl [] wa).alloc (.cells #[.int .i64 0,.slice none 0 0] 122 (0,0));have pd0:=(az.cell (World.block_lt_of_cell? _ _ pa0) (by simp)).trans pa0;have pd1:=(az.cell (World.block_lt_of_cell? _ _ pa1) (by simp)).trans pa1;have pz:=heap_alloc_new wa (.cells #[.int .i64 0,.slice none 0 0] 122 (0,0));have pe0:(wa.alloc (.cells #[.int .i64 0,.slice none 0 0] 122 (0,0))).cell? ⟨wa.heap.size,0,none⟩=some (.int .i64 0):=ae pz rfl;have pe1:(wa.alloc (.cells #[.int .i64 0,.slice none 0 0] 122 (0,0))).cell? ⟨wa.heap.size,1,none⟩=some (.slice none 0 0):=ae pz rfl;have pg0:=ax 0 pz;have pg1:=ax 1 pz;clear az pz;have pb0:wb.cell? ⟨w.heap.size,0,none⟩=some (.int .i64 n):=ae b1 rfl;have pb1:wb.cell? ⟨w.heap.size,1,none⟩=some (.slice fa L ca):=ae b1 rfl;have pc0:wb.cell? ⟨w.heap.size+1+1,0,none⟩=some (.int .i64 0):=ae b3 rfl;have pc1:wb.cell? ⟨w.heap.size+1+1,1,none⟩=some (.slice none 0 0):=ae b3 rfl;have pf0:=ax 0 b3;have pf1:=ax 1 b3;rw [a3,Nat.mul_one,show (Value.int .u64 0).cells=[Value.int .u64 0].toArray from rfl] at oa;rw [b4,Nat.mul_one,show (Value.int .u64 0).cells=[Value.int .u64 0].toArray from rfl] at ob;have HMA:=Lib.hid (Uf (n:=n) ua a1 a2 oa);have HMB:=Lib.hid (Ug (n:=n) ub b1 b2 b3 ob);clear ua a1 a2 a3 ub b1 b2 b3 b4;clear oa ga ob gb;go_wp2_with fail
 go_region
 focus (
  have HM:=Lib.hid HMA.out;generalize wa.heap.size=B at HM;generalize w.heap.size+1+1=g at HM
  generalize (wa.alloc (.cells #[.int .i64 n,.slice (some ⟨g,0,none⟩) L L] 122 (0,0)))=W0 at HM)
 rotate_left
 focus (
  have HM:=Lib.hid HMB.out;generalize w.heap.size+1+1+1=g at HM;generalize w.heap.size+1+1=B at HM
  generalize ((wb.setCell ⟨B,0,none⟩ (.int .i64 n)).setCell ⟨B,1,none⟩ (.slice (some ⟨g,0,none⟩) L L))=W0 at HM)
 all_goals (
  clear HMA HMB pa0 pa1 pb0 pb1 pc0 pc1 pd0 pd1 pe0 pe1 pf0 pf1 pg0 pg1 ra rb q0 q1 pO OU
  have hd6:decide ((6:Int)<=(v:Int))=false:=by simp;omega
  go_wp2_with fail;refine (Qn 6 v W0 (by omega) (by omega)).mono ?_;rintro e w3 hE;obtain ⟨cv,rfl,hTv,fG⟩:=hE.ex;obtain ⟨gv,cvn,hcv,_⟩:=aj hTv.row;have hLv:(TW 6 v).ws.length=1:=(nC _ (by omega)).len;subst hcv;rw [hLv] at hTv;obtain ⟨gv1,hgv⟩:=bC hTv.row (by rw [hLv];omega);subst hgv;obtain ⟨gY,Uh⟩ : ∃ o,(TW 6 v).ws.getD 0 0=o:=⟨_,rfl⟩
  have X5:(TW 6 v).ws[0]?=some gY:=by rw [<- Uh,List.getD_eq_getElem?_getD,List.getElem?_eq_getElem (by omega)];rfl
  have co:w3.cell? ⟨gv1,0,none⟩=some (.int .u64 gY):=au hTv.row (j:=0) (by rw [fO,List.getElem?_map,X5];rfl)
  have HON:Hid (jU gY/\∀ i,i<64->nb gY i=i.testBit v):=by
   have dJ:(TW 6 v).Ok:=nC _ (by omega);refine ⟨dJ.u _ (List.mem_of_getElem? X5),fun i hi=>?_⟩;have hb:=G9 (n:=6) (fun x=>x.testBit v) (x:=i) (by omega);unfold TV.bit at hb;rw [show i/64=0 by omega,show i % 64=i by omega] at hb
   rw [<- Uh];exact hb
  have X6:=Lib.hid (HM.out.upd fG);clear hE hTv fG Uh X5
  simp only [dI,hLv]
  clear hLv;have abS:=ajI;go_wp2_with fail;clear abS co;have HF0:Hid (jq (fun i=>oC v b gY (t.ws.getD i 0)) L 0=List.replicate L 0):=BM _ _
  go_loopg [12] L (fun gg s12 wr=>∃ x:Nat,L-x=gg/\x<=L/\s12=.int .i64 x/\Eu w n L g B (.slice fa L ca) (jq (fun i=>oC v b gY (t.ws.getD i 0)) L x) wr)
  case atStart=>exact ⟨0,by omega,by omega,rfl,by rw [HF0.out];exact X6.out⟩
  case round =>
   obtain ⟨x,rfl,hx,rfl,hM⟩:=hrel;have t1:wr.cell? ⟨w.heap.size,1,none⟩=some (.slice fa L ca):=ae (j:=1) hM.tb rfl;have s0:wr.cell? ⟨B,0,none⟩=some (.int .i64 n):=ae (j:=0) hM.bx rfl;have s1:wr.cell? ⟨B,1,none⟩=some (.slice (some ⟨g,0,none⟩) L L):=ae (j:=1) hM.bx rfl
   by_cases aW:x<L
   ·have fF:(x:Int)<(L:Int):=by omega
    obtain ⟨ga,rfl⟩:=bC bF.out (by omega)
    have hr:=ai bF.out fun k hk=>hM.up.block k (bF.out.lt k hk).2 (by simp)
    obtain ⟨X,hX⟩ : ∃ X,t.ws.getD x 0=X:=⟨_,rfl⟩
    have e0:t.ws[x]?=some X:=by rw [<- hX,List.getD_eq_getElem?_getD,List.getElem?_eq_getElem (by rw [HN.out.1];exact aW)];rfl
    have cx:wr.cell? ⟨ga,x,none⟩=some (.int .u64 X):=au hr (by rw [fO,List.getElem?_map,e0];rfl);obtain ⟨Y,hY⟩ : ∃ Y,(jq (fun i=>oC v b gY (t.ws.getD i 0)) L x).getD x 0=Y:=⟨_,rfl⟩
    have e1:(jq (fun i=>oC v b gY (t.ws.getD i 0)) L x)[x]?=some Y:=by rw [<- hY,List.getD_eq_getElem?_getD,List.getElem?_eq_getElem (by rw [yJ];exact aW)];rfl
    have cy:wr.cell? ⟨g,x,none⟩=some (.int .u64 Y):=au hM.row (by rw [fO,List.getElem?_map,e1];rfl);have fy:=aS hM.row x;have oZ:=hM.set aW (oC v b gY X);rw [<- hX,FO (fun i=>oC v b gY (t.ws.getD i 0)) aW,hX] at oZ;have HE:=Lib.hid oZ
    have hp1:(2:Nat) ^ v<=32:=by
     have:(2:Nat) ^ v<=2 ^ 5:=Nat.pow_le_pow_right (by omega) (by omega);omega
    have X4:(v:Int)<64:=by omega
    have hsv:IntKind.u64.wrap (2 ^ v)=((2 ^ v:Nat):Int):=by
     have h2:((2:Int) ^ v)=((2 ^ v:Nat):Int):=by push_cast;rfl
     rw [h2]
     have e:∀ z:Nat,z<=32->IntKind.u64.wrap (z:Int)=(z:Int):=fun z hz=>by
      have:IntKind.u64.wrap (z:Int)=(z:Int) % 18446744073709551616:=rfl
      rw [this];omega
     exact e _ hp1
    obtain ⟨sv,Ui⟩ : ∃ sv,2 ^ v=sv:=⟨_,rfl⟩;rw [Ui] at hp1 hsv
    have aqX:(sv:Int)<64:=by omega
    clear hM oZ hr e0 e1 hX hY
    cases b with
    | true =>
     have HW:Hid (oC v true gY X=bits BinOp.or IntKind.u64 (bits BinOp.and IntKind.u64 X gY) (bits BinOp.and IntKind.u64 X gY/2 ^ sv)):=by
      show oC v true gY X=_
      unfold oC;rw [if_pos rfl,Ui]
     clear Ui;go_wp2_with fail
     go_region
     go_wp2_with fail
     go_roundg (L-(x+1))
     case measure=>omega
     case rel=>exact ⟨x+1,rfl,by omega,by simp,by rw [HW.out] at HE;exact HE.out.upd ((af.refl [] _).drew)⟩
    | false =>
     have HW:Hid (oC v false gY X=bits BinOp.or IntKind.u64 (bits BinOp.andNot IntKind.u64 X gY) (IntKind.u64.wrap (bits BinOp.andNot IntKind.u64 X gY*2 ^ sv))):=by
      show oC v false gY X=_
      unfold oC;rw [if_neg (by simp),Ui]
     clear Ui;go_wp2_with fail
     go_region
     go_wp2_with fail
     go_roundg (L-(x+1))
     case measure=>omega
     case rel=>exact ⟨x+1,rfl,by omega,by simp,by rw [HW.out] at HE;exact HE.out.upd ((af.refl [] _).drew)⟩
   ·obtain rfl:x=L:=by omega
    have fF:¬ ((x:Int)<(x:Int)):=by omega
    have z0:wr.cell? ⟨w.heap.size+1,0,none⟩=some (.int .i64 0):=ae (j:=0) hM.rs rfl;have z1:wr.cell? ⟨w.heap.size+1,1,none⟩=some (.slice none 0 0):=ae (j:=1) hM.rs rfl;have f0:=ax 0 hM.rs;have f1:=ax 1 hM.rs;have X7:=Lib.hid hM;clear hM;go_wp2_with fail;obtain ⟨b0,b1⟩:=Ql X7.out.rs (.int .i64 n) (.slice (some ⟨g,0,none⟩) x x);refine bodyPost_ret (v:=.agg #[.int .i64 n,.slice (some ⟨g,0,none⟩) x x]) (by simp [results,Tryz.results136,go_sem,b0,b1]) rfl ?_;have abT:=XZ HT.out.ok hv6 (by rw [HN.out.2];exact hv) b HON.out.1 HON.out.2;have abU:=Qo (oC v b gY) t.ws HN.out.1;have aC:=X7.out.row;rw [abU] at aC
    have mf:wr.ownsRow w.heap.size 90 1 (.slice (some ⟨g,0,none⟩) x x) (cO t v b).ws.length (fO (cO t v b).ws):=by
     rw [abT]
     show wr.ownsRow _ _ _ _ (t.ws.map (oC v b gY)).length _
     rw [List.length_map,HN.out.1];exact aC
    have hu:=(X7.out.up.setCell (p:=⟨w.heap.size+1,0,none⟩) (.inr (by show w.heap.size<=w.heap.size+1;omega)) (.int .i64 n)).setCell (p:=⟨w.heap.size+1,1,none⟩) (.inr (by show w.heap.size<=w.heap.size+1;omega)) (.slice (some ⟨g,0,none⟩) x x);have Lp:=X7.out.ne.2.1;have r1:=bf mf (a:=⟨w.heap.size+1,0,none⟩) (by simpa [Value.ownBlock] using Ne.symm Lp) (.int .i64 n);have r2:=bf r1 (a:=⟨w.heap.size+1,1,none⟩) (by simpa [Value.ownBlock] using Ne.symm Lp) (.slice (some ⟨g,0,none⟩) x x)
    exact ⟨_,by simp only [dI];rw [show (cO t v b).n=n from HN.out.2],⟨qJ HT.out.ok v b,r2⟩,hu⟩)
theorem MF (x u:Nat):fP x u false=x-x/2 ^ u % 2*2 ^ u/\fP x u true=x-x/2 ^ u % 2*2 ^ u+2 ^ u/\x/2 ^ u % 2*2 ^ u<=x:=by
 have hb:x.testBit u=decide (x/2 ^ u % 2=1):=by
  rw [Nat.testBit_eq_decide_div_mod_eq]
 have hle:x/2 ^ u % 2*2 ^ u<=x:=by
  have h1:x/2 ^ u % 2<=x/2 ^ u:=Nat.mod_le _ _;have h2:x/2 ^ u % 2*2 ^ u<=x/2 ^ u*2 ^ u:=Nat.mul_le_mul_right _ h1;have h3:=Nat.div_mul_le_self x (2 ^ u);omega
 refine ⟨?_,?_,hle⟩
 ·unfold fP
  rw [hb]
  rcases Nat.mod_two_eq_zero_or_one (x/2 ^ u) with h | h
  ·simp [h]
  ·simp [h]
 ·unfold fP
  rw [hb]
  rcases Nat.mod_two_eq_zero_or_one (x/2 ^ u) with h | h
  ·simp [h]
  ·rw [h] at hle ⊢
   simp at hle ⊢
   omega
theorem MG (F:Nat->Int) {m n:Nat} (h:n=m):jq F m m=(List.range n).map F:=by
 subst h;unfold jq
 refine List.map_congr_left fun i hi=>?_
 rw [if_pos (List.mem_range.1 hi)]
theorem Qq (F:Nat->Int) {m n:Nat} (h:n=m):((List.range n).map F).length=m:=by simp [h]
theorem ae4 (Q:Nat):(Q:Int).tmod 2=((Q % 2:Nat):Int):=by
 rw [Int.tmod_eq_emod_of_nonneg (Int.natCast_nonneg Q)];omega
theorem Uj {x s Q:Nat} (h:x/s=Q) (hx:x<=1048576):wrap64 ((x:Int)/(s:Int))=(Q:Int):=by
 have hl:Q<=x:=by rw [<- h];exact Nat.div_le_self x s
 rw [<- Int.natCast_ediv,h];exact IntWalk.wrap64_in _ (by omega)
theorem wrap_mul {x s Q:Nat} (h:x*s=Q) (hx:Q<=1048576):wrap64 ((x:Int)*(s:Int))=(Q:Int):=by
 rw [<- Int.natCast_mul,h];exact IntWalk.wrap64_in _ (by omega)
theorem Uk {x s:Nat} (h:s<=x) (hx:x<=1048576):wrap64 ((x:Int)-(s:Int))=((x-s:Nat):Int):=by
 rw [IntWalk.wrap64_in _ (by omega)];omega
theorem wrap_add {x s:Nat} (hx:x+s<=1048576):wrap64 ((x:Int)+(s:Int))=((x+s:Nat):Int):=by
 rw [IntWalk.wrap64_in _ (by omega)];omega
theorem X8 {x u s:Nat} (hs:2 ^ u=s) (hx:x<=1024) (h5:s<=512):∃ Q R P J0:Nat,wrap64 ((x:Int)/(s:Int))=(Q:Int)/\(Q:Int).tmod 2=(R:Int)/\wrap64 ((R:Int)*(s:Int))=(P:Int)/\wrap64 ((x:Int)-(P:Int))=(J0:Int)/\wrap64 ((J0:Int)+(s:Int))=((fP x u true:Nat):Int)/\fP x u false=J0:=by
 obtain ⟨k1,k2,k3⟩:=MF x u;rw [hs] at k1 k2 k3;refine ⟨x/s,x/s % 2,x/s % 2*s,x-x/s % 2*s,Uj rfl (by omega),ae4 _,wrap_mul rfl (by omega),Uk k3 (by omega),?_,k1⟩;rw [k2];generalize x/s % 2*s=P at *;exact wrap_add (by omega)
theorem X9 (Z:List Nat) (c:Value) (t:TV) (v:Nat) (b:Bool) (w:World) (h:jG w Z c t) (hv:v<t.n) (hv6:6<=v) :
  Calls Tryz.prog 136 #[dI t c,.int .i64 v,.bool b] w fun e w'=>Jo (cO t v b) w e w':=by
 unfold dI;obtain ⟨i2,eU,fE,dR,fU⟩:=info_parts Tryz.GZ;have HI:=Lib.hid (And.intro eU (And.intro fE (And.intro dR fU)));have Bv:=h.ok.len_le;have I7:=h.ok.n16;obtain ⟨fa,ca,Qj,_⟩:=aj h.row;subst Qj;have HT:=Lib.hid h;obtain ⟨L,hL⟩ : ∃ L,t.ws.length=L:=⟨_,rfl⟩;rw [hL] at Bv;obtain ⟨n,hn⟩ : ∃ n,t.n=n:=⟨_,rfl⟩;rw [hn] at I7 hv;have HN:=Lib.hid (And.intro hL hn);have aC:=h.row;rw [hL] at aC;have bF:=Lib.hid aC
 simp only [hL,hn]
 clear h eU fE dR fU hL hn aC;obtain ⟨a0,a1⟩:=nH w (.int .i64 n) (.slice fa L ca);have pO:=Lib.hid (heap_alloc_new w (.cells #[.int .i64 n,.slice fa L ca] 122 (0,0)));have OU:=Lib.hid (heap_alloc_new (w.alloc (.cells #[.int .i64 n,.slice fa L ca] 122 (0,0))) (.cells #[.int .i64 0,.slice none 0 0] 122 (0,0)));have q0:=(((af.refl [] _).alloc (.cells #[.int .i64 0,.slice none 0 0] 122 (0,0))).cell (World.block_lt_of_cell? _ _ a0) (by simp)).trans a0;have q1:=(((af.refl [] _).alloc (.cells #[.int .i64 0,.slice none 0 0] 122 (0,0))).cell (World.block_lt_of_cell? _ _ a1) (by simp)).trans a1;clear a0 a1
 go_enter Tryz.func136,Tryz.ntmps136
 obtain ⟨wa,ra,oa,ga⟩:=run_make_full (P:=Tryz.prog) ((w.alloc (.cells #[.int .i64 n,.slice fa L ca] 122 (0,0))).alloc (.cells #[.int .i64 0,.slice none 0 0] 122 (0,0))).drew w.heap.size 68 90 i2 (.int .u64 0) 1 Tryz.underlying68 HI.out.1 HI.out.2.1 HI.out.2.2.1 .i64 .i64 L (by rw [HI.out.2.2.2];omega) (by unfold maxLen;omega) (by show w.heap.size<=((w.alloc _).alloc _).heap.size;rw [World.size_alloc,World.size_alloc];omega);obtain ⟨wb,rb,ob,gb⟩:=run_make_full (P:=Tryz.prog) (((w.alloc (.cells #[.int .i64 n,.slice fa L ca] 122 (0,0))).alloc (.cells #[.int .i64 0,.slice none 0 0] 122 (0,0))).alloc (.cells #[.int .i64 0,.slice none 0 0] 122 (0,0))).drew w.heap.size 68 90 i2 (.int .u64 0) 1 Tryz.underlying68 HI.out.1 HI.out.2.1 HI.out.2.2.1 .i64 .i64 L (by rw [HI.out.2.2.2];omega) (by unfold maxLen;omega) (by show w.heap.size<=(((w.alloc _).alloc _).alloc _).heap.size;rw [World.size_alloc,World.size_alloc,World.size_alloc];omega);obtain ⟨ua,a1,a2,a3⟩:=Ud w _ _ ga;obtain ⟨ub,b1,b2,b3,b4⟩:=Ue w _ _ gb;have pa0:wa.cell? ⟨w.heap.size,0,none⟩=some (.int .i64 n):=ae a1 rfl;have pa1:wa.cell? ⟨w.heap.size,1,none⟩=some (.slice fa L ca):=ae a1 rfl;have az:=(af.refl [] wa).alloc (.cells #[.int .i64 0,.slice none 0 0] 122 (0,0));have pd0:=(az.cell (World.block_lt_of_cell? _ _ pa0) (by simp)).trans pa0;have pd1:=(az.cell (World.block_lt_of_cell? _ _ pa1) (by simp)).trans pa1;have pz:=heap_alloc_new wa (.cells #[.int .i64 0,.slice none 0 0] 122 (0,0));have pe0:(wa.alloc (.cells #[.int .i64 0,.slice none 0 0] 122 (0,0))).cell? ⟨wa.heap.size,0,none⟩=some (.int .i64 0):=ae pz rfl;have pe1:(wa.alloc (.cells #[.int .i64 0,.slice none 0 0] 122 (0,0))).cell? ⟨wa.heap.size,1,none⟩=some (.slice none 0 0):=ae pz rfl;have pg0:=ax 0 pz;have pg1:=ax 1 pz;clear az pz;have pb0:wb.cell? ⟨w.heap.size,0,none⟩=some (.int .i64 n):=ae b1 rfl;have pb1:wb.cell? ⟨w.heap.size,1,none⟩=some (.slice fa L ca):=ae b1 rfl;have pc0:wb.cell? ⟨w.heap.size+1+1,0,none⟩=some (.int .i64 0):=ae b3 rfl;have pc1:wb.cell? ⟨w.heap.size+1+1,1,none⟩=some (.slice none 0 0):=ae b3 rfl;have pf0:=ax 0 b3;have pf1:=ax 1 b3;rw [a3,Nat.mul_one,show (Value.int .u64 0).cells=[Value.int .u64 0].toArray from rfl] at oa;rw [b4,Nat.mul_one,show (Value.int .u64 0).cells=[Value.int .u64 0].toArray from rfl] at ob;have HMA:=Lib.hid (Uf (n:=n) ua a1 a2 oa);have HMB:=Lib.hid (Ug (n:=n) ub b1 b2 b3 ob);clear ua a1 a2 a3 ub b1 b2 b3 b4;clear oa ga ob gb;go_wp2_with fail
 go_region
 focus (
  have HM:=Lib.hid HMA.out;generalize wa.heap.size=B at HM;generalize w.heap.size+1+1=g at HM
  generalize (wa.alloc (.cells #[.int .i64 n,.slice (some ⟨g,0,none⟩) L L] 122 (0,0)))=W0 at HM)
 rotate_left
 focus (
  have HM:=Lib.hid HMB.out;generalize w.heap.size+1+1+1=g at HM;generalize w.heap.size+1+1=B at HM
  generalize ((wb.setCell ⟨B,0,none⟩ (.int .i64 n)).setCell ⟨B,1,none⟩ (.slice (some ⟨g,0,none⟩) L L))=W0 at HM)
 all_goals (
  clear HMA HMB pa0 pa1 pb0 pb1 pc0 pc1 pd0 pd1 pe0 pe1 pf0 pf1 pg0 pg1 ra rb q0 q1 pO OU
  have hd6:decide ((6:Int)<=(v:Int))=true:=by simp;omega
  obtain ⟨u,hu⟩ : ∃ u,v=u+6:=⟨v-6,by omega⟩
  have hvu:(v:Int)-6=(u:Int):=by omega
  have HVU:=Lib.hid hu
  have Ul:u<=9:=by omega
  have aqZ:(u:Int)<64:=by omega
  obtain ⟨s,hs⟩ : ∃ s,2 ^ u=s:=⟨_,rfl⟩
  have xe:1<=s/\s<=512:=by
   subst hs;refine ⟨Nat.two_pow_pos _,?_⟩
   calc 2 ^ u<=2 ^ 9:=Nat.pow_le_pow_right (by omega) Ul
    _=512:=rfl
  have SE:IntKind.i64.wrap (2 ^ u)=(s:Int):=by
   have h2:((2:Int) ^ u)=((2 ^ u:Nat):Int):=by push_cast;rfl
   rw [h2,hs];exact IntWalk.i64_in _ (by omega)
  have Ya:¬ ((s:Int)=0):=by omega
  have HIX:Hid (∀ x:Nat,x<L->∃ Q R P J0:Nat,wrap64 ((x:Int)/(s:Int))=(Q:Int)/\(Q:Int).tmod 2=(R:Int)/\wrap64 ((R:Int)*(s:Int))=(P:Int)/\wrap64 ((x:Int)-(P:Int))=(J0:Int)/\wrap64 ((J0:Int)+(s:Int))=((fP x (v-6) true:Nat):Int)/\fP x (v-6) false=J0):=fun x hx=>by
   rw [show v-6=u by have:=HVU.out;omega];exact X8 hs (by omega) (by omega)
  have HLT:Hid (∀ x,x<L->fP x (v-6) b<L):=fun x hx=>by
   have hw:=qI (n:=t.n) (by rw [HN.out.2];omega);have hlen:=HT.out.ok.len
   have hp:(2:Nat) ^ t.n=2 ^ (t.n-6)*64:=by
    have:t.n=(t.n-6)+6:=by rw [HN.out.2];omega
    conv=>lhs;rw [this,Nat.pow_add]
   have hwp:L=2 ^ (t.n-6):=by have:=HN.out.1;omega
   rw [hwp] at hx ⊢;exact G8 b hx (by rw [HN.out.2];omega)
  have HF0:Hid (jq (fun i=>t.ws.getD (fP i (v-6) b) 0) L 0=List.replicate L 0):=BM _ _;clear hs hu;go_wp2_with fail
  go_loopg [9] L (fun gg s9 wr=>∃ x:Nat,L-x=gg/\x<=L/\s9=.int .i64 x/\Eu w n L g B (.slice fa L ca) (jq (fun i=>t.ws.getD (fP i (v-6) b) 0) L x) wr)
  case atStart=>exact ⟨0,by omega,by omega,rfl,by rw [HF0.out];exact HM.out⟩
  case round =>
   obtain ⟨x,rfl,hx,rfl,hM⟩:=hrel;have t1:wr.cell? ⟨w.heap.size,1,none⟩=some (.slice fa L ca):=ae (j:=1) hM.tb rfl;have s0:wr.cell? ⟨B,0,none⟩=some (.int .i64 n):=ae (j:=0) hM.bx rfl;have s1:wr.cell? ⟨B,1,none⟩=some (.slice (some ⟨g,0,none⟩) L L):=ae (j:=1) hM.bx rfl
   by_cases aW:x<L
   ·have fF:(x:Int)<(L:Int):=by omega
    obtain ⟨ga,rfl⟩:=bC bF.out (by omega)
    have hr:=ai bF.out fun k hk=>hM.up.block k (bF.out.lt k hk).2 (by simp)
    obtain ⟨J,hJ⟩ : ∃ J,fP x (v-6) b=J:=⟨_,rfl⟩
    have hJL:J<L:=by rw [<- hJ];exact HLT.out x aW
    have hJi:(J:Int)<(L:Int):=by omega
    obtain ⟨X,hX⟩ : ∃ X,t.ws.getD J 0=X:=⟨_,rfl⟩
    have e0:t.ws[J]?=some X:=by rw [<- hX,List.getD_eq_getElem?_getD,List.getElem?_eq_getElem (by rw [HN.out.1];exact hJL)];rfl
    have cx:wr.cell? ⟨ga,J,none⟩=some (.int .u64 X):=au hr (by rw [fO,List.getElem?_map,e0];rfl);obtain ⟨Y,hY⟩ : ∃ Y,(jq (fun i=>t.ws.getD (fP i (v-6) b) 0) L x).getD x 0=Y:=⟨_,rfl⟩
    have e1:(jq (fun i=>t.ws.getD (fP i (v-6) b) 0) L x)[x]?=some Y:=by rw [<- hY,List.getD_eq_getElem?_getD,List.getElem?_eq_getElem (by rw [yJ];exact aW)];rfl
    have cy:wr.cell? ⟨g,x,none⟩=some (.int .u64 Y):=au hM.row (by rw [fO,List.getElem?_map,e1];rfl);have fy:=aS hM.row x;have oZ:=hM.set aW X
    have hpx:X=(fun i=>t.ws.getD (fP i (v-6) b) 0) x:=by show X=t.ws.getD (fP x (v-6) b) 0;rw [hJ,hX]
    rw [hpx,FO (fun i=>t.ws.getD (fP i (v-6) b) 0) aW,<- hpx] at oZ;have HE:=Lib.hid oZ;obtain ⟨Q,R,P,J0,hq,rQ,hm,hd,ha,hj⟩:=HIX.out x aW;clear hM oZ hr e0 e1 hX hY hpx
    cases b with
    | true =>
     rw [hJ] at ha;clear hj hJ;go_wp2_with fail
     go_region
     go_wp2_with fail
     go_roundg (L-(x+1))
     case measure=>omega
     case rel=>exact ⟨x+1,rfl,by omega,by simp,HE.out.upd ((af.refl [] _).drew)⟩
    | false =>
     obtain rfl:=hj.symm.trans hJ;clear hj ha;go_wp2_with fail
     go_region
     go_wp2_with fail
     go_roundg (L-(x+1))
     case measure=>omega
     case rel=>exact ⟨x+1,rfl,by omega,by simp,HE.out.upd ((af.refl [] _).drew)⟩
   ·obtain rfl:x=L:=by omega
    have fF:¬ ((x:Int)<(x:Int)):=by omega
    have z0:wr.cell? ⟨w.heap.size+1,0,none⟩=some (.int .i64 0):=ae (j:=0) hM.rs rfl;have z1:wr.cell? ⟨w.heap.size+1,1,none⟩=some (.slice none 0 0):=ae (j:=1) hM.rs rfl;have f0:=ax 0 hM.rs;have f1:=ax 1 hM.rs;have X7:=Lib.hid hM;clear hM;go_wp2_with fail;obtain ⟨b0,b1⟩:=Ql X7.out.rs (.int .i64 n) (.slice (some ⟨g,0,none⟩) x x);refine bodyPost_ret (v:=.agg #[.int .i64 n,.slice (some ⟨g,0,none⟩) x x]) (by simp [results,Tryz.results136,go_sem,b0,b1]) rfl ?_;have abT:=abL HT.out.ok hv6 (by rw [HN.out.2];exact hv) b;have abU:=MG (fun i=>t.ws.getD (fP i (v-6) b) 0) HN.out.1;have aC:=X7.out.row;rw [abU] at aC
    have mf:wr.ownsRow w.heap.size 90 1 (.slice (some ⟨g,0,none⟩) x x) (cO t v b).ws.length (fO (cO t v b).ws):=by
     rw [abT];have el:=Qq (fun i=>t.ws.getD (fP i (v-6) b) 0) HN.out.1
     show wr.ownsRow _ _ _ _ ((List.range t.ws.length).map fun i=>t.ws.getD (fP i (v-6) b) 0).length _
     rw [el];exact aC
    have hu:=(X7.out.up.setCell (p:=⟨w.heap.size+1,0,none⟩) (.inr (by show w.heap.size<=w.heap.size+1;omega)) (.int .i64 n)).setCell (p:=⟨w.heap.size+1,1,none⟩) (.inr (by show w.heap.size<=w.heap.size+1;omega)) (.slice (some ⟨g,0,none⟩) x x);have Lp:=X7.out.ne.2.1;have r1:=bf mf (a:=⟨w.heap.size+1,0,none⟩) (by simpa [Value.ownBlock] using Ne.symm Lp) (.int .i64 n);have r2:=bf r1 (a:=⟨w.heap.size+1,1,none⟩) (by simpa [Value.ownBlock] using Ne.symm Lp) (.slice (some ⟨g,0,none⟩) x x)
    exact ⟨_,by simp only [dI];rw [show (cO t v b).n=n from HN.out.2],⟨qJ HT.out.ok v b,r2⟩,hu⟩)
theorem xg (Z:List Nat) (c:Value) (t:TV) (v:Nat) (b:Bool) (w:World) (h:jG w Z c t) (hv:v<t.n) :
  Calls Tryz.prog 136 #[dI t c,.int .i64 v,.bool b] w fun e w'=>Jo (cO t v b) w e w':=by
 by_cases h6:v<6
 ·exact Qp Z c t v b w h hv h6
 ·exact X9 Z c t v b w h hv (by omega)
theorem dw {w w':World} {B:Nat} {x y:Value} (u:af [] w w') (h:w.cell? ⟨B,0,none⟩=some x/\w.cell? ⟨B,1,none⟩=some y):w'.cell? ⟨B,0,none⟩=some x/\w'.cell? ⟨B,1,none⟩=some y :=
 ⟨(u.cell (World.block_lt_of_cell? _ _ h.1) (by simp)).trans h.1,(u.cell (World.block_lt_of_cell? _ _ h.2) (by simp)).trans h.2⟩
theorem xh (Z:List Nat) (c:Value) (t:TV) (v:Nat) (w:World) (h:jG w Z c t) (hZ:∀ k,k∈Z->k<w.heap.size) (hv:v<t.n) (_hv6:v<64) :
  Calls Tryz.prog 134 #[dI t c,.int .i64 v] w fun e w'=>e=.returned (.bool (oW t v))/\af [] w w':=by
 obtain ⟨fa,ca,Qj,_⟩:=aj h.row;subst Qj
 have HX:Hid (∀ x:World,af [] w x->jG x Z (.slice fa t.ws.length ca) t):=fun x u=>h.keep0 u
 have HZ:Hid (∀ x:World,af [] w x->∀ k,k∈Z->k<x.heap.size):=fun x u k hk=>Nat.lt_of_lt_of_le (hZ k hk) u.size
 have jR:=Lib.hid ((af.refl [] w).alloc (.cells #[.int .i64 t.n,.slice fa t.ws.length ca] 122 (0,0)));have hb:=nH w (.int .i64 t.n) (.slice fa t.ws.length ca);have HD:Hid (oW t v=!decide (cO t v false=cO t v true)):=rfl;unfold dI;generalize hL:t.ws.length=L at *;generalize hn:t.n=n at *;have HN:=Lib.hid (And.intro hL hn);have HV:=Lib.hid hv;obtain ⟨b0,b1⟩:=hb;clear h hZ hL hn hv
 go_enter Tryz.func134,Tryz.ntmps134
 go_wp2_with fail;have HS:Hid (af [] w (w.alloc (.cells #[.int .i64 n,.slice fa L ca] 122 (0,0))).drew):=jR.out.drew
 go_region_held3 (fun w'=>w'.cell? ⟨w.heap.size,0,none⟩=some (.int .i64 n)/\w'.cell? ⟨w.heap.size,1,none⟩=some (.slice fa L ca)) (first | exact ⟨b0,b1⟩ | exact dw HF.out.2 ⟨b0,b1⟩ | exact dw (HF.out.2.trans HT.out.2) ⟨b0,b1⟩ | exact dw ((HF.out.2.trans HT.out.2).trans xm.out) ⟨b0,b1⟩) (first | (go_at_call_of 136 (Value.bool false);rw [<- HN.out.2] at *;refine (xg Z (.slice fa L ca) t v false _ (HX.out _ HS.out) HV.out).mono ?_;rintro e w3 hE;obtain ⟨cf,rfl,hT,hu⟩:=hE.ex;have HF:=Lib.hid (And.intro hT hu);clear hE hT hu) | (go_at_call_of 136 (Value.bool true);refine (xg Z (.slice fa L ca) t v true _ (HX.out _ (HS.out.trans HF.out.2)) HV.out).mono ?_;rintro e w4 hE;obtain ⟨ct,rfl,hT,hu⟩:=hE.ex;have HT:=Lib.hid (And.intro hT hu);clear hE hT hu) | (go_at_call 57;refine (mJ Z _ _ _ _ _ (((HF.out.1.keep HT.out.2).base HS.out.size).tin (HZ.out w (af.refl _ _))) ((HT.out.1.base (HS.out.trans HF.out.2).size).tin (HZ.out w (af.refl _ _)))).mono ?_;rintro e w5 ⟨rfl,hu⟩;have xm:=Lib.hid hu;clear hu))
 go_wp2_with fail;go_ret;exact ⟨by rw [HD.out];rfl,((HS.out.trans HF.out.2).trans HT.out.2).trans xm.out⟩
end Go.Proofs.YtfkopmhpppeheaaGreat
