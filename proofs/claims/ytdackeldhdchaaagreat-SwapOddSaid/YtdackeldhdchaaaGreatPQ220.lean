import Derived.Test.YtdackeldhdchaaaGreatPQ219
import Derived.Test.YtdackeldhdchaaaGreatPQ21
import Derived.Lib.Strings
import Derived.Lib.Slices
import Derived.Lib.Small
import Derived.Lib.Walk
import Derived.Lib.BitFns
import Derived.Sort.Row
import Derived.Sort.LotA
import Derived.WalkKit
import Derived.BigGuard
import Derived.BigCall
import Derived.CellFam
import Derived.Deep.Draws
import Derived.Deep.QuietTactic
import Derived.BigQuiet
import Derived.Sort.EncStr
import Derived.Sort.Grow
import Derived.Sort.LotD1
set_option maxRecDepth 100000
set_option maxHeartbeats 6400000
namespace Go.Proofs.YtdackeldhdchaaaGreat
open Go.RowKit Go.Maps Go.ChangeMaps Go.WideShapes
theorem Sub.up {S S':List Nat} {w:World} {g:Nat} (hs:Sub S w S') (hg:g∉S) (hl:g<w.heap.size):g∉S':=fun hm=>by
 rcases hs g hm with h | h
 ·exact hg h
 ·omega
theorem aHA (b l:Nat) (K:KV) (T:List DM) (q:abM) (w:World) (h:afF w b K T q) (hl:l+2<=K.vars)
  (HREF:∀ w0:World,Upd [] w w0->Calls Tryz.prog 187 #[.pointer (some ⟨q.t,0,none⟩),.int .i64 (K.order.getD l 0:Nat)] w0 fun e w'=>aGD K (K.order.getD l 0) w0 e w') :
  Calls Tryz.prog 79 #[.pointer (some ⟨b,0,none⟩),.int .i64 l] w fun e w'=>aCt b l K q w e w':=by
 have hw:=h.ok.wf;have hpm:=h.ok.ord.pm;have hvs:=hw.vs;have hol:=hpm.ol;have hll:=hpm.ll;have hx:=hpm.oo l (by omega);have hy:=hpm.oo (l+1) (by omega);obtain ⟨x,hxe⟩ : ∃ x,K.order.getD l 0=x:=⟨_,rfl⟩;obtain ⟨y,hye⟩ : ∃ y,K.order.getD (l+1) 0=y:=⟨_,rfl⟩
 have hxv:x<K.vars:=by rw [<- hxe];exact hx.1
 have hyv:y<K.vars:=by rw [<- hye];exact hy.1
 have HNB:Hid (Nb K l x y):=⟨h.ok,h.ti.uni h.ok.wf,hl,hxe,hye⟩;rw [hxe] at HREF;have hos:=h.mem.os;have hls:=h.mem.ls;obtain ⟨go,co,hqo,_,_⟩:=hos.form (by omega);obtain ⟨gl,cl,hql,_,_⟩:=hls.form (by omega);rw [hqo] at hos
 have b5:w.cell? ⟨b,5,none⟩=some (.slice (some ⟨go,0,none⟩) K.order.length co):=by rw [<- hqo];exact aac h.mem.blk rfl
 have o0:w.cell? ⟨go,l,none⟩=some (.int .i64 x):=by rw [<- hxe];exact ami hos (by omega)
 have o1:w.cell? ⟨go,l+1,none⟩=some (.int .i64 y):=by rw [<- hye];exact ami hos (by omega)
 have hli:(l:Int)<(K.order.length:Int):=by omega
 have a1V:(l:Int)+1<(K.order.length:Int):=by omega
 have a1W:0<=(l:Int)+1:=by omega
 have hw1:IntKind.i64.wrap ((l:Int)+1)=(l:Int)+1:=IntWalk.i64_in _ (by omega);have HK:=Lib.hid h;have HXY:=Lib.hid (And.intro hxe hye);have HRF:=Lib.hid HREF;have HPM:=Lib.hid hpm;clear hos hx hy HREF hls;clear h hqo hql hpm hw hxe hye
 go_enter Tryz.func79,Tryz.ntmps79
 go_wp2_with fail
 go_region
 have HK1:=Lib.hid (HK.out.upd ((Upd.refl [] w).drew) (by simp));clear b5 o0 o1;go_wp2_with fail;refine (ayS b l x y K T q _ HK1.out HNB.out (fun w0 u=>HRF.out w0 (((Upd.refl [] w).drew).trans u))).mono ?_;rintro e w1 hE;obtain ⟨C,la,lc,rfl,CA,C32,abP,hu⟩:=hE.ex;have HU1:=Lib.hid (((Upd.refl [] w).drew).trans hu);have aep:Hid (w1.ownsRow w.heap.size 226 8 (.slice la C.length lc) C.length (amN x C)):=abP;have hCl:=CA.len HK.out.ok.wf;obtain ⟨N,hN⟩:=FrN.exists K x (C.flatMap CrV.qs)
 have hNl:N.length<=2097152:=by
  have h1:N.length<=(C.flatMap CrV.qs).length:=List.Nodup.length_le_of_subset hN.nd fun p hp=>((hN.iff p).1 hp).1
  have e1:∀ l:List CrV,(l.flatMap CrV.qs).length=l.length*2:=fun l=>by
   induction l with
   | nil=>rfl
   | cons e l ih=>rw [List.flatMap_cons,List.length_append,ih,List.length_cons];simp [CrV.qs];omega
  rw [e1] at h1;omega
 have HCA:=Lib.hid (And.intro CA (And.intro C32 hN));clear hE CA C32 hN hu HK1 abP;go_wp2_with fail
 have HF:Hid (∀ n:Still w1,Calls Tryz.prog 144 #[.pointer (some ⟨b,0,none⟩),.int .i64 x,.slice la C.length lc] n.x fun e w2=>e=.returned (.int .i64 N.length)/\∃ m:Still w1,w2=m.x):=fun n =>
  (aFG b x K T q C la lc w.heap.size n.x ((HK.out.upd HU1.out (by simp)).upd n.u (by simp)) hxv HCA.out.2.1 hCl (aaX aep.out fun k hk=>n.u.block k (aep.out.lt k hk).2 (by simp))).mono fun e w2 hE=>by
   obtain ⟨N',rfl,hN',u⟩:=hE.ex;exact ⟨by rw [hN'.len_eq HCA.out.2.2],⟨_,n.u.trans u⟩,rfl⟩
 obtain ⟨bb,hbb⟩ : ∃ bb,K.room N.length=bb:=⟨_,rfl⟩
 have HR:Hid (∀ n:Still w1,Calls Tryz.prog 143 #[.pointer (some ⟨b,0,none⟩),.int .i64 N.length] n.x fun e w2=>e=.returned (.bool bb)/\∃ m:Still w1,w2=m.x):=fun n =>
  (aBo b N.length K T q n.x ((HK.out.upd HU1.out (by simp)).upd n.u (by simp)).mem (by omega) (by omega)).mono fun _ _ ⟨a,u⟩=>⟨by rw [a,hbb],⟨_,n.u.trans u⟩,rfl⟩
 have HBB:=Lib.hid hbb;clear hbb;refine wp_region_still (by kernel_rfl) (by kernel_rfl) ?_
 repeat (quiet_step ((first | (go_at_call 144;exact HF.out _) | (go_at_call 143;exact HR.out _))))
 refine wpQuiet_nil ?_;rintro _ ⟨n2,rfl⟩;have HU2:=Lib.hid (HU1.out.trans n2.u)
 have aGI:Hid (n2.x.ownsRow w.heap.size 226 8 (.slice la C.length lc) C.length (amN x C)):=aaX aep.out fun k hk=>n2.u.block k (aep.out.lt k hk).2 (by simp)
 obtain ⟨w2,hw2⟩ : ∃ w2,n2.x=w2:=⟨_,rfl⟩;rw [hw2] at HU2 aGI ⊢;clear HF HR aep HU1 hw2
 cases bb with
 | false =>
  have HE:Hid (aCt b l K q w (.returned (.bool false)) w2):=by
   refine ⟨C,N,by rw [HXY.out.1,HXY.out.2];exact HCA.out.1,by rw [HXY.out.1];exact HCA.out.2.2,.inl ⟨rfl,?_,HU2.out⟩⟩;have:=HBB.out
   simp [KV.room] at this;omega
  go_wp2_with fail;go_ret;exact HE.out
 | true =>
 have afQ:Hid (K.A.used+N.length<=K.A.places):=by
  have:=HBB.out
  simp [KV.room] at this
  show K.A.used+N.length<=K.A.places
  omega
 have HKE:Hid (∀ z:World,Upd (q.all b) w2 z->z.ownsRow w.heap.size 226 8 (.slice la C.length lc) C.length (amN x C)):=fun z u=>aaX aGI.out fun k hk=>u.block k (aGI.out.lt k hk).2 (fun hm=>by have h1:=(aGI.out.lt k hk).1;have h2:=HK.out.mem.lt k hm;omega)
 have HR0:Hid (aFH b K q C w2 0 w2):=⟨⟨T,(HK.out.upd HU2.out (by simp)).mem,by simpa using HK.out.ti⟩,Upd.refl _ _⟩;go_wp2_with fail
 go_loopg [47] C.length (fun gg s47 wr=>∃ i:Nat,C.length-i=gg/\i<=C.length/\s47=.int .i64 i/\aFH b K q C w2 i wr)
 case atStart=>exact ⟨0,by omega,by omega,rfl,HR0.out⟩
 case round =>
  obtain ⟨i,rfl,hi,rfl,hR⟩:=hrel
  by_cases hlt:i<C.length
  ·obtain ⟨c,hc⟩ : ∃ c,C[i]?=some c:=⟨_,List.getElem?_eq_getElem hlt⟩
   have abP:=HKE.out wr hR.up;obtain ⟨gc,rfl⟩:=aeP abP (by omega);have hg:=an7 x C i c hc;have c0:=abf abP (j:=i*8+0) (u:=.int .u32 c.r) (by rw [hg 0 (by omega)];rfl);have c1:=abf abP (j:=i*8+1) (u:=.int .i64 x) (by rw [hg 1 (by omega)];rfl);have c2:=abf abP (j:=i*8+2) (u:=.int .u32 c.lo) (by rw [hg 2 (by omega)];rfl);have c3:=abf abP (j:=i*8+3) (u:=.int .u32 c.hi) (by rw [hg 3 (by omega)];rfl);have c4:=abf abP (j:=i*8+4) (u:=.int .u32 c.a00) (by rw [hg 4 (by omega)];rfl);have c5:=abf abP (j:=i*8+5) (u:=.int .u32 c.a01) (by rw [hg 5 (by omega)];rfl);have c6:=abf abP (j:=i*8+6) (u:=.int .u32 c.a10) (by rw [hg 6 (by omega)];rfl);have c7:=abf abP (j:=i*8+7) (u:=.int .u32 c.a11) (by rw [hg 7 (by omega)];rfl);rw [Nat.add_zero] at c0
   have hil:(i:Int)<(C.length:Int):=by omega
   obtain ⟨T1,D1,hm,hD1,hh,h1,h2,aOa⟩:=hR.step hc HNB.out HCA.out.1;have hbx:=heap_alloc_new wr (.cells #[.int .u32 c.r,.int .i64 x,.int .u32 c.lo,.int .u32 c.hi,.int .u32 c.a00,.int .u32 c.a01,.int .u32 c.a10,.int .u32 c.a11] 226 (0,0));have hu0:=(Upd.refl [] wr).alloc (.cells #[.int .u32 c.r,.int .i64 x,.int .u32 c.lo,.int .u32 c.hi,.int .u32 c.a00,.int .u32 c.a01,.int .u32 c.a10,.int .u32 c.a11] 226 (0,0));have b1:=hu0.cellK (aac (j:=1) hm.blk rfl);have z1:=aac (j:=1) hbx rfl;have z2:=aac (j:=2) hbx rfl;have z3:=aac (j:=3) hbx rfl;have HX:=Lib.hid (And.intro hm (And.intro hD1 (And.intro hh (And.intro aOa (And.intro hR hu0)))));clear hm hD1 hh aOa hR hu0 hbx abP hg hc;go_wp2_with fail
   have HZ:Hid (∀ z:World,Upd q.FT (wr.alloc (.cells #[.int .u32 c.r,.int .i64 x,.int .u32 c.lo,.int .u32 c.hi,.int .u32 c.a00,.int .u32 c.a01,.int .u32 c.a10,.int .u32 c.a11] 226 (0,0))) z->z.cell? ⟨b,1,none⟩=some (.pointer (some ⟨q.t,0,none⟩))/\z.cell? ⟨wr.heap.size,1,none⟩=some (.int .i64 x)/\z.cell? ⟨wr.heap.size,2,none⟩=some (.int .u32 c.lo)/\z.cell? ⟨wr.heap.size,3,none⟩=some (.int .u32 c.hi)):=fun z u=>by
    have nb1:b∉q.FT:=fun hm=>by have e1:=HK.out.mem.ob;have e2:=HK.out.mem.ot b hm;omega
    have nb2:wr.heap.size∉q.FT:=fun hm=>by have:=HX.out.1.tab.lt _ hm;omega
    exact ⟨(u.cell (World.block_lt_of_cell? _ _ b1) nb1).trans b1,(u.cell (World.block_lt_of_cell? _ _ z1) nb2).trans z1,(u.cell (World.block_lt_of_cell? _ _ z2) nb2).trans z2,(u.cell (World.block_lt_of_cell? _ _ z3) nb2).trans z3⟩
   clear c0 c1 c2 c3 c4 c5 c6 c7
   go_region_held3 (fun z=>z.cell? ⟨b,1,none⟩=some (.pointer (some ⟨q.t,0,none⟩))/\z.cell? ⟨wr.heap.size,1,none⟩=some (.int .i64 x)/\z.cell? ⟨wr.heap.size,2,none⟩=some (.int .u32 c.lo)/\z.cell? ⟨wr.heap.size,3,none⟩=some (.int .u32 c.hi)) (first | exact HZ.out _ (Upd.refl _ _).drew | exact HZ.out _ (Upd.refl _ _) | exact HZ.out _ HU3.out) (first | (go_at_call 145;refine (aDI q.t q.FT x c.lo c.hi T1 D1 _ (HX.out.1.upd (by first | exact HX.out.2.2.2.2.2.drew | exact HX.out.2.2.2.2.2) (by simp)).tab HX.out.2.1 h1 h2 HX.out.2.2.1).mono ?_;rintro e w3 ⟨rfl,ha,hu⟩;have HN:=Lib.hid (HX.out.2.2.2.1 w3 ha ((HX.out.2.2.2.2.2.mono (by simp)).trans (by first | exact hu | exact (Upd.refl _ _).drew.trans hu)));have HU3:Hid (Upd q.FT (wr.alloc (.cells #[.int .u32 c.r,.int .i64 x,.int .u32 c.lo,.int .u32 c.hi,.int .u32 c.a00,.int .u32 c.a01,.int .u32 c.a10,.int .u32 c.a11] 226 (0,0))) w3):=(by first | exact hu | exact (Upd.refl _ _).drew.trans hu);clear ha hu))
   go_wp2_with fail
   go_roundg (C.length-(i+1))
   case measure=>omega
   case rel=>exact ⟨i+1,rfl,by omega,by simp,HN.out⟩
  ·obtain rfl:i=C.length:=by omega
   have hil:¬ ((C.length:Int)<(C.length:Int)):=by omega
   obtain ⟨T2,hT2⟩:=hR.done (N:=N) HNB.out HCA.out.1;have HT0:=Lib.hid hT2;clear hR hT2;go_wp2_with fail
   go_loopg [62] C.length (fun gg s62 wr=>∃ (i:Nat) (Ki:KV) (Ti:List DM) (qi:abM) (P:List Nat),C.length-i=gg/\i<=C.length/\s62=.int .i64 i/\aJM b l x y K q C N w2 i Ki Ti qi P wr)
   case atStart=>exact ⟨0,K,T2,q,[],by omega,by omega,rfl,HT0.out⟩
   case round =>
    obtain ⟨i,Ki,Ti,qi,P,rfl,hi,rfl,hR⟩:=hrel
    by_cases hlt:i<C.length
    ·obtain ⟨c,hc⟩ : ∃ c,C[i]?=some c:=⟨_,List.getElem?_eq_getElem hlt⟩
     have abP:=HKE.out wr hR.tx.up;obtain ⟨gc,rfl⟩:=aeP abP (by omega);have hg:=an7 x C i c hc;have c0:=abf abP (j:=i*8+0) (u:=.int .u32 c.r) (by rw [hg 0 (by omega)];rfl);have c1:=abf abP (j:=i*8+1) (u:=.int .i64 x) (by rw [hg 1 (by omega)];rfl);have c2:=abf abP (j:=i*8+2) (u:=.int .u32 c.lo) (by rw [hg 2 (by omega)];rfl);have c3:=abf abP (j:=i*8+3) (u:=.int .u32 c.hi) (by rw [hg 3 (by omega)];rfl);have c4:=abf abP (j:=i*8+4) (u:=.int .u32 c.a00) (by rw [hg 4 (by omega)];rfl);have c5:=abf abP (j:=i*8+5) (u:=.int .u32 c.a01) (by rw [hg 5 (by omega)];rfl);have c6:=abf abP (j:=i*8+6) (u:=.int .u32 c.a10) (by rw [hg 6 (by omega)];rfl);have c7:=abf abP (j:=i*8+7) (u:=.int .u32 c.a11) (by rw [hg 7 (by omega)];rfl);rw [Nat.add_zero] at c0
     have hil:(i:Int)<(C.length:Int):=by omega
     have hbx:=heap_alloc_new wr (.cells #[.int .u32 c.r,.int .i64 x,.int .u32 c.lo,.int .u32 c.hi,.int .u32 c.a00,.int .u32 c.a01,.int .u32 c.a10,.int .u32 c.a11] 226 (0,0));have hu0:=(Upd.refl [] wr).alloc (.cells #[.int .u32 c.r,.int .i64 x,.int .u32 c.lo,.int .u32 c.hi,.int .u32 c.a00,.int .u32 c.a01,.int .u32 c.a10,.int .u32 c.a11] 226 (0,0))
     have hbn:wr.heap.size∉qi.all b:=fun hm=>by have:=hR.tx.mem.lt _ hm;omega
     have hPl:P.length<=3000000:=by rw [hR.pe.length_eq,avL,List.length_take];omega
     have htx:=hR.tx;rw [(an9 hc).1,List.map_cons] at htx;have hq1:(c.a00,c.a10)∈C.flatMap CrV.qs:=List.mem_flatMap.2 ⟨c,List.mem_of_getElem? hc,by simp [CrV.qs]⟩;have hq2:(c.a01,c.a11)∈C.flatMap CrV.qs:=List.mem_flatMap.2 ⟨c,List.mem_of_getElem? hc,by simp [CrV.qs]⟩;have HD:=Lib.hid (And.intro hq1 (And.intro hq2 (And.intro (HCA.out.1.deep hq1) (HCA.out.1.deep hq2))));have HC0:=Lib.hid (And.intro (HCA.out.1.ok c (List.mem_of_getElem? hc)) hc);have HTX:=Lib.hid htx;have HRT:=Lib.hid hR
     have hsz:wr.heap.size<(wr.alloc (.cells #[.int .u32 c.r,.int .i64 x,.int .u32 c.lo,.int .u32 c.hi,.int .u32 c.a00,.int .u32 c.a01,.int .u32 c.a10,.int .u32 c.a11] 226 (0,0))).heap.size:=by rw [World.size_alloc];omega
     clear hR abP hg hc hq1 hq2 htx;go_wp2_with fail;obtain ⟨W1,hW1⟩ : ∃ W1,wr.alloc (.cells #[.int .u32 c.r,.int .i64 x,.int .u32 c.lo,.int .u32 c.hi,.int .u32 c.a00,.int .u32 c.a01,.int .u32 c.a10,.int .u32 c.a11] 226 (0,0))=W1:=⟨_,rfl⟩;rw [hW1] at hbx hu0 hsz ⊢;generalize wr.heap.size=sz at *;have HU0:=Lib.hid hu0;have HBX:=Lib.hid hbx;have HBN:=Lib.hid hbn
     have HC1:Hid (∀ z:World,Upd [] wr z->Calls Tryz.prog 146 #[.pointer (some ⟨b,0,none⟩),.int .i64 x,.int .u32 c.a00,.int .u32 c.a10] z fun e w'=>aDz b x c.a00 c.a10 Ki (c.r::(C.drop (i+1)).map CrV.r) qi z e w'):=fun z u=>HTX.out.getCall (p:=(c.a00,c.a10)) HNB.out HCA.out.2.2 HD.out.1 HD.out.2.2.1.1 HD.out.2.2.1.2 afQ.out u (by omega)
     have HS1:Hid (∀ z:World,Upd [] W1 z->z.cell? ⟨sz,4,none⟩=some (.int .u32 c.a00)/\z.cell? ⟨sz,6,none⟩=some (.int .u32 c.a10)):=fun z u=>by obtain ⟨_,_,_,z4,_,z6,_⟩:=aup HBX.out;exact ⟨u.cellK z4,u.cellK z6⟩
     clear c0 c1 c2 c3 c4 c5 c6 c7 hbx hu0 hbn hW1
     go_region_held3 (fun z=>z.cell? ⟨sz,4,none⟩=some (.int .u32 c.a00)/\z.cell? ⟨sz,6,none⟩=some (.int .u32 c.a10)) (first | exact HS1.out _ (Upd.refl _ _).drew | exact HS1.out _ (Upd.refl _ _) | exact HS2.out) (first | (go_at_call 146;refine (HC1.out _ (by first | exact HU0.out.drew | exact HU0.out)).mono ?_;rintro e wa hE;obtain ⟨lo,K1,T1,q1,rfl,G1,m1,t1,u1,s1,l1⟩:=hE.ex;have hBa:wa.heap[sz]?=some (.cells #[.int .u32 c.r,.int .i64 x,.int .u32 c.lo,.int .u32 c.hi,.int .u32 c.a00,.int .u32 c.a01,.int .u32 c.a10,.int .u32 c.a11] 226 (0,0)):=(u1.block sz hsz HBN.out).trans HBX.out;have HS2:Hid (wa.cell? ⟨sz,4,none⟩=some (.int .u32 c.a00)/\wa.cell? ⟨sz,6,none⟩=some (.int .u32 c.a10)):=⟨(aup hBa).2.2.2.1,(aup hBa).2.2.2.2.2.1⟩;have HBa:=Lib.hid hBa;have HG1:=Lib.hid (And.intro G1 (And.intro m1 (And.intro t1 (And.intro u1 (And.intro s1 l1)))));clear hE G1 m1 t1 u1 s1 hBa))
     have HC2:=Lib.hid (HTX.out.useCall (p:=(c.a00,c.a10)) HNB.out HD.out.2.2.1.1 HD.out.2.2.1.2 HG1.out.1 HG1.out.2.1 (by omega));have aFn:sz<wa.heap.size:=Nat.lt_of_lt_of_le hsz HG1.out.2.2.2.1.size;have HN1:Hid (sz∉q1.all b):=HG1.out.2.2.2.2.1.up HBN.out hsz;clear HS1 HS2;go_wp2_with fail;refine HC2.out.mono ?_;rintro e wb ⟨rfl,m2,u2⟩;have aMS:=Lib.hid (HTX.out.get (p:=(c.a00,c.a10)) HNB.out HCA.out.2.2 HD.out.1 HD.out.2.2.1.1 HD.out.2.2.1.2 afQ.out (by first | exact HU0.out.drew | exact HU0.out) HG1.out.1 HG1.out.2.2.1 HG1.out.2.2.2.1 HG1.out.2.2.2.2.1 m2 u2);have HBb:Hid (wb.heap[sz]?=some (.cells #[.int .u32 c.r,.int .i64 x,.int .u32 c.lo,.int .u32 c.hi,.int .u32 c.a00,.int .u32 c.a01,.int .u32 c.a10,.int .u32 c.a11] 226 (0,0))):=(u2.block sz aFn HN1.out).trans HBa.out;have aB4:sz<wb.heap.size:=Nat.lt_of_lt_of_le aFn u2.size;clear m2 u2 HC2 HBa HG1;go_wp2_with fail
     have HC3:Hid (∀ z:World,Upd [] wb z->Calls Tryz.prog 146 #[.pointer (some ⟨b,0,none⟩),.int .i64 x,.int .u32 c.a01,.int .u32 c.a11] z fun e w'=>aDz b x c.a01 c.a11 (K1.useA lo) (c.r::(C.drop (i+1)).map CrV.r) q1 z e w'):=fun z u=>aMS.out.getCall (p:=(c.a01,c.a11)) HNB.out HCA.out.2.2 HD.out.2.1 HD.out.2.2.2.1 HD.out.2.2.2.2 afQ.out u (by simp;omega)
     have HS3:Hid (∀ z:World,Upd [] wb z->z.cell? ⟨sz,5,none⟩=some (.int .u32 c.a01)/\z.cell? ⟨sz,7,none⟩=some (.int .u32 c.a11)):=fun z u=>by obtain ⟨_,_,_,_,z5,_,z7⟩:=aup HBb.out;exact ⟨u.cellK z5,u.cellK z7⟩
     go_region_held3 (fun z=>z.cell? ⟨sz,5,none⟩=some (.int .u32 c.a01)/\z.cell? ⟨sz,7,none⟩=some (.int .u32 c.a11)) (first | exact HS3.out _ (Upd.refl _ _).drew | exact HS3.out _ (Upd.refl _ _) | exact HS4.out) (first | (go_at_call 146;refine (HC3.out _ (by first | exact (Upd.refl _ _).drew | exact Upd.refl _ _)).mono ?_;rintro e wd hE;obtain ⟨hi',K2,T2,q2,rfl,G2,m3,t2,u3,s3,l2⟩:=hE.ex;have hBd:wd.heap[sz]?=some (.cells #[.int .u32 c.r,.int .i64 x,.int .u32 c.lo,.int .u32 c.hi,.int .u32 c.a00,.int .u32 c.a01,.int .u32 c.a10,.int .u32 c.a11] 226 (0,0)):=(u3.block sz aB4 HN1.out).trans HBb.out;have HS4:Hid (wd.cell? ⟨sz,5,none⟩=some (.int .u32 c.a01)/\wd.cell? ⟨sz,7,none⟩=some (.int .u32 c.a11)):=⟨(aup hBd).2.2.2.2.1,(aup hBd).2.2.2.2.2.2⟩;have HBd:=Lib.hid hBd;have HG2:=Lib.hid (And.intro G2 (And.intro m3 (And.intro t2 (And.intro u3 (And.intro s3 l2)))));clear hE G2 m3 t2 u3 s3 hBd))
     have HC4:=Lib.hid (aMS.out.useCall (p:=(c.a01,c.a11)) HNB.out HD.out.2.2.2.1 HD.out.2.2.2.2 HG2.out.1 HG2.out.2.1 (by simp;omega));have aSj:sz<wd.heap.size:=Nat.lt_of_lt_of_le aB4 HG2.out.2.2.2.1.size;have HN2:Hid (sz∉q2.all b):=HG2.out.2.2.2.2.1.up HN1.out aB4;clear HS3 HS4 HC3;go_wp2_with fail;refine HC4.out.mono ?_;rintro e we ⟨rfl,m4,u4⟩;have aMU:=Lib.hid (aMS.out.get (p:=(c.a01,c.a11)) HNB.out HCA.out.2.2 HD.out.2.1 HD.out.2.2.2.1 HD.out.2.2.2.2 afQ.out (by first | exact (Upd.refl _ _).drew | exact Upd.refl _ _) HG2.out.1 HG2.out.2.2.1 HG2.out.2.2.2.1 HG2.out.2.2.2.2.1 m4 u4);have hBe:we.heap[sz]?=some (.cells #[.int .u32 c.r,.int .i64 x,.int .u32 c.lo,.int .u32 c.hi,.int .u32 c.a00,.int .u32 c.a01,.int .u32 c.a10,.int .u32 c.a11] 226 (0,0)):=(u4.block sz aSj HN2.out).trans HBd.out;have aPB:sz<we.heap.size:=Nat.lt_of_lt_of_le aSj u4.size;have hxb:=heap_alloc_new we (.cells #[.int .i64 y,.int .u32 lo,.int .u32 hi'] 142 (0,0));have hxs:(we.alloc (.cells #[.int .i64 y,.int .u32 lo,.int .u32 hi'] 142 (0,0))).heap[sz]?=some (.cells #[.int .u32 c.r,.int .i64 x,.int .u32 c.lo,.int .u32 c.hi,.int .u32 c.a00,.int .u32 c.a01,.int .u32 c.a10,.int .u32 c.a11] 226 (0,0)):=(heap_alloc_old we _ aPB).trans hBe;have hxu:=(Upd.refl [] we).alloc (.cells #[.int .i64 y,.int .u32 lo,.int .u32 hi'] 142 (0,0))
     have hxn:we.heap.size∉q2.all b:=fun hm=>by have:=m4.lt _ hm;omega
     have hxl:we.heap.size<(we.alloc (.cells #[.int .i64 y,.int .u32 lo,.int .u32 hi'] 142 (0,0))).heap.size:=by rw [World.size_alloc];omega
     have hxa:=aac (j:=0) m4.blk rfl;clear m4 u4 HC4 HBd HG2 hBe aMS HBb;go_wp2_with fail;obtain ⟨W5,hW5⟩ : ∃ W5,we.alloc (.cells #[.int .i64 y,.int .u32 lo,.int .u32 hi'] 142 (0,0))=W5:=⟨_,rfl⟩;rw [hW5] at hxb hxs hxu hxl ⊢;generalize we.heap.size=s5 at *
     have aSk:Hid (∀ z:World,Upd [] we z->Calls Tryz.prog 148 #[.pointer (some ⟨q2.a,0,none⟩),.int .u32 c.r,.agg #[.int .i64 y,.int .u32 lo,.int .u32 hi']] z fun e w'=>e=.returned (.int .i64 0)/\∃ q1,abv w' b ((K2.useA hi').turnN c.r y lo hi') T2 q1/\q1.all b=q2.all b/\q1.t=q2.t/\q1.a=q2.a/\Upd (q2.all b) z w'):=fun z u=>aMU.out.setCall HNB.out HC0.out.1 u
     have HS5:Hid (∀ z:World,Upd [] W5 z->z.cell? ⟨b,0,none⟩=some (.pointer (some ⟨q2.a,0,none⟩))/\z.cell? ⟨sz,0,none⟩=some (.int .u32 c.r)/\z.cell? ⟨s5,0,none⟩=some (.int .i64 y)/\z.cell? ⟨s5,1,none⟩=some (.int .u32 lo)/\z.cell? ⟨s5,2,none⟩=some (.int .u32 hi')):=fun z u=>⟨u.cellK (hxu.cellK hxa),u.cellK (aup hxs).1,u.cellK (aac (j:=0) hxb rfl),u.cellK (aac (j:=1) hxb rfl),u.cellK (aac (j:=2) hxb rfl)⟩
     have HX5:=Lib.hid (And.intro hxb (And.intro hxs (And.intro hxu (And.intro hxn hxl))));have aWl:sz<W5.heap.size:=aa4 hxs;clear hxb hxs hxu hxn hxl hxa hW5
     go_region_held3 (fun z=>z.cell? ⟨b,0,none⟩=some (.pointer (some ⟨q2.a,0,none⟩))/\z.cell? ⟨sz,0,none⟩=some (.int .u32 c.r)/\z.cell? ⟨s5,0,none⟩=some (.int .i64 y)/\z.cell? ⟨s5,1,none⟩=some (.int .u32 lo)/\z.cell? ⟨s5,2,none⟩=some (.int .u32 hi')) (first | exact HS5.out _ (Upd.refl _ _).drew | exact HS5.out _ (Upd.refl _ _) | exact HS6.out) (first | (go_at_call 148;refine (aSk.out _ (by first | exact HX5.out.2.2.1.drew | exact HX5.out.2.2.1)).mono ?_;rintro e wf ⟨rfl,q3,m5,e5,et5,ea5,u5⟩;have hb5:wf.heap[s5]?=some (.cells #[.int .i64 y,.int .u32 lo,.int .u32 hi'] 142 (0,0)):=(u5.block s5 HX5.out.2.2.2.2 HX5.out.2.2.2.1).trans HX5.out.1;have hs5:wf.heap[sz]?=some (.cells #[.int .u32 c.r,.int .i64 x,.int .u32 c.lo,.int .u32 c.hi,.int .u32 c.a00,.int .u32 c.a01,.int .u32 c.a10,.int .u32 c.a11] 226 (0,0)):=(u5.block sz aWl HN2.out).trans HX5.out.2.1;have HS6:Hid (wf.cell? ⟨b,0,none⟩=some (.pointer (some ⟨q2.a,0,none⟩))/\wf.cell? ⟨sz,0,none⟩=some (.int .u32 c.r)/\wf.cell? ⟨s5,0,none⟩=some (.int .i64 y)/\wf.cell? ⟨s5,1,none⟩=some (.int .u32 lo)/\wf.cell? ⟨s5,2,none⟩=some (.int .u32 hi')):=⟨by rw [<- ea5];exact aac (j:=0) m5.blk rfl,(aup hs5).1,aac (j:=0) hb5 rfl,aac (j:=1) hb5 rfl,aac (j:=2) hb5 rfl⟩;have HM5:=Lib.hid (And.intro m5 (And.intro e5 (And.intro et5 (And.intro u5 (And.intro hb5 hs5)))));clear m5 e5 et5 u5 hb5 hs5))
     clear HS5 HS6 aSk;go_wp2_with fail;obtain ⟨DY,hDY,aSl⟩:=aMU.out.addCall HNB.out HC0.out.1 (w1:=wf.drew) (HM5.out.1.upd ((Upd.refl [] wf).drew) (by simp));have aSm:=Lib.hid aSl;have HDY:=Lib.hid hDY
     have HS7:Hid (∀ z:World,Upd [] wf z->z.cell? ⟨b,1,none⟩=some (.pointer (some ⟨q3.t,0,none⟩))/\z.cell? ⟨sz,0,none⟩=some (.int .u32 c.r)/\z.cell? ⟨s5,0,none⟩=some (.int .i64 y)/\z.cell? ⟨s5,1,none⟩=some (.int .u32 lo)/\z.cell? ⟨s5,2,none⟩=some (.int .u32 hi')):=fun z u=>⟨u.cellK (aac (j:=1) HM5.out.1.blk rfl),u.cellK (aup HM5.out.2.2.2.2.2).1,u.cellK (aac (j:=0) HM5.out.2.2.2.2.1 rfl),u.cellK (aac (j:=1) HM5.out.2.2.2.2.1 rfl),u.cellK (aac (j:=2) HM5.out.2.2.2.2.1 rfl)⟩
     have aWn:sz<wf.heap.size:=aa4 HM5.out.2.2.2.2.2;have aWo:s5<wf.heap.size:=aa4 HM5.out.2.2.2.2.1
     have HN3:Hid (sz∉q3.all b/\s5∉q3.all b):=by rw [show q3.all b=q2.all b from HM5.out.2.1];exact ⟨HN2.out,HX5.out.2.2.2.1⟩
     clear aSl hDY
     go_region_held3 (fun z=>z.cell? ⟨b,1,none⟩=some (.pointer (some ⟨q3.t,0,none⟩))/\z.cell? ⟨sz,0,none⟩=some (.int .u32 c.r)/\z.cell? ⟨s5,0,none⟩=some (.int .i64 y)/\z.cell? ⟨s5,1,none⟩=some (.int .u32 lo)/\z.cell? ⟨s5,2,none⟩=some (.int .u32 hi')) (first | exact HS7.out _ (Upd.refl _ _).drew | exact HS7.out _ (Upd.refl _ _) | exact HS8.out) (first | (go_at_call 149;refine aSm.out.mono ?_;rintro e wg ⟨rfl,m6,u6⟩;have hb6:wg.heap[s5]?=some (.cells #[.int .i64 y,.int .u32 lo,.int .u32 hi'] 142 (0,0)):=(u6.block s5 aWo HN3.out.2).trans HM5.out.2.2.2.2.1;have hs6:wg.heap[sz]?=some (.cells #[.int .u32 c.r,.int .i64 x,.int .u32 c.lo,.int .u32 c.hi,.int .u32 c.a00,.int .u32 c.a01,.int .u32 c.a10,.int .u32 c.a11] 226 (0,0)):=(u6.block sz aWn HN3.out.1).trans HM5.out.2.2.2.2.2;have HS8:Hid (wg.cell? ⟨b,1,none⟩=some (.pointer (some ⟨q3.t,0,none⟩))/\wg.cell? ⟨sz,0,none⟩=some (.int .u32 c.r)/\wg.cell? ⟨s5,0,none⟩=some (.int .i64 y)/\wg.cell? ⟨s5,1,none⟩=some (.int .u32 lo)/\wg.cell? ⟨s5,2,none⟩=some (.int .u32 hi')):=⟨aac (j:=1) m6.blk rfl,(aup hs6).1,aac (j:=0) hb6 rfl,aac (j:=1) hb6 rfl,aac (j:=2) hb6 rfl⟩;have HM6:=Lib.hid (And.intro m6 u6);clear m6 u6 hb6 hs6))
     have aSo:=Lib.hid (HRT.out.step HC0.out.2 aMU.out HNB.out HCA.out.1 HCA.out.2.2 HDY.out (HX5.out.2.2.1.drew) HM5.out.2.2.2.1 HM5.out.2.1 ((Upd.refl [] wf).drew) HM6.out.1 HM6.out.2);clear HS7 HS8 aSm HM5 HM6 HX5 aMU HTX HRT HN1 HN2 HN3;go_wp2_with fail
     go_roundg (C.length-(i+1))
     case measure=>omega
     case rel=>exact ⟨i+1,_,_,_,_,rfl,by omega,by simp,aSo.out⟩
    ·obtain rfl:i=C.length:=by omega
     have hil:¬ ((C.length:Int)<(C.length:Int)):=by omega
     obtain ⟨D,M,st,_⟩:=hR.tx.st;rw [List.drop_length] at st;have hpe:=hR.pe;rw [List.take_length] at hpe;have HLS:Hid (avM b Ki q (C.flatMap fun c=>[c.lo,c.hi]) w2 Ki Ti qi wr):=⟨hR.tx.mem,st.wf.perm hpe,st.ti,KV.Le.refl _,st.pos,hR.tx.up,hR.tx.sub⟩;have aHB:=Lib.hid (And.intro st.mid (And.intro st.wf (And.intro hR.nil (st.ti.uni st.wf))));clear hR st hpe HT0 HR0;go_wp2_with fail
     go_loopg [119] C.length (fun gg s119 wr=>∃ (i:Nat) (K3:KV) (T3:List DM) (q3:abM),C.length-i=gg/\i<=C.length/\s119=.int .i64 i/\avM b Ki q ((C.drop i).flatMap fun c=>[c.lo,c.hi]) w2 K3 T3 q3 wr/\(i=0->K3=Ki))
     case atStart=>exact ⟨0,Ki,Ti,qi,by omega,by omega,rfl,HLS.out,fun _=>rfl⟩
     case round =>
      clear HLS;obtain ⟨i,K3,T3,q3,rfl,hi,rfl,hR,hi0⟩:=hrel;have HI0:=Lib.hid hi0;clear hi0
      by_cases hlt:i<C.length
      ·obtain ⟨c,hc⟩ : ∃ c,C[i]?=some c:=⟨_,List.getElem?_eq_getElem hlt⟩
       have abP:=HKE.out wr hR.up;obtain ⟨gc,rfl⟩:=aeP abP (by omega);have hg:=an7 x C i c hc;have c0:=abf abP (j:=i*8+0) (u:=.int .u32 c.r) (by rw [hg 0 (by omega)];rfl);have c1:=abf abP (j:=i*8+1) (u:=.int .i64 x) (by rw [hg 1 (by omega)];rfl);have c2:=abf abP (j:=i*8+2) (u:=.int .u32 c.lo) (by rw [hg 2 (by omega)];rfl);have c3:=abf abP (j:=i*8+3) (u:=.int .u32 c.hi) (by rw [hg 3 (by omega)];rfl);have c4:=abf abP (j:=i*8+4) (u:=.int .u32 c.a00) (by rw [hg 4 (by omega)];rfl);have c5:=abf abP (j:=i*8+5) (u:=.int .u32 c.a01) (by rw [hg 5 (by omega)];rfl);have c6:=abf abP (j:=i*8+6) (u:=.int .u32 c.a10) (by rw [hg 6 (by omega)];rfl);have c7:=abf abP (j:=i*8+7) (u:=.int .u32 c.a11) (by rw [hg 7 (by omega)];rfl);rw [Nat.add_zero] at c0
       have hil:(i:Int)<(C.length:Int):=by omega
       have hbx:=heap_alloc_new wr (.cells #[.int .u32 c.r,.int .i64 x,.int .u32 c.lo,.int .u32 c.hi,.int .u32 c.a00,.int .u32 c.a01,.int .u32 c.a10,.int .u32 c.a11] 226 (0,0));have hu0:=(Upd.refl [] wr).alloc (.cells #[.int .u32 c.r,.int .i64 x,.int .u32 c.lo,.int .u32 c.hi,.int .u32 c.a00,.int .u32 c.a01,.int .u32 c.a10,.int .u32 c.a11] 226 (0,0))
       have hbn:wr.heap.size∉q3.all b:=fun hm=>by have:=hR.mem.lt _ hm;omega
       have hcl:((C.drop (i+1)).flatMap fun c=>[c.lo,c.hi]).length<=3000000:=by rw [avL,List.length_drop];omega
       rw [(an9 hc).1,List.flatMap_cons] at hR
       have HRL:Hid (∀ z:World,Upd [] wr z->Calls Tryz.prog 88 #[.pointer (some ⟨b,0,none⟩),.int .u32 c.lo] z fun e w'=>e=.returned (.tuple #[])/\∃ K' T' q',avM b Ki q (c.hi::(C.drop (i+1)).flatMap fun c=>[c.lo,c.hi]) w2 K' T' q' w'/\Upd (q3.all b) z w'/\Sub (q3.all b) z (q'.all b)):=fun z u=>(hR.keep0 u).call (by show (c.hi::(C.drop (i+1)).flatMap fun c=>[c.lo,c.hi]).length<=_;rw [List.length_cons];omega)
       have hsz:wr.heap.size<(wr.alloc (.cells #[.int .u32 c.r,.int .i64 x,.int .u32 c.lo,.int .u32 c.hi,.int .u32 c.a00,.int .u32 c.a01,.int .u32 c.a10,.int .u32 c.a11] 226 (0,0))).heap.size:=by rw [World.size_alloc];omega
       clear hR abP hg hc;go_wp2_with fail;obtain ⟨W1,hW1⟩ : ∃ W1,wr.alloc (.cells #[.int .u32 c.r,.int .i64 x,.int .u32 c.lo,.int .u32 c.hi,.int .u32 c.a00,.int .u32 c.a01,.int .u32 c.a10,.int .u32 c.a11] 226 (0,0))=W1:=⟨_,rfl⟩;rw [hW1] at hbx hu0 hsz ⊢;generalize wr.heap.size=sz at *;have HU0:=Lib.hid hu0;have HBX:=Lib.hid hbx;have HBN:=Lib.hid hbn
       have HS1:Hid (∀ z:World,Upd [] W1 z->z.cell? ⟨sz,2,none⟩=some (.int .u32 c.lo)):=fun z u=>u.cellK (aup HBX.out).2.1
       clear c0 c1 c2 c3 c4 c5 c6 c7 hbx hu0 hbn hW1
       go_region_held3 (fun z=>z.cell? ⟨sz,2,none⟩=some (.int .u32 c.lo)) (first | exact HS1.out _ (Upd.refl _ _).drew | exact HS1.out _ (Upd.refl _ _) | exact HS2.out) (first | (go_at_call 88;refine (HRL.out _ (by first | exact HU0.out.drew | exact HU0.out)).mono ?_;rintro e wa ⟨rfl,K4,T4,q4,r4,u4,s4⟩;have hBa:wa.heap[sz]?=some (.cells #[.int .u32 c.r,.int .i64 x,.int .u32 c.lo,.int .u32 c.hi,.int .u32 c.a00,.int .u32 c.a01,.int .u32 c.a10,.int .u32 c.a11] 226 (0,0)):=(u4.block sz hsz HBN.out).trans HBX.out;have HS2:Hid (wa.cell? ⟨sz,2,none⟩=some (.int .u32 c.lo)):=(aup hBa).2.1;have HBa:=Lib.hid hBa;have HR4:=Lib.hid (And.intro r4 (And.intro u4 s4));clear r4 u4 s4 hBa))
       clear HS1 HS2 HRL;go_wp2_with fail
       have HS3:Hid (∀ z:World,Upd [] wa z->z.cell? ⟨sz,3,none⟩=some (.int .u32 c.hi)):=fun z u=>u.cellK (aup HBa.out).2.2.1
       have HRL:Hid (∀ z:World,Upd [] wa z->Calls Tryz.prog 88 #[.pointer (some ⟨b,0,none⟩),.int .u32 c.hi] z fun e w'=>e=.returned (.tuple #[])/\∃ K' T' q',avM b Ki q ((C.drop (i+1)).flatMap fun c=>[c.lo,c.hi]) w2 K' T' q' w'/\Upd (q4.all b) z w'/\Sub (q4.all b) z (q'.all b)):=fun z u=>(HR4.out.1.keep0 u).call (by omega)
       have aFn:sz<wa.heap.size:=aa4 HBa.out;have HN4:Hid (sz∉q4.all b):=HR4.out.2.2.up HBN.out hsz
       go_region_held3 (fun z=>z.cell? ⟨sz,3,none⟩=some (.int .u32 c.hi)) (first | exact HS3.out _ (Upd.refl _ _).drew | exact HS3.out _ (Upd.refl _ _) | exact HS4.out) (first | (go_at_call 88;refine (HRL.out _ (by first | exact (Upd.refl _ _).drew | exact (Upd.refl _ _))).mono ?_;rintro e wb ⟨rfl,K5,T5,q5,r5,u5,s5'⟩;have hBb:wb.heap[sz]?=some (.cells #[.int .u32 c.r,.int .i64 x,.int .u32 c.lo,.int .u32 c.hi,.int .u32 c.a00,.int .u32 c.a01,.int .u32 c.a10,.int .u32 c.a11] 226 (0,0)):=(u5.block sz aFn HN4.out).trans HBa.out;have HS4:Hid (wb.cell? ⟨sz,3,none⟩=some (.int .u32 c.hi)):=(aup hBb).2.2.1;have HR5:=Lib.hid r5;clear r5 u5 s5' hBb))
       clear HS3 HS4 HRL HR4;go_wp2_with fail
       go_roundg (C.length-(i+1))
       case measure=>omega
       case rel=>exact ⟨i+1,K5,T5,q5,rfl,by omega,by simp,HR5.out,fun h=>by omega⟩
      ·obtain rfl:i=C.length:=by omega
       have hil:¬ ((C.length:Int)<(C.length:Int)):=by omega
       rw [List.drop_length,List.flatMap_nil] at hR;obtain ⟨aSq,hex⟩:=aCs.of HNB.out aHB.out.1 aHB.out.2.1 aHB.out.2.2.2 hR.le hR.wf hR.pos;have hm:=hR.mem;have ho3:K3.order=K.order:=hR.le.od.trans aHB.out.1.od;have hl3:K3.level=K.level:=hR.le.lv.trans aHB.out.1.lv;have hos:=hm.os;have hls:=hm.ls;rw [ho3] at hos;rw [hl3] at hls;obtain ⟨go3,co3,hqo,_,_⟩:=hos.form (by omega);obtain ⟨gl3,cl3,hql,_,_⟩:=hls.form (by omega);rw [hqo] at hos;rw [hql] at hls
       have b5:wr.cell? ⟨b,5,none⟩=some (.slice (some ⟨go3,0,none⟩) K.order.length co3):=by rw [<- hqo];exact aac hm.blk rfl
       have b6:wr.cell? ⟨b,6,none⟩=some (.slice (some ⟨gl3,0,none⟩) K.level.length cl3):=by rw [<- hql];exact aac hm.blk rfl
       have o0:wr.cell? ⟨go3,l,none⟩=some (.int .i64 (K.order.getD l 0:Nat)):=ami hos (by omega);have o1:wr.cell? ⟨go3,l+1,none⟩=some (.int .i64 (K.order.getD (l+1) 0:Nat)):=ami hos (by omega);have l0:wr.cell? ⟨gl3,x,none⟩=some (.int .i64 (K.lev x:Nat)):=ami hls (by omega);have l1:wr.cell? ⟨gl3,y,none⟩=some (.int .i64 (K.lev y:Nat)):=ami hls (by omega);have f0:=aci hos l;have f1:=aci hos (l+1);have g0:=aci hls x;have g1:=aci hls y
       have hxl:(x:Int)<(K.level.length:Int):=by omega
       have hyl:(y:Int)<(K.level.length:Int):=by omega
       have hgo:go3≠gl3:=by
        rintro rfl;have e1:=hm.oo go3 (by rw [hqo];rfl);have e2:=hm.ol go3 (by rw [hql];rfl);omega
       have hbo:b≠go3:=by
        rintro rfl;have e1:=hm.oo b (by rw [hqo];rfl);have e2:=hm.ob;omega
       have hbl:b≠gl3:=by
        rintro rfl;have e1:=hm.ol b (by rw [hql];rfl);have e2:=hm.ob;omega
       have hxy:x≠y:=HNB.out.facts.2.2.2.2
       have HE:Hid (aCt b l K q w (.returned (.bool true)) ((((wr.setCell ⟨go3,l,none⟩ (.int .i64 y)).setCell ⟨go3,l+1,none⟩ (.int .i64 x)).setCell ⟨gl3,x,none⟩ (.int .i64 ((l:Int)+1))).setCell ⟨gl3,y,none⟩ (.int .i64 l)).drew.drew):=by
        have hE:=aJs (l:=l) hm hqo hql (by rw [ho3];omega) (by rw [ho3];omega) (by rw [ho3,hl3,HXY.out.1];omega) (by rw [ho3,hl3,HXY.out.2];omega);rw [ho3,HXY.out.1,HXY.out.2] at hE;refine ⟨C,N,by rw [HXY.out.1,HXY.out.2];exact HCA.out.1,by rw [HXY.out.1];exact HCA.out.2.2,.inr ⟨rfl,afQ.out,K3.swapK l,T3,q3,hex,fun e=>?_,⟨hE.1,hR.ti.same rfl rfl,aSq⟩,((HU2.out.mono (by simp)).trans hR.up).then hE.2 fun k hk=>?_,fun k hk=>?_⟩⟩
        ·rw [HI0.out (by rw [e];rfl),aHB.out.2.2.1 e]
        ·rcases hR.sub k hk with h | h
         ·exact .inl h
         ·have:=HU2.out.size;right;omega
        ·rcases hR.sub k hk with h | h
         ·exact .inl h
         ·have:=HU2.out.size;right;omega
       rw [HXY.out.1] at o0;rw [HXY.out.2] at o1;clear hR aSq hex hm ho3 hl3 hos hls hqo hql;go_wp2_with fail
       go_region
       go_wp2_with fail
       go_region
       go_wp2_with fail;go_ret;exact HE.out
end Go.Proofs.YtdackeldhdchaaaGreat
namespace Go.Proofs.YtdackeldhdchaaaGreat.Srt
theorem anH (i:Int) (h:i.toNat<Lib.len8tab.size) (h0:0<=i):((Lib.len8tab[i.toNat]'h).toNat:Int)=(Lib.bitLen i.toNat:Int):=by
 have h1:=Lib.len8_of i h0 (by rw [Lib.len8tab_size] at h;omega);unfold Lib.len8 at h1;rw [getElem?_pos Lib.len8tab i.toNat h] at h1;exact h1
theorem amW {a b:Nat} (s:Nat) (h1:a<=8) (h2:s<=56) (h3:b=s+a):Go.RowKit.wrap64 ((s:Int)+Go.RowKit.wrap64 (a:Int))=(b:Int):=by
 subst h3;unfold Go.RowKit.wrap64;omega
theorem aHC {a:Nat} (h1:a<=8):Go.RowKit.wrap64 (Go.RowKit.wrap64 (a:Int))=(a:Int):=by
 unfold Go.RowKit.wrap64;omega
theorem SoR.bits_Len64 (x:Int) (w:World) (h0:0≤x) (h1:x≤18446744073709551615) :
    Calls Tryz.prog 242 #[.int .u64 x] w fun e w'=>e=.returned (.int .i64 (Lib.bitLen x.toNat))∧w'=w:=by
  have hd0:0≤x / 4294967296 / 65536 / 256:=by omega
  have hd1:0≤x / 4294967296 / 65536:=by omega
  have hd2:0≤x / 4294967296 / 256:=by omega
  have hd3:0≤x / 4294967296:=by omega
  have hd4:0≤x / 65536 / 256:=by omega
  have hd5:0≤x / 65536:=by omega
  have hd6:0≤x / 256:=by omega
  go_enter Tryz.func242,Tryz.ntmps242
  go_wp2
  all_goals first
    | (exfalso; have hs:=Lib.len8tab_size; omega)
    | (go_ret
       refine ⟨congrArg Ending.returned (congrArg (Value.int IntKind.i64) ?_),rfl⟩
       simp only [anH (x / 4294967296 / 65536 / 256) _ hd0,anH (x / 4294967296 / 65536) _ hd1,anH (x / 4294967296 / 256) _ hd2,anH (x / 4294967296) _ hd3,anH (x / 65536 / 256) _ hd4,anH (x / 65536) _ hd5,anH (x / 256) _ hd6,anH _ _ h0]
       first
       | exact amW 56 (Lib.bitLen_le8' (x / 4294967296 / 65536 / 256) hd0 (by omega)) (by omega) (by rw [show (x / 4294967296 / 65536 / 256).toNat=x.toNat / 72057594037927936 by omega]; exact Lib.bitLen_shift56 x.toNat (by omega) (by omega))
       | exact amW 48 (Lib.bitLen_le8' (x / 4294967296 / 65536) hd1 (by omega)) (by omega) (by rw [show (x / 4294967296 / 65536).toNat=x.toNat / 281474976710656 by omega]; exact Lib.bitLen_shift48 x.toNat (by omega) (by omega))
       | exact amW 40 (Lib.bitLen_le8' (x / 4294967296 / 256) hd2 (by omega)) (by omega) (by rw [show (x / 4294967296 / 256).toNat=x.toNat / 1099511627776 by omega]; exact Lib.bitLen_shift40 x.toNat (by omega) (by omega))
       | exact amW 32 (Lib.bitLen_le8' (x / 4294967296) hd3 (by omega)) (by omega) (by rw [show (x / 4294967296).toNat=x.toNat / 4294967296 by omega]; exact Lib.bitLen_shift32 x.toNat (by omega) (by omega))
       | exact amW 24 (Lib.bitLen_le8' (x / 65536 / 256) hd4 (by omega)) (by omega) (by rw [show (x / 65536 / 256).toNat=x.toNat / 16777216 by omega]; exact Lib.bitLen_shift24 x.toNat (by omega) (by omega))
       | exact amW 16 (Lib.bitLen_le8' (x / 65536) hd5 (by omega)) (by omega) (by rw [show (x / 65536).toNat=x.toNat / 65536 by omega]; exact Lib.bitLen_shift16 x.toNat (by omega) (by omega))
       | exact amW 8 (Lib.bitLen_le8' (x / 256) hd6 (by omega)) (by omega) (by rw [show (x / 256).toNat=x.toNat / 256 by omega]; exact Lib.bitLen_shift8 x.toNat (by omega) (by omega))
       | exact aHC (Lib.bitLen_le8' x h0 (by omega)))
theorem SoR.bits_Len (x:Int) (w:World) (h0:0<=x) (h1:x<=18446744073709551615) :
  Calls Tryz.prog 231 #[.int .u64 x] w fun e w'=>e=.returned (.int .i64 (Lib.bitLen x.toNat))/\w'=w:=by
 go_enter Tryz.func231,Tryz.ntmps231
 go_wp2_with (go_at_call 242;refine (SoR.bits_Len64 x _ h0 h1).mono ?_;rintro e w' ⟨rfl,rfl⟩)
 go_ret;exact ⟨rfl,rfl⟩
theorem SoR.cmp_isNaN_int (x:Int) (w:World):Calls Tryz.prog 248 #[.int .u32 x] w fun e w'=>e=.returned (.bool false)/\w'=w:=by
 go_enter Tryz.func248,Tryz.ntmps248
 go_wp2
 go_ret;exact ⟨by simp,rfl⟩
theorem SoR.cmp_Less_int (x y:Int) (w:World):Calls Tryz.prog 238 #[.int .u32 x,.int .u32 y] w fun e w'=>e=.returned (.bool (Sort.ltInt x y))/\w'=w:=by
 go_enter Tryz.func238,Tryz.ntmps238
 go_wp2_with (go_at_call 248;refine (SoR.cmp_isNaN_int _ _).mono ?_;rintro e w' ⟨rfl,rfl⟩)
 go_ret;exact ⟨rfl,rfl⟩
end Go.Proofs.YtdackeldhdchaaaGreat.Srt
namespace Go.Proofs.YtdackeldhdchaaaGreat.Srt
open Go.RowKit Go.Sort
def intOf:Value->Int | .int _ q=>q | _=>0
section
variable {α : Type} [Inhabited α] (lt:α->α->Bool)
theorem aDK (a j:Nat) (d:Array α) (hj:a<j) (hl:lt d[j]! d[j-1]! = true):insInner lt a j d=insInner lt a (j-1) (swp d j (j-1)):=by
 obtain ⟨k,rfl⟩ : ∃ k,j=k+1:=⟨j-1,by omega⟩;rw [insInner]
 simp only [Nat.add_sub_cancel] at hl ⊢
 simp [hj,hl]
theorem aAm (a j:Nat) (d:Array α) (h:j<=a\/lt d[j]! d[j-1]! = false):insInner lt a j d=d:=by
 cases j with
 | zero=>rw [insInner]
 | succ k =>
  rw [insInner]
  simp only [Nat.add_sub_cancel] at h
  rcases h with h | h
  ·simp [show ¬ k+1 > a by omega]
  ·simp [h]
theorem aDN (a b i:Nat) (d:Array α) (h:i<b):insOuter lt a b i d=insOuter lt a b (i+1) (insInner lt a i d):=by rw [insOuter,if_pos h]
theorem aAt (a b i:Nat) (d:Array α) (h:¬ i<b):insOuter lt a b i d=d:=by rw [insOuter,if_neg h]
end
section
variable {α : Type} [Inhabited α] (enc:α->Value)
theorem adz (w:World) (m q blk off:Nat) (d:Array α):(putRow enc (Sort.ahead w m) blk off d).drewN q=putRow enc (Sort.ahead w (m+q)) blk off d:=by
 show Sort.ahead (putRow enc (Sort.ahead w m) blk off d) q=_
 rw [putRow_ahead enc w m,ahead_ahead,<- putRow_ahead]
theorem aiW (w:World) (m q blk off:Nat) (d:Array α) (j k:Nat) (hj:j<d.size) (hk:k<d.size) :
  (((putRow enc (Sort.ahead w m) blk off d).drewN q).setCell ⟨blk,off+j,none⟩ (enc d[k]!)).setCell ⟨blk,off+k,none⟩ (enc d[j]!)=putRow enc (Sort.ahead w (m+q)) blk off (swp d j k):=by
 rw [adz];exact putRow_swp enc _ blk off d j k hj hk
end
theorem SoR.insertionSort_int (blk off cap a b:Nat) (d:Array Int) (w:World) (hH:Holds (Value.int .u32) w blk off d) (hab:a<=b) (hb:b<=d.size) (hsz:d.size<4611686018427387904) :
  Calls Tryz.prog 232 #[.slice (some ⟨blk,off,none⟩) d.size cap,.int .i64 a,.int .i64 b] w fun e w' =>
   e=.returned (.tuple #[])/\∃ n,w'=putRow (Value.int .u32) (Sort.ahead w n) blk off (Sort.insertionSort ltInt d a b):=by
 go_enter Tryz.func232,Tryz.ntmps232
 go_wp2
 go_loopw [6] (fun vi wr=>∃ (i n:Nat) (dk:Array Int),vi=.int .i64 i/\a<i/\i<=b+1/\dk.size=d.size/\wr=putRow (Value.int .u32) (Sort.ahead w n) blk off dk /\
   insOuter ltInt a b i dk=insOuter ltInt a b (a+1) d) (fun vi _=>b+1-(intOf vi).toNat)
 case atStart=>exact ⟨a+1,0,d,by go_num,by omega,by omega,rfl,(putRow_self _ _ _ _ _ hH).symm,rfl⟩
 case round =>
  obtain ⟨i,n,dk,rfl,hai,hib,hsk,hwr,hO⟩:=hrel;have HO:Hid (insOuter ltInt a b i dk=insOuter ltInt a b (a+1) d):=hO;clear hO
  go_wp2
  ·-- i<b: the inner loop
   go_loopw [7] (fun vj wr2=>∃ (j m:Nat) (dj:Array Int),vj=.int .i64 j/\a<=j/\j<=i/\dj.size=d.size/\wr2=putRow (Value.int .u32) (Sort.ahead w m) blk off dj /\
     insInner ltInt a j dj=insInner ltInt a i dk) (fun vj _=>(intOf vj).toNat)
   case atStart=>exact ⟨i,n,dk,rfl,by omega,Nat.le_refl _,hsk,rfl,rfl⟩
   case round =>
    obtain ⟨j,m,dj,rfl,haj,hji,hsj,hw2,hI⟩:=hrel
    have hlt:i<b:=by assumption
    obtain ⟨G,hG⟩ : ∃ G:Nat->Int,∀ t,G t=dj[t]! := ⟨fun t=>dj[t]!,fun _=>rfl⟩
    have hcw:∀ t,t<d.size->wr.cell? ⟨blk,off+t,none⟩=some (.int .u32 (G t)):=fun t ht=>by
     rw [hw2,hG];exact cell?_putRow _ _ _ _ d dj (holds_ahead _ _ _ _ _ _ hH) hsj t (by omega)
    have hfw:∀ t,t<d.size->wr.frozen? ⟨blk,off+t,none⟩=false:=fun t ht=>by
     rw [hw2,frozen?_putRow];exact ((holds_ahead _ _ m _ _ _ hH) t ht).2
    have HW:Hid (wr=putRow (Value.int .u32) (Sort.ahead w m) blk off dj):=hw2;have HG:Hid (∀ t,G t=dj[t]!):=hG;have HI:Hid (insInner ltInt a j dj=insInner ltInt a i dk):=hI;clear hw2 hG hI hH
    have out:(j<=a\/ltInt dj[j]! dj[j-1]! = false)->∀ q,∃ i' n' dk',Value.int .i64 ((i:Int)+1)=.int .i64 (i':Nat)/\a<i'/\i'<=b+1/\dk'.size=d.size /\
      wr.drewN q=putRow (Value.int .u32) (Sort.ahead w n') blk off dk'/\insOuter ltInt a b i' dk'=insOuter ltInt a b (a+1) d:=fun hs q =>
     ⟨i+1,m+q,dj,by go_num,by omega,by omega,hsj,by rw [HW.out];exact adz _ _ _ _ _ _ _,
      by rw [<- HO.out,aDN _ _ _ _ _ hlt,<- HI.out,aAm _ _ _ _ hs]⟩
    have OUT:Hid _:=out;clear out
    go_wp2
    by_cases hja:a<j
    ·go_quiet (first | (go_at_call 238;refine Calls.quiet_of_same (SoR.cmp_Less_int _ _ _)))
     go_wp2
     ·-- Less: the swap,j--
      have hl:ltInt (G j) (G (j-1))=true:=by assumption
      go_region
      all_goals go_wp2
      go_roundw
      case rel =>
       refine ⟨j-1,m+(nq+1),swp dj j (j-1),by congr 1;omega,by omega,by omega,by rw [size_swp];exact hsj,?_,?_⟩
       ·rw [HW.out,HG.out,HG.out]
        exact aiW _ w m (nq+1) blk off dj j (j-1) (by omega) (by omega)
       ·rw [<- HI.out,aDK ltInt a j dj hja (by rw [<- HG.out,<- HG.out];exact hl)]
      case measure=>simp [intOf];omega
     ·-- not Less
      have hl:ltInt (G j) (G (j-1))=false:=by assumption
      go_roundw
      case rel=>exact OUT.out (Or.inr (by rw [<- HG.out,<- HG.out];exact hl)) nq
      case measure=>simp [intOf];omega
    ·go_quiet (first | (go_at_call 238;refine Calls.quiet_of_same (SoR.cmp_Less_int _ _ _)))
     go_wp2
     go_roundw
     case rel=>exact OUT.out (Or.inl (by omega)) nq
     case measure=>simp [intOf];omega
  ·-- the outer loop is at its end
   have hge:¬ i<b:=by assumption
   go_end0;exact ⟨rfl,n,by unfold Sort.insertionSort;rw [<- HO.out,aAt _ _ _ _ _ hge]⟩
end Go.Proofs.YtdackeldhdchaaaGreat.Srt
namespace Go.Proofs.YtdackeldhdchaaaGreat.Srt
open Go.RowKit Go.Sort
theorem aBt (x:Nat) (h:x<2 ^ 64):Lib.bitLen x=bitsLen x:=by
 induction x using Nat.strongRecOn with
 | _ x ih =>
  by_cases h0:x=0
  ·subst h0;rfl
  ·rw [Lib.bitLen_half x h0 h,ih (x/2) (by omega) (by omega)]
   unfold bitsLen;rw [if_neg h0,Nat.log2_def x]
   by_cases h2:2<=x
   ·rw [if_pos h2,if_neg (by omega)];omega
   ·obtain rfl:x=1:=by omega
    simp
def aws:Prop:=∀ (blk off cap a b limit:Nat) (d:Array Int) (w:World),Holds (Value.int .u32) w blk off d->blk<w.heap.size->a<=b->b<=d.size->d.size<4611686018427387904->limit<4611686018427387904->Below ltInt a b d ->
 Calls Tryz.prog 230 #[.slice (some ⟨blk,off,none⟩) d.size cap,.int .i64 a,.int .i64 b,.int .i64 limit] w fun e w' =>
  e=.returned (.tuple #[])/\∃ n os,w'=grow (putRow (Value.int .u32) (Sort.ahead w n) blk off (Sort.pdq ltInt d a b limit true true)) os
theorem SoR.Sort_int (aWu:aws) (blk off cap:Nat) (d:Array Int) (w:World) (hH:Holds (Value.int .u32) w blk off d) (ais:blk<w.heap.size) (hsz:d.size<4611686018427387904) :
  Calls Tryz.prog 226 #[.slice (some ⟨blk,off,none⟩) d.size cap] w fun e w'=>e=.returned (.tuple #[])/\∃ n os,w'=grow (putRow (Value.int .u32) (Sort.ahead w n) blk off (Sort.sort ltInt d)) os:=by
 have HH:Hid (Holds (Value.int .u32) w blk off d):=hH;clear hH
 have aPF:∀ w,Calls Tryz.prog 231 #[.int .u64 (d.size:Int)] w fun e w'=>e=.returned (.int .i64 (bitsLen d.size:Nat))/\w'=w:=fun w=>by
  have h:=SoR.bits_Len (d.size:Int) w (by omega) (by omega)
  rwa [Int.toNat_natCast,aBt _ (by omega)] at h
 have hk:bitsLen d.size<=62:=(bitsLen_le_iff d.size 62).2 (by omega)
 go_enter Tryz.func226,Tryz.ntmps226
 go_wp2_with (first
  | (go_at_call 231;refine (aPF _).mono ?_;rintro e w' ⟨rfl,rfl⟩)
  | (go_at_call 230;refine (aWu blk off cap 0 d.size (bitsLen d.size) d _ (by exact HH.out) (by exact ais) (Nat.zero_le _) (Nat.le_refl _) hsz (by omega) (Or.inl rfl)).mono ?_;rintro e w' ⟨rfl,n,os,rfl⟩))
 go_end0;exact ⟨rfl,n,os,rfl⟩
end Go.Proofs.YtdackeldhdchaaaGreat.Srt
