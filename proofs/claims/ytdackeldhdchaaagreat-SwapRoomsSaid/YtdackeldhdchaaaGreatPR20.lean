import Derived.Test.YtdackeldhdchaaaGreatPR19
import Derived.Test.YtdackeldhdchaaaGreatPR1
import Derived.Lib.Strings
import Derived.Lib.Slices
import Derived.Lib.Small
import Derived.Lib.Walk
import Derived.Lib.BitFns
import Derived.Sort.Row
import Derived.Sort.LotA
import Derived.WalkKit
import Derived.BigGuard
import Derived.BigCall
import Derived.CellFam
import Derived.Deep.Draws
import Derived.Deep.QuietTactic
import Derived.BigQuiet
import Derived.Sort.EncStr
import Derived.Sort.Grow
import Derived.Sort.LotD1
set_option maxRecDepth 100000
set_option maxHeartbeats 6400000
namespace Go.Proofs.YtdackeldhdchaaaGreat
open Go.RowKit Go.Maps Go.ChangeMaps Go.WideShapes
theorem Sub.up {S S':List Nat} {w:World} {g:Nat} (hs:Sub S w S') (hg:g∉S) (hl:g<w.heap.size):g∉S':=fun hm=>by
 rcases hs g hm with h | h
 ·exact hg h
 ·omega
theorem Ia (b l:Nat) (K:KV) (T:List DM) (q:aA) (w:World) (h:dH w b K T q) (hl:l+2<=K.vars)
  (HREF:∀ w0:World,af [] w w0->Calls Tryz.prog 187 #[.pointer (some ⟨q.t,0,none⟩),.int .i64 (K.order.getD l 0:Nat)] w0 fun e w'=>Gf K (K.order.getD l 0) w0 e w') :
  Calls Tryz.prog 79 #[.pointer (some ⟨b,0,none⟩),.int .i64 l] w fun e w'=>Aa b l K q w e w':=by
 have hw:=h.ok.wf;have JG:=h.ok.ord.pm;have DJ:=hw.vs;have zC:=JG.ol;have uH:=JG.ll;have hx:=JG.oo l (by omega);have hy:=JG.oo (l+1) (by omega);obtain ⟨x,O3⟩ : ∃ x,K.order.getD l 0=x:=⟨_,rfl⟩;obtain ⟨y,QD⟩ : ∃ y,K.order.getD (l+1) 0=y:=⟨_,rfl⟩
 have SN:x<K.vars:=by rw [<- O3];exact hx.1
 have SS:y<K.vars:=by rw [<- QD];exact hy.1
 have oD:Hid (Nb K l x y):=⟨h.ok,h.ti.uni h.ok.wf,hl,O3,QD⟩;rw [O3] at HREF;have lY:=h.mem.os;have DN:=h.mem.ls;obtain ⟨go,co,NZ,_,_⟩:=lY.form (by omega);obtain ⟨gl,cl,N7,_,_⟩:=DN.form (by omega);rw [NZ] at lY
 have b5:w.cell? ⟨b,5,none⟩=some (.slice (some ⟨go,0,none⟩) K.order.length co):=by rw [<- NZ];exact ae h.mem.blk rfl
 have o0:w.cell? ⟨go,l,none⟩=some (.int .i64 x):=by rw [<- O3];exact jl lY (by omega)
 have o1:w.cell? ⟨go,l+1,none⟩=some (.int .i64 y):=by rw [<- QD];exact jl lY (by omega)
 have YV:(l:Int)<(K.order.length:Int):=by omega
 have ags:(l:Int)+1<(K.order.length:Int):=by omega
 have agt:0<=(l:Int)+1:=by omega
 have mg:IntKind.i64.wrap ((l:Int)+1)=(l:Int)+1:=IntWalk.i64_in _ (by omega);have HK:=Lib.hid h;have Ci:=Lib.hid (And.intro O3 QD);have HRF:=Lib.hid HREF;have HPM:=Lib.hid JG;clear lY hx hy HREF DN;clear h NZ N7 JG hw O3 QD
 go_enter Tryz.func79,Tryz.ntmps79
 go_wp2_with fail
 go_region
 have zO:=Lib.hid (HK.out.upd ((af.refl [] w).drew) (by simp));clear b5 o0 o1;go_wp2_with fail;refine (vU b l x y K T q _ zO.out oD.out (fun w0 u=>HRF.out w0 (((af.refl [] w).drew).trans u))).mono ?_;rintro e w1 hE;obtain ⟨C,la,lc,rfl,CA,C32,aB,hu⟩:=hE.ex;have iH:=Lib.hid (((af.refl [] w).drew).trans hu);have bQ:Hid (w1.ownsRow w.heap.size 226 8 (.slice la C.length lc) C.length (jE x C)):=aB;have hCl:=CA.len HK.out.ok.wf;obtain ⟨N,hN⟩:=lI.exists K x (C.flatMap bV.qs)
 have hNl:N.length<=2097152:=by
  have h1:N.length<=(C.flatMap bV.qs).length:=List.Nodup.length_le_of_subset hN.nd fun p hp=>((hN.iff p).1 hp).1
  have e1:∀ l:List bV,(l.flatMap bV.qs).length=l.length*2:=fun l=>by
   induction l with
   | nil=>rfl
   | cons e l ih=>rw [List.flatMap_cons,List.length_append,ih,List.length_cons];simp [bV.qs];omega
  rw [e1] at h1;omega
 have rO:=Lib.hid (And.intro CA (And.intro C32 hN));clear hE CA C32 hN hu zO aB;go_wp2_with fail
 have HF:Hid (∀ n:Still w1,Calls Tryz.prog 144 #[.pointer (some ⟨b,0,none⟩),.int .i64 x,.slice la C.length lc] n.x fun e w2=>e=.returned (.int .i64 N.length)/\∃ m:Still w1,w2=m.x):=fun n =>
  (EM b x K T q C la lc w.heap.size n.x ((HK.out.upd iH.out (by simp)).upd n.u (by simp)) SN rO.out.2.1 hCl (ah bQ.out fun k hk=>n.u.block k (bQ.out.lt k hk).2 (by simp))).mono fun e w2 hE=>by
   obtain ⟨N',rfl,hN',u⟩:=hE.ex;exact ⟨by rw [hN'.len_eq rO.out.2.2],⟨_,n.u.trans u⟩,rfl⟩
 obtain ⟨bb,xJ⟩ : ∃ bb,K.room N.length=bb:=⟨_,rfl⟩
 have HR:Hid (∀ n:Still w1,Calls Tryz.prog 143 #[.pointer (some ⟨b,0,none⟩),.int .i64 N.length] n.x fun e w2=>e=.returned (.bool bb)/\∃ m:Still w1,w2=m.x):=fun n =>
  (yV b N.length K T q n.x ((HK.out.upd iH.out (by simp)).upd n.u (by simp)).mem (by omega) (by omega)).mono fun _ _ ⟨a,u⟩=>⟨by rw [a,xJ],⟨_,n.u.trans u⟩,rfl⟩
 have FK:=Lib.hid xJ;clear xJ;refine wp_region_still (by kernel_rfl) (by kernel_rfl) ?_
 repeat (quiet_step ((first | (go_at_call 144;exact HF.out _) | (go_at_call 143;exact HR.out _))))
 refine wpQuiet_nil ?_;rintro _ ⟨n2,rfl⟩;have dF:=Lib.hid (iH.out.trans n2.u)
 have Gl:Hid (n2.x.ownsRow w.heap.size 226 8 (.slice la C.length lc) C.length (jE x C)):=ah bQ.out fun k hk=>n2.u.block k (bQ.out.lt k hk).2 (by simp)
 obtain ⟨w2,eQ⟩ : ∃ w2,n2.x=w2:=⟨_,rfl⟩;rw [eQ] at dF Gl ⊢;clear HF HR bQ iH eQ
 cases bb with
 | false =>
  have HE:Hid (Aa b l K q w (.returned (.bool false)) w2):=by
   refine ⟨C,N,by rw [Ci.out.1,Ci.out.2];exact rO.out.1,by rw [Ci.out.1];exact rO.out.2.2,.inl ⟨rfl,?_,dF.out⟩⟩;have:=FK.out
   simp [KV.room] at this;omega
  go_wp2_with fail;go_ret;exact HE.out
 | true =>
 have dL:Hid (K.A.used+N.length<=K.A.places):=by
  have:=FK.out
  simp [KV.room] at this
  show K.A.used+N.length<=K.A.places
  omega
 have HKE:Hid (∀ z:World,af (q.all b) w2 z->z.ownsRow w.heap.size 226 8 (.slice la C.length lc) C.length (jE x C)):=fun z u=>ah Gl.out fun k hk=>u.block k (Gl.out.lt k hk).2 (fun hm=>by have h1:=(Gl.out.lt k hk).1;have h2:=HK.out.mem.lt k hm;omega)
 have HR0:Hid (EN b K q C w2 0 w2):=⟨⟨T,(HK.out.upd dF.out (by simp)).mem,by simpa using HK.out.ti⟩,af.refl _ _⟩;go_wp2_with fail
 go_loopg [47] C.length (fun gg s47 wr=>∃ i:Nat,C.length-i=gg/\i<=C.length/\s47=.int .i64 i/\EN b K q C w2 i wr)
 case atStart=>exact ⟨0,by omega,by omega,rfl,HR0.out⟩
 case round =>
  obtain ⟨i,rfl,hi,rfl,hR⟩:=hrel
  by_cases aZ:i<C.length
  ·obtain ⟨c,hc⟩ : ∃ c,C[i]?=some c:=⟨_,List.getElem?_eq_getElem aZ⟩
   have aB:=HKE.out wr hR.up;obtain ⟨gc,rfl⟩:=bY aB (by omega);have hg:=kH x C i c hc;have c0:=ax aB (j:=i*8+0) (u:=.int .u32 c.r) (by rw [hg 0 (by omega)];rfl);have c1:=ax aB (j:=i*8+1) (u:=.int .i64 x) (by rw [hg 1 (by omega)];rfl);have c2:=ax aB (j:=i*8+2) (u:=.int .u32 c.lo) (by rw [hg 2 (by omega)];rfl);have c3:=ax aB (j:=i*8+3) (u:=.int .u32 c.hi) (by rw [hg 3 (by omega)];rfl);have c4:=ax aB (j:=i*8+4) (u:=.int .u32 c.a00) (by rw [hg 4 (by omega)];rfl);have c5:=ax aB (j:=i*8+5) (u:=.int .u32 c.a01) (by rw [hg 5 (by omega)];rfl);have c6:=ax aB (j:=i*8+6) (u:=.int .u32 c.a10) (by rw [hg 6 (by omega)];rfl);have c7:=ax aB (j:=i*8+7) (u:=.int .u32 c.a11) (by rw [hg 7 (by omega)];rfl);rw [Nat.add_zero] at c0
   have fE:(i:Int)<(C.length:Int):=by omega
   obtain ⟨T1,D1,hm,hD1,hh,h1,h2,QE⟩:=hR.step hc oD.out rO.out.1;have bf:=heap_alloc_new wr (.cells #[.int .u32 c.r,.int .i64 x,.int .u32 c.lo,.int .u32 c.hi,.int .u32 c.a00,.int .u32 c.a01,.int .u32 c.a10,.int .u32 c.a11] 226 (0,0));have jY:=(af.refl [] wr).alloc (.cells #[.int .u32 c.r,.int .i64 x,.int .u32 c.lo,.int .u32 c.hi,.int .u32 c.a00,.int .u32 c.a01,.int .u32 c.a10,.int .u32 c.a11] 226 (0,0));have b1:=jY.cellK (ae (j:=1) hm.blk rfl);have z1:=ae (j:=1) bf rfl;have z2:=ae (j:=2) bf rfl;have z3:=ae (j:=3) bf rfl;have HX:=Lib.hid (And.intro hm (And.intro hD1 (And.intro hh (And.intro QE (And.intro hR jY)))));clear hm hD1 hh QE hR jY bf aB hg hc;go_wp2_with fail
   have HZ:Hid (∀ z:World,af q.FT (wr.alloc (.cells #[.int .u32 c.r,.int .i64 x,.int .u32 c.lo,.int .u32 c.hi,.int .u32 c.a00,.int .u32 c.a01,.int .u32 c.a10,.int .u32 c.a11] 226 (0,0))) z->z.cell? ⟨b,1,none⟩=some (.pointer (some ⟨q.t,0,none⟩))/\z.cell? ⟨wr.heap.size,1,none⟩=some (.int .i64 x)/\z.cell? ⟨wr.heap.size,2,none⟩=some (.int .u32 c.lo)/\z.cell? ⟨wr.heap.size,3,none⟩=some (.int .u32 c.hi)):=fun z u=>by
    have nb1:b∉q.FT:=fun hm=>by have e1:=HK.out.mem.ob;have e2:=HK.out.mem.ot b hm;omega
    have nb2:wr.heap.size∉q.FT:=fun hm=>by have:=HX.out.1.tab.lt _ hm;omega
    exact ⟨(u.cell (World.block_lt_of_cell? _ _ b1) nb1).trans b1,(u.cell (World.block_lt_of_cell? _ _ z1) nb2).trans z1,(u.cell (World.block_lt_of_cell? _ _ z2) nb2).trans z2,(u.cell (World.block_lt_of_cell? _ _ z3) nb2).trans z3⟩
   clear c0 c1 c2 c3 c4 c5 c6 c7
   go_region_held3 (fun z=>z.cell? ⟨b,1,none⟩=some (.pointer (some ⟨q.t,0,none⟩))/\z.cell? ⟨wr.heap.size,1,none⟩=some (.int .i64 x)/\z.cell? ⟨wr.heap.size,2,none⟩=some (.int .u32 c.lo)/\z.cell? ⟨wr.heap.size,3,none⟩=some (.int .u32 c.hi)) (first | exact HZ.out _ (af.refl _ _).drew | exact HZ.out _ (af.refl _ _) | exact HZ.out _ jQ.out) (first | (go_at_call 145;refine (Cf q.t q.FT x c.lo c.hi T1 D1 _ (HX.out.1.upd (by first | exact HX.out.2.2.2.2.2.drew | exact HX.out.2.2.2.2.2) (by simp)).tab HX.out.2.1 h1 h2 HX.out.2.2.1).mono ?_;rintro e w3 ⟨rfl,ha,hu⟩;have HN:=Lib.hid (HX.out.2.2.2.1 w3 ha ((HX.out.2.2.2.2.2.mono (by simp)).trans (by first | exact hu | exact (af.refl _ _).drew.trans hu)));have jQ:Hid (af q.FT (wr.alloc (.cells #[.int .u32 c.r,.int .i64 x,.int .u32 c.lo,.int .u32 c.hi,.int .u32 c.a00,.int .u32 c.a01,.int .u32 c.a10,.int .u32 c.a11] 226 (0,0))) w3):=(by first | exact hu | exact (af.refl _ _).drew.trans hu);clear ha hu))
   go_wp2_with fail
   go_roundg (C.length-(i+1))
   case measure=>omega
   case rel=>exact ⟨i+1,rfl,by omega,by simp,HN.out⟩
  ·obtain rfl:i=C.length:=by omega
   have fE:¬ ((C.length:Int)<(C.length:Int)):=by omega
   obtain ⟨T2,O4⟩:=hR.done (N:=N) oD.out rO.out.1;have Ou:=Lib.hid O4;clear hR O4;go_wp2_with fail
   go_loopg [62] C.length (fun gg s62 wr=>∃ (i:Nat) (Ki:KV) (Ti:List DM) (qi:aA) (P:List Nat),C.length-i=gg/\i<=C.length/\s62=.int .i64 i/\KL b l x y K q C N w2 i Ki Ti qi P wr)
   case atStart=>exact ⟨0,K,T2,q,[],by omega,by omega,rfl,Ou.out⟩
   case round =>
    obtain ⟨i,Ki,Ti,qi,P,rfl,hi,rfl,hR⟩:=hrel
    by_cases aZ:i<C.length
    ·obtain ⟨c,hc⟩ : ∃ c,C[i]?=some c:=⟨_,List.getElem?_eq_getElem aZ⟩
     have aB:=HKE.out wr hR.tx.up;obtain ⟨gc,rfl⟩:=bY aB (by omega);have hg:=kH x C i c hc;have c0:=ax aB (j:=i*8+0) (u:=.int .u32 c.r) (by rw [hg 0 (by omega)];rfl);have c1:=ax aB (j:=i*8+1) (u:=.int .i64 x) (by rw [hg 1 (by omega)];rfl);have c2:=ax aB (j:=i*8+2) (u:=.int .u32 c.lo) (by rw [hg 2 (by omega)];rfl);have c3:=ax aB (j:=i*8+3) (u:=.int .u32 c.hi) (by rw [hg 3 (by omega)];rfl);have c4:=ax aB (j:=i*8+4) (u:=.int .u32 c.a00) (by rw [hg 4 (by omega)];rfl);have c5:=ax aB (j:=i*8+5) (u:=.int .u32 c.a01) (by rw [hg 5 (by omega)];rfl);have c6:=ax aB (j:=i*8+6) (u:=.int .u32 c.a10) (by rw [hg 6 (by omega)];rfl);have c7:=ax aB (j:=i*8+7) (u:=.int .u32 c.a11) (by rw [hg 7 (by omega)];rfl);rw [Nat.add_zero] at c0
     have fE:(i:Int)<(C.length:Int):=by omega
     have bf:=heap_alloc_new wr (.cells #[.int .u32 c.r,.int .i64 x,.int .u32 c.lo,.int .u32 c.hi,.int .u32 c.a00,.int .u32 c.a01,.int .u32 c.a10,.int .u32 c.a11] 226 (0,0));have jY:=(af.refl [] wr).alloc (.cells #[.int .u32 c.r,.int .i64 x,.int .u32 c.lo,.int .u32 c.hi,.int .u32 c.a00,.int .u32 c.a01,.int .u32 c.a10,.int .u32 c.a11] 226 (0,0))
     have WJ:wr.heap.size∉qi.all b:=fun hm=>by have:=hR.tx.mem.lt _ hm;omega
     have hPl:P.length<=3000000:=by rw [hR.pe.length_eq,qY,List.length_take];omega
     have lK:=hR.tx;rw [(kJ hc).1,List.map_cons] at lK;have hq1:(c.a00,c.a10)∈C.flatMap bV.qs:=List.mem_flatMap.2 ⟨c,List.mem_of_getElem? hc,by simp [bV.qs]⟩;have DR:(c.a01,c.a11)∈C.flatMap bV.qs:=List.mem_flatMap.2 ⟨c,List.mem_of_getElem? hc,by simp [bV.qs]⟩;have HD:=Lib.hid (And.intro hq1 (And.intro DR (And.intro (rO.out.1.deep hq1) (rO.out.1.deep DR))));have zN:=Lib.hid (And.intro (rO.out.1.ok c (List.mem_of_getElem? hc)) hc);have YW:=Lib.hid lK;have Gm:=Lib.hid hR
     have df:wr.heap.size<(wr.alloc (.cells #[.int .u32 c.r,.int .i64 x,.int .u32 c.lo,.int .u32 c.hi,.int .u32 c.a00,.int .u32 c.a01,.int .u32 c.a10,.int .u32 c.a11] 226 (0,0))).heap.size:=by rw [World.size_alloc];omega
     clear hR aB hg hc hq1 DR lK;go_wp2_with fail;obtain ⟨W1,WL⟩ : ∃ W1,wr.alloc (.cells #[.int .u32 c.r,.int .i64 x,.int .u32 c.lo,.int .u32 c.hi,.int .u32 c.a00,.int .u32 c.a01,.int .u32 c.a10,.int .u32 c.a11] 226 (0,0))=W1:=⟨_,rfl⟩;rw [WL] at bf jY df ⊢;generalize wr.heap.size=sz at *;have dR:=Lib.hid jY;have oz:=Lib.hid bf;have WM:=Lib.hid WJ
     have EC:Hid (∀ z:World,af [] wr z->Calls Tryz.prog 146 #[.pointer (some ⟨b,0,none⟩),.int .i64 x,.int .u32 c.a00,.int .u32 c.a10] z fun e w'=>BX b x c.a00 c.a10 Ki (c.r::(C.drop (i+1)).map bV.r) qi z e w'):=fun z u=>YW.out.getCall (p:=(c.a00,c.a10)) oD.out rO.out.2.2 HD.out.1 HD.out.2.2.1.1 HD.out.2.2.1.2 dL.out u (by omega)
     have sV:Hid (∀ z:World,af [] W1 z->z.cell? ⟨sz,4,none⟩=some (.int .u32 c.a00)/\z.cell? ⟨sz,6,none⟩=some (.int .u32 c.a10)):=fun z u=>by obtain ⟨_,_,_,z4,_,z6,_⟩:=qf oz.out;exact ⟨u.cellK z4,u.cellK z6⟩
     clear c0 c1 c2 c3 c4 c5 c6 c7 bf jY WJ WL
     go_region_held3 (fun z=>z.cell? ⟨sz,4,none⟩=some (.int .u32 c.a00)/\z.cell? ⟨sz,6,none⟩=some (.int .u32 c.a10)) (first | exact sV.out _ (af.refl _ _).drew | exact sV.out _ (af.refl _ _) | exact Bo.out) (first | (go_at_call 146;refine (EC.out _ (by first | exact dR.out.drew | exact dR.out)).mono ?_;rintro e wa hE;obtain ⟨lo,K1,T1,q1,rfl,G1,m1,t1,u1,s1,l1⟩:=hE.ex;have QF:wa.heap[sz]?=some (.cells #[.int .u32 c.r,.int .i64 x,.int .u32 c.lo,.int .u32 c.hi,.int .u32 c.a00,.int .u32 c.a01,.int .u32 c.a10,.int .u32 c.a11] 226 (0,0)):=(u1.block sz df WM.out).trans oz.out;have Bo:Hid (wa.cell? ⟨sz,4,none⟩=some (.int .u32 c.a00)/\wa.cell? ⟨sz,6,none⟩=some (.int .u32 c.a10)):=⟨(qf QF).2.2.2.1,(qf QF).2.2.2.2.2.1⟩;have U6:=Lib.hid QF;have jb:=Lib.hid (And.intro G1 (And.intro m1 (And.intro t1 (And.intro u1 (And.intro s1 l1)))));clear hE G1 m1 t1 u1 s1 QF))
     have lH:=Lib.hid (YW.out.useCall (p:=(c.a00,c.a10)) oD.out HD.out.2.2.1.1 HD.out.2.2.1.2 jb.out.1 jb.out.2.1 (by omega));have En:sz<wa.heap.size:=Nat.lt_of_lt_of_le df jb.out.2.2.2.1.size;have U7:Hid (sz∉q1.all b):=jb.out.2.2.2.2.1.up WM.out df;clear sV Bo;go_wp2_with fail;refine lH.out.mono ?_;rintro e wb ⟨rfl,m2,u2⟩;have O5:=Lib.hid (YW.out.get (p:=(c.a00,c.a10)) oD.out rO.out.2.2 HD.out.1 HD.out.2.2.1.1 HD.out.2.2.1.2 dL.out (by first | exact dR.out.drew | exact dR.out) jb.out.1 jb.out.2.2.1 jb.out.2.2.2.1 jb.out.2.2.2.2.1 m2 u2);have HBb:Hid (wb.heap[sz]?=some (.cells #[.int .u32 c.r,.int .i64 x,.int .u32 c.lo,.int .u32 c.hi,.int .u32 c.a00,.int .u32 c.a01,.int .u32 c.a10,.int .u32 c.a11] 226 (0,0))):=(u2.block sz En U7.out).trans U6.out;have zx:sz<wb.heap.size:=Nat.lt_of_lt_of_le En u2.size;clear m2 u2 lH U6 jb;go_wp2_with fail
     have HC3:Hid (∀ z:World,af [] wb z->Calls Tryz.prog 146 #[.pointer (some ⟨b,0,none⟩),.int .i64 x,.int .u32 c.a01,.int .u32 c.a11] z fun e w'=>BX b x c.a01 c.a11 (K1.useA lo) (c.r::(C.drop (i+1)).map bV.r) q1 z e w'):=fun z u=>O5.out.getCall (p:=(c.a01,c.a11)) oD.out rO.out.2.2 HD.out.2.1 HD.out.2.2.2.1 HD.out.2.2.2.2 dL.out u (by simp;omega)
     have O6:Hid (∀ z:World,af [] wb z->z.cell? ⟨sz,5,none⟩=some (.int .u32 c.a01)/\z.cell? ⟨sz,7,none⟩=some (.int .u32 c.a11)):=fun z u=>by obtain ⟨_,_,_,_,z5,_,z7⟩:=qf HBb.out;exact ⟨u.cellK z5,u.cellK z7⟩
     go_region_held3 (fun z=>z.cell? ⟨sz,5,none⟩=some (.int .u32 c.a01)/\z.cell? ⟨sz,7,none⟩=some (.int .u32 c.a11)) (first | exact O6.out _ (af.refl _ _).drew | exact O6.out _ (af.refl _ _) | exact Gn.out) (first | (go_at_call 146;refine (HC3.out _ (by first | exact (af.refl _ _).drew | exact af.refl _ _)).mono ?_;rintro e wd hE;obtain ⟨vW,K2,T2,q2,rfl,G2,m3,t2,u3,s3,l2⟩:=hE.ex;have YX:wd.heap[sz]?=some (.cells #[.int .u32 c.r,.int .i64 x,.int .u32 c.lo,.int .u32 c.hi,.int .u32 c.a00,.int .u32 c.a01,.int .u32 c.a10,.int .u32 c.a11] 226 (0,0)):=(u3.block sz zx U7.out).trans HBb.out;have Gn:Hid (wd.cell? ⟨sz,5,none⟩=some (.int .u32 c.a01)/\wd.cell? ⟨sz,7,none⟩=some (.int .u32 c.a11)):=⟨(qf YX).2.2.2.2.1,(qf YX).2.2.2.2.2.2⟩;have HBd:=Lib.hid YX;have lu:=Lib.hid (And.intro G2 (And.intro m3 (And.intro t2 (And.intro u3 (And.intro s3 l2)))));clear hE G2 m3 t2 u3 s3 YX))
     have YQ:=Lib.hid (O5.out.useCall (p:=(c.a01,c.a11)) oD.out HD.out.2.2.2.1 HD.out.2.2.2.2 lu.out.1 lu.out.2.1 (by simp;omega));have WN:sz<wd.heap.size:=Nat.lt_of_lt_of_le zx lu.out.2.2.2.1.size;have YY:Hid (sz∉q2.all b):=lu.out.2.2.2.2.1.up U7.out zx;clear O6 Gn HC3;go_wp2_with fail;refine YQ.out.mono ?_;rintro e we ⟨rfl,m4,u4⟩;have O7:=Lib.hid (O5.out.get (p:=(c.a01,c.a11)) oD.out rO.out.2.2 HD.out.2.1 HD.out.2.2.2.1 HD.out.2.2.2.2 dL.out (by first | exact (af.refl _ _).drew | exact af.refl _ _) lu.out.1 lu.out.2.2.1 lu.out.2.2.2.1 lu.out.2.2.2.2.1 m4 u4);have hBe:we.heap[sz]?=some (.cells #[.int .u32 c.r,.int .i64 x,.int .u32 c.lo,.int .u32 c.hi,.int .u32 c.a00,.int .u32 c.a01,.int .u32 c.a10,.int .u32 c.a11] 226 (0,0)):=(u4.block sz WN YY.out).trans HBd.out;have Tn:sz<we.heap.size:=Nat.lt_of_lt_of_le WN u4.size;have N8:=heap_alloc_new we (.cells #[.int .i64 y,.int .u32 lo,.int .u32 vW] 142 (0,0));have QG:(we.alloc (.cells #[.int .i64 y,.int .u32 lo,.int .u32 vW] 142 (0,0))).heap[sz]?=some (.cells #[.int .u32 c.r,.int .i64 x,.int .u32 c.lo,.int .u32 c.hi,.int .u32 c.a00,.int .u32 c.a01,.int .u32 c.a10,.int .u32 c.a11] 226 (0,0)):=(heap_alloc_old we _ Tn).trans hBe;have YZ:=(af.refl [] we).alloc (.cells #[.int .i64 y,.int .u32 lo,.int .u32 vW] 142 (0,0))
     have JV:we.heap.size∉q2.all b:=fun hm=>by have:=m4.lt _ hm;omega
     have QH:we.heap.size<(we.alloc (.cells #[.int .i64 y,.int .u32 lo,.int .u32 vW] 142 (0,0))).heap.size:=by rw [World.size_alloc];omega
     have U8:=ae (j:=0) m4.blk rfl;clear m4 u4 YQ HBd lu hBe O5 HBb;go_wp2_with fail;obtain ⟨W5,hW5⟩ : ∃ W5,we.alloc (.cells #[.int .i64 y,.int .u32 lo,.int .u32 vW] 142 (0,0))=W5:=⟨_,rfl⟩;rw [hW5] at N8 QG YZ QH ⊢;generalize we.heap.size=s5 at *
     have WO:Hid (∀ z:World,af [] we z->Calls Tryz.prog 148 #[.pointer (some ⟨q2.a,0,none⟩),.int .u32 c.r,.agg #[.int .i64 y,.int .u32 lo,.int .u32 vW]] z fun e w'=>e=.returned (.int .i64 0)/\∃ q1,ay w' b ((K2.useA vW).turnN c.r y lo vW) T2 q1/\q1.all b=q2.all b/\q1.t=q2.t/\q1.a=q2.a/\af (q2.all b) z w'):=fun z u=>O7.out.setCall oD.out zN.out.1 u
     have Ld:Hid (∀ z:World,af [] W5 z->z.cell? ⟨b,0,none⟩=some (.pointer (some ⟨q2.a,0,none⟩))/\z.cell? ⟨sz,0,none⟩=some (.int .u32 c.r)/\z.cell? ⟨s5,0,none⟩=some (.int .i64 y)/\z.cell? ⟨s5,1,none⟩=some (.int .u32 lo)/\z.cell? ⟨s5,2,none⟩=some (.int .u32 vW)):=fun z u=>⟨u.cellK (YZ.cellK U8),u.cellK (qf QG).1,u.cellK (ae (j:=0) N8 rfl),u.cellK (ae (j:=1) N8 rfl),u.cellK (ae (j:=2) N8 rfl)⟩
     have Et:=Lib.hid (And.intro N8 (And.intro QG (And.intro YZ (And.intro JV QH))));have aaW:sz<W5.heap.size:=aj QG;clear N8 QG YZ JV QH U8 hW5
     go_region_held3 (fun z=>z.cell? ⟨b,0,none⟩=some (.pointer (some ⟨q2.a,0,none⟩))/\z.cell? ⟨sz,0,none⟩=some (.int .u32 c.r)/\z.cell? ⟨s5,0,none⟩=some (.int .i64 y)/\z.cell? ⟨s5,1,none⟩=some (.int .u32 lo)/\z.cell? ⟨s5,2,none⟩=some (.int .u32 vW)) (first | exact Ld.out _ (af.refl _ _).drew | exact Ld.out _ (af.refl _ _) | exact Lh.out) (first | (go_at_call 148;refine (WO.out _ (by first | exact Et.out.2.2.1.drew | exact Et.out.2.2.1)).mono ?_;rintro e wf ⟨rfl,q3,m5,e5,et5,ea5,u5⟩;have Ba:wf.heap[s5]?=some (.cells #[.int .i64 y,.int .u32 lo,.int .u32 vW] 142 (0,0)):=(u5.block s5 Et.out.2.2.2.2 Et.out.2.2.2.1).trans Et.out.1;have NV:wf.heap[sz]?=some (.cells #[.int .u32 c.r,.int .i64 x,.int .u32 c.lo,.int .u32 c.hi,.int .u32 c.a00,.int .u32 c.a01,.int .u32 c.a10,.int .u32 c.a11] 226 (0,0)):=(u5.block sz aaW YY.out).trans Et.out.2.1;have Lh:Hid (wf.cell? ⟨b,0,none⟩=some (.pointer (some ⟨q2.a,0,none⟩))/\wf.cell? ⟨sz,0,none⟩=some (.int .u32 c.r)/\wf.cell? ⟨s5,0,none⟩=some (.int .i64 y)/\wf.cell? ⟨s5,1,none⟩=some (.int .u32 lo)/\wf.cell? ⟨s5,2,none⟩=some (.int .u32 vW)):=⟨by rw [<- ea5];exact ae (j:=0) m5.blk rfl,(qf NV).1,ae (j:=0) Ba rfl,ae (j:=1) Ba rfl,ae (j:=2) Ba rfl⟩;have qH:=Lib.hid (And.intro m5 (And.intro e5 (And.intro et5 (And.intro u5 (And.intro Ba NV)))));clear m5 e5 et5 u5 Ba NV))
     clear Ld Lh WO;go_wp2_with fail;obtain ⟨DY,hDY,WQ⟩:=O7.out.addCall oD.out zN.out.1 (w1:=wf.drew) (qH.out.1.upd ((af.refl [] wf).drew) (by simp));have WR:=Lib.hid WQ;have HDY:=Lib.hid hDY
     have HS7:Hid (∀ z:World,af [] wf z->z.cell? ⟨b,1,none⟩=some (.pointer (some ⟨q3.t,0,none⟩))/\z.cell? ⟨sz,0,none⟩=some (.int .u32 c.r)/\z.cell? ⟨s5,0,none⟩=some (.int .i64 y)/\z.cell? ⟨s5,1,none⟩=some (.int .u32 lo)/\z.cell? ⟨s5,2,none⟩=some (.int .u32 vW)):=fun z u=>⟨u.cellK (ae (j:=1) qH.out.1.blk rfl),u.cellK (qf qH.out.2.2.2.2.2).1,u.cellK (ae (j:=0) qH.out.2.2.2.2.1 rfl),u.cellK (ae (j:=1) qH.out.2.2.2.2.1 rfl),u.cellK (ae (j:=2) qH.out.2.2.2.2.1 rfl)⟩
     have aaY:sz<wf.heap.size:=aj qH.out.2.2.2.2.2;have aaZ:s5<wf.heap.size:=aj qH.out.2.2.2.2.1
     have HN3:Hid (sz∉q3.all b/\s5∉q3.all b):=by rw [show q3.all b=q2.all b from qH.out.2.1];exact ⟨YY.out,Et.out.2.2.2.1⟩
     clear WQ hDY
     go_region_held3 (fun z=>z.cell? ⟨b,1,none⟩=some (.pointer (some ⟨q3.t,0,none⟩))/\z.cell? ⟨sz,0,none⟩=some (.int .u32 c.r)/\z.cell? ⟨s5,0,none⟩=some (.int .i64 y)/\z.cell? ⟨s5,1,none⟩=some (.int .u32 lo)/\z.cell? ⟨s5,2,none⟩=some (.int .u32 vW)) (first | exact HS7.out _ (af.refl _ _).drew | exact HS7.out _ (af.refl _ _) | exact HS8.out) (first | (go_at_call 149;refine WR.out.mono ?_;rintro e wg ⟨rfl,m6,u6⟩;have DI:wg.heap[s5]?=some (.cells #[.int .i64 y,.int .u32 lo,.int .u32 vW] 142 (0,0)):=(u6.block s5 aaZ HN3.out.2).trans qH.out.2.2.2.2.1;have hs6:wg.heap[sz]?=some (.cells #[.int .u32 c.r,.int .i64 x,.int .u32 c.lo,.int .u32 c.hi,.int .u32 c.a00,.int .u32 c.a01,.int .u32 c.a10,.int .u32 c.a11] 226 (0,0)):=(u6.block sz aaY HN3.out.1).trans qH.out.2.2.2.2.2;have HS8:Hid (wg.cell? ⟨b,1,none⟩=some (.pointer (some ⟨q3.t,0,none⟩))/\wg.cell? ⟨sz,0,none⟩=some (.int .u32 c.r)/\wg.cell? ⟨s5,0,none⟩=some (.int .i64 y)/\wg.cell? ⟨s5,1,none⟩=some (.int .u32 lo)/\wg.cell? ⟨s5,2,none⟩=some (.int .u32 vW)):=⟨ae (j:=1) m6.blk rfl,(qf hs6).1,ae (j:=0) DI rfl,ae (j:=1) DI rfl,ae (j:=2) DI rfl⟩;have HM6:=Lib.hid (And.intro m6 u6);clear m6 u6 DI hs6))
     have WS:=Lib.hid (Gm.out.step zN.out.2 O7.out oD.out rO.out.1 rO.out.2.2 HDY.out (Et.out.2.2.1.drew) qH.out.2.2.2.1 qH.out.2.1 ((af.refl [] wf).drew) HM6.out.1 HM6.out.2);clear HS7 HS8 WR qH HM6 Et O7 YW Gm U7 YY HN3;go_wp2_with fail
     go_roundg (C.length-(i+1))
     case measure=>omega
     case rel=>exact ⟨i+1,_,_,_,_,rfl,by omega,by simp,WS.out⟩
    ·obtain rfl:i=C.length:=by omega
     have fE:¬ ((C.length:Int)<(C.length:Int)):=by omega
     obtain ⟨D,M,st,_⟩:=hR.tx.st;rw [List.drop_length] at st;have hpe:=hR.pe;rw [List.take_length] at hpe;have HLS:Hid (qZ b Ki q (C.flatMap fun c=>[c.lo,c.hi]) w2 Ki Ti qi wr):=⟨hR.tx.mem,st.wf.perm hpe,st.ti,KV.Le.refl _,st.pos,hR.tx.up,hR.tx.sub⟩;have Ib:=Lib.hid (And.intro st.mid (And.intro st.wf (And.intro hR.nil (st.ti.uni st.wf))));clear hR st hpe Ou HR0;go_wp2_with fail
     go_loopg [119] C.length (fun gg s119 wr=>∃ (i:Nat) (K3:KV) (T3:List DM) (q3:aA),C.length-i=gg/\i<=C.length/\s119=.int .i64 i/\qZ b Ki q ((C.drop i).flatMap fun c=>[c.lo,c.hi]) w2 K3 T3 q3 wr/\(i=0->K3=Ki))
     case atStart=>exact ⟨0,Ki,Ti,qi,by omega,by omega,rfl,HLS.out,fun _=>rfl⟩
     case round =>
      clear HLS;obtain ⟨i,K3,T3,q3,rfl,hi,rfl,hR,oZ⟩:=hrel;have WT:=Lib.hid oZ;clear oZ
      by_cases aZ:i<C.length
      ·obtain ⟨c,hc⟩ : ∃ c,C[i]?=some c:=⟨_,List.getElem?_eq_getElem aZ⟩
       have aB:=HKE.out wr hR.up;obtain ⟨gc,rfl⟩:=bY aB (by omega);have hg:=kH x C i c hc;have c0:=ax aB (j:=i*8+0) (u:=.int .u32 c.r) (by rw [hg 0 (by omega)];rfl);have c1:=ax aB (j:=i*8+1) (u:=.int .i64 x) (by rw [hg 1 (by omega)];rfl);have c2:=ax aB (j:=i*8+2) (u:=.int .u32 c.lo) (by rw [hg 2 (by omega)];rfl);have c3:=ax aB (j:=i*8+3) (u:=.int .u32 c.hi) (by rw [hg 3 (by omega)];rfl);have c4:=ax aB (j:=i*8+4) (u:=.int .u32 c.a00) (by rw [hg 4 (by omega)];rfl);have c5:=ax aB (j:=i*8+5) (u:=.int .u32 c.a01) (by rw [hg 5 (by omega)];rfl);have c6:=ax aB (j:=i*8+6) (u:=.int .u32 c.a10) (by rw [hg 6 (by omega)];rfl);have c7:=ax aB (j:=i*8+7) (u:=.int .u32 c.a11) (by rw [hg 7 (by omega)];rfl);rw [Nat.add_zero] at c0
       have fE:(i:Int)<(C.length:Int):=by omega
       have bf:=heap_alloc_new wr (.cells #[.int .u32 c.r,.int .i64 x,.int .u32 c.lo,.int .u32 c.hi,.int .u32 c.a00,.int .u32 c.a01,.int .u32 c.a10,.int .u32 c.a11] 226 (0,0));have jY:=(af.refl [] wr).alloc (.cells #[.int .u32 c.r,.int .i64 x,.int .u32 c.lo,.int .u32 c.hi,.int .u32 c.a00,.int .u32 c.a01,.int .u32 c.a10,.int .u32 c.a11] 226 (0,0))
       have WJ:wr.heap.size∉q3.all b:=fun hm=>by have:=hR.mem.lt _ hm;omega
       have Dy:((C.drop (i+1)).flatMap fun c=>[c.lo,c.hi]).length<=3000000:=by rw [qY,List.length_drop];omega
       rw [(kJ hc).1,List.flatMap_cons] at hR
       have Lj:Hid (∀ z:World,af [] wr z->Calls Tryz.prog 88 #[.pointer (some ⟨b,0,none⟩),.int .u32 c.lo] z fun e w'=>e=.returned (.tuple #[])/\∃ K' T' q',qZ b Ki q (c.hi::(C.drop (i+1)).flatMap fun c=>[c.lo,c.hi]) w2 K' T' q' w'/\af (q3.all b) z w'/\Sub (q3.all b) z (q'.all b)):=fun z u=>(hR.keep0 u).call (by show (c.hi::(C.drop (i+1)).flatMap fun c=>[c.lo,c.hi]).length<=_;rw [List.length_cons];omega)
       have df:wr.heap.size<(wr.alloc (.cells #[.int .u32 c.r,.int .i64 x,.int .u32 c.lo,.int .u32 c.hi,.int .u32 c.a00,.int .u32 c.a01,.int .u32 c.a10,.int .u32 c.a11] 226 (0,0))).heap.size:=by rw [World.size_alloc];omega
       clear hR aB hg hc;go_wp2_with fail;obtain ⟨W1,WL⟩ : ∃ W1,wr.alloc (.cells #[.int .u32 c.r,.int .i64 x,.int .u32 c.lo,.int .u32 c.hi,.int .u32 c.a00,.int .u32 c.a01,.int .u32 c.a10,.int .u32 c.a11] 226 (0,0))=W1:=⟨_,rfl⟩;rw [WL] at bf jY df ⊢;generalize wr.heap.size=sz at *;have dR:=Lib.hid jY;have oz:=Lib.hid bf;have WM:=Lib.hid WJ
       have sV:Hid (∀ z:World,af [] W1 z->z.cell? ⟨sz,2,none⟩=some (.int .u32 c.lo)):=fun z u=>u.cellK (qf oz.out).2.1
       clear c0 c1 c2 c3 c4 c5 c6 c7 bf jY WJ WL
       go_region_held3 (fun z=>z.cell? ⟨sz,2,none⟩=some (.int .u32 c.lo)) (first | exact sV.out _ (af.refl _ _).drew | exact sV.out _ (af.refl _ _) | exact Bo.out) (first | (go_at_call 88;refine (Lj.out _ (by first | exact dR.out.drew | exact dR.out)).mono ?_;rintro e wa ⟨rfl,K4,T4,q4,r4,u4,s4⟩;have QF:wa.heap[sz]?=some (.cells #[.int .u32 c.r,.int .i64 x,.int .u32 c.lo,.int .u32 c.hi,.int .u32 c.a00,.int .u32 c.a01,.int .u32 c.a10,.int .u32 c.a11] 226 (0,0)):=(u4.block sz df WM.out).trans oz.out;have Bo:Hid (wa.cell? ⟨sz,2,none⟩=some (.int .u32 c.lo)):=(qf QF).2.1;have U6:=Lib.hid QF;have HR4:=Lib.hid (And.intro r4 (And.intro u4 s4));clear r4 u4 s4 QF))
       clear sV Bo Lj;go_wp2_with fail
       have O6:Hid (∀ z:World,af [] wa z->z.cell? ⟨sz,3,none⟩=some (.int .u32 c.hi)):=fun z u=>u.cellK (qf U6.out).2.2.1
       have Lj:Hid (∀ z:World,af [] wa z->Calls Tryz.prog 88 #[.pointer (some ⟨b,0,none⟩),.int .u32 c.hi] z fun e w'=>e=.returned (.tuple #[])/\∃ K' T' q',qZ b Ki q ((C.drop (i+1)).flatMap fun c=>[c.lo,c.hi]) w2 K' T' q' w'/\af (q4.all b) z w'/\Sub (q4.all b) z (q'.all b)):=fun z u=>(HR4.out.1.keep0 u).call (by omega)
       have En:sz<wa.heap.size:=aj U6.out;have HN4:Hid (sz∉q4.all b):=HR4.out.2.2.up WM.out df
       go_region_held3 (fun z=>z.cell? ⟨sz,3,none⟩=some (.int .u32 c.hi)) (first | exact O6.out _ (af.refl _ _).drew | exact O6.out _ (af.refl _ _) | exact Gn.out) (first | (go_at_call 88;refine (Lj.out _ (by first | exact (af.refl _ _).drew | exact (af.refl _ _))).mono ?_;rintro e wb ⟨rfl,K5,T5,q5,r5,u5,s5'⟩;have WU:wb.heap[sz]?=some (.cells #[.int .u32 c.r,.int .i64 x,.int .u32 c.lo,.int .u32 c.hi,.int .u32 c.a00,.int .u32 c.a01,.int .u32 c.a10,.int .u32 c.a11] 226 (0,0)):=(u5.block sz En HN4.out).trans U6.out;have Gn:Hid (wb.cell? ⟨sz,3,none⟩=some (.int .u32 c.hi)):=(qf WU).2.2.1;have HR5:=Lib.hid r5;clear r5 u5 s5' WU))
       clear O6 Gn Lj HR4;go_wp2_with fail
       go_roundg (C.length-(i+1))
       case measure=>omega
       case rel=>exact ⟨i+1,K5,T5,q5,rfl,by omega,by simp,HR5.out,fun h=>by omega⟩
      ·obtain rfl:i=C.length:=by omega
       have fE:¬ ((C.length:Int)<(C.length:Int)):=by omega
       rw [List.drop_length,List.flatMap_nil] at hR;obtain ⟨WV,hex⟩:=zZ.of oD.out Ib.out.1 Ib.out.2.1 Ib.out.2.2.2 hR.le hR.wf hR.pos;have hm:=hR.mem;have Tq:K3.order=K.order:=hR.le.od.trans Ib.out.1.od;have QI:K3.level=K.level:=hR.le.lv.trans Ib.out.1.lv;have lY:=hm.os;have DN:=hm.ls;rw [Tq] at lY;rw [QI] at DN;obtain ⟨O8,co3,NZ,_,_⟩:=lY.form (by omega);obtain ⟨Tt,cl3,N7,_,_⟩:=DN.form (by omega);rw [NZ] at lY;rw [N7] at DN
       have b5:wr.cell? ⟨b,5,none⟩=some (.slice (some ⟨O8,0,none⟩) K.order.length co3):=by rw [<- NZ];exact ae hm.blk rfl
       have b6:wr.cell? ⟨b,6,none⟩=some (.slice (some ⟨Tt,0,none⟩) K.level.length cl3):=by rw [<- N7];exact ae hm.blk rfl
       have o0:wr.cell? ⟨O8,l,none⟩=some (.int .i64 (K.order.getD l 0:Nat)):=jl lY (by omega);have o1:wr.cell? ⟨O8,l+1,none⟩=some (.int .i64 (K.order.getD (l+1) 0:Nat)):=jl lY (by omega);have l0:wr.cell? ⟨Tt,x,none⟩=some (.int .i64 (K.lev x:Nat)):=jl DN (by omega);have l1:wr.cell? ⟨Tt,y,none⟩=some (.int .i64 (K.lev y:Nat)):=jl DN (by omega);have f0:=aS lY l;have f1:=aS lY (l+1);have g0:=aS DN x;have g1:=aS DN y
       have QH:(x:Int)<(K.level.length:Int):=by omega
       have Jk:(y:Int)<(K.level.length:Int):=by omega
       have hgo:O8≠Tt:=by
        rintro rfl;have e1:=hm.oo O8 (by rw [NZ];rfl);have e2:=hm.ol O8 (by rw [N7];rfl);omega
       have hbo:b≠O8:=by
        rintro rfl;have e1:=hm.oo b (by rw [NZ];rfl);have e2:=hm.ob;omega
       have jk:b≠Tt:=by
        rintro rfl;have e1:=hm.ol b (by rw [N7];rfl);have e2:=hm.ob;omega
       have pR:x≠y:=oD.out.facts.2.2.2.2
       have HE:Hid (Aa b l K q w (.returned (.bool true)) ((((wr.setCell ⟨O8,l,none⟩ (.int .i64 y)).setCell ⟨O8,l+1,none⟩ (.int .i64 x)).setCell ⟨Tt,x,none⟩ (.int .i64 ((l:Int)+1))).setCell ⟨Tt,y,none⟩ (.int .i64 l)).drew.drew):=by
        have hE:=Kt (l:=l) hm NZ N7 (by rw [Tq];omega) (by rw [Tq];omega) (by rw [Tq,QI,Ci.out.1];omega) (by rw [Tq,QI,Ci.out.2];omega);rw [Tq,Ci.out.1,Ci.out.2] at hE;refine ⟨C,N,by rw [Ci.out.1,Ci.out.2];exact rO.out.1,by rw [Ci.out.1];exact rO.out.2.2,.inr ⟨rfl,dL.out,K3.swapK l,T3,q3,hex,fun e=>?_,⟨hE.1,hR.ti.same rfl rfl,WV⟩,((dF.out.mono (by simp)).trans hR.up).then hE.2 fun k hk=>?_,fun k hk=>?_⟩⟩
        ·rw [WT.out (by rw [e];rfl),Ib.out.2.2.1 e]
        ·rcases hR.sub k hk with h | h
         ·exact .inl h
         ·have:=dF.out.size;right;omega
        ·rcases hR.sub k hk with h | h
         ·exact .inl h
         ·have:=dF.out.size;right;omega
       rw [Ci.out.1] at o0;rw [Ci.out.2] at o1;clear hR WV hex hm Tq QI lY DN NZ N7;go_wp2_with fail
       go_region
       go_wp2_with fail
       go_region
       go_wp2_with fail;go_ret;exact HE.out
end Go.Proofs.YtdackeldhdchaaaGreat
namespace Go.Proofs.YtdackeldhdchaaaGreat.Srt
theorem jT (i:Int) (h:i.toNat<Lib.len8tab.size) (h0:0<=i):((Lib.len8tab[i.toNat]'h).toNat:Int)=(Lib.bitLen i.toNat:Int):=by
 have h1:=Lib.len8_of i h0 (by rw [Lib.len8tab_size] at h;omega);unfold Lib.len8 at h1;rw [getElem?_pos Lib.len8tab i.toNat h] at h1;exact h1
theorem jG {a b:Nat} (s:Nat) (h1:a<=8) (h2:s<=56) (h3:b=s+a):Go.RowKit.wrap64 ((s:Int)+Go.RowKit.wrap64 (a:Int))=(b:Int):=by
 subst h3;unfold Go.RowKit.wrap64;omega
theorem Ic {a:Nat} (h1:a<=8):Go.RowKit.wrap64 (Go.RowKit.wrap64 (a:Int))=(a:Int):=by
 unfold Go.RowKit.wrap64;omega
theorem SoR.bits_Len64 (x:Int) (w:World) (h0:0≤x) (h1:x≤18446744073709551615) :
    Calls Tryz.prog 242 #[.int .u64 x] w fun e w'=>e=.returned (.int .i64 (Lib.bitLen x.toNat))∧w'=w:=by
  have Qd:0≤x / 4294967296 / 65536 / 256:=by omega
  have sZ:0≤x / 4294967296 / 65536:=by omega
  have qF:0≤x / 4294967296 / 256:=by omega
  have OV:0≤x / 4294967296:=by omega
  have Ws:0≤x / 65536 / 256:=by omega
  have hd5:0≤x / 65536:=by omega
  have Ry:0≤x / 256:=by omega
  go_enter Tryz.func242,Tryz.ntmps242
  go_wp2
  all_goals first
    | (exfalso; have hs:=Lib.len8tab_size; omega)
    | (go_ret
       refine ⟨congrArg Ending.returned (congrArg (Value.int IntKind.i64) ?_),rfl⟩
       simp only [jT (x / 4294967296 / 65536 / 256) _ Qd,jT (x / 4294967296 / 65536) _ sZ,jT (x / 4294967296 / 256) _ qF,jT (x / 4294967296) _ OV,jT (x / 65536 / 256) _ Ws,jT (x / 65536) _ hd5,jT (x / 256) _ Ry,jT _ _ h0]
       first
       | exact jG 56 (Lib.bitLen_le8' (x / 4294967296 / 65536 / 256) Qd (by omega)) (by omega) (by rw [show (x / 4294967296 / 65536 / 256).toNat=x.toNat / 72057594037927936 by omega]; exact Lib.bitLen_shift56 x.toNat (by omega) (by omega))
       | exact jG 48 (Lib.bitLen_le8' (x / 4294967296 / 65536) sZ (by omega)) (by omega) (by rw [show (x / 4294967296 / 65536).toNat=x.toNat / 281474976710656 by omega]; exact Lib.bitLen_shift48 x.toNat (by omega) (by omega))
       | exact jG 40 (Lib.bitLen_le8' (x / 4294967296 / 256) qF (by omega)) (by omega) (by rw [show (x / 4294967296 / 256).toNat=x.toNat / 1099511627776 by omega]; exact Lib.bitLen_shift40 x.toNat (by omega) (by omega))
       | exact jG 32 (Lib.bitLen_le8' (x / 4294967296) OV (by omega)) (by omega) (by rw [show (x / 4294967296).toNat=x.toNat / 4294967296 by omega]; exact Lib.bitLen_shift32 x.toNat (by omega) (by omega))
       | exact jG 24 (Lib.bitLen_le8' (x / 65536 / 256) Ws (by omega)) (by omega) (by rw [show (x / 65536 / 256).toNat=x.toNat / 16777216 by omega]; exact Lib.bitLen_shift24 x.toNat (by omega) (by omega))
       | exact jG 16 (Lib.bitLen_le8' (x / 65536) hd5 (by omega)) (by omega) (by rw [show (x / 65536).toNat=x.toNat / 65536 by omega]; exact Lib.bitLen_shift16 x.toNat (by omega) (by omega))
       | exact jG 8 (Lib.bitLen_le8' (x / 256) Ry (by omega)) (by omega) (by rw [show (x / 256).toNat=x.toNat / 256 by omega]; exact Lib.bitLen_shift8 x.toNat (by omega) (by omega))
       | exact Ic (Lib.bitLen_le8' x h0 (by omega)))
theorem SoR.bits_Len (x:Int) (w:World) (h0:0<=x) (h1:x<=18446744073709551615) :
  Calls Tryz.prog 231 #[.int .u64 x] w fun e w'=>e=.returned (.int .i64 (Lib.bitLen x.toNat))/\w'=w:=by
 go_enter Tryz.func231,Tryz.ntmps231
 go_wp2_with (go_at_call 242;refine (SoR.bits_Len64 x _ h0 h1).mono ?_;rintro e w' ⟨rfl,rfl⟩)
 go_ret;exact ⟨rfl,rfl⟩
theorem SoR.cmp_isNaN_int (x:Int) (w:World):Calls Tryz.prog 248 #[.int .u32 x] w fun e w'=>e=.returned (.bool false)/\w'=w:=by
 go_enter Tryz.func248,Tryz.ntmps248
 go_wp2
 go_ret;exact ⟨by simp,rfl⟩
theorem SoR.cmp_Less_int (x y:Int) (w:World):Calls Tryz.prog 238 #[.int .u32 x,.int .u32 y] w fun e w'=>e=.returned (.bool (Sort.ltInt x y))/\w'=w:=by
 go_enter Tryz.func238,Tryz.ntmps238
 go_wp2_with (go_at_call 248;refine (SoR.cmp_isNaN_int _ _).mono ?_;rintro e w' ⟨rfl,rfl⟩)
 go_ret;exact ⟨rfl,rfl⟩
end Go.Proofs.YtdackeldhdchaaaGreat.Srt
namespace Go.Proofs.YtdackeldhdchaaaGreat.Srt
open Go.RowKit Go.Sort
def intOf:Value->Int | .int _ q=>q | _=>0
section
variable {α : Type} [Inhabited α] (lt:α->α->Bool)
theorem Cj (a j:Nat) (d:Array α) (hj:a<j) (hl:lt d[j]! d[j-1]! = true):insInner lt a j d=insInner lt a (j-1) (swp d j (j-1)):=by
 obtain ⟨k,rfl⟩ : ∃ k,j=k+1:=⟨j-1,by omega⟩;rw [insInner]
 simp only [Nat.add_sub_cancel] at hl ⊢
 simp [hj,hl]
theorem xX (a j:Nat) (d:Array α) (h:j<=a\/lt d[j]! d[j-1]! = false):insInner lt a j d=d:=by
 cases j with
 | zero=>rw [insInner]
 | succ k =>
  rw [insInner]
  simp only [Nat.add_sub_cancel] at h
  rcases h with h | h
  ·simp [show ¬ k+1 > a by omega]
  ·simp [h]
theorem Cm (a b i:Nat) (d:Array α) (h:i<b):insOuter lt a b i d=insOuter lt a b (i+1) (insInner lt a i d):=by rw [insOuter,if_pos h]
theorem xY (a b i:Nat) (d:Array α) (h:¬ i<b):insOuter lt a b i d=d:=by rw [insOuter,if_neg h]
end
section
variable {α : Type} [Inhabited α] (enc:α->Value)
theorem aY (w:World) (m q blk off:Nat) (d:Array α):(putRow enc (Sort.ahead w m) blk off d).drewN q=putRow enc (Sort.ahead w (m+q)) blk off d:=by
 show Sort.ahead (putRow enc (Sort.ahead w m) blk off d) q=_
 rw [putRow_ahead enc w m,ahead_ahead,<- putRow_ahead]
theorem gY (w:World) (m q blk off:Nat) (d:Array α) (j k:Nat) (hj:j<d.size) (hk:k<d.size) :
  (((putRow enc (Sort.ahead w m) blk off d).drewN q).setCell ⟨blk,off+j,none⟩ (enc d[k]!)).setCell ⟨blk,off+k,none⟩ (enc d[j]!)=putRow enc (Sort.ahead w (m+q)) blk off (swp d j k):=by
 rw [aY];exact putRow_swp enc _ blk off d j k hj hk
end
theorem SoR.insertionSort_int (blk off cap a b:Nat) (d:Array Int) (w:World) (hH:Holds (Value.int .u32) w blk off d) (tJ:a<=b) (hb:b<=d.size) (df:d.size<4611686018427387904) :
  Calls Tryz.prog 232 #[.slice (some ⟨blk,off,none⟩) d.size cap,.int .i64 a,.int .i64 b] w fun e w' =>
   e=.returned (.tuple #[])/\∃ n,w'=putRow (Value.int .u32) (Sort.ahead w n) blk off (Sort.insertionSort ltInt d a b):=by
 go_enter Tryz.func232,Tryz.ntmps232
 go_wp2
 go_loopw [6] (fun vi wr=>∃ (i n:Nat) (dk:Array Int),vi=.int .i64 i/\a<i/\i<=b+1/\dk.size=d.size/\wr=putRow (Value.int .u32) (Sort.ahead w n) blk off dk /\
   insOuter ltInt a b i dk=insOuter ltInt a b (a+1) d) (fun vi _=>b+1-(intOf vi).toNat)
 case atStart=>exact ⟨a+1,0,d,by go_num,by omega,by omega,rfl,(putRow_self _ _ _ _ _ hH).symm,rfl⟩
 case round =>
  obtain ⟨i,n,dk,rfl,Y0,hib,QJ,Bf,hO⟩:=hrel;have HO:Hid (insOuter ltInt a b i dk=insOuter ltInt a b (a+1) d):=hO;clear hO
  go_wp2
  ·-- i<b: the inner loop
   go_loopw [7] (fun vj qI=>∃ (j m:Nat) (dj:Array Int),vj=.int .i64 j/\a<=j/\j<=i/\dj.size=d.size/\qI=putRow (Value.int .u32) (Sort.ahead w m) blk off dj /\
     insInner ltInt a j dj=insInner ltInt a i dk) (fun vj _=>(intOf vj).toNat)
   case atStart=>exact ⟨i,n,dk,rfl,by omega,Nat.le_refl _,QJ,rfl,rfl⟩
   case round =>
    obtain ⟨j,m,dj,rfl,haj,Dv,N9,eQ,hI⟩:=hrel
    have aZ:i<b:=by assumption
    obtain ⟨G,hG⟩ : ∃ G:Nat->Int,∀ t,G t=dj[t]! := ⟨fun t=>dj[t]!,fun _=>rfl⟩
    have kR:∀ t,t<d.size->wr.cell? ⟨blk,off+t,none⟩=some (.int .u32 (G t)):=fun t ht=>by
     rw [eQ,hG];exact cell?_putRow _ _ _ _ d dj (holds_ahead _ _ _ _ _ _ hH) N9 t (by omega)
    have DT:∀ t,t<d.size->wr.frozen? ⟨blk,off+t,none⟩=false:=fun t ht=>by
     rw [eQ,frozen?_putRow];exact ((holds_ahead _ _ m _ _ _ hH) t ht).2
    have HW:Hid (wr=putRow (Value.int .u32) (Sort.ahead w m) blk off dj):=eQ;have HG:Hid (∀ t,G t=dj[t]!):=hG;have HI:Hid (insInner ltInt a j dj=insInner ltInt a i dk):=hI;clear eQ hG hI hH
    have out:(j<=a\/ltInt dj[j]! dj[j-1]! = false)->∀ q,∃ i' n' dk',Value.int .i64 ((i:Int)+1)=.int .i64 (i':Nat)/\a<i'/\i'<=b+1/\dk'.size=d.size /\
      wr.drewN q=putRow (Value.int .u32) (Sort.ahead w n') blk off dk'/\insOuter ltInt a b i' dk'=insOuter ltInt a b (a+1) d:=fun hs q =>
     ⟨i+1,m+q,dj,by go_num,by omega,by omega,N9,by rw [HW.out];exact aY _ _ _ _ _ _ _,
      by rw [<- HO.out,Cm _ _ _ _ _ aZ,<- HI.out,xX _ _ _ _ hs]⟩
    have OUT:Hid _:=out;clear out
    go_wp2
    by_cases hja:a<j
    ·go_quiet (first | (go_at_call 238;refine Calls.quiet_of_same (SoR.cmp_Less_int _ _ _)))
     go_wp2
     ·-- Less: the swap,j--
      have hl:ltInt (G j) (G (j-1))=true:=by assumption
      go_region
      all_goals go_wp2
      go_roundw
      case rel =>
       refine ⟨j-1,m+(nq+1),swp dj j (j-1),by congr 1;omega,by omega,by omega,by rw [size_swp];exact N9,?_,?_⟩
       ·rw [HW.out,HG.out,HG.out]
        exact gY _ w m (nq+1) blk off dj j (j-1) (by omega) (by omega)
       ·rw [<- HI.out,Cj ltInt a j dj hja (by rw [<- HG.out,<- HG.out];exact hl)]
      case measure=>simp [intOf];omega
     ·-- not Less
      have hl:ltInt (G j) (G (j-1))=false:=by assumption
      go_roundw
      case rel=>exact OUT.out (Or.inr (by rw [<- HG.out,<- HG.out];exact hl)) nq
      case measure=>simp [intOf];omega
    ·go_quiet (first | (go_at_call 238;refine Calls.quiet_of_same (SoR.cmp_Less_int _ _ _)))
     go_wp2
     go_roundw
     case rel=>exact OUT.out (Or.inl (by omega)) nq
     case measure=>simp [intOf];omega
  ·-- the outer loop is at its end
   have NU:¬ i<b:=by assumption
   go_end0;exact ⟨rfl,n,by unfold Sort.insertionSort;rw [<- HO.out,xY _ _ _ _ _ NU]⟩
end Go.Proofs.YtdackeldhdchaaaGreat.Srt
namespace Go.Proofs.YtdackeldhdchaaaGreat.Srt
open Go.RowKit Go.Sort
theorem yX (x:Nat) (h:x<2 ^ 64):Lib.bitLen x=bitsLen x:=by
 induction x using Nat.strongRecOn with
 | _ x ih =>
  by_cases h0:x=0
  ·subst h0;rfl
  ·rw [Lib.bitLen_half x h0 h,ih (x/2) (by omega) (by omega)]
   unfold bitsLen;rw [if_neg h0,Nat.log2_def x]
   by_cases h2:2<=x
   ·rw [if_pos h2,if_neg (by omega)];omega
   ·obtain rfl:x=1:=by omega
    simp
def rY:Prop:=∀ (blk off cap a b limit:Nat) (d:Array Int) (w:World),Holds (Value.int .u32) w blk off d->blk<w.heap.size->a<=b->b<=d.size->d.size<4611686018427387904->limit<4611686018427387904->Below ltInt a b d ->
 Calls Tryz.prog 230 #[.slice (some ⟨blk,off,none⟩) d.size cap,.int .i64 a,.int .i64 b,.int .i64 limit] w fun e w' =>
  e=.returned (.tuple #[])/\∃ n os,w'=grow (putRow (Value.int .u32) (Sort.ahead w n) blk off (Sort.pdq ltInt d a b limit true true)) os
theorem SoR.Sort_int (aa5:rY) (blk off cap:Nat) (d:Array Int) (w:World) (hH:Holds (Value.int .u32) w blk off d) (gy:blk<w.heap.size) (df:d.size<4611686018427387904) :
  Calls Tryz.prog 226 #[.slice (some ⟨blk,off,none⟩) d.size cap] w fun e w'=>e=.returned (.tuple #[])/\∃ n os,w'=grow (putRow (Value.int .u32) (Sort.ahead w n) blk off (Sort.sort ltInt d)) os:=by
 have HH:Hid (Holds (Value.int .u32) w blk off d):=hH;clear hH
 have Tu:∀ w,Calls Tryz.prog 231 #[.int .u64 (d.size:Int)] w fun e w'=>e=.returned (.int .i64 (bitsLen d.size:Nat))/\w'=w:=fun w=>by
  have h:=SoR.bits_Len (d.size:Int) w (by omega) (by omega)
  rwa [Int.toNat_natCast,yX _ (by omega)] at h
 have hk:bitsLen d.size<=62:=(bitsLen_le_iff d.size 62).2 (by omega)
 go_enter Tryz.func226,Tryz.ntmps226
 go_wp2_with (first
  | (go_at_call 231;refine (Tu _).mono ?_;rintro e w' ⟨rfl,rfl⟩)
  | (go_at_call 230;refine (aa5 blk off cap 0 d.size (bitsLen d.size) d _ (by exact HH.out) (by exact gy) (Nat.zero_le _) (Nat.le_refl _) df (by omega) (Or.inl rfl)).mono ?_;rintro e w' ⟨rfl,n,os,rfl⟩))
 go_end0;exact ⟨rfl,n,os,rfl⟩
end Go.Proofs.YtdackeldhdchaaaGreat.Srt
