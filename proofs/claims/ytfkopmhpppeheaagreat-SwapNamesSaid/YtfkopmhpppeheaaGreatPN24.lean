import Derived.Test.YtfkopmhpppeheaaGreatPN23
import Derived.Test.YtfkopmhpppeheaaGreatPN1
import Derived.Lib.Strings
import Derived.Lib.Slices
import Derived.Lib.Small
import Derived.Lib.Walk
import Derived.Lib.BitFns
import Derived.Sort.Row
import Derived.Sort.LotA
import Derived.WalkKit
import Derived.BigGuard
import Derived.BigCall
import Derived.CellFam
import Derived.Deep.Draws
import Derived.Deep.QuietTactic
import Derived.BigQuiet
import Derived.Sort.EncStr
import Derived.Sort.Grow
import Derived.Sort.LotD1
set_option maxRecDepth 100000
set_option maxHeartbeats 6400000
namespace Go.Proofs.YtfkopmhpppeheaaGreat
open Go.RowKit Go.Maps Go.ChangeMaps Go.WideShapes
theorem Sub.up {S S':List Nat} {w:World} {g:Nat} (hs:Sub S w S') (hg:g∉S) (hl:g<w.heap.size):g∉S':=fun hm=>by
 rcases hs g hm with h | h
 ·exact hg h
 ·omega
theorem QX (b l:Nat) (K:KV) (T:List DM) (q:aA) (w:World) (h:bV w b K T q) (hl:l+2<=K.vars)
  (QW:∀ w0:World,af [] w w0->Calls Tryz.prog 216 #[.pointer (some ⟨q.t,0,none⟩),.int .i64 (K.order.getD l 0:Nat)] w0 fun e w'=>Pj K (K.order.getD l 0) w0 e w') :
  Calls Tryz.prog 87 #[.pointer (some ⟨b,0,none⟩),.int .i64 l] w fun e w'=>Io b l K q w e w':=by
 have hw:=h.ok.wf;have IZ:=h.ok.ord.pm;have zx:=hw.vs;have yC:=IZ.ol;have Bv:=IZ.ll;have hx:=IZ.oo l (by omega);have hy:=IZ.oo (l+1) (by omega);obtain ⟨x,VC⟩ : ∃ x,K.order.getD l 0=x:=⟨_,rfl⟩;obtain ⟨y,hye⟩ : ∃ y,K.order.getD (l+1) 0=y:=⟨_,rfl⟩
 have hxv:x<K.vars:=by rw [<- VC];exact hx.1
 have hyv:y<K.vars:=by rw [<- hye];exact hy.1
 have vO:Hid (Nb K l x y):=⟨h.ok,h.ti.uni h.ok.wf,hl,VC,hye⟩;rw [VC] at QW;have zG:=h.mem.os;have JP:=h.mem.ls;obtain ⟨go,co,Xw,_,_⟩:=zG.form (by omega);obtain ⟨gl,cl,Xx,_,_⟩:=JP.form (by omega);rw [Xw] at zG
 have b5:w.cell? ⟨b,5,none⟩=some (.slice (some ⟨go,0,none⟩) K.order.length co):=by rw [<- Xw];exact ae h.mem.blk rfl
 have o0:w.cell? ⟨go,l,none⟩=some (.int .i64 x):=by rw [<- VC];exact mQ zG (by omega)
 have o1:w.cell? ⟨go,l+1,none⟩=some (.int .i64 y):=by rw [<- hye];exact mQ zG (by omega)
 have hli:(l:Int)<(K.order.length:Int):=by omega
 have arN:(l:Int)+1<(K.order.length:Int):=by omega
 have arO:0<=(l:Int)+1:=by omega
 have pX:IntKind.i64.wrap ((l:Int)+1)=(l:Int)+1:=IntWalk.i64_in _ (by omega);have HK:=Lib.hid h;have JV:=Lib.hid (And.intro VC hye);have HRF:=Lib.hid QW;have HPM:=Lib.hid IZ;clear zG hx hy QW JP;clear h Xw Xx IZ hw VC hye
 go_enter Tryz.func87,Tryz.ntmps87
 go_wp2_with fail
 go_region
 have FX:=Lib.hid (HK.out.upd ((af.refl [] w).drew) (by simp));clear b5 o0 o1;go_wp2_with fail;refine (Dn b l x y K T q _ FX.out vO.out (fun w0 u=>HRF.out w0 (((af.refl [] w).drew).trans u))).mono ?_;rintro e w1 hE;obtain ⟨C,la,lc,rfl,CA,C32,aC,hu⟩:=hE.ex;have mG:=Lib.hid (((af.refl [] w).drew).trans hu);have bF:Hid (w1.ownsRow w.heap.size 240 8 (.slice la C.length lc) C.length (nS x C)):=aC;have hCl:=CA.len HK.out.ok.wf;obtain ⟨N,hN⟩:=lZ.exists K x (C.flatMap bY.qs)
 have hNl:N.length<=2097152:=by
  have h1:N.length<=(C.flatMap bY.qs).length:=List.Nodup.length_le_of_subset hN.nd fun p hp=>((hN.iff p).1 hp).1
  have e1:∀ l:List bY,(l.flatMap bY.qs).length=l.length*2:=fun l=>by
   induction l with
   | nil=>rfl
   | cons e l ih=>rw [List.flatMap_cons,List.length_append,ih,List.length_cons];simp [bY.qs];omega
  rw [e1] at h1;omega
 have zF:=Lib.hid (And.intro CA (And.intro C32 hN));clear hE CA C32 hN hu FX aC;go_wp2_with fail
 have HF:Hid (∀ n:Still w1,Calls Tryz.prog 159 #[.pointer (some ⟨b,0,none⟩),.int .i64 x,.slice la C.length lc] n.x fun e w2=>e=.returned (.int .i64 N.length)/\∃ m:Still w1,w2=m.x):=fun n =>
  (NJ b x K T q C la lc w.heap.size n.x ((HK.out.upd mG.out (by simp)).upd n.u (by simp)) hxv zF.out.2.1 hCl (ai bF.out fun k hk=>n.u.block k (bF.out.lt k hk).2 (by simp))).mono fun e w2 hE=>by
   obtain ⟨N',rfl,hN',u⟩:=hE.ex;exact ⟨by rw [hN'.len_eq zF.out.2.2],⟨_,n.u.trans u⟩,rfl⟩
 obtain ⟨bb,zJ⟩ : ∃ bb,K.room N.length=bb:=⟨_,rfl⟩
 have HR:Hid (∀ n:Still w1,Calls Tryz.prog 158 #[.pointer (some ⟨b,0,none⟩),.int .i64 N.length] n.x fun e w2=>e=.returned (.bool bb)/\∃ m:Still w1,w2=m.x):=fun n =>
  (Gj b N.length K T q n.x ((HK.out.upd mG.out (by simp)).upd n.u (by simp)).mem (by omega) (by omega)).mono fun _ _ ⟨a,u⟩=>⟨by rw [a,zJ],⟨_,n.u.trans u⟩,rfl⟩
 have Lu:=Lib.hid zJ;clear zJ;refine wp_region_still (by kernel_rfl) (by kernel_rfl) ?_
 repeat (quiet_step ((first | (go_at_call 159;exact HF.out _) | (go_at_call 158;exact HR.out _))))
 refine wpQuiet_nil ?_;rintro _ ⟨n2,rfl⟩;have eF:=Lib.hid (mG.out.trans n2.u)
 have Gl:Hid (n2.x.ownsRow w.heap.size 240 8 (.slice la C.length lc) C.length (nS x C)):=ai bF.out fun k hk=>n2.u.block k (bF.out.lt k hk).2 (by simp)
 obtain ⟨w2,gV⟩ : ∃ w2,n2.x=w2:=⟨_,rfl⟩;rw [gV] at eF Gl ⊢;clear HF HR bF mG gV
 cases bb with
 | false =>
  have HE:Hid (Io b l K q w (.returned (.bool false)) w2):=by
   refine ⟨C,N,by rw [JV.out.1,JV.out.2];exact zF.out.1,by rw [JV.out.1];exact zF.out.2.2,.inl ⟨rfl,?_,eF.out⟩⟩;have:=Lu.out
   simp [KV.room] at this;omega
  go_wp2_with fail;go_ret;exact HE.out
 | true =>
 have dS:Hid (K.A.used+N.length<=K.A.places):=by
  have:=Lu.out
  simp [KV.room] at this
  show K.A.used+N.length<=K.A.places
  omega
 have HKE:Hid (∀ z:World,af (q.all b) w2 z->z.ownsRow w.heap.size 240 8 (.slice la C.length lc) C.length (nS x C)):=fun z u=>ai Gl.out fun k hk=>u.block k (Gl.out.lt k hk).2 (fun hm=>by have h1:=(Gl.out.lt k hk).1;have h2:=HK.out.mem.lt k hm;omega)
 have HR0:Hid (NK b K q C w2 0 w2):=⟨⟨T,(HK.out.upd eF.out (by simp)).mem,by simpa using HK.out.ti⟩,af.refl _ _⟩;go_wp2_with fail
 go_loopg [47] C.length (fun gg s47 wr=>∃ i:Nat,C.length-i=gg/\i<=C.length/\s47=.int .i64 i/\NK b K q C w2 i wr)
 case atStart=>exact ⟨0,by omega,by omega,rfl,HR0.out⟩
 case round =>
  obtain ⟨i,rfl,hi,rfl,hR⟩:=hrel
  by_cases aW:i<C.length
  ·obtain ⟨c,hc⟩ : ∃ c,C[i]?=some c:=⟨_,List.getElem?_eq_getElem aW⟩
   have aC:=HKE.out wr hR.up;obtain ⟨gc,rfl⟩:=bC aC (by omega);have hg:=qg x C i c hc;have c0:=au aC (j:=i*8+0) (u:=.int .u32 c.r) (by rw [hg 0 (by omega)];rfl);have c1:=au aC (j:=i*8+1) (u:=.int .i64 x) (by rw [hg 1 (by omega)];rfl);have c2:=au aC (j:=i*8+2) (u:=.int .u32 c.lo) (by rw [hg 2 (by omega)];rfl);have c3:=au aC (j:=i*8+3) (u:=.int .u32 c.hi) (by rw [hg 3 (by omega)];rfl);have c4:=au aC (j:=i*8+4) (u:=.int .u32 c.a00) (by rw [hg 4 (by omega)];rfl);have c5:=au aC (j:=i*8+5) (u:=.int .u32 c.a01) (by rw [hg 5 (by omega)];rfl);have c6:=au aC (j:=i*8+6) (u:=.int .u32 c.a10) (by rw [hg 6 (by omega)];rfl);have c7:=au aC (j:=i*8+7) (u:=.int .u32 c.a11) (by rw [hg 7 (by omega)];rfl);rw [Nat.add_zero] at c0
   have fF:(i:Int)<(C.length:Int):=by omega
   obtain ⟨T1,D1,hm,hD1,hh,h1,h2,aaH⟩:=hR.step hc vO.out zF.out.1;have aY:=heap_alloc_new wr (.cells #[.int .u32 c.r,.int .i64 x,.int .u32 c.lo,.int .u32 c.hi,.int .u32 c.a00,.int .u32 c.a01,.int .u32 c.a10,.int .u32 c.a11] 240 (0,0));have wO:=(af.refl [] wr).alloc (.cells #[.int .u32 c.r,.int .i64 x,.int .u32 c.lo,.int .u32 c.hi,.int .u32 c.a00,.int .u32 c.a01,.int .u32 c.a10,.int .u32 c.a11] 240 (0,0));have b1:=wO.fQ (ae (j:=1) hm.blk rfl);have z1:=ae (j:=1) aY rfl;have z2:=ae (j:=2) aY rfl;have z3:=ae (j:=3) aY rfl;have HX:=Lib.hid (And.intro hm (And.intro hD1 (And.intro hh (And.intro aaH (And.intro hR wO)))));clear hm hD1 hh aaH hR wO aY aC hg hc;go_wp2_with fail
   have HZ:Hid (∀ z:World,af q.FT (wr.alloc (.cells #[.int .u32 c.r,.int .i64 x,.int .u32 c.lo,.int .u32 c.hi,.int .u32 c.a00,.int .u32 c.a01,.int .u32 c.a10,.int .u32 c.a11] 240 (0,0))) z->z.cell? ⟨b,1,none⟩=some (.pointer (some ⟨q.t,0,none⟩))/\z.cell? ⟨wr.heap.size,1,none⟩=some (.int .i64 x)/\z.cell? ⟨wr.heap.size,2,none⟩=some (.int .u32 c.lo)/\z.cell? ⟨wr.heap.size,3,none⟩=some (.int .u32 c.hi)):=fun z u=>by
    have nb1:b∉q.FT:=fun hm=>by have e1:=HK.out.mem.ob;have e2:=HK.out.mem.ot b hm;omega
    have nb2:wr.heap.size∉q.FT:=fun hm=>by have:=HX.out.1.tab.lt _ hm;omega
    exact ⟨(u.cell (World.block_lt_of_cell? _ _ b1) nb1).trans b1,(u.cell (World.block_lt_of_cell? _ _ z1) nb2).trans z1,(u.cell (World.block_lt_of_cell? _ _ z2) nb2).trans z2,(u.cell (World.block_lt_of_cell? _ _ z3) nb2).trans z3⟩
   clear c0 c1 c2 c3 c4 c5 c6 c7
   go_region_held3 (fun z=>z.cell? ⟨b,1,none⟩=some (.pointer (some ⟨q.t,0,none⟩))/\z.cell? ⟨wr.heap.size,1,none⟩=some (.int .i64 x)/\z.cell? ⟨wr.heap.size,2,none⟩=some (.int .u32 c.lo)/\z.cell? ⟨wr.heap.size,3,none⟩=some (.int .u32 c.hi)) (first | exact HZ.out _ (af.refl _ _).drew | exact HZ.out _ (af.refl _ _) | exact HZ.out _ o8.out) (first | (go_at_call 160;refine (JG q.t q.FT x c.lo c.hi T1 D1 _ (HX.out.1.upd (by first | exact HX.out.2.2.2.2.2.drew | exact HX.out.2.2.2.2.2) (by simp)).tab HX.out.2.1 h1 h2 HX.out.2.2.1).mono ?_;rintro e w3 ⟨rfl,ha,hu⟩;have HN:=Lib.hid (HX.out.2.2.2.1 w3 ha ((HX.out.2.2.2.2.2.mono (by simp)).trans (by first | exact hu | exact (af.refl _ _).drew.trans hu)));have o8:Hid (af q.FT (wr.alloc (.cells #[.int .u32 c.r,.int .i64 x,.int .u32 c.lo,.int .u32 c.hi,.int .u32 c.a00,.int .u32 c.a01,.int .u32 c.a10,.int .u32 c.a11] 240 (0,0))) w3):=(by first | exact hu | exact (af.refl _ _).drew.trans hu);clear ha hu))
   go_wp2_with fail
   go_roundg (C.length-(i+1))
   case measure=>omega
   case rel=>exact ⟨i+1,rfl,by omega,by simp,HN.out⟩
  ·obtain rfl:i=C.length:=by omega
   have fF:¬ ((C.length:Int)<(C.length:Int)):=by omega
   obtain ⟨T2,hT2⟩:=hR.done (N:=N) vO.out zF.out.1;have Yd:=Lib.hid hT2;clear hR hT2;go_wp2_with fail
   go_loopg [62] C.length (fun gg s62 wr=>∃ (i:Nat) (Ki:KV) (Ti:List DM) (qi:aA) (P:List Nat),C.length-i=gg/\i<=C.length/\s62=.int .i64 i/\Vx b l x y K q C N w2 i Ki Ti qi P wr)
   case atStart=>exact ⟨0,K,T2,q,[],by omega,by omega,rfl,Yd.out⟩
   case round =>
    obtain ⟨i,Ki,Ti,qi,P,rfl,hi,rfl,hR⟩:=hrel
    by_cases aW:i<C.length
    ·obtain ⟨c,hc⟩ : ∃ c,C[i]?=some c:=⟨_,List.getElem?_eq_getElem aW⟩
     have aC:=HKE.out wr hR.tx.up;obtain ⟨gc,rfl⟩:=bC aC (by omega);have hg:=qg x C i c hc;have c0:=au aC (j:=i*8+0) (u:=.int .u32 c.r) (by rw [hg 0 (by omega)];rfl);have c1:=au aC (j:=i*8+1) (u:=.int .i64 x) (by rw [hg 1 (by omega)];rfl);have c2:=au aC (j:=i*8+2) (u:=.int .u32 c.lo) (by rw [hg 2 (by omega)];rfl);have c3:=au aC (j:=i*8+3) (u:=.int .u32 c.hi) (by rw [hg 3 (by omega)];rfl);have c4:=au aC (j:=i*8+4) (u:=.int .u32 c.a00) (by rw [hg 4 (by omega)];rfl);have c5:=au aC (j:=i*8+5) (u:=.int .u32 c.a01) (by rw [hg 5 (by omega)];rfl);have c6:=au aC (j:=i*8+6) (u:=.int .u32 c.a10) (by rw [hg 6 (by omega)];rfl);have c7:=au aC (j:=i*8+7) (u:=.int .u32 c.a11) (by rw [hg 7 (by omega)];rfl);rw [Nat.add_zero] at c0
     have fF:(i:Int)<(C.length:Int):=by omega
     have aY:=heap_alloc_new wr (.cells #[.int .u32 c.r,.int .i64 x,.int .u32 c.lo,.int .u32 c.hi,.int .u32 c.a00,.int .u32 c.a01,.int .u32 c.a10,.int .u32 c.a11] 240 (0,0));have wO:=(af.refl [] wr).alloc (.cells #[.int .u32 c.r,.int .i64 x,.int .u32 c.lo,.int .u32 c.hi,.int .u32 c.a00,.int .u32 c.a01,.int .u32 c.a10,.int .u32 c.a11] 240 (0,0))
     have hbn:wr.heap.size∉qi.all b:=fun hm=>by have:=hR.tx.mem.lt _ hm;omega
     have hPl:P.length<=3000000:=by rw [hR.pe.length_eq,yX,List.length_take];omega
     have rH:=hR.tx;rw [(qh hc).1,List.map_cons] at rH;have hq1:(c.a00,c.a10)∈C.flatMap bY.qs:=List.mem_flatMap.2 ⟨c,List.mem_of_getElem? hc,by simp [bY.qs]⟩;have Lm:(c.a01,c.a11)∈C.flatMap bY.qs:=List.mem_flatMap.2 ⟨c,List.mem_of_getElem? hc,by simp [bY.qs]⟩;have HD:=Lib.hid (And.intro hq1 (And.intro Lm (And.intro (zF.out.1.deep hq1) (zF.out.1.deep Lm))));have H8:=Lib.hid (And.intro (zF.out.1.ok c (List.mem_of_getElem? hc)) hc);have HTX:=Lib.hid rH;have Po:=Lib.hid hR
     have dG:wr.heap.size<(wr.alloc (.cells #[.int .u32 c.r,.int .i64 x,.int .u32 c.lo,.int .u32 c.hi,.int .u32 c.a00,.int .u32 c.a01,.int .u32 c.a10,.int .u32 c.a11] 240 (0,0))).heap.size:=by rw [World.size_alloc];omega
     clear hR aC hg hc hq1 Lm rH;go_wp2_with fail;obtain ⟨W1,hW1⟩ : ∃ W1,wr.alloc (.cells #[.int .u32 c.r,.int .i64 x,.int .u32 c.lo,.int .u32 c.hi,.int .u32 c.a00,.int .u32 c.a01,.int .u32 c.a10,.int .u32 c.a11] 240 (0,0))=W1:=⟨_,rfl⟩;rw [hW1] at aY wO dG ⊢;generalize wr.heap.size=sz at *;have jR:=Lib.hid wO;have pO:=Lib.hid aY;have HBN:=Lib.hid hbn
     have Nq:Hid (∀ z:World,af [] wr z->Calls Tryz.prog 161 #[.pointer (some ⟨b,0,none⟩),.int .i64 x,.int .u32 c.a00,.int .u32 c.a10] z fun e w'=>JQ b x c.a00 c.a10 Ki (c.r::(C.drop (i+1)).map bY.r) qi z e w'):=fun z u=>HTX.out.Bd (p:=(c.a00,c.a10)) vO.out zF.out.2.2 HD.out.1 HD.out.2.2.1.1 HD.out.2.2.1.2 dS.out u (by omega)
     have Ai:Hid (∀ z:World,af [] W1 z->z.cell? ⟨sz,4,none⟩=some (.int .u32 c.a00)/\z.cell? ⟨sz,6,none⟩=some (.int .u32 c.a10)):=fun z u=>by obtain ⟨_,_,_,z4,_,z6,_⟩:=xM pO.out;exact ⟨u.fQ z4,u.fQ z6⟩
     clear c0 c1 c2 c3 c4 c5 c6 c7 aY wO hbn hW1
     go_region_held3 (fun z=>z.cell? ⟨sz,4,none⟩=some (.int .u32 c.a00)/\z.cell? ⟨sz,6,none⟩=some (.int .u32 c.a10)) (first | exact Ai.out _ (af.refl _ _).drew | exact Ai.out _ (af.refl _ _) | exact xm.out) (first | (go_at_call 161;refine (Nq.out _ (by first | exact jR.out.drew | exact jR.out)).mono ?_;rintro e wa hE;obtain ⟨lo,K1,T1,q1,rfl,G1,m1,t1,u1,s1,l1⟩:=hE.ex;have hBa:wa.heap[sz]?=some (.cells #[.int .u32 c.r,.int .i64 x,.int .u32 c.lo,.int .u32 c.hi,.int .u32 c.a00,.int .u32 c.a01,.int .u32 c.a10,.int .u32 c.a11] 240 (0,0)):=(u1.block sz dG HBN.out).trans pO.out;have xm:Hid (wa.cell? ⟨sz,4,none⟩=some (.int .u32 c.a00)/\wa.cell? ⟨sz,6,none⟩=some (.int .u32 c.a10)):=⟨(xM hBa).2.2.2.1,(xM hBa).2.2.2.2.2.1⟩;have HBa:=Lib.hid hBa;have mi:=Lib.hid (And.intro G1 (And.intro m1 (And.intro t1 (And.intro u1 (And.intro s1 l1)))));clear hE G1 m1 t1 u1 s1 hBa))
     have mg:=Lib.hid (HTX.out.Ph (p:=(c.a00,c.a10)) vO.out HD.out.2.2.1.1 HD.out.2.2.1.2 mi.out.1 mi.out.2.1 (by omega));have BB:sz<wa.heap.size:=Nat.lt_of_lt_of_le dG mi.out.2.2.2.1.size;have HN1:Hid (sz∉q1.all b):=mi.out.2.2.2.2.1.up HBN.out dG;clear Ai xm;go_wp2_with fail;refine mg.out.mono ?_;rintro e wb ⟨rfl,m2,u2⟩;have YT:=Lib.hid (HTX.out.get (p:=(c.a00,c.a10)) vO.out zF.out.2.2 HD.out.1 HD.out.2.2.1.1 HD.out.2.2.1.2 dS.out (by first | exact jR.out.drew | exact jR.out) mi.out.1 mi.out.2.2.1 mi.out.2.2.2.1 mi.out.2.2.2.2.1 m2 u2);have HBb:Hid (wb.heap[sz]?=some (.cells #[.int .u32 c.r,.int .i64 x,.int .u32 c.lo,.int .u32 c.hi,.int .u32 c.a00,.int .u32 c.a01,.int .u32 c.a10,.int .u32 c.a11] 240 (0,0))):=(u2.block sz BB HN1.out).trans HBa.out;have yK:sz<wb.heap.size:=Nat.lt_of_lt_of_le BB u2.size;clear m2 u2 mg HBa mi;go_wp2_with fail
     have HC3:Hid (∀ z:World,af [] wb z->Calls Tryz.prog 161 #[.pointer (some ⟨b,0,none⟩),.int .i64 x,.int .u32 c.a01,.int .u32 c.a11] z fun e w'=>JQ b x c.a01 c.a11 (K1.gU lo) (c.r::(C.drop (i+1)).map bY.r) q1 z e w'):=fun z u=>YT.out.Bd (p:=(c.a01,c.a11)) vO.out zF.out.2.2 HD.out.2.1 HD.out.2.2.2.1 HD.out.2.2.2.2 dS.out u (by simp;omega)
     have Pq:Hid (∀ z:World,af [] wb z->z.cell? ⟨sz,5,none⟩=some (.int .u32 c.a01)/\z.cell? ⟨sz,7,none⟩=some (.int .u32 c.a11)):=fun z u=>by obtain ⟨_,_,_,_,z5,_,z7⟩:=xM HBb.out;exact ⟨u.fQ z5,u.fQ z7⟩
     go_region_held3 (fun z=>z.cell? ⟨sz,5,none⟩=some (.int .u32 c.a01)/\z.cell? ⟨sz,7,none⟩=some (.int .u32 c.a11)) (first | exact Pq.out _ (af.refl _ _).drew | exact Pq.out _ (af.refl _ _) | exact Pv.out) (first | (go_at_call 161;refine (HC3.out _ (by first | exact (af.refl _ _).drew | exact af.refl _ _)).mono ?_;rintro e wd hE;obtain ⟨yF,K2,T2,q2,rfl,G2,m3,t2,u3,s3,l2⟩:=hE.ex;have hBd:wd.heap[sz]?=some (.cells #[.int .u32 c.r,.int .i64 x,.int .u32 c.lo,.int .u32 c.hi,.int .u32 c.a00,.int .u32 c.a01,.int .u32 c.a10,.int .u32 c.a11] 240 (0,0)):=(u3.block sz yK HN1.out).trans HBb.out;have Pv:Hid (wd.cell? ⟨sz,5,none⟩=some (.int .u32 c.a01)/\wd.cell? ⟨sz,7,none⟩=some (.int .u32 c.a11)):=⟨(xM hBd).2.2.2.2.1,(xM hBd).2.2.2.2.2.2⟩;have HBd:=Lib.hid hBd;have qR:=Lib.hid (And.intro G2 (And.intro m3 (And.intro t2 (And.intro u3 (And.intro s3 l2)))));clear hE G2 m3 t2 u3 s3 hBd))
     have HC4:=Lib.hid (YT.out.Ph (p:=(c.a01,c.a11)) vO.out HD.out.2.2.2.1 HD.out.2.2.2.2 qR.out.1 qR.out.2.1 (by simp;omega));have afT:sz<wd.heap.size:=Nat.lt_of_lt_of_le yK qR.out.2.2.2.1.size;have NQ:Hid (sz∉q2.all b):=qR.out.2.2.2.2.1.up HN1.out yK;clear Pq Pv HC3;go_wp2_with fail;refine HC4.out.mono ?_;rintro e we ⟨rfl,m4,u4⟩;have YU:=Lib.hid (YT.out.get (p:=(c.a01,c.a11)) vO.out zF.out.2.2 HD.out.2.1 HD.out.2.2.2.1 HD.out.2.2.2.2 dS.out (by first | exact (af.refl _ _).drew | exact af.refl _ _) qR.out.1 qR.out.2.2.1 qR.out.2.2.2.1 qR.out.2.2.2.2.1 m4 u4);have hBe:we.heap[sz]?=some (.cells #[.int .u32 c.r,.int .i64 x,.int .u32 c.lo,.int .u32 c.hi,.int .u32 c.a00,.int .u32 c.a01,.int .u32 c.a10,.int .u32 c.a11] 240 (0,0)):=(u4.block sz afT NQ.out).trans HBd.out;have acn:sz<we.heap.size:=Nat.lt_of_lt_of_le afT u4.size;have Xy:=heap_alloc_new we (.cells #[.int .i64 y,.int .u32 lo,.int .u32 yF] 116 (0,0));have hxs:(we.alloc (.cells #[.int .i64 y,.int .u32 lo,.int .u32 yF] 116 (0,0))).heap[sz]?=some (.cells #[.int .u32 c.r,.int .i64 x,.int .u32 c.lo,.int .u32 c.hi,.int .u32 c.a00,.int .u32 c.a01,.int .u32 c.a10,.int .u32 c.a11] 240 (0,0)):=(heap_alloc_old we _ acn).trans hBe;have hxu:=(af.refl [] we).alloc (.cells #[.int .i64 y,.int .u32 lo,.int .u32 yF] 116 (0,0))
     have Uy:we.heap.size∉q2.all b:=fun hm=>by have:=m4.lt _ hm;omega
     have Px:we.heap.size<(we.alloc (.cells #[.int .i64 y,.int .u32 lo,.int .u32 yF] 116 (0,0))).heap.size:=by rw [World.size_alloc];omega
     have hxa:=ae (j:=0) m4.blk rfl;clear m4 u4 HC4 HBd qR hBe YT HBb;go_wp2_with fail;obtain ⟨W5,hW5⟩ : ∃ W5,we.alloc (.cells #[.int .i64 y,.int .u32 lo,.int .u32 yF] 116 (0,0))=W5:=⟨_,rfl⟩;rw [hW5] at Xy hxs hxu Px ⊢;generalize we.heap.size=s5 at *
     have afU:Hid (∀ z:World,af [] we z->Calls Tryz.prog 163 #[.pointer (some ⟨q2.a,0,none⟩),.int .u32 c.r,.agg #[.int .i64 y,.int .u32 lo,.int .u32 yF]] z fun e w'=>e=.returned (.int .i64 0)/\∃ q1,aF w' b ((K2.gU yF).iC c.r y lo yF) T2 q1/\q1.all b=q2.all b/\q1.t=q2.t/\q1.a=q2.a/\af (q2.all b) z w'):=fun z u=>YU.out.YO vO.out H8.out.1 u
     have VD:Hid (∀ z:World,af [] W5 z->z.cell? ⟨b,0,none⟩=some (.pointer (some ⟨q2.a,0,none⟩))/\z.cell? ⟨sz,0,none⟩=some (.int .u32 c.r)/\z.cell? ⟨s5,0,none⟩=some (.int .i64 y)/\z.cell? ⟨s5,1,none⟩=some (.int .u32 lo)/\z.cell? ⟨s5,2,none⟩=some (.int .u32 yF)):=fun z u=>⟨u.fQ (hxu.fQ hxa),u.fQ (xM hxs).1,u.fQ (ae (j:=0) Xy rfl),u.fQ (ae (j:=1) Xy rfl),u.fQ (ae (j:=2) Xy rfl)⟩
     have Nj:=Lib.hid (And.intro Xy (And.intro hxs (And.intro hxu (And.intro Uy Px))));have akY:sz<W5.heap.size:=ah hxs;clear Xy hxs hxu Uy Px hxa hW5
     go_region_held3 (fun z=>z.cell? ⟨b,0,none⟩=some (.pointer (some ⟨q2.a,0,none⟩))/\z.cell? ⟨sz,0,none⟩=some (.int .u32 c.r)/\z.cell? ⟨s5,0,none⟩=some (.int .i64 y)/\z.cell? ⟨s5,1,none⟩=some (.int .u32 lo)/\z.cell? ⟨s5,2,none⟩=some (.int .u32 yF)) (first | exact VD.out _ (af.refl _ _).drew | exact VD.out _ (af.refl _ _) | exact VE.out) (first | (go_at_call 163;refine (afU.out _ (by first | exact Nj.out.2.2.1.drew | exact Nj.out.2.2.1)).mono ?_;rintro e wf ⟨rfl,q3,m5,e5,et5,ea5,u5⟩;have Nc:wf.heap[s5]?=some (.cells #[.int .i64 y,.int .u32 lo,.int .u32 yF] 116 (0,0)):=(u5.block s5 Nj.out.2.2.2.2 Nj.out.2.2.2.1).trans Nj.out.1;have Xt:wf.heap[sz]?=some (.cells #[.int .u32 c.r,.int .i64 x,.int .u32 c.lo,.int .u32 c.hi,.int .u32 c.a00,.int .u32 c.a01,.int .u32 c.a10,.int .u32 c.a11] 240 (0,0)):=(u5.block sz akY NQ.out).trans Nj.out.2.1;have VE:Hid (wf.cell? ⟨b,0,none⟩=some (.pointer (some ⟨q2.a,0,none⟩))/\wf.cell? ⟨sz,0,none⟩=some (.int .u32 c.r)/\wf.cell? ⟨s5,0,none⟩=some (.int .i64 y)/\wf.cell? ⟨s5,1,none⟩=some (.int .u32 lo)/\wf.cell? ⟨s5,2,none⟩=some (.int .u32 yF)):=⟨by rw [<- ea5];exact ae (j:=0) m5.blk rfl,(xM Xt).1,ae (j:=0) Nc rfl,ae (j:=1) Nc rfl,ae (j:=2) Nc rfl⟩;have yx:=Lib.hid (And.intro m5 (And.intro e5 (And.intro et5 (And.intro u5 (And.intro Nc Xt)))));clear m5 e5 et5 u5 Nc Xt))
     clear VD VE afU;go_wp2_with fail;obtain ⟨DY,hDY,afV⟩:=YU.out.YP vO.out H8.out.1 (w1:=wf.drew) (yx.out.1.upd ((af.refl [] wf).drew) (by simp));have afW:=Lib.hid afV;have HDY:=Lib.hid hDY
     have HS7:Hid (∀ z:World,af [] wf z->z.cell? ⟨b,1,none⟩=some (.pointer (some ⟨q3.t,0,none⟩))/\z.cell? ⟨sz,0,none⟩=some (.int .u32 c.r)/\z.cell? ⟨s5,0,none⟩=some (.int .i64 y)/\z.cell? ⟨s5,1,none⟩=some (.int .u32 lo)/\z.cell? ⟨s5,2,none⟩=some (.int .u32 yF)):=fun z u=>⟨u.fQ (ae (j:=1) yx.out.1.blk rfl),u.fQ (xM yx.out.2.2.2.2.2).1,u.fQ (ae (j:=0) yx.out.2.2.2.2.1 rfl),u.fQ (ae (j:=1) yx.out.2.2.2.2.1 rfl),u.fQ (ae (j:=2) yx.out.2.2.2.2.1 rfl)⟩
     have ak0:sz<wf.heap.size:=ah yx.out.2.2.2.2.2;have ak1:s5<wf.heap.size:=ah yx.out.2.2.2.2.1
     have HN3:Hid (sz∉q3.all b/\s5∉q3.all b):=by rw [show q3.all b=q2.all b from yx.out.2.1];exact ⟨NQ.out,Nj.out.2.2.2.1⟩
     clear afV hDY
     go_region_held3 (fun z=>z.cell? ⟨b,1,none⟩=some (.pointer (some ⟨q3.t,0,none⟩))/\z.cell? ⟨sz,0,none⟩=some (.int .u32 c.r)/\z.cell? ⟨s5,0,none⟩=some (.int .i64 y)/\z.cell? ⟨s5,1,none⟩=some (.int .u32 lo)/\z.cell? ⟨s5,2,none⟩=some (.int .u32 yF)) (first | exact HS7.out _ (af.refl _ _).drew | exact HS7.out _ (af.refl _ _) | exact HS8.out) (first | (go_at_call 164;refine afW.out.mono ?_;rintro e wg ⟨rfl,m6,u6⟩;have QF:wg.heap[s5]?=some (.cells #[.int .i64 y,.int .u32 lo,.int .u32 yF] 116 (0,0)):=(u6.block s5 ak1 HN3.out.2).trans yx.out.2.2.2.2.1;have hs6:wg.heap[sz]?=some (.cells #[.int .u32 c.r,.int .i64 x,.int .u32 c.lo,.int .u32 c.hi,.int .u32 c.a00,.int .u32 c.a01,.int .u32 c.a10,.int .u32 c.a11] 240 (0,0)):=(u6.block sz ak0 HN3.out.1).trans yx.out.2.2.2.2.2;have HS8:Hid (wg.cell? ⟨b,1,none⟩=some (.pointer (some ⟨q3.t,0,none⟩))/\wg.cell? ⟨sz,0,none⟩=some (.int .u32 c.r)/\wg.cell? ⟨s5,0,none⟩=some (.int .i64 y)/\wg.cell? ⟨s5,1,none⟩=some (.int .u32 lo)/\wg.cell? ⟨s5,2,none⟩=some (.int .u32 yF)):=⟨ae (j:=1) m6.blk rfl,(xM hs6).1,ae (j:=0) QF rfl,ae (j:=1) QF rfl,ae (j:=2) QF rfl⟩;have HM6:=Lib.hid (And.intro m6 u6);clear m6 u6 QF hs6))
     have afX:=Lib.hid (Po.out.step H8.out.2 YU.out vO.out zF.out.1 zF.out.2.2 HDY.out (Nj.out.2.2.1.drew) yx.out.2.2.2.1 yx.out.2.1 ((af.refl [] wf).drew) HM6.out.1 HM6.out.2);clear HS7 HS8 afW yx HM6 Nj YU HTX Po HN1 NQ HN3;go_wp2_with fail
     go_roundg (C.length-(i+1))
     case measure=>omega
     case rel=>exact ⟨i+1,_,_,_,_,rfl,by omega,by simp,afX.out⟩
    ·obtain rfl:i=C.length:=by omega
     have fF:¬ ((C.length:Int)<(C.length:Int)):=by omega
     obtain ⟨D,M,st,_⟩:=hR.tx.st;rw [List.drop_length] at st;have LU:=hR.pe;rw [List.take_length] at LU;have HLS:Hid (yY b Ki q (C.flatMap fun c=>[c.lo,c.hi]) w2 Ki Ti qi wr):=⟨hR.tx.mem,st.wf.perm LU,st.ti,KV.Le.refl _,st.pos,hR.tx.up,hR.tx.sub⟩;have QY:=Lib.hid (And.intro st.mid (And.intro st.wf (And.intro hR.nil (st.ti.uni st.wf))));clear hR st LU Yd HR0;go_wp2_with fail
     go_loopg [119] C.length (fun gg s119 wr=>∃ (i:Nat) (K3:KV) (T3:List DM) (q3:aA),C.length-i=gg/\i<=C.length/\s119=.int .i64 i/\yY b Ki q ((C.drop i).flatMap fun c=>[c.lo,c.hi]) w2 K3 T3 q3 wr/\(i=0->K3=Ki))
     case atStart=>exact ⟨0,Ki,Ti,qi,by omega,by omega,rfl,HLS.out,fun _=>rfl⟩
     case round =>
      clear HLS;obtain ⟨i,K3,T3,q3,rfl,hi,rfl,hR,sG⟩:=hrel;have HI0:=Lib.hid sG;clear sG
      by_cases aW:i<C.length
      ·obtain ⟨c,hc⟩ : ∃ c,C[i]?=some c:=⟨_,List.getElem?_eq_getElem aW⟩
       have aC:=HKE.out wr hR.up;obtain ⟨gc,rfl⟩:=bC aC (by omega);have hg:=qg x C i c hc;have c0:=au aC (j:=i*8+0) (u:=.int .u32 c.r) (by rw [hg 0 (by omega)];rfl);have c1:=au aC (j:=i*8+1) (u:=.int .i64 x) (by rw [hg 1 (by omega)];rfl);have c2:=au aC (j:=i*8+2) (u:=.int .u32 c.lo) (by rw [hg 2 (by omega)];rfl);have c3:=au aC (j:=i*8+3) (u:=.int .u32 c.hi) (by rw [hg 3 (by omega)];rfl);have c4:=au aC (j:=i*8+4) (u:=.int .u32 c.a00) (by rw [hg 4 (by omega)];rfl);have c5:=au aC (j:=i*8+5) (u:=.int .u32 c.a01) (by rw [hg 5 (by omega)];rfl);have c6:=au aC (j:=i*8+6) (u:=.int .u32 c.a10) (by rw [hg 6 (by omega)];rfl);have c7:=au aC (j:=i*8+7) (u:=.int .u32 c.a11) (by rw [hg 7 (by omega)];rfl);rw [Nat.add_zero] at c0
       have fF:(i:Int)<(C.length:Int):=by omega
       have aY:=heap_alloc_new wr (.cells #[.int .u32 c.r,.int .i64 x,.int .u32 c.lo,.int .u32 c.hi,.int .u32 c.a00,.int .u32 c.a01,.int .u32 c.a10,.int .u32 c.a11] 240 (0,0));have wO:=(af.refl [] wr).alloc (.cells #[.int .u32 c.r,.int .i64 x,.int .u32 c.lo,.int .u32 c.hi,.int .u32 c.a00,.int .u32 c.a01,.int .u32 c.a10,.int .u32 c.a11] 240 (0,0))
       have hbn:wr.heap.size∉q3.all b:=fun hm=>by have:=hR.mem.lt _ hm;omega
       have uF:((C.drop (i+1)).flatMap fun c=>[c.lo,c.hi]).length<=3000000:=by rw [yX,List.length_drop];omega
       rw [(qh hc).1,List.flatMap_cons] at hR
       have NR:Hid (∀ z:World,af [] wr z->Calls Tryz.prog 96 #[.pointer (some ⟨b,0,none⟩),.int .u32 c.lo] z fun e w'=>e=.returned (.tuple #[])/\∃ K' T' q',yY b Ki q (c.hi::(C.drop (i+1)).flatMap fun c=>[c.lo,c.hi]) w2 K' T' q' w'/\af (q3.all b) z w'/\Sub (q3.all b) z (q'.all b)):=fun z u=>(hR.keep0 u).call (by show (c.hi::(C.drop (i+1)).flatMap fun c=>[c.lo,c.hi]).length<=_;rw [List.length_cons];omega)
       have dG:wr.heap.size<(wr.alloc (.cells #[.int .u32 c.r,.int .i64 x,.int .u32 c.lo,.int .u32 c.hi,.int .u32 c.a00,.int .u32 c.a01,.int .u32 c.a10,.int .u32 c.a11] 240 (0,0))).heap.size:=by rw [World.size_alloc];omega
       clear hR aC hg hc;go_wp2_with fail;obtain ⟨W1,hW1⟩ : ∃ W1,wr.alloc (.cells #[.int .u32 c.r,.int .i64 x,.int .u32 c.lo,.int .u32 c.hi,.int .u32 c.a00,.int .u32 c.a01,.int .u32 c.a10,.int .u32 c.a11] 240 (0,0))=W1:=⟨_,rfl⟩;rw [hW1] at aY wO dG ⊢;generalize wr.heap.size=sz at *;have jR:=Lib.hid wO;have pO:=Lib.hid aY;have HBN:=Lib.hid hbn
       have Ai:Hid (∀ z:World,af [] W1 z->z.cell? ⟨sz,2,none⟩=some (.int .u32 c.lo)):=fun z u=>u.fQ (xM pO.out).2.1
       clear c0 c1 c2 c3 c4 c5 c6 c7 aY wO hbn hW1
       go_region_held3 (fun z=>z.cell? ⟨sz,2,none⟩=some (.int .u32 c.lo)) (first | exact Ai.out _ (af.refl _ _).drew | exact Ai.out _ (af.refl _ _) | exact xm.out) (first | (go_at_call 96;refine (NR.out _ (by first | exact jR.out.drew | exact jR.out)).mono ?_;rintro e wa ⟨rfl,K4,T4,q4,r4,u4,s4⟩;have hBa:wa.heap[sz]?=some (.cells #[.int .u32 c.r,.int .i64 x,.int .u32 c.lo,.int .u32 c.hi,.int .u32 c.a00,.int .u32 c.a01,.int .u32 c.a10,.int .u32 c.a11] 240 (0,0)):=(u4.block sz dG HBN.out).trans pO.out;have xm:Hid (wa.cell? ⟨sz,2,none⟩=some (.int .u32 c.lo)):=(xM hBa).2.1;have HBa:=Lib.hid hBa;have ZQ:=Lib.hid (And.intro r4 (And.intro u4 s4));clear r4 u4 s4 hBa))
       clear Ai xm NR;go_wp2_with fail
       have Pq:Hid (∀ z:World,af [] wa z->z.cell? ⟨sz,3,none⟩=some (.int .u32 c.hi)):=fun z u=>u.fQ (xM HBa.out).2.2.1
       have NR:Hid (∀ z:World,af [] wa z->Calls Tryz.prog 96 #[.pointer (some ⟨b,0,none⟩),.int .u32 c.hi] z fun e w'=>e=.returned (.tuple #[])/\∃ K' T' q',yY b Ki q ((C.drop (i+1)).flatMap fun c=>[c.lo,c.hi]) w2 K' T' q' w'/\af (q4.all b) z w'/\Sub (q4.all b) z (q'.all b)):=fun z u=>(ZQ.out.1.keep0 u).call (by omega)
       have BB:sz<wa.heap.size:=ah HBa.out;have HN4:Hid (sz∉q4.all b):=ZQ.out.2.2.up HBN.out dG
       go_region_held3 (fun z=>z.cell? ⟨sz,3,none⟩=some (.int .u32 c.hi)) (first | exact Pq.out _ (af.refl _ _).drew | exact Pq.out _ (af.refl _ _) | exact Pv.out) (first | (go_at_call 96;refine (NR.out _ (by first | exact (af.refl _ _).drew | exact (af.refl _ _))).mono ?_;rintro e wb ⟨rfl,K5,T5,q5,r5,u5,s5'⟩;have hBb:wb.heap[sz]?=some (.cells #[.int .u32 c.r,.int .i64 x,.int .u32 c.lo,.int .u32 c.hi,.int .u32 c.a00,.int .u32 c.a01,.int .u32 c.a10,.int .u32 c.a11] 240 (0,0)):=(u5.block sz BB HN4.out).trans HBa.out;have Pv:Hid (wb.cell? ⟨sz,3,none⟩=some (.int .u32 c.hi)):=(xM hBb).2.2.1;have HR5:=Lib.hid r5;clear r5 u5 s5' hBb))
       clear Pq Pv NR ZQ;go_wp2_with fail
       go_roundg (C.length-(i+1))
       case measure=>omega
       case rel=>exact ⟨i+1,K5,T5,q5,rfl,by omega,by simp,HR5.out,fun h=>by omega⟩
      ·obtain rfl:i=C.length:=by omega
       have fF:¬ ((C.length:Int)<(C.length:Int)):=by omega
       rw [List.drop_length,List.flatMap_nil] at hR;obtain ⟨af0,hex⟩:=xK.of vO.out QY.out.1 QY.out.2.1 QY.out.2.2.2 hR.le hR.wf hR.pos;have hm:=hR.mem;have TJ:K3.order=K.order:=hR.le.od.trans QY.out.1.od;have Z4:K3.level=K.level:=hR.le.lv.trans QY.out.1.lv;have zG:=hm.os;have JP:=hm.ls;rw [TJ] at zG;rw [Z4] at JP;obtain ⟨YV,co3,Xw,_,_⟩:=zG.form (by omega);obtain ⟨gl3,cl3,Xx,_,_⟩:=JP.form (by omega);rw [Xw] at zG;rw [Xx] at JP
       have b5:wr.cell? ⟨b,5,none⟩=some (.slice (some ⟨YV,0,none⟩) K.order.length co3):=by rw [<- Xw];exact ae hm.blk rfl
       have b6:wr.cell? ⟨b,6,none⟩=some (.slice (some ⟨gl3,0,none⟩) K.level.length cl3):=by rw [<- Xx];exact ae hm.blk rfl
       have o0:wr.cell? ⟨YV,l,none⟩=some (.int .i64 (K.order.getD l 0:Nat)):=mQ zG (by omega);have o1:wr.cell? ⟨YV,l+1,none⟩=some (.int .i64 (K.order.getD (l+1) 0:Nat)):=mQ zG (by omega);have l0:wr.cell? ⟨gl3,x,none⟩=some (.int .i64 (K.lev x:Nat)):=mQ JP (by omega);have l1:wr.cell? ⟨gl3,y,none⟩=some (.int .i64 (K.lev y:Nat)):=mQ JP (by omega);have f0:=aS zG l;have f1:=aS zG (l+1);have g0:=aS JP x;have g1:=aS JP y
       have Px:(x:Int)<(K.level.length:Int):=by omega
       have SI:(y:Int)<(K.level.length:Int):=by omega
       have hgo:YV≠gl3:=by
        rintro rfl;have e1:=hm.oo YV (by rw [Xw];rfl);have e2:=hm.ol YV (by rw [Xx];rfl);omega
       have hbo:b≠YV:=by
        rintro rfl;have e1:=hm.oo b (by rw [Xw];rfl);have e2:=hm.ob;omega
       have mO:b≠gl3:=by
        rintro rfl;have e1:=hm.ol b (by rw [Xx];rfl);have e2:=hm.ob;omega
       have nZ:x≠y:=vO.out.facts.2.2.2.2
       have HE:Hid (Io b l K q w (.returned (.bool true)) ((((wr.setCell ⟨YV,l,none⟩ (.int .i64 y)).setCell ⟨YV,l+1,none⟩ (.int .i64 x)).setCell ⟨gl3,x,none⟩ (.int .i64 ((l:Int)+1))).setCell ⟨gl3,y,none⟩ (.int .i64 l)).drew.drew):=by
        have hE:=UX (l:=l) hm Xw Xx (by rw [TJ];omega) (by rw [TJ];omega) (by rw [TJ,Z4,JV.out.1];omega) (by rw [TJ,Z4,JV.out.2];omega);rw [TJ,JV.out.1,JV.out.2] at hE;refine ⟨C,N,by rw [JV.out.1,JV.out.2];exact zF.out.1,by rw [JV.out.1];exact zF.out.2.2,.inr ⟨rfl,dS.out,K3.qc l,T3,q3,hex,fun e=>?_,⟨hE.1,hR.ti.same rfl rfl,af0⟩,((eF.out.mono (by simp)).trans hR.up).then hE.2 fun k hk=>?_,fun k hk=>?_⟩⟩
        ·rw [HI0.out (by rw [e];rfl),QY.out.2.2.1 e]
        ·rcases hR.sub k hk with h | h
         ·exact .inl h
         ·have:=eF.out.size;right;omega
        ·rcases hR.sub k hk with h | h
         ·exact .inl h
         ·have:=eF.out.size;right;omega
       rw [JV.out.1] at o0;rw [JV.out.2] at o1;clear hR af0 hex hm TJ Z4 zG JP Xw Xx;go_wp2_with fail
       go_region
       go_wp2_with fail
       go_region
       go_wp2_with fail;go_ret;exact HE.out
end Go.Proofs.YtfkopmhpppeheaaGreat
namespace Go.Proofs.YtfkopmhpppeheaaGreat.Srt
theorem oL (i:Int) (h:i.toNat<Lib.len8tab.size) (h0:0<=i):((Lib.len8tab[i.toNat]'h).toNat:Int)=(Lib.bitLen i.toNat:Int):=by
 have h1:=Lib.len8_of i h0 (by rw [Lib.len8tab_size] at h;omega);unfold Lib.len8 at h1;rw [getElem?_pos Lib.len8tab i.toNat h] at h1;exact h1
theorem nT {a b:Nat} (s:Nat) (h1:a<=8) (h2:s<=56) (h3:b=s+a):Go.RowKit.wrap64 ((s:Int)+Go.RowKit.wrap64 (a:Int))=(b:Int):=by
 subst h3;unfold Go.RowKit.wrap64;omega
theorem QZ {a:Nat} (h1:a<=8):Go.RowKit.wrap64 (Go.RowKit.wrap64 (a:Int))=(a:Int):=by
 unfold Go.RowKit.wrap64;omega
theorem SoR.bits_Len64 (x:Int) (w:World) (h0:0≤x) (h1:x≤18446744073709551615) :
    Calls Tryz.prog 264 #[.int .u64 x] w fun e w'=>e=.returned (.int .i64 (Lib.bitLen x.toNat))∧w'=w:=by
  have hd0:0≤x / 4294967296 / 65536 / 256:=by omega
  have AY:0≤x / 4294967296 / 65536:=by omega
  have wP:0≤x / 4294967296 / 256:=by omega
  have U0:0≤x / 4294967296:=by omega
  have hd4:0≤x / 65536 / 256:=by omega
  have hd5:0≤x / 65536:=by omega
  have hd6:0≤x / 256:=by omega
  go_enter Tryz.func264,Tryz.ntmps264
  go_wp2
  all_goals first
    | (exfalso; have hs:=Lib.len8tab_size; omega)
    | (go_ret
       refine ⟨congrArg Ending.returned (congrArg (Value.int IntKind.i64) ?_),rfl⟩
       simp only [oL (x / 4294967296 / 65536 / 256) _ hd0,oL (x / 4294967296 / 65536) _ AY,oL (x / 4294967296 / 256) _ wP,oL (x / 4294967296) _ U0,oL (x / 65536 / 256) _ hd4,oL (x / 65536) _ hd5,oL (x / 256) _ hd6,oL _ _ h0]
       first
       | exact nT 56 (Lib.bitLen_le8' (x / 4294967296 / 65536 / 256) hd0 (by omega)) (by omega) (by rw [show (x / 4294967296 / 65536 / 256).toNat=x.toNat / 72057594037927936 by omega]; exact Lib.bitLen_shift56 x.toNat (by omega) (by omega))
       | exact nT 48 (Lib.bitLen_le8' (x / 4294967296 / 65536) AY (by omega)) (by omega) (by rw [show (x / 4294967296 / 65536).toNat=x.toNat / 281474976710656 by omega]; exact Lib.bitLen_shift48 x.toNat (by omega) (by omega))
       | exact nT 40 (Lib.bitLen_le8' (x / 4294967296 / 256) wP (by omega)) (by omega) (by rw [show (x / 4294967296 / 256).toNat=x.toNat / 1099511627776 by omega]; exact Lib.bitLen_shift40 x.toNat (by omega) (by omega))
       | exact nT 32 (Lib.bitLen_le8' (x / 4294967296) U0 (by omega)) (by omega) (by rw [show (x / 4294967296).toNat=x.toNat / 4294967296 by omega]; exact Lib.bitLen_shift32 x.toNat (by omega) (by omega))
       | exact nT 24 (Lib.bitLen_le8' (x / 65536 / 256) hd4 (by omega)) (by omega) (by rw [show (x / 65536 / 256).toNat=x.toNat / 16777216 by omega]; exact Lib.bitLen_shift24 x.toNat (by omega) (by omega))
       | exact nT 16 (Lib.bitLen_le8' (x / 65536) hd5 (by omega)) (by omega) (by rw [show (x / 65536).toNat=x.toNat / 65536 by omega]; exact Lib.bitLen_shift16 x.toNat (by omega) (by omega))
       | exact nT 8 (Lib.bitLen_le8' (x / 256) hd6 (by omega)) (by omega) (by rw [show (x / 256).toNat=x.toNat / 256 by omega]; exact Lib.bitLen_shift8 x.toNat (by omega) (by omega))
       | exact QZ (Lib.bitLen_le8' x h0 (by omega)))
theorem SoR.bits_Len (x:Int) (w:World) (h0:0<=x) (h1:x<=18446744073709551615) :
  Calls Tryz.prog 253 #[.int .u64 x] w fun e w'=>e=.returned (.int .i64 (Lib.bitLen x.toNat))/\w'=w:=by
 go_enter Tryz.func253,Tryz.ntmps253
 go_wp2_with (go_at_call 264;refine (SoR.bits_Len64 x _ h0 h1).mono ?_;rintro e w' ⟨rfl,rfl⟩)
 go_ret;exact ⟨rfl,rfl⟩
theorem SoR.cmp_isNaN_int (x:Int) (w:World):Calls Tryz.prog 270 #[.int .u32 x] w fun e w'=>e=.returned (.bool false)/\w'=w:=by
 go_enter Tryz.func270,Tryz.ntmps270
 go_wp2
 go_ret;exact ⟨by simp,rfl⟩
theorem SoR.cmp_Less_int (x y:Int) (w:World):Calls Tryz.prog 260 #[.int .u32 x,.int .u32 y] w fun e w'=>e=.returned (.bool (Sort.ltInt x y))/\w'=w:=by
 go_enter Tryz.func260,Tryz.ntmps260
 go_wp2_with (go_at_call 270;refine (SoR.cmp_isNaN_int _ _).mono ?_;rintro e w' ⟨rfl,rfl⟩)
 go_ret;exact ⟨rfl,rfl⟩
end Go.Proofs.YtfkopmhpppeheaaGreat.Srt
namespace Go.Proofs.YtfkopmhpppeheaaGreat.Srt
open Go.RowKit Go.Sort
def intOf:Value->Int | .int _ q=>q | _=>0
section
variable {α : Type} [Inhabited α] (lt:α->α->Bool)
theorem JW (a j:Nat) (d:Array α) (hj:a<j) (hl:lt d[j]! d[j-1]! = true):insInner lt a j d=insInner lt a (j-1) (swp d j (j-1)):=by
 obtain ⟨k,rfl⟩ : ∃ k,j=k+1:=⟨j-1,by omega⟩;rw [insInner]
 simp only [Nat.add_sub_cancel] at hl ⊢
 simp [hj,hl]
theorem EM (a j:Nat) (d:Array α) (h:j<=a\/lt d[j]! d[j-1]! = false):insInner lt a j d=d:=by
 cases j with
 | zero=>rw [insInner]
 | succ k =>
  rw [insInner]
  simp only [Nat.add_sub_cancel] at h
  rcases h with h | h
  ·simp [show ¬ k+1 > a by omega]
  ·simp [h]
theorem JX (a b i:Nat) (d:Array α) (h:i<b):insOuter lt a b i d=insOuter lt a b (i+1) (insInner lt a i d):=by rw [insOuter,if_pos h]
theorem EN (a b i:Nat) (d:Array α) (h:¬ i<b):insOuter lt a b i d=d:=by rw [insOuter,if_neg h]
end
section
variable {α : Type} [Inhabited α] (enc:α->Value)
theorem bH (w:World) (m q blk off:Nat) (d:Array α):(putRow enc (Sort.ahead w m) blk off d).drewN q=putRow enc (Sort.ahead w (m+q)) blk off d:=by
 show Sort.ahead (putRow enc (Sort.ahead w m) blk off d) q=_
 rw [putRow_ahead enc w m,ahead_ahead,<- putRow_ahead]
theorem jM (w:World) (m q blk off:Nat) (d:Array α) (j k:Nat) (hj:j<d.size) (hk:k<d.size) :
  (((putRow enc (Sort.ahead w m) blk off d).drewN q).setCell ⟨blk,off+j,none⟩ (enc d[k]!)).setCell ⟨blk,off+k,none⟩ (enc d[j]!)=putRow enc (Sort.ahead w (m+q)) blk off (swp d j k):=by
 rw [bH];exact putRow_swp enc _ blk off d j k hj hk
end
theorem SoR.insertionSort_int (blk off cap a b:Nat) (d:Array Int) (w:World) (hH:Holds (Value.int .u32) w blk off d) (vz:a<=b) (hb:b<=d.size) (dG:d.size<4611686018427387904) :
  Calls Tryz.prog 254 #[.slice (some ⟨blk,off,none⟩) d.size cap,.int .i64 a,.int .i64 b] w fun e w' =>
   e=.returned (.tuple #[])/\∃ n,w'=putRow (Value.int .u32) (Sort.ahead w n) blk off (Sort.insertionSort ltInt d a b):=by
 go_enter Tryz.func254,Tryz.ntmps254
 go_wp2
 go_loopw [6] (fun vi wr=>∃ (i n:Nat) (dk:Array Int),vi=.int .i64 i/\a<i/\i<=b+1/\dk.size=d.size/\wr=putRow (Value.int .u32) (Sort.ahead w n) blk off dk /\
   insOuter ltInt a b i dk=insOuter ltInt a b (a+1) d) (fun vi _=>b+1-(intOf vi).toNat)
 case atStart=>exact ⟨a+1,0,d,by go_num,by omega,by omega,rfl,(putRow_self _ _ _ _ _ hH).symm,rfl⟩
 case round =>
  obtain ⟨i,n,dk,rfl,hai,hib,hsk,Iu,hO⟩:=hrel;have HO:Hid (insOuter ltInt a b i dk=insOuter ltInt a b (a+1) d):=hO;clear hO
  go_wp2
  ·-- i<b: the inner loop
   go_loopw [7] (fun vj yz=>∃ (j m:Nat) (dj:Array Int),vj=.int .i64 j/\a<=j/\j<=i/\dj.size=d.size/\yz=putRow (Value.int .u32) (Sort.ahead w m) blk off dj /\
     insInner ltInt a j dj=insInner ltInt a i dk) (fun vj _=>(intOf vj).toNat)
   case atStart=>exact ⟨i,n,dk,rfl,by omega,Nat.le_refl _,hsk,rfl,rfl⟩
   case round =>
    obtain ⟨j,m,dj,rfl,haj,Lc,Xz,gV,hI⟩:=hrel
    have aW:i<b:=by assumption
    obtain ⟨G,hG⟩ : ∃ G:Nat->Int,∀ t,G t=dj[t]! := ⟨fun t=>dj[t]!,fun _=>rfl⟩
    have qB:∀ t,t<d.size->wr.cell? ⟨blk,off+t,none⟩=some (.int .u32 (G t)):=fun t ht=>by
     rw [gV,hG];exact cell?_putRow _ _ _ _ d dj (holds_ahead _ _ _ _ _ _ hH) Xz t (by omega)
    have LH:∀ t,t<d.size->wr.frozen? ⟨blk,off+t,none⟩=false:=fun t ht=>by
     rw [gV,frozen?_putRow];exact ((holds_ahead _ _ m _ _ _ hH) t ht).2
    have HW:Hid (wr=putRow (Value.int .u32) (Sort.ahead w m) blk off dj):=gV;have HG:Hid (∀ t,G t=dj[t]!):=hG;have HI:Hid (insInner ltInt a j dj=insInner ltInt a i dk):=hI;clear gV hG hI hH
    have out:(j<=a\/ltInt dj[j]! dj[j-1]! = false)->∀ q,∃ i' n' dk',Value.int .i64 ((i:Int)+1)=.int .i64 (i':Nat)/\a<i'/\i'<=b+1/\dk'.size=d.size /\
      wr.drewN q=putRow (Value.int .u32) (Sort.ahead w n') blk off dk'/\insOuter ltInt a b i' dk'=insOuter ltInt a b (a+1) d:=fun hs q =>
     ⟨i+1,m+q,dj,by go_num,by omega,by omega,Xz,by rw [HW.out];exact bH _ _ _ _ _ _ _,
      by rw [<- HO.out,JX _ _ _ _ _ aW,<- HI.out,EM _ _ _ _ hs]⟩
    have OUT:Hid _:=out;clear out
    go_wp2
    by_cases hja:a<j
    ·go_quiet (first | (go_at_call 260;refine Calls.quiet_of_same (SoR.cmp_Less_int _ _ _)))
     go_wp2
     ·-- Less: the swap,j--
      have hl:ltInt (G j) (G (j-1))=true:=by assumption
      go_region
      all_goals go_wp2
      go_roundw
      case rel =>
       refine ⟨j-1,m+(nq+1),swp dj j (j-1),by congr 1;omega,by omega,by omega,by rw [size_swp];exact Xz,?_,?_⟩
       ·rw [HW.out,HG.out,HG.out]
        exact jM _ w m (nq+1) blk off dj j (j-1) (by omega) (by omega)
       ·rw [<- HI.out,JW ltInt a j dj hja (by rw [<- HG.out,<- HG.out];exact hl)]
      case measure=>simp [intOf];omega
     ·-- not Less
      have hl:ltInt (G j) (G (j-1))=false:=by assumption
      go_roundw
      case rel=>exact OUT.out (Or.inr (by rw [<- HG.out,<- HG.out];exact hl)) nq
      case measure=>simp [intOf];omega
    ·go_quiet (first | (go_at_call 260;refine Calls.quiet_of_same (SoR.cmp_Less_int _ _ _)))
     go_wp2
     go_roundw
     case rel=>exact OUT.out (Or.inl (by omega)) nq
     case measure=>simp [intOf];omega
  ·-- the outer loop is at its end
   have Qh:¬ i<b:=by assumption
   go_end0;exact ⟨rfl,n,by unfold Sort.insertionSort;rw [<- HO.out,EN _ _ _ _ _ Qh]⟩
end Go.Proofs.YtfkopmhpppeheaaGreat.Srt
namespace Go.Proofs.YtfkopmhpppeheaaGreat.Srt
open Go.RowKit Go.Sort
theorem Gm (x:Nat) (h:x<2 ^ 64):Lib.bitLen x=bitsLen x:=by
 induction x using Nat.strongRecOn with
 | _ x ih =>
  by_cases h0:x=0
  ·subst h0;rfl
  ·rw [Lib.bitLen_half x h0 h,ih (x/2) (by omega) (by omega)]
   unfold bitsLen;rw [if_neg h0,Nat.log2_def x]
   by_cases h2:2<=x
   ·rw [if_pos h2,if_neg (by omega)];omega
   ·obtain rfl:x=1:=by omega
    simp
def zO:Prop:=∀ (blk off cap a b limit:Nat) (d:Array Int) (w:World),Holds (Value.int .u32) w blk off d->blk<w.heap.size->a<=b->b<=d.size->d.size<4611686018427387904->limit<4611686018427387904->Below ltInt a b d ->
 Calls Tryz.prog 252 #[.slice (some ⟨blk,off,none⟩) d.size cap,.int .i64 a,.int .i64 b,.int .i64 limit] w fun e w' =>
  e=.returned (.tuple #[])/\∃ n os,w'=grow (putRow (Value.int .u32) (Sort.ahead w n) blk off (Sort.pdq ltInt d a b limit true true)) os
theorem SoR.Sort_int (ak5:zO) (blk off cap:Nat) (d:Array Int) (w:World) (hH:Holds (Value.int .u32) w blk off d) (jk:blk<w.heap.size) (dG:d.size<4611686018427387904) :
  Calls Tryz.prog 249 #[.slice (some ⟨blk,off,none⟩) d.size cap] w fun e w'=>e=.returned (.tuple #[])/\∃ n os,w'=grow (putRow (Value.int .u32) (Sort.ahead w n) blk off (Sort.sort ltInt d)) os:=by
 have HH:Hid (Holds (Value.int .u32) w blk off d):=hH;clear hH
 have acp:∀ w,Calls Tryz.prog 253 #[.int .u64 (d.size:Int)] w fun e w'=>e=.returned (.int .i64 (bitsLen d.size:Nat))/\w'=w:=fun w=>by
  have h:=SoR.bits_Len (d.size:Int) w (by omega) (by omega)
  rwa [Int.toNat_natCast,Gm _ (by omega)] at h
 have hk:bitsLen d.size<=62:=(bitsLen_le_iff d.size 62).2 (by omega)
 go_enter Tryz.func249,Tryz.ntmps249
 go_wp2_with (first
  | (go_at_call 253;refine (acp _).mono ?_;rintro e w' ⟨rfl,rfl⟩)
  | (go_at_call 252;refine (ak5 blk off cap 0 d.size (bitsLen d.size) d _ (by exact HH.out) (by exact jk) (Nat.zero_le _) (Nat.le_refl _) dG (by omega) (Or.inl rfl)).mono ?_;rintro e w' ⟨rfl,n,os,rfl⟩))
 go_end0;exact ⟨rfl,n,os,rfl⟩
end Go.Proofs.YtfkopmhpppeheaaGreat.Srt
