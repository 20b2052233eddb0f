import Derived.Test.YtdackeldhdchaaaGreatPR27
import Derived.Test.YtdackeldhdchaaaGreatPR15
import Derived.Test.YtdackeldhdchaaaGreatPR7
import Derived.Test.YtdackeldhdchaaaGreatPR14
import Derived.Test.YtdackeldhdchaaaGreatPR26
import Derived.Test.YtdackeldhdchaaaGreatPR25
import Derived.Test.YtdackeldhdchaaaGreatPR17
import Derived.Test.YtdackeldhdchaaaGreatPR6
import Derived.Maps.RangeWalk
set_option maxRecDepth 100000
set_option maxHeartbeats 6400000
namespace Go.Proofs.YtdackeldhdchaaaGreat
open Go.RowKit Go.Maps Go.ChangeMaps Go.WideShapes
theorem ug.start {w w1 w2:World} {n0 b m n c:Nat} {T:List DM} {q:aA} {p:aQ} (hn:n0<=w.heap.size) (hk:dH w1 b (KV.new n c) T q) (u1:af [] w w1) (s1:Sub [] w (q.all b))
  (hm:bZ w2 m (MV.new n c) p (p.all m)) (u2:af [] w1 w2) (s2:Sub [] w1 (p.all m)) :
  ug (w2.alloc (.cells #[.pointer (some ⟨b,0,none⟩),.pointer (some ⟨m,0,none⟩),.slice none 0 0,.slice none 0 0] 44 (0,0))) n0 w2.heap.size b m (.slice none 0 0) (.slice none 0 0) (KV.new n c) (q.all b) (MV.new n c) p [] []:=by
 have ua:af [] w2 (w2.alloc (.cells #[.pointer (some ⟨b,0,none⟩),.pointer (some ⟨m,0,none⟩),.slice none 0 0,.slice none 0 0] 44 (0,0))):=(af.refl _ _).alloc _
 have k1:∀ k,k∈q.all b->w.heap.size<=k/\k<w1.heap.size:=fun k dD=>⟨(s1 k dD).resolve_left (by simp),hk.mem.lt k dD⟩
 have k2:∀ k,k∈p.all m->w1.heap.size<=k/\k<w2.heap.size:=fun k dD=>⟨(s2 k dD).resolve_left (by simp),hm.lt k dD⟩
 have h1:=u1.size;have h2:=u2.size;refine ⟨heap_alloc_new _ _,⟨⟨T,q,hk.upd (u2.trans ua) (by simp),rfl⟩,?_,fun k a1 a2=>?_,World.ownsRow_nil _ _ _ _,fun k dD=>by simp [Value.ownBlock] at dD,eF.nil _ _ _⟩,⟨fun h=>?_,fun h=>?_⟩,fun k dD=>?_,?_,fun k dD=>?_⟩
 ·have Jj:=hm.keep0 ua
  obtain ⟨cs,q1,q2,_⟩:=Jj.hs.ex;exact ⟨Jj.blk,Jj.os,⟨cs,q1,q2,fun i t c h=>by simp [MV.new] at h⟩,Jj.ts,Jj.ne,fun k dD=>List.mem_append.2 (.inr dD)⟩
 ·have:=k1 k a1;have:=k2 k a2;omega
 ·have:=k1 _ h;omega
 ·have:=k2 _ h;omega
 ·rcases dD with h | h | h | h | h
  ·have:=k1 k h;omega
  ·have:=k2 k h;omega
  ·omega
  ·simp [Value.ownBlock] at h
  ·simp [Value.ownBlock] at h
 ·have:=ua.size;omega
 ·have rQ:=(k1 b (aA.mem.2 (.inl rfl))).2
  rcases dD with h | h | h
  ·omega
  ·simp [Value.ownBlock] at h
  ·simp [Value.ownBlock] at h
theorem ug.model3 {w w1:World} {n0 a b m:Nat} {rv tv:Value} {K:KV} {F:List Nat} {M M':MV} {p:aQ} {refs:List Nat} {tabs:List TV} (h:ug w n0 a b m rv tv K F M p refs tabs) (e:gq m p (F++p.all m) M' w w1) :
  ∃ p',ug w1 n0 a b m rv tv K F M' p' refs tabs/\o8 n0 w w1/\af (p.all m) w w1/\∀ c t,fO w (F++p.all m) c t->fO w1 (F++p'.all m) c t:=by
 have jk:=h.bl;obtain ⟨p',hm,u,s⟩:=h.mem.model e;refine ⟨p',⟨by rw [u.block a (aj h.blk) h.na.2];exact h.blk,hm,⟨h.na.1,fun hm=>?_⟩,fun k hk=>?_,Nat.le_trans h.bl u.size,h.bk⟩,o8.of u fun k hk=>h.lo k (.inr (.inl hk)),u,fun c t ht=>ht.step u s⟩
 ·rcases s a hm with h1 | h1
  ·exact h.na.2 h1
  ·have:=aj h.blk;omega
 ·rcases hk with hk | hk | hk
  ·exact h.lo k (.inl hk)
  ·rcases s k hk with h1 | h1
   ·exact h.lo k (.inr (.inl h1))
   ·omega
  ·exact h.lo k (.inr (.inr hk))
theorem IC {w7 w x:World} {B:Nat} {S:List Nat} {u v:Value} (hB:B∉S/\B<w7.heap.size) (h1:af [] w7 w) (h2:af S w x) (b0:w7.cell? ⟨B,0,none⟩=some u) (b1:w7.cell? ⟨B,1,none⟩=some v):x.cell? ⟨B,0,none⟩=some u/\x.cell? ⟨B,1,none⟩=some v :=
 have hb:=Nat.lt_of_lt_of_le hB.2 h1.size
 ⟨(h2.cell hb hB.1).trans (h1.cell0 b0),(h2.cell hb hB.1).trans (h1.cell0 b1)⟩
structure Xy (n c:Nat) (L:List TV) (Ls:List Int) (w:World) (e:Ending) (w':World):Prop where
 ex:∃ (a b m:Nat) (rv tv:Value) (K:KV) (F:List Nat) (p:aQ) (refs:List Nat),e=.returned (.tuple #[.pointer (some ⟨a,0,none⟩),.bool true]) /\
  ug w' (w.heap.size+1) a b m rv tv K F ((l9 n c L).1.exchs Ls) p refs (l9 n c L).2/\ni K ((l9 n c L).1.exchs Ls) refs (l9 n c L).2/\wH K refs/\K.vars=n/\((l9 n c L).1.exchs Ls).held.length<=40/\((l9 n c L).1.exchs Ls).trail.length<=Ls.length/\af [] w w'
theorem wL (n c:Nat) (lv:Value) (L:List TV) (la:Option Addr) (ln lc:Nat) (Ls:List Int) (w:World) (hn:1<=n/\n<=8) (hc:2<=c/\c<=1048576) (hL:nz w lv L) (hl:L.length<=40) (dY:∀ t,t∈L->t.Ok/\t.n=n) (hS:wG w .i64 la ln Ls) (DN:ln<=200) :
  Calls Tryz.prog 14 #[.agg #[.int .i64 n,.int .i64 c,lv,.slice la ln lc]] w fun e w'=>Xy n c L Ls w e w':=by
 obtain ⟨A,cp,rfl,hmx,_⟩:=hL.ex;obtain ⟨N,hN⟩ : ∃ N,L.length=N:=⟨_,rfl⟩;have HN:=Lib.hid hN;have HL:=Lib.hid hL;have HS:=Lib.hid hS;have Jr:=Lib.hid dY;rw [hN] at hl hmx ⊢;have HB:=Lib.hid (heap_alloc_new w (.cells #[.int .i64 n,.int .i64 c,.slice A N cp,.slice la ln lc] 25 (0,0)));obtain ⟨w0,kP⟩ : ∃ w0,w.alloc (.cells #[.int .i64 n,.int .i64 c,.slice A N cp,.slice la ln lc] 25 (0,0))=w0:=⟨_,rfl⟩
 have jY:af [] w w0:=by rw [<- kP];exact (af.refl _ _).alloc _
 have pW:w0.heap.size=w.heap.size+1:=by rw [<- kP,World.size_alloc]
 rw [kP] at HB;have dR:=Lib.hid jY;have HZ0:=Lib.hid pW;have yL:=Lib.hid kP
 have Ju:Hid (∀ z,af [] w0 z->z.cell? ⟨w.heap.size,0,none⟩=some (.int .i64 n)/\z.cell? ⟨w.heap.size,1,none⟩=some (.int .i64 c)/\z.cell? ⟨w.heap.size,2,none⟩=some (.slice A N cp)/\z.cell? ⟨w.heap.size,3,none⟩=some (.slice la ln lc)):=fun z u=>by
  have hb:=(u.block _ (by rw [pW];omega) (by simp)).trans HB.out;exact ⟨ae hb rfl,ae hb rfl,ae hb rfl,ae hb rfl⟩
 obtain ⟨JX,Y7⟩:=hn;obtain ⟨xG,Ud⟩:=hc;clear hL hS dY kP jY pW hN
 go_enter Tryz.func14,Tryz.ntmps14
 go_wp2_with fail;rw [yL.out];obtain ⟨x0,x1,_,_⟩:=Ju.out _ (af.refl _ _);go_wp2_with fail;refine (IE n c _ JX (by omega) xG Ud).mono ?_;rintro e w1 ⟨b,T,q,rfl,OL,fF,uI⟩;have zO:=Lib.hid (And.intro OL (And.intro fF uI));obtain ⟨y0,y1,_,_⟩:=Ju.out _ fF;clear OL fF uI x0 x1;go_wp2_with fail;refine (xH n c _ (by omega) Ud).mono ?_;rintro e w2 hE;obtain ⟨m,p,rfl,_,hM,kY,dV⟩:=hE.ex;have Js:=Lib.hid (ug.start (n0:=w0.heap.size) (Nat.le_refl _) zO.out.1 zO.out.2.1 zO.out.2.2 hM kY dV);have dF:=Lib.hid (zO.out.2.1.trans kY);clear hE hM kY dV y0 y1;obtain ⟨_,_,z2,_⟩:=Ju.out (w2.alloc (.cells #[.pointer (some ⟨b,0,none⟩),.pointer (some ⟨m,0,none⟩),.slice none 0 0,.slice none 0 0] 44 (0,0))) (dF.out.trans ((af.refl _ _).alloc _));go_wp2_with fail;obtain ⟨wS,Y8⟩ : ∃ wS,w2.alloc (.cells #[.pointer (some ⟨b,0,none⟩),.pointer (some ⟨m,0,none⟩),.slice none 0 0,.slice none 0 0] 44 (0,0))=wS:=⟨_,rfl⟩;obtain ⟨a,ha⟩ : ∃ a,w2.heap.size=a:=⟨_,rfl⟩
 have sS:af [] w0 wS:=by rw [<- Y8];exact dF.out.trans ((af.refl _ _).alloc _)
 rw [Y8,ha] at Js;have HUS:=Lib.hid sS
 have Ez:Hid (∀ z,o8 w0.heap.size wS z->(z.cell? ⟨w.heap.size,2,none⟩=some (.slice A N cp)/\z.cell? ⟨w.heap.size,3,none⟩=some (.slice la ln lc))/\af [] w0 z):=fun z f=>by
  obtain ⟨_,_,h2,h3⟩:=Ju.out wS sS
  have aZ:w.heap.size<w0.heap.size:=by rw [HZ0.out];omega
  exact ⟨⟨f.cell h2 aZ,f.cell h3 aZ⟩,f.upd sS (Nat.le_refl _)⟩
 have WT:Hid (ni (KV.new n c) (MV.new n c) [] []/\wH (KV.new n c) []/\(KV.new n c).vars=n):=by
  exact ⟨⟨⟨lZ.new JX (by omega) xG Ud,.new Y7 Ud,rfl,MV.TrFit.nil rfl⟩,rfl,by simp,by simp,by simp⟩,fun x _=>by simp [KV.hold,KV.new],rfl⟩
 try rw [Y8]
 try rw [ha]
 clear sS z2 Y8 ha zO
 go_loopg [39] N (fun g s39 wr=>∃ (i:Nat) (rv tv:Value) (K:KV) (F:List Nat) (M:MV) (p:aQ) (refs:List Nat) (tabs:List TV),N-i=g/\i<=N/\s39=.int .i64 i/\ug wr w0.heap.size a b m rv tv K F M p refs tabs/\ni K M refs tabs/\wH K refs/\K.vars=n /\
  refs.length<=i/\M.held.length<=i/\M.trail=[]/\Hid ((M,tabs)=l9 n c (L.take i))/\o8 w0.heap.size wS wr)
 case atStart=>exact ⟨0,_,_,_,_,_,_,_,_,by omega,by omega,rfl,Js.out,WT.out.1,WT.out.2.1,WT.out.2.2,by simp,by simp [MV.new],rfl,Lib.hid (by simp [l9]),o8.refl _ _⟩
 case round =>
  obtain ⟨i,rv,tv,K,F,M,p,refs,tabs,rfl,hi,rfl,yl,Ob,Oc,pg,oP,hhl,uD,Y9,hF⟩:=hrel;obtain ⟨⟨z2,z3⟩,Oe⟩:=Ez.out _ hF
  by_cases aZ:i<N
  ·obtain ⟨t,ht⟩ : ∃ t,L[i]?=some t:=⟨_,List.getElem?_eq_getElem (by have:=HN.out;omega)⟩
   obtain ⟨A',cp',e1,_,bI⟩:=(HL.out.keep0 (dR.out.trans Oe)).ex
   injection e1 with e1 _ e1c
   subst e1 e1c;obtain ⟨x,d,rfl,c0,c1,NN,hT⟩:=bI i t ht;obtain ⟨ta,tc,rfl,_⟩:=fP hT.row;obtain ⟨tok,Xz⟩:=Jr.out t (List.mem_of_getElem? ht)
   have fE:(i:Int)<(N:Int):=by omega
   have hTZ:fO wr (F++p.all m) (.slice ta t.ws.length tc) t:=by
    obtain ⟨A2,cp2,e2,_,l7⟩:=(HL.out.keep0 dR.out).ex
    injection e2 with e2 _ _
    subst e2;obtain ⟨x2,d2,e3,_,q2,N2,O4⟩:=l7 i t ht
    injection e3 with e3
    subst e3;have h3:=Oe.cell0 q2;rw [c1] at h3
    injection h3 with h3
    subst h3
    have pG:∀ k,k∈F++p.all m->w0.heap.size<=k:=fun k hk=>yl.lo k (by rcases List.mem_append.1 hk with h | h;exact .inl h;exact .inr (.inl h))
    exact fO.keep0 ⟨tok,O4.row.other ⟨b,List.mem_append.2 (.inl yl.mem.ker.bF)⟩ (fun k hk=>.inr (pG k hk)),fun k hk hm=>by
     have h1:=(O4.row.lt k hk).2;have h2:=pG k hm
     omega⟩ Oe
   have bf:=heap_alloc_new wr (.cells #[.int .i64 n,.slice ta t.ws.length tc] 121 (0,0));have nP:af [] wr (wr.alloc (.cells #[.int .i64 n,.slice ta t.ws.length tc] 121 (0,0))):=(af.refl _ _).alloc _;obtain ⟨W,hW⟩ : ∃ W,t.ws.length=W:=⟨_,rfl⟩;have E8:=Lib.hid hW;rw [Xz] at c0;rw [hW,Addr.add_succ' _ 0] at c1;rw [hW] at bf nP
   simp only [Nat.zero_add] at c1
   obtain ⟨w6,DU⟩ : ∃ w6,wr.alloc (.cells #[.int .i64 n,.slice ta W tc] 121 (0,0))=w6:=⟨_,rfl⟩;rw [DU] at bf nP;have QU:=Lib.hid DU
   have HPM:Hid (∀ k,k∈p.all m->k<wr.heap.size):=fun k hk=>yl.mem.mod.lt k hk
   have HTZ:=Lib.hid (hTZ.keep0 nP);have L8:=yl.keep0 nP;have Za:=BG b K.vars K F F (K.SubN t.fn) (.slice ta t.ws.length tc) t 0 w6 L8.mem.ker (fun k hk=>L8.mem.ker.lt k hk) (fun _ h=>h) (HTZ.out.less ⟨b,L8.mem.ker.bF⟩) (Xz.trans pg.symm) (by omega) (by omega) (fun y=>by have:=Oc.le yl.mem.ker.ok y;omega) (fun _ h=>h);unfold bK at Za;rw [Xz,hW] at Za;have V8:=Lib.hid Za;have hwB:wr.heap.size<w6.heap.size:=aj bf;have HB6:=Lib.hid hwB
   have Iz:Hid (∀ z,af F w6 z->z.cell? ⟨wr.heap.size,0,none⟩=some (.int .i64 n)/\z.cell? ⟨wr.heap.size,1,none⟩=some (.slice ta W tc)):=fun z u=>by
    have hnF:wr.heap.size∉F:=fun hm=>by have:=yl.mem.ker.lt _ hm;omega
    have hb:=(u.block _ hwB hnF).trans bf;exact ⟨ae hb rfl,ae hb rfl⟩
   have HX:=Lib.hid (And.intro L8 (And.intro Ob (And.intro Oc (And.intro pg (And.intro uD (hF.trans (o8.of0 nP)))))));have HT:=Lib.hid (And.intro tok (And.intro Xz ht));obtain ⟨b0,b1⟩:=Iz.out w6 (af.refl _ _);clear yl Ob Oc pg uD hF Oe bI hT hTZ nP DU L8 Za bf hW ht tok Xz z2 z3 hwB;go_wp2_with fail;rw [QU.out];go_wp2_with fail;refine V8.out.mono ?_;rintro e w7 hE;obtain ⟨r,code,K7,F7,rfl,hR,Ue,um,hs7,XA⟩:=hE.ex;have Bh:=Lib.hid (Uc.of HX.out.2.1.km HX.out.1.mem.ker.ok HX.out.1.mem.ker.uni Ue.ok Ue.uni HT.out.1 (HT.out.2.1.trans HX.out.2.2.2.1.symm) (by omega) (fun y=>by have:=HX.out.2.2.1.le HX.out.1.mem.ker.ok y;omega) HX.out.2.2.2.2.1 (XA (HX.out.2.1.km.tr.trans HX.out.2.2.2.2.1)) hR);obtain ⟨hP7,hF7⟩:=HX.out.1.kernel Ue um hs7
   have Py:fO w6 (F7++p.all m) (.slice ta t.ws.length tc) t:=HTZ.out.apart (fun k hk=>by
    rcases List.mem_append.1 hk with h | h
    ·exact (hs7 k h).imp (fun h=>List.mem_append.2 (.inl h)) id
    ·exact .inl (List.mem_append.2 (.inr h)))
   have XB:Hid (fO w7 (F7++p.all m) (.slice ta t.ws.length tc) t):=⟨HT.out.1,Py.row.kp fun k hk=>um.block k (Py.row.lt k hk).2 fun hm=>HTZ.out.fr k hk (List.mem_append.2 (.inl hm)),Py.fr⟩;clear Py
   have abG:Hid (∀ z,af [] w7 z->z.cell? ⟨wr.heap.size,0,none⟩=some (.int .i64 n)/\z.cell? ⟨wr.heap.size,1,none⟩=some (.slice ta W tc)):=fun z u=>Iz.out z (um.trans (u.mono (by simp)))
   have DV:=Lib.hid (And.intro hP7 (And.intro (HX.out.2.2.2.2.2.trans hF7) (HX.out.2.2.2.1.symm ▸ Bh.out.ext.vr)));obtain ⟨_,k1,_,_⟩:=hP7.cells;obtain ⟨b0,b1⟩:=abG.out w7 (af.refl _ _)
   have HAN:Hid (∀ z,af [] w7 z->Calls Tryz.prog 53 #[.pointer (some ⟨m,0,none⟩),.agg #[.int .i64 n,.slice ta W tc]] z fun e w'=>e=.returned (.int .i64 code)/\gq m p (F7++p.all m) (M.ans t) z w'):=fun z u=>by
    have hz:=DV.out.1.keep0 u
    have h1:=Ap m M p (F7++p.all m) (.slice ta t.ws.length tc) t z hz.mem.mod hz.mem.z HX.out.2.1.km.fit (XB.out.keep0 u) (by rw [HT.out.2.1,HX.out.2.1.km.agr.same.n,HX.out.2.2.2.1]) (fun v hv=>by
     obtain ⟨_,_,s,_,_,h2,_⟩:=HX.out.2.1.km.agr.hl v.1 v.2 hv;have h3:=HX.out.2.2.1.le HX.out.1.mem.ker.ok s
     omega)
    unfold bK at h1;rw [HT.out.2.1,E8.out,<- Bh.out.ce] at h1;exact h1
   have XC:code=0\/code=9:=by
    rcases hR with ⟨h,_⟩ | ⟨h,_⟩
    ·exact .inl h
    ·exact .inr h
   have abH:=Lib.hid XC;have oD:Hid (wr.heap.size∉p.all m/\wr.heap.size<w7.heap.size):=⟨fun hm=>by have h1:=HPM.out _ hm;omega,Nat.lt_of_lt_of_le HB6.out um.size⟩;clear hE hR Ue um hs7 XA hP7 hF7 V8 XC;go_wp2_with fail
   go_region_held3 (fun z=>z.cell? ⟨a,1,none⟩=some (.pointer (some ⟨m,0,none⟩))/\z.cell? ⟨wr.heap.size,0,none⟩=some (.int .i64 n)/\z.cell? ⟨wr.heap.size,1,none⟩=some (.slice ta W tc)) (first | exact ⟨k1,b0,b1⟩ | exact Uf.out.1) (first
    | (go_at_call 53;refine (HAN.out _ (af.refl _ _).drew).mono ?_;rintro e w8 ⟨rfl,hm⟩;obtain ⟨p',hP8,hF8,L9,hT8⟩:=(DV.out.1.keep0 (af.refl [] w7).drew).model3 hm;have Uf:=Lib.hid (And.intro (And.intro hP8.cells.2.1 (IC oD.out ((af.refl [] w7).drew) L9 b0 b1)) (And.intro hP8 (And.intro ((o8.of0 (af.refl [] w7).drew).trans hF8) hT8)));clear hm hP8 hF8 L9 hT8))
   obtain ⟨k18,b08,b18⟩:=Uf.out.1
   rcases abH.out with rfl | rfl
   ·have hE0:M.ansE t=0:=Bh.out.ce.symm
    have Zb:=Iw w0.heap.size a b m rv tv K7 F7 (M.ans t) p' refs tabs r (.slice ta t.ws.length tc) t w8 Uf.out.2.1 (HX.out.2.1.ext HX.out.1.mem.ker.ok Bh.out.ext Bh.out.km) (Uf.out.2.2.2 _ _ (XB.out.keep0 (af.refl _ _).drew)) (HT.out.2.1.trans DV.out.2.2.symm) (Bh.out.yes rfl).1;unfold bK at Zb;rw [HT.out.2.1,E8.out] at Zb;have F8:=Lib.hid Zb;have HE0:=Lib.hid hE0;clear Zb hE0;go_wp2_with fail;refine F8.out.mono ?_;rintro e w9 hE;obtain ⟨rv',tv',rfl,hP9,hF9⟩:=hE.ex;have HQ9:=Lib.hid (And.intro hP9 hF9);clear hE hP9 hF9;go_wp2_with fail
    go_roundg (N-(i+1))
    case measure=>omega
    case rel =>
     refine ⟨i+1,rv',tv',K7,F7,M.ans t,p',refs++[r],tabs++[t],rfl,by omega,by simp,HQ9.out.1,?_,HX.out.2.2.1.push (Bh.out.yes rfl).2,DV.out.2.2,by simp;omega,by have:=Bh.out.hl;omega,Bh.out.tr,Lib.hid ?_,(DV.out.2.1.trans Uf.out.2.2.1).trans HQ9.out.2⟩
     ·exact (HX.out.2.1.ext HX.out.1.mem.ker.ok Bh.out.ext Bh.out.km).push (by omega) HT.out.1 (HT.out.2.1.trans DV.out.2.2.symm) (Bh.out.yes rfl).1
     ·rw [y9 HT.out.2.2,<- Y9.out]
      exact Prod.ext (by rw [sJ]) (by rw [sK,if_pos HE0.out])
   ·have hE9:M.ansE t≠0:=fun h=>by have:=Bh.out.ce;omega
    have HE9:=Lib.hid hE9;clear hE9;go_wp2_with fail
    go_roundg (N-(i+1))
    case measure=>omega
    case rel =>
     refine ⟨i+1,rv,tv,K7,F7,M.ans t,p',refs,tabs,rfl,by omega,by simp,Uf.out.2.1,HX.out.2.1.ext HX.out.1.mem.ker.ok Bh.out.ext Bh.out.km,fun x hx=>by rw [Bh.out.no (by decide)];exact HX.out.2.2.1 x hx,DV.out.2.2,by omega,by have:=Bh.out.hl;omega,Bh.out.tr,Lib.hid ?_,DV.out.2.1.trans Uf.out.2.2.1⟩;rw [y9 HT.out.2.2,<- Y9.out];exact Prod.ext (by rw [sJ]) (by rw [sK,if_neg HE9.out])
  ·obtain rfl:i=N:=by omega
   have fE:¬ ((i:Int)<(i:Int)):=by omega
   have hBM:(M,tabs)=l9 n c L:=by
    have h1:=Y9.out;rw [<- HN.out,List.take_length] at h1;exact h1
   have Pz:=Lib.hid hBM;have HX:=Lib.hid (And.intro yl (And.intro Ob (And.intro Oc (And.intro pg (And.intro uD hF)))));clear yl Ob Oc pg uD hF Oe hBM Y9;go_wp2_with fail
   go_loopg [73] ln (fun g s73 wx=>∃ (j:Nat) (K2:KV) (F2:List Nat) (M2:MV) (p2:aQ),ln-j=g/\j<=ln/\s73=.int .i64 j/\ug wx w0.heap.size a b m rv tv K2 F2 M2 p2 refs tabs/\ni K2 M2 refs tabs/\wH K2 refs/\K2.vars=n /\
    M2.held.length<=40/\M2.trail.length<=j/\Hid (M2=M.exchs (Ls.take j))/\o8 w0.heap.size wS wx)
   case atStart=>exact ⟨0,K,F,M,p,by omega,by omega,rfl,HX.out.1,HX.out.2.1,HX.out.2.2.1,HX.out.2.2.2.1,by omega,by rw [HX.out.2.2.2.2.1];simp,Lib.hid (by simp [MV.exchs]),HX.out.2.2.2.2.2⟩
   case round =>
    obtain ⟨j,K2,F2,M2,p2,rfl,hj,rfl,yl,Ob,Oc,pg,V7,yJ,HEX,hF⟩:=hrel;obtain ⟨_,Oe⟩:=Ez.out _ hF
    by_cases hjt:j<ln
    ·obtain ⟨y,hy,hcy⟩:=HS.out.at_ j hjt
     subst hy;have qW:=(dR.out.trans Oe).cell0 hcy
     have JA:(j:Int)<(ln:Int):=by omega
     have HLJ:Hid (Ls.getD j 0=Ls.getD j 0/\j<Ls.length):=⟨rfl,by rw [HS.out.len];exact hjt⟩;have HSU:Hid ((M.exchs (Ls.take j)).exch (Ls.getD j 0)=M.exchs (Ls.take (j+1))):=(MV.exchs_succ (by rw [HS.out.len];exact hjt)).symm;clear hcy HLJ;generalize Ls.getD j 0=l at *;have HKX:=Lib.hid (Gv b l K2 F2 M2 wr.drew (yl.mem.ker.upd (af.refl [] wr).drew (by simp)) Ob.km (by omega));obtain ⟨E,Ug⟩ : ∃ E,M2.exchE l=E:=⟨_,rfl⟩;rw [Ug] at HKX;have Yy:=Lib.hid Ug;obtain ⟨_,k1,_,_⟩:=yl.cells;have FW:=Lib.hid (And.intro yl (And.intro Ob (And.intro Oc (And.intro pg hF))))
     have Y4:∀ x y:Int,(x == x)=true:=fun x _=>by simp
     clear yl Ob Oc pg hF Oe Ug;go_wp2_with fail
     go_region_held3 (fun x=>x.cell? ⟨a,1,none⟩=some (.pointer (some ⟨m,0,none⟩))) (first | exact k1 | exact HQ.out.2.2.1 | exact KT.out.1) (first
      | (go_at_call 27;refine HKX.out.mono ?_;rintro e w5 ⟨rfl,hk⟩;obtain ⟨K',F',hK',YT,DK,hu,hs⟩:=hk.ex;obtain ⟨hP5,XD⟩:=(FW.out.1.keep0 (af.refl [] wr).drew).kernel hK' hu hs;have HQ:=Lib.hid (And.intro hP5 (And.intro ((o8.of0 (af.refl [] wr).drew).trans XD) (And.intro hP5.cells.2.1 (And.intro YT DK))));clear hk hK' YT DK hu hs hP5 XD)
      | (go_at_call 55;refine (Eo m M2 p2 (F'++p2.all m) l _ HQ.out.1.mem.mod HQ.out.1.mem.z FW.out.2.1.km.fit (FW.out.2.1.km.len FW.out.1.mem.ker.ok) (by omega)).mono ?_;rintro e w6 hE;obtain ⟨rfl,hm⟩:=hE.ex;rw [Yy.out];obtain ⟨p',hP6,hF6,_,_⟩:=HQ.out.1.model3 hm;have KT:=Lib.hid (And.intro hP6.cells.2.1 (And.intro hP6 hF6));clear hE hm hP6 hF6))
     go_wp2_with fail
     go_roundg (ln-(j+1))
     case measure=>omega
     case rel =>
      obtain ⟨l1,l2⟩:=FW.out.2.1.stay FW.out.2.2.1 HQ.out.1.mem.ker.ok HQ.out.2.2.2.2 HQ.out.2.2.2.1;obtain ⟨e1,e2⟩:=MV.exch_trail M2 l;exact ⟨j+1,K',F',M2.exch l,p',rfl,by omega,by simp,KT.out.2.1,l1,l2,HQ.out.2.2.2.2.vr.trans FW.out.2.2.2.1,by rw [e2];exact V7,by omega,Lib.hid (by rw [<- HSU.out,<- HEX.out]),(FW.out.2.2.2.2.trans HQ.out.2.1).trans KT.out.2.2⟩
    ·obtain rfl:j=ln:=by omega
     have JA:¬ ((j:Int)<(j:Int)):=by omega
     have XE:M2=(l9 n c L).1.exchs Ls:=by
      have h1:=HEX.out;rw [<- HS.out.len,List.take_length] at h1;rw [h1,<- Pz.out]
     have hTB:tabs=(l9 n c L).2:=by rw [<- Pz.out]
     have mP:Hid (Xy n c L Ls w (.returned (.tuple #[.pointer (some ⟨a,0,none⟩),.bool true])) wr):=by
      refine ⟨a,b,m,rv,tv,K2,F2,p2,refs,rfl,?_,?_,Oc,pg,?_,?_,dR.out.trans Oe⟩
      ·rw [<- XE,<- hTB,<- HZ0.out];exact yl
      ·rw [<- XE,<- hTB];exact Ob
      ·rw [<- XE];exact V7
      ·rw [<- XE,HS.out.len];exact yJ
     clear yl Ob Oc pg hF Oe XE hTB;go_wp2_with fail;go_ret2;exact mP.out
theorem ch3 {x:World} {B:Nat} {y0 y1 y2:Value} {t:TypeId} (h:x.heap[B]?=some (.cells #[y0,y1,y2] t (0,0))) (v0 v1 v2:Value) :
  (x.cell? ⟨B,0,none⟩=some y0/\x.cell? ⟨B,1,none⟩=some y1/\x.cell? ⟨B,2,none⟩=some y2/\x.frozen? ⟨B,0,none⟩=false/\x.frozen? ⟨B,1,none⟩=false/\x.frozen? ⟨B,2,none⟩=false) /\
  ((x.setCell ⟨B,0,none⟩ v0).cell? ⟨B,1,none⟩=some y1/\(x.setCell ⟨B,0,none⟩ v0).frozen? ⟨B,1,none⟩=false) /\
  (((x.setCell ⟨B,0,none⟩ v0).setCell ⟨B,1,none⟩ v1).cell? ⟨B,2,none⟩=some y2/\((x.setCell ⟨B,0,none⟩ v0).setCell ⟨B,1,none⟩ v1).frozen? ⟨B,2,none⟩=false) /\
  ((((x.setCell ⟨B,0,none⟩ v0).setCell ⟨B,1,none⟩ v1).setCell ⟨B,2,none⟩ v2).cell? ⟨B,0,none⟩=some v0/\(((x.setCell ⟨B,0,none⟩ v0).setCell ⟨B,1,none⟩ v1).setCell ⟨B,2,none⟩ v2).cell? ⟨B,1,none⟩=some v1/\(((x.setCell ⟨B,0,none⟩ v0).setCell ⟨B,1,none⟩ v1).setCell ⟨B,2,none⟩ v2).cell? ⟨B,2,none⟩=some v2):=by
 have h0:=aF (j:=0) h v0;have h1:=aF (j:=1) h0 v1;have h2:=aF (j:=2) h1 v2;exact ⟨⟨ae h rfl,ae h rfl,ae h rfl,ak 0 h,ak 1 h,ak 2 h⟩,⟨ae h0 rfl,ak 1 h0⟩,⟨ae h1 rfl,ak 2 h1⟩,ae h2 rfl,ae h2 rfl,ae h2 rfl⟩
theorem Gw {S:List Nat} {w x:World} {B:Nat} {v0 v1 v2:Value} (u:af S w x) (h:w.heap.size<=B):af S w (((x.setCell ⟨B,0,none⟩ v0).setCell ⟨B,1,none⟩ v1).setCell ⟨B,2,none⟩ v2) :=
 ((u.setCell (p:=⟨B,0,none⟩) (.inr h) _).setCell (p:=⟨B,1,none⟩) (.inr h) _).setCell (p:=⟨B,2,none⟩) (.inr h) _
structure ExR (b:Nat) (F:List Nat) (R:Int->KV->Prop) (w:World) (code:Int) (w':World):Prop where
 ex:∃ (K':KV) (F':List Nat),bu w' b K' F'/\af F w w'/\Sub F w F'/\R code K'
structure Uh (b:Nat) (l:Int) (K:KV) (F:List Nat) (R:Int->KV->Prop) (w:World) (e:Ending) (w':World):Prop where
 ex:∃ (code:Int) (K':KV) (F':List Nat),e=.returned (.tuple #[if code=0 then .agg #[.int .i64 l,.int .i64 ((K.A.used:Int)-2),.int .i64 ((K'.A.used:Int)-2)] else .agg #[.int .i64 0,.int .i64 0,.int .i64 0],.int .i64 code])/\bu w' b K' F'/\af F w w'/\Sub F w F'/\R code K'
theorem Mc (b:Nat) (l:Int) (K:KV) (F:List Nat) (R:Int->KV->Prop) (w:World) (h:bu w b K F)
  (hx:∀ z,bu z b K F->Calls Tryz.prog 27 #[.pointer (some ⟨b,0,none⟩),.int .i64 l] z fun e w'=>∃ code:Int,e=.returned (.int .i64 code)/\ExR b F R z code w') :
  Calls Tryz.prog 18 #[.pointer (some ⟨b,0,none⟩),.int .i64 l] w fun e w'=>Uh b l K F R w e w':=by
 have HK:=Lib.hid h;have HX:=Lib.hid hx;clear h hx
 go_enter Tryz.func18,Tryz.ntmps18
 go_wp2_with fail;refine (zX b K F _ (HK.out.upd ((af.refl [] w).alloc _) (by simp))).mono ?_;rintro e w1 ⟨rfl,rfl⟩;go_wp2_with fail;have Jo:=Lib.hid (heap_alloc_new (w.alloc (.cells #[.int .i64 0,.int .i64 0,.int .i64 0] 46 (0,0))) (.cells #[.int .i64 l,.int .i64 ((K.A.used:Int)-2),.int .i64 0] 46 (0,0)))
 have SG:Hid (((w.alloc (.cells #[.int .i64 0,.int .i64 0,.int .i64 0] 46 (0,0))).alloc (.cells #[.int .i64 l,.int .i64 ((K.A.used:Int)-2),.int .i64 0] 46 (0,0))).heap[w.heap.size]?=some (.cells #[.int .i64 0,.int .i64 0,.int .i64 0] 46 (0,0))) :=
  (Below.heap_alloc _ _ _ (aj (heap_alloc_new _ _))).trans (heap_alloc_new _ _)
 have HU:=Lib.hid (((af.refl [] w).alloc (.cells #[.int .i64 0,.int .i64 0,.int .i64 0] 46 (0,0))).alloc (.cells #[.int .i64 l,.int .i64 ((K.A.used:Int)-2),.int .i64 0] 46 (0,0)));obtain ⟨w2,eQ⟩ : ∃ w2,(w.alloc (.cells #[.int .i64 0,.int .i64 0,.int .i64 0] 46 (0,0))).alloc (.cells #[.int .i64 l,.int .i64 ((K.A.used:Int)-2),.int .i64 0] 46 (0,0))=w2:=⟨_,rfl⟩;rw [World.size_alloc] at Jo;rw [eQ] at SG Jo HU ⊢;clear eQ;refine (HX.out _ (HK.out.upd HU.out (by simp))).mono ?_;rintro e w3 ⟨code,rfl,hR⟩;obtain ⟨K',F',Jp,eu,vz,hr⟩:=hR.ex
 have hz:∀ k,w.heap.size<=k->k∉F:=fun k hk hm=>by have:=HK.out.lt k hm;omega
 have zN:=Lib.hid ((eu.block _ (aj SG.out) (hz _ (Nat.le_refl _))).trans SG.out);have EC:=Lib.hid ((eu.block _ (aj Jo.out) (hz _ (by omega))).trans Jo.out);have HR:=Lib.hid (And.intro Jp (And.intro eu (And.intro vz hr)));clear hR Jp eu vz hr hz
 by_cases hc:code=0
 ·subst hc
  go_wp2_with fail;refine (zX b K' F' _ HR.out.1).mono ?_;rintro e w4 ⟨rfl,rfl⟩;have c1:w4.cell? ⟨w.heap.size+1,2,none⟩=some (.int .i64 0):=ae EC.out rfl;have f1:=ak 2 EC.out;have rQ:=aF (j:=2) EC.out (.int .i64 ((K'.A.used:Int)-2));have kC:=(aI (w:=w4) (a:=⟨w.heap.size+1,2,none⟩) (u:=.int .i64 ((K'.A.used:Int)-2)) (k:=w.heap.size) (by simp)).trans zN.out;obtain ⟨⟨r0,r1,r2,_⟩,_⟩:=ch3 rQ (.int .i64 0) (.int .i64 0) (.int .i64 0);obtain ⟨⟨s0,s1,s2,g0,g1,g2⟩,⟨s3,g3⟩,⟨s4,g4⟩,z0,z1,z2⟩:=ch3 kC (.int .i64 l) (.int .i64 ((K.A.used:Int)-2)) (.int .i64 ((K'.A.used:Int)-2))
  have mP:Hid (Uh b l K F R w (.returned (.tuple #[.agg #[.int .i64 l,.int .i64 ((K.A.used:Int)-2),.int .i64 ((K'.A.used:Int)-2)],.int .i64 0])) ((((w4.setCell ⟨w.heap.size+1,2,none⟩ (.int .i64 ((K'.A.used:Int)-2))).setCell ⟨w.heap.size,0,none⟩ (.int .i64 l)).setCell ⟨w.heap.size,1,none⟩ (.int .i64 ((K.A.used:Int)-2))).setCell ⟨w.heap.size,2,none⟩ (.int .i64 ((K'.A.used:Int)-2)))):=by
   have xB:af F w w4:=(HU.out.mono (by simp):af F w w2).trans HR.out.2.1
   have xP:∀ k,k∈F'->k≠w.heap.size/\k≠w.heap.size+1:=fun k hk=>by
    rcases HR.out.2.2.1 k hk with h | h
    ·have:=HK.out.lt k h;omega
    ·have:=aj Jo.out;omega
   have nU:af [w.heap.size,w.heap.size+1] w4 ((((w4.setCell ⟨w.heap.size+1,2,none⟩ (.int .i64 ((K'.A.used:Int)-2))).setCell ⟨w.heap.size,0,none⟩ (.int .i64 l)).setCell ⟨w.heap.size,1,none⟩ (.int .i64 ((K.A.used:Int)-2))).setCell ⟨w.heap.size,2,none⟩ (.int .i64 ((K'.A.used:Int)-2))) :=
    ((((af.refl _ _).setCell (p:=⟨w.heap.size+1,2,none⟩) (.inl (by simp)) _).setCell (p:=⟨w.heap.size,0,none⟩) (.inl (by simp)) _).setCell (p:=⟨w.heap.size,1,none⟩) (.inl (by simp)) _).setCell (p:=⟨w.heap.size,2,none⟩) (.inl (by simp)) _
   refine ⟨0,K',F',by simp,HR.out.1.upd nU (fun k hk hm=>?_),Gw (xB.setCell (p:=⟨w.heap.size+1,2,none⟩) (.inr (by show w.heap.size<=w.heap.size+1;omega)) _) (Nat.le_refl _),fun k hk=>?_,HR.out.2.2.2⟩
   ·have:=xP k hk;simp at hm;omega
   ·exact (HR.out.2.2.1 k hk).imp id fun h=>Nat.le_trans HU.out.size h
  clear rQ kC;go_wp2_with fail;refine bodyPost_ret (v:=.tuple #[.agg #[.int .i64 l,.int .i64 ((K.A.used:Int)-2),.int .i64 ((K'.A.used:Int)-2)],.int .i64 0]) (by simp [results,Tryz.results18,go_sem,z0,z1,z2]) rfl mP.out
 ·have zJ:(code == 0)=false:=by simpa using hc
  obtain ⟨⟨s0,s1,s2,g0,g1,g2⟩,⟨s3,g3⟩,⟨s4,g4⟩,z0,z1,z2⟩:=ch3 zN.out (.int .i64 0) (.int .i64 0) (.int .i64 0)
  have mP:Hid (Uh b l K F R w (.returned (.tuple #[.agg #[.int .i64 0,.int .i64 0,.int .i64 0],.int .i64 code])) (((w3.setCell ⟨w.heap.size,0,none⟩ (.int .i64 0)).setCell ⟨w.heap.size,1,none⟩ (.int .i64 0)).setCell ⟨w.heap.size,2,none⟩ (.int .i64 0))):=by
   have xB:af F w w3:=(HU.out.mono (by simp):af F w w2).trans HR.out.2.1
   have nU:af [w.heap.size] w3 (((w3.setCell ⟨w.heap.size,0,none⟩ (.int .i64 0)).setCell ⟨w.heap.size,1,none⟩ (.int .i64 0)).setCell ⟨w.heap.size,2,none⟩ (.int .i64 0)) :=
    (((af.refl _ _).setCell (p:=⟨w.heap.size,0,none⟩) (.inl (by simp)) _).setCell (p:=⟨w.heap.size,1,none⟩) (.inl (by simp)) _).setCell (p:=⟨w.heap.size,2,none⟩) (.inl (by simp)) _
   refine ⟨code,K',F',by rw [if_neg hc],HR.out.1.upd nU (fun k hk hm=>?_),Gw xB (Nat.le_refl _),fun k hk=>?_,HR.out.2.2.2⟩
   ·simp at hm
    rcases HR.out.2.2.1 k hk with h | h
    ·have:=HK.out.lt k h;omega
    ·have:=aj Jo.out;omega
   ·exact (HR.out.2.2.1 k hk).imp id fun h=>Nat.le_trans HU.out.size h
  go_wp2_with fail;refine bodyPost_ret (v:=.tuple #[.agg #[.int .i64 0,.int .i64 0,.int .i64 0],.int .i64 code]) (by simp [results,Tryz.results18,go_sem,z0,z1,z2]) rfl mP.out
structure UnS (b:Nat) (P:KV->Prop) (K:KV) (F:List Nat) (w:World) (e:Ending) (w':World):Prop where
 ex:∃ (l:Nat) (K':KV) (F':List Nat),e=.returned (.tuple #[.int .i64 l,.int .i64 0])/\bu w' b K' F'/\yK F w F' w'/\P K'/\K'.trail.length+1=K.trail.length
structure QV (b tr:Nat) (P:KV->Prop) (K:KV) (F:List Nat) (w:World) (e:Ending) (w':World):Prop where
 ex:∃ (K':KV) (F':List Nat),e=.returned (.tuple #[.int .i64 (K.trail.length-tr:Nat),.int .i64 0])/\bu w' b K' F'/\yK F w F' w'/\P K'/\K'.trail.length=tr
theorem IG (b tr:Nat) (P:KV->Prop) (K:KV) (F:List Nat) (w:World) (h:bu w b K F) (hp:P K) (uD:tr<=K.trail.length) (hlen:K.trail.length<=1000000)
  (hu:∀ z K F,bu z b K F->P K->tr<K.trail.length->K.trail.length<=1000000->Calls Tryz.prog 60 #[.pointer (some ⟨b,0,none⟩)] z fun e w'=>UnS b P K F z e w') :
  Calls Tryz.prog 21 #[.pointer (some ⟨b,0,none⟩),.int .i64 tr] w fun e w'=>QV b tr P K F w e w':=by
 have HK:=Lib.hid (And.intro h hp);have HU:=Lib.hid hu;obtain ⟨TL,Jw⟩ : ∃ TL,K.trail.length=TL:=⟨_,rfl⟩;have Ui:=Lib.hid Jw;have YO:=Lib.hid (vC b K F w h);rw [Jw] at uD hlen YO
 have h0:¬ (tr:Int)<0:=by omega
 have h1:¬ (TL:Int)<(tr:Int):=by omega
 have h2:(tr:Int)<=(TL:Int):=by omega
 have h3:decide (TL<tr)=false:=by simp;omega
 clear h hu Jw hp
 go_enter Tryz.func21,Tryz.ntmps21
 go_wp2_with fail;refine YO.out.mono ?_;rintro e w1 ⟨rfl,mg⟩;have uC:=Lib.hid mg;clear mg;go_wp2_with fail
 go_loopg [6] TL (fun g s6 wr=>∃ (i:Nat) (K2:KV) (F2:List Nat),TL-i=g/\s6=.int .i64 i/\bu wr b K2 F2/\yK F w F2 wr/\P K2/\K2.trail.length+i=TL/\tr+i<=TL)
 case atStart=>exact ⟨0,K,F,by omega,rfl,by rw [uC.out];exact HK.out.1,by rw [uC.out];exact ⟨af.refl _ _,Sub.refl _ _⟩,HK.out.2,by have:=Ui.out;omega,by omega⟩
 case round =>
  obtain ⟨i,K2,F2,rfl,rfl,ED,DK,EO,DZ,hti⟩:=hrel;obtain ⟨T2,O4⟩ : ∃ T2,K2.trail.length=T2:=⟨_,rfl⟩;have FP:=Lib.hid O4;have XF:=Lib.hid (vC b K2 F2 wr ED);rw [O4] at XF DZ;have HX:=Lib.hid (And.intro ED (And.intro DK EO));clear ED DK EO O4;go_wp2_with fail;refine XF.out.mono ?_;rintro e w2 ⟨rfl,eQ⟩;have tY:=Lib.hid eQ;clear eQ
  by_cases hgt:tr<T2
  ·have Uj:(tr:Int)<(T2:Int):=by omega
   go_wp2_with fail;rw [tY.out];refine (HU.out wr K2 F2 HX.out.1 HX.out.2.2 (by rw [FP.out];exact hgt) (by rw [FP.out];omega)).mono ?_;rintro e w3 hE;obtain ⟨l,K3,F3,rfl,Jp,vz,XG,QI⟩:=hE.ex;have HY:=Lib.hid (And.intro Jp (And.intro vz (And.intro XG QI)));clear hE Jp vz XG QI;go_wp2_with fail
   go_roundg (TL-(i+1))
   case measure=>omega
   case rel=>exact ⟨i+1,K3,F3,rfl,by simp,HY.out.1,HX.out.2.1.trans HY.out.2.1,HY.out.2.2.1,by have:=HY.out.2.2.2;have:=FP.out;omega,by omega⟩
  ·have Uj:¬ (tr:Int)<(T2:Int):=by omega
   have hi:i=TL-tr:=by omega
   have mP:Hid (QV b tr P K F w (.returned (.tuple #[.int .i64 i,.int .i64 0])) w2):=by
    refine ⟨K2,F2,by rw [Ui.out,hi],?_,?_,HX.out.2.2,by rw [FP.out];omega⟩
    ·rw [tY.out];exact HX.out.1
    ·rw [tY.out];exact HX.out.2.1
   clear hi;go_wp2_with fail;go_ret2;exact mP.out
theorem Tryz.infoChangeS:(Tryz.prog.info? 46).map (fun i=>(i.zero,i.size,i.bytes))=some (some (.agg #[.int .i64 0,.int .i64 0,.int .i64 0]),3,24):=by kernel_rfl
def Zc (c:Int × Int × Int):Value:=.agg #[.int .i64 c.1,.int .i64 c.2.1,.int .i64 c.2.2]
def jV (l:List (Int × Int × Int)):List Value:=l.flatMap fun c=>[.int .i64 c.1,.int .i64 c.2.1,.int .i64 c.2.2]
def MV.tryV (M:MV) (l:Int):Int × Int × Int:=if M.exchE l=0 then (l,M.live,(M.exch l).live) else (0,0,0)
def MV.playV (M:MV):List Int->List (Int × Int × Int) × Int × MV
 | []=>([],0,M)
 | l::ls=>if M.exchE l=0 then (M.tryV l::((M.exch l).playV ls).1,((M.exch l).playV ls).2) else ([],M.exchE l,M)
structure abO (b:Nat) (l:Int) (K:KV) (F:List Nat) (M:MV) (w:World) (e:Ending) (w':World):Prop where
 ex:∃ (K':KV) (F':List Nat),e=.returned (.tuple #[Zc (M.tryV l),.int .i64 (M.exchE l)])/\bu w' b K' F'/\KM K' (M.exch l)/\lD K K'/\yK F w F' w'
theorem Md (b:Nat) (l:Int) (K:KV) (F:List Nat) (M:MV) (w:World) (h:bu w b K F) (hm:KM K M) (ht:M.trail.length<=1000000) :
  Calls Tryz.prog 18 #[.pointer (some ⟨b,0,none⟩),.int .i64 l] w fun e w'=>abO b l K F M w e w':=by
 refine (Mc b l K F (fun code K'=>code=M.exchE l/\KM K' (M.exch l)/\lD K K') w h fun z hz=>?_).mono ?_
 ·refine (Gv b l K F M z hz hm ht).mono ?_
  rintro e w' ⟨rfl,hk⟩;obtain ⟨K',F',h1,h2,h3,h4,h5⟩:=hk.ex;exact ⟨_,rfl,K',F',h1,h4,h5,rfl,h2,h3⟩
 ·rintro e w' hE
  obtain ⟨code,K',F',rfl,h1,h4,h5,rfl,h2,h3⟩:=hE.ex;refine ⟨K',F',?_,h1,h2,h3,h4,h5⟩;have e1:=hm.live h.ok h.uni;have e2:=h2.live h1.ok h1.uni;unfold MV.tryV Zc;rw [e1,e2]
  split <;> rfl
structure Me (b:Nat) (Ls:List Int) (K:KV) (F:List Nat) (M:MV) (w:World) (e:Ending) (w':World):Prop where
 ex:∃ (v:Value) (K':KV) (F':List Nat),e=.returned (.tuple #[v,.int .i64 (M.playV Ls).2.1])/\w'.ownsRow w.heap.size 46 3 v (M.playV Ls).1.length (jV (M.playV Ls).1)/\(∀ k,v.ownBlock=some k->k∉F')/\bu w' b K' F'/\KM K' (M.playV Ls).2.2/\lD K K'/\yK F w F' w'
theorem II (b:Nat) (la:Option Addr) (ln lc:Nat) (Ls:List Int) (K:KV) (F:List Nat) (M:MV) (w:World) (h:bu w b K F) (hm:KM K M) (ht:M.trail.length<=900000) (hL:wG w .i64 la ln Ls) (SK:ln<=1000) (Oa:∀ x,la=some x->x.block∉F) :
  Calls Tryz.prog 22 #[.pointer (some ⟨b,0,none⟩),.slice la ln lc] w fun e w'=>Me b Ls K F M w e w':=by
 obtain ⟨ti,dP,dX,dV,dW⟩:=info_parts Tryz.infoChangeS;have HI:=Lib.hid (And.intro dP (And.intro dX (And.intro dV dW)));have H0:=Lib.hid (And.intro h (And.intro hm ht));have HL:=Lib.hid (And.intro hL Oa);have uH:=hL.len;have Zd:=Lib.hid uH;clear h hm ht hL dP dX dV dW uH Oa
 go_enter Tryz.func22,Tryz.ntmps22
 go_wp2_with fail
 go_loopg [6,15] ln (fun g s6 s15 wr=>∃ (j:Nat) (K2:KV) (F2:List Nat) (M2:MV) (cs:List (Int × Int × Int)),ln-j=g/\j<=ln/\s15=.int .i64 j/\bu wr b K2 F2/\KM K2 M2/\lD K K2/\yK F w F2 wr/\M2.trail.length<=900000+j /\
  wr.ownsRow w.heap.size 46 3 s6 cs.length (jV cs)/\(∀ k,s6.ownBlock=some k->k∉F2)/\cs.length<=j/\Hid (M.playV Ls=(cs++(M2.playV (Ls.drop j)).1,(M2.playV (Ls.drop j)).2)))
 case atStart=>exact ⟨0,K,F,M,[],by omega,by omega,rfl,H0.out.1,H0.out.2.1,lD.refl _,⟨af.refl _ _,Sub.refl _ _⟩,H0.out.2.2,World.ownsRow_nil _ _ _ _,fun k hk=>by simp [Value.ownBlock] at hk,by simp,Lib.hid (by simp)⟩
 case round =>
  obtain ⟨j,K2,F2,M2,cs,rfl,hj,rfl,ED,Td,DK,XH,Y6,aB,Jt,NT,HPV⟩:=hrel;obtain ⟨oa,oc,jK,_⟩:=aC aB;subst jK
  by_cases aZ:j<ln
  ·obtain ⟨x,hx,hc⟩:=HL.out.1.at_ j aZ
   have qW:=(XH.up.cell (World.block_lt_of_cell? _ _ hc) (by
    have h1:=HL.out.2 x hx
    unfold Addr.add;split <;> exact h1)).trans hc
   subst hx
   have fE:(j:Int)<(ln:Int):=by omega
   have HDR:Hid (Ls.drop j=Ls.getD j 0::Ls.drop (j+1)):=by
    have h1:j<Ls.length:=by rw [Zd.out];exact aZ
    show _=_
    rw [List.drop_eq_getElem_cons h1,List.getD_eq_getElem?_getD,List.getElem?_eq_getElem h1];rfl
   clear hc;generalize Ls.getD j 0=l at *;have UO:=Lib.hid (Md b l K2 F2 M2 wr ED Td (by omega));have HX:=Lib.hid (And.intro ED (And.intro Td (And.intro DK (And.intro XH (And.intro aB Jt)))));clear ED Td DK XH aB Jt;go_wp2_with fail;refine UO.out.mono ?_;rintro e w3 hE;obtain ⟨K3,F3,rfl,Jp,hm3,vz,XG⟩:=hE.ex;have HY:=Lib.hid (And.intro Jp (And.intro hm3 (And.intro vz XG)));obtain ⟨E,Ug⟩ : ∃ E,M2.exchE l=E:=⟨_,rfl⟩;obtain ⟨c,Pv⟩ : ∃ c,M2.tryV l=c:=⟨_,rfl⟩;have HE:=Lib.hid (And.intro Ug Pv);rw [Ug,Pv];unfold Zc;clear hE Jp hm3 vz XG Ug Pv UO;have bf:=heap_alloc_new w3 (.cells #[.int .i64 c.1,.int .i64 c.2.1,.int .i64 c.2.2] 46 (0,0));have b0:=ae (j:=0) bf rfl;have b1:=ae (j:=1) bf rfl;have b2:=ae (j:=2) bf rfl
   by_cases h0:E=0
   ·subst h0
    have bQ:Hid (w3.ownsRow w.heap.size 46 3 (.slice oa cs.length oc) cs.length (jV cs)):=ah HX.out.2.2.2.2.1 fun k hk=>HY.out.2.2.2.up.block k (HX.out.2.2.2.2.1.lt k hk).2 (HX.out.2.2.2.2.2 k hk)
    have lH:Hid (∀ z,z∈[Value.int .i64 c.1,Value.int .i64 c.2.1,Value.int .i64 c.2.2]->z.oneCell'=true):=by
     intro z hz;simp at hz;rcases hz with rfl | rfl | rfl <;> rfl
    clear bf
    have uj:w.heap.size<=((w3.alloc (.cells #[.int .i64 c.1,.int .i64 c.2.1,.int .i64 c.2.2] 46 (0,0))).alloc (.cells #[.int .i64 c.1,.int .i64 c.2.1,.int .i64 c.2.2] 46 (0,0))).heap.size:=by
     have h1:=(HX.out.2.2.2.1.trans HY.out.2.2.2).up.size
     rw [World.size_alloc,World.size_alloc];omega
    go_wp2_with (at_builtin;go_must (refine wpList_append_lies _ rfl (.tmp 29) (.tmp 31) 59 rfl w.heap.size 46 ti _ 3 24 Tryz.underlying59 HI.out.1 HI.out.2.1 HI.out.2.2.1 HI.out.2.2.2 (by rfl) (by decide) _ cs.length (jV cs) rfl ((bQ.out.alloc _).alloc _) ⟨_,0,none⟩ 1 1 [.int .i64 c.1,.int .i64 c.2.1,.int .i64 c.2.2] rfl rfl ?c1 lH.out (by omega) (by unfold maxLen;omega) (by omega) uj _ rfl ?_))
    case c1 =>
     have dW:=heap_alloc_new (w3.alloc (.cells #[.int .i64 c.1,.int .i64 c.2.1,.int .i64 c.2.2] 46 (0,0))) (.cells #[.int .i64 c.1,.int .i64 c.2.1,.int .i64 c.2.2] 46 (0,0));rw [World.size_alloc] at dW;exact World.news_of_block dW
    intro g5 cap w5 aJ bU bI jd
    have HZ:Hid (bu w5 b K3 F3/\yK F w F3 w5/\w5.ownsRow w.heap.size 46 3 (.slice (some ⟨g5,0,none⟩) (cs.length+1) cap) (cs++[c]).length (jV (cs++[c]))/\∀ k,(Value.slice (some ⟨g5,0,none⟩) (cs.length+1) cap).ownBlock=some k->k∉F3):=by
     have u5:af (Value.slice oa cs.length oc).ownBlock.toList w3 w5:=af.grown (((af.refl _ w3).alloc _).alloc _) bU (fun k hk=>.inl (by simp [hk]))
     have bM:∀ k,(Value.slice oa cs.length oc).ownBlock=some k->k∉F3:=fun k hk hm=>by
      rcases HY.out.2.2.2.sub k hm with h | h
      ·exact HX.out.2.2.2.2.2 k hk h
      ·have:=(HX.out.2.2.2.2.1.lt k hk).2;omega
     have h1:=HX.out.2.2.2.1.trans HY.out.2.2.2;refine ⟨HY.out.1.upd u5 (fun k hk hm=>bM k (by simpa using hm) hk),⟨h1.up.then u5 fun k hk=>.inr (HX.out.2.2.2.2.1.lt k (by simpa using hk)).1,h1.sub⟩,?_,fun k hk hm=>?_⟩
     ·rw [List.length_append,List.length_singleton,show jV (cs++[c])=jV cs++[.int .i64 c.1,.int .i64 c.2.1,.int .i64 c.2.2] by simp [jV]]
      exact aJ
     ·have dD:g5=k:=by simpa [Value.ownBlock] using hk
      subst dD
      rcases bI with h | h
      ·exact bM _ h hm
      ·have:=HY.out.1.lt _ hm;omega
    clear aJ bU bI jd uj b0 b1 b2;go_wp2_with fail
    go_roundg (ln-(j+1))
    case measure=>omega
    case rel =>
     refine ⟨j+1,K3,F3,M2.exch l,cs++[c],rfl,by omega,by simp,HZ.out.1,HY.out.2.1,HX.out.2.2.1.trans HY.out.2.2.1,HZ.out.2.1,by have:=(MV.exch_trail M2 l).1;omega,HZ.out.2.2.1,HZ.out.2.2.2,by simp;omega,Lib.hid ?_⟩
     have e1:M2.playV (Ls.drop j)=(c::((M2.exch l).playV (Ls.drop (j+1))).1,((M2.exch l).playV (Ls.drop (j+1))).2):=by
      rw [HDR.out]
      conv=>lhs;unfold MV.playV
      rw [HE.out.1,if_pos rfl,HE.out.2]
     rw [HPV.out,e1];simp
   ·have hE0:(E == 0)=false:=by simpa using h0
    clear bf
    have mP:Hid (∀ z,af [] w3 z->Me b Ls K F M w (.returned (.tuple #[.slice oa cs.length oc,.int .i64 E])) z):=fun z u=>by
     have e1:(M2.playV (Ls.drop j))=([],E,M2):=by
      rw [HDR.out];unfold MV.playV;rw [HE.out.1,if_neg h0]
     have e2:M.playV Ls=(cs,E,M2):=by rw [HPV.out,e1];simp
     have e3:M2.exch l=M2:=MV.exch_no (by rw [HE.out.1];exact h0);refine ⟨_,K3,F3,by rw [e2],?_,?_,HY.out.1.upd u (by simp),?_,HX.out.2.2.1.trans HY.out.2.2.1,?_⟩
     ·rw [e2]
      exact ah HX.out.2.2.2.2.1 fun k hk=>by
       have RX:=(HX.out.2.2.2.2.1.lt k hk).2;rw [u.block k (Nat.lt_of_lt_of_le RX HY.out.2.2.2.up.size) (by simp)];exact HY.out.2.2.2.up.block k RX (HX.out.2.2.2.2.2 k hk)
     ·intro k hk hm
      rcases HY.out.2.2.2.sub k hm with h | h
      ·exact HX.out.2.2.2.2.2 k hk h
      ·have:=(HX.out.2.2.2.2.1.lt k hk).2;omega
     ·rw [e2];rw [<- e3];exact HY.out.2.1
     ·have h1:=HX.out.2.2.2.1.trans HY.out.2.2.2
      exact ⟨h1.up.trans (u.mono (by simp)),h1.sub⟩
    go_wp2_with fail;go_ret2;exact mP.out _ ((af.refl _ _).alloc _)
  ·obtain rfl:j=ln:=by omega
   have fE:¬ ((j:Int)<(j:Int)):=by omega
   have mP:Hid (Me b Ls K F M w (.returned (.tuple #[.slice oa cs.length oc,.int .i64 0])) wr):=by
    have e1:M.playV Ls=(cs,0,M2):=by
     rw [HPV.out,<- Zd.out,List.drop_length];simp [MV.playV]
    exact ⟨_,K2,F2,by rw [e1],by rw [e1];exact aB,Jt,ED,by rw [e1];exact Td,DK,XH⟩
   clear ED Td DK XH aB Jt;go_wp2_with fail;go_ret2;exact mP.out
def lk (a b:Nat):Lit:=.string (keyBytes [.int .u32 a,.int .u32 b])
theorem cO:Keyed Tryz.prog 148:=Keyed.of_law (deep_law_gate laidOut (of_decide_eq_true (by kernel_rfl)) (of_decide_eq_true (by kernel_rfl)) (by kernel_rfl) (by kernel_rfl))
theorem wM {a b:Nat} (h0:a<=4294967295) (h1:b<=4294967295):keyOf Tryz.prog 148 (.agg #[.int .u32 a,.int .u32 b])=some (lk a b):=by
 have hk:Tryz.prog.keyType 148=true:=by kernel_rfl
 obtain ⟨m,hm⟩ : ∃ m,Tryz.prog.types.size=m+1:=⟨Tryz.prog.types.size-1,by have:0<Tryz.prog.types.size:=of_decide_eq_true (by kernel_rfl);omega⟩
 have c40:Tryz.prog.cellsOf 77=1:=by kernel_rfl
 have WE:Tryz.prog.cellsOf 148=2:=by kernel_rfl
 have kl:Tryz.prog.keyLits (m+2) 148 [.int .u32 a,.int .u32 b]=some [.int .u32 a,.int .u32 b]:=by
  unfold Program.keyLits;rw [Tryz.underlying148]
  simp only [WE]
  simp [c40,vV Tryz.underlying77 m (jO h0),vV Tryz.underlying77 m (jO h1)]
 have hf:Value.formed Tryz.prog 148 (.agg #[.int .u32 a,.int .u32 b])=true:=by
  simp [Value.formed,Tryz.underlying148,WE]
 rw [keyOf,Tryz.underlying148]
 show (if (Tryz.prog.keyType 148&&Value.formed Tryz.prog 148 (.agg #[.int .u32 a,.int .u32 b]))=true then Option.map (fun ls=>Lit.string (keyBytes ls)) (Tryz.prog.keyLits (Tryz.prog.types.size+1) 148 [.int .u32 a,.int .u32 b]) else none)=_
 rw [hk,hf,hm];rw [Bool.and_self,if_pos rfl]
 show Option.map (fun ls=>Lit.string (keyBytes ls)) (Tryz.prog.keyLits (m+2) 148 [.int .u32 a,.int .u32 b])=_
 rw [kl];rfl
theorem MB {a b a' b':Nat} (h0:a<=4294967295) (h1:b<=4294967295) (h0':a'<=4294967295) (h1':b'<=4294967295) (e:lk a b=lk a' b'):a=a'/\b=b':=by
 have h:=cO.inj (wM h0 h1) (by rw [e];exact wM h0' h1')
 simp only [Value.agg.injEq,Array.mk.injEq,List.cons.injEq,Value.int.injEq,true_and,and_true] at h
 omega
theorem MC (a b:Nat):WideAt.IsKeyLit (lk a b):=trivial
structure iq (Q:List (Nat × Nat)) (D:DM):Prop where
 im:IsMap D
 has:∀ a b:Nat,a<=4294967295->b<=4294967295->(Maps.has D (lk a b)=true↔(a,b)∈Q)
 at_:∀ a b:Nat,a<=4294967295->b<=4294967295->Maps.has D (lk a b)=true->∀ z,D.atKey (lk a b) z=.lit (.int .i64 1)
 dom:∀ k,Maps.has D k=true->∃ a b:Nat,k=lk a b/\a<1048576/\b<1048576
theorem iq.nil:iq [] (.map []):=⟨isMap_empty,fun a b _ _=>by simp [Maps.has],fun a b _ _ h=>by simp [Maps.has] at h,fun k h=>by simp [Maps.has] at h⟩
theorem iq.put {Q:List (Nat × Nat)} {D:DM} {a b:Nat} (h:iq Q D) (ha:a<1048576) (hb:b<1048576):iq (Q++[(a,b)]) (D.put (lk a b) (.lit (.int .i64 1))):=by
 have hl:WideAt.IsKeyLit (lk a b):=trivial
 have inj:∀ x y:Nat,x<=4294967295->y<=4294967295->(x,y)≠(a,b)->lk x y≠lk a b:=fun x y hx hy hne e=>by
  obtain ⟨rfl,rfl⟩:=MB hx hy (by omega) (by omega) e;exact hne rfl
 refine ⟨h.im.put _ _,fun x y hx hy=>?_,fun x y hx hy hh z=>?_,fun k hk=>?_⟩
 ·by_cases e:(x,y)=(a,b)
  ·cases e;simp [has_put_same h.im hl]
  ·rw [has_put_other (inj x y hx hy e),h.has x y hx hy];simp [e]
 ·by_cases e:(x,y)=(a,b)
  ·cases e;exact atKey_put_same h.im hl _ z
  ·rw [has_put_other (inj x y hx hy e)] at hh
   rw [atKey_put_other (inj x y hx hy e)];exact h.at_ x y hx hy hh z
 ·by_cases e:k=lk a b
  ·exact ⟨a,b,e,ha,hb⟩
  ·rw [has_put_other e] at hk;exact h.dom k hk
theorem zf (n:Nat) (f:Nat->Nat->Lit):((List.range n).flatMap fun a=>(List.range n).map fun b=>f a b).length=n*n:=by
 rw [List.length_flatMap]
 have:(List.map (fun a=>(List.map (fun b=>f a b) (List.range n)).length) (List.range n))=List.replicate n n:=by
  rw [List.eq_replicate_iff];refine ⟨by simp,fun b hb=>?_⟩;obtain ⟨a,_,rfl⟩:=List.mem_map.1 hb;simp
 rw [this,List.sum_replicate_nat]
theorem nN {Q:List (Nat × Nat)} {D:DM} (h:iq Q D) (hc:Maps.Canon D) (ht:Tidy D):Maps.size D<maxLen:=by
 have:=gZ hc (ks:=(List.range 1048576).flatMap fun a=>(List.range 1048576).map fun b=>lk a b) (fun k hk=>by
  obtain ⟨a,b,rfl,ha,hb⟩:=h.dom k hk
  exact List.mem_flatMap.2 ⟨a,List.mem_range.2 ha,List.mem_map.2 ⟨b,List.mem_range.2 hb,rfl⟩⟩) ht
 rw [zf] at this
 unfold maxLen;omega
def KV.haveQ (K:KV) (x s:Nat):List (Nat × Nat):=match K.A.list[s]? with | some p=>if p.var=(x:Int) then [(p.lo,p.hi)] else [] | none=>[]
def KV.moreQ (K:KV) (x y s:Nat):List (Nat × Nat):=match K.A.list[s]? with
 | some p=>if p.var=(x:Int)/\(K.vI p.lo=(y:Int)\/K.vI p.hi=(y:Int)) then [((K.part y p.lo).1,(K.part y p.hi).1),((K.part y p.lo).2,(K.part y p.hi).2)] else []
 | none=>[]
theorem wO (b r y:Nat) (K:KV) (T:List DM) (q:aA) (w:World) (h:dH w b K T q) (hr:K.A.tk r=true) :
  Calls Tryz.prog 68 #[.pointer (some ⟨b,0,none⟩),.int .u32 r,.int .i64 y] w fun e w'=>e=.returned (.tuple #[.int .u32 (K.part y r).1,.int .u32 (K.part y r).2,.bool (decide (K.vI r=(y:Int)))])/\af [] w w':=by
 have oP:=h.ok.ref_lt hr;obtain ⟨p,hp,aH⟩:=ag.tk_iff.1 hr;have HN:=Lib.hid (jC b r K T q p w h.mem (by omega) hp aH);have e1:K.vI r=p.var:=K.vI_at hp
 have e2:K.part y r=if p.var=(y:Int) then (p.lo,p.hi) else (r,r):=by simp [KV.part,hp]
 rw [e1,e2];clear h hr hp aH e1 e2 oP;generalize p.var=v at *;generalize p.lo=lo at *;generalize p.hi=hi at *
 by_cases hv:v=(y:Int)
 ·have RS:(v == (y:Int))=true:=by simpa using hv
  rw [if_pos hv,decide_eq_true hv]
  have ahe:((y:Int) == (y:Int))=true:=by simp
  clear hv
  go_enter Tryz.func68,Tryz.ntmps68
  go_wp2_with fail;refine HN.out.mono ?_;rintro e w1 ⟨rfl,hu⟩;have hb:=heap_alloc_new w1 (.cells #[.int .i64 v,.int .u32 lo,.int .u32 hi] 142 (0,0));have HU:=Lib.hid (hu.alloc (.cells #[.int .i64 v,.int .u32 lo,.int .u32 hi] 142 (0,0)));have x0:=ae (j:=0) hb rfl;have x1:=ae (j:=1) hb rfl;have x2:=ae (j:=2) hb rfl;clear hu hb;go_wp2_with fail
  go_region
  go_wp2_with fail;refine bodyPost_ret (v:=.tuple #[.int .u32 lo,.int .u32 hi,.bool true]) (by simp [results,Tryz.results68,go_sem]) rfl ⟨rfl,HU.out.drew⟩
 ·have RS:(v == (y:Int))=false:=by simpa using hv
  rw [if_neg hv,decide_eq_false hv]
  go_enter Tryz.func68,Tryz.ntmps68
  go_wp2_with fail;refine HN.out.mono ?_;rintro e w1 ⟨rfl,hu⟩;have hb:=heap_alloc_new w1 (.cells #[.int .i64 v,.int .u32 lo,.int .u32 hi] 142 (0,0));have HU:=Lib.hid (hu.alloc (.cells #[.int .i64 v,.int .u32 lo,.int .u32 hi] 142 (0,0)));have x0:=ae (j:=0) hb rfl;clear hu hb;go_wp2_with fail;refine bodyPost_ret (v:=.tuple #[.int .u32 r,.int .u32 r,.bool false]) (by simp [results,Tryz.results68,go_sem]) rfl ⟨rfl,HU.out⟩
end Go.Proofs.YtdackeldhdchaaaGreat
