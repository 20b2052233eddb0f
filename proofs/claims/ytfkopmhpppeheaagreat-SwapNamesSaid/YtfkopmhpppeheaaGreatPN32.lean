import Derived.Test.YtfkopmhpppeheaaGreatPN31
import Derived.Test.YtfkopmhpppeheaaGreatPN19
import Derived.Test.YtfkopmhpppeheaaGreatPN7
import Derived.Test.YtfkopmhpppeheaaGreatPN18
import Derived.Test.YtfkopmhpppeheaaGreatPN30
import Derived.Test.YtfkopmhpppeheaaGreatPN29
import Derived.Test.YtfkopmhpppeheaaGreatPN12
import Derived.Test.YtfkopmhpppeheaaGreatPN21
import Derived.Test.YtfkopmhpppeheaaGreatPN6
import Derived.Maps.RangeWalk
set_option maxRecDepth 100000
set_option maxHeartbeats 6400000
namespace Go.Proofs.YtfkopmhpppeheaaGreat
open Go.RowKit Go.Maps Go.ChangeMaps Go.WideShapes
theorem Em.start {w w1 w2:World} {n0 b m n c:Nat} {T:List DM} {q:aA} {p:bG} (hn:n0<=w.heap.size) (hk:bV w1 b (KV.new n c) T q) (u1:af [] w w1) (s1:Sub [] w (q.all b))
  (hm:fH w2 m (MV.new n c) p (p.all m)) (u2:af [] w1 w2) (s2:Sub [] w1 (p.all m)) :
  Em (w2.alloc (.cells #[.pointer (some ⟨b,0,none⟩),.pointer (some ⟨m,0,none⟩),.slice none 0 0,.slice none 0 0] 44 (0,0))) n0 w2.heap.size b m (.slice none 0 0) (.slice none 0 0) (KV.new n c) (q.all b) (MV.new n c) p [] []:=by
 have ua:af [] w2 (w2.alloc (.cells #[.pointer (some ⟨b,0,none⟩),.pointer (some ⟨m,0,none⟩),.slice none 0 0,.slice none 0 0] 44 (0,0))):=(af.refl _ _).alloc _
 have k1:∀ k,k∈q.all b->w.heap.size<=k/\k<w1.heap.size:=fun k dB=>⟨(s1 k dB).resolve_left (by simp),hk.mem.lt k dB⟩
 have k2:∀ k,k∈p.all m->w1.heap.size<=k/\k<w2.heap.size:=fun k dB=>⟨(s2 k dB).resolve_left (by simp),hm.lt k dB⟩
 have h1:=u1.size;have h2:=u2.size;refine ⟨heap_alloc_new _ _,⟨⟨T,q,hk.upd (u2.trans ua) (by simp),rfl⟩,?_,fun k a1 a2=>?_,World.ownsRow_nil _ _ _ _,fun k dB=>by simp [Value.ownBlock] at dB,iI.nil _ _ _⟩,⟨fun h=>?_,fun h=>?_⟩,fun k dB=>?_,?_⟩
 ·have Js:=hm.keep0 ua
  obtain ⟨cs,q1,q2,_⟩:=Js.hs.ex;exact ⟨Js.blk,Js.os,⟨cs,q1,q2,fun i t c h=>by simp [MV.new] at h⟩,Js.ts,Js.ne,fun k dB=>List.mem_append.2 (.inr dB)⟩
 ·have:=k1 k a1;have:=k2 k a2;omega
 ·have:=k1 _ h;omega
 ·have:=k2 _ h;omega
 ·rcases dB with h | h | h | h | h
  ·have:=k1 k h;omega
  ·have:=k2 k h;omega
  ·omega
  ·simp [Value.ownBlock] at h
  ·simp [Value.ownBlock] at h
 ·have:=ua.size;omega
theorem Em.V8 {w w1:World} {n0 a b m:Nat} {rv tv:Value} {K:KV} {F:List Nat} {M M':MV} {p:bG} {refs:List Nat} {tabs:List TV} (h:Em w n0 a b m rv tv K F M p refs tabs) (e:ji m p (F++p.all m) M' w w1) :
  ∃ p',Em w1 n0 a b m rv tv K F M' p' refs tabs/\wQ n0 w w1/\af (p.all m) w w1/\∀ c t,jG w (F++p.all m) c t->jG w1 (F++p'.all m) c t:=by
 have mO:=h.bl;obtain ⟨p',hm,u,s⟩:=h.mem.model e;refine ⟨p',⟨by rw [u.block a (ah h.blk) h.na.2];exact h.blk,hm,⟨h.na.1,fun hm=>?_⟩,fun k hk=>?_,Nat.le_trans h.bl u.size⟩,wQ.of u fun k hk=>h.lo k (.inr (.inl hk)),u,fun c t ht=>ht.step u s⟩
 ·rcases s a hm with h1 | h1
  ·exact h.na.2 h1
  ·have:=ah h.blk;omega
 ·rcases hk with hk | hk | hk
  ·exact h.lo k (.inl hk)
  ·rcases s k hk with h1 | h1
   ·exact h.lo k (.inr (.inl h1))
   ·omega
  ·exact h.lo k (.inr (.inr hk))
theorem Rw {w7 w x:World} {B:Nat} {S:List Nat} {u v:Value} (hB:B∉S/\B<w7.heap.size) (h1:af [] w7 w) (h2:af S w x) (b0:w7.cell? ⟨B,0,none⟩=some u) (b1:w7.cell? ⟨B,1,none⟩=some v):x.cell? ⟨B,0,none⟩=some u/\x.cell? ⟨B,1,none⟩=some v :=
 have hb:=Nat.lt_of_lt_of_le hB.2 h1.size
 ⟨(h2.cell hb hB.1).trans (h1.cell0 b0),(h2.cell hb hB.1).trans (h1.cell0 b1)⟩
structure agu (n c:Nat) (L:List TV) (Ls:List Int) (w:World) (e:Ending) (w':World):Prop where
 ex:∃ (a b m:Nat) (rv tv:Value) (K:KV) (F:List Nat) (p:bG) (refs:List Nat),e=.returned (.tuple #[.pointer (some ⟨a,0,none⟩),.bool true]) /\
  Em w' (w.heap.size+1) a b m rv tv K F ((uU n c L).1.qp Ls) p refs (uU n c L).2/\x9 K ((uU n c L).1.qp Ls) refs (uU n c L).2/\DC K refs/\K.vars=n/\((uU n c L).1.qp Ls).held.length<=40/\((uU n c L).1.qp Ls).trail.length<=Ls.length/\af [] w w'
theorem N7 (n c:Nat) (lv:Value) (L:List TV) (la:Option Addr) (ln lc:Nat) (Ls:List Int) (w:World) (hn:1<=n/\n<=8) (hc:2<=c/\c<=1048576) (hL:DJ w lv L) (hl:L.length<=40) (dJ:∀ t,t∈L->t.Ok/\t.n=n) (hS:zV w .i64 la ln Ls) (JP:ln<=200) :
  Calls Tryz.prog 16 #[.agg #[.int .i64 n,.int .i64 c,lv,.slice la ln lc]] w fun e w'=>agu n c L Ls w e w':=by
 obtain ⟨A,cp,rfl,hmx,_⟩:=hL.ex;obtain ⟨N,hN⟩ : ∃ N,L.length=N:=⟨_,rfl⟩;have HN:=Lib.hid hN;have HL:=Lib.hid hL;have HS:=Lib.hid hS;have Yz:=Lib.hid dJ;rw [hN] at hl hmx ⊢;have HB:=Lib.hid (heap_alloc_new w (.cells #[.int .i64 n,.int .i64 c,.slice A N cp,.slice la ln lc] 25 (0,0)));obtain ⟨w0,AZ⟩ : ∃ w0,w.alloc (.cells #[.int .i64 n,.int .i64 c,.slice A N cp,.slice la ln lc] 25 (0,0))=w0:=⟨_,rfl⟩
 have wO:af [] w w0:=by rw [<- AZ];exact (af.refl _ _).alloc _
 have tV:w0.heap.size=w.heap.size+1:=by rw [<- AZ,World.size_alloc]
 rw [AZ] at HB;have jR:=Lib.hid wO;have HZ0:=Lib.hid tV;have Xr:=Lib.hid AZ
 have Y3:Hid (∀ z,af [] w0 z->z.cell? ⟨w.heap.size,0,none⟩=some (.int .i64 n)/\z.cell? ⟨w.heap.size,1,none⟩=some (.int .i64 c)/\z.cell? ⟨w.heap.size,2,none⟩=some (.slice A N cp)/\z.cell? ⟨w.heap.size,3,none⟩=some (.slice la ln lc)):=fun z u=>by
  have hb:=(u.block _ (by rw [tV];omega) (by simp)).trans HB.out;exact ⟨ae hb rfl,ae hb rfl,ae hb rfl,ae hb rfl⟩
 obtain ⟨AO,hn8⟩:=hn;obtain ⟨BC,XD⟩:=hc;clear hL hS dJ AZ wO tV hN
 go_enter Tryz.func16,Tryz.ntmps16
 go_wp2_with fail;rw [Xr.out];obtain ⟨x0,x1,_,_⟩:=Y3.out _ (af.refl _ _);go_wp2_with fail;refine (Gu n c _ AO (by omega) BC XD).mono ?_;rintro e w1 ⟨b,T,q,rfl,O3,iq,xe⟩;have FX:=Lib.hid (And.intro O3 (And.intro iq xe));obtain ⟨y0,y1,_,_⟩:=Y3.out _ iq;clear O3 iq xe x0 x1;go_wp2_with fail;refine (ED n c _ (by omega) XD).mono ?_;rintro e w2 hE;obtain ⟨m,p,rfl,_,hM,jE,dR⟩:=hE.ex;have NS:=Lib.hid (Em.start (n0:=w0.heap.size) (Nat.le_refl _) FX.out.1 FX.out.2.1 FX.out.2.2 hM jE dR);have eF:=Lib.hid (FX.out.2.1.trans jE);clear hE hM jE dR y0 y1;obtain ⟨_,_,z2,_⟩:=Y3.out (w2.alloc (.cells #[.pointer (some ⟨b,0,none⟩),.pointer (some ⟨m,0,none⟩),.slice none 0 0,.slice none 0 0] 44 (0,0))) (eF.out.trans ((af.refl _ _).alloc _));go_wp2_with fail;obtain ⟨wS,hwS⟩ : ∃ wS,w2.alloc (.cells #[.pointer (some ⟨b,0,none⟩),.pointer (some ⟨m,0,none⟩),.slice none 0 0,.slice none 0 0] 44 (0,0))=wS:=⟨_,rfl⟩;obtain ⟨a,ha⟩ : ∃ a,w2.heap.size=a:=⟨_,rfl⟩
 have uP:af [] w0 wS:=by rw [<- hwS];exact eF.out.trans ((af.refl _ _).alloc _)
 rw [hwS,ha] at NS;have HUS:=Lib.hid uP
 have Np:Hid (∀ z,wQ w0.heap.size wS z->(z.cell? ⟨w.heap.size,2,none⟩=some (.slice A N cp)/\z.cell? ⟨w.heap.size,3,none⟩=some (.slice la ln lc))/\af [] w0 z):=fun z f=>by
  obtain ⟨_,_,h2,h3⟩:=Y3.out wS uP
  have aW:w.heap.size<w0.heap.size:=by rw [HZ0.out];omega
  exact ⟨⟨f.cell h2 aW,f.cell h3 aW⟩,f.upd uP (Nat.le_refl _)⟩
 have HI0:Hid (x9 (KV.new n c) (MV.new n c) [] []/\DC (KV.new n c) []/\(KV.new n c).vars=n):=by
  exact ⟨⟨⟨uf.new AO (by omega) BC XD,.new hn8 XD,rfl,MV.qm.nil rfl⟩,rfl,by simp,by simp,by simp⟩,fun x _=>by simp [KV.hold,KV.new],rfl⟩
 try rw [hwS]
 try rw [ha]
 clear uP z2 hwS ha FX
 go_loopg [39] N (fun g s39 wr=>∃ (i:Nat) (rv tv:Value) (K:KV) (F:List Nat) (M:MV) (p:bG) (refs:List Nat) (tabs:List TV),N-i=g/\i<=N/\s39=.int .i64 i/\Em wr w0.heap.size a b m rv tv K F M p refs tabs/\x9 K M refs tabs/\DC K refs/\K.vars=n /\
  refs.length<=i/\M.held.length<=i/\M.trail=[]/\Hid ((M,tabs)=uU n c (L.take i))/\wQ w0.heap.size wS wr)
 case atStart=>exact ⟨0,_,_,_,_,_,_,_,_,by omega,by omega,rfl,NS.out,HI0.out.1,HI0.out.2.1,HI0.out.2.2,by simp,by simp [MV.new],rfl,Lib.hid (by simp [uU]),wQ.refl _ _⟩
 case round =>
  obtain ⟨i,rv,tv,K,F,M,p,refs,tabs,rfl,hi,rfl,N8,XE,XF,oV,rF,hhl,qG,HBM,hF⟩:=hrel;obtain ⟨⟨z2,z3⟩,Rx⟩:=Np.out _ hF
  by_cases aW:i<N
  ·obtain ⟨t,ht⟩ : ∃ t,L[i]?=some t:=⟨_,List.getElem?_eq_getElem (by have:=HN.out;omega)⟩
   obtain ⟨A',cp',e1,_,bI⟩:=(HL.out.keep0 (jR.out.trans Rx)).ex
   injection e1 with e1 _ e1c
   subst e1 e1c;obtain ⟨x,d,rfl,c0,c1,hT⟩:=bI i t ht;obtain ⟨ta,tc,rfl,_⟩:=aj hT.row;obtain ⟨tok,ttn⟩:=Yz.out t (List.mem_of_getElem? ht)
   have fF:(i:Int)<(N:Int):=by omega
   have agw:∀ k,(Value.slice ta t.ws.length tc).ownBlock=some k->k<w0.heap.size:=fun k hk=>by
    obtain ⟨A2,cp2,e2,_,su⟩:=(HL.out.keep0 jR.out).ex
    injection e2 with e2 _ _
    subst e2;obtain ⟨x2,d2,e3,_,q2,hT2⟩:=su i t ht
    injection e3 with e3
    subst e3;have h3:=Rx.cell0 q2;rw [c1] at h3
    injection h3 with h3
    subst h3;exact (hT2.row.lt k hk).2
   have hTZ:jG wr (F++p.all m) (.slice ta t.ws.length tc) t:=⟨tok,hT.row,fun k hk hm=>by
    have h1:=agw k hk;have h2:=N8.lo k (by rcases List.mem_append.1 hm with h | h;exact .inl h;exact .inr (.inl h))
    omega⟩
   have aY:=heap_alloc_new wr (.cells #[.int .i64 n,.slice ta t.ws.length tc] 122 (0,0));have uI:af [] wr (wr.alloc (.cells #[.int .i64 n,.slice ta t.ws.length tc] 122 (0,0))):=(af.refl _ _).alloc _;obtain ⟨W,hW⟩ : ∃ W,t.ws.length=W:=⟨_,rfl⟩;have XC:=Lib.hid hW;rw [ttn] at c0;rw [hW,Addr.add_succ' _ 0] at c1;rw [hW] at aY uI
   simp only [Nat.zero_add] at c1
   obtain ⟨w6,NW⟩ : ∃ w6,wr.alloc (.cells #[.int .i64 n,.slice ta W tc] 122 (0,0))=w6:=⟨_,rfl⟩;rw [NW] at aY uI;have HW6:=Lib.hid NW
   have HPM:Hid (∀ k,k∈p.all m->k<wr.heap.size):=fun k hk=>N8.mem.mod.lt k hk
   have HTZ:=Lib.hid (hTZ.keep0 uI);have Zh:=N8.keep0 uI;have hmk:=JA b K.vars K F F (K.jv t.fn) (.slice ta t.ws.length tc) t 0 w6 Zh.mem.ker (fun k hk=>Zh.mem.ker.lt k hk) (fun _ h=>h) HTZ.out.less (ttn.trans oV.symm) (by omega) (by omega) (fun y=>by have:=XF.le N8.mem.ker.ok y;omega) (fun _ h=>h);unfold dI at hmk;rw [ttn,hW] at hmk;have HMK:=Lib.hid hmk;have hwB:wr.heap.size<w6.heap.size:=ah aY;have HB6:=Lib.hid hwB
   have Rt:Hid (∀ z,af F w6 z->z.cell? ⟨wr.heap.size,0,none⟩=some (.int .i64 n)/\z.cell? ⟨wr.heap.size,1,none⟩=some (.slice ta W tc)):=fun z u=>by
    have hnF:wr.heap.size∉F:=fun hm=>by have:=N8.mem.ker.lt _ hm;omega
    have hb:=(u.block _ hwB hnF).trans aY;exact ⟨ae hb rfl,ae hb rfl⟩
   have HX:=Lib.hid (And.intro Zh (And.intro XE (And.intro XF (And.intro oV (And.intro qG (hF.trans (wQ.of0 uI)))))));have HT:=Lib.hid (And.intro tok (And.intro ttn ht));obtain ⟨b0,b1⟩:=Rt.out w6 (af.refl _ _);clear N8 XE XF oV qG hF Rx bI hT agw hTZ uI NW Zh hmk aY hW ht tok ttn z2 z3 hwB;go_wp2_with fail;rw [HW6.out];go_wp2_with fail;refine HMK.out.mono ?_;rintro e w7 hE;obtain ⟨r,code,K7,F7,rfl,hR,hK7,Ez,hs7,agx⟩:=hE.ex;have Jg:=Lib.hid (acR.of HX.out.2.1.km HX.out.1.mem.ker.ok HX.out.1.mem.ker.uni hK7.ok hK7.uni HT.out.1 (HT.out.2.1.trans HX.out.2.2.2.1.symm) (by omega) (fun y=>by have:=HX.out.2.2.1.le HX.out.1.mem.ker.ok y;omega) HX.out.2.2.2.2.1 (agx (HX.out.2.1.km.tr.trans HX.out.2.2.2.2.1)) hR);obtain ⟨hP7,hF7⟩:=HX.out.1.kernel hK7 Ez hs7
   have agy:Hid (jG w7 (F7++p.all m) (.slice ta t.ws.length tc) t):=⟨HT.out.1,(HTZ.out.keep Ez (fun k hk=>.inl (List.mem_append.2 (.inl hk)))).row,(HTZ.out.apart (Z':=F7++p.all m) fun k hk=>by
    rcases List.mem_append.1 hk with h | h
    ·exact (hs7 k h).imp (fun h=>List.mem_append.2 (.inl h)) id
    ·exact .inl (List.mem_append.2 (.inr h))).fr⟩
   have alF:Hid (∀ z,af [] w7 z->z.cell? ⟨wr.heap.size,0,none⟩=some (.int .i64 n)/\z.cell? ⟨wr.heap.size,1,none⟩=some (.slice ta W tc)):=fun z u=>Rt.out z (Ez.trans (u.mono (by simp)))
   have LK:=Lib.hid (And.intro hP7 (And.intro (HX.out.2.2.2.2.2.trans hF7) (HX.out.2.2.2.1.symm ▸ Jg.out.ext.vr)));obtain ⟨_,k1,_,_⟩:=hP7.cells;obtain ⟨b0,b1⟩:=alF.out w7 (af.refl _ _)
   have HAN:Hid (∀ z,af [] w7 z->Calls Tryz.prog 62 #[.pointer (some ⟨m,0,none⟩),.agg #[.int .i64 n,.slice ta W tc]] z fun e w'=>e=.returned (.int .i64 code)/\ji m p (F7++p.all m) (M.ans t) z w'):=fun z u=>by
    have hz:=LK.out.1.keep0 u
    have h1:=IJ m M p (F7++p.all m) (.slice ta t.ws.length tc) t z hz.mem.mod hz.mem.z HX.out.2.1.km.fit (agy.out.keep0 u) (by rw [HT.out.2.1,HX.out.2.1.km.agr.same.n,HX.out.2.2.2.1]) (fun v hv=>by
     obtain ⟨_,_,s,_,_,h2,_⟩:=HX.out.2.1.km.agr.hl v.1 v.2 hv;have h3:=HX.out.2.2.1.le HX.out.1.mem.ker.ok s
     omega)
    unfold dI at h1;rw [HT.out.2.1,XC.out,<- Jg.out.ce] at h1;exact h1
   have agz:code=0\/code=9:=by
    rcases hR with ⟨h,_⟩ | ⟨h,_⟩
    ·exact .inl h
    ·exact .inr h
   have alG:=Lib.hid agz;have vO:Hid (wr.heap.size∉p.all m/\wr.heap.size<w7.heap.size):=⟨fun hm=>by have h1:=HPM.out _ hm;omega,Nat.lt_of_lt_of_le HB6.out Ez.size⟩;clear hE hR hK7 Ez hs7 agx hP7 hF7 HMK agz;go_wp2_with fail
   go_region_held3 (fun z=>z.cell? ⟨a,1,none⟩=some (.pointer (some ⟨m,0,none⟩))/\z.cell? ⟨wr.heap.size,0,none⟩=some (.int .i64 n)/\z.cell? ⟨wr.heap.size,1,none⟩=some (.slice ta W tc)) (first | exact ⟨k1,b0,b1⟩ | exact HQ8.out.1) (first
    | (go_at_call 62;refine (HAN.out _ (af.refl _ _).drew).mono ?_;rintro e w8 ⟨rfl,hm⟩;obtain ⟨p',hP8,hF8,PL,hT8⟩:=(LK.out.1.keep0 (af.refl [] w7).drew).V8 hm;have HQ8:=Lib.hid (And.intro (And.intro hP8.cells.2.1 (Rw vO.out ((af.refl [] w7).drew) PL b0 b1)) (And.intro hP8 (And.intro ((wQ.of0 (af.refl [] w7).drew).trans hF8) hT8)));clear hm hP8 hF8 PL hT8))
   obtain ⟨k18,b08,b18⟩:=HQ8.out.1
   rcases alG.out with rfl | rfl
   ·have hE0:M.x8 t=0:=Jg.out.ce.symm
    have hTK:=Rq w0.heap.size a b m rv tv K7 F7 (M.ans t) p' refs tabs r (.slice ta t.ws.length tc) t w8 HQ8.out.2.1 (HX.out.2.1.ext HX.out.1.mem.ker.ok Jg.out.ext Jg.out.km) (HQ8.out.2.2.2 _ _ (agy.out.keep0 (af.refl _ _).drew)) (HT.out.2.1.trans LK.out.2.2.symm) (Jg.out.yes rfl).1;unfold dI at hTK;rw [HT.out.2.1,XC.out] at hTK;have LG:=Lib.hid hTK;have HE0:=Lib.hid hE0;clear hTK hE0;go_wp2_with fail;refine LG.out.mono ?_;rintro e w9 hE;obtain ⟨rv',tv',rfl,hP9,hF9⟩:=hE.ex;have HQ9:=Lib.hid (And.intro hP9 hF9);clear hE hP9 hF9;go_wp2_with fail
    go_roundg (N-(i+1))
    case measure=>omega
    case rel =>
     refine ⟨i+1,rv',tv',K7,F7,M.ans t,p',refs++[r],tabs++[t],rfl,by omega,by simp,HQ9.out.1,?_,HX.out.2.2.1.push (Jg.out.yes rfl).2,LK.out.2.2,by simp;omega,by have:=Jg.out.hl;omega,Jg.out.tr,Lib.hid ?_,(LK.out.2.1.trans HQ8.out.2.2.1).trans HQ9.out.2⟩
     ·exact (HX.out.2.1.ext HX.out.1.mem.ker.ok Jg.out.ext Jg.out.km).push (by omega) HT.out.1 (HT.out.2.1.trans LK.out.2.2.symm) (Jg.out.yes rfl).1
     ·rw [Gt HT.out.2.2,<- HBM.out]
      exact Prod.ext (by rw [zY]) (by rw [zZ,if_pos HE0.out])
   ·have hE9:M.x8 t≠0:=fun h=>by have:=Jg.out.ce;omega
    have HE9:=Lib.hid hE9;clear hE9;go_wp2_with fail
    go_roundg (N-(i+1))
    case measure=>omega
    case rel =>
     refine ⟨i+1,rv,tv,K7,F7,M.ans t,p',refs,tabs,rfl,by omega,by simp,HQ8.out.2.1,HX.out.2.1.ext HX.out.1.mem.ker.ok Jg.out.ext Jg.out.km,fun x hx=>by rw [Jg.out.no (by decide)];exact HX.out.2.2.1 x hx,LK.out.2.2,by omega,by have:=Jg.out.hl;omega,Jg.out.tr,Lib.hid ?_,LK.out.2.1.trans HQ8.out.2.2.1⟩;rw [Gt HT.out.2.2,<- HBM.out];exact Prod.ext (by rw [zY]) (by rw [zZ,if_neg HE9.out])
  ·obtain rfl:i=N:=by omega
   have fF:¬ ((i:Int)<(i:Int)):=by omega
   have hBM:(M,tabs)=uU n c L:=by
    have h1:=HBM.out;rw [<- HN.out,List.take_length] at h1;exact h1
   have V9:=Lib.hid hBM;have HX:=Lib.hid (And.intro N8 (And.intro XE (And.intro XF (And.intro oV (And.intro qG hF)))));clear N8 XE XF oV qG hF Rx hBM HBM;go_wp2_with fail
   go_loopg [73] ln (fun g s73 wx=>∃ (j:Nat) (K2:KV) (F2:List Nat) (M2:MV) (p2:bG),ln-j=g/\j<=ln/\s73=.int .i64 j/\Em wx w0.heap.size a b m rv tv K2 F2 M2 p2 refs tabs/\x9 K2 M2 refs tabs/\DC K2 refs/\K2.vars=n /\
    M2.held.length<=40/\M2.trail.length<=j/\Hid (M2=M.qp (Ls.take j))/\wQ w0.heap.size wS wx)
   case atStart=>exact ⟨0,K,F,M,p,by omega,by omega,rfl,HX.out.1,HX.out.2.1,HX.out.2.2.1,HX.out.2.2.2.1,by omega,by rw [HX.out.2.2.2.2.1];simp,Lib.hid (by simp [MV.qp]),HX.out.2.2.2.2.2⟩
   case round =>
    obtain ⟨j,K2,F2,M2,p2,rfl,hj,rfl,N8,XE,XF,oV,Lr,Hu,HEX,hF⟩:=hrel;obtain ⟨_,Rx⟩:=Np.out _ hF
    by_cases hjt:j<ln
    ·obtain ⟨y,hy,hcy⟩:=HS.out.at_ j hjt
     subst hy;have oz:=(jR.out.trans Rx).cell0 hcy
     have OJ:(j:Int)<(ln:Int):=by omega
     have HLJ:Hid (Ls.getD j 0=Ls.getD j 0/\j<Ls.length):=⟨rfl,by rw [HS.out.len];exact hjt⟩;have HSU:Hid ((M.qp (Ls.take j)).gQ (Ls.getD j 0)=M.qp (Ls.take (j+1))):=(MV.NZ (by rw [HS.out.len];exact hjt)).symm;clear hcy HLJ;generalize Ls.getD j 0=l at *;have HKX:=Lib.hid (PI b l K2 F2 M2 wr.drew (N8.mem.ker.upd (af.refl [] wr).drew (by simp)) XE.km (by omega));obtain ⟨E,hEE⟩ : ∃ E,M2.gy l=E:=⟨_,rfl⟩;rw [hEE] at HKX;have HEE:=Lib.hid hEE;obtain ⟨_,k1,_,_⟩:=N8.cells;have Aj:=Lib.hid (And.intro N8 (And.intro XE (And.intro XF (And.intro oV hF))))
     have hzz:∀ x y:Int,(x == x)=true:=fun x _=>by simp
     clear N8 XE XF oV hF Rx hEE;go_wp2_with fail
     go_region_held3 (fun x=>x.cell? ⟨a,1,none⟩=some (.pointer (some ⟨m,0,none⟩))) (first | exact k1 | exact HQ.out.2.2.1 | exact VB.out.1) (first
      | (go_at_call 29;refine HKX.out.mono ?_;rintro e w5 ⟨rfl,hk⟩;obtain ⟨K',F',hK',hkm,A8,hu,hs⟩:=hk.ex;obtain ⟨hP5,hF5⟩:=(Aj.out.1.keep0 (af.refl [] wr).drew).kernel hK' hu hs;have HQ:=Lib.hid (And.intro hP5 (And.intro ((wQ.of0 (af.refl [] wr).drew).trans hF5) (And.intro hP5.cells.2.1 (And.intro hkm A8))));clear hk hK' hkm A8 hu hs hP5 hF5)
      | (go_at_call 64;refine (MZ m M2 p2 (F'++p2.all m) l _ HQ.out.1.mem.mod HQ.out.1.mem.z Aj.out.2.1.km.fit (Aj.out.2.1.km.len Aj.out.1.mem.ker.ok) (by omega)).mono ?_;rintro e w6 hE;obtain ⟨rfl,hm⟩:=hE.ex;rw [HEE.out];obtain ⟨p',hP6,hF6,_,_⟩:=HQ.out.1.V8 hm;have VB:=Lib.hid (And.intro hP6.cells.2.1 (And.intro hP6 hF6));clear hE hm hP6 hF6))
     go_wp2_with fail
     go_roundg (ln-(j+1))
     case measure=>omega
     case rel =>
      obtain ⟨l1,l2⟩:=Aj.out.2.1.stay Aj.out.2.2.1 HQ.out.1.mem.ker.ok HQ.out.2.2.2.2 HQ.out.2.2.2.1;obtain ⟨e1,e2⟩:=MV.DK M2 l;exact ⟨j+1,K',F',M2.gQ l,p',rfl,by omega,by simp,VB.out.2.1,l1,l2,HQ.out.2.2.2.2.vr.trans Aj.out.2.2.2.1,by rw [e2];exact Lr,by omega,Lib.hid (by rw [<- HSU.out,<- HEX.out]),(Aj.out.2.2.2.2.trans HQ.out.2.1).trans VB.out.2.2⟩
    ·obtain rfl:j=ln:=by omega
     have OJ:¬ ((j:Int)<(j:Int)):=by omega
     have hME:M2=(uU n c L).1.qp Ls:=by
      have h1:=HEX.out;rw [<- HS.out.len,List.take_length] at h1;rw [h1,<- V9.out]
     have hTB:tabs=(uU n c L).2:=by rw [<- V9.out]
     have tN:Hid (agu n c L Ls w (.returned (.tuple #[.pointer (some ⟨a,0,none⟩),.bool true])) wr):=by
      refine ⟨a,b,m,rv,tv,K2,F2,p2,refs,rfl,?_,?_,XF,oV,?_,?_,jR.out.trans Rx⟩
      ·rw [<- hME,<- hTB,<- HZ0.out];exact N8
      ·rw [<- hME,<- hTB];exact XE
      ·rw [<- hME];exact Lr
      ·rw [<- hME,HS.out.len];exact Hu
     clear N8 XE XF oV hF Rx hME hTB;go_wp2_with fail;go_ret2;exact tN.out
theorem ch3 {x:World} {B:Nat} {y0 y1 y2:Value} {t:TypeId} (h:x.heap[B]?=some (.cells #[y0,y1,y2] t (0,0))) (v0 v1 v2:Value) :
  (x.cell? ⟨B,0,none⟩=some y0/\x.cell? ⟨B,1,none⟩=some y1/\x.cell? ⟨B,2,none⟩=some y2/\x.frozen? ⟨B,0,none⟩=false/\x.frozen? ⟨B,1,none⟩=false/\x.frozen? ⟨B,2,none⟩=false) /\
  ((x.setCell ⟨B,0,none⟩ v0).cell? ⟨B,1,none⟩=some y1/\(x.setCell ⟨B,0,none⟩ v0).frozen? ⟨B,1,none⟩=false) /\
  (((x.setCell ⟨B,0,none⟩ v0).setCell ⟨B,1,none⟩ v1).cell? ⟨B,2,none⟩=some y2/\((x.setCell ⟨B,0,none⟩ v0).setCell ⟨B,1,none⟩ v1).frozen? ⟨B,2,none⟩=false) /\
  ((((x.setCell ⟨B,0,none⟩ v0).setCell ⟨B,1,none⟩ v1).setCell ⟨B,2,none⟩ v2).cell? ⟨B,0,none⟩=some v0/\(((x.setCell ⟨B,0,none⟩ v0).setCell ⟨B,1,none⟩ v1).setCell ⟨B,2,none⟩ v2).cell? ⟨B,1,none⟩=some v1/\(((x.setCell ⟨B,0,none⟩ v0).setCell ⟨B,1,none⟩ v1).setCell ⟨B,2,none⟩ v2).cell? ⟨B,2,none⟩=some v2):=by
 have h0:=aB (j:=0) h v0;have h1:=aB (j:=1) h0 v1;have h2:=aB (j:=2) h1 v2;exact ⟨⟨ae h rfl,ae h rfl,ae h rfl,ax 0 h,ax 1 h,ax 2 h⟩,⟨ae h0 rfl,ax 1 h0⟩,⟨ae h1 rfl,ax 2 h1⟩,ae h2 rfl,ae h2 rfl,ae h2 rfl⟩
theorem PM {S:List Nat} {w x:World} {B:Nat} {v0 v1 v2:Value} (u:af S w x) (h:w.heap.size<=B):af S w (((x.setCell ⟨B,0,none⟩ v0).setCell ⟨B,1,none⟩ v1).setCell ⟨B,2,none⟩ v2) :=
 ((u.setCell (p:=⟨B,0,none⟩) (.inr h) _).setCell (p:=⟨B,1,none⟩) (.inr h) _).setCell (p:=⟨B,2,none⟩) (.inr h) _
structure ExR (b:Nat) (F:List Nat) (R:Int->KV->Prop) (w:World) (code:Int) (w':World):Prop where
 ex:∃ (K':KV) (F':List Nat),aZ w' b K' F'/\af F w w'/\Sub F w F'/\R code K'
structure We (b:Nat) (l:Int) (K:KV) (F:List Nat) (R:Int->KV->Prop) (w:World) (e:Ending) (w':World):Prop where
 ex:∃ (code:Int) (K':KV) (F':List Nat),e=.returned (.tuple #[if code=0 then .agg #[.int .i64 l,.int .i64 ((K.A.used:Int)-2),.int .i64 ((K'.A.used:Int)-2)] else .agg #[.int .i64 0,.int .i64 0,.int .i64 0],.int .i64 code])/\aZ w' b K' F'/\af F w w'/\Sub F w F'/\R code K'
theorem Ku (b:Nat) (l:Int) (K:KV) (F:List Nat) (R:Int->KV->Prop) (w:World) (h:aZ w b K F)
  (hx:∀ z,aZ z b K F->Calls Tryz.prog 29 #[.pointer (some ⟨b,0,none⟩),.int .i64 l] z fun e w'=>∃ code:Int,e=.returned (.int .i64 code)/\ExR b F R z code w') :
  Calls Tryz.prog 20 #[.pointer (some ⟨b,0,none⟩),.int .i64 l] w fun e w'=>We b l K F R w e w':=by
 have HK:=Lib.hid h;have HX:=Lib.hid hx;clear h hx
 go_enter Tryz.func20,Tryz.ntmps20
 go_wp2_with fail;refine (qO b K F _ (HK.out.upd ((af.refl [] w).alloc _) (by simp))).mono ?_;rintro e w1 ⟨rfl,rfl⟩;go_wp2_with fail;have Af:=Lib.hid (heap_alloc_new (w.alloc (.cells #[.int .i64 0,.int .i64 0,.int .i64 0] 46 (0,0))) (.cells #[.int .i64 l,.int .i64 ((K.A.used:Int)-2),.int .i64 0] 46 (0,0)))
 have Ld:Hid (((w.alloc (.cells #[.int .i64 0,.int .i64 0,.int .i64 0] 46 (0,0))).alloc (.cells #[.int .i64 l,.int .i64 ((K.A.used:Int)-2),.int .i64 0] 46 (0,0))).heap[w.heap.size]?=some (.cells #[.int .i64 0,.int .i64 0,.int .i64 0] 46 (0,0))) :=
  (Below.heap_alloc _ _ _ (ah (heap_alloc_new _ _))).trans (heap_alloc_new _ _)
 have HU:=Lib.hid (((af.refl [] w).alloc (.cells #[.int .i64 0,.int .i64 0,.int .i64 0] 46 (0,0))).alloc (.cells #[.int .i64 l,.int .i64 ((K.A.used:Int)-2),.int .i64 0] 46 (0,0)));obtain ⟨w2,gV⟩ : ∃ w2,(w.alloc (.cells #[.int .i64 0,.int .i64 0,.int .i64 0] 46 (0,0))).alloc (.cells #[.int .i64 l,.int .i64 ((K.A.used:Int)-2),.int .i64 0] 46 (0,0))=w2:=⟨_,rfl⟩;rw [World.size_alloc] at Af;rw [gV] at Ld Af HU ⊢;clear gV;refine (HX.out _ (HK.out.upd HU.out (by simp))).mono ?_;rintro e w3 ⟨code,rfl,hR⟩;obtain ⟨K',F',SS,fG,xG,hr⟩:=hR.ex
 have hz:∀ k,w.heap.size<=k->k∉F:=fun k hk hm=>by have:=HK.out.lt k hm;omega
 have H8:=Lib.hid ((fG.block _ (ah Ld.out) (hz _ (Nat.le_refl _))).trans Ld.out);have Nq:=Lib.hid ((fG.block _ (ah Af.out) (hz _ (by omega))).trans Af.out);have HR:=Lib.hid (And.intro SS (And.intro fG (And.intro xG hr)));clear hR SS fG xG hr hz
 by_cases hc:code=0
 ·subst hc
  go_wp2_with fail;refine (qO b K' F' _ HR.out.1).mono ?_;rintro e w4 ⟨rfl,rfl⟩;have c1:w4.cell? ⟨w.heap.size+1,2,none⟩=some (.int .i64 0):=ae Nq.out rfl;have f1:=ax 2 Nq.out;have Ag:=aB (j:=2) Nq.out (.int .i64 ((K'.A.used:Int)-2));have wM:=(aG (w:=w4) (a:=⟨w.heap.size+1,2,none⟩) (u:=.int .i64 ((K'.A.used:Int)-2)) (k:=w.heap.size) (by simp)).trans H8.out;obtain ⟨⟨r0,r1,r2,_⟩,_⟩:=ch3 Ag (.int .i64 0) (.int .i64 0) (.int .i64 0);obtain ⟨⟨s0,s1,s2,g0,g1,g2⟩,⟨s3,g3⟩,⟨s4,g4⟩,z0,z1,z2⟩:=ch3 wM (.int .i64 l) (.int .i64 ((K.A.used:Int)-2)) (.int .i64 ((K'.A.used:Int)-2))
  have tN:Hid (We b l K F R w (.returned (.tuple #[.agg #[.int .i64 l,.int .i64 ((K.A.used:Int)-2),.int .i64 ((K'.A.used:Int)-2)],.int .i64 0])) ((((w4.setCell ⟨w.heap.size+1,2,none⟩ (.int .i64 ((K'.A.used:Int)-2))).setCell ⟨w.heap.size,0,none⟩ (.int .i64 l)).setCell ⟨w.heap.size,1,none⟩ (.int .i64 ((K.A.used:Int)-2))).setCell ⟨w.heap.size,2,none⟩ (.int .i64 ((K'.A.used:Int)-2)))):=by
   have Ah:af F w w4:=(HU.out.mono (by simp):af F w w2).trans HR.out.2.1
   have EI:∀ k,k∈F'->k≠w.heap.size/\k≠w.heap.size+1:=fun k hk=>by
    rcases HR.out.2.2.1 k hk with h | h
    ·have:=HK.out.lt k h;omega
    ·have:=ah Af.out;omega
   have nK:af [w.heap.size,w.heap.size+1] w4 ((((w4.setCell ⟨w.heap.size+1,2,none⟩ (.int .i64 ((K'.A.used:Int)-2))).setCell ⟨w.heap.size,0,none⟩ (.int .i64 l)).setCell ⟨w.heap.size,1,none⟩ (.int .i64 ((K.A.used:Int)-2))).setCell ⟨w.heap.size,2,none⟩ (.int .i64 ((K'.A.used:Int)-2))) :=
    ((((af.refl _ _).setCell (p:=⟨w.heap.size+1,2,none⟩) (.inl (by simp)) _).setCell (p:=⟨w.heap.size,0,none⟩) (.inl (by simp)) _).setCell (p:=⟨w.heap.size,1,none⟩) (.inl (by simp)) _).setCell (p:=⟨w.heap.size,2,none⟩) (.inl (by simp)) _
   refine ⟨0,K',F',by simp,HR.out.1.upd nK (fun k hk hm=>?_),PM (Ah.setCell (p:=⟨w.heap.size+1,2,none⟩) (.inr (by show w.heap.size<=w.heap.size+1;omega)) _) (Nat.le_refl _),fun k hk=>?_,HR.out.2.2.2⟩
   ·have:=EI k hk;simp at hm;omega
   ·exact (HR.out.2.2.1 k hk).imp id fun h=>Nat.le_trans HU.out.size h
  clear Ag wM;go_wp2_with fail;refine bodyPost_ret (v:=.tuple #[.agg #[.int .i64 l,.int .i64 ((K.A.used:Int)-2),.int .i64 ((K'.A.used:Int)-2)],.int .i64 0]) (by simp [results,Tryz.results20,go_sem,z0,z1,z2]) rfl tN.out
 ·have Eo:(code == 0)=false:=by simpa using hc
  obtain ⟨⟨s0,s1,s2,g0,g1,g2⟩,⟨s3,g3⟩,⟨s4,g4⟩,z0,z1,z2⟩:=ch3 H8.out (.int .i64 0) (.int .i64 0) (.int .i64 0)
  have tN:Hid (We b l K F R w (.returned (.tuple #[.agg #[.int .i64 0,.int .i64 0,.int .i64 0],.int .i64 code])) (((w3.setCell ⟨w.heap.size,0,none⟩ (.int .i64 0)).setCell ⟨w.heap.size,1,none⟩ (.int .i64 0)).setCell ⟨w.heap.size,2,none⟩ (.int .i64 0))):=by
   have Ah:af F w w3:=(HU.out.mono (by simp):af F w w2).trans HR.out.2.1
   have nK:af [w.heap.size] w3 (((w3.setCell ⟨w.heap.size,0,none⟩ (.int .i64 0)).setCell ⟨w.heap.size,1,none⟩ (.int .i64 0)).setCell ⟨w.heap.size,2,none⟩ (.int .i64 0)) :=
    (((af.refl _ _).setCell (p:=⟨w.heap.size,0,none⟩) (.inl (by simp)) _).setCell (p:=⟨w.heap.size,1,none⟩) (.inl (by simp)) _).setCell (p:=⟨w.heap.size,2,none⟩) (.inl (by simp)) _
   refine ⟨code,K',F',by rw [if_neg hc],HR.out.1.upd nK (fun k hk hm=>?_),PM Ah (Nat.le_refl _),fun k hk=>?_,HR.out.2.2.2⟩
   ·simp at hm
    rcases HR.out.2.2.1 k hk with h | h
    ·have:=HK.out.lt k h;omega
    ·have:=ah Af.out;omega
   ·exact (HR.out.2.2.1 k hk).imp id fun h=>Nat.le_trans HU.out.size h
  go_wp2_with fail;refine bodyPost_ret (v:=.tuple #[.agg #[.int .i64 0,.int .i64 0,.int .i64 0],.int .i64 code]) (by simp [results,Tryz.results20,go_sem,z0,z1,z2]) rfl tN.out
structure UnS (b:Nat) (P:KV->Prop) (K:KV) (F:List Nat) (w:World) (e:Ending) (w':World):Prop where
 ex:∃ (l:Nat) (K':KV) (F':List Nat),e=.returned (.tuple #[.int .i64 l,.int .i64 0])/\aZ w' b K' F'/\l9 F w F' w'/\P K'/\K'.trail.length+1=K.trail.length
structure aa0 (b tr:Nat) (P:KV->Prop) (K:KV) (F:List Nat) (w:World) (e:Ending) (w':World):Prop where
 ex:∃ (K':KV) (F':List Nat),e=.returned (.tuple #[.int .i64 (K.trail.length-tr:Nat),.int .i64 0])/\aZ w' b K' F'/\l9 F w F' w'/\P K'/\K'.trail.length=tr
theorem Gv (b tr:Nat) (P:KV->Prop) (K:KV) (F:List Nat) (w:World) (h:aZ w b K F) (hp:P K) (qG:tr<=K.trail.length) (hlen:K.trail.length<=1000000)
  (hu:∀ z K F,aZ z b K F->P K->tr<K.trail.length->K.trail.length<=1000000->Calls Tryz.prog 68 #[.pointer (some ⟨b,0,none⟩)] z fun e w'=>UnS b P K F z e w') :
  Calls Tryz.prog 23 #[.pointer (some ⟨b,0,none⟩),.int .i64 tr] w fun e w'=>aa0 b tr P K F w e w':=by
 have HK:=Lib.hid (And.intro h hp);have HU:=Lib.hid hu;obtain ⟨TL,Jf⟩ : ∃ TL,K.trail.length=TL:=⟨_,rfl⟩;have HTL:=Lib.hid Jf;have HTA:=Lib.hid (xI b K F w h);rw [Jf] at qG hlen HTA
 have h0:¬ (tr:Int)<0:=by omega
 have h1:¬ (TL:Int)<(tr:Int):=by omega
 have h2:(tr:Int)<=(TL:Int):=by omega
 have h3:decide (TL<tr)=false:=by simp;omega
 clear h hu Jf hp
 go_enter Tryz.func23,Tryz.ntmps23
 go_wp2_with fail;refine HTA.out.mono ?_;rintro e w1 ⟨rfl,pX⟩;have nU:=Lib.hid pX;clear pX;go_wp2_with fail
 go_loopg [6] TL (fun g s6 wr=>∃ (i:Nat) (K2:KV) (F2:List Nat),TL-i=g/\s6=.int .i64 i/\aZ wr b K2 F2/\l9 F w F2 wr/\P K2/\K2.trail.length+i=TL/\tr+i<=TL)
 case atStart=>exact ⟨0,K,F,by omega,rfl,by rw [nU.out];exact HK.out.1,by rw [nU.out];exact ⟨af.refl _ _,Sub.refl _ _⟩,HK.out.2,by have:=HTL.out;omega,by omega⟩
 case round =>
  obtain ⟨i,K2,F2,rfl,rfl,vU,A8,NP,Ff,hti⟩:=hrel;obtain ⟨T2,hT2⟩ : ∃ T2,K2.trail.length=T2:=⟨_,rfl⟩;have Eh:=Lib.hid hT2;have agC:=Lib.hid (xI b K2 F2 wr vU);rw [hT2] at agC Ff;have HX:=Lib.hid (And.intro vU (And.intro A8 NP));clear vU A8 NP hT2;go_wp2_with fail;refine agC.out.mono ?_;rintro e w2 ⟨rfl,gV⟩;have Au:=Lib.hid gV;clear gV
  by_cases hgt:tr<T2
  ·have XG:(tr:Int)<(T2:Int):=by omega
   go_wp2_with fail;rw [Au.out];refine (HU.out wr K2 F2 HX.out.1 HX.out.2.2 (by rw [Eh.out];exact hgt) (by rw [Eh.out];omega)).mono ?_;rintro e w3 hE;obtain ⟨l,K3,F3,rfl,SS,xG,hp3,Z4⟩:=hE.ex;have HY:=Lib.hid (And.intro SS (And.intro xG (And.intro hp3 Z4)));clear hE SS xG hp3 Z4;go_wp2_with fail
   go_roundg (TL-(i+1))
   case measure=>omega
   case rel=>exact ⟨i+1,K3,F3,rfl,by simp,HY.out.1,HX.out.2.1.trans HY.out.2.1,HY.out.2.2.1,by have:=HY.out.2.2.2;have:=Eh.out;omega,by omega⟩
  ·have XG:¬ (tr:Int)<(T2:Int):=by omega
   have hi:i=TL-tr:=by omega
   have tN:Hid (aa0 b tr P K F w (.returned (.tuple #[.int .i64 i,.int .i64 0])) w2):=by
    refine ⟨K2,F2,by rw [HTL.out,hi],?_,?_,HX.out.2.2,by rw [Eh.out];omega⟩
    ·rw [Au.out];exact HX.out.1
    ·rw [Au.out];exact HX.out.2.1
   clear hi;go_wp2_with fail;go_ret2;exact tN.out
theorem Tryz.Kv:(Tryz.prog.info? 46).map (fun i=>(i.zero,i.size,i.bytes))=some (some (.agg #[.int .i64 0,.int .i64 0,.int .i64 0]),3,24):=by kernel_rfl
def chV (c:Int × Int × Int):Value:=.agg #[.int .i64 c.1,.int .i64 c.2.1,.int .i64 c.2.2]
def oO (l:List (Int × Int × Int)):List Value:=l.flatMap fun c=>[.int .i64 c.1,.int .i64 c.2.1,.int .i64 c.2.2]
def MV.Wh (M:MV) (l:Int):Int × Int × Int:=if M.gy l=0 then (l,M.live,(M.gQ l).live) else (0,0,0)
def MV.jO (M:MV):List Int->List (Int × Int × Int) × Int × MV
 | []=>([],0,M)
 | l::ls=>if M.gy l=0 then (M.Wh l::((M.gQ l).jO ls).1,((M.gQ l).jO ls).2) else ([],M.gy l,M)
structure alN (b:Nat) (l:Int) (K:KV) (F:List Nat) (M:MV) (w:World) (e:Ending) (w':World):Prop where
 ex:∃ (K':KV) (F':List Nat),e=.returned (.tuple #[chV (M.Wh l),.int .i64 (M.gy l)])/\aZ w' b K' F'/\KM K' (M.gQ l)/\qW K K'/\l9 F w F' w'
theorem Wi (b:Nat) (l:Int) (K:KV) (F:List Nat) (M:MV) (w:World) (h:aZ w b K F) (hm:KM K M) (ht:M.trail.length<=1000000) :
  Calls Tryz.prog 20 #[.pointer (some ⟨b,0,none⟩),.int .i64 l] w fun e w'=>alN b l K F M w e w':=by
 refine (Ku b l K F (fun code K'=>code=M.gy l/\KM K' (M.gQ l)/\qW K K') w h fun z hz=>?_).mono ?_
 ·refine (PI b l K F M z hz hm ht).mono ?_
  rintro e w' ⟨rfl,hk⟩;obtain ⟨K',F',h1,h2,h3,h4,h5⟩:=hk.ex;exact ⟨_,rfl,K',F',h1,h4,h5,rfl,h2,h3⟩
 ·rintro e w' hE
  obtain ⟨code,K',F',rfl,h1,h4,h5,rfl,h2,h3⟩:=hE.ex;refine ⟨K',F',?_,h1,h2,h3,h4,h5⟩;have e1:=hm.live h.ok h.uni;have e2:=h2.live h1.ok h1.uni;unfold MV.Wh chV;rw [e1,e2]
  split <;> rfl
structure Wj (b:Nat) (Ls:List Int) (K:KV) (F:List Nat) (M:MV) (w:World) (e:Ending) (w':World):Prop where
 ex:∃ (v:Value) (K':KV) (F':List Nat),e=.returned (.tuple #[v,.int .i64 (M.jO Ls).2.1])/\w'.ownsRow w.heap.size 46 3 v (M.jO Ls).1.length (oO (M.jO Ls).1)/\(∀ k,v.ownBlock=some k->k∉F')/\aZ w' b K' F'/\KM K' (M.jO Ls).2.2/\qW K K'/\l9 F w F' w'
theorem Ry (b:Nat) (la:Option Addr) (ln lc:Nat) (Ls:List Int) (K:KV) (F:List Nat) (M:MV) (w:World) (h:aZ w b K F) (hm:KM K M) (ht:M.trail.length<=900000) (hL:zV w .i64 la ln Ls) (hln:ln<=1000) (XA:∀ x,la=some x->x.block∉F) :
  Calls Tryz.prog 24 #[.pointer (some ⟨b,0,none⟩),.slice la ln lc] w fun e w'=>Wj b Ls K F M w e w':=by
 obtain ⟨ti,eU,fE,dR,fU⟩:=info_parts Tryz.Kv;have HI:=Lib.hid (And.intro eU (And.intro fE (And.intro dR fU)));have H0:=Lib.hid (And.intro h (And.intro hm ht));have HL:=Lib.hid (And.intro hL XA);have Bv:=hL.len;have HLL:=Lib.hid Bv;clear h hm ht hL eU fE dR fU Bv XA
 go_enter Tryz.func24,Tryz.ntmps24
 go_wp2_with fail
 go_loopg [6,15] ln (fun g s6 s15 wr=>∃ (j:Nat) (K2:KV) (F2:List Nat) (M2:MV) (cs:List (Int × Int × Int)),ln-j=g/\j<=ln/\s15=.int .i64 j/\aZ wr b K2 F2/\KM K2 M2/\qW K K2/\l9 F w F2 wr/\M2.trail.length<=900000+j /\
  wr.ownsRow w.heap.size 46 3 s6 cs.length (oO cs)/\(∀ k,s6.ownBlock=some k->k∉F2)/\cs.length<=j/\Hid (M.jO Ls=(cs++(M2.jO (Ls.drop j)).1,(M2.jO (Ls.drop j)).2)))
 case atStart=>exact ⟨0,K,F,M,[],by omega,by omega,rfl,H0.out.1,H0.out.2.1,qW.refl _,⟨af.refl _ _,Sub.refl _ _⟩,H0.out.2.2,World.ownsRow_nil _ _ _ _,fun k hk=>by simp [Value.ownBlock] at hk,by simp,Lib.hid (by simp)⟩
 case round =>
  obtain ⟨j,K2,F2,M2,cs,rfl,hj,rfl,vU,hm2,A8,hsp,ht2,aC,Eg,EC,HPV⟩:=hrel;obtain ⟨oa,oc,sH,_⟩:=aj aC;subst sH
  by_cases aW:j<ln
  ·obtain ⟨x,hx,hc⟩:=HL.out.1.at_ j aW
   have oz:=(hsp.up.cell (World.block_lt_of_cell? _ _ hc) (by
    have h1:=HL.out.2 x hx
    unfold Addr.add;split <;> exact h1)).trans hc
   subst hx
   have fF:(j:Int)<(ln:Int):=by omega
   have HDR:Hid (Ls.drop j=Ls.getD j 0::Ls.drop (j+1)):=by
    have h1:j<Ls.length:=by rw [HLL.out];exact aW
    show _=_
    rw [List.drop_eq_getElem_cons h1,List.getD_eq_getElem?_getD,List.getElem?_eq_getElem h1];rfl
   clear hc;generalize Ls.getD j 0=l at *;have HTR:=Lib.hid (Wi b l K2 F2 M2 wr vU hm2 (by omega));have HX:=Lib.hid (And.intro vU (And.intro hm2 (And.intro A8 (And.intro hsp (And.intro aC Eg)))));clear vU hm2 A8 hsp aC Eg;go_wp2_with fail;refine HTR.out.mono ?_;rintro e w3 hE;obtain ⟨K3,F3,rfl,SS,hm3,xG,hp3⟩:=hE.ex;have HY:=Lib.hid (And.intro SS (And.intro hm3 (And.intro xG hp3)));obtain ⟨E,hEE⟩ : ∃ E,M2.gy l=E:=⟨_,rfl⟩;obtain ⟨c,Y7⟩ : ∃ c,M2.Wh l=c:=⟨_,rfl⟩;have HE:=Lib.hid (And.intro hEE Y7);rw [hEE,Y7];unfold chV;clear hE SS hm3 xG hp3 hEE Y7 HTR;have aY:=heap_alloc_new w3 (.cells #[.int .i64 c.1,.int .i64 c.2.1,.int .i64 c.2.2] 46 (0,0));have b0:=ae (j:=0) aY rfl;have b1:=ae (j:=1) aY rfl;have b2:=ae (j:=2) aY rfl
   by_cases h0:E=0
   ·subst h0
    have bF:Hid (w3.ownsRow w.heap.size 46 3 (.slice oa cs.length oc) cs.length (oO cs)):=ai HX.out.2.2.2.2.1 fun k hk=>HY.out.2.2.2.up.block k (HX.out.2.2.2.2.1.lt k hk).2 (HX.out.2.2.2.2.2 k hk)
    have mg:Hid (∀ z,z∈[Value.int .i64 c.1,Value.int .i64 c.2.1,Value.int .i64 c.2.2]->z.oneCell'=true):=by
     intro z hz;simp at hz;rcases hz with rfl | rfl | rfl <;> rfl
    clear aY
    have pW:w.heap.size<=((w3.alloc (.cells #[.int .i64 c.1,.int .i64 c.2.1,.int .i64 c.2.2] 46 (0,0))).alloc (.cells #[.int .i64 c.1,.int .i64 c.2.1,.int .i64 c.2.2] 46 (0,0))).heap.size:=by
     have h1:=(HX.out.2.2.2.1.trans HY.out.2.2.2).up.size
     rw [World.size_alloc,World.size_alloc];omega
    go_wp2_with (at_builtin;go_must (refine wpList_append_lies _ rfl (.tmp 29) (.tmp 31) 59 rfl w.heap.size 46 ti _ 3 24 Tryz.underlying59 HI.out.1 HI.out.2.1 HI.out.2.2.1 HI.out.2.2.2 (by rfl) (by decide) _ cs.length (oO cs) rfl ((bF.out.alloc _).alloc _) ⟨_,0,none⟩ 1 1 [.int .i64 c.1,.int .i64 c.2.1,.int .i64 c.2.2] rfl rfl ?c1 mg.out (by omega) (by unfold maxLen;omega) (by omega) pW _ rfl ?_))
    case c1 =>
     have fU:=heap_alloc_new (w3.alloc (.cells #[.int .i64 c.1,.int .i64 c.2.1,.int .i64 c.2.2] 46 (0,0))) (.cells #[.int .i64 c.1,.int .i64 c.2.1,.int .i64 c.2.2] 46 (0,0));rw [World.size_alloc] at fU;exact World.news_of_block fU
    intro g5 cap w5 aK dh bI kF
    have HZ:Hid (aZ w5 b K3 F3/\l9 F w F3 w5/\w5.ownsRow w.heap.size 46 3 (.slice (some ⟨g5,0,none⟩) (cs.length+1) cap) (cs++[c]).length (oO (cs++[c]))/\∀ k,(Value.slice (some ⟨g5,0,none⟩) (cs.length+1) cap).ownBlock=some k->k∉F3):=by
     have u5:af (Value.slice oa cs.length oc).ownBlock.toList w3 w5:=af.grown (((af.refl _ w3).alloc _).alloc _) dh (fun k hk=>.inl (by simp [hk]))
     have bK:∀ k,(Value.slice oa cs.length oc).ownBlock=some k->k∉F3:=fun k hk hm=>by
      rcases HY.out.2.2.2.sub k hm with h | h
      ·exact HX.out.2.2.2.2.2 k hk h
      ·have:=(HX.out.2.2.2.2.1.lt k hk).2;omega
     have h1:=HX.out.2.2.2.1.trans HY.out.2.2.2;refine ⟨HY.out.1.upd u5 (fun k hk hm=>bK k (by simpa using hm) hk),⟨h1.up.then u5 fun k hk=>.inr (HX.out.2.2.2.2.1.lt k (by simpa using hk)).1,h1.sub⟩,?_,fun k hk hm=>?_⟩
     ·rw [List.length_append,List.length_singleton,show oO (cs++[c])=oO cs++[.int .i64 c.1,.int .i64 c.2.1,.int .i64 c.2.2] by simp [oO]]
      exact aK
     ·have dB:g5=k:=by simpa [Value.ownBlock] using hk
      subst dB
      rcases bI with h | h
      ·exact bK _ h hm
      ·have:=HY.out.1.lt _ hm;omega
    clear aK dh bI kF pW b0 b1 b2;go_wp2_with fail
    go_roundg (ln-(j+1))
    case measure=>omega
    case rel =>
     refine ⟨j+1,K3,F3,M2.gQ l,cs++[c],rfl,by omega,by simp,HZ.out.1,HY.out.2.1,HX.out.2.2.1.trans HY.out.2.2.1,HZ.out.2.1,by have:=(MV.DK M2 l).1;omega,HZ.out.2.2.1,HZ.out.2.2.2,by simp;omega,Lib.hid ?_⟩
     have e1:M2.jO (Ls.drop j)=(c::((M2.gQ l).jO (Ls.drop (j+1))).1,((M2.gQ l).jO (Ls.drop (j+1))).2):=by
      rw [HDR.out]
      conv=>lhs;unfold MV.jO
      rw [HE.out.1,if_pos rfl,HE.out.2]
     rw [HPV.out,e1];simp
   ·have hE0:(E == 0)=false:=by simpa using h0
    clear aY
    have tN:Hid (∀ z,af [] w3 z->Wj b Ls K F M w (.returned (.tuple #[.slice oa cs.length oc,.int .i64 E])) z):=fun z u=>by
     have e1:(M2.jO (Ls.drop j))=([],E,M2):=by
      rw [HDR.out];unfold MV.jO;rw [HE.out.1,if_neg h0]
     have e2:M.jO Ls=(cs,E,M2):=by rw [HPV.out,e1];simp
     have e3:M2.gQ l=M2:=MV.Bf (by rw [HE.out.1];exact h0);refine ⟨_,K3,F3,by rw [e2],?_,?_,HY.out.1.upd u (by simp),?_,HX.out.2.2.1.trans HY.out.2.2.1,?_⟩
     ·rw [e2]
      exact ai HX.out.2.2.2.2.1 fun k hk=>by
       have yB:=(HX.out.2.2.2.2.1.lt k hk).2;rw [u.block k (Nat.lt_of_lt_of_le yB HY.out.2.2.2.up.size) (by simp)];exact HY.out.2.2.2.up.block k yB (HX.out.2.2.2.2.2 k hk)
     ·intro k hk hm
      rcases HY.out.2.2.2.sub k hm with h | h
      ·exact HX.out.2.2.2.2.2 k hk h
      ·have:=(HX.out.2.2.2.2.1.lt k hk).2;omega
     ·rw [e2];rw [<- e3];exact HY.out.2.1
     ·have h1:=HX.out.2.2.2.1.trans HY.out.2.2.2
      exact ⟨h1.up.trans (u.mono (by simp)),h1.sub⟩
    go_wp2_with fail;go_ret2;exact tN.out _ ((af.refl _ _).alloc _)
  ·obtain rfl:j=ln:=by omega
   have fF:¬ ((j:Int)<(j:Int)):=by omega
   have tN:Hid (Wj b Ls K F M w (.returned (.tuple #[.slice oa cs.length oc,.int .i64 0])) wr):=by
    have e1:M.jO Ls=(cs,0,M2):=by
     rw [HPV.out,<- HLL.out,List.drop_length];simp [MV.jO]
    exact ⟨_,K2,F2,by rw [e1],by rw [e1];exact aC,Eg,vU,by rw [e1];exact hm2,A8,hsp⟩
   clear vU hm2 A8 hsp aC Eg;go_wp2_with fail;go_ret2;exact tN.out
def lk (a b:Nat):Lit:=.string (keyBytes [.int .u32 a,.int .u32 b])
theorem dP:Keyed Tryz.prog 154:=Keyed.of_law (deep_law_gate laidOut (of_decide_eq_true (by kernel_rfl)) (of_decide_eq_true (by kernel_rfl)) (by kernel_rfl) (by kernel_rfl))
theorem DL {a b:Nat} (h0:a<=4294967295) (h1:b<=4294967295):keyOf Tryz.prog 154 (.agg #[.int .u32 a,.int .u32 b])=some (lk a b):=by
 have hk:Tryz.prog.keyType 154=true:=by kernel_rfl
 obtain ⟨m,hm⟩ : ∃ m,Tryz.prog.types.size=m+1:=⟨Tryz.prog.types.size-1,by have:0<Tryz.prog.types.size:=of_decide_eq_true (by kernel_rfl);omega⟩
 have c40:Tryz.prog.cellsOf 77=1:=by kernel_rfl
 have c44:Tryz.prog.cellsOf 154=2:=by kernel_rfl
 have kl:Tryz.prog.keyLits (m+2) 154 [.int .u32 a,.int .u32 b]=some [.int .u32 a,.int .u32 b]:=by
  unfold Program.keyLits;rw [Tryz.underlying154]
  simp only [c44]
  simp [c40,tX Tryz.underlying77 m (jw h0),tX Tryz.underlying77 m (jw h1)]
 have hf:Value.formed Tryz.prog 154 (.agg #[.int .u32 a,.int .u32 b])=true:=by
  simp [Value.formed,Tryz.underlying154,c44]
 rw [keyOf,Tryz.underlying154]
 show (if (Tryz.prog.keyType 154&&Value.formed Tryz.prog 154 (.agg #[.int .u32 a,.int .u32 b]))=true then Option.map (fun ls=>Lit.string (keyBytes ls)) (Tryz.prog.keyLits (Tryz.prog.types.size+1) 154 [.int .u32 a,.int .u32 b]) else none)=_
 rw [hk,hf,hm];rw [Bool.and_self,if_pos rfl]
 show Option.map (fun ls=>Lit.string (keyBytes ls)) (Tryz.prog.keyLits (m+2) 154 [.int .u32 a,.int .u32 b])=_
 rw [kl];rfl
theorem Wl {a b a' b':Nat} (h0:a<=4294967295) (h1:b<=4294967295) (h0':a'<=4294967295) (h1':b'<=4294967295) (e:lk a b=lk a' b'):a=a'/\b=b':=by
 have h:=dP.inj (DL h0 h1) (by rw [e];exact DL h0' h1')
 simp only [Value.agg.injEq,Array.mk.injEq,List.cons.injEq,Value.int.injEq,true_and,and_true] at h
 omega
theorem Wn (a b:Nat):WideAt.IsKeyLit (lk a b):=trivial
structure ku (Q:List (Nat × Nat)) (D:DM):Prop where
 im:IsMap D
 has:∀ a b:Nat,a<=4294967295->b<=4294967295->(Maps.has D (lk a b)=true↔(a,b)∈Q)
 at_:∀ a b:Nat,a<=4294967295->b<=4294967295->Maps.has D (lk a b)=true->∀ z,D.atKey (lk a b) z=.lit (.int .i64 1)
 dom:∀ k,Maps.has D k=true->∃ a b:Nat,k=lk a b/\a<1048576/\b<1048576
theorem ku.nil:ku [] (.map []):=⟨isMap_empty,fun a b _ _=>by simp [Maps.has],fun a b _ _ h=>by simp [Maps.has] at h,fun k h=>by simp [Maps.has] at h⟩
theorem ku.put {Q:List (Nat × Nat)} {D:DM} {a b:Nat} (h:ku Q D) (ha:a<1048576) (hb:b<1048576):ku (Q++[(a,b)]) (D.put (lk a b) (.lit (.int .i64 1))):=by
 have hl:WideAt.IsKeyLit (lk a b):=trivial
 have inj:∀ x y:Nat,x<=4294967295->y<=4294967295->(x,y)≠(a,b)->lk x y≠lk a b:=fun x y hx hy hne e=>by
  obtain ⟨rfl,rfl⟩:=Wl hx hy (by omega) (by omega) e;exact hne rfl
 refine ⟨h.im.put _ _,fun x y hx hy=>?_,fun x y hx hy hh z=>?_,fun k hk=>?_⟩
 ·by_cases e:(x,y)=(a,b)
  ·cases e;simp [has_put_same h.im hl]
  ·rw [has_put_other (inj x y hx hy e),h.has x y hx hy];simp [e]
 ·by_cases e:(x,y)=(a,b)
  ·cases e;exact atKey_put_same h.im hl _ z
  ·rw [has_put_other (inj x y hx hy e)] at hh
   rw [atKey_put_other (inj x y hx hy e)];exact h.at_ x y hx hy hh z
 ·by_cases e:k=lk a b
  ·exact ⟨a,b,e,ha,hb⟩
  ·rw [has_put_other e] at hk;exact h.dom k hk
theorem Gw (n:Nat) (f:Nat->Nat->Lit):((List.range n).flatMap fun a=>(List.range n).map fun b=>f a b).length=n*n:=by
 rw [List.length_flatMap]
 have:(List.map (fun a=>(List.map (fun b=>f a b) (List.range n)).length) (List.range n))=List.replicate n n:=by
  rw [List.eq_replicate_iff];refine ⟨by simp,fun b hb=>?_⟩;obtain ⟨a,_,rfl⟩:=List.mem_map.1 hb;simp
 rw [this,List.sum_replicate_nat]
theorem uN {Q:List (Nat × Nat)} {D:DM} (h:ku Q D) (hc:Maps.Canon D) (ht:Tidy D):Maps.size D<maxLen:=by
 have:=gm hc (ks:=(List.range 1048576).flatMap fun a=>(List.range 1048576).map fun b=>lk a b) (fun k hk=>by
  obtain ⟨a,b,rfl,ha,hb⟩:=h.dom k hk
  exact List.mem_flatMap.2 ⟨a,List.mem_range.2 ha,List.mem_map.2 ⟨b,List.mem_range.2 hb,rfl⟩⟩) ht
 rw [Gw] at this
 unfold maxLen;omega
def KV.iR (K:KV) (x s:Nat):List (Nat × Nat):=match K.A.list[s]? with | some p=>if p.var=(x:Int) then [(p.lo,p.hi)] else [] | none=>[]
def KV.um (K:KV) (x y s:Nat):List (Nat × Nat):=match K.A.list[s]? with
 | some p=>if p.var=(x:Int)/\(K.vI p.lo=(y:Int)\/K.vI p.hi=(y:Int)) then [((K.part y p.lo).1,(K.part y p.hi).1),((K.part y p.lo).2,(K.part y p.hi).2)] else []
 | none=>[]
theorem DN (b r y:Nat) (K:KV) (T:List DM) (q:aA) (w:World) (h:bV w b K T q) (hr:K.A.tk r=true) :
  Calls Tryz.prog 76 #[.pointer (some ⟨b,0,none⟩),.int .u32 r,.int .i64 y] w fun e w'=>e=.returned (.tuple #[.int .u32 (K.part y r).1,.int .u32 (K.part y r).2,.bool (decide (K.vI r=(y:Int)))])/\af [] w w':=by
 have rF:=h.ok.bZ hr;obtain ⟨p,hp,aH⟩:=ag.aP.1 hr;have HN:=Lib.hid (iF b r K T q p w h.mem (by omega) hp aH);have e1:K.vI r=p.var:=K.jK hp
 have e2:K.part y r=if p.var=(y:Int) then (p.lo,p.hi) else (r,r):=by simp [KV.part,hp]
 rw [e1,e2];clear h hr hp aH e1 e2 rF;generalize p.var=v at *;generalize p.lo=lo at *;generalize p.hi=hi at *
 by_cases hv:v=(y:Int)
 ·have hve:(v == (y:Int))=true:=by simpa using hv
  rw [if_pos hv,decide_eq_true hv]
  have asC:((y:Int) == (y:Int))=true:=by simp
  clear hv
  go_enter Tryz.func76,Tryz.ntmps76
  go_wp2_with fail;refine HN.out.mono ?_;rintro e w1 ⟨rfl,hu⟩;have hb:=heap_alloc_new w1 (.cells #[.int .i64 v,.int .u32 lo,.int .u32 hi] 116 (0,0));have HU:=Lib.hid (hu.alloc (.cells #[.int .i64 v,.int .u32 lo,.int .u32 hi] 116 (0,0)));have x0:=ae (j:=0) hb rfl;have x1:=ae (j:=1) hb rfl;have x2:=ae (j:=2) hb rfl;clear hu hb;go_wp2_with fail
  go_region
  go_wp2_with fail;refine bodyPost_ret (v:=.tuple #[.int .u32 lo,.int .u32 hi,.bool true]) (by simp [results,Tryz.results76,go_sem]) rfl ⟨rfl,HU.out.drew⟩
 ·have hve:(v == (y:Int))=false:=by simpa using hv
  rw [if_neg hv,decide_eq_false hv]
  go_enter Tryz.func76,Tryz.ntmps76
  go_wp2_with fail;refine HN.out.mono ?_;rintro e w1 ⟨rfl,hu⟩;have hb:=heap_alloc_new w1 (.cells #[.int .i64 v,.int .u32 lo,.int .u32 hi] 116 (0,0));have HU:=Lib.hid (hu.alloc (.cells #[.int .i64 v,.int .u32 lo,.int .u32 hi] 116 (0,0)));have x0:=ae (j:=0) hb rfl;clear hu hb;go_wp2_with fail;refine bodyPost_ret (v:=.tuple #[.int .u32 r,.int .u32 r,.bool false]) (by simp [results,Tryz.results76,go_sem]) rfl ⟨rfl,HU.out⟩
end Go.Proofs.YtfkopmhpppeheaaGreat
