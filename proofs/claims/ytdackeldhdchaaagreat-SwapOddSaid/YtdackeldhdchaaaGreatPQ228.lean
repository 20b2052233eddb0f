import Derived.Test.YtdackeldhdchaaaGreatPQ227
import Derived.Test.YtdackeldhdchaaaGreatPQ215
import Derived.Test.YtdackeldhdchaaaGreatPQ27
import Derived.Test.YtdackeldhdchaaaGreatPQ214
import Derived.Test.YtdackeldhdchaaaGreatPQ226
import Derived.Test.YtdackeldhdchaaaGreatPQ225
import Derived.Test.YtdackeldhdchaaaGreatPQ217
import Derived.Test.YtdackeldhdchaaaGreatPQ26
import Derived.Maps.RangeWalk
set_option maxRecDepth 100000
set_option maxHeartbeats 6400000
namespace Go.Proofs.YtdackeldhdchaaaGreat
open Go.RowKit Go.Maps Go.ChangeMaps Go.WideShapes
theorem PIn.start {w w1 w2:World} {n0 b m n c:Nat} {T:List DM} {q:abM} {p:acd} (hn:n0<=w.heap.size) (hk:afF w1 b (KV.new n c) T q) (u1:Upd [] w w1) (s1:Sub [] w (q.all b))
  (hm:aef w2 m (MV.new n c) p (p.all m)) (u2:Upd [] w1 w2) (s2:Sub [] w1 (p.all m)) :
  PIn (w2.alloc (.cells #[.pointer (some ⟨b,0,none⟩),.pointer (some ⟨m,0,none⟩),.slice none 0 0,.slice none 0 0] 44 (0,0))) n0 w2.heap.size b m (.slice none 0 0) (.slice none 0 0) (KV.new n c) (q.all b) (MV.new n c) p [] []:=by
 have ua:Upd [] w2 (w2.alloc (.cells #[.pointer (some ⟨b,0,none⟩),.pointer (some ⟨m,0,none⟩),.slice none 0 0,.slice none 0 0] 44 (0,0))):=(Upd.refl _ _).alloc _
 have k1:∀ k,k∈q.all b->w.heap.size<=k/\k<w1.heap.size:=fun k hk'=>⟨(s1 k hk').resolve_left (by simp),hk.mem.lt k hk'⟩
 have k2:∀ k,k∈p.all m->w1.heap.size<=k/\k<w2.heap.size:=fun k hk'=>⟨(s2 k hk').resolve_left (by simp),hm.lt k hk'⟩
 have h1:=u1.size;have h2:=u2.size;refine ⟨heap_alloc_new _ _,⟨⟨T,q,hk.upd (u2.trans ua) (by simp),rfl⟩,?_,fun k a1 a2=>?_,World.ownsRow_nil _ _ _ _,fun k hk'=>by simp [Value.ownBlock] at hk',TLs.nil _ _ _⟩,⟨fun h=>?_,fun h=>?_⟩,fun k hk'=>?_,?_,fun k hk'=>?_⟩
 ·have hm':=hm.keep0 ua
  obtain ⟨cs,q1,q2,_⟩:=hm'.hs.ex;exact ⟨hm'.blk,hm'.os,⟨cs,q1,q2,fun i t c h=>by simp [MV.new] at h⟩,hm'.ts,hm'.ne,fun k hk'=>List.mem_append.2 (.inr hk')⟩
 ·have:=k1 k a1;have:=k2 k a2;omega
 ·have:=k1 _ h;omega
 ·have:=k2 _ h;omega
 ·rcases hk' with h | h | h | h | h
  ·have:=k1 k h;omega
  ·have:=k2 k h;omega
  ·omega
  ·simp [Value.ownBlock] at h
  ·simp [Value.ownBlock] at h
 ·have:=ua.size;omega
 ·have hb1:=(k1 b (abM.mem.2 (.inl rfl))).2
  rcases hk' with h | h | h
  ·omega
  ·simp [Value.ownBlock] at h
  ·simp [Value.ownBlock] at h
theorem PIn.model3 {w w1:World} {n0 a b m:Nat} {rv tv:Value} {K:KV} {F:List Nat} {M M':MV} {p:acd} {refs:List Nat} {tabs:List TV} (h:PIn w n0 a b m rv tv K F M p refs tabs) (e:agq m p (F++p.all m) M' w w1) :
  ∃ p',PIn w1 n0 a b m rv tv K F M' p' refs tabs/\Fro n0 w w1/\Upd (p.all m) w w1/\∀ c t,TIn w (F++p.all m) c t->TIn w1 (F++p'.all m) c t:=by
 have hbl:=h.bl;obtain ⟨p',hm,u,s⟩:=h.mem.model e;refine ⟨p',⟨by rw [u.block a (aa4 h.blk) h.na.2];exact h.blk,hm,⟨h.na.1,fun hm=>?_⟩,fun k hk=>?_,Nat.le_trans h.bl u.size,h.bk⟩,Fro.of u fun k hk=>h.lo k (.inr (.inl hk)),u,fun c t ht=>ht.step u s⟩
 ·rcases s a hm with h1 | h1
  ·exact h.na.2 h1
  ·have:=aa4 h.blk;omega
 ·rcases hk with hk | hk | hk
  ·exact h.lo k (.inl hk)
  ·rcases s k hk with h1 | h1
   ·exact h.lo k (.inr (.inl h1))
   ·omega
  ·exact h.lo k (.inr (.inr hk))
theorem aHZ {w7 w x:World} {B:Nat} {S:List Nat} {u v:Value} (hB:B∉S/\B<w7.heap.size) (h1:Upd [] w7 w) (h2:Upd S w x) (b0:w7.cell? ⟨B,0,none⟩=some u) (b1:w7.cell? ⟨B,1,none⟩=some v):x.cell? ⟨B,0,none⟩=some u/\x.cell? ⟨B,1,none⟩=some v :=
 have hb:=Nat.lt_of_lt_of_le hB.2 h1.size
 ⟨(h2.cell hb hB.1).trans (h1.cell0 b0),(h2.cell hb hB.1).trans (h1.cell0 b1)⟩
structure aSS (n c:Nat) (L:List TV) (Ls:List Int) (w:World) (e:Ending) (w':World):Prop where
 ex:∃ (a b m:Nat) (rv tv:Value) (K:KV) (F:List Nat) (p:acd) (refs:List Nat),e=.returned (.tuple #[.pointer (some ⟨a,0,none⟩),.bool true]) /\
  PIn w' (w.heap.size+1) a b m rv tv K F ((aqQ n c L).1.exchs Ls) p refs (aqQ n c L).2/\aq7 K ((aqQ n c L).1.exchs Ls) refs (aqQ n c L).2/\axF K refs/\K.vars=n/\((aqQ n c L).1.exchs Ls).held.length<=40/\((aqQ n c L).1.exchs Ls).trail.length<=Ls.length/\Upd [] w w'
theorem ay6 (n c:Nat) (lv:Value) (L:List TV) (la:Option Addr) (ln lc:Nat) (Ls:List Int) (w:World) (hn:1<=n/\n<=8) (hc:2<=c/\c<=1048576) (hL:aq8 w lv L) (hl:L.length<=40) (hok:∀ t,t∈L->t.Ok/\t.n=n) (hS:alg w .i64 la ln Ls) (hls:ln<=200) :
  Calls Tryz.prog 14 #[.agg #[.int .i64 n,.int .i64 c,lv,.slice la ln lc]] w fun e w'=>aSS n c L Ls w e w':=by
 obtain ⟨A,cp,rfl,hmx,_⟩:=hL.ex;obtain ⟨N,hN⟩ : ∃ N,L.length=N:=⟨_,rfl⟩;have HN:=Lib.hid hN;have HL:=Lib.hid hL;have HS:=Lib.hid hS;have HOK:=Lib.hid hok;rw [hN] at hl hmx ⊢;have HB:=Lib.hid (heap_alloc_new w (.cells #[.int .i64 n,.int .i64 c,.slice A N cp,.slice la ln lc] 25 (0,0)));obtain ⟨w0,hw0⟩ : ∃ w0,w.alloc (.cells #[.int .i64 n,.int .i64 c,.slice A N cp,.slice la ln lc] 25 (0,0))=w0:=⟨_,rfl⟩
 have hu0:Upd [] w w0:=by rw [<- hw0];exact (Upd.refl _ _).alloc _
 have hz0:w0.heap.size=w.heap.size+1:=by rw [<- hw0,World.size_alloc]
 rw [hw0] at HB;have HU0:=Lib.hid hu0;have HZ0:=Lib.hid hz0;have HW0:=Lib.hid hw0
 have HCL:Hid (∀ z,Upd [] w0 z->z.cell? ⟨w.heap.size,0,none⟩=some (.int .i64 n)/\z.cell? ⟨w.heap.size,1,none⟩=some (.int .i64 c)/\z.cell? ⟨w.heap.size,2,none⟩=some (.slice A N cp)/\z.cell? ⟨w.heap.size,3,none⟩=some (.slice la ln lc)):=fun z u=>by
  have hb:=(u.block _ (by rw [hz0];omega) (by simp)).trans HB.out;exact ⟨aac hb rfl,aac hb rfl,aac hb rfl,aac hb rfl⟩
 obtain ⟨hn1,hn8⟩:=hn;obtain ⟨hc2,hcm⟩:=hc;clear hL hS hok hw0 hu0 hz0 hN
 go_enter Tryz.func14,Tryz.ntmps14
 go_wp2_with fail;rw [HW0.out];obtain ⟨x0,x1,_,_⟩:=HCL.out _ (Upd.refl _ _);go_wp2_with fail;refine (aH0 n c _ hn1 (by omega) hc2 hcm).mono ?_;rintro e w1 ⟨b,T,q,rfl,hK1,hu1,hs1⟩;have HK1:=Lib.hid (And.intro hK1 (And.intro hu1 hs1));obtain ⟨y0,y1,_,_⟩:=HCL.out _ hu1;clear hK1 hu1 hs1 x0 x1;go_wp2_with fail;refine (azX n c _ (by omega) hcm).mono ?_;rintro e w2 hE;obtain ⟨m,p,rfl,_,hM,hu2,hs2⟩:=hE.ex;have HST:=Lib.hid (PIn.start (n0:=w0.heap.size) (Nat.le_refl _) HK1.out.1 HK1.out.2.1 HK1.out.2.2 hM hu2 hs2);have HU2:=Lib.hid (HK1.out.2.1.trans hu2);clear hE hM hu2 hs2 y0 y1;obtain ⟨_,_,z2,_⟩:=HCL.out (w2.alloc (.cells #[.pointer (some ⟨b,0,none⟩),.pointer (some ⟨m,0,none⟩),.slice none 0 0,.slice none 0 0] 44 (0,0))) (HU2.out.trans ((Upd.refl _ _).alloc _));go_wp2_with fail;obtain ⟨wS,hwS⟩ : ∃ wS,w2.alloc (.cells #[.pointer (some ⟨b,0,none⟩),.pointer (some ⟨m,0,none⟩),.slice none 0 0,.slice none 0 0] 44 (0,0))=wS:=⟨_,rfl⟩;obtain ⟨a,ha⟩ : ∃ a,w2.heap.size=a:=⟨_,rfl⟩
 have hus:Upd [] w0 wS:=by rw [<- hwS];exact HU2.out.trans ((Upd.refl _ _).alloc _)
 rw [hwS,ha] at HST;have HUS:=Lib.hid hus
 have HCS:Hid (∀ z,Fro w0.heap.size wS z->(z.cell? ⟨w.heap.size,2,none⟩=some (.slice A N cp)/\z.cell? ⟨w.heap.size,3,none⟩=some (.slice la ln lc))/\Upd [] w0 z):=fun z f=>by
  obtain ⟨_,_,h2,h3⟩:=HCL.out wS hus
  have hlt:w.heap.size<w0.heap.size:=by rw [HZ0.out];omega
  exact ⟨⟨f.cell h2 hlt,f.cell h3 hlt⟩,f.upd hus (Nat.le_refl _)⟩
 have HI0:Hid (aq7 (KV.new n c) (MV.new n c) [] []/\axF (KV.new n c) []/\(KV.new n c).vars=n):=by
  exact ⟨⟨⟨Agr.new hn1 (by omega) hc2 hcm,.new hn8 hcm,rfl,MV.TrFit.nil rfl⟩,rfl,by simp,by simp,by simp⟩,fun x _=>by simp [KV.hold,KV.new],rfl⟩
 try rw [hwS]
 try rw [ha]
 clear hus z2 hwS ha HK1
 go_loopg [39] N (fun g s39 wr=>∃ (i:Nat) (rv tv:Value) (K:KV) (F:List Nat) (M:MV) (p:acd) (refs:List Nat) (tabs:List TV),N-i=g/\i<=N/\s39=.int .i64 i/\PIn wr w0.heap.size a b m rv tv K F M p refs tabs/\aq7 K M refs tabs/\axF K refs/\K.vars=n /\
  refs.length<=i/\M.held.length<=i/\M.trail=[]/\Hid ((M,tabs)=aqQ n c (L.take i))/\Fro w0.heap.size wS wr)
 case atStart=>exact ⟨0,_,_,_,_,_,_,_,_,by omega,by omega,rfl,HST.out,HI0.out.1,HI0.out.2.1,HI0.out.2.2,by simp,by simp [MV.new],rfl,Lib.hid (by simp [aqQ]),Fro.refl _ _⟩
 case round =>
  obtain ⟨i,rv,tv,K,F,M,p,refs,tabs,rfl,hi,rfl,hPI,hLG,hPC,hvr,hrl,hhl,htr,HBM,hF⟩:=hrel;obtain ⟨⟨z2,z3⟩,huw⟩:=HCS.out _ hF
  by_cases hlt:i<N
  ·obtain ⟨t,ht⟩ : ∃ t,L[i]?=some t:=⟨_,List.getElem?_eq_getElem (by have:=HN.out;omega)⟩
   obtain ⟨A',cp',e1,_,hat⟩:=(HL.out.keep0 (HU0.out.trans huw)).ex
   injection e1 with e1 _ e1c
   subst e1 e1c;obtain ⟨x,d,rfl,c0,c1,NN,hT⟩:=hat i t ht;obtain ⟨ta,tc,rfl,_⟩:=ahV hT.row;obtain ⟨tok,ttn⟩:=HOK.out t (List.mem_of_getElem? ht)
   have hil:(i:Int)<(N:Int):=by omega
   have hTZ:TIn wr (F++p.all m) (.slice ta t.ws.length tc) t:=by
    obtain ⟨A2,cp2,e2,_,aqP⟩:=(HL.out.keep0 HU0.out).ex
    injection e2 with e2 _ _
    subst e2;obtain ⟨x2,d2,e3,_,q2,N2,hT2⟩:=aqP i t ht
    injection e3 with e3
    subst e3;have h3:=huw.cell0 q2;rw [c1] at h3
    injection h3 with h3
    subst h3
    have hlo:∀ k,k∈F++p.all m->w0.heap.size<=k:=fun k hk=>hPI.lo k (by rcases List.mem_append.1 hk with h | h;exact .inl h;exact .inr (.inl h))
    exact TIn.keep0 ⟨tok,hT2.row.other ⟨b,List.mem_append.2 (.inl hPI.mem.ker.bF)⟩ (fun k hk=>.inr (hlo k hk)),fun k hk hm=>by
     have h1:=(hT2.row.lt k hk).2;have h2:=hlo k hm
     omega⟩ huw
   have hbx:=heap_alloc_new wr (.cells #[.int .i64 n,.slice ta t.ws.length tc] 121 (0,0));have hu6:Upd [] wr (wr.alloc (.cells #[.int .i64 n,.slice ta t.ws.length tc] 121 (0,0))):=(Upd.refl _ _).alloc _;obtain ⟨W,hW⟩ : ∃ W,t.ws.length=W:=⟨_,rfl⟩;have HWL:=Lib.hid hW;rw [ttn] at c0;rw [hW,Addr.add_succ' _ 0] at c1;rw [hW] at hbx hu6
   simp only [Nat.zero_add] at c1
   obtain ⟨w6,hw6⟩ : ∃ w6,wr.alloc (.cells #[.int .i64 n,.slice ta W tc] 121 (0,0))=w6:=⟨_,rfl⟩;rw [hw6] at hbx hu6;have HW6:=Lib.hid hw6
   have HPM:Hid (∀ k,k∈p.all m->k<wr.heap.size):=fun k hk=>hPI.mem.mod.lt k hk
   have HTZ:=Lib.hid (hTZ.keep0 hu6);have aKw:=hPI.keep0 hu6;have hmk:=aDi b K.vars K F F (K.SubN t.fn) (.slice ta t.ws.length tc) t 0 w6 aKw.mem.ker (fun k hk=>aKw.mem.ker.lt k hk) (fun _ h=>h) (HTZ.out.less ⟨b,aKw.mem.ker.bF⟩) (ttn.trans hvr.symm) (by omega) (by omega) (fun y=>by have:=hPC.le hPI.mem.ker.ok y;omega) (fun _ h=>h);unfold aeH at hmk;rw [ttn,hW] at hmk;have HMK:=Lib.hid hmk;have hwB:wr.heap.size<w6.heap.size:=aa4 hbx;have HB6:=Lib.hid hwB
   have HXB:Hid (∀ z,Upd F w6 z->z.cell? ⟨wr.heap.size,0,none⟩=some (.int .i64 n)/\z.cell? ⟨wr.heap.size,1,none⟩=some (.slice ta W tc)):=fun z u=>by
    have hnF:wr.heap.size∉F:=fun hm=>by have:=hPI.mem.ker.lt _ hm;omega
    have hb:=(u.block _ hwB hnF).trans hbx;exact ⟨aac hb rfl,aac hb rfl⟩
   have HX:=Lib.hid (And.intro aKw (And.intro hLG (And.intro hPC (And.intro hvr (And.intro htr (hF.trans (Fro.of0 hu6)))))));have HT:=Lib.hid (And.intro tok (And.intro ttn ht));obtain ⟨b0,b1⟩:=HXB.out w6 (Upd.refl _ _);clear hPI hLG hPC hvr htr hF huw hat hT hTZ hu6 hw6 aKw hmk hbx hW ht tok ttn z2 z3 hwB;go_wp2_with fail;rw [HW6.out];go_wp2_with fail;refine HMK.out.mono ?_;rintro e w7 hE;obtain ⟨r,code,K7,F7,rfl,hR,hK7,hu7,hs7,aSU⟩:=hE.ex;have HK7:=Lib.hid (aP4.of HX.out.2.1.km HX.out.1.mem.ker.ok HX.out.1.mem.ker.uni hK7.ok hK7.uni HT.out.1 (HT.out.2.1.trans HX.out.2.2.2.1.symm) (by omega) (fun y=>by have:=HX.out.2.2.1.le HX.out.1.mem.ker.ok y;omega) HX.out.2.2.2.2.1 (aSU (HX.out.2.1.km.tr.trans HX.out.2.2.2.2.1)) hR);obtain ⟨hP7,hF7⟩:=HX.out.1.kernel hK7 hu7 hs7
   have aM6:TIn w6 (F7++p.all m) (.slice ta t.ws.length tc) t:=HTZ.out.apart (fun k hk=>by
    rcases List.mem_append.1 hk with h | h
    ·exact (hs7 k h).imp (fun h=>List.mem_append.2 (.inl h)) id
    ·exact .inl (List.mem_append.2 (.inr h)))
   have aSW:Hid (TIn w7 (F7++p.all m) (.slice ta t.ws.length tc) t):=⟨HT.out.1,aM6.row.kp fun k hk=>hu7.block k (aM6.row.lt k hk).2 fun hm=>HTZ.out.fr k hk (List.mem_append.2 (.inl hm)),aM6.fr⟩;clear aM6
   have aWX:Hid (∀ z,Upd [] w7 z->z.cell? ⟨wr.heap.size,0,none⟩=some (.int .i64 n)/\z.cell? ⟨wr.heap.size,1,none⟩=some (.slice ta W tc)):=fun z u=>HXB.out z (hu7.trans (u.mono (by simp)))
   have HQ7:=Lib.hid (And.intro hP7 (And.intro (HX.out.2.2.2.2.2.trans hF7) (HX.out.2.2.2.1.symm ▸ HK7.out.ext.vr)));obtain ⟨_,k1,_,_⟩:=hP7.cells;obtain ⟨b0,b1⟩:=aWX.out w7 (Upd.refl _ _)
   have HAN:Hid (∀ z,Upd [] w7 z->Calls Tryz.prog 53 #[.pointer (some ⟨m,0,none⟩),.agg #[.int .i64 n,.slice ta W tc]] z fun e w'=>e=.returned (.int .i64 code)/\agq m p (F7++p.all m) (M.ans t) z w'):=fun z u=>by
    have hz:=HQ7.out.1.keep0 u
    have h1:=aCF m M p (F7++p.all m) (.slice ta t.ws.length tc) t z hz.mem.mod hz.mem.z HX.out.2.1.km.fit (aSW.out.keep0 u) (by rw [HT.out.2.1,HX.out.2.1.km.agr.same.n,HX.out.2.2.2.1]) (fun v hv=>by
     obtain ⟨_,_,s,_,_,h2,_⟩:=HX.out.2.1.km.agr.hl v.1 v.2 hv;have h3:=HX.out.2.2.1.le HX.out.1.mem.ker.ok s
     omega)
    unfold aeH at h1;rw [HT.out.2.1,HWL.out,<- HK7.out.ce] at h1;exact h1
   have aSX:code=0\/code=9:=by
    rcases hR with ⟨h,_⟩ | ⟨h,_⟩
    ·exact .inl h
    ·exact .inr h
   have aWY:=Lib.hid aSX;have HNB:Hid (wr.heap.size∉p.all m/\wr.heap.size<w7.heap.size):=⟨fun hm=>by have h1:=HPM.out _ hm;omega,Nat.lt_of_lt_of_le HB6.out hu7.size⟩;clear hE hR hK7 hu7 hs7 aSU hP7 hF7 HMK aSX;go_wp2_with fail
   go_region_held3 (fun z=>z.cell? ⟨a,1,none⟩=some (.pointer (some ⟨m,0,none⟩))/\z.cell? ⟨wr.heap.size,0,none⟩=some (.int .i64 n)/\z.cell? ⟨wr.heap.size,1,none⟩=some (.slice ta W tc)) (first | exact ⟨k1,b0,b1⟩ | exact HQ8.out.1) (first
    | (go_at_call 53;refine (HAN.out _ (Upd.refl _ _).drew).mono ?_;rintro e w8 ⟨rfl,hm⟩;obtain ⟨p',hP8,hF8,hu8,hT8⟩:=(HQ7.out.1.keep0 (Upd.refl [] w7).drew).model3 hm;have HQ8:=Lib.hid (And.intro (And.intro hP8.cells.2.1 (aHZ HNB.out ((Upd.refl [] w7).drew) hu8 b0 b1)) (And.intro hP8 (And.intro ((Fro.of0 (Upd.refl [] w7).drew).trans hF8) hT8)));clear hm hP8 hF8 hu8 hT8))
   obtain ⟨k18,b08,b18⟩:=HQ8.out.1
   rcases aWY.out with rfl | rfl
   ·have hE0:M.ansE t=0:=HK7.out.ce.symm
    have hTK:=aHU w0.heap.size a b m rv tv K7 F7 (M.ans t) p' refs tabs r (.slice ta t.ws.length tc) t w8 HQ8.out.2.1 (HX.out.2.1.ext HX.out.1.mem.ker.ok HK7.out.ext HK7.out.km) (HQ8.out.2.2.2 _ _ (aSW.out.keep0 (Upd.refl _ _).drew)) (HT.out.2.1.trans HQ7.out.2.2.symm) (HK7.out.yes rfl).1;unfold aeH at hTK;rw [HT.out.2.1,HWL.out] at hTK;have HTK:=Lib.hid hTK;have HE0:=Lib.hid hE0;clear hTK hE0;go_wp2_with fail;refine HTK.out.mono ?_;rintro e w9 hE;obtain ⟨rv',tv',rfl,hP9,hF9⟩:=hE.ex;have HQ9:=Lib.hid (And.intro hP9 hF9);clear hE hP9 hF9;go_wp2_with fail
    go_roundg (N-(i+1))
    case measure=>omega
    case rel =>
     refine ⟨i+1,rv',tv',K7,F7,M.ans t,p',refs++[r],tabs++[t],rfl,by omega,by simp,HQ9.out.1,?_,HX.out.2.2.1.push (HK7.out.yes rfl).2,HQ7.out.2.2,by simp;omega,by have:=HK7.out.hl;omega,HK7.out.tr,Lib.hid ?_,(HQ7.out.2.1.trans HQ8.out.2.2.1).trans HQ9.out.2⟩
     ·exact (HX.out.2.1.ext HX.out.1.mem.ker.ok HK7.out.ext HK7.out.km).push (by omega) HT.out.1 (HT.out.2.1.trans HQ7.out.2.2.symm) (HK7.out.yes rfl).1
     ·rw [aBQ HT.out.2.2,<- HBM.out]
      exact Prod.ext (by rw [awW]) (by rw [awZ,if_pos HE0.out])
   ·have hE9:M.ansE t≠0:=fun h=>by have:=HK7.out.ce;omega
    have HE9:=Lib.hid hE9;clear hE9;go_wp2_with fail
    go_roundg (N-(i+1))
    case measure=>omega
    case rel =>
     refine ⟨i+1,rv,tv,K7,F7,M.ans t,p',refs,tabs,rfl,by omega,by simp,HQ8.out.2.1,HX.out.2.1.ext HX.out.1.mem.ker.ok HK7.out.ext HK7.out.km,fun x hx=>by rw [HK7.out.no (by decide)];exact HX.out.2.2.1 x hx,HQ7.out.2.2,by omega,by have:=HK7.out.hl;omega,HK7.out.tr,Lib.hid ?_,HQ7.out.2.1.trans HQ8.out.2.2.1⟩;rw [aBQ HT.out.2.2,<- HBM.out];exact Prod.ext (by rw [awW]) (by rw [awZ,if_neg HE9.out])
  ·obtain rfl:i=N:=by omega
   have hil:¬ ((i:Int)<(i:Int)):=by omega
   have hBM:(M,tabs)=aqQ n c L:=by
    have h1:=HBM.out;rw [<- HN.out,List.take_length] at h1;exact h1
   have HBE:=Lib.hid hBM;have HX:=Lib.hid (And.intro hPI (And.intro hLG (And.intro hPC (And.intro hvr (And.intro htr hF)))));clear hPI hLG hPC hvr htr hF huw hBM HBM;go_wp2_with fail
   go_loopg [73] ln (fun g s73 wx=>∃ (j:Nat) (K2:KV) (F2:List Nat) (M2:MV) (p2:acd),ln-j=g/\j<=ln/\s73=.int .i64 j/\PIn wx w0.heap.size a b m rv tv K2 F2 M2 p2 refs tabs/\aq7 K2 M2 refs tabs/\axF K2 refs/\K2.vars=n /\
    M2.held.length<=40/\M2.trail.length<=j/\Hid (M2=M.exchs (Ls.take j))/\Fro w0.heap.size wS wx)
   case atStart=>exact ⟨0,K,F,M,p,by omega,by omega,rfl,HX.out.1,HX.out.2.1,HX.out.2.2.1,HX.out.2.2.2.1,by omega,by rw [HX.out.2.2.2.2.1];simp,Lib.hid (by simp [MV.exchs]),HX.out.2.2.2.2.2⟩
   case round =>
    obtain ⟨j,K2,F2,M2,p2,rfl,hj,rfl,hPI,hLG,hPC,hvr,hh2,htl,HEX,hF⟩:=hrel;obtain ⟨_,huw⟩:=HCS.out _ hF
    by_cases hjt:j<ln
    ·obtain ⟨y,hy,hcy⟩:=HS.out.at_ j hjt
     subst hy;have hcr:=(HU0.out.trans huw).cell0 hcy
     have hjl:(j:Int)<(ln:Int):=by omega
     have HLJ:Hid (Ls.getD j 0=Ls.getD j 0/\j<Ls.length):=⟨rfl,by rw [HS.out.len];exact hjt⟩;have HSU:Hid ((M.exchs (Ls.take j)).exch (Ls.getD j 0)=M.exchs (Ls.take (j+1))):=(MV.exchs_succ (by rw [HS.out.len];exact hjt)).symm;clear hcy HLJ;generalize Ls.getD j 0=l at *;have HKX:=Lib.hid (aGQ b l K2 F2 M2 wr.drew (hPI.mem.ker.upd (Upd.refl [] wr).drew (by simp)) hLG.km (by omega));obtain ⟨E,hEE⟩ : ∃ E,M2.exchE l=E:=⟨_,rfl⟩;rw [hEE] at HKX;have HEE:=Lib.hid hEE;obtain ⟨_,k1,_,_⟩:=hPI.cells;have HX2:=Lib.hid (And.intro hPI (And.intro hLG (And.intro hPC (And.intro hvr hF))))
     have hzz:∀ x y:Int,(x == x)=true:=fun x _=>by simp
     clear hPI hLG hPC hvr hF huw hEE;go_wp2_with fail
     go_region_held3 (fun x=>x.cell? ⟨a,1,none⟩=some (.pointer (some ⟨m,0,none⟩))) (first | exact k1 | exact HQ.out.2.2.1 | exact HQ2.out.1) (first
      | (go_at_call 27;refine HKX.out.mono ?_;rintro e w5 ⟨rfl,hk⟩;obtain ⟨K',F',hK',hkm,hst,hu,hs⟩:=hk.ex;obtain ⟨hP5,hF5⟩:=(HX2.out.1.keep0 (Upd.refl [] wr).drew).kernel hK' hu hs;have HQ:=Lib.hid (And.intro hP5 (And.intro ((Fro.of0 (Upd.refl [] wr).drew).trans hF5) (And.intro hP5.cells.2.1 (And.intro hkm hst))));clear hk hK' hkm hst hu hs hP5 hF5)
      | (go_at_call 55;refine (ayD m M2 p2 (F'++p2.all m) l _ HQ.out.1.mem.mod HQ.out.1.mem.z HX2.out.2.1.km.fit (HX2.out.2.1.km.len HX2.out.1.mem.ker.ok) (by omega)).mono ?_;rintro e w6 hE;obtain ⟨rfl,hm⟩:=hE.ex;rw [HEE.out];obtain ⟨p',hP6,hF6,_,_⟩:=HQ.out.1.model3 hm;have HQ2:=Lib.hid (And.intro hP6.cells.2.1 (And.intro hP6 hF6));clear hE hm hP6 hF6))
     go_wp2_with fail
     go_roundg (ln-(j+1))
     case measure=>omega
     case rel =>
      obtain ⟨l1,l2⟩:=HX2.out.2.1.stay HX2.out.2.2.1 HQ.out.1.mem.ker.ok HQ.out.2.2.2.2 HQ.out.2.2.2.1;obtain ⟨e1,e2⟩:=MV.exch_trail M2 l;exact ⟨j+1,K',F',M2.exch l,p',rfl,by omega,by simp,HQ2.out.2.1,l1,l2,HQ.out.2.2.2.2.vr.trans HX2.out.2.2.2.1,by rw [e2];exact hh2,by omega,Lib.hid (by rw [<- HSU.out,<- HEX.out]),(HX2.out.2.2.2.2.trans HQ.out.2.1).trans HQ2.out.2.2⟩
    ·obtain rfl:j=ln:=by omega
     have hjl:¬ ((j:Int)<(j:Int)):=by omega
     have hME:M2=(aqQ n c L).1.exchs Ls:=by
      have h1:=HEX.out;rw [<- HS.out.len,List.take_length] at h1;rw [h1,<- HBE.out]
     have hTB:tabs=(aqQ n c L).2:=by rw [<- HBE.out]
     have akU:Hid (aSS n c L Ls w (.returned (.tuple #[.pointer (some ⟨a,0,none⟩),.bool true])) wr):=by
      refine ⟨a,b,m,rv,tv,K2,F2,p2,refs,rfl,?_,?_,hPC,hvr,?_,?_,HU0.out.trans huw⟩
      ·rw [<- hME,<- hTB,<- HZ0.out];exact hPI
      ·rw [<- hME,<- hTB];exact hLG
      ·rw [<- hME];exact hh2
      ·rw [<- hME,HS.out.len];exact htl
     clear hPI hLG hPC hvr hF huw hME hTB;go_wp2_with fail;go_ret2;exact akU.out
theorem ch3 {x:World} {B:Nat} {y0 y1 y2:Value} {t:TypeId} (h:x.heap[B]?=some (.cells #[y0,y1,y2] t (0,0))) (v0 v1 v2:Value) :
  (x.cell? ⟨B,0,none⟩=some y0/\x.cell? ⟨B,1,none⟩=some y1/\x.cell? ⟨B,2,none⟩=some y2/\x.frozen? ⟨B,0,none⟩=false/\x.frozen? ⟨B,1,none⟩=false/\x.frozen? ⟨B,2,none⟩=false) /\
  ((x.setCell ⟨B,0,none⟩ v0).cell? ⟨B,1,none⟩=some y1/\(x.setCell ⟨B,0,none⟩ v0).frozen? ⟨B,1,none⟩=false) /\
  (((x.setCell ⟨B,0,none⟩ v0).setCell ⟨B,1,none⟩ v1).cell? ⟨B,2,none⟩=some y2/\((x.setCell ⟨B,0,none⟩ v0).setCell ⟨B,1,none⟩ v1).frozen? ⟨B,2,none⟩=false) /\
  ((((x.setCell ⟨B,0,none⟩ v0).setCell ⟨B,1,none⟩ v1).setCell ⟨B,2,none⟩ v2).cell? ⟨B,0,none⟩=some v0/\(((x.setCell ⟨B,0,none⟩ v0).setCell ⟨B,1,none⟩ v1).setCell ⟨B,2,none⟩ v2).cell? ⟨B,1,none⟩=some v1/\(((x.setCell ⟨B,0,none⟩ v0).setCell ⟨B,1,none⟩ v1).setCell ⟨B,2,none⟩ v2).cell? ⟨B,2,none⟩=some v2):=by
 have h0:=abV (j:=0) h v0;have h1:=abV (j:=1) h0 v1;have h2:=abV (j:=2) h1 v2;exact ⟨⟨aac h rfl,aac h rfl,aac h rfl,abq 0 h,abq 1 h,abq 2 h⟩,⟨aac h0 rfl,abq 1 h0⟩,⟨aac h1 rfl,abq 2 h1⟩,aac h2 rfl,aac h2 rfl,aac h2 rfl⟩
theorem aCH {S:List Nat} {w x:World} {B:Nat} {v0 v1 v2:Value} (u:Upd S w x) (h:w.heap.size<=B):Upd S w (((x.setCell ⟨B,0,none⟩ v0).setCell ⟨B,1,none⟩ v1).setCell ⟨B,2,none⟩ v2) :=
 ((u.setCell (p:=⟨B,0,none⟩) (.inr h) _).setCell (p:=⟨B,1,none⟩) (.inr h) _).setCell (p:=⟨B,2,none⟩) (.inr h) _
structure ExR (b:Nat) (F:List Nat) (R:Int->KV->Prop) (w:World) (code:Int) (w':World):Prop where
 ex:∃ (K':KV) (F':List Nat),ad1 w' b K' F'/\Upd F w w'/\Sub F w F'/\R code K'
structure aP9 (b:Nat) (l:Int) (K:KV) (F:List Nat) (R:Int->KV->Prop) (w:World) (e:Ending) (w':World):Prop where
 ex:∃ (code:Int) (K':KV) (F':List Nat),e=.returned (.tuple #[if code=0 then .agg #[.int .i64 l,.int .i64 ((K.A.used:Int)-2),.int .i64 ((K'.A.used:Int)-2)] else .agg #[.int .i64 0,.int .i64 0,.int .i64 0],.int .i64 code])/\ad1 w' b K' F'/\Upd F w w'/\Sub F w F'/\R code K'
theorem aKz (b:Nat) (l:Int) (K:KV) (F:List Nat) (R:Int->KV->Prop) (w:World) (h:ad1 w b K F)
  (hx:∀ z,ad1 z b K F->Calls Tryz.prog 27 #[.pointer (some ⟨b,0,none⟩),.int .i64 l] z fun e w'=>∃ code:Int,e=.returned (.int .i64 code)/\ExR b F R z code w') :
  Calls Tryz.prog 18 #[.pointer (some ⟨b,0,none⟩),.int .i64 l] w fun e w'=>aP9 b l K F R w e w':=by
 have HK:=Lib.hid h;have HX:=Lib.hid hx;clear h hx
 go_enter Tryz.func18,Tryz.ntmps18
 go_wp2_with fail;refine (aCp b K F _ (HK.out.upd ((Upd.refl [] w).alloc _) (by simp))).mono ?_;rintro e w1 ⟨rfl,rfl⟩;go_wp2_with fail;have HB1:=Lib.hid (heap_alloc_new (w.alloc (.cells #[.int .i64 0,.int .i64 0,.int .i64 0] 46 (0,0))) (.cells #[.int .i64 l,.int .i64 ((K.A.used:Int)-2),.int .i64 0] 46 (0,0)))
 have HB0:Hid (((w.alloc (.cells #[.int .i64 0,.int .i64 0,.int .i64 0] 46 (0,0))).alloc (.cells #[.int .i64 l,.int .i64 ((K.A.used:Int)-2),.int .i64 0] 46 (0,0))).heap[w.heap.size]?=some (.cells #[.int .i64 0,.int .i64 0,.int .i64 0] 46 (0,0))) :=
  (Below.heap_alloc _ _ _ (aa4 (heap_alloc_new _ _))).trans (heap_alloc_new _ _)
 have HU:=Lib.hid (((Upd.refl [] w).alloc (.cells #[.int .i64 0,.int .i64 0,.int .i64 0] 46 (0,0))).alloc (.cells #[.int .i64 l,.int .i64 ((K.A.used:Int)-2),.int .i64 0] 46 (0,0)));obtain ⟨w2,hw2⟩ : ∃ w2,(w.alloc (.cells #[.int .i64 0,.int .i64 0,.int .i64 0] 46 (0,0))).alloc (.cells #[.int .i64 l,.int .i64 ((K.A.used:Int)-2),.int .i64 0] 46 (0,0))=w2:=⟨_,rfl⟩;rw [World.size_alloc] at HB1;rw [hw2] at HB0 HB1 HU ⊢;clear hw2;refine (HX.out _ (HK.out.upd HU.out (by simp))).mono ?_;rintro e w3 ⟨code,rfl,hR⟩;obtain ⟨K',F',hK3,hu3,hs3,hr⟩:=hR.ex
 have hz:∀ k,w.heap.size<=k->k∉F:=fun k hk hm=>by have:=HK.out.lt k hm;omega
 have HC0:=Lib.hid ((hu3.block _ (aa4 HB0.out) (hz _ (Nat.le_refl _))).trans HB0.out);have HC1:=Lib.hid ((hu3.block _ (aa4 HB1.out) (hz _ (by omega))).trans HB1.out);have HR:=Lib.hid (And.intro hK3 (And.intro hu3 (And.intro hs3 hr)));clear hR hK3 hu3 hs3 hr hz
 by_cases hc:code=0
 ·subst hc
  go_wp2_with fail;refine (aCp b K' F' _ HR.out.1).mono ?_;rintro e w4 ⟨rfl,rfl⟩;have c1:w4.cell? ⟨w.heap.size+1,2,none⟩=some (.int .i64 0):=aac HC1.out rfl;have f1:=abq 2 HC1.out;have hb1:=abV (j:=2) HC1.out (.int .i64 ((K'.A.used:Int)-2));have hb0:=(acb (w:=w4) (a:=⟨w.heap.size+1,2,none⟩) (u:=.int .i64 ((K'.A.used:Int)-2)) (k:=w.heap.size) (by simp)).trans HC0.out;obtain ⟨⟨r0,r1,r2,_⟩,_⟩:=ch3 hb1 (.int .i64 0) (.int .i64 0) (.int .i64 0);obtain ⟨⟨s0,s1,s2,g0,g1,g2⟩,⟨s3,g3⟩,⟨s4,g4⟩,z0,z1,z2⟩:=ch3 hb0 (.int .i64 l) (.int .i64 ((K.A.used:Int)-2)) (.int .i64 ((K'.A.used:Int)-2))
  have akU:Hid (aP9 b l K F R w (.returned (.tuple #[.agg #[.int .i64 l,.int .i64 ((K.A.used:Int)-2),.int .i64 ((K'.A.used:Int)-2)],.int .i64 0])) ((((w4.setCell ⟨w.heap.size+1,2,none⟩ (.int .i64 ((K'.A.used:Int)-2))).setCell ⟨w.heap.size,0,none⟩ (.int .i64 l)).setCell ⟨w.heap.size,1,none⟩ (.int .i64 ((K.A.used:Int)-2))).setCell ⟨w.heap.size,2,none⟩ (.int .i64 ((K'.A.used:Int)-2)))):=by
   have hu4:Upd F w w4:=(HU.out.mono (by simp):Upd F w w2).trans HR.out.2.1
   have hF':∀ k,k∈F'->k≠w.heap.size/\k≠w.heap.size+1:=fun k hk=>by
    rcases HR.out.2.2.1 k hk with h | h
    ·have:=HK.out.lt k h;omega
    ·have:=aa4 HB1.out;omega
   have hu5:Upd [w.heap.size,w.heap.size+1] w4 ((((w4.setCell ⟨w.heap.size+1,2,none⟩ (.int .i64 ((K'.A.used:Int)-2))).setCell ⟨w.heap.size,0,none⟩ (.int .i64 l)).setCell ⟨w.heap.size,1,none⟩ (.int .i64 ((K.A.used:Int)-2))).setCell ⟨w.heap.size,2,none⟩ (.int .i64 ((K'.A.used:Int)-2))) :=
    ((((Upd.refl _ _).setCell (p:=⟨w.heap.size+1,2,none⟩) (.inl (by simp)) _).setCell (p:=⟨w.heap.size,0,none⟩) (.inl (by simp)) _).setCell (p:=⟨w.heap.size,1,none⟩) (.inl (by simp)) _).setCell (p:=⟨w.heap.size,2,none⟩) (.inl (by simp)) _
   refine ⟨0,K',F',by simp,HR.out.1.upd hu5 (fun k hk hm=>?_),aCH (hu4.setCell (p:=⟨w.heap.size+1,2,none⟩) (.inr (by show w.heap.size<=w.heap.size+1;omega)) _) (Nat.le_refl _),fun k hk=>?_,HR.out.2.2.2⟩
   ·have:=hF' k hk;simp at hm;omega
   ·exact (HR.out.2.2.1 k hk).imp id fun h=>Nat.le_trans HU.out.size h
  clear hb1 hb0;go_wp2_with fail;refine bodyPost_ret (v:=.tuple #[.agg #[.int .i64 l,.int .i64 ((K.A.used:Int)-2),.int .i64 ((K'.A.used:Int)-2)],.int .i64 0]) (by simp [results,Tryz.results18,go_sem,z0,z1,z2]) rfl akU.out
 ·have hc1:(code == 0)=false:=by simpa using hc
  obtain ⟨⟨s0,s1,s2,g0,g1,g2⟩,⟨s3,g3⟩,⟨s4,g4⟩,z0,z1,z2⟩:=ch3 HC0.out (.int .i64 0) (.int .i64 0) (.int .i64 0)
  have akU:Hid (aP9 b l K F R w (.returned (.tuple #[.agg #[.int .i64 0,.int .i64 0,.int .i64 0],.int .i64 code])) (((w3.setCell ⟨w.heap.size,0,none⟩ (.int .i64 0)).setCell ⟨w.heap.size,1,none⟩ (.int .i64 0)).setCell ⟨w.heap.size,2,none⟩ (.int .i64 0))):=by
   have hu4:Upd F w w3:=(HU.out.mono (by simp):Upd F w w2).trans HR.out.2.1
   have hu5:Upd [w.heap.size] w3 (((w3.setCell ⟨w.heap.size,0,none⟩ (.int .i64 0)).setCell ⟨w.heap.size,1,none⟩ (.int .i64 0)).setCell ⟨w.heap.size,2,none⟩ (.int .i64 0)) :=
    (((Upd.refl _ _).setCell (p:=⟨w.heap.size,0,none⟩) (.inl (by simp)) _).setCell (p:=⟨w.heap.size,1,none⟩) (.inl (by simp)) _).setCell (p:=⟨w.heap.size,2,none⟩) (.inl (by simp)) _
   refine ⟨code,K',F',by rw [if_neg hc],HR.out.1.upd hu5 (fun k hk hm=>?_),aCH hu4 (Nat.le_refl _),fun k hk=>?_,HR.out.2.2.2⟩
   ·simp at hm
    rcases HR.out.2.2.1 k hk with h | h
    ·have:=HK.out.lt k h;omega
    ·have:=aa4 HB1.out;omega
   ·exact (HR.out.2.2.1 k hk).imp id fun h=>Nat.le_trans HU.out.size h
  go_wp2_with fail;refine bodyPost_ret (v:=.tuple #[.agg #[.int .i64 0,.int .i64 0,.int .i64 0],.int .i64 code]) (by simp [results,Tryz.results18,go_sem,z0,z1,z2]) rfl akU.out
structure UnS (b:Nat) (P:KV->Prop) (K:KV) (F:List Nat) (w:World) (e:Ending) (w':World):Prop where
 ex:∃ (l:Nat) (K':KV) (F':List Nat),e=.returned (.tuple #[.int .i64 l,.int .i64 0])/\ad1 w' b K' F'/\Stp F w F' w'/\P K'/\K'.trail.length+1=K.trail.length
structure aOu (b tr:Nat) (P:KV->Prop) (K:KV) (F:List Nat) (w:World) (e:Ending) (w':World):Prop where
 ex:∃ (K':KV) (F':List Nat),e=.returned (.tuple #[.int .i64 (K.trail.length-tr:Nat),.int .i64 0])/\ad1 w' b K' F'/\Stp F w F' w'/\P K'/\K'.trail.length=tr
theorem aH3 (b tr:Nat) (P:KV->Prop) (K:KV) (F:List Nat) (w:World) (h:ad1 w b K F) (hp:P K) (htr:tr<=K.trail.length) (hlen:K.trail.length<=1000000)
  (hu:∀ z K F,ad1 z b K F->P K->tr<K.trail.length->K.trail.length<=1000000->Calls Tryz.prog 60 #[.pointer (some ⟨b,0,none⟩)] z fun e w'=>UnS b P K F z e w') :
  Calls Tryz.prog 21 #[.pointer (some ⟨b,0,none⟩),.int .i64 tr] w fun e w'=>aOu b tr P K F w e w':=by
 have HK:=Lib.hid (And.intro h hp);have HU:=Lib.hid hu;obtain ⟨TL,hTL⟩ : ∃ TL,K.trail.length=TL:=⟨_,rfl⟩;have HTL:=Lib.hid hTL;have HTA:=Lib.hid (ayH b K F w h);rw [hTL] at htr hlen HTA
 have h0:¬ (tr:Int)<0:=by omega
 have h1:¬ (TL:Int)<(tr:Int):=by omega
 have h2:(tr:Int)<=(TL:Int):=by omega
 have h3:decide (TL<tr)=false:=by simp;omega
 clear h hu hTL hp
 go_enter Tryz.func21,Tryz.ntmps21
 go_wp2_with fail;refine HTA.out.mono ?_;rintro e w1 ⟨rfl,hw1⟩;have HW1:=Lib.hid hw1;clear hw1;go_wp2_with fail
 go_loopg [6] TL (fun g s6 wr=>∃ (i:Nat) (K2:KV) (F2:List Nat),TL-i=g/\s6=.int .i64 i/\ad1 wr b K2 F2/\Stp F w F2 wr/\P K2/\K2.trail.length+i=TL/\tr+i<=TL)
 case atStart=>exact ⟨0,K,F,by omega,rfl,by rw [HW1.out];exact HK.out.1,by rw [HW1.out];exact ⟨Upd.refl _ _,Sub.refl _ _⟩,HK.out.2,by have:=HTL.out;omega,by omega⟩
 case round =>
  obtain ⟨i,K2,F2,rfl,rfl,hK2,hst,hp2,hl2,hti⟩:=hrel;obtain ⟨T2,hT2⟩ : ∃ T2,K2.trail.length=T2:=⟨_,rfl⟩;have HT2:=Lib.hid hT2;have aS2:=Lib.hid (ayH b K2 F2 wr hK2);rw [hT2] at aS2 hl2;have HX:=Lib.hid (And.intro hK2 (And.intro hst hp2));clear hK2 hst hp2 hT2;go_wp2_with fail;refine aS2.out.mono ?_;rintro e w2 ⟨rfl,hw2⟩;have HW2:=Lib.hid hw2;clear hw2
  by_cases hgt:tr<T2
  ·have hg1:(tr:Int)<(T2:Int):=by omega
   go_wp2_with fail;rw [HW2.out];refine (HU.out wr K2 F2 HX.out.1 HX.out.2.2 (by rw [HT2.out];exact hgt) (by rw [HT2.out];omega)).mono ?_;rintro e w3 hE;obtain ⟨l,K3,F3,rfl,hK3,hs3,hp3,hl3⟩:=hE.ex;have HY:=Lib.hid (And.intro hK3 (And.intro hs3 (And.intro hp3 hl3)));clear hE hK3 hs3 hp3 hl3;go_wp2_with fail
   go_roundg (TL-(i+1))
   case measure=>omega
   case rel=>exact ⟨i+1,K3,F3,rfl,by simp,HY.out.1,HX.out.2.1.trans HY.out.2.1,HY.out.2.2.1,by have:=HY.out.2.2.2;have:=HT2.out;omega,by omega⟩
  ·have hg1:¬ (tr:Int)<(T2:Int):=by omega
   have hi:i=TL-tr:=by omega
   have akU:Hid (aOu b tr P K F w (.returned (.tuple #[.int .i64 i,.int .i64 0])) w2):=by
    refine ⟨K2,F2,by rw [HTL.out,hi],?_,?_,HX.out.2.2,by rw [HT2.out];omega⟩
    ·rw [HW2.out];exact HX.out.1
    ·rw [HW2.out];exact HX.out.2.1
   clear hi;go_wp2_with fail;go_ret2;exact akU.out
theorem Tryz.infoChangeS:(Tryz.prog.info? 46).map (fun i=>(i.zero,i.size,i.bytes))=some (some (.agg #[.int .i64 0,.int .i64 0,.int .i64 0]),3,24):=by kernel_rfl
def chV (c:Int × Int × Int):Value:=.agg #[.int .i64 c.1,.int .i64 c.2.1,.int .i64 c.2.2]
def adF (l:List (Int × Int × Int)):List Value:=l.flatMap fun c=>[.int .i64 c.1,.int .i64 c.2.1,.int .i64 c.2.2]
def MV.tryV (M:MV) (l:Int):Int × Int × Int:=if M.exchE l=0 then (l,M.live,(M.exch l).live) else (0,0,0)
def MV.playV (M:MV):List Int->List (Int × Int × Int) × Int × MV
 | []=>([],0,M)
 | l::ls=>if M.exchE l=0 then (M.tryV l::((M.exch l).playV ls).1,((M.exch l).playV ls).2) else ([],M.exchE l,M)
structure aW1 (b:Nat) (l:Int) (K:KV) (F:List Nat) (M:MV) (w:World) (e:Ending) (w':World):Prop where
 ex:∃ (K':KV) (F':List Nat),e=.returned (.tuple #[chV (M.tryV l),.int .i64 (M.exchE l)])/\ad1 w' b K' F'/\KM K' (M.exch l)/\aps K K'/\Stp F w F' w'
theorem aKA (b:Nat) (l:Int) (K:KV) (F:List Nat) (M:MV) (w:World) (h:ad1 w b K F) (hm:KM K M) (ht:M.trail.length<=1000000) :
  Calls Tryz.prog 18 #[.pointer (some ⟨b,0,none⟩),.int .i64 l] w fun e w'=>aW1 b l K F M w e w':=by
 refine (aKz b l K F (fun code K'=>code=M.exchE l/\KM K' (M.exch l)/\aps K K') w h fun z hz=>?_).mono ?_
 ·refine (aGQ b l K F M z hz hm ht).mono ?_
  rintro e w' ⟨rfl,hk⟩;obtain ⟨K',F',h1,h2,h3,h4,h5⟩:=hk.ex;exact ⟨_,rfl,K',F',h1,h4,h5,rfl,h2,h3⟩
 ·rintro e w' hE
  obtain ⟨code,K',F',rfl,h1,h4,h5,rfl,h2,h3⟩:=hE.ex;refine ⟨K',F',?_,h1,h2,h3,h4,h5⟩;have e1:=hm.live h.ok h.uni;have e2:=h2.live h1.ok h1.uni;unfold MV.tryV chV;rw [e1,e2]
  split <;> rfl
structure aKB (b:Nat) (Ls:List Int) (K:KV) (F:List Nat) (M:MV) (w:World) (e:Ending) (w':World):Prop where
 ex:∃ (v:Value) (K':KV) (F':List Nat),e=.returned (.tuple #[v,.int .i64 (M.playV Ls).2.1])/\w'.ownsRow w.heap.size 46 3 v (M.playV Ls).1.length (adF (M.playV Ls).1)/\(∀ k,v.ownBlock=some k->k∉F')/\ad1 w' b K' F'/\KM K' (M.playV Ls).2.2/\aps K K'/\Stp F w F' w'
theorem avV (b:Nat) (la:Option Addr) (ln lc:Nat) (Ls:List Int) (K:KV) (F:List Nat) (M:MV) (w:World) (h:ad1 w b K F) (hm:KM K M) (ht:M.trail.length<=900000) (hL:alg w .i64 la ln Ls) (hln:ln<=1000) (hla:∀ x,la=some x->x.block∉F) :
  Calls Tryz.prog 22 #[.pointer (some ⟨b,0,none⟩),.slice la ln lc] w fun e w'=>aKB b Ls K F M w e w':=by
 obtain ⟨ti,hi2,hz2,hs2,hb2⟩:=info_parts Tryz.infoChangeS;have HI:=Lib.hid (And.intro hi2 (And.intro hz2 (And.intro hs2 hb2)));have H0:=Lib.hid (And.intro h (And.intro hm ht));have HL:=Lib.hid (And.intro hL hla);have hll:=hL.len;have HLL:=Lib.hid hll;clear h hm ht hL hi2 hz2 hs2 hb2 hll hla
 go_enter Tryz.func22,Tryz.ntmps22
 go_wp2_with fail
 go_loopg [6,15] ln (fun g s6 s15 wr=>∃ (j:Nat) (K2:KV) (F2:List Nat) (M2:MV) (cs:List (Int × Int × Int)),ln-j=g/\j<=ln/\s15=.int .i64 j/\ad1 wr b K2 F2/\KM K2 M2/\aps K K2/\Stp F w F2 wr/\M2.trail.length<=900000+j /\
  wr.ownsRow w.heap.size 46 3 s6 cs.length (adF cs)/\(∀ k,s6.ownBlock=some k->k∉F2)/\cs.length<=j/\Hid (M.playV Ls=(cs++(M2.playV (Ls.drop j)).1,(M2.playV (Ls.drop j)).2)))
 case atStart=>exact ⟨0,K,F,M,[],by omega,by omega,rfl,H0.out.1,H0.out.2.1,aps.refl _,⟨Upd.refl _ _,Sub.refl _ _⟩,H0.out.2.2,World.ownsRow_nil _ _ _ _,fun k hk=>by simp [Value.ownBlock] at hk,by simp,Lib.hid (by simp)⟩
 case round =>
  obtain ⟨j,K2,F2,M2,cs,rfl,hj,rfl,hK2,hm2,hst,hsp,ht2,abP,hdj,hcs,HPV⟩:=hrel;obtain ⟨oa,oc,hov,_⟩:=abI abP;subst hov
  by_cases hlt:j<ln
  ·obtain ⟨x,hx,hc⟩:=HL.out.1.at_ j hlt
   have hcr:=(hsp.up.cell (World.block_lt_of_cell? _ _ hc) (by
    have h1:=HL.out.2 x hx
    unfold Addr.add;split <;> exact h1)).trans hc
   subst hx
   have hil:(j:Int)<(ln:Int):=by omega
   have HDR:Hid (Ls.drop j=Ls.getD j 0::Ls.drop (j+1)):=by
    have h1:j<Ls.length:=by rw [HLL.out];exact hlt
    show _=_
    rw [List.drop_eq_getElem_cons h1,List.getD_eq_getElem?_getD,List.getElem?_eq_getElem h1];rfl
   clear hc;generalize Ls.getD j 0=l at *;have HTR:=Lib.hid (aKA b l K2 F2 M2 wr hK2 hm2 (by omega));have HX:=Lib.hid (And.intro hK2 (And.intro hm2 (And.intro hst (And.intro hsp (And.intro abP hdj)))));clear hK2 hm2 hst hsp abP hdj;go_wp2_with fail;refine HTR.out.mono ?_;rintro e w3 hE;obtain ⟨K3,F3,rfl,hK3,hm3,hs3,hp3⟩:=hE.ex;have HY:=Lib.hid (And.intro hK3 (And.intro hm3 (And.intro hs3 hp3)));obtain ⟨E,hEE⟩ : ∃ E,M2.exchE l=E:=⟨_,rfl⟩;obtain ⟨c,hcc⟩ : ∃ c,M2.tryV l=c:=⟨_,rfl⟩;have HE:=Lib.hid (And.intro hEE hcc);rw [hEE,hcc];unfold chV;clear hE hK3 hm3 hs3 hp3 hEE hcc HTR;have hbx:=heap_alloc_new w3 (.cells #[.int .i64 c.1,.int .i64 c.2.1,.int .i64 c.2.2] 46 (0,0));have b0:=aac (j:=0) hbx rfl;have b1:=aac (j:=1) hbx rfl;have b2:=aac (j:=2) hbx rfl
   by_cases h0:E=0
   ·subst h0
    have aep:Hid (w3.ownsRow w.heap.size 46 3 (.slice oa cs.length oc) cs.length (adF cs)):=aaX HX.out.2.2.2.2.1 fun k hk=>HY.out.2.2.2.up.block k (HX.out.2.2.2.2.1.lt k hk).2 (HX.out.2.2.2.2.2 k hk)
    have HC2:Hid (∀ z,z∈[Value.int .i64 c.1,Value.int .i64 c.2.1,Value.int .i64 c.2.2]->z.oneCell'=true):=by
     intro z hz;simp at hz;rcases hz with rfl | rfl | rfl <;> rfl
    clear hbx
    have hbs:w.heap.size<=((w3.alloc (.cells #[.int .i64 c.1,.int .i64 c.2.1,.int .i64 c.2.2] 46 (0,0))).alloc (.cells #[.int .i64 c.1,.int .i64 c.2.1,.int .i64 c.2.2] 46 (0,0))).heap.size:=by
     have h1:=(HX.out.2.2.2.1.trans HY.out.2.2.2).up.size
     rw [World.size_alloc,World.size_alloc];omega
    go_wp2_with (at_builtin;go_must (refine wpList_append_lies _ rfl (.tmp 29) (.tmp 31) 59 rfl w.heap.size 46 ti _ 3 24 Tryz.underlying59 HI.out.1 HI.out.2.1 HI.out.2.2.1 HI.out.2.2.2 (by rfl) (by decide) _ cs.length (adF cs) rfl ((aep.out.alloc _).alloc _) ⟨_,0,none⟩ 1 1 [.int .i64 c.1,.int .i64 c.2.1,.int .i64 c.2.2] rfl rfl ?c1 HC2.out (by omega) (by unfold maxLen;omega) (by omega) hbs _ rfl ?_))
    case c1 =>
     have hb2:=heap_alloc_new (w3.alloc (.cells #[.int .i64 c.1,.int .i64 c.2.1,.int .i64 c.2.2] 46 (0,0))) (.cells #[.int .i64 c.1,.int .i64 c.2.1,.int .i64 c.2.2] 46 (0,0));rw [World.size_alloc] at hb2;exact World.news_of_block hb2
    intro g5 cap w5 ab3 hgr hat ajb
    have HZ:Hid (ad1 w5 b K3 F3/\Stp F w F3 w5/\w5.ownsRow w.heap.size 46 3 (.slice (some ⟨g5,0,none⟩) (cs.length+1) cap) (cs++[c]).length (adF (cs++[c]))/\∀ k,(Value.slice (some ⟨g5,0,none⟩) (cs.length+1) cap).ownBlock=some k->k∉F3):=by
     have u5:Upd (Value.slice oa cs.length oc).ownBlock.toList w3 w5:=Upd.grown (((Upd.refl _ w3).alloc _).alloc _) hgr (fun k hk=>.inl (by simp [hk]))
     have hno:∀ k,(Value.slice oa cs.length oc).ownBlock=some k->k∉F3:=fun k hk hm=>by
      rcases HY.out.2.2.2.sub k hm with h | h
      ·exact HX.out.2.2.2.2.2 k hk h
      ·have:=(HX.out.2.2.2.2.1.lt k hk).2;omega
     have h1:=HX.out.2.2.2.1.trans HY.out.2.2.2;refine ⟨HY.out.1.upd u5 (fun k hk hm=>hno k (by simpa using hm) hk),⟨h1.up.then u5 fun k hk=>.inr (HX.out.2.2.2.2.1.lt k (by simpa using hk)).1,h1.sub⟩,?_,fun k hk hm=>?_⟩
     ·rw [List.length_append,List.length_singleton,show adF (cs++[c])=adF cs++[.int .i64 c.1,.int .i64 c.2.1,.int .i64 c.2.2] by simp [adF]]
      exact ab3
     ·have hk':g5=k:=by simpa [Value.ownBlock] using hk
      subst hk'
      rcases hat with h | h
      ·exact hno _ h hm
      ·have:=HY.out.1.lt _ hm;omega
    clear ab3 hgr hat ajb hbs b0 b1 b2;go_wp2_with fail
    go_roundg (ln-(j+1))
    case measure=>omega
    case rel =>
     refine ⟨j+1,K3,F3,M2.exch l,cs++[c],rfl,by omega,by simp,HZ.out.1,HY.out.2.1,HX.out.2.2.1.trans HY.out.2.2.1,HZ.out.2.1,by have:=(MV.exch_trail M2 l).1;omega,HZ.out.2.2.1,HZ.out.2.2.2,by simp;omega,Lib.hid ?_⟩
     have e1:M2.playV (Ls.drop j)=(c::((M2.exch l).playV (Ls.drop (j+1))).1,((M2.exch l).playV (Ls.drop (j+1))).2):=by
      rw [HDR.out]
      conv=>lhs;unfold MV.playV
      rw [HE.out.1,if_pos rfl,HE.out.2]
     rw [HPV.out,e1];simp
   ·have hE0:(E == 0)=false:=by simpa using h0
    clear hbx
    have akU:Hid (∀ z,Upd [] w3 z->aKB b Ls K F M w (.returned (.tuple #[.slice oa cs.length oc,.int .i64 E])) z):=fun z u=>by
     have e1:(M2.playV (Ls.drop j))=([],E,M2):=by
      rw [HDR.out];unfold MV.playV;rw [HE.out.1,if_neg h0]
     have e2:M.playV Ls=(cs,E,M2):=by rw [HPV.out,e1];simp
     have e3:M2.exch l=M2:=MV.exch_no (by rw [HE.out.1];exact h0);refine ⟨_,K3,F3,by rw [e2],?_,?_,HY.out.1.upd u (by simp),?_,HX.out.2.2.1.trans HY.out.2.2.1,?_⟩
     ·rw [e2]
      exact aaX HX.out.2.2.2.2.1 fun k hk=>by
       have hk2:=(HX.out.2.2.2.2.1.lt k hk).2;rw [u.block k (Nat.lt_of_lt_of_le hk2 HY.out.2.2.2.up.size) (by simp)];exact HY.out.2.2.2.up.block k hk2 (HX.out.2.2.2.2.2 k hk)
     ·intro k hk hm
      rcases HY.out.2.2.2.sub k hm with h | h
      ·exact HX.out.2.2.2.2.2 k hk h
      ·have:=(HX.out.2.2.2.2.1.lt k hk).2;omega
     ·rw [e2];rw [<- e3];exact HY.out.2.1
     ·have h1:=HX.out.2.2.2.1.trans HY.out.2.2.2
      exact ⟨h1.up.trans (u.mono (by simp)),h1.sub⟩
    go_wp2_with fail;go_ret2;exact akU.out _ ((Upd.refl _ _).alloc _)
  ·obtain rfl:j=ln:=by omega
   have hil:¬ ((j:Int)<(j:Int)):=by omega
   have akU:Hid (aKB b Ls K F M w (.returned (.tuple #[.slice oa cs.length oc,.int .i64 0])) wr):=by
    have e1:M.playV Ls=(cs,0,M2):=by
     rw [HPV.out,<- HLL.out,List.drop_length];simp [MV.playV]
    exact ⟨_,K2,F2,by rw [e1],by rw [e1];exact abP,hdj,hK2,by rw [e1];exact hm2,hst,hsp⟩
   clear hK2 hm2 hst hsp abP hdj;go_wp2_with fail;go_ret2;exact akU.out
def lk (a b:Nat):Lit:=.string (keyBytes [.int .u32 a,.int .u32 b])
theorem ae3:Keyed Tryz.prog 148:=Keyed.of_law (deep_law_gate laidOut (of_decide_eq_true (by kernel_rfl)) (of_decide_eq_true (by kernel_rfl)) (by kernel_rfl) (by kernel_rfl))
theorem ay7 {a b:Nat} (h0:a<=4294967295) (h1:b<=4294967295):keyOf Tryz.prog 148 (.agg #[.int .u32 a,.int .u32 b])=some (lk a b):=by
 have hk:Tryz.prog.keyType 148=true:=by kernel_rfl
 obtain ⟨m,hm⟩ : ∃ m,Tryz.prog.types.size=m+1:=⟨Tryz.prog.types.size-1,by have:0<Tryz.prog.types.size:=of_decide_eq_true (by kernel_rfl);omega⟩
 have c40:Tryz.prog.cellsOf 77=1:=by kernel_rfl
 have c44:Tryz.prog.cellsOf 148=2:=by kernel_rfl
 have kl:Tryz.prog.keyLits (m+2) 148 [.int .u32 a,.int .u32 b]=some [.int .u32 a,.int .u32 b]:=by
  unfold Program.keyLits;rw [Tryz.underlying148]
  simp only [c44]
  simp [c40,ayT Tryz.underlying77 m (wfR h0),ayT Tryz.underlying77 m (wfR h1)]
 have hf:Value.formed Tryz.prog 148 (.agg #[.int .u32 a,.int .u32 b])=true:=by
  simp [Value.formed,Tryz.underlying148,c44]
 rw [keyOf,Tryz.underlying148]
 show (if (Tryz.prog.keyType 148&&Value.formed Tryz.prog 148 (.agg #[.int .u32 a,.int .u32 b]))=true then Option.map (fun ls=>Lit.string (keyBytes ls)) (Tryz.prog.keyLits (Tryz.prog.types.size+1) 148 [.int .u32 a,.int .u32 b]) else none)=_
 rw [hk,hf,hm];rw [Bool.and_self,if_pos rfl]
 show Option.map (fun ls=>Lit.string (keyBytes ls)) (Tryz.prog.keyLits (m+2) 148 [.int .u32 a,.int .u32 b])=_
 rw [kl];rfl
theorem aKC {a b a' b':Nat} (h0:a<=4294967295) (h1:b<=4294967295) (h0':a'<=4294967295) (h1':b'<=4294967295) (e:lk a b=lk a' b'):a=a'/\b=b':=by
 have h:=ae3.inj (ay7 h0 h1) (by rw [e];exact ay7 h0' h1')
 simp only [Value.agg.injEq,Array.mk.injEq,List.cons.injEq,Value.int.injEq,true_and,and_true] at h
 omega
theorem aKD (a b:Nat):WideAt.IsKeyLit (lk a b):=trivial
structure ajK (Q:List (Nat × Nat)) (D:DM):Prop where
 im:IsMap D
 has:∀ a b:Nat,a<=4294967295->b<=4294967295->(Maps.has D (lk a b)=true↔(a,b)∈Q)
 at_:∀ a b:Nat,a<=4294967295->b<=4294967295->Maps.has D (lk a b)=true->∀ z,D.atKey (lk a b) z=.lit (.int .i64 1)
 dom:∀ k,Maps.has D k=true->∃ a b:Nat,k=lk a b/\a<1048576/\b<1048576
theorem ajK.nil:ajK [] (.map []):=⟨isMap_empty,fun a b _ _=>by simp [Maps.has],fun a b _ _ h=>by simp [Maps.has] at h,fun k h=>by simp [Maps.has] at h⟩
theorem ajK.put {Q:List (Nat × Nat)} {D:DM} {a b:Nat} (h:ajK Q D) (ha:a<1048576) (hb:b<1048576):ajK (Q++[(a,b)]) (D.put (lk a b) (.lit (.int .i64 1))):=by
 have hl:WideAt.IsKeyLit (lk a b):=trivial
 have inj:∀ x y:Nat,x<=4294967295->y<=4294967295->(x,y)≠(a,b)->lk x y≠lk a b:=fun x y hx hy hne e=>by
  obtain ⟨rfl,rfl⟩:=aKC hx hy (by omega) (by omega) e;exact hne rfl
 refine ⟨h.im.put _ _,fun x y hx hy=>?_,fun x y hx hy hh z=>?_,fun k hk=>?_⟩
 ·by_cases e:(x,y)=(a,b)
  ·cases e;simp [has_put_same h.im hl]
  ·rw [has_put_other (inj x y hx hy e),h.has x y hx hy];simp [e]
 ·by_cases e:(x,y)=(a,b)
  ·cases e;exact atKey_put_same h.im hl _ z
  ·rw [has_put_other (inj x y hx hy e)] at hh
   rw [atKey_put_other (inj x y hx hy e)];exact h.at_ x y hx hy hh z
 ·by_cases e:k=lk a b
  ·exact ⟨a,b,e,ha,hb⟩
  ·rw [has_put_other e] at hk;exact h.dom k hk
theorem aBR (n:Nat) (f:Nat->Nat->Lit):((List.range n).flatMap fun a=>(List.range n).map fun b=>f a b).length=n*n:=by
 rw [List.length_flatMap]
 have:(List.map (fun a=>(List.map (fun b=>f a b) (List.range n)).length) (List.range n))=List.replicate n n:=by
  rw [List.eq_replicate_iff];refine ⟨by simp,fun b hb=>?_⟩;obtain ⟨a,_,rfl⟩:=List.mem_map.1 hb;simp
 rw [this,List.sum_replicate_nat]
theorem arM {Q:List (Nat × Nat)} {D:DM} (h:ajK Q D) (hc:Maps.Canon D) (ht:Tidy D):Maps.size D<maxLen:=by
 have:=ai7 hc (ks:=(List.range 1048576).flatMap fun a=>(List.range 1048576).map fun b=>lk a b) (fun k hk=>by
  obtain ⟨a,b,rfl,ha,hb⟩:=h.dom k hk
  exact List.mem_flatMap.2 ⟨a,List.mem_range.2 ha,List.mem_map.2 ⟨b,List.mem_range.2 hb,rfl⟩⟩) ht
 rw [aBR] at this
 unfold maxLen;omega
def KV.haveQ (K:KV) (x s:Nat):List (Nat × Nat):=match K.A.list[s]? with | some p=>if p.var=(x:Int) then [(p.lo,p.hi)] else [] | none=>[]
def KV.moreQ (K:KV) (x y s:Nat):List (Nat × Nat):=match K.A.list[s]? with
 | some p=>if p.var=(x:Int)/\(K.vI p.lo=(y:Int)\/K.vI p.hi=(y:Int)) then [((K.part y p.lo).1,(K.part y p.hi).1),((K.part y p.lo).2,(K.part y p.hi).2)] else []
 | none=>[]
theorem ay8 (b r y:Nat) (K:KV) (T:List DM) (q:abM) (w:World) (h:afF w b K T q) (hr:K.A.tk r=true) :
  Calls Tryz.prog 68 #[.pointer (some ⟨b,0,none⟩),.int .u32 r,.int .i64 y] w fun e w'=>e=.returned (.tuple #[.int .u32 (K.part y r).1,.int .u32 (K.part y r).2,.bool (decide (K.vI r=(y:Int)))])/\Upd [] w w':=by
 have hrl:=h.ok.ref_lt hr;obtain ⟨p,hp,hpt⟩:=aaU.tk_iff.1 hr;have HN:=Lib.hid (amF b r K T q p w h.mem (by omega) hp hpt);have e1:K.vI r=p.var:=K.vI_at hp
 have e2:K.part y r=if p.var=(y:Int) then (p.lo,p.hi) else (r,r):=by simp [KV.part,hp]
 rw [e1,e2];clear h hr hp hpt e1 e2 hrl;generalize p.var=v at *;generalize p.lo=lo at *;generalize p.hi=hi at *
 by_cases hv:v=(y:Int)
 ·have hve:(v == (y:Int))=true:=by simpa using hv
  rw [if_pos hv,decide_eq_true hv]
  have a2M:((y:Int) == (y:Int))=true:=by simp
  clear hv
  go_enter Tryz.func68,Tryz.ntmps68
  go_wp2_with fail;refine HN.out.mono ?_;rintro e w1 ⟨rfl,hu⟩;have hb:=heap_alloc_new w1 (.cells #[.int .i64 v,.int .u32 lo,.int .u32 hi] 142 (0,0));have HU:=Lib.hid (hu.alloc (.cells #[.int .i64 v,.int .u32 lo,.int .u32 hi] 142 (0,0)));have x0:=aac (j:=0) hb rfl;have x1:=aac (j:=1) hb rfl;have x2:=aac (j:=2) hb rfl;clear hu hb;go_wp2_with fail
  go_region
  go_wp2_with fail;refine bodyPost_ret (v:=.tuple #[.int .u32 lo,.int .u32 hi,.bool true]) (by simp [results,Tryz.results68,go_sem]) rfl ⟨rfl,HU.out.drew⟩
 ·have hve:(v == (y:Int))=false:=by simpa using hv
  rw [if_neg hv,decide_eq_false hv]
  go_enter Tryz.func68,Tryz.ntmps68
  go_wp2_with fail;refine HN.out.mono ?_;rintro e w1 ⟨rfl,hu⟩;have hb:=heap_alloc_new w1 (.cells #[.int .i64 v,.int .u32 lo,.int .u32 hi] 142 (0,0));have HU:=Lib.hid (hu.alloc (.cells #[.int .i64 v,.int .u32 lo,.int .u32 hi] 142 (0,0)));have x0:=aac (j:=0) hb rfl;clear hu hb;go_wp2_with fail;refine bodyPost_ret (v:=.tuple #[.int .u32 r,.int .u32 r,.bool false]) (by simp [results,Tryz.results68,go_sem]) rfl ⟨rfl,HU.out⟩
end Go.Proofs.YtdackeldhdchaaaGreat
