import Derived.Test.YtfkopmhpppeheaaGreatPN22
set_option maxRecDepth 100000
set_option maxHeartbeats 3200000
namespace Go.Proofs.YtfkopmhpppeheaaGreat
open Go.RowKit Go.Maps Go.ChangeMaps Go.WideShapes
theorem rZ.at_ {K:KV} {l x y:Nat} {c:bY} (h:rZ K l x y c):∃ p,K.A.list[c.r]?=some p/\p.taken=true/\p.var=(x:Int)/\p.lo=c.lo/\p.hi=c.hi/\NG K l x y c.r p c.a00 c.a01 c.a10 c.a11:=by
 obtain ⟨p,F,hv,e1,e2⟩:=h.ex;exact ⟨p,F.at_,F.tk,hv,e1,e2,F⟩
theorem afM {C:List bY} {i:Nat} {c:bY} (nd:(C.map bY.r).Nodup) (h:C[i]?=some c):c.r∉(C.take i).map bY.r/\c.r∉(C.drop (i+1)).map bY.r:=by
 rw [<- List.take_append_drop i C,List.map_append,(qh h).1,List.map_cons,List.nodup_append,List.nodup_cons] at nd;exact ⟨fun hm=>nd.2.2 _ hm _ (by simp) rfl,nd.2.1.1⟩
structure NK (b:Nat) (K:KV) (q:aA) (C:List bY) (w:World) (i:Nat) (wr:World):Prop where
 ex:∃ T,aF wr b K T q/\dW T K ((C.take i).map bY.r)
 up:af (q.all b) w wr
theorem NK.step {b l x y i:Nat} {K:KV} {q:aA} {C:List bY} {c:bY} {w wr:World} (h:NK b K q C w i wr) (hc:C[i]?=some c) (nb:Nb K l x y) (CA:dU K l x y C) :
  ∃ T D,aF wr b K T q/\T[x]?=some D/\Maps.has D (nk x c.lo c.hi)=true/\c.lo<=4294967295/\c.hi<=4294967295 /\
   ∀ w',ed w' q.t (T.set x (D.del (nk x c.lo c.hi))) q.FT->af q.FT wr w'->NK b K q C w (i+1) w':=by
 obtain ⟨T,hm,ht⟩:=h.ex;have vS:=List.mem_of_getElem? hc;obtain ⟨p,hp,aH,hv,e1,e2,_⟩:=(CA.ok c vS).at_;have h2:2<=c.r:=(CA.ok c vS).cr.1;have hw:=nb.ok.wf;have rY:=hw.ok.u32 p (List.mem_of_getElem? hp);obtain ⟨hx,_⟩:=nb.facts
 have aW:x<T.length:=by rw [ht.len];exact hx
 have hD:T[x]?=some T[x]:=List.getElem?_eq_getElem aW;generalize T[x]=D at hD;have hn:=(afM CA.nd hc).1
 have hk:kG p=nk x c.lo c.hi:=by unfold kG;rw [hv,e1,e2]
 have Uy:p.var.toNat=x:=by omega
 have Vw:=(ht.at_ c.r p D h2 hp aH hn (by rw [Uy];exact hD)).1;rw [hk] at Vw;have aaE:=ht.less hw h2 hn hp aH hv hD;rw [hk] at aaE;refine ⟨T,D,hm,hD,Vw,by omega,by omega,fun w' ha hu=>⟨⟨_,hm.table ha hu,aaE.exc fun r=>?_⟩,h.up.trans (hu.mono fun k hk=>aA.mem.2 (.inr (.inr (.inl hk))))⟩⟩;rw [(qh hc).2]
 simp [or_comm]
structure yV (b l x y:Nat) (K0:KV) (q0:aA) (N:List (Nat × Nat)) (w:World) (R:List Nat) (L:List (Nat × (Nat × Nat))) (K:KV) (T:List DM) (q:aA) (P:List Nat) (wr:World):Prop where
 st:∃ D M,St K0 l x y N R K T P D M/\∀ g,g∈L->Ej K0 l x K g.1/\∀ z,D g.1 z=if z x then K0.den g.2.2 z else K0.den g.2.1 z
 mem:aF wr b K T q
 up:af (q0.all b) w wr
 sub:Sub (q0.all b) w (q.all b)
structure Vx (b l x y:Nat) (K0:KV) (q0:aA) (C:List bY) (N:List (Nat × Nat)) (w:World) (i:Nat) (K:KV) (T:List DM) (q:aA) (P:List Nat) (wr:World):Prop where
 tx:yV b l x y K0 q0 N w ((C.drop i).map bY.r) [] K T q P wr
 pe:P.Perm ((C.take i).flatMap fun c=>[c.lo,c.hi])
 nil:C=[]->K=K0
theorem yX:∀ C:List bY,(C.flatMap fun c=>[c.lo,c.hi]).length=C.length*2
 | []=>rfl
 | c::C=>by rw [List.flatMap_cons,List.length_append,yX C,List.length_cons];simp;omega
theorem NK.done {b l x y:Nat} {K:KV} {q:aA} {C:List bY} {N:List (Nat × Nat)} {w wr:World} (h:NK b K q C w C.length wr) (nb:Nb K l x y) (CA:dU K l x y C):∃ T,Vx b l x y K q C N w 0 K T q [] wr:=by
 obtain ⟨T,hm,ht⟩:=h.ex;rw [List.take_length] at ht;exact ⟨T,⟨⟨⟨K.den,[],⟨vW.start nb (fun r=>CA.iff r) CA.nd,nb.ok.wf,by rw [List.drop_zero];exact ht,nb.ok.pos,uT.start K x N⟩,by simp⟩,hm,h.up,Sub.refl _ _⟩,by simp,fun _=>rfl⟩⟩
theorem JL.got {K0 K K':KV} {l x y a d r:Nat} {R P:List Nat} {T:List DM} {N:List (Nat × Nat)} {D:Nat->(Nat->Bool)->Bool} {M:List (Nat × Nat)} (h:St K0 l x y N R K T P D M) (nb:Nb K0 l x y) (ha:Deep K0 l a) (hd:Deep K0 l d) (G:JL K R x a d r K'):K'.Wf P/\K'.A.tk r=true:=by
 obtain ⟨D',hm,Ew,_⟩:=h.mid.get nb h.wf ha hd G;refine ⟨?_,Ew.1⟩;obtain ⟨hx,_⟩:=nb.facts
 have hxv:x<K.vars:=by rw [h.mid.vr];exact hx
 rcases G with ⟨_,_,rfl⟩ | ⟨_,_,rfl⟩ | ⟨_,Tk,_⟩
 ·exact h.wf
 ·exact h.wf
 ·exact Tk.wf h.wf (h.mid.tk ha.1) (h.mid.tk hd.1) ⟨by omega,by omega⟩
theorem St.Bd {K0 K:KV} {b l x y:Nat} {p:Nat × Nat} {N Q M:List (Nat × Nat)} {R P:List Nat} {T:List DM} {D:Nat->(Nat->Bool)->Bool} {q:aA} {w:World} (h:St K0 l x y N R K T P D M) (nb:Nb K0 l x y) (F:lZ K0 x Q N) (hq:p∈Q)
  (ha:Deep K0 l p.1) (hb:Deep K0 l p.2) (dS:K0.A.used+N.length<=K0.A.places) (hm:aF w b K T q) (hP:P.length<=1000000000) :
  Calls Tryz.prog 161 #[.pointer (some ⟨b,0,none⟩),.int .i64 x,.int .u32 p.1,.int .u32 p.2] w fun e w'=>JQ b x p.1 p.2 K R q w e w':=by
 obtain ⟨hx,_⟩:=nb.facts
 have rY:∀ {a:Nat},Deep K0 l a->a<=4294967295:=fun {a} ha=>by
  have h1:=ag.iZ ha.1;have h3:=nb.ok.wf.ok.lp;have h4:=nb.ok.wf.ok.pm;omega
 refine Vk b x p.1 p.2 K P R T q w hm h.wf h.ti (fun s hs=>h.mid.tk (Nb.nO (h.mid.rc s hs))) hP (by rw [h.mid.vr];exact hx) (h.mid.tk ha.1) (h.mid.tk hb.1) (rY ha) (rY hb) fun hne bK=>?_
 exact (h.cnt.room F h.mid nb ha hb hq hne (fun ⟨s,c,h2,hc,lI,hv,e1,e2⟩=>bK s c (h.mid.Dh nb hc (by rw [e1];exact ha) (by rw [e2];exact hb)) h2 hc lI ⟨hv,e1,e2⟩) dS).2.2
theorem dU.deep {K:KV} {l x y:Nat} {C:List bY} (h:dU K l x y C) {q:Nat × Nat} (hq:q∈C.flatMap bY.qs):Deep K l q.1/\Deep K l q.2:=by
 obtain ⟨c,hc,hm⟩:=List.mem_flatMap.1 hq;obtain ⟨p,_,_,_,_,_,F⟩:=(h.ok c hc).at_
 simp [bY.qs] at hm
 rcases hm with rfl | rfl
 ·exact ⟨F.d00,F.d10⟩
 ·exact ⟨F.d01,F.d11⟩
theorem Vy {b r:Nat} {K:KV} {T:List DM} {q:aA} {P:List Nat} {w:World} (hm:aF w b K T q) (hw:K.Wf P) (ht:K.A.tk r=true) (hP:P.length<=1000000000) :
  Calls Tryz.prog 162 #[.pointer (some ⟨b,0,none⟩),.int .u32 r] w fun e w'=>e=.returned (.tuple #[])/\aF w' b (K.gU r) T q/\af (q.all b) w w':=by
 have h1:=ag.iZ ht;have h3:=hw.ok.lp;have h4:=hw.ok.pm;exact Ip b r K T q w hm (fun h2=>hw.tu r h2 ht) (fun h2=>by have:=hw.Ih h2 ht;omega) (by omega)
theorem St.noY {K0 K:KV} {l x y lo hi a00 a01 a10 a11 c:Nat} {p:ak} {N M:List (Nat × Nat)} {R P:List Nat} {T:List DM} {DY:DM} {D:Nat->(Nat->Bool)->Bool} (h:St K0 l x y N (c::R) K T P D M) (nb:Nb K0 l x y)
  (F4:NG K0 l x y c p a00 a01 a10 a11) (dlo:∀ z,D lo z=if z x then K0.den a10 z else K0.den a00 z) (dhi:∀ z,D hi z=if z x then K0.den a11 z else K0.den a01 z)
  (rY:lo<=4294967295/\hi<=4294967295) (hD:T[y]?=some DY):Maps.has DY (nk y lo hi)=false:=by
 obtain ⟨_,hy,_⟩:=nb.facts
 have hyv:y<K.vars:=by rw [h.mid.vr];exact hy
 have zx:=h.wf.vs
 cases hh:Maps.has DY (nk y lo hi) with
 | false=>rfl
 | true =>
  exfalso
  obtain ⟨s,q,h2,hq,rC,hqv,hk,hs⟩:=h.ti.dom y DY _ hD hh;have h4:=h.wf.ok.u32 q (List.mem_of_getElem? hq);obtain ⟨e1,e2,e3⟩:=tY (vw (by omega) (by omega)) (jw rY.1) (jw rY.2) (vw (by rw [hqv];omega) (by rw [hqv];omega)) (jw h4.1) (jw h4.2.1) hk;exact h.mid.JM nb F4 dlo dhi h2 hq rC hs ⟨hqv,e2.symm,e3.symm⟩
theorem yV.Bd {b l x y:Nat} {K0 K:KV} {q0 q:aA} {N Q:List (Nat × Nat)} {w wr w1:World} {R P:List Nat} {L:List (Nat × (Nat × Nat))} {T:List DM} {p:Nat × Nat} (h:yV b l x y K0 q0 N w R L K T q P wr)
  (nb:Nb K0 l x y) (F:lZ K0 x Q N) (hp:p∈Q) (ha:Deep K0 l p.1) (hd:Deep K0 l p.2) (dS:K0.A.used+N.length<=K0.A.places) (u1:af [] wr w1) (hP:P.length<=1000000000) :
  Calls Tryz.prog 161 #[.pointer (some ⟨b,0,none⟩),.int .i64 x,.int .u32 p.1,.int .u32 p.2] w1 fun e w'=>JQ b x p.1 p.2 K R q w1 e w':=by
 obtain ⟨D,M,st,_⟩:=h.st;exact st.Bd nb F hp ha hd dS (h.mem.upd u1 (by simp)) hP
theorem yV.Ph {b l x y r:Nat} {K0 K K':KV} {q0 q q':aA} {N:List (Nat × Nat)} {w wr w2:World} {R P:List Nat} {L:List (Nat × (Nat × Nat))} {T T':List DM} {p:Nat × Nat} (h:yV b l x y K0 q0 N w R L K T q P wr)
  (nb:Nb K0 l x y) (ha:Deep K0 l p.1) (hd:Deep K0 l p.2) (G:JL K R x p.1 p.2 r K') (m:aF w2 b K' T' q') (hP:P.length<=1000000000) :
  Calls Tryz.prog 162 #[.pointer (some ⟨b,0,none⟩),.int .u32 r] w2 fun e w'=>e=.returned (.tuple #[])/\aF w' b (K'.gU r) T' q'/\af (q'.all b) w2 w':=by
 obtain ⟨D,M,st,_⟩:=h.st;obtain ⟨hw,ht⟩:=JL.got st nb ha hd G;exact Vy m hw ht hP
theorem xM {w:World} {z:Nat} {v0 v1 v2 v3 v4 v5 v6 v7:Value} {t:TypeId} (h:w.heap[z]?=some (.cells #[v0,v1,v2,v3,v4,v5,v6,v7] t (0,0))) :
  w.cell? ⟨z,0,none⟩=some v0/\w.cell? ⟨z,2,none⟩=some v2/\w.cell? ⟨z,3,none⟩=some v3/\w.cell? ⟨z,4,none⟩=some v4/\w.cell? ⟨z,5,none⟩=some v5/\w.cell? ⟨z,6,none⟩=some v6/\w.cell? ⟨z,7,none⟩=some v7 :=
 ⟨ae h rfl,ae h rfl,ae h rfl,ae h rfl,ae h rfl,ae h rfl,ae h rfl⟩
theorem yV.get {b l x y r:Nat} {K0 K K':KV} {q0 q q':aA} {N Q:List (Nat × Nat)} {w wr w1 w2 w3:World} {R P:List Nat} {L:List (Nat × (Nat × Nat))} {T T':List DM} {p:Nat × Nat} (h:yV b l x y K0 q0 N w R L K T q P wr)
  (nb:Nb K0 l x y) (F:lZ K0 x Q N) (hp:p∈Q) (ha:Deep K0 l p.1) (hd:Deep K0 l p.2) (dS:K0.A.used+N.length<=K0.A.places) (u1:af [] wr w1) (G:JL K R x p.1 p.2 r K') (ti:dW T' K' R) (u2:af (q.all b) w1 w2) (s2:Sub (q.all b) w1 (q'.all b))
  (m3:aF w3 b (K'.gU r) T' q') (u3:af (q'.all b) w2 w3):yV b l x y K0 q0 N w R ((r,p)::L) (K'.gU r) T' q' (r::P) w3:=by
 obtain ⟨D,M,st,hL⟩:=h.st;obtain ⟨D',M',st',Ew,pR,Dk,Vr⟩:=st.get nb F hp ha hd dS G ti
 have hs:Sub (q0.all b) w (q'.all b):=fun k hk=>by
  rcases s2 k hk with h1 | h1
  ·exact h.sub k h1
  ·have:=h.up.size;have:=u1.size;right;omega
 refine ⟨⟨D',M',st',fun g hg=>?_⟩,m3,((h.up.trans (u1.mono (by simp))).then u2 fun k hk=>?_).then u3 fun k hk=>hs k hk,hs⟩
 ·rcases List.mem_cons.1 hg with rfl | hg
  ·exact ⟨Ew,pR⟩
  ·obtain ⟨g1,g2⟩:=hL g hg
   exact ⟨g1.mono fun c hc lI=>Vr _ c hc lI,fun z=>by rw [Dk _ g1.1];exact g2 z⟩
 ·exact h.sub k hk
theorem yV.YO {b l x y lo hi:Nat} {K0 K:KV} {q0 q:aA} {N:List (Nat × Nat)} {w wr w1:World} {R P:List Nat} {T:List DM} {c:bY} (h:yV b l x y K0 q0 N w (c.r::R) [(hi,(c.a01,c.a11)),(lo,(c.a00,c.a10))] K T q (hi::lo::P) wr)
  (nb:Nb K0 l x y) (hc:rZ K0 l x y c) (u1:af [] wr w1) :
  Calls Tryz.prog 163 #[.pointer (some ⟨q.a,0,none⟩),.int .u32 c.r,.agg #[.int .i64 y,.int .u32 lo,.int .u32 hi]] w1 fun e w'=>e=.returned (.int .i64 0)/\∃ q1,aF w' b (K.iC c.r y lo hi) T q1/\q1.all b=q.all b/\q1.t=q.t/\q1.a=q.a/\af (q.all b) w1 w':=by
 obtain ⟨D,M,st,hL⟩:=h.st;obtain ⟨p,Xu,aH,_,_,_,_⟩:=hc.at_;have hp:=st.mid.old c.r p Xu aH (.inr (by simp));have t1:=(hL (lo,(c.a00,c.a10)) (by simp)).1.1;have t2:=(hL (hi,(c.a01,c.a11)) (by simp)).1.1;have hm:=h.mem.upd u1 (by simp)
 have lt:∀ {a:Nat},K.A.tk a=true->a<=4294967295:=fun {a} ha=>by
  have h1:=ag.iZ ha;have h3:=st.wf.ok.lp;have h4:=st.wf.ok.pm;omega
 obtain ⟨_,hy,_⟩:=nb.facts;have zx:=nb.ok.wf.vs;refine (YN q.a q.FA c.r lo hi y K.A p w1 hm.ar (lt (ag.aP.2 ⟨p,hp,aH⟩)) hc.cr.1 hp aH ⟨lt t1,lt t2⟩ (by omega) t1 t2).mono ?_;rintro e w' ⟨rfl,ha,hu⟩;exact ⟨rfl,_,hm.arena ha hu (Sub.refl _ _),rfl,rfl,rfl,hu.mono fun k hk=>aA.mem.2 (.inr (.inl hk))⟩
theorem yV.YP {b l x y lo hi:Nat} {K0 K:KV} {q0 q q1:aA} {N:List (Nat × Nat)} {w wr w1:World} {R P:List Nat} {T:List DM} {c:bY} (h:yV b l x y K0 q0 N w (c.r::R) [(hi,(c.a01,c.a11)),(lo,(c.a00,c.a10))] K T q (hi::lo::P) wr)
  (nb:Nb K0 l x y) (hc:rZ K0 l x y c) (m1:aF w1 b (K.iC c.r y lo hi) T q1) :
  ∃ DY,T[y]?=some DY/\Calls Tryz.prog 164 #[.pointer (some ⟨q1.t,0,none⟩),.agg #[.int .i64 y,.int .u32 lo,.int .u32 hi],.int .u32 c.r] w1 fun e w' =>
   e=.returned (.int .i64 0)/\aF w' b (K.iC c.r y lo hi) (T.set y (DY.put (nk y lo hi) (.lit (.int .u32 c.r)))) q1/\af (q1.all b) w1 w':=by
 obtain ⟨D,M,st,hL⟩:=h.st;obtain ⟨p,Xu,aH,_,_,_,F4⟩:=hc.at_;obtain ⟨g1,g1d⟩:=hL (lo,(c.a00,c.a10)) (by simp);obtain ⟨g2,g2d⟩:=hL (hi,(c.a01,c.a11)) (by simp)
 have lt:∀ {a:Nat},K.A.tk a=true->a<=4294967295:=fun {a} ha=>by
  have h1:=ag.iZ ha;have h3:=st.wf.ok.lp;have h4:=st.wf.ok.pm;omega
 obtain ⟨_,hy,_⟩:=nb.facts
 have aW:y<T.length:=by rw [st.ti.len,st.mid.vr];exact hy
 have hD:T[y]?=some T[y]:=List.getElem?_eq_getElem aW;generalize T[y]=DY at hD;have bK:=st.noY nb F4 g1d g2d ⟨lt g1.1,lt g2.1⟩ hD
 have dG:Maps.size DY<maxLen:=by
  obtain ⟨_,_,_,_,_,_,_,_,ho⟩:=m1.tab.cells hD;have:=st.ti.size st.wf hD (ho.canon aT) (ho.tidy aT)
  unfold maxLen;omega
 have oz:c.r<=4294967295:=lt (st.mid.tk (Nb.nO hc.cr));refine ⟨DY,hD,(JE q1.t q1.FT y lo hi c.r T DY w1 m1.tab hD (lt g1.1) (lt g2.1) oz bK dG).mono ?_⟩;rintro e w' ⟨rfl,ha,hu⟩;exact ⟨rfl,m1.table ha hu,hu.mono fun k hk=>aA.mem.2 (.inr (.inr (.inl hk)))⟩
theorem Vx.step {b l x y i lo hi:Nat} {K0 K1 K:KV} {q0 q1 q q2:aA} {C:List bY} {N:List (Nat × Nat)} {w wr1 wr w1 w2 w3 w4:World} {P:List Nat} {T1 T:List DM} {DY:DM} {c:bY} (h:Vx b l x y K0 q0 C N w i K1 T1 q1 P wr1) (hc:C[i]?=some c)
  (hx:yV b l x y K0 q0 N w (c.r::(C.drop (i+1)).map bY.r) [(hi,(c.a01,c.a11)),(lo,(c.a00,c.a10))] K T q (hi::lo::P) wr)
  (nb:Nb K0 l x y) (CA:dU K0 l x y C) (F:lZ K0 x (C.flatMap bY.qs) N) (hD:T[y]?=some DY) (u1:af [] wr w1) (u2:af (q.all b) w1 w2) (hq:q2.all b=q.all b) (u3:af [] w2 w3) (m4:aF w4 b (K.iC c.r y lo hi) (T.set y (DY.put (nk y lo hi) (.lit (.int .u32 c.r)))) q2)
  (u4:af (q2.all b) w3 w4):Vx b l x y K0 q0 C N w (i+1) (K.iC c.r y lo hi) (T.set y (DY.put (nk y lo hi) (.lit (.int .u32 c.r)))) q2 (c.lo::c.hi::P) w4:=by
 obtain ⟨D,M,st,hL⟩:=hx.st;have vS:=List.mem_of_getElem? hc;obtain ⟨p,Xu,aH,_,e1,e2,F4⟩:=(CA.ok c vS).at_;obtain ⟨g1,g1d⟩:=hL (lo,(c.a00,c.a10)) (by simp);obtain ⟨g2,g2d⟩:=hL (hi,(c.a01,c.a11)) (by simp)
 have lt:∀ {a:Nat},K.A.tk a=true->a<=4294967295:=fun {a} ha=>by
  have h1:=ag.iZ ha;have h3:=st.wf.ok.lp;have h4:=st.wf.ok.pm;omega
 have st':=st.turn nb F (fun q hq=>CA.deep hq) F4 g1 g2 g1d g2d ⟨lt g1.1,lt g2.1⟩ hD;rw [e1,e2] at st'
 have hs:Sub (q0.all b) w (q2.all b):=by rw [hq];exact hx.sub
 refine ⟨⟨⟨D,M,st',by simp⟩,m4,(((hx.up.trans (u1.mono (by simp))).then u2 fun k hk=>hx.sub k hk).trans (u3.mono (by simp))).then u4 fun k hk=>hs k hk,hs⟩,?_,fun e=>by rw [e] at hc;simp at hc⟩;rw [(qh hc).2,List.flatMap_append];have:=h.pe;refine (List.Perm.append_left [c.lo,c.hi] this).trans ?_
 simp only [List.flatMap_cons,List.flatMap_nil,List.append_nil]
 exact List.perm_append_comm
structure yY (b:Nat) (Ke:KV) (q0:aA) (S:List Nat) (w:World) (K:KV) (T:List DM) (q:aA) (wr:World):Prop where
 mem:aF wr b K T q
 wf:K.Wf S
 ti:dW T K []
 le:K.Le Ke
 pos:K.Pos
 up:af (q0.all b) w wr
 sub:Sub (q0.all b) w (q.all b)
theorem yY.step {b r:Nat} {Ke K K':KV} {q0 q q':aA} {S:List Nat} {w wr w':World} {T T':List DM} (h:yY b Ke q0 (r::S) w K T q wr) (R:wo wr b K S q [] w' K' T' q'):yY b Ke q0 S w K' T' q' w' :=
 ⟨R.mem,by simpa using R.wf,R.ti,R.le.trans h.le,R.pos h.pos,h.up.then R.up fun k hk=>h.sub k hk,fun k hk=>by
  rcases R.sub k hk with hk | hk
  ·exact h.sub k hk
  ·have:=h.up.size;right;omega⟩
theorem yY.keep0 {b:Nat} {Ke K:KV} {q0 q:aA} {S:List Nat} {w wr w':World} {T:List DM} (h:yY b Ke q0 S w K T q wr) (u:af [] wr w'):yY b Ke q0 S w K T q w' :=
 ⟨h.mem.upd u (by simp),h.wf,h.ti,h.le,h.pos,h.up.trans (u.mono (by simp)),h.sub⟩
theorem yY.call {b r:Nat} {Ke K:KV} {q0 q:aA} {S:List Nat} {w wr:World} {T:List DM} (h:yY b Ke q0 (r::S) w K T q wr) (hS:S.length<=1000000000) :
  Calls Tryz.prog 96 #[.pointer (some ⟨b,0,none⟩),.int .u32 r] wr fun e w'=>e=.returned (.tuple #[])/\∃ K' T' q',yY b Ke q0 S w K' T' q' w'/\af (q.all b) wr w'/\Sub (q.all b) wr (q'.all b):=by
 have ht:=h.wf.pt r (by simp);have h1:=ag.iZ ht;have h3:=h.wf.ok.lp;have h4:=h.wf.ok.pm;refine (xN b r K S T q wr h.mem h.wf h.ti hS (by omega)).mono ?_;rintro e w' ⟨he,K',T',q',R⟩;exact ⟨he,K',T',q',h.step R,R.up,R.sub⟩
theorem xK.of {K Ke K3:KV} {l x y:Nat} {P:List Nat} {D:Nat->(Nat->Bool)->Bool} (nb:Nb K l x y) (m:vW K l x y [] Ke D) (hwe:Ke.Wf P) (hui:Ke.Uni) (le:K3.Le Ke) (hw:K3.Wf []) (Vt:K3.Pos):(K3.qc l).Ok/\xK K l (K3.qc l):=by
 have ho:K3.order=K.order:=le.od.trans m.od
 have e:K3.qc l=K3.dA l x y:=by
  unfold KV.qc KV.dA;rw [ho,nb.hx,nb.hy]
 obtain ⟨Dc,pR⟩:=m.done nb hwe
 have YQ:(K3.dA l x y).Ext (Ke.dA l x y):=by
  refine ⟨le.nd,le.pl.symm,le.vr.symm,?_,?_⟩
  ·show (Ke.order.set l y).set (l+1) x=(K3.order.set l y).set (l+1) x
   rw [le.od]
  ·show (Ke.level.set x (l+1)).set y l=(K3.level.set x (l+1)).set y l
   rw [le.lv]
 have hw':(K3.dA l x y).Wf []:=hw.dA l x y;rw [e];refine ⟨⟨hw',Vt,YQ.JR hw' Dc,fun t ht=>?_⟩,⟨le.vr.trans m.vr,le.pl.trans m.pl,?_,fun r=>?_,le.tr.trans m.tr,fun r t0 t1 z=>?_,fun r s t0 t1 hd=>?_⟩⟩
 ·have Qx:t∈K3.trail:=ht
  rw [le.tr,m.tr] at Qx
  show t+2<=K3.vars
  rw [le.vr,m.vr];exact nb.ok.tl t Qx
 ·show (K3.order.set l y).set (l+1) x=_
  rw [ho,nb.hx,nb.hy]
 ·show K3.hold r=_
  rw [<- m.hd r]
  unfold KV.hold;rw [le.hd]
 ·rw [<- YQ.den hw' z t1,pR r (m.tk t0) z,m.uh r t0 z]
 ·have akL:(Ke.dA l x y).Wf P:=hwe.dA l x y
  refine KV.canon akL Dc hui _ r s (m.tk t0) (YQ.tk t1) (Nat.le_refl _) fun z=>?_
  rw [pR r (m.tk t0) z,m.uh r t0 z,hd z,YQ.den hw' z t1]
theorem Tryz.Iq:(Tryz.prog.info? 240).map (fun i=>(i.zero,i.size,i.bytes))=some (some (.agg #[.int .u32 0,.int .i64 0,.int .u32 0,.int .u32 0,.int .u32 0,.int .u32 0,.int .u32 0,.int .u32 0]),8,40):=by kernel_rfl
theorem JS (a b c:Value) (z:World):(Instr.field 116 (.agg #[a,b,c]) 0).run Tryz.prog z=.ok a z:=by kernel_rfl
structure Pj (K:KV) (x:Nat) (w:World) (e:Ending) (w':World):Prop where
 ex:∃ (rs:List Nat) (a:Option Addr) (c:Nat),e=.returned (.tuple #[.slice a rs.length c,.int .i64 0])/\rs.Nodup/\(∀ r,r∈rs↔(2<=r/\K.A.tk r=true/\K.vI r=(x:Int))) /\
  w'.ownsRow w.heap.size 77 1 (.slice a rs.length c) rs.length (aI rs)/\af [] w w'
structure Am (w:World) (l x y:Nat) (K:KV) (rs:List Nat) (i:Nat) (s7:Value) (wr:World):Prop where
 ex:∃ (C:List bY) (la:Option Addr) (lc:Nat),s7=.slice la C.length lc/\(∀ c,c∈C->rZ K l x y c/\c.R32)/\(C.map bY.r).Nodup/\(∀ r,r∈C.map bY.r↔r∈rs.take i/\K.gZ x y r) /\
  wr.ownsRow w.heap.size 240 8 (.slice la C.length lc) C.length (nS x C)
 up:af [] w wr
theorem YR {K:KV} {l x y:Nat} {C:List bY} (h:∀ c,c∈C->rZ K l x y c/\c.R32) (nd:(C.map bY.r).Nodup) (hk:K.Wf []):C.length<=1048576:=by
 have h1:(C.map bY.r).length<=(List.range 1048576).length:=List.Nodup.length_le_of_subset nd fun r hr=>by
  obtain ⟨c,hc,rfl⟩:=List.mem_map.1 hr;have ht:=Nb.nO (h c hc).1.cr;have h2:=ag.iZ ht;have h3:=hk.ok.lp;have h4:=hk.ok.pm;exact List.mem_range.2 (by omega)
 simpa using h1
theorem Am.keep {w wr w2:World} {l x y i:Nat} {K:KV} {rs:List Nat} {s7:Value} (h:Am w l x y K rs i s7 wr) (u:af [] wr w2):Am w l x y K rs i s7 w2:=by
 obtain ⟨C,la,lc,e,h1,h2,h3,h4⟩:=h.ex;exact ⟨⟨C,la,lc,e,h1,h2,h3,ai h4 fun k hk=>u.block k (h4.lt k hk).2 (by simp)⟩,h.up.trans u⟩
theorem Am.skip {w wr:World} {l x y i r:Nat} {K:KV} {rs:List Nat} {s7:Value} (h:Am w l x y K rs i s7 wr) (hr:rs[i]?=some r) (bK:¬ K.gZ x y r):Am w l x y K rs (i+1) s7 wr:=by
 obtain ⟨C,la,lc,e,h1,h2,h3,h4⟩:=h.ex;refine ⟨⟨C,la,lc,e,h1,h2,fun s=>?_,h4⟩,h.up⟩;rw [h3,List.take_add_one,hr];constructor
 ·rintro ⟨a,b⟩;exact ⟨List.mem_append_left _ a,b⟩
 ·rintro ⟨a,b⟩
  rcases List.mem_append.1 a with a | a
  ·exact ⟨a,b⟩
  ·simp at a;subst a;exact absurd b bK
theorem Am.push {w w6:World} {l x y i r g cap:Nat} {K:KV} {rs:List Nat} {C:List bY} {c:bY} (hr:rs[i]?=some r) (AL:rs.Nodup) (hc:rZ K l x y c/\c.R32) (ec:c.r=r)
  (h1:∀ c,c∈C->rZ K l x y c/\c.R32) (h2:(C.map bY.r).Nodup) (h3:∀ r,r∈C.map bY.r↔r∈rs.take i/\K.gZ x y r)
  (aK:w6.ownsRow w.heap.size 240 8 (.slice (some ⟨g,0,none⟩) (C.length+1) cap) (C.length+1) (nS x C++c.flat x)) (u:af [] w w6):Am w l x y K rs (i+1) (.slice (some ⟨g,0,none⟩) (C.length+1) cap) w6:=by
 have bK:r∉rs.take i:=fun hm=>by
  have nd:=AL;rw [<- List.take_append_drop i rs,(qh hr).1,List.nodup_append] at nd;exact nd.2.2 _ hm _ (by simp) rfl
 have hlen:(C++[c]).length=C.length+1:=by simp
 refine ⟨⟨C++[c],some ⟨g,0,none⟩,cap,by rw [hlen],fun d hd=>?_,?_,fun s=>?_,?_⟩,u⟩
 ·rcases List.mem_append.1 hd with hd | hd
  ·exact h1 d hd
  ·simp at hd;subst hd;exact hc
 ·rw [List.map_append,List.nodup_append]
  refine ⟨h2,by simp,fun a ha b hb e=>?_⟩
  simp at hb
  subst e;rw [hb,ec] at ha;exact bK ((h3 r).1 ha).1
 ·rw [List.map_append,List.mem_append,h3,List.take_add_one,hr,List.mem_append]
  simp only [List.map_cons,List.map_nil,List.mem_singleton,Option.toList_some,ec]
  constructor
  ·rintro (⟨a,b⟩ | rfl)
   ·exact ⟨.inl a,b⟩
   ·exact ⟨.inr rfl,ec ▸ hc.1.cr⟩
  ·rintro ⟨a | rfl,b⟩
   ·exact .inl ⟨a,b⟩
   ·exact .inr rfl
 ·rw [hlen]
  have:nS x (C++[c])=nS x C++c.flat x:=by simp [nS]
  rw [this];exact aK
theorem Dn (b l x y:Nat) (K:KV) (T:List DM) (q:aA) (w:World) (h:bV w b K T q) (nb:Nb K l x y)
  (QW:∀ w0:World,af [] w w0->Calls Tryz.prog 216 #[.pointer (some ⟨q.t,0,none⟩),.int .i64 x] w0 fun e w'=>Pj K x w0 e w') :
  Calls Tryz.prog 157 #[.pointer (some ⟨b,0,none⟩),.int .i64 x,.int .i64 y] w fun e w'=>Vu l x y K w e w':=by
 obtain ⟨ti,hi,hz,hs,hb⟩:=info_parts Tryz.Iq;have HI:=Lib.hid (And.intro hi (And.intro hz (And.intro hs hb)));have c1:w.cell? ⟨b,1,none⟩=some (.pointer (some ⟨q.t,0,none⟩)):=ae h.mem.blk rfl
 have HK:Hid (∀ z:World,af [] w z->bV z b K T q):=fun z u=>h.upd u (by simp)
 have vO:=Lib.hid nb;have HR:=Lib.hid (QW w (af.refl _ _));clear h nb QW hi hz hs hb
 go_enter Tryz.func157,Tryz.ntmps157
 go_wp2_with fail;refine HR.out.mono ?_;rintro e w1 hE;obtain ⟨rs,a,c,rfl,AL,vS,aC,hu⟩:=hE.ex;have OU:=Lib.hid (And.intro AL (And.intro vS (And.intro aC hu)))
 have rF:rs.length<=1048576:=by
  have h1:rs.length<=(List.range 1048576).length:=List.Nodup.length_le_of_subset AL fun r hr=>by
   have ht:=((vS r).1 hr).2.1;have h2:=ag.iZ ht;have h3:=vO.out.ok.wf.ok.lp;have h4:=vO.out.ok.wf.ok.pm;exact List.mem_range.2 (by omega)
  simpa using h1
 clear hE AL vS aC hu HR c1;go_wp2_with fail
 go_loopg [7,26] rs.length (fun gg s7 s26 wr=>∃ i:Nat,rs.length-i=gg/\i<=rs.length/\s26=.int .i64 i/\Am w1 l x y K rs i s7 wr)
 case atStart=>exact ⟨0,by omega,by omega,rfl,⟨⟨[],none,0,rfl,by simp,by simp,by simp,World.ownsRow_nil _ _ _ _⟩,af.refl _ _⟩⟩
 case round =>
  obtain ⟨i,rfl,hi,rfl,hF⟩:=hrel
  by_cases aW:i<rs.length
  ·obtain ⟨r,hr⟩ : ∃ r,rs[i]?=some r:=⟨_,List.getElem?_eq_getElem aW⟩
   have aC:=ai OU.out.2.2.1 fun k hk=>hF.up.block k (OU.out.2.2.1.lt k hk).2 (by simp)
   obtain ⟨gr,rfl⟩:=bC aC (by omega);have cf:=au aC (j:=i) (u:=.int .u32 r) (by simp [aI,hr]);obtain ⟨r2,rt,rv⟩:=(OU.out.2.1 r).1 (List.mem_of_getElem? hr);obtain ⟨p,v,hp,aH,kD,gK,Pm,Pn,vT⟩:=vO.out.ok.wf.cZ r2 rt
   have hvx:v=x:=by rw [KV.jK hp,kD] at rv;omega
   subst hvx;obtain ⟨pl,O9,afN⟩:=ag.aP.1 Pm;obtain ⟨ph,hph,afP⟩:=ag.aP.1 Pn;have Vz:p.lo<=4294967295:=(vO.out.ok.wf.ok.u32 p (List.mem_of_getElem? hp)).1;have VA:p.hi<=4294967295:=(vO.out.ok.wf.ok.u32 p (List.mem_of_getElem? hp)).2.1
   have oQ:r<=4294967295:=by
    have h1:=ag.iZ rt;have h3:=vO.out.ok.wf.ok.lp;have h4:=vO.out.ok.wf.ok.pm;omega
   have fF:(i:Int)<(rs.length:Int):=by omega
   have OE:Hid (af [] w wr):=OU.out.2.2.2.trans hF.up;have HN:=Lib.hid (jL b r K T q p wr (HK.out wr OE.out).mem oQ hp aH);have HP:=Lib.hid (And.intro hp (And.intro aH (And.intro kD (And.intro Pm (And.intro Pn (And.intro O9 (And.intro afN (And.intro hph afP))))))));have HRI:=Lib.hid (And.intro hr (And.intro r2 vT));have HF:=Lib.hid hF;rw [kD] at HN;clear hF aC hr rt rv hp aH kD Pm Pn O9 afN hph afP r2 vT;go_wp2_with fail;refine HN.out.mono ?_;rintro e w2 ⟨rfl,hu⟩;have eF:=Lib.hid (hu.alloc (.cells #[.int .i64 v,.int .u32 p.lo,.int .u32 p.hi] 116 (0,0)));have aY:=heap_alloc_new w2 (.cells #[.int .i64 v,.int .u32 p.lo,.int .u32 p.hi] 116 (0,0));obtain ⟨wz,hwz⟩ : ∃ wz,w2.alloc (.cells #[.int .i64 v,.int .u32 p.lo,.int .u32 p.hi] 116 (0,0))=wz:=⟨_,rfl⟩
   have q0:∀ z:Still wz,z.x.cell? ⟨w2.heap.size,0,none⟩=some (.int .i64 v):=fun z=>z.cell (by rw [<- hwz];exact ae aY rfl)
   have q1:∀ z:Still wz,z.x.cell? ⟨w2.heap.size,1,none⟩=some (.int .u32 p.lo):=fun z=>z.cell (by rw [<- hwz];exact ae aY rfl)
   have q2:∀ z:Still wz,z.x.cell? ⟨w2.heap.size,2,none⟩=some (.int .u32 p.hi):=fun z=>z.cell (by rw [<- hwz];exact ae aY rfl)
   rw [hwz] at eF;have HWZ:=Lib.hid hwz
   have HQ1:Hid (∀ z:Still wz,Calls Tryz.prog 109 #[.pointer (some ⟨b,0,none⟩),.int .u32 p.lo] z.x fun e w'=>e=.returned (.agg #[.int .i64 pl.var,.int .u32 pl.lo,.int .u32 pl.hi])/\∃ m:Still wz,w'=m.x):=fun z =>
    (jL b p.lo K T q pl z.x (HK.out _ (OE.out.trans (eF.out.trans z.u))).mem Vz HP.out.2.2.2.2.2.1 HP.out.2.2.2.2.2.2.1).mono fun _ _ ⟨a,u⟩=>⟨a,⟨_,z.u.trans u⟩,rfl⟩
   have VB:Hid (∀ z:Still wz,Calls Tryz.prog 109 #[.pointer (some ⟨b,0,none⟩),.int .u32 p.hi] z.x fun e w'=>e=.returned (.agg #[.int .i64 ph.var,.int .u32 ph.lo,.int .u32 ph.hi])/\∃ m:Still wz,w'=m.x):=fun z =>
    (jL b p.hi K T q ph z.x (HK.out _ (OE.out.trans (eF.out.trans z.u))).mem VA HP.out.2.2.2.2.2.2.2.1 HP.out.2.2.2.2.2.2.2.2).mono fun _ _ ⟨a,u⟩=>⟨a,⟨_,z.u.trans u⟩,rfl⟩
   have HV:Hid (K.vI p.lo=pl.var/\K.vI p.hi=ph.var):=⟨KV.jK HP.out.2.2.2.2.2.1,KV.jK HP.out.2.2.2.2.2.2.2.1⟩
   have HCX:Hid (K.gZ v y r↔(pl.var=(y:Int)\/ph.var=(y:Int))):=by
    rw [<- HV.out.1,<- HV.out.2];exact ⟨fun ⟨_,p',jo,_,_,hk⟩=>by rw [HP.out.1] at jo;cases jo;exact hk,fun hk=>⟨HRI.out.2.1,p,HP.out.1,HP.out.2.1,HP.out.2.2.1,hk⟩⟩
   generalize pl.var=v1 at *;generalize ph.var=v2 at *;clear hu aY hwz HN;have abS:=JS;go_upto_region 7 with fail;rw [HWZ.out]
   go_cut [54] from 35 to 54 (fun s54 wx=>s54=.bool (!(decide (v1=(y:Int))||decide (v2=(y:Int))))/\af [] wz wx)
   case first =>
    by_cases h1:v1=(y:Int)
    ·subst h1
     refine wp_region_still (by kernel_rfl) (by kernel_rfl) ?_
     repeat (first | go_big_quiet_step ((first | (go_at_call_of 109 (Value.int IntKind.u32 (p.lo:Int));exact HQ1.out _) | (go_at_call_of 109 (Value.int IntKind.u32 (p.hi:Int));exact VB.out _))) | quiet_step ((first | (go_at_call_of 109 (Value.int IntKind.u32 (p.lo:Int));exact HQ1.out _) | (go_at_call_of 109 (Value.int IntKind.u32 (p.hi:Int));exact VB.out _))))
     refine wpQuiet_nil ?_;rintro _ ⟨n2,rfl⟩;go_wp2_with fail;go_meet;exact ⟨by simp,n2.u⟩
    ·have e1:(v1 == (y:Int))=false:=by simpa using h1
     have e2:decide (v1=(y:Int))=false:=decide_eq_false h1
     by_cases h2:v2=(y:Int)
     ·subst h2
      refine wp_region_still (by kernel_rfl) (by kernel_rfl) ?_
      repeat (first | go_big_quiet_step ((first | (go_at_call_of 109 (Value.int IntKind.u32 (p.lo:Int));exact HQ1.out _) | (go_at_call_of 109 (Value.int IntKind.u32 (p.hi:Int));exact VB.out _))) | quiet_step ((first | (go_at_call_of 109 (Value.int IntKind.u32 (p.lo:Int));exact HQ1.out _) | (go_at_call_of 109 (Value.int IntKind.u32 (p.hi:Int));exact VB.out _))))
      refine wpQuiet_nil ?_;rintro _ ⟨n2,rfl⟩;go_wp2_with fail;go_meet;exact ⟨by simp,n2.u⟩
     ·have e3:(v2 == (y:Int))=false:=by simpa using h2
      have e4:decide (v2=(y:Int))=false:=decide_eq_false h2;refine wp_region_still (by kernel_rfl) (by kernel_rfl) ?_
      repeat (first | go_big_quiet_step ((first | (go_at_call_of 109 (Value.int IntKind.u32 (p.lo:Int));exact HQ1.out _) | (go_at_call_of 109 (Value.int IntKind.u32 (p.hi:Int));exact VB.out _))) | quiet_step ((first | (go_at_call_of 109 (Value.int IntKind.u32 (p.lo:Int));exact HQ1.out _) | (go_at_call_of 109 (Value.int IntKind.u32 (p.hi:Int));exact VB.out _))))
      refine wpQuiet_nil ?_;rintro _ ⟨n2,rfl⟩;go_wp2_with fail;go_meet;exact ⟨by simp [h1,h2],n2.u⟩
   case rest =>
    obtain ⟨rfl,NM⟩:=hcut;have HUX:=Lib.hid (eF.out.trans NM);have wM:wc.cell? ⟨w2.heap.size,0,none⟩=some (.int .i64 v):=q0 ⟨wc,NM⟩;have Ag:wc.cell? ⟨w2.heap.size,1,none⟩=some (.int .u32 p.lo):=q1 ⟨wc,NM⟩;have fU:wc.cell? ⟨w2.heap.size,2,none⟩=some (.int .u32 p.hi):=q2 ⟨wc,NM⟩;clear q0 q1 q2 NM HQ1 VB abS
    by_cases oz:v1=(y:Int)\/v2=(y:Int)
    ·have JU:(!(decide (v1=(y:Int))||decide (v2=(y:Int))))=false:=by rcases oz with h | h <;> simp [h]
     rw [JU];obtain ⟨p',a00,a01,a10,a11,F4⟩:=vO.out.four (HCX.out.2 oz)
     obtain rfl:p=p':=by have:=F4.at_;rw [HP.out.1] at this;cases this;rfl
     have rY:∀ {a:Nat},Deep K l a->a<=4294967295:=fun {a} ha=>by
      have h1:=ag.iZ ha.1;have h3:=vO.out.ok.wf.ok.lp;have h4:=vO.out.ok.wf.ok.pm;omega
     have HC4:Hid (rZ K l v y ⟨r,p.lo,p.hi,a00,a01,a10,a11⟩/\bY.R32 ⟨r,p.lo,p.hi,a00,a01,a10,a11⟩):=⟨⟨HCX.out.2 oz,p,F4,HP.out.2.2.1,rfl,rfl⟩,oQ,Vz,VA,rY F4.d00,rY F4.d01,rY F4.d10,rY F4.d11⟩;have HE0:=Lib.hid F4.e0;have Ir:=Lib.hid F4.e1;have aY:=heap_alloc_new wc (.cells #[.int .u32 r,.int .i64 v,.int .u32 p.lo,.int .u32 p.hi,.int .u32 0,.int .u32 0,.int .u32 0,.int .u32 0] 240 (0,0));have HU8:=Lib.hid ((HUX.out).alloc (.cells #[.int .u32 r,.int .i64 v,.int .u32 p.lo,.int .u32 p.hi,.int .u32 0,.int .u32 0,.int .u32 0,.int .u32 0] 240 (0,0)));have akQ:(wc.alloc (.cells #[.int .u32 r,.int .i64 v,.int .u32 p.lo,.int .u32 p.hi,.int .u32 0,.int .u32 0,.int .u32 0,.int .u32 0] 240 (0,0))).cell? ⟨w2.heap.size,1,none⟩=some (.int .u32 p.lo):=((af.refl [] wc).alloc _).fQ Ag;have akR:(wc.alloc (.cells #[.int .u32 r,.int .i64 v,.int .u32 p.lo,.int .u32 p.hi,.int .u32 0,.int .u32 0,.int .u32 0,.int .u32 0] 240 (0,0))).cell? ⟨w2.heap.size,2,none⟩=some (.int .u32 p.hi):=((af.refl [] wc).alloc _).fQ fU;have pO:=Lib.hid (And.intro aY (And.intro akQ akR));clear oz F4 rY aY JU;go_wp2_with fail;refine (Di b p.lo y K T q pl _ (HK.out _ (OE.out.trans HU8.out)).mem Vz HP.out.2.2.2.2.2.1 HP.out.2.2.2.2.2.2.1).mono ?_;rintro e w3 ⟨rfl,hu⟩;rw [HE0.out];have pF:=World.block_lt_of_cell? _ _ fU;have hBs:wr.heap.size<=wc.heap.size:=HUX.out.size;have o8:=Lib.hid (HU8.out.trans hu);have SN:=(hu.block wc.heap.size (ah pO.out.1) (by simp)).trans pO.out.1;have NP:=hu.fQ pO.out.2.2
     have hne:w2.heap.size≠wc.heap.size:=by
      have:w2.heap.size<wc.heap.size:=pF;omega
     obtain ⟨C,la,lc,rfl,hC1,hC2,hC3,hC4⟩:=HF.out.ex;have YS:=Lib.hid (And.intro hC1 (And.intro hC2 (And.intro hC3 hC4)));clear hC1 hC2 hC3 hC4 pF wM Ag fU hu HU8 pO;generalize wc.heap.size=B at *;have z4:=ae (j:=4) SN rfl;have z5:=ae (j:=5) SN rfl;have f4:=ax 4 SN;have f5:=ax 5 SN;have I8:=Lib.hid (((o8.out.setCell (p:=⟨B,4,none⟩) (.inr hBs) (.int .u32 a00)).setCell (p:=⟨B,5,none⟩) (.inr hBs) (.int .u32 a01)));have HB4:Hid ((((w3.setCell ⟨B,4,none⟩ (.int .u32 a00)).setCell ⟨B,5,none⟩ (.int .u32 a01))).heap[B]?=some (.cells #[.int .u32 r,.int .i64 v,.int .u32 p.lo,.int .u32 p.hi,.int .u32 a00,.int .u32 a01,.int .u32 0,.int .u32 0] 240 (0,0))):=aB (aB SN (.int .u32 a00)) (.int .u32 a01);clear SN;go_wp2_with fail;refine (Di b p.hi y K T q ph _ (HK.out _ (OE.out.trans I8.out)).mem VA HP.out.2.2.2.2.2.2.2.1 HP.out.2.2.2.2.2.2.2.2).mono ?_;rintro e w4 ⟨rfl,hu⟩;rw [Ir.out];have QE:=(hu.block B (ah HB4.out) (by simp)).trans HB4.out;have Jy:=Lib.hid ((((I8.out.trans hu).setCell (p:=⟨B,6,none⟩) (.inr hBs) (.int .u32 a10)).setCell (p:=⟨B,7,none⟩) (.inr hBs) (.int .u32 a11)));have HB5:Hid ((((w4.setCell ⟨B,6,none⟩ (.int .u32 a10)).setCell ⟨B,7,none⟩ (.int .u32 a11))).heap[B]?=some (.cells #[.int .u32 r,.int .i64 v,.int .u32 p.lo,.int .u32 p.hi,.int .u32 a00,.int .u32 a01,.int .u32 a10,.int .u32 a11] 240 (0,0))):=aB (aB QE (.int .u32 a10)) (.int .u32 a11);have y0:=ae (j:=0) QE rfl;have y1:=ae (j:=1) QE rfl;have y2:=ae (j:=2) QE rfl;have y3:=ae (j:=3) QE rfl;have y4:=ae (j:=4) QE rfl;have y5:=ae (j:=5) QE rfl;have y6:=ae (j:=6) QE rfl;have y7:=ae (j:=7) QE rfl;have g6:=ax 6 QE;have g7:=ax 7 QE;have bF:=Lib.hid (ai YS.out.2.2.2 fun k hk=>Jy.out.block k (YS.out.2.2.2.lt k hk).2 (by simp));have BQ:=Lib.hid (YR YS.out.1 YS.out.2.1 vO.out.ok.wf);have akS:((w4.setCell ⟨B,6,none⟩ (.int .u32 a10)).setCell ⟨B,7,none⟩ (.int .u32 a11)).heap[B]?=some (.cells #[.int .u32 r,.int .i64 v,.int .u32 p.lo,.int .u32 p.hi,.int .u32 a00,.int .u32 a01,.int .u32 a10,.int .u32 a11] 240 (0,0)):=HB5.out
     have HC8:Hid (∀ u,u∈bY.flat v ⟨r,p.lo,p.hi,a00,a01,a10,a11⟩->u.oneCell'=true):=by
      intro u hu
      simp [bY.flat] at hu
      rcases hu with rfl | rfl | rfl | rfl | rfl | rfl | rfl | rfl <;> rfl
     have HSZ:Hid (w1.heap.size<=w4.heap.size):=by
      have h1:=HF.out.up.size;have h2:=HUX.out.size;have h3:=(I8.out.trans hu).size
      show w1.heap.size<=w4.heap.size
      omega
     clear QE hu z4 z5 f4 f5 NP akS
     go_wp2_with (at_builtin;go_must (refine wpList_append_lies _ rfl (.tmp 78) (.tmp 80) 236 rfl w1.heap.size 240 ti _ 8 40 Tryz.underlying236 HI.out.1 HI.out.2.1 HI.out.2.2.1 HI.out.2.2.2 (by rfl) (by decide) _ C.length (nS v C) rfl (bF.out.alloc _) ⟨w4.heap.size,0,none⟩ 1 1 (bY.flat v ⟨r,p.lo,p.hi,a00,a01,a10,a11⟩) rfl rfl ?c1 HC8.out (by omega) (by unfold maxLen;have:=BQ.out;omega) (by have:=BQ.out;omega) ?c2 _ rfl ?_))
     case c1 =>
      have h1:=heap_alloc_new ((w4.setCell ⟨B,6,none⟩ (.int .u32 a10)).setCell ⟨B,7,none⟩ (.int .u32 a11)) (.cells #[.int .u32 r,.int .i64 v,.int .u32 p.lo,.int .u32 p.hi,.int .u32 a00,.int .u32 a01,.int .u32 a10,.int .u32 a11] 240 (0,0));rw [show ((w4.setCell ⟨B,6,none⟩ (.int .u32 a10)).setCell ⟨B,7,none⟩ (.int .u32 a11)).heap.size=w4.heap.size by simp [World.setCell]] at h1;exact World.news_of_block h1
     case c2=>(rw [World.size_alloc];have:=HSZ.out;simp [World.setCell];omega)
     intro g5 cap w5 aK dh bI kF
     have HE:Hid (Am w1 l v y K rs (i+1) (.slice (some ⟨g5,0,none⟩) (C.length+1) cap) w5) :=
      Am.push HRI.out.1 OU.out.1 HC4.out rfl YS.out.1 YS.out.2.1 YS.out.2.2.1 aK (((HF.out.up.trans Jy.out).alloc _).grown dh fun k hk=>.inr (YS.out.2.2.2.lt k hk).1)
     clear aK dh bI kF;go_wp2_with fail
     go_roundg (rs.length-(i+1))
     case measure=>omega
     case rel=>exact ⟨i+1,rfl,by omega,by simp,HE.out⟩
    ·have JU:(!(decide (v1=(y:Int))||decide (v2=(y:Int))))=true:=by
      rw [not_or] at oz
      simp [oz.1,oz.2]
     rw [JU];have HS:Hid (Am w1 l v y K rs (i+1) u7 wc):=(HF.out.keep HUX.out).skip HRI.out.1 (fun hc=>oz (HCX.out.1 hc));clear oz JU wM Ag fU;go_wp2_with fail
     go_roundg (rs.length-(i+1))
     case measure=>omega
     case rel=>exact ⟨i+1,rfl,by omega,by simp,HS.out⟩
  ·obtain rfl:i=rs.length:=by omega
   have fF:¬ ((rs.length:Int)<(rs.length:Int)):=by omega
   obtain ⟨C,la,lc,rfl,h1,h2,h3,h4⟩:=hF.ex
   have HE:Hid (Vu l x y K w (.returned (.slice la C.length lc)) wr):=by
    refine ⟨C,la,lc,rfl,⟨fun c hc=>(h1 c hc).1,h2,fun s hs=>(h3 s).2 ⟨?_,hs⟩⟩,fun c hc=>(h1 c hc).2,df h4 OU.out.2.2.2.size,OU.out.2.2.2.trans hF.up⟩;rw [List.take_length];obtain ⟨s2,p,hp,aH,hv,_⟩:=hs;exact (OU.out.2.1 s).2 ⟨s2,ag.aP.2 ⟨p,hp,aH⟩,by rw [KV.jK hp];exact hv⟩
   clear hF h1 h2 h3 h4;go_wp2_with fail;go_ret;exact HE.out
end Go.Proofs.YtfkopmhpppeheaaGreat
