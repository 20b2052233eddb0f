import Derived.Test.YtdackeldhdchaaaGreatPQ218
set_option maxRecDepth 100000
set_option maxHeartbeats 3200000
namespace Go.Proofs.YtdackeldhdchaaaGreat
open Go.RowKit Go.Maps Go.ChangeMaps Go.WideShapes
theorem aun.at_ {K:KV} {l x y:Nat} {c:CrV} (h:aun K l x y c):∃ p,K.A.list[c.r]?=some p/\p.taken=true/\p.var=(x:Int)/\p.lo=c.lo/\p.hi=c.hi/\aFE K l x y c.r p c.a00 c.a01 c.a10 c.a11:=by
 obtain ⟨p,F,hv,e1,e2⟩:=h.ex;exact ⟨p,F.at_,F.tk,hv,e1,e2,F⟩
theorem aR8 {C:List CrV} {i:Nat} {c:CrV} (nd:(C.map CrV.r).Nodup) (h:C[i]?=some c):c.r∉(C.take i).map CrV.r/\c.r∉(C.drop (i+1)).map CrV.r:=by
 rw [<- List.take_append_drop i C,List.map_append,(an9 h).1,List.map_cons,List.nodup_append,List.nodup_cons] at nd;exact ⟨fun hm=>nd.2.2 _ hm _ (by simp) rfl,nd.2.1.1⟩
structure aFH (b:Nat) (K:KV) (q:abM) (C:List CrV) (w:World) (i:Nat) (wr:World):Prop where
 ex:∃ T,abv wr b K T q/\afg T K ((C.take i).map CrV.r)
 up:Upd (q.all b) w wr
theorem aFH.step {b l x y i:Nat} {K:KV} {q:abM} {C:List CrV} {c:CrV} {w wr:World} (h:aFH b K q C w i wr) (hc:C[i]?=some c) (nb:Nb K l x y) (CA:aiH K l x y C) :
  ∃ T D,abv wr b K T q/\T[x]?=some D/\Maps.has D (nk x c.lo c.hi)=true/\c.lo<=4294967295/\c.hi<=4294967295 /\
   ∀ w',afl w' q.t (T.set x (D.del (nk x c.lo c.hi))) q.FT->Upd q.FT wr w'->aFH b K q C w (i+1) w':=by
 obtain ⟨T,hm,ht⟩:=h.ex;have atE:=List.mem_of_getElem? hc;obtain ⟨p,hp,hpt,hv,e1,e2,_⟩:=(CA.ok c atE).at_;have h2:2<=c.r:=(CA.ok c atE).cr.1;have hw:=nb.ok.wf;have h32:=hw.ok.u32 p (List.mem_of_getElem? hp);obtain ⟨hx,_⟩:=nb.facts
 have hlt:x<T.length:=by rw [ht.len];exact hx
 have hD:T[x]?=some T[x]:=List.getElem?_eq_getElem hlt;generalize T[x]=D at hD;have hn:=(aR8 CA.nd hc).1
 have hk:nkp p=nk x c.lo c.hi:=by unfold nkp;rw [hv,e1,e2]
 have hxn:p.var.toNat=x:=by omega
 have aJL:=(ht.at_ c.r p D h2 hp hpt hn (by rw [hxn];exact hD)).1;rw [hk] at aJL;have aN7:=ht.less hw h2 hn hp hpt hv hD;rw [hk] at aN7;refine ⟨T,D,hm,hD,aJL,by omega,by omega,fun w' ha hu=>⟨⟨_,hm.table ha hu,aN7.exc fun r=>?_⟩,h.up.trans (hu.mono fun k hk=>abM.mem.2 (.inr (.inr (.inl hk))))⟩⟩;rw [(an9 hc).2]
 simp [or_comm]
structure avK (b l x y:Nat) (K0:KV) (q0:abM) (N:List (Nat × Nat)) (w:World) (R:List Nat) (L:List (Nat × (Nat × Nat))) (K:KV) (T:List DM) (q:abM) (P:List Nat) (wr:World):Prop where
 st:∃ D M,St K0 l x y N R K T P D M/\∀ g,g∈L->Low K0 l x K g.1/\∀ z,D g.1 z=if z x then K0.den g.2.2 z else K0.den g.2.1 z
 mem:abv wr b K T q
 up:Upd (q0.all b) w wr
 sub:Sub (q0.all b) w (q.all b)
structure aJM (b l x y:Nat) (K0:KV) (q0:abM) (C:List CrV) (N:List (Nat × Nat)) (w:World) (i:Nat) (K:KV) (T:List DM) (q:abM) (P:List Nat) (wr:World):Prop where
 tx:avK b l x y K0 q0 N w ((C.drop i).map CrV.r) [] K T q P wr
 pe:P.Perm ((C.take i).flatMap fun c=>[c.lo,c.hi])
 nil:C=[]->K=K0
theorem avL:∀ C:List CrV,(C.flatMap fun c=>[c.lo,c.hi]).length=C.length*2
 | []=>rfl
 | c::C=>by rw [List.flatMap_cons,List.length_append,avL C,List.length_cons];simp;omega
theorem aFH.done {b l x y:Nat} {K:KV} {q:abM} {C:List CrV} {N:List (Nat × Nat)} {w wr:World} (h:aFH b K q C w C.length wr) (nb:Nb K l x y) (CA:aiH K l x y C):∃ T,aJM b l x y K q C N w 0 K T q [] wr:=by
 obtain ⟨T,hm,ht⟩:=h.ex;rw [List.take_length] at ht;exact ⟨T,⟨⟨⟨K.den,[],⟨Mid.start nb (fun r=>CA.iff r) CA.nd,nb.ok.wf,by rw [List.drop_zero];exact ht,nb.ok.pos,ar0.start K x N⟩,by simp⟩,hm,h.up,Sub.refl _ _⟩,by simp,fun _=>rfl⟩⟩
theorem aDr.got {K0 K K':KV} {l x y a d r:Nat} {R P:List Nat} {T:List DM} {N:List (Nat × Nat)} {D:Nat->(Nat->Bool)->Bool} {M:List (Nat × Nat)} (h:St K0 l x y N R K T P D M) (nb:Nb K0 l x y) (ha:Deep K0 l a) (hd:Deep K0 l d) (G:aDr K R x a d r K'):K'.Wf P/\K'.A.tk r=true:=by
 obtain ⟨D',hm,azQ,_⟩:=h.mid.get nb h.wf ha hd G;refine ⟨?_,azQ.1⟩;obtain ⟨hx,_⟩:=nb.facts
 have hxv:x<K.vars:=by rw [h.mid.vr];exact hx
 rcases G with ⟨_,_,rfl⟩ | ⟨_,_,rfl⟩ | ⟨_,Tk,_⟩
 ·exact h.wf
 ·exact h.wf
 ·exact Tk.wf h.wf (h.mid.tk ha.1) (h.mid.tk hd.1) ⟨by omega,by omega⟩
theorem St.getCall {K0 K:KV} {b l x y:Nat} {p:Nat × Nat} {N Q M:List (Nat × Nat)} {R P:List Nat} {T:List DM} {D:Nat->(Nat->Bool)->Bool} {q:abM} {w:World} (h:St K0 l x y N R K T P D M) (nb:Nb K0 l x y) (F:FrN K0 x Q N) (hq:p∈Q)
  (ha:Deep K0 l p.1) (hb:Deep K0 l p.2) (afQ:K0.A.used+N.length<=K0.A.places) (hm:abv w b K T q) (hP:P.length<=1000000000) :
  Calls Tryz.prog 146 #[.pointer (some ⟨b,0,none⟩),.int .i64 x,.int .u32 p.1,.int .u32 p.2] w fun e w'=>aDz b x p.1 p.2 K R q w e w':=by
 obtain ⟨hx,_⟩:=nb.facts
 have h32:∀ {a:Nat},Deep K0 l a->a<=4294967295:=fun {a} ha=>by
  have h1:=aaU.tk_lt ha.1;have h3:=nb.ok.wf.ok.lp;have h4:=nb.ok.wf.ok.pm;omega
 refine aJx b x p.1 p.2 K P R T q w hm h.wf h.ti (fun s hs=>h.mid.tk (Nb.cross_tk (h.mid.rc s hs))) hP (by rw [h.mid.vr];exact hx) (h.mid.tk ha.1) (h.mid.tk hb.1) (h32 ha) (h32 hb) fun hne hno=>?_
 exact (h.cnt.room F h.mid nb ha hb hq hne (fun ⟨s,c,h2,hc,hct,hv,e1,e2⟩=>hno s c (h.mid.has3_not nb hc (by rw [e1];exact ha) (by rw [e2];exact hb)) h2 hc hct ⟨hv,e1,e2⟩) afQ).2.2
theorem aiH.deep {K:KV} {l x y:Nat} {C:List CrV} (h:aiH K l x y C) {q:Nat × Nat} (hq:q∈C.flatMap CrV.qs):Deep K l q.1/\Deep K l q.2:=by
 obtain ⟨c,hc,hm⟩:=List.mem_flatMap.1 hq;obtain ⟨p,_,_,_,_,_,F⟩:=(h.ok c hc).at_
 simp [CrV.qs] at hm
 rcases hm with rfl | rfl
 ·exact ⟨F.d00,F.d10⟩
 ·exact ⟨F.d01,F.d11⟩
theorem aJN {b r:Nat} {K:KV} {T:List DM} {q:abM} {P:List Nat} {w:World} (hm:abv w b K T q) (hw:K.Wf P) (ht:K.A.tk r=true) (hP:P.length<=1000000000) :
  Calls Tryz.prog 147 #[.pointer (some ⟨b,0,none⟩),.int .u32 r] w fun e w'=>e=.returned (.tuple #[])/\abv w' b (K.useA r) T q/\Upd (q.all b) w w':=by
 have h1:=aaU.tk_lt ht;have h3:=hw.ok.lp;have h4:=hw.ok.pm;exact aCu b r K T q w hm (fun h2=>hw.tu r h2 ht) (fun h2=>by have:=hw.use_le h2 ht;omega) (by omega)
theorem St.noY {K0 K:KV} {l x y lo hi a00 a01 a10 a11 c:Nat} {p:abu} {N M:List (Nat × Nat)} {R P:List Nat} {T:List DM} {DY:DM} {D:Nat->(Nat->Bool)->Bool} (h:St K0 l x y N (c::R) K T P D M) (nb:Nb K0 l x y)
  (F4:aFE K0 l x y c p a00 a01 a10 a11) (dlo:∀ z,D lo z=if z x then K0.den a10 z else K0.den a00 z) (dhi:∀ z,D hi z=if z x then K0.den a11 z else K0.den a01 z)
  (h32:lo<=4294967295/\hi<=4294967295) (hD:T[y]?=some DY):Maps.has DY (nk y lo hi)=false:=by
 obtain ⟨_,hy,_⟩:=nb.facts
 have hyv:y<K.vars:=by rw [h.mid.vr];exact hy
 have hvs:=h.wf.vs
 cases hh:Maps.has DY (nk y lo hi) with
 | false=>rfl
 | true =>
  exfalso
  obtain ⟨s,q,h2,hq,hqt,hqv,hk,hs⟩:=h.ti.dom y DY _ hD hh;have h4:=h.wf.ok.u32 q (List.mem_of_getElem? hq);obtain ⟨e1,e2,e3⟩:=atK (wfI (by omega) (by omega)) (wfR h32.1) (wfR h32.2) (wfI (by rw [hqv];omega) (by rw [hqv];omega)) (wfR h4.1) (wfR h4.2.1) hk;exact h.mid.turn_new nb F4 dlo dhi h2 hq hqt hs ⟨hqv,e2.symm,e3.symm⟩
theorem avK.getCall {b l x y:Nat} {K0 K:KV} {q0 q:abM} {N Q:List (Nat × Nat)} {w wr w1:World} {R P:List Nat} {L:List (Nat × (Nat × Nat))} {T:List DM} {p:Nat × Nat} (h:avK b l x y K0 q0 N w R L K T q P wr)
  (nb:Nb K0 l x y) (F:FrN K0 x Q N) (hp:p∈Q) (ha:Deep K0 l p.1) (hd:Deep K0 l p.2) (afQ:K0.A.used+N.length<=K0.A.places) (u1:Upd [] wr w1) (hP:P.length<=1000000000) :
  Calls Tryz.prog 146 #[.pointer (some ⟨b,0,none⟩),.int .i64 x,.int .u32 p.1,.int .u32 p.2] w1 fun e w'=>aDz b x p.1 p.2 K R q w1 e w':=by
 obtain ⟨D,M,st,_⟩:=h.st;exact st.getCall nb F hp ha hd afQ (h.mem.upd u1 (by simp)) hP
theorem avK.useCall {b l x y r:Nat} {K0 K K':KV} {q0 q q':abM} {N:List (Nat × Nat)} {w wr w2:World} {R P:List Nat} {L:List (Nat × (Nat × Nat))} {T T':List DM} {p:Nat × Nat} (h:avK b l x y K0 q0 N w R L K T q P wr)
  (nb:Nb K0 l x y) (ha:Deep K0 l p.1) (hd:Deep K0 l p.2) (G:aDr K R x p.1 p.2 r K') (m:abv w2 b K' T' q') (hP:P.length<=1000000000) :
  Calls Tryz.prog 147 #[.pointer (some ⟨b,0,none⟩),.int .u32 r] w2 fun e w'=>e=.returned (.tuple #[])/\abv w' b (K'.useA r) T' q'/\Upd (q'.all b) w2 w':=by
 obtain ⟨D,M,st,_⟩:=h.st;obtain ⟨hw,ht⟩:=aDr.got st nb ha hd G;exact aJN m hw ht hP
theorem aup {w:World} {z:Nat} {v0 v1 v2 v3 v4 v5 v6 v7:Value} {t:TypeId} (h:w.heap[z]?=some (.cells #[v0,v1,v2,v3,v4,v5,v6,v7] t (0,0))) :
  w.cell? ⟨z,0,none⟩=some v0/\w.cell? ⟨z,2,none⟩=some v2/\w.cell? ⟨z,3,none⟩=some v3/\w.cell? ⟨z,4,none⟩=some v4/\w.cell? ⟨z,5,none⟩=some v5/\w.cell? ⟨z,6,none⟩=some v6/\w.cell? ⟨z,7,none⟩=some v7 :=
 ⟨aac h rfl,aac h rfl,aac h rfl,aac h rfl,aac h rfl,aac h rfl,aac h rfl⟩
theorem avK.get {b l x y r:Nat} {K0 K K':KV} {q0 q q':abM} {N Q:List (Nat × Nat)} {w wr w1 w2 w3:World} {R P:List Nat} {L:List (Nat × (Nat × Nat))} {T T':List DM} {p:Nat × Nat} (h:avK b l x y K0 q0 N w R L K T q P wr)
  (nb:Nb K0 l x y) (F:FrN K0 x Q N) (hp:p∈Q) (ha:Deep K0 l p.1) (hd:Deep K0 l p.2) (afQ:K0.A.used+N.length<=K0.A.places) (u1:Upd [] wr w1) (G:aDr K R x p.1 p.2 r K') (ti:afg T' K' R) (u2:Upd (q.all b) w1 w2) (s2:Sub (q.all b) w1 (q'.all b))
  (m3:abv w3 b (K'.useA r) T' q') (u3:Upd (q'.all b) w2 w3):avK b l x y K0 q0 N w R ((r,p)::L) (K'.useA r) T' q' (r::P) w3:=by
 obtain ⟨D,M,st,hL⟩:=h.st;obtain ⟨D',M',st',azQ,az8,auo,aJI⟩:=st.get nb F hp ha hd afQ G ti
 have hs:Sub (q0.all b) w (q'.all b):=fun k hk=>by
  rcases s2 k hk with h1 | h1
  ·exact h.sub k h1
  ·have:=h.up.size;have:=u1.size;right;omega
 refine ⟨⟨D',M',st',fun g hg=>?_⟩,m3,((h.up.trans (u1.mono (by simp))).then u2 fun k hk=>?_).then u3 fun k hk=>hs k hk,hs⟩
 ·rcases List.mem_cons.1 hg with rfl | hg
  ·exact ⟨azQ,az8⟩
  ·obtain ⟨g1,g2⟩:=hL g hg
   exact ⟨g1.mono fun c hc hct=>aJI _ c hc hct,fun z=>by rw [auo _ g1.1];exact g2 z⟩
 ·exact h.sub k hk
theorem avK.setCall {b l x y lo hi:Nat} {K0 K:KV} {q0 q:abM} {N:List (Nat × Nat)} {w wr w1:World} {R P:List Nat} {T:List DM} {c:CrV} (h:avK b l x y K0 q0 N w (c.r::R) [(hi,(c.a01,c.a11)),(lo,(c.a00,c.a10))] K T q (hi::lo::P) wr)
  (nb:Nb K0 l x y) (hc:aun K0 l x y c) (u1:Upd [] wr w1) :
  Calls Tryz.prog 148 #[.pointer (some ⟨q.a,0,none⟩),.int .u32 c.r,.agg #[.int .i64 y,.int .u32 lo,.int .u32 hi]] w1 fun e w'=>e=.returned (.int .i64 0)/\∃ q1,abv w' b (K.turnN c.r y lo hi) T q1/\q1.all b=q.all b/\q1.t=q.t/\q1.a=q.a/\Upd (q.all b) w1 w':=by
 obtain ⟨D,M,st,hL⟩:=h.st;obtain ⟨p,hp0,hpt,_,_,_,_⟩:=hc.at_;have hp:=st.mid.old c.r p hp0 hpt (.inr (by simp));have t1:=(hL (lo,(c.a00,c.a10)) (by simp)).1.1;have t2:=(hL (hi,(c.a01,c.a11)) (by simp)).1.1;have hm:=h.mem.upd u1 (by simp)
 have lt:∀ {a:Nat},K.A.tk a=true->a<=4294967295:=fun {a} ha=>by
  have h1:=aaU.tk_lt ha;have h3:=st.wf.ok.lp;have h4:=st.wf.ok.pm;omega
 obtain ⟨_,hy,_⟩:=nb.facts;have hvs:=nb.ok.wf.vs;refine (aML q.a q.FA c.r lo hi y K.A p w1 hm.ar (lt (aaU.tk_iff.2 ⟨p,hp,hpt⟩)) hc.cr.1 hp hpt ⟨lt t1,lt t2⟩ (by omega) t1 t2).mono ?_;rintro e w' ⟨rfl,ha,hu⟩;exact ⟨rfl,_,hm.arena ha hu (Sub.refl _ _),rfl,rfl,rfl,hu.mono fun k hk=>abM.mem.2 (.inr (.inl hk))⟩
theorem avK.addCall {b l x y lo hi:Nat} {K0 K:KV} {q0 q q1:abM} {N:List (Nat × Nat)} {w wr w1:World} {R P:List Nat} {T:List DM} {c:CrV} (h:avK b l x y K0 q0 N w (c.r::R) [(hi,(c.a01,c.a11)),(lo,(c.a00,c.a10))] K T q (hi::lo::P) wr)
  (nb:Nb K0 l x y) (hc:aun K0 l x y c) (m1:abv w1 b (K.turnN c.r y lo hi) T q1) :
  ∃ DY,T[y]?=some DY/\Calls Tryz.prog 149 #[.pointer (some ⟨q1.t,0,none⟩),.agg #[.int .i64 y,.int .u32 lo,.int .u32 hi],.int .u32 c.r] w1 fun e w' =>
   e=.returned (.int .i64 0)/\abv w' b (K.turnN c.r y lo hi) (T.set y (DY.put (nk y lo hi) (.lit (.int .u32 c.r)))) q1/\Upd (q1.all b) w1 w':=by
 obtain ⟨D,M,st,hL⟩:=h.st;obtain ⟨p,hp0,hpt,_,_,_,F4⟩:=hc.at_;obtain ⟨g1,g1d⟩:=hL (lo,(c.a00,c.a10)) (by simp);obtain ⟨g2,g2d⟩:=hL (hi,(c.a01,c.a11)) (by simp)
 have lt:∀ {a:Nat},K.A.tk a=true->a<=4294967295:=fun {a} ha=>by
  have h1:=aaU.tk_lt ha;have h3:=st.wf.ok.lp;have h4:=st.wf.ok.pm;omega
 obtain ⟨_,hy,_⟩:=nb.facts
 have hlt:y<T.length:=by rw [st.ti.len,st.mid.vr];exact hy
 have hD:T[y]?=some T[y]:=List.getElem?_eq_getElem hlt;generalize T[y]=DY at hD;have hno:=st.noY nb F4 g1d g2d ⟨lt g1.1,lt g2.1⟩ hD
 have hsz:Maps.size DY<maxLen:=by
  obtain ⟨_,_,_,_,_,_,_,_,ho⟩:=m1.tab.cells hD;have:=st.ti.size st.wf hD (ho.canon adh) (ho.tidy adh)
  unfold maxLen;omega
 have hcr:c.r<=4294967295:=lt (st.mid.tk (Nb.cross_tk hc.cr));refine ⟨DY,hD,(aDC q1.t q1.FT y lo hi c.r T DY w1 m1.tab hD (lt g1.1) (lt g2.1) hcr hno hsz).mono ?_⟩;rintro e w' ⟨rfl,ha,hu⟩;exact ⟨rfl,m1.table ha hu,hu.mono fun k hk=>abM.mem.2 (.inr (.inr (.inl hk)))⟩
theorem aJM.step {b l x y i lo hi:Nat} {K0 K1 K:KV} {q0 q1 q q2:abM} {C:List CrV} {N:List (Nat × Nat)} {w wr1 wr w1 w2 w3 w4:World} {P:List Nat} {T1 T:List DM} {DY:DM} {c:CrV} (h:aJM b l x y K0 q0 C N w i K1 T1 q1 P wr1) (hc:C[i]?=some c)
  (hx:avK b l x y K0 q0 N w (c.r::(C.drop (i+1)).map CrV.r) [(hi,(c.a01,c.a11)),(lo,(c.a00,c.a10))] K T q (hi::lo::P) wr)
  (nb:Nb K0 l x y) (CA:aiH K0 l x y C) (F:FrN K0 x (C.flatMap CrV.qs) N) (hD:T[y]?=some DY) (u1:Upd [] wr w1) (u2:Upd (q.all b) w1 w2) (hq:q2.all b=q.all b) (u3:Upd [] w2 w3) (m4:abv w4 b (K.turnN c.r y lo hi) (T.set y (DY.put (nk y lo hi) (.lit (.int .u32 c.r)))) q2)
  (u4:Upd (q2.all b) w3 w4):aJM b l x y K0 q0 C N w (i+1) (K.turnN c.r y lo hi) (T.set y (DY.put (nk y lo hi) (.lit (.int .u32 c.r)))) q2 (c.lo::c.hi::P) w4:=by
 obtain ⟨D,M,st,hL⟩:=hx.st;have atE:=List.mem_of_getElem? hc;obtain ⟨p,hp0,hpt,_,e1,e2,F4⟩:=(CA.ok c atE).at_;obtain ⟨g1,g1d⟩:=hL (lo,(c.a00,c.a10)) (by simp);obtain ⟨g2,g2d⟩:=hL (hi,(c.a01,c.a11)) (by simp)
 have lt:∀ {a:Nat},K.A.tk a=true->a<=4294967295:=fun {a} ha=>by
  have h1:=aaU.tk_lt ha;have h3:=st.wf.ok.lp;have h4:=st.wf.ok.pm;omega
 have st':=st.turn nb F (fun q hq=>CA.deep hq) F4 g1 g2 g1d g2d ⟨lt g1.1,lt g2.1⟩ hD;rw [e1,e2] at st'
 have hs:Sub (q0.all b) w (q2.all b):=by rw [hq];exact hx.sub
 refine ⟨⟨⟨D,M,st',by simp⟩,m4,(((hx.up.trans (u1.mono (by simp))).then u2 fun k hk=>hx.sub k hk).trans (u3.mono (by simp))).then u4 fun k hk=>hs k hk,hs⟩,?_,fun e=>by rw [e] at hc;simp at hc⟩;rw [(an9 hc).2,List.flatMap_append];have:=h.pe;refine (List.Perm.append_left [c.lo,c.hi] this).trans ?_
 simp only [List.flatMap_cons,List.flatMap_nil,List.append_nil]
 exact List.perm_append_comm
structure avM (b:Nat) (Ke:KV) (q0:abM) (S:List Nat) (w:World) (K:KV) (T:List DM) (q:abM) (wr:World):Prop where
 mem:abv wr b K T q
 wf:K.Wf S
 ti:afg T K []
 le:K.Le Ke
 pos:K.Pos
 up:Upd (q0.all b) w wr
 sub:Sub (q0.all b) w (q.all b)
theorem avM.step {b r:Nat} {Ke K K':KV} {q0 q q':abM} {S:List Nat} {w wr w':World} {T T':List DM} (h:avM b Ke q0 (r::S) w K T q wr) (R:atL wr b K S q [] w' K' T' q'):avM b Ke q0 S w K' T' q' w' :=
 ⟨R.mem,by simpa using R.wf,R.ti,R.le.trans h.le,R.pos h.pos,h.up.then R.up fun k hk=>h.sub k hk,fun k hk=>by
  rcases R.sub k hk with hk | hk
  ·exact h.sub k hk
  ·have:=h.up.size;right;omega⟩
theorem avM.keep0 {b:Nat} {Ke K:KV} {q0 q:abM} {S:List Nat} {w wr w':World} {T:List DM} (h:avM b Ke q0 S w K T q wr) (u:Upd [] wr w'):avM b Ke q0 S w K T q w' :=
 ⟨h.mem.upd u (by simp),h.wf,h.ti,h.le,h.pos,h.up.trans (u.mono (by simp)),h.sub⟩
theorem avM.call {b r:Nat} {Ke K:KV} {q0 q:abM} {S:List Nat} {w wr:World} {T:List DM} (h:avM b Ke q0 (r::S) w K T q wr) (hS:S.length<=1000000000) :
  Calls Tryz.prog 88 #[.pointer (some ⟨b,0,none⟩),.int .u32 r] wr fun e w'=>e=.returned (.tuple #[])/\∃ K' T' q',avM b Ke q0 S w K' T' q' w'/\Upd (q.all b) wr w'/\Sub (q.all b) wr (q'.all b):=by
 have ht:=h.wf.pt r (by simp);have h1:=aaU.tk_lt ht;have h3:=h.wf.ok.lp;have h4:=h.wf.ok.pm;refine (auq b r K S T q wr h.mem h.wf h.ti hS (by omega)).mono ?_;rintro e w' ⟨he,K',T',q',R⟩;exact ⟨he,K',T',q',h.step R,R.up,R.sub⟩
theorem aCs.of {K Ke K3:KV} {l x y:Nat} {P:List Nat} {D:Nat->(Nat->Bool)->Bool} (nb:Nb K l x y) (m:Mid K l x y [] Ke D) (hwe:Ke.Wf P) (hui:Ke.Uni) (le:K3.Le Ke) (hw:K3.Wf []) (aAe:K3.Pos):(K3.swapK l).Ok/\aCs K l (K3.swapK l):=by
 have ho:K3.order=K.order:=le.od.trans m.od
 have e:K3.swapK l=K3.swapO l x y:=by
  unfold KV.swapK KV.swapO;rw [ho,nb.hx,nb.hy]
 obtain ⟨ayM,az8⟩:=m.done nb hwe
 have aMM:(K3.swapO l x y).Ext (Ke.swapO l x y):=by
  refine ⟨le.nd,le.pl.symm,le.vr.symm,?_,?_⟩
  ·show (Ke.order.set l y).set (l+1) x=(K3.order.set l y).set (l+1) x
   rw [le.od]
  ·show (Ke.level.set x (l+1)).set y l=(K3.level.set x (l+1)).set y l
   rw [le.lv]
 have hw':(K3.swapO l x y).Wf []:=hw.swapO l x y;rw [e];refine ⟨⟨hw',aAe,aMM.ord_down hw' ayM,fun t ht=>?_⟩,⟨le.vr.trans m.vr,le.pl.trans m.pl,?_,fun r=>?_,le.tr.trans m.tr,fun r t0 t1 z=>?_,fun r s t0 t1 hd=>?_⟩⟩
 ·have ht':t∈K3.trail:=ht
  rw [le.tr,m.tr] at ht'
  show t+2<=K3.vars
  rw [le.vr,m.vr];exact nb.ok.tl t ht'
 ·show (K3.order.set l y).set (l+1) x=_
  rw [ho,nb.hx,nb.hy]
 ·show K3.hold r=_
  rw [<- m.hd r]
  unfold KV.hold;rw [le.hd]
 ·rw [<- aMM.den hw' z t1,az8 r (m.tk t0) z,m.dold r t0 z]
 ·have aV4:(Ke.swapO l x y).Wf P:=hwe.swapO l x y
  refine KV.canon aV4 ayM hui _ r s (m.tk t0) (aMM.tk t1) (Nat.le_refl _) fun z=>?_
  rw [az8 r (m.tk t0) z,m.dold r t0 z,hd z,aMM.den hw' z t1]
theorem Tryz.infoCrossing:(Tryz.prog.info? 226).map (fun i=>(i.zero,i.size,i.bytes))=some (some (.agg #[.int .u32 0,.int .i64 0,.int .u32 0,.int .u32 0,.int .u32 0,.int .u32 0,.int .u32 0,.int .u32 0]),8,40):=by kernel_rfl
theorem aDD (a b c:Value) (z:World):(Instr.field 142 (.agg #[a,b,c]) 0).run Tryz.prog z=.ok a z:=by kernel_rfl
structure aGD (K:KV) (x:Nat) (w:World) (e:Ending) (w':World):Prop where
 ex:∃ (rs:List Nat) (a:Option Addr) (c:Nat),e=.returned (.tuple #[.slice a rs.length c,.int .i64 0])/\rs.Nodup/\(∀ r,r∈rs↔(2<=r/\K.A.tk r=true/\K.vI r=(x:Int))) /\
  w'.ownsRow w.heap.size 77 1 (.slice a rs.length c) rs.length (ach rs)/\Upd [] w w'
structure axj (w:World) (l x y:Nat) (K:KV) (rs:List Nat) (i:Nat) (s7:Value) (wr:World):Prop where
 ex:∃ (C:List CrV) (la:Option Addr) (lc:Nat),s7=.slice la C.length lc/\(∀ c,c∈C->aun K l x y c/\c.R32)/\(C.map CrV.r).Nodup/\(∀ r,r∈C.map CrV.r↔r∈rs.take i/\K.Cross x y r) /\
  wr.ownsRow w.heap.size 226 8 (.slice la C.length lc) C.length (amN x C)
 up:Upd [] w wr
theorem aMN {K:KV} {l x y:Nat} {C:List CrV} (h:∀ c,c∈C->aun K l x y c/\c.R32) (nd:(C.map CrV.r).Nodup) (hk:K.Wf []):C.length<=1048576:=by
 have h1:(C.map CrV.r).length<=(List.range 1048576).length:=List.Nodup.length_le_of_subset nd fun r hr=>by
  obtain ⟨c,hc,rfl⟩:=List.mem_map.1 hr;have ht:=Nb.cross_tk (h c hc).1.cr;have h2:=aaU.tk_lt ht;have h3:=hk.ok.lp;have h4:=hk.ok.pm;exact List.mem_range.2 (by omega)
 simpa using h1
theorem axj.keep {w wr w2:World} {l x y i:Nat} {K:KV} {rs:List Nat} {s7:Value} (h:axj w l x y K rs i s7 wr) (u:Upd [] wr w2):axj w l x y K rs i s7 w2:=by
 obtain ⟨C,la,lc,e,h1,h2,h3,h4⟩:=h.ex;exact ⟨⟨C,la,lc,e,h1,h2,h3,aaX h4 fun k hk=>u.block k (h4.lt k hk).2 (by simp)⟩,h.up.trans u⟩
theorem axj.skip {w wr:World} {l x y i r:Nat} {K:KV} {rs:List Nat} {s7:Value} (h:axj w l x y K rs i s7 wr) (hr:rs[i]?=some r) (hno:¬ K.Cross x y r):axj w l x y K rs (i+1) s7 wr:=by
 obtain ⟨C,la,lc,e,h1,h2,h3,h4⟩:=h.ex;refine ⟨⟨C,la,lc,e,h1,h2,fun s=>?_,h4⟩,h.up⟩;rw [h3,List.take_add_one,hr];constructor
 ·rintro ⟨a,b⟩;exact ⟨List.mem_append_left _ a,b⟩
 ·rintro ⟨a,b⟩
  rcases List.mem_append.1 a with a | a
  ·exact ⟨a,b⟩
  ·simp at a;subst a;exact absurd b hno
theorem axj.push {w w6:World} {l x y i r g cap:Nat} {K:KV} {rs:List Nat} {C:List CrV} {c:CrV} (hr:rs[i]?=some r) (hnd:rs.Nodup) (hc:aun K l x y c/\c.R32) (ec:c.r=r)
  (h1:∀ c,c∈C->aun K l x y c/\c.R32) (h2:(C.map CrV.r).Nodup) (h3:∀ r,r∈C.map CrV.r↔r∈rs.take i/\K.Cross x y r)
  (ab3:w6.ownsRow w.heap.size 226 8 (.slice (some ⟨g,0,none⟩) (C.length+1) cap) (C.length+1) (amN x C++c.flat x)) (u:Upd [] w w6):axj w l x y K rs (i+1) (.slice (some ⟨g,0,none⟩) (C.length+1) cap) w6:=by
 have hno:r∉rs.take i:=fun hm=>by
  have nd:=hnd;rw [<- List.take_append_drop i rs,(an9 hr).1,List.nodup_append] at nd;exact nd.2.2 _ hm _ (by simp) rfl
 have hlen:(C++[c]).length=C.length+1:=by simp
 refine ⟨⟨C++[c],some ⟨g,0,none⟩,cap,by rw [hlen],fun d hd=>?_,?_,fun s=>?_,?_⟩,u⟩
 ·rcases List.mem_append.1 hd with hd | hd
  ·exact h1 d hd
  ·simp at hd;subst hd;exact hc
 ·rw [List.map_append,List.nodup_append]
  refine ⟨h2,by simp,fun a ha b hb e=>?_⟩
  simp at hb
  subst e;rw [hb,ec] at ha;exact hno ((h3 r).1 ha).1
 ·rw [List.map_append,List.mem_append,h3,List.take_add_one,hr,List.mem_append]
  simp only [List.map_cons,List.map_nil,List.mem_singleton,Option.toList_some,ec]
  constructor
  ·rintro (⟨a,b⟩ | rfl)
   ·exact ⟨.inl a,b⟩
   ·exact ⟨.inr rfl,ec ▸ hc.1.cr⟩
  ·rintro ⟨a | rfl,b⟩
   ·exact .inl ⟨a,b⟩
   ·exact .inr rfl
 ·rw [hlen]
  have:amN x (C++[c])=amN x C++c.flat x:=by simp [amN]
  rw [this];exact ab3
theorem ayS (b l x y:Nat) (K:KV) (T:List DM) (q:abM) (w:World) (h:afF w b K T q) (nb:Nb K l x y)
  (HREF:∀ w0:World,Upd [] w w0->Calls Tryz.prog 187 #[.pointer (some ⟨q.t,0,none⟩),.int .i64 x] w0 fun e w'=>aGD K x w0 e w') :
  Calls Tryz.prog 142 #[.pointer (some ⟨b,0,none⟩),.int .i64 x,.int .i64 y] w fun e w'=>aJJ l x y K w e w':=by
 obtain ⟨ti,hi,hz,hs,hb⟩:=info_parts Tryz.infoCrossing;have HI:=Lib.hid (And.intro hi (And.intro hz (And.intro hs hb)));have c1:w.cell? ⟨b,1,none⟩=some (.pointer (some ⟨q.t,0,none⟩)):=aac h.mem.blk rfl
 have HK:Hid (∀ z:World,Upd [] w z->afF z b K T q):=fun z u=>h.upd u (by simp)
 have HNB:=Lib.hid nb;have HR:=Lib.hid (HREF w (Upd.refl _ _));clear h nb HREF hi hz hs hb
 go_enter Tryz.func142,Tryz.ntmps142
 go_wp2_with fail;refine HR.out.mono ?_;rintro e w1 hE;obtain ⟨rs,a,c,rfl,hnd,atE,abP,hu⟩:=hE.ex;have HRS:=Lib.hid (And.intro hnd (And.intro atE (And.intro abP hu)))
 have hrl:rs.length<=1048576:=by
  have h1:rs.length<=(List.range 1048576).length:=List.Nodup.length_le_of_subset hnd fun r hr=>by
   have ht:=((atE r).1 hr).2.1;have h2:=aaU.tk_lt ht;have h3:=HNB.out.ok.wf.ok.lp;have h4:=HNB.out.ok.wf.ok.pm;exact List.mem_range.2 (by omega)
  simpa using h1
 clear hE hnd atE abP hu HR c1;go_wp2_with fail
 go_loopg [7,26] rs.length (fun gg s7 s26 wr=>∃ i:Nat,rs.length-i=gg/\i<=rs.length/\s26=.int .i64 i/\axj w1 l x y K rs i s7 wr)
 case atStart=>exact ⟨0,by omega,by omega,rfl,⟨⟨[],none,0,rfl,by simp,by simp,by simp,World.ownsRow_nil _ _ _ _⟩,Upd.refl _ _⟩⟩
 case round =>
  obtain ⟨i,rfl,hi,rfl,hF⟩:=hrel
  by_cases hlt:i<rs.length
  ·obtain ⟨r,hr⟩ : ∃ r,rs[i]?=some r:=⟨_,List.getElem?_eq_getElem hlt⟩
   have abP:=aaX HRS.out.2.2.1 fun k hk=>hF.up.block k (HRS.out.2.2.1.lt k hk).2 (by simp)
   obtain ⟨gr,rfl⟩:=aeP abP (by omega);have cf:=abf abP (j:=i) (u:=.int .u32 r) (by simp [ach,hr]);obtain ⟨r2,rt,rv⟩:=(HRS.out.2.1 r).1 (List.mem_of_getElem? hr);obtain ⟨p,v,hp,hpt,hpv,hvl,tlo,thi,avw⟩:=HNB.out.ok.wf.node_at r2 rt
   have hvx:v=x:=by rw [KV.vI_at hp,hpv] at rv;omega
   subst hvx;obtain ⟨pl,hpl,aR9⟩:=aaU.tk_iff.1 tlo;obtain ⟨ph,hph,aSb⟩:=aaU.tk_iff.1 thi;have aJQ:p.lo<=4294967295:=(HNB.out.ok.wf.ok.u32 p (List.mem_of_getElem? hp)).1;have aJT:p.hi<=4294967295:=(HNB.out.ok.wf.ok.u32 p (List.mem_of_getElem? hp)).2.1
   have amm:r<=4294967295:=by
    have h1:=aaU.tk_lt rt;have h3:=HNB.out.ok.wf.ok.lp;have h4:=HNB.out.ok.wf.ok.pm;omega
   have hil:(i:Int)<(rs.length:Int):=by omega
   have HUW:Hid (Upd [] w wr):=HRS.out.2.2.2.trans hF.up;have HN:=Lib.hid (aiS b r K T q p wr (HK.out wr HUW.out).mem amm hp hpt);have HP:=Lib.hid (And.intro hp (And.intro hpt (And.intro hpv (And.intro tlo (And.intro thi (And.intro hpl (And.intro aR9 (And.intro hph aSb))))))));have HRI:=Lib.hid (And.intro hr (And.intro r2 avw));have HF:=Lib.hid hF;rw [hpv] at HN;clear hF abP hr rt rv hp hpt hpv tlo thi hpl aR9 hph aSb r2 avw;go_wp2_with fail;refine HN.out.mono ?_;rintro e w2 ⟨rfl,hu⟩;have HU2:=Lib.hid (hu.alloc (.cells #[.int .i64 v,.int .u32 p.lo,.int .u32 p.hi] 142 (0,0)));have hbx:=heap_alloc_new w2 (.cells #[.int .i64 v,.int .u32 p.lo,.int .u32 p.hi] 142 (0,0));obtain ⟨wz,hwz⟩ : ∃ wz,w2.alloc (.cells #[.int .i64 v,.int .u32 p.lo,.int .u32 p.hi] 142 (0,0))=wz:=⟨_,rfl⟩
   have q0:∀ z:Still wz,z.x.cell? ⟨w2.heap.size,0,none⟩=some (.int .i64 v):=fun z=>z.cell (by rw [<- hwz];exact aac hbx rfl)
   have q1:∀ z:Still wz,z.x.cell? ⟨w2.heap.size,1,none⟩=some (.int .u32 p.lo):=fun z=>z.cell (by rw [<- hwz];exact aac hbx rfl)
   have q2:∀ z:Still wz,z.x.cell? ⟨w2.heap.size,2,none⟩=some (.int .u32 p.hi):=fun z=>z.cell (by rw [<- hwz];exact aac hbx rfl)
   rw [hwz] at HU2;have HWZ:=Lib.hid hwz
   have HQ1:Hid (∀ z:Still wz,Calls Tryz.prog 135 #[.pointer (some ⟨b,0,none⟩),.int .u32 p.lo] z.x fun e w'=>e=.returned (.agg #[.int .i64 pl.var,.int .u32 pl.lo,.int .u32 pl.hi])/\∃ m:Still wz,w'=m.x):=fun z =>
    (aiS b p.lo K T q pl z.x (HK.out _ (HUW.out.trans (HU2.out.trans z.u))).mem aJQ HP.out.2.2.2.2.2.1 HP.out.2.2.2.2.2.2.1).mono fun _ _ ⟨a,u⟩=>⟨a,⟨_,z.u.trans u⟩,rfl⟩
   have HQ2:Hid (∀ z:Still wz,Calls Tryz.prog 135 #[.pointer (some ⟨b,0,none⟩),.int .u32 p.hi] z.x fun e w'=>e=.returned (.agg #[.int .i64 ph.var,.int .u32 ph.lo,.int .u32 ph.hi])/\∃ m:Still wz,w'=m.x):=fun z =>
    (aiS b p.hi K T q ph z.x (HK.out _ (HUW.out.trans (HU2.out.trans z.u))).mem aJT HP.out.2.2.2.2.2.2.2.1 HP.out.2.2.2.2.2.2.2.2).mono fun _ _ ⟨a,u⟩=>⟨a,⟨_,z.u.trans u⟩,rfl⟩
   have HV:Hid (K.vI p.lo=pl.var/\K.vI p.hi=ph.var):=⟨KV.vI_at HP.out.2.2.2.2.2.1,KV.vI_at HP.out.2.2.2.2.2.2.2.1⟩
   have HCX:Hid (K.Cross v y r↔(pl.var=(y:Int)\/ph.var=(y:Int))):=by
    rw [<- HV.out.1,<- HV.out.2];exact ⟨fun ⟨_,p',hp',_,_,hk⟩=>by rw [HP.out.1] at hp';cases hp';exact hk,fun hk=>⟨HRI.out.2.1,p,HP.out.1,HP.out.2.1,HP.out.2.2.1,hk⟩⟩
   generalize pl.var=v1 at *;generalize ph.var=v2 at *;clear hu hbx hwz HN;have aPu:=aDD;go_upto_region 7 with fail;rw [HWZ.out]
   go_cut [54] from 35 to 54 (fun s54 wx=>s54=.bool (!(decide (v1=(y:Int))||decide (v2=(y:Int))))/\Upd [] wz wx)
   case first =>
    by_cases h1:v1=(y:Int)
    ·subst h1
     refine wp_region_still (by kernel_rfl) (by kernel_rfl) ?_
     repeat (first | go_big_quiet_step ((first | (go_at_call_of 135 (Value.int IntKind.u32 (p.lo:Int));exact HQ1.out _) | (go_at_call_of 135 (Value.int IntKind.u32 (p.hi:Int));exact HQ2.out _))) | quiet_step ((first | (go_at_call_of 135 (Value.int IntKind.u32 (p.lo:Int));exact HQ1.out _) | (go_at_call_of 135 (Value.int IntKind.u32 (p.hi:Int));exact HQ2.out _))))
     refine wpQuiet_nil ?_;rintro _ ⟨n2,rfl⟩;go_wp2_with fail;go_meet;exact ⟨by simp,n2.u⟩
    ·have e1:(v1 == (y:Int))=false:=by simpa using h1
     have e2:decide (v1=(y:Int))=false:=decide_eq_false h1
     by_cases h2:v2=(y:Int)
     ·subst h2
      refine wp_region_still (by kernel_rfl) (by kernel_rfl) ?_
      repeat (first | go_big_quiet_step ((first | (go_at_call_of 135 (Value.int IntKind.u32 (p.lo:Int));exact HQ1.out _) | (go_at_call_of 135 (Value.int IntKind.u32 (p.hi:Int));exact HQ2.out _))) | quiet_step ((first | (go_at_call_of 135 (Value.int IntKind.u32 (p.lo:Int));exact HQ1.out _) | (go_at_call_of 135 (Value.int IntKind.u32 (p.hi:Int));exact HQ2.out _))))
      refine wpQuiet_nil ?_;rintro _ ⟨n2,rfl⟩;go_wp2_with fail;go_meet;exact ⟨by simp,n2.u⟩
     ·have e3:(v2 == (y:Int))=false:=by simpa using h2
      have e4:decide (v2=(y:Int))=false:=decide_eq_false h2;refine wp_region_still (by kernel_rfl) (by kernel_rfl) ?_
      repeat (first | go_big_quiet_step ((first | (go_at_call_of 135 (Value.int IntKind.u32 (p.lo:Int));exact HQ1.out _) | (go_at_call_of 135 (Value.int IntKind.u32 (p.hi:Int));exact HQ2.out _))) | quiet_step ((first | (go_at_call_of 135 (Value.int IntKind.u32 (p.lo:Int));exact HQ1.out _) | (go_at_call_of 135 (Value.int IntKind.u32 (p.hi:Int));exact HQ2.out _))))
      refine wpQuiet_nil ?_;rintro _ ⟨n2,rfl⟩;go_wp2_with fail;go_meet;exact ⟨by simp [h1,h2],n2.u⟩
   case rest =>
    obtain ⟨rfl,hux⟩:=hcut;have HUX:=Lib.hid (HU2.out.trans hux);have hb0:wc.cell? ⟨w2.heap.size,0,none⟩=some (.int .i64 v):=q0 ⟨wc,hux⟩;have hb1:wc.cell? ⟨w2.heap.size,1,none⟩=some (.int .u32 p.lo):=q1 ⟨wc,hux⟩;have hb2:wc.cell? ⟨w2.heap.size,2,none⟩=some (.int .u32 p.hi):=q2 ⟨wc,hux⟩;clear q0 q1 q2 hux HQ1 HQ2 aPu
    by_cases hcr:v1=(y:Int)\/v2=(y:Int)
    ·have aDH:(!(decide (v1=(y:Int))||decide (v2=(y:Int))))=false:=by rcases hcr with h | h <;> simp [h]
     rw [aDH];obtain ⟨p',a00,a01,a10,a11,F4⟩:=HNB.out.four (HCX.out.2 hcr)
     obtain rfl:p=p':=by have:=F4.at_;rw [HP.out.1] at this;cases this;rfl
     have h32:∀ {a:Nat},Deep K l a->a<=4294967295:=fun {a} ha=>by
      have h1:=aaU.tk_lt ha.1;have h3:=HNB.out.ok.wf.ok.lp;have h4:=HNB.out.ok.wf.ok.pm;omega
     have HC4:Hid (aun K l v y ⟨r,p.lo,p.hi,a00,a01,a10,a11⟩/\CrV.R32 ⟨r,p.lo,p.hi,a00,a01,a10,a11⟩):=⟨⟨HCX.out.2 hcr,p,F4,HP.out.2.2.1,rfl,rfl⟩,amm,aJQ,aJT,h32 F4.d00,h32 F4.d01,h32 F4.d10,h32 F4.d11⟩;have HE0:=Lib.hid F4.e0;have HE1:=Lib.hid F4.e1;have hbx:=heap_alloc_new wc (.cells #[.int .u32 r,.int .i64 v,.int .u32 p.lo,.int .u32 p.hi,.int .u32 0,.int .u32 0,.int .u32 0,.int .u32 0] 226 (0,0));have HU8:=Lib.hid ((HUX.out).alloc (.cells #[.int .u32 r,.int .i64 v,.int .u32 p.lo,.int .u32 p.hi,.int .u32 0,.int .u32 0,.int .u32 0,.int .u32 0] 226 (0,0)));have aV9:(wc.alloc (.cells #[.int .u32 r,.int .i64 v,.int .u32 p.lo,.int .u32 p.hi,.int .u32 0,.int .u32 0,.int .u32 0,.int .u32 0] 226 (0,0))).cell? ⟨w2.heap.size,1,none⟩=some (.int .u32 p.lo):=((Upd.refl [] wc).alloc _).cellK hb1;have aWa:(wc.alloc (.cells #[.int .u32 r,.int .i64 v,.int .u32 p.lo,.int .u32 p.hi,.int .u32 0,.int .u32 0,.int .u32 0,.int .u32 0] 226 (0,0))).cell? ⟨w2.heap.size,2,none⟩=some (.int .u32 p.hi):=((Upd.refl [] wc).alloc _).cellK hb2;have HBX:=Lib.hid (And.intro hbx (And.intro aV9 aWa));clear hcr F4 h32 hbx aDH;go_wp2_with fail;refine (ayP b p.lo y K T q pl _ (HK.out _ (HUW.out.trans HU8.out)).mem aJQ HP.out.2.2.2.2.2.1 HP.out.2.2.2.2.2.2.1).mono ?_;rintro e w3 ⟨rfl,hu⟩;rw [HE0.out];have aut:=World.block_lt_of_cell? _ _ hb2;have hBs:wr.heap.size<=wc.heap.size:=HUX.out.size;have HU3:=Lib.hid (HU8.out.trans hu);have hb3:=(hu.block wc.heap.size (aa4 HBX.out.1) (by simp)).trans HBX.out.1;have hp2:=hu.cellK HBX.out.2.2
     have hne:w2.heap.size≠wc.heap.size:=by
      have:w2.heap.size<wc.heap.size:=aut;omega
     obtain ⟨C,la,lc,rfl,hC1,hC2,hC3,hC4⟩:=HF.out.ex;have HCC:=Lib.hid (And.intro hC1 (And.intro hC2 (And.intro hC3 hC4)));clear hC1 hC2 hC3 hC4 aut hb0 hb1 hb2 hu HU8 HBX;generalize wc.heap.size=B at *;have z4:=aac (j:=4) hb3 rfl;have z5:=aac (j:=5) hb3 rfl;have f4:=abq 4 hb3;have f5:=abq 5 hb3;have HU4:=Lib.hid (((HU3.out.setCell (p:=⟨B,4,none⟩) (.inr hBs) (.int .u32 a00)).setCell (p:=⟨B,5,none⟩) (.inr hBs) (.int .u32 a01)));have HB4:Hid ((((w3.setCell ⟨B,4,none⟩ (.int .u32 a00)).setCell ⟨B,5,none⟩ (.int .u32 a01))).heap[B]?=some (.cells #[.int .u32 r,.int .i64 v,.int .u32 p.lo,.int .u32 p.hi,.int .u32 a00,.int .u32 a01,.int .u32 0,.int .u32 0] 226 (0,0))):=abV (abV hb3 (.int .u32 a00)) (.int .u32 a01);clear hb3;go_wp2_with fail;refine (ayP b p.hi y K T q ph _ (HK.out _ (HUW.out.trans HU4.out)).mem aJT HP.out.2.2.2.2.2.2.2.1 HP.out.2.2.2.2.2.2.2.2).mono ?_;rintro e w4 ⟨rfl,hu⟩;rw [HE1.out];have hb4:=(hu.block B (aa4 HB4.out) (by simp)).trans HB4.out;have HU5:=Lib.hid ((((HU4.out.trans hu).setCell (p:=⟨B,6,none⟩) (.inr hBs) (.int .u32 a10)).setCell (p:=⟨B,7,none⟩) (.inr hBs) (.int .u32 a11)));have HB5:Hid ((((w4.setCell ⟨B,6,none⟩ (.int .u32 a10)).setCell ⟨B,7,none⟩ (.int .u32 a11))).heap[B]?=some (.cells #[.int .u32 r,.int .i64 v,.int .u32 p.lo,.int .u32 p.hi,.int .u32 a00,.int .u32 a01,.int .u32 a10,.int .u32 a11] 226 (0,0))):=abV (abV hb4 (.int .u32 a10)) (.int .u32 a11);have y0:=aac (j:=0) hb4 rfl;have y1:=aac (j:=1) hb4 rfl;have y2:=aac (j:=2) hb4 rfl;have y3:=aac (j:=3) hb4 rfl;have y4:=aac (j:=4) hb4 rfl;have y5:=aac (j:=5) hb4 rfl;have y6:=aac (j:=6) hb4 rfl;have y7:=aac (j:=7) hb4 rfl;have g6:=abq 6 hb4;have g7:=abq 7 hb4;have aep:=Lib.hid (aaX HCC.out.2.2.2 fun k hk=>HU5.out.block k (HCC.out.2.2.2.lt k hk).2 (by simp));have HCN:=Lib.hid (aMN HCC.out.1 HCC.out.2.1 HNB.out.ok.wf);have aWb:((w4.setCell ⟨B,6,none⟩ (.int .u32 a10)).setCell ⟨B,7,none⟩ (.int .u32 a11)).heap[B]?=some (.cells #[.int .u32 r,.int .i64 v,.int .u32 p.lo,.int .u32 p.hi,.int .u32 a00,.int .u32 a01,.int .u32 a10,.int .u32 a11] 226 (0,0)):=HB5.out
     have HC8:Hid (∀ u,u∈CrV.flat v ⟨r,p.lo,p.hi,a00,a01,a10,a11⟩->u.oneCell'=true):=by
      intro u hu
      simp [CrV.flat] at hu
      rcases hu with rfl | rfl | rfl | rfl | rfl | rfl | rfl | rfl <;> rfl
     have HSZ:Hid (w1.heap.size<=w4.heap.size):=by
      have h1:=HF.out.up.size;have h2:=HUX.out.size;have h3:=(HU4.out.trans hu).size
      show w1.heap.size<=w4.heap.size
      omega
     clear hb4 hu z4 z5 f4 f5 hp2 aWb
     go_wp2_with (at_builtin;go_must (refine wpList_append_lies _ rfl (.tmp 78) (.tmp 80) 222 rfl w1.heap.size 226 ti _ 8 40 Tryz.underlying222 HI.out.1 HI.out.2.1 HI.out.2.2.1 HI.out.2.2.2 (by rfl) (by decide) _ C.length (amN v C) rfl (aep.out.alloc _) ⟨w4.heap.size,0,none⟩ 1 1 (CrV.flat v ⟨r,p.lo,p.hi,a00,a01,a10,a11⟩) rfl rfl ?c1 HC8.out (by omega) (by unfold maxLen;have:=HCN.out;omega) (by have:=HCN.out;omega) ?c2 _ rfl ?_))
     case c1 =>
      have h1:=heap_alloc_new ((w4.setCell ⟨B,6,none⟩ (.int .u32 a10)).setCell ⟨B,7,none⟩ (.int .u32 a11)) (.cells #[.int .u32 r,.int .i64 v,.int .u32 p.lo,.int .u32 p.hi,.int .u32 a00,.int .u32 a01,.int .u32 a10,.int .u32 a11] 226 (0,0));rw [show ((w4.setCell ⟨B,6,none⟩ (.int .u32 a10)).setCell ⟨B,7,none⟩ (.int .u32 a11)).heap.size=w4.heap.size by simp [World.setCell]] at h1;exact World.news_of_block h1
     case c2=>(rw [World.size_alloc];have:=HSZ.out;simp [World.setCell];omega)
     intro g5 cap w5 ab3 hgr hat ajb
     have HE:Hid (axj w1 l v y K rs (i+1) (.slice (some ⟨g5,0,none⟩) (C.length+1) cap) w5) :=
      axj.push HRI.out.1 HRS.out.1 HC4.out rfl HCC.out.1 HCC.out.2.1 HCC.out.2.2.1 ab3 (((HF.out.up.trans HU5.out).alloc _).grown hgr fun k hk=>.inr (HCC.out.2.2.2.lt k hk).1)
     clear ab3 hgr hat ajb;go_wp2_with fail
     go_roundg (rs.length-(i+1))
     case measure=>omega
     case rel=>exact ⟨i+1,rfl,by omega,by simp,HE.out⟩
    ·have aDH:(!(decide (v1=(y:Int))||decide (v2=(y:Int))))=true:=by
      rw [not_or] at hcr
      simp [hcr.1,hcr.2]
     rw [aDH];have HS:Hid (axj w1 l v y K rs (i+1) u7 wc):=(HF.out.keep HUX.out).skip HRI.out.1 (fun hc=>hcr (HCX.out.1 hc));clear hcr aDH hb0 hb1 hb2;go_wp2_with fail
     go_roundg (rs.length-(i+1))
     case measure=>omega
     case rel=>exact ⟨i+1,rfl,by omega,by simp,HS.out⟩
  ·obtain rfl:i=rs.length:=by omega
   have hil:¬ ((rs.length:Int)<(rs.length:Int)):=by omega
   obtain ⟨C,la,lc,rfl,h1,h2,h3,h4⟩:=hF.ex
   have HE:Hid (aJJ l x y K w (.returned (.slice la C.length lc)) wr):=by
    refine ⟨C,la,lc,rfl,⟨fun c hc=>(h1 c hc).1,h2,fun s hs=>(h3 s).2 ⟨?_,hs⟩⟩,fun c hc=>(h1 c hc).2,aet h4 HRS.out.2.2.2.size,HRS.out.2.2.2.trans hF.up⟩;rw [List.take_length];obtain ⟨s2,p,hp,hpt,hv,_⟩:=hs;exact (HRS.out.2.1 s).2 ⟨s2,aaU.tk_iff.2 ⟨p,hp,hpt⟩,by rw [KV.vI_at hp];exact hv⟩
   clear hF h1 h2 h3 h4;go_wp2_with fail;go_ret;exact HE.out
end Go.Proofs.YtdackeldhdchaaaGreat
