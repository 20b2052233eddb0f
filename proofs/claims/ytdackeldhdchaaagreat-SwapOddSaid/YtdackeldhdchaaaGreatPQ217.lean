import Derived.Test.YtdackeldhdchaaaGreatPQ216
import Derived.Test.YtdackeldhdchaaaGreatPQ25
import Derived.Deep.RegionHeld3
import Derived.BigQuiet
set_option maxRecDepth 100000
set_option maxHeartbeats 1600000
namespace Go.Proofs.YtdackeldhdchaaaGreat
open Go.RowKit Go.Maps Go.ChangeMaps Go.WideShapes
theorem Mid.turn_new {K0 K:KV} {l x y c lo hi a00 a01 a10 a11:Nat} {p:abu} {R:List Nat} {D:Nat->(Nat->Bool)->Bool} (h:Mid K0 l x y (c::R) K D) (nb:Nb K0 l x y) (F:aFE K0 l x y c p a00 a01 a10 a11)
  (dlo:∀ z,D lo z=if z x then K0.den a10 z else K0.den a00 z) (dhi:∀ z,D hi z=if z x then K0.den a11 z else K0.den a01 z)
  {s:Nat} {q:abu} (h2:2<=s) (hq:K.A.list[s]?=some q) (hqt:q.taken=true) (hs:s∉c::R):¬ (q.var=(y:Int)/\q.lo=lo/\q.hi=hi):=by
 rintro ⟨hv,rfl,rfl⟩;obtain ⟨_,_,_,_,hxy⟩:=nb.facts;have hc:=h.rc c (by simp);have t0:K0.A.tk c=true:=Nb.cross_tk hc
 have ts:K0.A.tk s=true:=by
  cases e:K0.A.tk s with
  | true=>rfl
  | false =>
   have:=(h.nw s q hq hqt e).2.1;omega
 have e:s=c:=KV.canon nb.ok.wf nb.ok.ord nb.un _ _ _ ts t0 (Nat.le_refl _) fun z=>by
  rw [<- h.dold s ts,h.sem s q h2 hq hqt,show q.var.toNat=y by omega,F.den,dlo,dhi]
 exact hs (by simp [e])
theorem KV.Ok.tk01 {K:KV} (h:K.Ok) {r:Nat} (h2:r<2):K.A.tk r=true:=by
 match r,h2 with
 | 0,_=>exact h.wf.ok.tk01.1
 | 1,_=>exact h.wf.ok.tk01.2
def KV.swapO (K:KV) (l x y:Nat):KV:={ K with order:=(K.order.set l y).set (l+1) x,level:=(K.level.set x (l+1)).set y l }
theorem KV.swapO_lev {K:KV} {l x y:Nat} (hx:x<K.level.length) (hy:y<K.level.length) (v:Nat):(K.swapO l x y).lev v=if v=y then l else if v=x then l+1 else K.lev v:=by
 show ((K.level.set x (l+1)).set y l).getD v 0=_
 rw [afx (by simpa using hy),afx hx];rfl
theorem KV.swapO_ord {K:KV} {l x y:Nat} (hl:l+1<K.order.length) (j:Nat):(K.swapO l x y).order.getD j 0=if j=l+1 then x else if j=l then y else K.order.getD j 0:=by
 show ((K.order.set l y).set (l+1) x).getD j 0=_
 rw [afx (by simpa using hl),afx (by omega)]
theorem KV.Wf.swapO {K:KV} {P:List Nat} (h:K.Wf P) (l x y:Nat):(K.swapO l x y).Wf P:=⟨h.ok,h.len,h.ul,h.tu,h.ht,h.hm,h.eq,h.pt,h.cl,h.vr,h.vs⟩
theorem KV.Perm.swapO {K:KV} {l x y:Nat} (h:K.Perm) (hl:l+2<=K.vars) (hx:K.order.getD l 0=x) (hy:K.order.getD (l+1) 0=y):(K.swapO l x y).Perm:=by
 have ol:=h.ol;have ll:=h.ll;have f1:=h.oo l (by omega);have f2:=h.oo (l+1) (by omega);rw [hx] at f1;rw [hy] at f2
 have hxy:x≠y:=by rintro rfl;omega
 have lev:=fun v=>KV.swapO_lev (K:=K) (l:=l) (x:=x) (y:=y) (by omega) (by omega) v
 have ord:=fun j=>KV.swapO_ord (K:=K) (l:=l) (x:=x) (y:=y) (by omega) j
 refine ⟨by simpa [KV.swapO] using ol,by simpa [KV.swapO] using ll,fun v hv=>?_,fun j hj=>?_⟩
 ·have hv':v<K.vars:=hv
  have g:=h.lo v hv'
  show (K.swapO l x y).lev v<K.vars/\_
  rw [ord,lev]
  by_cases e1:v=y
  ·subst e1
   simp only [if_true]
   refine ⟨by omega,?_⟩;rw [if_neg (by omega)]
  ·by_cases e2:v=x
   ·subst e2
    simp only [if_neg e1,if_true]
    exact ⟨by omega,trivial⟩
   ·simp only [if_neg e1,if_neg e2]
    have n1:K.lev v≠l+1:=fun e=>e1 (by rw [<- g.2,e,hy])
    have n2:K.lev v≠l:=fun e=>e2 (by rw [<- g.2,e,hx])
    rw [if_neg n1,if_neg n2];exact g
 ·have hj':j<K.vars:=hj
  have g:=h.oo j hj'
  show (K.swapO l x y).order.getD j 0<K.vars/\_
  rw [ord]
  by_cases e1:j=l+1
  ·subst e1
   simp only [if_true]
   rw [lev,if_neg hxy,if_pos rfl];exact ⟨f1.1,rfl⟩
  ·by_cases e2:j=l
   ·subst e2
    rw [if_neg e1,if_pos rfl,lev,if_pos rfl];exact ⟨f2.1,rfl⟩
   ·rw [if_neg e1,if_neg e2,lev]
    have n1:K.order.getD j 0≠y:=fun e=>e1 (by rw [<- g.2,e];exact f2.2)
    have n2:K.order.getD j 0≠x:=fun e=>e2 (by rw [<- g.2,e];exact f1.2)
    rw [if_neg n1,if_neg n2];exact g
theorem Mid.done {K0 K:KV} {l x y:Nat} {P:List Nat} {D:Nat->(Nat->Bool)->Bool} (h:Mid K0 l x y [] K D) (nb:Nb K0 l x y) (hw:K.Wf P) :
  (K.swapO l x y).Ord/\∀ r,K.A.tk r=true->∀ z,(K.swapO l x y).den r z=D r z:=by
 obtain ⟨hx,hy,lx,ly,hxy⟩:=nb.facts;have pm0:=nb.ok.ord.pm;have hl:=nb.hl;have hvr:=h.vr
 have pm1:K.Perm:=⟨by rw [h.od,hvr];exact pm0.ol,by rw [h.lv,hvr];exact pm0.ll,fun v hv=>by
  have:=pm0.lo v (by omega)
  rw [show K.lev v=K0.lev v by simp [KV.lev,h.lv],h.od,hvr];exact this,fun j hj=>by
  have:=pm0.oo j (by omega)
  rw [h.od,hvr,show K.lev (K0.order.getD j 0)=K0.lev (K0.order.getD j 0) by simp [KV.lev,h.lv]];exact this⟩
 have ll:=pm1.ll
 have lev:∀ v,(K.swapO l x y).lev v=if v=y then l else if v=x then l+1 else K0.lev v:=fun v=>by
  rw [KV.swapO_lev (by omega) (by omega),show K.lev v=K0.lev v by simp [KV.lev,h.lv]]
 have dep_at:∀ {r v:Nat} {p:abu},K.A.list[r]?=some p->p.var=(v:Int)->(K.swapO l x y).dep r=(K.swapO l x y).lev v:=fun {r v p} hp hv=>by
  have hp':(K.swapO l x y).A.list[r]?=some p:=hp
  simp [KV.dep,hp',hv]
 have aNY:∀ r,r<2->(K.swapO l x y).dep r=K0.vars:=fun r hr=>by
  rw [(hw.swapO l x y).dep_const hr];exact hvr
 have aDy:∀ a,Deep K0 l a->(K.swapO l x y).dep a=K0.dep a:=fun a ha=>by
  by_cases h2:2<=a
  ·obtain ⟨p,v,hp,hpt,hv,hvl,_,_,hd⟩:=nb.ok.wf.node_at h2 ha.1
   have hne:=nb.deep_v ha;rw [KV.vI_at hp,hv] at hne;rw [dep_at (h.deep_at nb ha hp hpt) hv,lev,if_neg (by omega),if_neg (by omega),hd]
  ·rw [aNY a (by omega),nb.ok.wf.dep_const (by omega)]
 have aR2:∀ r,Low K0 l x K r->l<(K.swapO l x y).dep r:=fun r hr=>by
  rcases hr.2 with hd | ⟨_,p,hp,_,hv,_⟩
  ·rw [aDy r hd];have:=hd.2;omega
  ·rw [dep_at hp hv,lev,if_neg hxy,if_pos rfl];omega
 have aNZ:∀ (k m:Nat),K0.A.tk k=true->m<K0.dep k->m≠l->m<(K.swapO l x y).dep k:=fun k m ht hm hml=>by
  by_cases h2:2<=k
  ·obtain ⟨p,v,hp,hpt,hv,hvl,_,_,hd⟩:=nb.ok.wf.node_at h2 ht
   by_cases hc:K0.Cross x y k
   ·obtain ⟨q,hq,_,hqv,_⟩:=h.cr k hc (by simp)
    obtain ⟨_,p',hp',_,hpv,_⟩:=hc
    rw [hp] at hp';cases hp'
    have hvx:v=x:=by omega
    subst hvx;rw [dep_at hq hqv,lev,if_pos rfl];omega
   ·rw [dep_at (h.old k p hp hpt (.inl hc)) hv,lev]
    split
    ·rename_i e;subst e;omega
    ·split
     ·rename_i e;subst e;omega
     ·omega
  ·rw [aNY k (by omega)]
   have:=nb.ok.wf.dep_const (r:=k) (by omega);omega
 have key:∀ (q:Nat) p,2<=q->K.A.list[q]?=some p->p.taken=true->p.lo≠p.hi/\(K.swapO l x y).lev p.var.toNat<(K.swapO l x y).dep p.lo/\(K.swapO l x y).lev p.var.toNat<(K.swapO l x y).dep p.hi:=fun q p h2 hp hpt=>by
  have aN0:p.var=(x:Int)->Deep K0 l p.lo->Deep K0 l p.hi->(K.swapO l x y).lev p.var.toNat<(K.swapO l x y).dep p.lo/\(K.swapO l x y).lev p.var.toNat<(K.swapO l x y).dep p.hi:=fun hv h1 h3=>by
   have a1:=h1.2;have a2:=h3.2;rw [show p.var.toNat=x by omega,lev,if_neg hxy,if_pos rfl,aDy _ h1,aDy _ h3];omega
  cases ht:K0.A.tk q with
  | false =>
   obtain ⟨_,hv,h1,h3,hne⟩:=h.nw q p hp hpt ht;exact ⟨hne,aN0 hv h1 h3⟩
  | true =>
   by_cases hc:K0.Cross x y q
   ·obtain ⟨p',hp',_,hv,h1,h3,hne⟩:=h.cr q hc (by simp)
    rw [hp] at hp';cases hp'
    rw [show p.var.toNat=y by omega,lev,if_pos rfl];exact ⟨hne,aR2 _ h1,aR2 _ h3⟩
   ·obtain ⟨p0,v,hp0,aVW,hv,hvl,t1,t3,hd⟩:=nb.ok.wf.node_at h2 ht
    have:=h.old q p0 hp0 aVW (.inl hc)
    rw [hp] at this;cases this
    have hb:=nb.ok.ord.below nb.ok.wf h2 hp0 hpt;refine ⟨nb.ok.ord.ne q p h2 hp0 hpt,?_⟩;rw [hd] at hb
    by_cases ex:v=x
    ·subst ex
     have n1:K0.vI p.lo≠(y:Int):=fun e=>hc ⟨h2,p,hp0,hpt,hv,.inl e⟩
     have n3:K0.vI p.hi≠(y:Int):=fun e=>hc ⟨h2,p,hp0,hpt,hv,.inr e⟩
     exact aN0 hv (nb.kid t1 (by omega) n1) (nb.kid t3 (by omega) n3)
    ·by_cases ey:v=y
     ·subst ey
      have g1:Deep K0 l p.lo:=⟨t1,by omega⟩;have g3:Deep K0 l p.hi:=⟨t3,by omega⟩;rw [show p.var.toNat=v by omega,lev,if_pos rfl,aDy _ g1,aDy _ g3];omega
     ·have nl:K0.lev v≠l:=fun e=>ex (pm0.inj hvl hx (by omega))
      rw [show p.var.toNat=v by omega,lev,if_neg ey,if_neg ex];exact ⟨aNZ _ _ t1 hb.1 nl,aNZ _ _ t3 hb.2 nl⟩
 have ayM:(K.swapO l x y).Ord:=⟨pm1.swapO (by omega) (by rw [h.od];exact nb.hx) (by rw [h.od];exact nb.hy),fun q p h2 hp hpt=>(key q p h2 hp hpt).1,fun q p h2 hp hpt=>(key q p h2 hp hpt).2⟩;have hw':=hw.swapO l x y;refine ⟨ayM,fun r ht=>?_⟩
 have ind:∀ (n r:Nat),K.A.tk r=true->K0.vars-(K.swapO l x y).dep r<=n->∀ z,(K.swapO l x y).den r z=D r z:=by
  intro n
  induction n with
  | zero =>
   intro r ht hn z
   by_cases h2:2<=r
   ·have:=hw'.dep_lt ayM h2 ht
    have e:(K.swapO l x y).vars=K0.vars:=hvr;omega
   ·rw [KV.den_const _ (by omega),h.dold r (nb.ok.tk01 (by omega)),KV.den_const _ (by omega)]
  | succ n ih =>
   intro r ht hn z
   by_cases h2:2<=r
   ·obtain ⟨p,hp,hpt⟩:=aaU.tk_iff.1 ht
    have hp':(K.swapO l x y).A.list[r]?=some p:=hp;have hb:=ayM.below hw' h2 hp' hpt;have hl2:=hw'.dep_lt ayM h2 ht;have e:(K.swapO l x y).vars=K0.vars:=hvr;have hc:=hw.cl r p h2 hp hpt;rw [KV.den_node hw' ayM h2 hp' hpt,h.sem r p h2 hp hpt,ih p.lo hc.1 (by omega),ih p.hi hc.2 (by omega)]
   ·rw [KV.den_const _ (by omega),h.dold r (nb.ok.tk01 (by omega)),KV.den_const _ (by omega)]
 exact ind _ r ht (Nat.le_refl _)
theorem KV.Wf.turnN {K:KV} {P:List Nat} {c y lo hi:Nat} {p:abu} (h:K.Wf (lo::hi::P)) (h2:2<=c) (hp:K.A.list[c]?=some p) (hpt:p.taken=true) (hy:y<K.vars) (h32:lo<=4294967295/\hi<=4294967295):(K.turnN c y lo hi).Wf (p.lo::p.hi::P):=by
 have at_:=fun s=>amG (A:=K.A) (v:=(y:Int)) (lo:=lo) (hi:=hi) hp s
 have hlt:=(List.getElem?_eq_some_iff.1 hp).1
 have tk:∀ s,(K.turnN c y lo hi).A.tk s=K.A.tk s:=fun s=>by
  show (K.A.setNode c (y:Int) lo hi).tk s=_
  unfold aaU.tk;rw [at_]
  by_cases e:s=c
  ·subst e;simp [hp]
  ·simp [e]
 have hl:(K.turnN c y lo hi).A.list.length=K.A.list.length:=by
  show (K.A.setNode c (y:Int) lo hi).list.length=_
  simp only [aaU.setNode,hp,List.length_set]
 have hls:(K.turnN c y lo hi).A.list=K.A.list.set c { p with var:=(y:Int),lo:=lo,hi:=hi }:=by
  show (K.A.setNode c (y:Int) lo hi).list=_
  simp only [aaU.setNode,hp]
 refine ⟨h.ok.setNode h2 h32.1 h32.2,h.len,by rw [hl];exact h.ul,fun r hr ht=>h.tu r hr (by rw [<- tk];exact ht),fun r hr=>⟨(h.ht r hr).1,by rw [tk];exact (h.ht r hr).2⟩,h.hm,fun r hr ht=>?_,fun r hr=>?_,fun q p' hq hp' aCr=>?_,fun q p' hq hp' aCr=>?_,h.vs⟩
 ·rw [tk] at ht
  have he:=h.eq r hr ht;have hs:=axR (q:={ p with var:=(y:Int),lo:=lo,hi:=hi }) hp r;have e1:(K.turnN c y lo hi).use r=K.use r:=rfl;have e2:(K.turnN c y lo hi).hold r=K.hold r:=rfl;rw [e1,e2,hls,he];generalize par (K.A.list.set c { p with var:=(y:Int),lo:=lo,hi:=hi }) r=X at hs ⊢
  simp only [List.count_cons]
  simp only [cnt,hpt,if_true] at hs
  simp only [beq_iff_eq]
  omega
 ·rw [tk]
  have hcl:=h.cl c p h2 hp hpt
  simp at hr
  rcases hr with rfl | rfl | hr
  ·exact hcl.1
  ·exact hcl.2
  ·exact h.pt r (by simp [hr])
 ·rw [tk,tk]
  have ayN:(K.A.setNode c (y:Int) lo hi).list[q]?=some p':=hp';rw [at_] at ayN
  by_cases e:q=c
  ·rw [if_pos e] at ayN;cases ayN
   exact ⟨h.pt lo (by simp),h.pt hi (by simp)⟩
  ·rw [if_neg e] at ayN
   exact h.cl q p' hq ayN aCr
 ·have ayN:(K.A.setNode c (y:Int) lo hi).list[q]?=some p':=hp'
  rw [at_] at ayN
  by_cases e:q=c
  ·rw [if_pos e] at ayN;cases ayN
   exact ⟨by show (0:Int)<=(y:Int);omega,by show (y:Int)<(K.vars:Int);omega⟩
  ·rw [if_neg e] at ayN
   exact h.vr q p' hq ayN aCr
theorem afg.less {T:List DM} {K:KV} {X P:List Nat} (h:afg T K X) (hw:K.Wf P) {r v:Nat} {p:abu} {D:DM} (hr:2<=r) (hrx:r∉X) (hp:K.A.list[r]?=some p) (hpt:p.taken=true) (hv:p.var=(v:Int)) (hD:T[v]?=some D) :
  afg (T.set v (D.del (nkp p))) K (r::X):=by
 have hvl:=(List.getElem?_eq_some_iff.1 hD).1;refine ⟨by simpa using h.len,?_,?_,?_⟩
 ·intro u D2 k hu hk
  by_cases e:u=v
  ·subst e
   rw [List.getElem?_set_self hvl] at hu;cases hu
   by_cases e2:k=nkp p
   ·subst e2;rw [has_del_same] at hk;cases hk
   ·rw [has_del_other e2] at hk
    obtain ⟨s,c,h1,h2,h3,h4,h5,h6⟩:=h.dom u D k hD hk;refine ⟨s,c,h1,h2,h3,h4,h5,?_⟩
    simp only [List.mem_cons,not_or]
    refine ⟨?_,h6⟩;rintro rfl
    rw [hp] at h2;cases h2;exact e2 h5
  ·rw [List.getElem?_set_ne (Ne.symm e)] at hu
   obtain ⟨s,c,h1,h2,h3,h4,h5,h6⟩:=h.dom u D2 k hu hk;refine ⟨s,c,h1,h2,h3,h4,h5,?_⟩
   simp only [List.mem_cons,not_or]
   refine ⟨?_,h6⟩;rintro rfl
   rw [hp] at h2;cases h2
   rw [hv] at h4;omega
 ·intro s c D2 hs hc hct hsx hD2
  simp only [List.mem_cons,not_or] at hsx
  by_cases e:c.var.toNat=v
  ·rw [e,List.getElem?_set_self hvl] at hD2;cases hD2
   have hk:nkp c≠nkp p:=fun e2=>hsx.1 (h.uniq hw hs hr hc hp hct hpt hsx.2 hrx e2)
   obtain ⟨g1,g2⟩:=h.at_ s c D hs hc hct hsx.2 (by rw [e];exact hD);rw [has_del_other hk];exact ⟨g1,fun z=>by rw [atKey_del_other hk];exact g2 z⟩
  ·rw [List.getElem?_set_ne (Ne.symm e)] at hD2
   exact h.at_ s c D2 hs hc hct hsx.2 hD2
 ·intro D2 hD2
  rcases List.mem_or_eq_of_mem_set hD2 with h1 | rfl
  ·exact h.im D2 h1
  ·exact (h.im D (List.mem_of_getElem? hD)).del _
theorem afg.exc {T:List DM} {K:KV} {X Y:List Nat} (h:afg T K X) (e:∀ r,r∈X↔r∈Y):afg T K Y :=
 ⟨h.len,fun v D k h1 h2=>by
  obtain ⟨r,p,a,b,c,d,f,g⟩:=h.dom v D k h1 h2
  exact ⟨r,p,a,b,c,d,f,fun hy=>g ((e r).2 hy)⟩,fun r p D a b c d f=>h.at_ r p D a b c (fun hx=>d ((e r).1 hx)) f,h.im⟩
theorem afg.turnN {T:List DM} {K:KV} {X P:List Nat} {c y lo hi:Nat} {p:abu} {D:DM} (h:afg T K (c::X)) (hw:K.Wf P) (hcx:c∉X) (h2:2<=c) (hp:K.A.list[c]?=some p) (hpt:p.taken=true) (hy:y<K.vars) (h32:lo<=4294967295/\hi<=4294967295) (hD:T[y]?=some D)
  (hno:∀ (s:Nat) (q:abu),2<=s->K.A.list[s]?=some q->q.taken=true->s∉c::X->¬ (q.var=(y:Int)/\q.lo=lo/\q.hi=hi)) :
  afg (T.set y (D.put (nk y lo hi) (.lit (.int .u32 c)))) (K.turnN c y lo hi) X:=by
 have hvl:=(List.getElem?_eq_some_iff.1 hD).1;have hIM:=h.im D (List.mem_of_getElem? hD)
 have at_:=fun s=>amG (A:=K.A) (v:=(y:Int)) (lo:=lo) (hi:=hi) hp s
 have at':∀ s,(K.turnN c y lo hi).A.list[s]?=if s=c then some { p with var:=(y:Int),lo:=lo,hi:=hi } else K.A.list[s]?:=at_
 refine ⟨by simpa [KV.turnN] using h.len,?_,?_,?_⟩
 ·intro u D2 k hu hk
  have key:∀ (u:Nat) (D2:DM),T[u]?=some D2->Maps.has D2 k=true->∃ (r:Nat) (p:abu),2<=r/\(K.turnN c y lo hi).A.list[r]?=some p/\p.taken=true/\p.var=(u:Int)/\k=nkp p/\r∉X:=by
   intro u D2 hu hk
   obtain ⟨s,q,h1,h2,h3,h4,h5,h6⟩:=h.dom u D2 k hu hk
   simp only [List.mem_cons,not_or] at h6
   exact ⟨s,q,h1,by rw [at',if_neg h6.1];exact h2,h3,h4,h5,h6.2⟩
  by_cases e:u=y
  ·subst e
   rw [List.getElem?_set_self hvl] at hu;cases hu
   by_cases e2:k=nk u lo hi
   ·subst e2
    exact ⟨c,{ p with var:=(u:Int),lo:=lo,hi:=hi },h2,by rw [at',if_pos rfl],hpt,rfl,rfl,hcx⟩
   ·rw [has_put_other e2] at hk
    exact key u D hD hk
  ·rw [List.getElem?_set_ne (Ne.symm e)] at hu
   exact key u D2 hu hk
 ·intro s q D2 hs hq hqt hsx hD2
  rw [at'] at hq
  by_cases e0:s=c
  ·subst e0
   rw [if_pos rfl] at hq;cases hq
   rw [show ((y:Int)).toNat=y by omega,List.getElem?_set_self hvl] at hD2;cases hD2
   exact ⟨has_put_same hIM (ala _ _ _) _,fun z=>atKey_put_same hIM (ala _ _ _) _ _⟩
  ·rw [if_neg e0] at hq
   have hsc:s∉c::X:=by simp [e0,hsx]
   by_cases e:q.var.toNat=y
   ·rw [e,List.getElem?_set_self hvl] at hD2;cases hD2
    obtain ⟨g1,g2⟩:=h.at_ s q D hs hq hqt hsc (by rw [e];exact hD)
    have hk:nkp q≠nk y lo hi:=by
     intro e2
     have hvs:=hw.vs;have hvr:=hw.vr s q hs hq hqt;have h4:=hw.ok.u32 q (List.mem_of_getElem? hq);obtain ⟨e3,e4,e5⟩:=atK (wfI (by omega) (by omega)) (wfR h4.1) (wfR h4.2.1) (wfI (by omega) (by omega)) (wfR h32.1) (wfR h32.2) e2;exact hno s q hs hq hqt hsc ⟨e3,e4,e5⟩
    rw [has_put_other hk];exact ⟨g1,fun z=>by rw [atKey_put_other hk];exact g2 z⟩
   ·rw [List.getElem?_set_ne (Ne.symm e)] at hD2
    exact h.at_ s q D2 hs hq hqt hsc hD2
 ·intro D2 hD2
  rcases List.mem_or_eq_of_mem_set hD2 with h1 | rfl
  ·exact h.im D2 h1
  ·exact hIM.put _ _
theorem afg.tookX {T:List DM} {K K':KV} {X:List Nat} {lo hi r v:Nat} {D:DM} (h:afg T K X) (hX:∀ s,s∈X->K.A.tk s=true) (t:K.Took (v:Int) lo hi r K') (hD:T[v]?=some D) (hno:Maps.has D (nk v lo hi)=false) :
  afg (T.set v (D.put (nk v lo hi) (.lit (.int .u32 r)))) K' X:=by
 have hvl:=(List.getElem?_eq_some_iff.1 hD).1;have hIM:=h.im D (List.mem_of_getElem? hD);have hr2:=t.fr.two
 have hrX:r∉X:=fun hr=>by have:=hX r hr;rw [t.fr.no] at this;cases this
 have hold:∀ (s:Nat) (c:abu),K.A.list[s]?=some c->c.taken=true->s≠r:=by
  rintro s c hs hct rfl;have:=t.fr.no
  simp [aaU.tk,hs,hct] at this
 refine ⟨by rw [t.vr];simpa using h.len,?_,?_,?_⟩
 ·intro u D2 k hu hk
  have key:∀ (u:Nat) (D2:DM),T[u]?=some D2->Maps.has D2 k=true->∃ (r:Nat) (p:abu),2<=r/\K'.A.list[r]?=some p/\p.taken=true/\p.var=(u:Int)/\k=nkp p/\r∉X:=by
   intro u D2 hu hk
   obtain ⟨s,c,h1,h2,h3,h4,h5,h6⟩:=h.dom u D2 k hu hk;exact ⟨s,c,h1,by rw [t.fr.ot s (hold s c h2 h3)];exact h2,h3,h4,h5,h6⟩
  by_cases e:u=v
  ·subst e
   rw [List.getElem?_set_self hvl] at hu;cases hu
   by_cases e2:k=nk u lo hi
   ·subst e2
    exact ⟨r,_,hr2,t.fr.at_,rfl,rfl,rfl,hrX⟩
   ·rw [has_put_other e2] at hk
    exact key u D hD hk
  ·rw [List.getElem?_set_ne (Ne.symm e)] at hu
   exact key u D2 hu hk
 ·intro s c D2 hs hc hct hsX hD2
  by_cases e0:s=r
  ·subst e0
   rw [t.fr.at_] at hc;cases hc
   rw [show ((v:Int)).toNat=v by omega,List.getElem?_set_self hvl] at hD2;cases hD2
   exact ⟨has_put_same hIM (ala _ _ _) _,fun z=>atKey_put_same hIM (ala _ _ _) _ _⟩
  ·rw [t.fr.ot s e0] at hc
   by_cases e:c.var.toNat=v
   ·rw [e,List.getElem?_set_self hvl] at hD2;cases hD2
    obtain ⟨g1,g2⟩:=h.at_ s c D hs hc hct hsX (by rw [e];exact hD)
    have hk:nkp c≠nk v lo hi:=by
     intro e2
     rw [e2,hno] at g1;cases g1
    rw [has_put_other hk];exact ⟨g1,fun z=>by rw [atKey_put_other hk];exact g2 z⟩
   ·rw [List.getElem?_set_ne (Ne.symm e)] at hD2
    exact h.at_ s c D2 hs hc hct hsX hD2
 ·intro D2 hD2
  rcases List.mem_or_eq_of_mem_set hD2 with h1 | rfl
  ·exact h.im D2 h1
  ·exact hIM.put _ _
theorem afg.lookX {T:List DM} {K:KV} {X P:List Nat} {v lo hi:Nat} {D:DM} (h:afg T K X) (hw:K.Wf P) (hv:v<K.vars) (hD:T[v]?=some D) (h1:lo<=4294967295) (h2:hi<=4294967295) {c:Int} (hc:D.atKey (nk v lo hi) (.lit (.int .u32 0))=.lit (.int .u32 c)) :
  (Maps.has D (nk v lo hi)=true/\∃ r:Nat,c=(r:Int)/\r∉X/\2<=r/\∃ p,K.A.list[r]?=some p/\p.taken=true/\p.var=(v:Int)/\p.lo=lo/\p.hi=hi) \/
  (Maps.has D (nk v lo hi)=false/\c=0/\∀ (r:Nat) (p:abu),r∉X->2<=r->K.A.list[r]?=some p->p.taken=true->¬ (p.var=(v:Int)/\p.lo=lo/\p.hi=hi)):=by
 have hvs:=hw.vs
 cases hh:Maps.has D (nk v lo hi) with
 | true =>
  left;obtain ⟨r,p,hr,hp,hpt,hpv,hk,hrX⟩:=h.dom v D _ hD hh;have h4:=hw.ok.u32 p (List.mem_of_getElem? hp);have hvr:=hw.vr r p hr hp hpt;obtain ⟨e1,e2,e3⟩:=atK (wfI (by omega) (by omega)) (wfR h1) (wfR h2) (wfI (by omega) (by omega)) (wfR h4.1) (wfR h4.2.1) hk;have hat:=(h.at_ r p D hr hp hpt hrX (by rw [hpv];exact hD)).2 (.lit (.int .u32 0));rw [<- hk,hc] at hat
  simp at hat
  exact ⟨rfl,r,hat,hrX,hr,p,hp,hpt,hpv,e2.symm,e3.symm⟩
 | false =>
  right;rw [atKey_of_not_has hh] at hc
  simp at hc
  refine ⟨rfl,hc.symm,?_⟩;rintro r p hrX hr hp hpt ⟨e1,e2,e3⟩;have:=(h.at_ r p D hr hp hpt hrX (by rw [e1];exact hD)).1;rw [show nkp p=nk v lo hi by simp [nkp,e1,e2,e3],hh] at this;cases this
structure CrV where
 r:Nat
 lo:Nat
 hi:Nat
 a00:Nat
 a01:Nat
 a10:Nat
 a11:Nat
structure aun (K:KV) (l x y:Nat) (c:CrV):Prop where
 cr:K.Cross x y c.r
 ex:∃ p,aFE K l x y c.r p c.a00 c.a01 c.a10 c.a11/\p.var=(x:Int)/\p.lo=c.lo/\p.hi=c.hi
structure aiH (K:KV) (l x y:Nat) (C:List CrV):Prop where
 ok:∀ c,c∈C->aun K l x y c
 nd:(C.map CrV.r).Nodup
 all:∀ r,K.Cross x y r->r∈C.map CrV.r
theorem aiH.iff {K:KV} {l x y:Nat} {C:List CrV} (h:aiH K l x y C) (r:Nat):r∈C.map CrV.r↔K.Cross x y r :=
 ⟨fun hr=>by
  obtain ⟨c,hc,rfl⟩:=List.mem_map.1 hr
  exact (h.ok c hc).cr,h.all r⟩
def CrV.qs (c:CrV):List (Nat × Nat):=[(c.a00,c.a10),(c.a01,c.a11)]
def KV.has3 (K:KV) (v a b:Nat):Prop:=∃ (r:Nat) (p:abu),2<=r/\K.A.list[r]?=some p/\p.taken=true/\p.var=(v:Int)/\p.lo=a/\p.hi=b
structure FrN (K:KV) (x:Nat) (Q N:List (Nat × Nat)):Prop where
 nd:N.Nodup
 iff:∀ q,q∈N↔q∈Q/\q.1≠q.2/\¬ K.has3 x q.1 q.2
theorem FrN.nil (K:KV) (x:Nat):FrN K x [] []:=⟨List.nodup_nil,by simp⟩
theorem FrN.skip {K:KV} {x:Nat} {Q N:List (Nat × Nat)} {q:Nat × Nat} (h:FrN K x Q N) (hq:q.1=q.2\/K.has3 x q.1 q.2\/q∈N):FrN K x (Q++[q]) N:=by
 refine ⟨h.nd,fun p=>?_⟩;rw [h.iff];constructor
 ·rintro ⟨h1,h2⟩;exact ⟨List.mem_append_left _ h1,h2⟩
 ·rintro ⟨h1,h2,h3⟩
  rcases List.mem_append.1 h1 with h1 | h1
  ·exact ⟨h1,h2,h3⟩
  ·simp at h1;subst h1
   rcases hq with hq | hq | hq
   ·exact absurd hq h2
   ·exact absurd hq h3
   ·exact (h.iff p).1 hq
theorem FrN.add {K:KV} {x:Nat} {Q N:List (Nat × Nat)} {q:Nat × Nat} (h:FrN K x Q N) (h1:q.1≠q.2) (h2:¬ K.has3 x q.1 q.2) (h3:q∉N):FrN K x (Q++[q]) (N++[q]):=by
 refine ⟨?_,fun p=>?_⟩
 ·rw [List.nodup_append]
  exact ⟨h.nd,by simp,fun a ha b hb=>by simp at hb;subst hb;rintro rfl;exact h3 ha⟩
 ·simp only [List.mem_append,List.mem_singleton]
  rw [h.iff];constructor
  ·rintro (⟨a,b,c⟩ | rfl)
   ·exact ⟨.inl a,b,c⟩
   ·exact ⟨.inr rfl,h1,h2⟩
  ·rintro ⟨a | rfl,b,c⟩
   ·exact .inl ⟨a,b,c⟩
   ·exact .inr rfl
structure ar0 (K0 K:KV) (x:Nat) (N M:List (Nat × Nat)):Prop where
 nd:M.Nodup
 sub:∀ q,q∈M->q∈N/\K.has3 x q.1 q.2
 us:K.A.used=K0.A.used+M.length
theorem ar0.start (K:KV) (x:Nat) (N:List (Nat × Nat)):ar0 K K x N []:=⟨List.nodup_nil,by simp,by simp⟩
theorem aHs {K K':KV} {v a b:Nat} (h:K.has3 v a b) (hk:∀ (s:Nat) (p:abu),K.A.list[s]?=some p->p.taken=true->K'.A.list[s]?=some p):K'.has3 v a b:=by
 obtain ⟨r,p,h2,hp,hpt,rest⟩:=h;exact ⟨r,p,h2,hk r p hp hpt,hpt,rest⟩
theorem ar0.same {K0 K K':KV} {x:Nat} {N M:List (Nat × Nat)} (h:ar0 K0 K x N M) (hu:K'.A.used=K.A.used) (hk:∀ a b,K.has3 x a b->K'.has3 x a b):ar0 K0 K' x N M :=
 ⟨h.nd,fun q hq=>⟨(h.sub q hq).1,hk _ _ (h.sub q hq).2⟩,by rw [hu];exact h.us⟩
theorem Mid.has3 {K0 K:KV} {l x y a b:Nat} {R:List Nat} {D:Nat->(Nat->Bool)->Bool} (h:Mid K0 l x y R K D) (nb:Nb K0 l x y) (ha:Deep K0 l a) (hb:Deep K0 l b) (h3:K0.has3 x a b):K.has3 x a b:=by
 obtain ⟨r,p,h2,hp,hpt,hv,rfl,rfl⟩:=h3;refine ⟨r,p,h2,h.old r p hp hpt (.inl fun hc=>?_),hpt,hv,rfl,rfl⟩;obtain ⟨_,q,hq,_,_,hk⟩:=hc
 rw [hp] at hq;cases hq
 rcases hk with e | e
 ·exact (nb.deep_v ha).2 e
 ·exact (nb.deep_v hb).2 e
theorem Mid.has3_not {K0 K:KV} {l x y r:Nat} {p:abu} {R:List Nat} {D:Nat->(Nat->Bool)->Bool} (h:Mid K0 l x y R K D) (nb:Nb K0 l x y) (hp:K.A.list[r]?=some p) (ha:Deep K0 l p.lo) (hb:Deep K0 l p.hi):r∉R:=by
 intro hr
 obtain ⟨_,q,hq,hqt,_,hk⟩:=h.rc r hr;have:=h.old r q hq hqt (.inr hr)
 rw [hp] at this;cases this
 rcases hk with e | e
 ·exact (nb.deep_v ha).2 e
 ·exact (nb.deep_v hb).2 e
theorem ar0.room {K0 K:KV} {l x y:Nat} {q:Nat × Nat} {Q N M:List (Nat × Nat)} {R:List Nat} {D:Nat->(Nat->Bool)->Bool} (h:ar0 K0 K x N M) (F:FrN K0 x Q N) (m:Mid K0 l x y R K D) (nb:Nb K0 l x y) (ha:Deep K0 l q.1) (hb:Deep K0 l q.2)
  (hq:q∈Q) (hne:q.1≠q.2) (hno:¬ K.has3 x q.1 q.2) (afQ:K0.A.used+N.length<=K0.A.places):q∈N/\q∉M/\K.A.used<K.A.places:=by
 have h1:q∈N:=(F.iff q).2 ⟨hq,hne,fun h3=>hno (m.has3 nb ha hb h3)⟩
 have h2:q∉M:=fun hm=>hno (h.sub q hm).2
 refine ⟨h1,h2,?_⟩
 have arN:(q::M).length<=N.length:=by
  refine List.Nodup.length_le_of_subset (List.nodup_cons.2 ⟨h2,h.nd⟩) fun a ha=>?_
  rcases List.mem_cons.1 ha with rfl | ha
  ·exact h1
  ·exact (h.sub a ha).1
 have:=h.us;rw [m.pl]
 simp at arN
 omega
theorem ar0.took {K0 K K':KV} {x r:Nat} {q:Nat × Nat} {N M:List (Nat × Nat)} (h:ar0 K0 K x N M) (T:K.Took (x:Int) q.1 q.2 r K') (h1:q∈N) (h2:q∉M):ar0 K0 K' x N (q::M):=by
 have keep:∀ (s:Nat) (p:abu),K.A.list[s]?=some p->p.taken=true->K'.A.list[s]?=some p:=fun s p hp hpt=>by
  rw [T.fr.ot s (fun e=>by have:=T.fr.no;rw [<- e,aaU.tk_iff.2 ⟨p,hp,hpt⟩] at this;cases this)];exact hp
 refine ⟨List.nodup_cons.2 ⟨h2,h.nd⟩,fun a ha=>?_,?_⟩
 ·rcases List.mem_cons.1 ha with rfl | ha
  ·exact ⟨h1,r,_,T.fr.two,T.fr.at_,rfl,rfl,rfl,rfl⟩
  ·exact ⟨(h.sub a ha).1,aHs (h.sub a ha).2 keep⟩
 ·rw [T.fr.us,h.us];simp;omega
theorem ar0.turnN {K0 K:KV} {l x y c lo hi:Nat} {N M:List (Nat × Nat)} {R:List Nat} {D:Nat->(Nat->Bool)->Bool} (h:ar0 K0 K x N M) (m:Mid K0 l x y (c::R) K D) (nb:Nb K0 l x y) {Q:List (Nat × Nat)} (F:FrN K0 x Q N) (hQ:∀ q,q∈Q->Deep K0 l q.1/\Deep K0 l q.2):ar0 K0 (K.turnN c y lo hi) x N M:=by
 obtain ⟨_,p,hp,hpt,_,_⟩:=m.rc c (by simp);have hq:=m.old c p hp hpt (.inr (by simp));refine ⟨h.nd,fun q hm=>⟨(h.sub q hm).1,?_⟩,?_⟩
 ·obtain ⟨hN,r,p',h2,hp',aCr,hv,e1,e2⟩:=h.sub q hm
  obtain ⟨d1,d2⟩:=hQ q ((F.iff q).1 hN).1
  have hrc:r≠c:=fun e=>m.has3_not nb hp' (by rw [e1];exact d1) (by rw [e2];exact d2) (by simp [e])
  refine ⟨r,p',h2,?_,aCr,hv,e1,e2⟩
  show (K.A.setNode c (y:Int) lo hi).list[r]?=_
  rw [amG hq,if_neg hrc];exact hp'
 ·rw [<- h.us]
  show (K.A.setNode c (y:Int) lo hi).used=_
  simp only [aaU.setNode]
theorem Upd.cellK {w w':World} (u:Upd [] w w') {a:Addr} {v:Value} (h:w.cell? a=some v):w'.cell? a=some v:=(u.cell (World.block_lt_of_cell? _ _ h) (by simp)).trans h
structure aDz (b x a d:Nat) (K:KV) (X:List Nat) (q:abM) (w:World) (e:Ending) (w':World):Prop where
 ex:∃ (r:Nat) (K':KV) (T':List DM) (q':abM),e=.returned (.int .u32 r)/\aDr K X x a d r K'/\abv w' b K' T' q'/\afg T' K' X/\Upd (q.all b) w w'/\Sub (q.all b) w (q'.all b)/\r<=4294967295
theorem aJx (b x a d:Nat) (K:KV) (P X:List Nat) (T:List DM) (q:abM) (w:World) (h:abv w b K T q) (hw:K.Wf P) (ht:afg T K X) (hX:∀ s,s∈X->K.A.tk s=true) (hP:P.length<=1000000000) (hx:x<K.vars)
  (h1:K.A.tk a=true) (h2:K.A.tk d=true) (ha:a<=4294967295) (hd:d<=4294967295)
  (afQ:a≠d->(∀ (r:Nat) (p:abu),r∉X->2<=r->K.A.list[r]?=some p->p.taken=true->¬ (p.var=(x:Int)/\p.lo=a/\p.hi=d))->K.A.used<K.A.places) :
  Calls Tryz.prog 146 #[.pointer (some ⟨b,0,none⟩),.int .i64 x,.int .u32 a,.int .u32 d] w fun e w'=>aDz b x a d K X q w e w':=by
 have hlen:=ht.len;have hD:T[x]?=some (T[x]'(by omega)):=List.getElem?_eq_getElem (by omega);generalize T[x]'(by omega)=D at hD
 by_cases hne:a=d
 ·subst hne
  have HE:Hid (aDz b x a a K X q w (.returned (.int .u32 a)) w):=⟨a,K,T,q,rfl,.inl ⟨rfl,rfl,rfl⟩,h,ht,Upd.refl _ _,Sub.refl _ _,ha⟩;clear h hw ht hX afQ hD hlen h1 h2
  go_enter Tryz.func146,Tryz.ntmps146
  go_wp2_with fail;go_ret;exact HE.out
 ·have hd3:((a:Int) == (d:Int))=false:=by simp;omega
  have hd4:¬ ((a:Int)=(d:Int)):=by omega
  have hu1:Upd [] w (w.alloc (.cells #[.int .i64 x,.int .u32 a,.int .u32 d] 142 (0,0))):=(Upd.refl [] w).alloc _;have c1:(w.alloc (.cells #[.int .i64 x,.int .u32 a,.int .u32 d] 142 (0,0))).cell? ⟨b,1,none⟩=some (.pointer (some ⟨q.t,0,none⟩)):=hu1.cellK (aac h.blk rfl);have hbx:=heap_alloc_new w (.cells #[.int .i64 x,.int .u32 a,.int .u32 d] 142 (0,0))
  have HK:Hid (∀ y:World,Upd [] (w.alloc (.cells #[.int .i64 x,.int .u32 a,.int .u32 d] 142 (0,0))) y->y.cell? ⟨b,1,none⟩=some (.pointer (some ⟨q.t,0,none⟩))/\y.cell? ⟨w.heap.size,0,none⟩=some (.int .i64 x)/\y.cell? ⟨w.heap.size,1,none⟩=some (.int .u32 a)/\y.cell? ⟨w.heap.size,2,none⟩=some (.int .u32 d)):=fun y u =>
   ⟨u.cellK c1,u.cellK (aac (j:=0) hbx rfl),u.cellK (aac (j:=1) hbx rfl),u.cellK (aac (j:=2) hbx rfl)⟩
  have HM:Hid (∀ y:World,Upd [] (w.alloc (.cells #[.int .i64 x,.int .u32 a,.int .u32 d] 142 (0,0))) y->abv y b K T q):=fun y u=>h.upd (hu1.trans u) (by simp)
  have HD:=Lib.hid hD;have HL:=Lib.hid (And.intro hw (And.intro ht (And.intro h1 (And.intro h2 (And.intro afQ hX)))));have HU1:=Lib.hid hu1;have HNE:Hid (a≠d):=hne;obtain ⟨y0,y1,y2,y3⟩:=HK.out _ (Upd.refl _ _);clear h hw ht hX afQ hD hlen h1 h2 hbx c1 hu1 hne
  go_enter Tryz.func146,Tryz.ntmps146
  go_wp2_with fail
  go_region_held3 (fun y=>y.cell? ⟨b,1,none⟩=some (.pointer (some ⟨q.t,0,none⟩))/\y.cell? ⟨w.heap.size,0,none⟩=some (.int .i64 x)/\y.cell? ⟨w.heap.size,1,none⟩=some (.int .u32 a)/\y.cell? ⟨w.heap.size,2,none⟩=some (.int .u32 d)) (exact HK.out _ (by first | exact HU2.out | exact (Upd.refl [] _).drew | exact Upd.refl _ _)) (first | (go_at_call 189;refine (find_spec q.t q.FT x a d T D _ (HM.out _ (by first | exact (Upd.refl [] _).drew | exact Upd.refl _ _)).tab HD.out ha hd).mono ?_;rintro e w2 ⟨c,rfl,hc,hu⟩;have HC:=Lib.hid (HL.out.2.1.lookX HL.out.1 hx HD.out ha hd hc);have HU2:Hid (Upd [] (w.alloc (.cells #[.int .i64 x,.int .u32 a,.int .u32 d] 142 (0,0))) w2):=(by first | exact hu | exact (Upd.refl [] _).drew.trans hu);clear hc hu))
  have HMU:=Lib.hid (HM.out w2 HU2.out);obtain ⟨z0,z1,z2,z3⟩:=HK.out w2 HU2.out;clear y0 y1 y2 y3
  cases hbb:Maps.has D (nk x a d) with
  | true =>
   rw [hbb] at HC
   have HF:Hid (∃ r:Nat,c=(r:Int)/\r<=4294967295/\2<=r/\∃ p,K.A.list[r]?=some p/\p.taken=true/\p.var=(x:Int)/\p.lo=a/\p.hi=d):=by
    rcases HC.out with ⟨_,r,rfl,_,r2,p,hp,hrest⟩ | ⟨hf,_⟩
    ·refine ⟨r,rfl,?_,r2,p,hp,hrest⟩
     have h0:=(List.getElem?_eq_some_iff.1 hp).1;have h3:=HL.out.1.ok.lp;have h4:=HL.out.1.ok.pm;omega
    ·cases hf
   obtain ⟨r,rfl,hr,r2,hp⟩:=HF.out;have HE:Hid (aDz b x a d K X q w (.returned (.int .u32 r)) w2):=⟨r,K,T,q,rfl,.inr (.inl ⟨HNE.out,⟨r2,hp⟩,rfl⟩),HMU.out,HL.out.2.1,(HU1.out.trans HU2.out).mono (by simp),Sub.refl _ _,hr⟩;clear HC HF hp hbb;go_wp2_with fail;go_ret;exact HE.out
  | false =>
   rw [hbb] at HC
   have HF:Hid (c=0/\K.A.used<K.A.places/\∀ (s:Nat) (p:abu),s∉X->2<=s->K.A.list[s]?=some p->p.taken=true->¬ (p.var=(x:Int)/\p.lo=a/\p.hi=d)):=by
    rcases HC.out with ⟨hf,_⟩ | ⟨_,rfl,hno⟩
    ·cases hf
    ·exact ⟨rfl,HL.out.2.2.2.2.1 HNE.out hno,hno⟩
   obtain ⟨rfl,_⟩:=HF.out;have HTK:=Lib.hid (aBi b x a d K P T D q w2 HMU.out HL.out.1 HL.out.2.1 hP hx HL.out.2.2.1 HL.out.2.2.2.1 ha hd HD.out hbb HF.out.2.1);have HBB:=Lib.hid hbb;clear HC hbb;go_wp2_with fail;refine HTK.out.mono ?_;rintro e w3 ⟨r,K',q',rfl,hT,hm,hu,hs⟩
   have HE:Hid (aDz b x a d K X q w (.returned (.int .u32 r)) w3):=by
    refine ⟨r,K',_,q',rfl,.inr (.inr ⟨HNE.out,hT,HF.out.2.2⟩),hm,HL.out.2.1.tookX HL.out.2.2.2.2.2 hT HD.out HBB.out,?_,?_,?_⟩
    ·exact ((HU1.out.trans HU2.out).mono (by simp)).trans hu
    ·intro k hk
     rcases hs k hk with hk | hk
     ·exact .inl hk
     ·have:=(HU1.out.trans HU2.out).size;right;omega
    ·have:=hT.fr.room;omega
   clear hT hm hu hs;go_wp2_with fail;go_ret;exact HE.out
theorem ayP (b r y:Nat) (K:KV) (T:List DM) (q:abM) (p:abu) (w:World) (h:abv w b K T q) (hr:r<=4294967295) (hp:K.A.list[r]?=some p) (hpt:p.taken=true) :
  Calls Tryz.prog 188 #[.pointer (some ⟨b,0,none⟩),.int .u32 r,.int .i64 y] w fun e w'=>e=.returned (.tuple #[.int .u32 (K.part y r).1,.int .u32 (K.part y r).2])/\Upd [] w w':=by
 have HN:=Lib.hid (aiS b r K T q p w h hr hp hpt)
 have HE:Hid (K.part y r=if p.var=(y:Int) then (p.lo,p.hi) else (r,r)):=by show K.part y r=_;simp [KV.part,hp]
 generalize K.part y r=pr at *;clear h hp
 go_enter Tryz.func188,Tryz.ntmps188
 go_wp2_with fail;refine HN.out.mono ?_;rintro e w1 ⟨rfl,hu⟩;have HU:=Lib.hid (hu.alloc (.cells #[.int .i64 p.var,.int .u32 p.lo,.int .u32 p.hi] 142 (0,0)));have hbx:=heap_alloc_new w1 (.cells #[.int .i64 p.var,.int .u32 p.lo,.int .u32 p.hi] 142 (0,0));have x0:=aac (j:=0) hbx rfl;have x1:=aac (j:=1) hbx rfl;have x2:=aac (j:=2) hbx rfl;clear hu hbx HN
 by_cases hv:p.var=(y:Int)
 ·obtain ⟨z1,z2⟩:=pr
  have HE2:Hid (z1=p.lo/\z2=p.hi):=by have:=HE.out;rw [if_pos hv] at this;cases this;exact ⟨rfl,rfl⟩
  obtain ⟨rfl,rfl⟩:=HE2.out;rw [hv] at x0 HU;clear HE HE2;rw [hv];go_wp2_with fail
  go_quiet (fail)
  go_wp2_with fail;go_ret2;exact ⟨rfl,HU.out.drewN _⟩
 ·obtain ⟨z1,z2⟩:=pr
  have HE2:Hid (z1=r/\z2=r):=by have:=HE.out;rw [if_neg hv] at this;cases this;exact ⟨rfl,rfl⟩
  obtain ⟨rfl,rfl⟩:=HE2.out
  have hv2:(p.var == (y:Int))=false:=by simpa using hv
  have hv3:decide (p.var=(y:Int))=false:=decide_eq_false hv;clear HE HE2;go_wp2_with fail;go_ret2;exact ⟨rfl,HU.out⟩
end Go.Proofs.YtdackeldhdchaaaGreat
