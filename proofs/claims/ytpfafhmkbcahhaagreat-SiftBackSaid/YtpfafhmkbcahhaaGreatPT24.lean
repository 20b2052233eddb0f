import Derived.Test.YtpfafhmkbcahhaaGreatPT23
import Derived.Test.YtpfafhmkbcahhaaGreatPT10
import Derived.Test.YtpfafhmkbcahhaaGreatPT21
import Derived.Test.YtpfafhmkbcahhaaGreatPT22
set_option maxRecDepth 100000
set_option maxHeartbeats 3200000
namespace Go.Proofs.YtpfafhmkbcahhaaGreat
theorem mixO_congr {o o':List Nat} (h:∀ v,v∈o↔v∈o') (a y:Nat->Bool):mixO o a y=mixO o' a y:=by
 funext v
 simp only [mixO,h]
theorem turnL_at {o:List Nat} {l:Nat} (hl:l+1<o.length) (i:Nat):(turnL o l)[i]?=if i=l+1 then some (o.getD l 0) else if i=l then some (o.getD (l+1) 0) else o[i]?:=by
 unfold turnL
 by_cases e1:i=l+1
 ·subst e1;rw [List.getElem?_set_self (by simpa using hl),if_pos rfl]
 ·rw [List.getElem?_set_ne (Ne.symm e1),if_neg e1]
  by_cases e2:i=l
  ·subst e2;rw [List.getElem?_set_self (by omega),if_pos rfl]
  ·rw [List.getElem?_set_ne (Ne.symm e2),if_neg e2]
theorem turnL_take_lo {o:List Nat} {l i:Nat} (hi:i<=l):(turnL o l).take i=o.take i:=by
 unfold turnL;rw [List.take_set_of_le (by omega),List.take_set_of_le (by omega)]
theorem mem_take_at {o:List Nat} {i v:Nat}:v∈o.take i↔∃ j,j<i/\o[j]?=some v:=by
 constructor
 ·intro h
  obtain ⟨j,hj⟩:=List.getElem?_of_mem h;rw [List.getElem?_take] at hj
  split at hj
  ·rename_i h1;exact ⟨j,h1,hj⟩
  ·cases hj
 ·rintro ⟨j,h1,h2⟩
  exact List.mem_of_getElem? (i:=j) (by rw [List.getElem?_take,if_pos h1];exact h2)
theorem getD_at {o:List Nat} {j:Nat} (h:j<o.length):o[j]?=some (o.getD j 0):=by
 rw [List.getD_eq_getElem?_getD,List.getElem?_eq_getElem h];rfl
theorem turnL_take_hi {o:List Nat} {l i:Nat} (hl:l+1<o.length) (hi:l+2<=i) (v:Nat):v∈(turnL o l).take i↔v∈o.take i:=by
 rw [mem_take_at,mem_take_at];have a0:=getD_at (o:=o) (j:=l) (by omega);have a1:=getD_at hl;constructor
 ·rintro ⟨j,h1,h2⟩
  rw [turnL_at hl] at h2
  by_cases e1:j=l+1
  ·rw [if_pos e1] at h2;cases h2;exact ⟨l,by omega,a0⟩
  ·by_cases e2:j=l
   ·rw [if_neg e1,if_pos e2] at h2;cases h2;exact ⟨l+1,by omega,a1⟩
   ·rw [if_neg e1,if_neg e2] at h2;exact ⟨j,h1,h2⟩
 ·rintro ⟨j,h1,h2⟩
  by_cases e1:j=l+1
  ·subst e1;rw [a1] at h2;cases h2
   exact ⟨l,by omega,by rw [turnL_at hl,if_neg (by omega),if_pos rfl]⟩
  ·by_cases e2:j=l
   ·subst e2;rw [a0] at h2;cases h2
    exact ⟨j+1,by omega,by rw [turnL_at hl,if_pos rfl]⟩
   ·exact ⟨j,h1,by rw [turnL_at hl,if_neg e1,if_neg e2];exact h2⟩
theorem not_hangs {g:(Nat->Bool)->Bool} {v:Nat} (h:¬ Hangs g v) (z:Nat->Bool) (b:Bool):g (upd z v b)=g z:=by
 have e1:∀ b c,g (upd z v b)=g (upd z v c):=fun b c=>by
  have:g (upd z v true)=g (upd z v false):=Classical.byContradiction fun e=>h ⟨z,e⟩
  cases b <;> cases c <;> simp_all
 rw [e1 b (z v),upd_id]
def newT (K:KV) (x:Nat) (q:Nat × Nat):TV:=mkT K.vars fun w=>if w.testBit x then K.den q.2 fun v=>w.testBit v else K.den q.1 fun v=>w.testBit v
theorem newT_fn {K:KV} (hk:K.Ok) {x:Nat} (hx:x<K.vars) {q:Nat × Nat} (h1:K.A.tk q.1=true) (h2:K.A.tk q.2=true) (y:Nat->Bool):(newT K x q).fn y=if y x then K.den q.2 y else K.den q.1 y:=by
 unfold newT;rw [mkT_fn,idx_bit]
 have e:∀ {r:Nat},K.A.tk r=true->(K.den r fun v=>(idx K.vars y).testBit v)=K.den r y:=fun hr=>hk.den_low hr fun v hv=>by rw [idx_bit];simp [hv]
 rw [e h1,e h2];simp [hx]
theorem Nb.pair {K:KV} {l x y:Nat} (nb:Nb K l x y) {a d r:Nat} (ha:Deep K l a) (hd:Deep K l d) (hne:a≠d) (h2:2<=r) (ht:K.A.tk r=true) (he:∀ z,K.den r z=if z x then K.den d z else K.den a z):K.has3 x a d:=by
 obtain ⟨hx,hy,lx,ly,hxy⟩:=nb.facts;obtain ⟨p,v,hp,hpt,hv,hvl,t1,t2,hdep⟩:=nb.ok.wf.node_at h2 ht
 have hvn:p.var.toNat=v:=by omega
 obtain ⟨v',hv',hd',hh,hno⟩:=nb.ok.node_hangs nb.un h2 ht;have evv:v'=v:=nb.ok.ord.pm.inj hv' hvl (by omega);subst evv
 have ev:v'=x:=by
  refine Classical.byContradiction fun hne2=>?_
  have hxl:¬ K.lev x<K.lev v':=fun hlt=>by
   refine hno x hx hlt ?_
   refine Classical.byContradiction fun hnx=>hne (KV.canon nb.ok.wf nb.ok.ord nb.un _ _ _ ha.1 hd.1 (Nat.le_refl _) fun z=>?_)
   have e1:=not_hangs hnx z true;have e2:=not_hangs hnx z false;have e3:=e1.trans e2.symm;rw [he,he,upd_self,upd_self,(nb.deep_den hd z true).1,(nb.deep_den ha z false).1] at e3
   simpa using e3.symm
  have hlt:K.lev v'<K.lev x:=by
   have:K.lev v'≠K.lev x:=fun e=>hne2 (nb.ok.ord.pm.inj hvl hx e)
   omega
  obtain ⟨z,hz⟩:=hh;refine hz ?_;have a2:=ha.2;have d2:=hd.2;rw [he,he,upd_ne z true (Ne.symm hne2),upd_ne z false (Ne.symm hne2),KV.den_upd nb.ok.wf nb.ok.ord ha.1 hvl (by omega),KV.den_upd nb.ok.wf nb.ok.ord ha.1 hvl (by omega),KV.den_upd nb.ok.wf nb.ok.ord hd.1 hvl (by omega),KV.den_upd nb.ok.wf nb.ok.ord hd.1 hvl (by omega)]
 subst ev
 have g0:=fun z=>KV.den_lo nb.ok.wf nb.ok.ord h2 hp hpt z
 have g1:=fun z=>KV.den_hi nb.ok.wf nb.ok.ord h2 hp hpt z
 rw [hvn] at g0 g1;refine ⟨r,p,h2,hp,hpt,hv,KV.canon nb.ok.wf nb.ok.ord nb.un _ _ _ t1 ha.1 (Nat.le_refl _) fun z=>?_,KV.canon nb.ok.wf nb.ok.ord nb.un _ _ _ t2 hd.1 (Nat.le_refl _) fun z=>?_⟩
 ·rw [<- g0,he,upd_self,(nb.deep_den ha z false).1];rfl
 ·rw [<- g1,he,upd_self,(nb.deep_den hd z true).1];rfl
theorem newT_hangs {K:KV} {l x y:Nat} (nb:Nb K l x y) {q:Nat × Nat} (h1:Deep K l q.1) (h2:Deep K l q.2) (hne:q.1≠q.2):Hangs (newT K x q).fn x:=by
 obtain ⟨hx,_⟩:=nb.facts
 refine Classical.byContradiction fun hnx=>hne (KV.canon nb.ok.wf nb.ok.ord nb.un _ _ _ h1.1 h2.1 (Nat.le_refl _) fun z=>?_)
 have e1:=not_hangs hnx z true;have e2:=not_hangs hnx z false;have e3:=e1.trans e2.symm;rw [newT_fn nb.ok hx h1.1 h2.1,newT_fn nb.ok hx h1.1 h2.1,upd_self,upd_self,(nb.deep_den h2 z true).1,(nb.deep_den h1 z false).1] at e3
 simpa using e3.symm
theorem Agr.turned {K:KV} {M:MV} {l x y:Nat} {C:List CrV} {N:List (Nat × Nat)} (h:Agr K M) (nb:Nb K l x y) (hn:K.vars<=16) (CA:CrAll K l x y C) (F:FrN K x (C.flatMap CrV.qs) N) (u:TV) :
  (u∈flatT M.tabs (turnL K.order l)->(∃ r,2<=r/\K.A.tk r=true/\K.tab r=u)\/∃ q,q∈N/\newT K x q=u)/\(∀ q,q∈N->newT K x q∈flatT M.tabs (turnL K.order l)):=by
 obtain ⟨hx,hy,lx,ly,hxy⟩:=nb.facts;have hk:=nb.ok;have hu:=nb.un;have pm:=hk.ord.pm;have hl:=nb.hl;have ol:=pm.ol
 have hl1:l+1<K.order.length:=by omega
 have hL:∀ t,t∈M.tabs->t.Ok/\t.n=K.vars:=h.roots.ok
 have ho:∀ v,v∈K.order->v<K.vars:=fun v hv=>pm.mem_order hv
 have ho':∀ v,v∈turnL K.order l->v<K.vars:=fun v hv=>ho v (mem_turnL hl1 hv)
 have a0:K.order[l]?=some x:=by rw [<- nb.hx];exact getD_at (by omega)
 have a1:K.order[l+1]?=some y:=by rw [<- nb.hy];exact getD_at hl1
 have old:∀ u,u∈flatT M.tabs K.order->∃ r,2<=r/\K.A.tk r=true/\K.tab r=u:=fun u hu'=>by
  have hu2:=hu';rw [<- h.same.od] at hu2;exact (h.mem hk hu hn).1 hu2
 have tk1:∀ v,v∈K.order.take (l+1)↔v∈K.order.take l\/v=x:=fun v=>by
  rw [List.take_add_one,a0];simp
 have tk2:∀ v,v∈(turnL K.order l).take (l+1)↔v∈K.order.take l\/v=y:=fun v=>by
  rw [List.take_add_one,turnL_take_lo (Nat.le_refl _),turnL_at hl1,if_neg (by omega),if_pos rfl,nb.hy];simp
 have nx:x∉K.order.take l:=fun hm=>by have:=(pm.mem_take.1 hm).2;omega
 have ny:y∉K.order.take l:=fun hm=>by have:=(pm.mem_take.1 hm).2;omega
 have mx:∀ (a z:Nat->Bool) (b:Bool),mixO (K.order.take (l+1)) (upd a x b) z=mixO (K.order.take l) a (upd z x b):=fun a z b=>by
  funext v
  simp only [mixO,tk1,upd]
  by_cases e:v=x
  ·subst e;simp [nx]
  ·simp [e]
 have my:∀ (a z:Nat->Bool),mixO ((turnL K.order l).take (l+1)) a z=mixO (K.order.take l) a (upd z y (a y)):=fun a z=>by
  funext v
  simp only [mixO,tk2,upd]
  by_cases e:v=y
  ·subst e;simp [ny]
  ·simp [e]
 refine ⟨fun hm=>?_,fun q hq=>?_⟩
 ·obtain ⟨i,v,hi,uok,un,⟨t,ht,a,he⟩,hh⟩:=(mem_flatT hL ho').1 hm
  rw [turnL_at hl1] at hi
  by_cases e1:i=l+1
  ·subst e1
   rw [if_pos rfl,nb.hx] at hi
   obtain rfl:x=v:=by simpa using hi
   obtain ⟨g,hg⟩ : ∃ g:(Nat->Bool)->Bool,∀ z,g z=t.fn (mixO (K.order.take l) a z):=⟨_,fun _=>rfl⟩
   have hug:∀ z,u.fn z=g (upd z y (a y)):=fun z=>by rw [he,my,hg]
   have hgx:Hangs g x:=by
    refine Classical.byContradiction fun hnx=>?_
    obtain ⟨z,hz⟩:=hh;refine hz ?_
    have ec:∀ b,upd (upd z x b) y (a y)=upd (upd z y (a y)) x b:=fun b=>by
     funext w;simp only [upd]
     by_cases e1:w=y
     ·subst e1;simp [Ne.symm hxy]
     ·simp [e1]
    rw [hug,hug,ec,ec,not_hangs hnx,not_hangs hnx]
   have hgl:∀ z,(mkT K.vars fun w=>g fun v=>w.testBit v).fn z=g z:=fun z=>by
    rw [mkT_fn,hg,hg]
    refine TV.fn_same t fun v hv=>?_
    simp only [mixO]
    split
    ·rfl
    ·rw [idx_bit];rw [(hL t ht).2] at hv;simp [hv]
   obtain ⟨r,r2,rt,rtab⟩:=old (mkT K.vars fun w=>g fun v=>w.testBit v) ((mem_flatT hL ho).2 ⟨l,x,a0,mkT_ok _ hn,rfl,⟨t,ht,a,fun z=>by rw [hgl,hg]⟩,by
    obtain ⟨z,hz⟩:=hgx
    exact ⟨z,by rw [hgl,hgl];exact hz⟩⟩)
   have hrg:∀ z,K.den r z=g z:=fun z=>by rw [<- hk.tab_fn rt,rtab,hgl]
   have hur:∀ z,u.fn z=K.den r (upd z y (a y)):=fun z=>by rw [hug,hrg]
   obtain ⟨p,v,hp,hpt,hv,hvl,t1,t2,hdep⟩:=hk.wf.node_at r2 rt
   by_cases hcr:K.Cross x y r
   ·obtain ⟨c,hc,rfl⟩:=List.mem_map.1 (CA.all r hcr)
    obtain ⟨p',_,_,_,_,_,F4⟩:=(CA.ok c hc).at_
    have hq:∃ q,q∈CrV.qs c/\∀ z,u.fn z=if z x then K.den q.2 z else K.den q.1 z:=by
     cases hb:a y with
     | false =>
      refine ⟨(c.a00,c.a10),by simp [CrV.qs],fun z=>?_⟩
      rw [hur,hb,F4.den,upd_self,upd_ne z false hxy,(nb.deep_den F4.d10 z false).2,(nb.deep_den F4.d00 z false).2];rfl
     | true =>
      refine ⟨(c.a01,c.a11),by simp [CrV.qs],fun z=>?_⟩
      rw [hur,hb,F4.den,upd_self,upd_ne z true hxy,(nb.deep_den F4.d11 z true).2,(nb.deep_den F4.d01 z true).2];rfl
    obtain ⟨q,hq,hqe⟩:=hq;have hqQ:q∈C.flatMap CrV.qs:=List.mem_flatMap.2 ⟨c,hc,hq⟩;obtain ⟨d1,d2⟩:=CA.deep hqQ
    have hune:q.1≠q.2:=fun e=>by
     obtain ⟨z,hz⟩:=hh;refine hz ?_
     rw [hqe,hqe,e,(nb.deep_den d2 z true).1,(nb.deep_den d2 z false).1];simp
    by_cases h3:K.has3 x q.1 q.2
    ·left
     obtain ⟨s,ps,s2,hps,hpst,hsv,e1,e2⟩:=h3;have st:K.A.tk s=true:=ArenaV.tk_iff.2 ⟨ps,hps,hpst⟩;refine ⟨s,s2,st,hk.tab_eq hn st uok un fun z=>?_⟩;rw [hqe,KV.den_node hk.wf hk.ord s2 hps hpst,show ps.var.toNat=x by omega,e1,e2]
    ·right
     refine ⟨q,(F.iff q).2 ⟨hqQ,hune,h3⟩,TV.fn_ext (mkT_ok _ hn) uok un.symm fun z=>?_⟩;rw [newT_fn hk hx d1.1 d2.1,hqe]
   ·-- no crossing: it does not hang on y
    left;refine ⟨r,r2,rt,hk.tab_eq hn rt uok un fun z=>?_⟩;rw [hur]
    have hvx:v=x:=by
     have h5:K.lev v<=l:=by
      rw [<- hdep]
      refine Classical.byContradiction fun h6=>?_
      obtain ⟨z,hz⟩:=hgx;refine hz ?_;rw [<- hrg,<- hrg,KV.den_upd hk.wf hk.ord rt hx (by omega),KV.den_upd hk.wf hk.ord rt hx (by omega)]
     have h6:¬ K.lev v<l:=fun h6=>by
      obtain ⟨v',hv',hd',⟨z,hz⟩,_⟩:=hk.node_hangs hu r2 rt;have evv:v'=v:=pm.inj hv' hvl (by omega);subst evv;refine hz ?_;rw [hrg,hrg,hg,hg]
      congr 1
      funext w
      simp only [mixO,upd]
      by_cases ew:w=v'
      ·subst ew;rw [if_pos (pm.mem_take.2 ⟨hvl,h6⟩),if_pos (pm.mem_take.2 ⟨hvl,h6⟩)]
      ·simp [ew]
     exact pm.inj hvl hx (by omega)
    subst hvx
    have k1:K.vI p.lo≠(y:Int):=fun e=>hcr ⟨r2,p,hp,hpt,hv,.inl e⟩
    have k2:K.vI p.hi≠(y:Int):=fun e=>hcr ⟨r2,p,hp,hpt,hv,.inr e⟩
    have hb:=hk.ord.below hk.wf r2 hp hpt;have g1:=nb.kid t1 (by omega) k1;have g2:=nb.kid t2 (by omega) k2;rw [KV.den_node hk.wf hk.ord r2 hp hpt,KV.den_node hk.wf hk.ord r2 hp hpt,show p.var.toNat=v by omega,upd_ne z _ hxy,(nb.deep_den g1 z _).2,(nb.deep_den g2 z _).2]
  ·rw [if_neg e1] at hi
   by_cases e2:i=l
   ·subst e2
    rw [if_pos rfl,nb.hy] at hi
    obtain rfl:y=v:=by simpa using hi
    rw [turnL_take_lo (Nat.le_refl _)] at he;left;refine old u ?_
    by_cases hux:Hangs u.fn x
    ·exact (mem_flatT hL ho).2 ⟨i,x,a0,uok,un,⟨t,ht,a,he⟩,hux⟩
    ·refine (mem_flatT hL ho).2 ⟨i+1,y,a1,uok,un,⟨t,ht,upd a x false,fun z=>?_⟩,hh⟩
     rw [mx,<- he,not_hangs hux]
   ·rw [if_neg e2] at hi
    left;refine old u ((mem_flatT hL ho).2 ⟨i,v,hi,uok,un,⟨t,ht,a,fun z=>?_⟩,hh⟩);rw [he]
    congr 1
    rcases Nat.lt_or_ge i l with h5 | h5
    ·rw [turnL_take_lo (by omega)]
    ·exact mixO_congr (turnL_take_hi hl1 (by omega)) a z
 ·obtain ⟨hqQ,hune,_⟩:=(F.iff q).1 hq
  obtain ⟨d1,d2⟩:=CA.deep hqQ;obtain ⟨c,hc,hm⟩:=List.mem_flatMap.1 hqQ;obtain ⟨p,hp,hpt,hv,_,_,F4⟩:=(CA.ok c hc).at_;have c2:2<=c.r:=(CA.ok c hc).cr.1;have ct:K.A.tk c.r=true:=ArenaV.tk_iff.2 ⟨p,hp,hpt⟩
  have hmem:K.tab c.r∈flatT M.tabs K.order:=by
   have:=(h.mem hk hu hn).2 ⟨c.r,c2,ct,rfl⟩
   rw [<- h.same.od];exact this
  obtain ⟨i,v,hi,_,_,⟨t,ht,a,he⟩,hh⟩:=(mem_flatT hL ho).1 hmem
  have hden:∀ z,K.den c.r z=t.fn (mixO (K.order.take i) a z):=fun z=>by rw [<- hk.tab_fn ct,he]
  have hio:=pm.at_order hi
  have hdl:K.dep c.r=l:=by rw [nb.dep_at hp hv];exact lx
  have hil:i=l:=by
   have hx':Hangs (K.den c.r) x:=by
    obtain ⟨v',hv',hd',hh',_⟩:=hk.node_hangs hu c2 ct;have:v'=x:=pm.inj hv' hx (by omega)
    subst this;exact hh'
   have h5:i<=l:=by
    refine Classical.byContradiction fun h6=>?_
    obtain ⟨z,hz⟩:=hx';refine hz ?_;rw [hden,hden]
    congr 1
    funext w
    simp only [mixO,upd]
    by_cases ew:w=x
    ·subst ew;rw [if_pos (pm.mem_take.2 ⟨hx,by omega⟩),if_pos (pm.mem_take.2 ⟨hx,by omega⟩)]
    ·simp [ew]
   have h6:¬ i<l:=fun h6=>by
    obtain ⟨z,hz⟩:=hh;refine hz ?_;rw [hk.tab_fn ct,hk.tab_fn ct,KV.den_upd hk.wf hk.ord ct hio.1 (by omega),KV.den_upd hk.wf hk.ord ct hio.1 (by omega)]
   omega
  subst hil
  have hb:∃ b,∀ z,(newT K x q).fn z=K.den c.r (upd z y b):=by
   simp only [CrV.qs,List.mem_cons,List.not_mem_nil,or_false] at hm
   rcases hm with rfl | rfl
   ·refine ⟨false,fun z=>?_⟩
    rw [newT_fn hk hx d1.1 d2.1,F4.den,upd_self,upd_ne z false hxy,(nb.deep_den F4.d10 z false).2,(nb.deep_den F4.d00 z false).2];rfl
   ·refine ⟨true,fun z=>?_⟩
    rw [newT_fn hk hx d1.1 d2.1,F4.den,upd_self,upd_ne z true hxy,(nb.deep_den F4.d11 z true).2,(nb.deep_den F4.d01 z true).2];rfl
  obtain ⟨b,hb⟩:=hb;refine (mem_flatT hL ho').2 ⟨i+1,x,by rw [turnL_at hl1,if_pos rfl,nb.hx],mkT_ok _ hn,rfl,⟨t,ht,upd a y b,fun z=>?_⟩,newT_hangs nb d1 d2 hune⟩;rw [hb,hden,my,upd_self]
  congr 1
  funext w
  simp only [mixO,upd]
  by_cases ew:w=y
  ·subst ew;simp [ny]
  ·simp [ew]
theorem Agr.U {K:KV} {M:MV} {l x y:Nat} {C:List CrV} {N:List (Nat × Nat)} (h:Agr K M) (nb:Nb K l x y) (hn:K.vars<=16) (CA:CrAll K l x y C) (F:FrN K x (C.flatMap CrV.qs) N):M.U l+2=K.A.used+N.length:=by
 obtain ⟨hx,hy,lx,ly,hxy⟩:=nb.facts;have hk:=nb.ok;have hu:=nb.un
 have nt:∀ q,q∈N->Deep K l q.1/\Deep K l q.2/\q.1≠q.2/\¬ K.has3 x q.1 q.2:=fun q hq=>by
  obtain ⟨h1,h2,h3⟩:=(F.iff q).1 hq;exact ⟨(CA.deep h1).1,(CA.deep h1).2,h2,h3⟩
 have hmem:∀ u,u∈unlikeT (M.lev.flatten++(levT (unlikeT M.tabs) (turnL M.order l)).flatten)↔u∈K.nodes.map K.tab++N.map (newT K x):=fun u=>by
  rw [mem_unlikeT,List.mem_append,List.mem_append,List.mem_map,List.mem_map];have ht:=h.turned nb hn CA F u
  have e1:u∈(levT (unlikeT M.tabs) (turnL M.order l)).flatten↔u∈flatT M.tabs (turnL K.order l):=by rw [h.same.od];rfl
  rw [e1];constructor
  ·rintro (hm | hm)
   ·obtain ⟨r,h1,h2,h3⟩:=(h.mem hk hu hn).1 hm
    exact .inl ⟨r,KV.mem_nodes.2 ⟨h1,h2⟩,h3⟩
   ·rcases ht.1 hm with ⟨r,h1,h2,h3⟩ | h1
    ·exact .inl ⟨r,KV.mem_nodes.2 ⟨h1,h2⟩,h3⟩
    ·exact .inr h1
  ·rintro (⟨r,h1,h2⟩ | ⟨q,h1,h2⟩)
   ·obtain ⟨a,b⟩:=KV.mem_nodes.1 h1
    exact .inl ((h.mem hk hu hn).2 ⟨r,a,b,h2⟩)
   ·right;rw [<- h2];exact (h.turned nb hn CA F u).2 q h1
 have hnd:(K.nodes.map K.tab++N.map (newT K x)).Nodup:=by
  rw [List.nodup_append];refine ⟨List.pairwise_map.2 (List.Pairwise.imp_of_mem (fun {a b} ha hb hne e=>hne (hk.tab_inj hu (KV.mem_nodes.1 ha).2 (KV.mem_nodes.1 hb).2 e)) K.nodes_nodup),List.pairwise_map.2 (List.Pairwise.imp_of_mem (fun {a b} ha hb hne e=>hne ?_) F.nd),fun s hs u hu' e=>?_⟩
  ·subst e
   obtain ⟨r,hr,rfl⟩:=List.mem_map.1 hs;obtain ⟨q,hq,he⟩:=List.mem_map.1 hu';obtain ⟨d1,d2,hne,hno⟩:=nt q hq;obtain ⟨r2,rt⟩:=KV.mem_nodes.1 hr;exact hno (nb.pair d1 d2 hne r2 rt fun z=>by rw [<- hk.tab_fn rt,<- he,newT_fn hk hx d1.1 d2.1])
  ·obtain ⟨a1,a2,_⟩:=nt a ha
   obtain ⟨b1,b2,_⟩:=nt b hb
   have hf:∀ z,(if z x then K.den a.2 z else K.den a.1 z)=if z x then K.den b.2 z else K.den b.1 z:=fun z=>by rw [<- newT_fn hk hx a1.1 a2.1,<- newT_fn hk hx b1.1 b2.1,e]
   refine Prod.ext (KV.canon hk.wf hk.ord hu _ _ _ a1.1 b1.1 (Nat.le_refl _) fun z=>?_) (KV.canon hk.wf hk.ord hu _ _ _ a2.1 b2.1 (Nat.le_refl _) fun z=>?_)
   ·have:=hf (upd z x false)
    rw [upd_self,(nb.deep_den a1 z false).1,(nb.deep_den b1 z false).1] at this
    simpa using this
   ·have:=hf (upd z x true)
    rw [upd_self,(nb.deep_den a2 z true).1,(nb.deep_den b2 z true).1] at this
    simpa using this
 have h1:=List.Nodup.length_le_of_subset (unlikeT_nodup _) fun u hm=>(hmem u).1 hm
 have h2:=List.Nodup.length_le_of_subset hnd fun u hm=>(hmem u).2 hm
 have h3:=hk.nodes_len;rw [List.length_append,List.length_map,List.length_map] at h1 h2
 show (unlikeT _).length+2=_
 omega
theorem turnL_turnL {o:List Nat} {l:Nat} (hl:l+1<o.length):turnL (turnL o l) l=o:=by
 apply List.ext_getElem?
 intro i
 have hl':l+1<(turnL o l).length:=by rw [turnL_len];exact hl
 have g0:(turnL o l).getD l 0=o.getD (l+1) 0:=by rw [List.getD_eq_getElem?_getD,turnL_at hl,if_neg (by omega),if_pos rfl];rfl
 have g1:(turnL o l).getD (l+1) 0=o.getD l 0:=by rw [List.getD_eq_getElem?_getD,turnL_at hl,if_pos rfl];rfl
 rw [turnL_at hl',g0,g1]
 by_cases e1:i=l+1
 ·subst e1;rw [if_pos rfl,getD_at hl]
 ·by_cases e2:i=l
  ·subst e2;rw [if_neg e1,if_pos rfl,getD_at (by omega)]
  ·rw [if_neg e1,if_neg e2,turnL_at hl,if_neg e1,if_neg e2]
def MV.Uo (M:MV) (o:List Nat) (l:Nat):Nat:=(unlikeT ((levT (unlikeT M.tabs) o).flatten++(levT (unlikeT M.tabs) (turnL o l)).flatten)).length
theorem MV.Uo_turn (M:MV) {o:List Nat} {l:Nat} (hl:l+1<o.length):M.Uo (turnL o l) l=M.Uo o l:=by
 unfold MV.Uo;rw [turnL_turnL hl];refine Nat.le_antisymm (List.Nodup.length_le_of_subset (unlikeT_nodup _) fun u hu=>?_) (List.Nodup.length_le_of_subset (unlikeT_nodup _) fun u hu=>?_)
 ·rw [mem_unlikeT,List.mem_append] at hu ⊢;exact hu.symm
 ·rw [mem_unlikeT,List.mem_append] at hu ⊢;exact hu.symm
def MV.fitT (M:MV):List Nat->List Nat->Prop
 | [],_=>True
 | l::r,o=>l+2<=M.n/\2+M.Uo o l<=M.c/\M.fitT r (turnL o l)
def MV.TrFit (M:MV):Prop:=M.fitT M.trail.reverse M.order
theorem MV.fitT_same {M M':MV} (h1:M'.n=M.n) (h2:M'.c=M.c) (h3:M'.held=M.held):∀ (r o:List Nat),M.fitT r o->M'.fitT r o
 | [],_,_=>trivial
 | l::r,o,⟨a,b,c⟩=>by
  have ht:M'.tabs=M.tabs:=by unfold MV.tabs;rw [h3]
  exact ⟨by rw [h1];exact a,by unfold MV.Uo;rw [h2,ht];exact b,MV.fitT_same h1 h2 h3 r _ c⟩
def MV.undo (M:MV):MV:={ M with order:=turnL M.order (M.trail.getLastD 0),trail:=M.trail.dropLast }
theorem MV.exch_yes {M:MV} {l:Int} (h:M.exchE l=0):0<=l/\l.toNat+2<=M.n/\2+M.U l.toNat<=M.c/\M.exch l={ M with order:=turnL M.order l.toNat,trail:=M.trail++[l.toNat] }:=by
 refine ⟨?_,?_,?_,by unfold MV.exch;rw [if_pos h]⟩
 all_goals
  unfold MV.exchE at h
  split at h
  ·cases h
  ·rename_i h1
   split at h
   ·cases h
   ·omega
theorem MV.exch_no {M:MV} {l:Int} (h:M.exchE l≠0):M.exch l=M:=by unfold MV.exch;rw [if_neg h]
theorem MV.exch_n (M:MV) (l:Int):(M.exch l).n=M.n/\(M.exch l).c=M.c/\(M.exch l).held=M.held:=by
 unfold MV.exch;split <;> exact ⟨rfl,rfl,rfl⟩
theorem MV.TrFit.exch {M:MV} (h:M.TrFit) (ho:M.order.length=M.n) (l:Int):(M.exch l).TrFit:=by
 by_cases he:M.exchE l=0
 ·obtain ⟨h0,h1,h2,e⟩:=MV.exch_yes he
  rw [e]
  show MV.fitT _ (M.trail++[l.toNat]).reverse (turnL M.order l.toNat)
  rw [List.reverse_append,List.reverse_singleton,List.singleton_append];refine ⟨h1,?_,?_⟩
  ·show 2+M.Uo (turnL M.order l.toNat) l.toNat<=M.c
   rw [M.Uo_turn (by omega)];exact h2
  ·rw [turnL_turnL (by omega)]
   exact MV.fitT_same (M:=M) (M':={ M with order:=turnL M.order l.toNat,trail:=M.trail++[l.toNat] }) rfl rfl rfl _ _ h
 ·rw [MV.exch_no he];exact h
theorem trail_split {t:List Nat} (h:t≠[]):t=t.dropLast++[t.getLastD 0]:=by
 rw [List.getLastD_eq_getLast?,List.getLast?_eq_some_getLast h];exact (List.dropLast_concat_getLast h).symm
theorem MV.TrFit.last {M:MV} (h:M.TrFit) (hne:M.trail≠[]):M.trail.getLastD 0+2<=M.n/\2+M.U (M.trail.getLastD 0)<=M.c/\M.undo.TrFit:=by
 have hs:=trail_split hne;unfold MV.TrFit at h;generalize M.trail.getLastD 0=l at hs h ⊢;rw [hs,List.reverse_append,List.reverse_singleton,List.singleton_append] at h;obtain ⟨a,b,c⟩:=h;refine ⟨a,b,?_⟩
 show MV.fitT _ M.trail.dropLast.reverse (turnL M.order (M.trail.getLastD 0))
 have e:M.trail.getLastD 0=l:=by rw [hs];simp
 rw [e];exact MV.fitT_same (M:=M) (M':=M.undo) rfl rfl rfl _ _ c
theorem MV.undo_exch {M:MV} {l:Int} (h:M.exchE l=0) (ho:M.order.length=M.n):(M.exch l).undo=M:=by
 obtain ⟨h0,h1,h2,e⟩:=MV.exch_yes h;rw [e];unfold MV.undo
 simp only [List.getLastD_concat,List.dropLast_concat]
 rw [turnL_turnL (by omega)]
def MV.live (M:MV):Nat:=M.lev.flatten.length
def lvlD (p:Nat) (down:Bool) (j:Nat):Nat:=if down then p+j else p-1-j
def posD (p:Nat) (down:Bool) (j:Nat):Nat:=if down then p+j else p-j
def distD (n p:Nat) (down:Bool):Nat:=if down then n-1-p else p
def MV.goS (M:MV) (p:Nat) (down:Bool):Nat->MV
 | 0=>M
 | j+1=>(M.goS p down j).exch (lvlD p down j)
def bestB (L best:Nat):Nat:=if L<best then L else best
def bestJ (L best j bj:Nat):Nat:=if L<best then j else bj
def MV.runD (M:MV) (p:Nat) (down:Bool) (g:Nat):Nat->Nat->Nat->Nat->Nat × Nat × Nat
 | 0,j,best,bj=>(j,best,bj)
 | f+1,j,best,bj =>
  if (M.goS p down j).exchE (lvlD p down j)≠0 then (j,best,bj)
  else if (bestB (M.goS p down (j+1)).live best)*g<(M.goS p down (j+1)).live*100 then
   (j+1,(bestB (M.goS p down (j+1)).live best),bestJ (M.goS p down (j+1)).live best (j+1) bj)
  else M.runD p down g f (j+1) (bestB (M.goS p down (j+1)).live best) (bestJ (M.goS p down (j+1)).live best (j+1) bj)
def MV.okD (M:MV) (p:Nat) (down:Bool) (j:Nat):Prop:=∀ i,i<j->(M.goS p down i).exchE (lvlD p down i)=0
structure RunF (M:MV) (p:Nat) (down:Bool) (f j bj:Nat) (r:Nat × Nat × Nat):Prop where
 lo:j<=r.1
 hi:r.1<=j+f
 ok:M.okD p down j->M.okD p down r.1
 bj:bj<=j->r.2.2<=r.1
theorem MV.runD_f (M:MV) (p:Nat) (down:Bool) (g:Nat):∀ (f j best bj:Nat),RunF M p down f j bj (M.runD p down g f j best bj)
 | 0,j,best,bj=>⟨Nat.le_refl _,Nat.le_refl _,id,id⟩
 | f+1,j,best,bj=>by
  unfold MV.runD;split
  ·exact ⟨Nat.le_refl _,by show j<=_;omega,id,id⟩
  ·rename_i he
   have he:(M.goS p down j).exchE (lvlD p down j)=0:=Classical.not_not.1 he
   have hok:M.okD p down j->M.okD p down (j+1):=fun h i hi=>by
    by_cases e:i=j
    ·subst e;exact he
    ·exact h i (by omega)
   split
   ·exact ⟨by show j<=j+1;omega,by show j+1<=_;omega,hok,fun h=>by show bestJ _ _ _ _<=j+1;unfold bestJ;split <;> omega⟩
   ·have ih:=MV.runD_f M p down g f (j+1) (bestB (M.goS p down (j+1)).live best) (bestJ (M.goS p down (j+1)).live best (j+1) bj)
    exact ⟨by have:=ih.lo;omega,by have:=ih.hi;omega,fun h=>ih.ok (hok h),fun h=>ih.bj (by unfold bestJ;split <;> omega)⟩
theorem MV.goS_n (M:MV) (p:Nat) (down:Bool):∀ j,(M.goS p down j).n=M.n/\(M.goS p down j).c=M.c/\(M.goS p down j).held=M.held
 | 0=>⟨rfl,rfl,rfl⟩
 | j+1=>by
  have h:=MV.goS_n M p down j;have e:=(M.goS p down j).exch_n (lvlD p down j);exact ⟨e.1.trans h.1,e.2.1.trans h.2.1,e.2.2.trans h.2.2⟩
theorem MV.exch_len {M:MV} (h:M.order.length=M.n) (l:Int):(M.exch l).order.length=(M.exch l).n:=by
 unfold MV.exch;split
 ·show (turnL _ _).length=M.n;rw [turnL_len];exact h
 ·exact h
theorem MV.goS_len {M:MV} (h:M.order.length=M.n) (p:Nat) (down:Bool):∀ j,(M.goS p down j).order.length=(M.goS p down j).n
 | 0=>h
 | j+1=>MV.exch_len (MV.goS_len h p down j) _
theorem MV.goS_undo {M:MV} (h:M.order.length=M.n) {p:Nat} {down:Bool} {j:Nat} (hok:M.okD p down (j+1)):(M.goS p down (j+1)).undo=M.goS p down j :=
 MV.undo_exch (hok j (by omega)) (MV.goS_len h p down j)
theorem MV.goS_at {M:MV} {p v:Nat} (hv:M.order[p]?=some v) (ho:M.order.length=M.n) {down:Bool}:∀ j,M.okD p down j->j<=distD M.n p down->(M.goS p down j).order[posD p down j]?=some v
 | 0,_,_=>by simpa [MV.goS,posD] using hv
 | j+1,hok,hj=>by
  have ih:=MV.goS_at hv ho j (fun i hi=>hok i (by omega)) (by omega);have hl:=MV.goS_len ho p down j;have hn:=(M.goS_n p down j).1;obtain ⟨h0,h1,_,e⟩:=MV.exch_yes (hok j (by omega))
  show ((M.goS p down j).exch (lvlD p down j)).order[posD p down (j+1)]?=some v
  rw [e]
  show (turnL (M.goS p down j).order (lvlD p down j:Int).toNat)[posD p down (j+1)]?=some v
  rw [Int.toNat_natCast] at h1 ⊢
  have hl1:lvlD p down j+1<(M.goS p down j).order.length:=by omega
  rw [turnL_at hl1]
  cases down with
  | true =>
   simp only [lvlD,posD,if_true] at ih hl1 ⊢
   rw [if_pos (by omega),<- getD_at (by omega)];exact ih
  | false =>
   simp only [lvlD,posD,distD,Bool.false_eq_true,if_false] at ih hl1 hj ⊢
   rw [if_neg (by omega),if_pos (by omega),<- getD_at (by omega),show p-1-j+1=p-j by omega];exact ih
theorem posD_last {n p j:Nat} {down:Bool} (hp:p<n) (hj:j<=distD n p down):posD p down j<n/\(j=distD n p down↔posD p down j=if down then n-1 else 0):=by
 cases down with
 | true=>simp only [posD,distD,if_true] at hj ⊢;omega
 | false=>simp only [posD,distD,Bool.false_eq_true,if_false] at hj ⊢;omega
theorem posD_inj {n p j k:Nat} {down:Bool} (hj:j<=distD n p down) (hk:k<=distD n p down):posD p down j=posD p down k↔j=k:=by
 cases down with
 | true=>simp only [posD,if_true];omega
 | false=>simp only [posD,distD,Bool.false_eq_true,if_false] at hj hk ⊢;omega
structure OneV where
 M:MV
 sw:Nat
def MV.oneD (M:MV) (p g:Nat):OneV :=
 let down:=decide (M.n-1-p<=p)
 let r1:=M.runD p down g (distD M.n p down) 0 M.live 0
 let r2:=M.runD p (!down) g (distD M.n p (!down)) 0 r1.2.1 0
 if r2.2.2≠0 then ⟨M.goS p (!down) r2.2.2,2*r1.1+(2*r2.1-r2.2.2)⟩ else ⟨M.goS p down r1.2.2,2*r1.1+2*r2.1+r1.2.2⟩
end Go.Proofs.YtpfafhmkbcahhaaGreat
namespace Go.Proofs.YtpfafhmkbcahhaaGreat
open Go.RowKit Go.Maps Go.ChangeMaps Go.WideShapes
theorem trail_at (b:Nat) (K:KV) (F:List Nat) (w:World) (h:KerAt w b K F) :
  Calls Tryz.prog 40 #[.pointer (some ⟨b,0,none⟩)] w fun e w'=>e=.returned (.int .i64 K.trail.length)/\w'=w:=by
 obtain ⟨T,q,hk,rfl⟩:=h;obtain ⟨ta,tc,htv,_⟩:=row_nil_len hk.mem.ts;have c7:w.cell? ⟨b,7,none⟩=some q.tv:=cell_at hk.mem.blk rfl;rw [htv] at c7;clear hk htv
 go_enter Tryz.func40,Tryz.ntmps40
 go_wp2_with fail;go_ret;exact ⟨rfl,rfl⟩
theorem order_at_spec (b:Nat) (K:KV) (F:List Nat) (w:World) (h:KerAt w b K F) :
  Calls Tryz.prog 38 #[.pointer (some ⟨b,0,none⟩)] w fun e w'=>∃ (g cap:Nat),e=.returned (.slice (some ⟨g,0,none⟩) K.order.length cap)/\w'.ownsRow w.heap.size 3 1 (.slice (some ⟨g,0,none⟩) K.order.length cap) K.order.length (flatN K.order)/\Upd [] w w':=by
 obtain ⟨T,q,hk,rfl⟩:=h;have h1:=hk.ok.wf.vs;have h2:=hk.ok.ord.pm.ol;exact order_spec b K T q w hk.mem (by omega) (by omega)
theorem live_at (b:Nat) (K:KV) (F:List Nat) (w:World) (h:KerAt w b K F) :
  Calls Tryz.prog 39 #[.pointer (some ⟨b,0,none⟩)] w fun e w'=>e=.returned (.int .i64 ((K.A.used:Int)-2))/\w'=w:=by
 obtain ⟨T,q,hk,rfl⟩:=h;exact live_count b K T q w hk.mem
theorem vars_at (b:Nat) (K:KV) (F:List Nat) (w:World) (h:KerAt w b K F) :
  Calls Tryz.prog 54 #[.pointer (some ⟨b,0,none⟩)] w fun e w'=>e=.returned (.int .i64 K.vars)/\w'=w:=by
 obtain ⟨T,q,hk,rfl⟩:=h;exact vars_spec b K T q w hk.mem
theorem roots_at (b:Nat) (K:KV) (F:List Nat) (w:World) (h:KerAt w b K F) :
  Calls Tryz.prog 51 #[.pointer (some ⟨b,0,none⟩)] w fun e w'=>∃ v:Value,e=.returned v/\w'.ownsRow w.heap.size 54 1 v K.roots.length (flatRefs K.roots)/\Upd [] w w':=by
 obtain ⟨T,q,hk,rfl⟩:=h;exact roots_spec b K T q w hk
theorem held_at (b r:Nat) (K:KV) (F:List Nat) (w:World) (h:KerAt w b K F) (hr:r<=4294967295) :
  Calls Tryz.prog 84 #[.pointer (some ⟨b,0,none⟩),.int .u32 r] w fun e w'=>e=.returned (.int .i64 (K.hold r))/\w'=w:=by
 obtain ⟨T,q,hk,rfl⟩:=h;have h1:=hk.ok.wf.len;have h2:=hk.ok.wf.ul;have h3:=hk.ok.wf.ok.lp;have h4:=hk.ok.wf.ok.pm;exact held_spec b r K T q w hk.mem (by omega) (hk.ok.wf.hm r) hr
theorem node_at_yes (b r:Nat) (K:KV) (F:List Nat) (p:PlaceV) (w:World) (h:KerAt w b K F) (hp:K.A.list[r]?=some p) (hpt:p.taken=true) :
  Calls Tryz.prog 61 #[.pointer (some ⟨b,0,none⟩),.int .u32 r] w fun e w'=>e=.returned (.tuple #[.agg #[.int .i64 p.var,.int .u32 p.lo,.int .u32 p.hi],.int .i64 0])/\Upd [] w w':=by
 obtain ⟨T,q,hk,rfl⟩:=h;have:=hk.ok.ref_lt (ArenaV.tk_iff.2 ⟨p,hp,hpt⟩);exact nodeof_yes b r K T q p w hk.mem (by omega) hp hpt
theorem orders_spec (b1 b2:Nat) (v1 v2:Value) (l:List Nat) (w:World) (h1:w.ownsRow b1 3 1 v1 l.length (flatN l)) (h2:w.ownsRow b2 3 1 v2 l.length (flatN l)) (hl:l.length<=1048576) :
  Calls Tryz.prog 81 #[v1,v2] w fun e w'=>e=.returned (.bool true)/\Upd [] w w':=by
 obtain ⟨a1,c1,rfl,hg1⟩:=row_nil_len h1;obtain ⟨a2,c2,rfl,hg2⟩:=row_nil_len h2;have H1:=Lib.hid h1;have H2:=Lib.hid h2;clear h1 h2
 go_enter Tryz.func81,Tryz.ntmps81
 go_wp2_with fail
 go_loopg [13] l.length (fun g s13 wr=>∃ i:Nat,l.length-i=g/\i<=l.length/\s13=.int .i64 i/\Upd [] w wr)
 case atStart=>exact ⟨0,by omega,by omega,rfl,Upd.refl _ _⟩
 case round =>
  obtain ⟨i,rfl,hi,rfl,hU⟩:=hrel
  by_cases hlt:i<l.length
  ·obtain ⟨g1,rfl⟩:=row_some H1.out (by omega)
   obtain ⟨g2,rfl⟩:=row_some H2.out (by omega)
   have hil:(i:Int)<(l.length:Int):=by omega
   have x1:=rowI_get (row_keep H1.out fun k hk=>hU.block k (H1.out.lt k hk).2 (by simp)) hlt;have x2:=rowI_get (row_keep H2.out fun k hk=>hU.block k (H2.out.lt k hk).2 (by simp)) hlt;generalize l.getD i 0=X at *;have HU:=Lib.hid hU;clear hU
   have hp0:(0:Int)<=(i:Int):=by omega
   go_wp2_with fail
   go_quiet (fail)
   go_wp2_with fail
   go_roundg (l.length-(i+1))
   case measure=>omega
   case rel=>exact ⟨i+1,rfl,by omega,by simp,HU.out.drewN _⟩
  ·obtain rfl:i=l.length:=by omega
   have hil:¬ ((l.length:Int)<(l.length:Int)):=by omega
   have HU:=Lib.hid hU;clear hU;go_wp2_with fail;go_ret;exact ⟨rfl,HU.out⟩
theorem KV.Ok.place {K:KV} (hk:K.Ok) {r:Nat} (h2:2<=r) (ht:K.A.tk r=true):∃ (p:PlaceV) (v:Nat),K.A.list[r]?=some p/\p.taken=true/\p.var=(v:Int)/\v<K.vars/\K.A.tk p.lo=true/\K.A.tk p.hi=true/\K.dep r<K.dep p.lo/\K.dep r<K.dep p.hi/\(∀ x,K.den r x=if x v then K.den p.hi x else K.den p.lo x):=by
 obtain ⟨p,v,hp,hpt,hv,hvl,h3,h4,hd⟩:=hk.wf.node_at h2 ht;have hb:=hk.ord.below hk.wf h2 hp hpt;refine ⟨p,v,hp,hpt,hv,hvl,h3,h4,hb.1,hb.2,fun x=>?_⟩;rw [KV.den_node hk.wf hk.ord h2 hp hpt,show p.var.toNat=v by omega]
theorem value_spec (b r:Nat) (x:Int) (K:KV) (F:List Nat) (w:World) (h:KerAt w b K F) (hr:K.A.tk r=true) (hx:U64 x) :
  Calls Tryz.prog 168 #[.pointer (some ⟨b,0,none⟩),.int .u32 r,.int .u64 x] w fun e w'=>e=.returned (.tuple #[.bool (K.den r fun v=>nb x v),.bool true])/\Upd [] w w':=by
 have HK:=Lib.hid h;have hvs:=h.ok.wf.vs;have HR:=Lib.hid hr;have HX:=Lib.hid hx;clear h hr;unfold U64 at hx
 go_enter Tryz.func168,Tryz.ntmps168
 go_wp2_with fail
 go_loopg [1,10] 65 (fun g s1 s10 wr=>∃ (i r':Nat),65-i=g/\i<=65/\s10=.int .i64 i/\s1=.int .u32 r'/\K.A.tk r'=true/\i<=K.dep r'/\(K.den r' (fun v=>nb x v)=K.den r (fun v=>nb x v))/\Upd [] w wr)
 case atStart=>exact ⟨0,r,by omega,by omega,rfl,rfl,HR.out,by omega,rfl,Upd.refl _ _⟩
 case round =>
  obtain ⟨i,r',rfl,hi,rfl,rfl,ht,hd,he,hU⟩:=hrel;have hdl:=HK.out.ok.wf.dep_le HK.out.ok.ord ht
  have hi64:i<=64:=by omega
  have hil:(i:Int)<65:=by omega
  by_cases h2:r'<=1
  ·have hr1:(r':Int)<=1:=by omega
   have HE:Hid (((r':Int) == 1)=K.den r fun v=>nb x v):=by
    show _=_
    rw [<- he,K.den_const (by omega),Bool.eq_iff_iff]
    simp only [beq_iff_eq];omega
   have HU:=Lib.hid hU;clear hU he hd ht hdl;go_wp2_with fail;go_ret2;exact ⟨by rw [<- HE.out];rfl,HU.out⟩
  ·obtain ⟨p,v,hp,hpt,hv,hvl,h3,h4,h5,h6,h7⟩:=HK.out.ok.place (r:=r') (by omega) ht
   have hr1:¬ ((r':Int)<=1):=by omega
   have HN:=Lib.hid (node_at_yes b r' K F p wr (HK.out.upd hU (by simp)) hp hpt);rw [hv] at HN
   have HE:Hid (K.den r (fun v=>nb x v)=if nb x v then K.den p.hi (fun v=>nb x v) else K.den p.lo (fun v=>nb x v)):=by
    show _=_
    rw [<- he,h7]
   have HP:=Lib.hid (And.intro h3 (And.intro h4 (And.intro (show i+1<=K.dep p.lo by omega) (show i+1<=K.dep p.hi by omega))));have HU:=Lib.hid hU
   have hv0:¬ ((v:Int)<0):=by omega
   have hv64:¬ ((64:Int)<=(v:Int)):=by omega
   have hv65:(v:Int)<64:=by omega
   have hdv0:decide ((v:Int)<0)=false:=by simp
   have hdv:decide ((64:Int)<=(v:Int))=false:=by simp;omega
   clear hU he hd ht hdl hp hpt hv h3 h4 h5 h6 h7;generalize p.lo=lo at *;generalize p.hi=hi at *;go_wp2_with fail;refine HN.out.mono ?_;rintro e w3 ⟨rfl,hu⟩;have HU3:=Lib.hid (HU.out.trans hu);clear hu HN;have HBT:=Lib.hid (bitT_nb HX.out v);unfold bitT at HBT
   cases hbt:(bits BinOp.and IntKind.u64 (x/2 ^ v) 1 == 1) with
   | true =>
    have HG:Hid (K.den hi (fun v=>nb x v)=K.den r (fun v=>nb x v)):=by
     show _=_
     rw [HE.out,<- HBT.out,hbt,if_pos rfl]
    go_wp2_with fail
    go_roundg (65-(i+1))
    case measure=>omega
    case rel=>exact ⟨i+1,hi,rfl,by omega,by simp,rfl,HP.out.2.1,HP.out.2.2.2,HG.out,HU3.out.alloc _⟩
   | false =>
    have HG:Hid (K.den lo (fun v=>nb x v)=K.den r (fun v=>nb x v)):=by
     show _=_
     rw [HE.out,<- HBT.out,hbt,if_neg (by simp)]
    go_wp2_with fail
    go_roundg (65-(i+1))
    case measure=>omega
    case rel=>exact ⟨i+1,lo,rfl,by omega,by simp,rfl,HP.out.1,HP.out.2.2.1,HG.out,HU3.out.alloc _⟩
theorem unlike_zero (b r:Nat) (Z:List Nat) (c:Value) (t:TV) (K:KV) (F:List Nat) (w:World) (h:KerAt w b K F) (hr:Names K r t) (ht:TIn w Z c t) (hn:t.n=K.vars) (h6:t.n<=6) :
  Calls Tryz.prog 86 #[.pointer (some ⟨b,0,none⟩),.int .u32 r,tabV t c] w fun e w'=>e=.returned (.int .i64 0)/\Upd [] w w':=by
 obtain ⟨ta,tc,rfl,_⟩:=row_nil_len ht.row;have HK:=Lib.hid h;have HT:=Lib.hid ht;have HR:=Lib.hid hr;have HN2:=Lib.hid hn;have HU0:=Lib.hid ((Upd.refl [] w).alloc (.cells #[.int .i64 t.n,.slice ta t.ws.length tc] 56 (0,0)));have hb:=boxT w (.int .i64 t.n) (.slice ta t.ws.length tc)
 have HBT:Hid (∀ (x:World) (i:Nat),Upd [] w x->i<2 ^ t.n->Calls Tryz.prog 169 #[tabV t (.slice ta t.ws.length tc),.int .i64 i] x fun e w'=>e=.returned (.bool (t.bit i))/\Upd [] x w'):=fun x i u hi=>tbit_spec Z _ t i x (ht.keep0 u) hi
 have HVAL:Hid (∀ (x:World) (i:Nat),Upd [] w x->i<2 ^ t.n->Calls Tryz.prog 168 #[.pointer (some ⟨b,0,none⟩),.int .u32 r,.int .u64 i] x fun e w'=>e=.returned (.tuple #[.bool (t.bit i),.bool true])/\Upd [] x w'):=fun x i u hi=>by
  have h64:(2:Nat) ^ t.n<=64:=by
   calc 2 ^ t.n<=2 ^ 6:=Nat.pow_le_pow_right (by omega) h6
    _=64:=rfl
  refine (value_spec b r i K F x (h.upd u (by simp)) hr.1 (by unfold U64;omega)).mono ?_;rintro e w' ⟨rfl,hu⟩;refine ⟨?_,hu⟩
  have e1:(fun v=>nb (i:Int) v)=fun v=>i.testBit v:=by funext v;exact nb_cast i v
  rw [e1,hr.2];unfold TV.fn;rw [idx_of hi]
 have hp:(1:Nat)<=2 ^ t.n/\2 ^ t.n<=64:=by
  refine ⟨Nat.two_pow_pos _,?_⟩
  calc 2 ^ t.n<=2 ^ 6:=Nat.pow_le_pow_right (by omega) h6
   _=64:=rfl
 have hsh:IntKind.i64.wrap (2 ^ t.n)=((2 ^ t.n:Nat):Int):=by
  have h2:((2:Int) ^ t.n)=((2 ^ t.n:Nat):Int):=by push_cast;rfl
  rw [h2];exact IntWalk.i64_in _ (by omega)
 have hn64:(t.n:Int)<64:=by omega
 unfold tabV at HBT ⊢;generalize t.ws.length=W at *;obtain ⟨N,hN⟩ : ∃ N,2 ^ t.n=N:=⟨_,rfl⟩;rw [hN] at hp hsh
 simp only [hN] at HBT HVAL
 generalize t.n=n at *;obtain ⟨b0,b1⟩:=hb
 have HB:Hid (∀ x:World,Upd [] (w.alloc (.cells #[.int .i64 n,.slice ta W tc] 56 (0,0))) x->x.cell? ⟨w.heap.size,0,none⟩=some (.int .i64 n)/\x.cell? ⟨w.heap.size,1,none⟩=some (.slice ta W tc)):=fun x u=>boxT_keep u ⟨b0,b1⟩
 clear h hr ht hn b0 b1 hN
 go_enter Tryz.func86,Tryz.ntmps86
 go_wp2_with fail
 go_loopg [7,8] N (fun g s7 s8 wr=>∃ i:Nat,N-i=g/\i<=N/\s8=.int .i64 i/\s7=.int .i64 0/\Upd [] (w.alloc (.cells #[.int .i64 n,.slice ta W tc] 56 (0,0))) wr)
 case atStart=>exact ⟨0,by omega,by omega,rfl,rfl,Upd.refl _ _⟩
 case round =>
  obtain ⟨i,rfl,hi,rfl,rfl,hU⟩:=hrel;obtain ⟨z0,z1⟩:=HB.out _ hU
  by_cases hlt:i<N
  ·have hil:(i:Int)<(N:Int):=by omega
   have HV:=Lib.hid (HVAL.out wr i (HU0.out.trans hU) hlt);have HU:=Lib.hid hU;clear hU;go_wp2_with fail;refine HV.out.mono ?_;rintro e w3 ⟨rfl,hu⟩;have HB2:=Lib.hid (HBT.out w3 i (HU0.out.trans (HU.out.trans hu)) hlt);obtain ⟨y0,y1⟩:=HB.out _ (HU.out.trans hu);have HU3:=Lib.hid (HU.out.trans hu);clear hu HV z0 z1;go_wp2_with fail;refine HB2.out.mono ?_;rintro e w4 ⟨rfl,hu⟩;have HU4:=Lib.hid (HU3.out.trans hu);clear hu HB2 y0 y1;generalize t.bit i=bt
   cases bt with
   | true =>
    go_wp2_with fail
    go_roundg (N-(i+1))
    case measure=>omega
    case rel=>exact ⟨i+1,rfl,by omega,by simp,rfl,HU4.out⟩
   | false =>
    go_wp2_with fail
    go_roundg (N-(i+1))
    case measure=>omega
    case rel=>exact ⟨i+1,rfl,by omega,by simp,rfl,HU4.out⟩
  ·obtain rfl:i=N:=by omega
   have hil:¬ ((i:Int)<(i:Int)):=by omega
   have HU:=Lib.hid hU;clear hU;go_wp2_with fail;go_ret;exact ⟨rfl,HU0.out.trans HU.out⟩
def worldV (b m:Nat) (rv tv:Value):Value:=.agg #[.pointer (some ⟨b,0,none⟩),.pointer (some ⟨m,0,none⟩),rv,tv]
theorem boxW (w:World) (x0 x1 x2 x3:Value):(w.alloc (.cells #[x0,x1,x2,x3] 31 (0,0))).cell? ⟨w.heap.size,0,none⟩=some x0/\(w.alloc (.cells #[x0,x1,x2,x3] 31 (0,0))).cell? ⟨w.heap.size,1,none⟩=some x1/\(w.alloc (.cells #[x0,x1,x2,x3] 31 (0,0))).cell? ⟨w.heap.size,2,none⟩=some x2/\(w.alloc (.cells #[x0,x1,x2,x3] 31 (0,0))).cell? ⟨w.heap.size,3,none⟩=some x3:=by
 have h:=heap_alloc_new w (.cells #[x0,x1,x2,x3] 31 (0,0));exact ⟨cell_at h rfl,cell_at h rfl,cell_at h rfl,cell_at h rfl⟩
theorem TLs.two {W:World} {n0 g:Nat} {Z:List Nat} {d0 d1:Value} {t0 t1:TV} (h:W.heap[g]?=some (.cells #[.int .i64 t0.n,d0,.int .i64 t1.n,d1] 56 (0,0))) (h0:TIn W Z d0 t0) (h1:TIn W Z d1 t1) (hg:n0<=g) (hZ:g∉Z) :
  TLs W n0 Z (.slice (some ⟨g,0,none⟩) 2 2) [t0,t1]:=by
 refine ⟨⟨[d0,d1],rfl,⟨rfl,.inr ⟨g,2,_,rfl,hg,h,Nat.le_refl _,by unfold maxLen;omega,rfl,rfl⟩⟩,fun i t c ht hc=>?_⟩,fun k hk=>?_⟩
 ·match i,ht,hc with
  | 0,ht,hc=>simp at ht hc;subst ht hc;exact h0
  | 1,ht,hc=>simp at ht hc;subst ht hc;exact h1
  | i+2,ht,_=>simp at ht
 ·simp [Value.ownBlock] at hk;subst hk;exact hZ
theorem lawnodes_spec (b m n0:Nat) (rv tv:Value) (M:MV) (p:MPtr) (Z:List Nat) (t0 t1:TV) (rest:List TV) (w:World) (h:ModIn w m M p Z) (hZ:∀ k,k∈Z->k<w.heap.size) (hf:M.Fit) (ht:TLs w n0 Z tv (t0::t1::rest)) (hrv:∃ a n c,rv=.slice a n c) :
  Calls Tryz.prog 82 #[worldV b m rv tv] w fun e w'=>TLQ Z (t0::t1::M.lev.flatten) w e w':=by
 obtain ⟨ti,hi2,hz2,hs2,hb2⟩:=info_parts Tryz.infoTable;have HI:=Lib.hid (And.intro hi2 (And.intro hz2 (And.intro hs2 hb2)));obtain ⟨ra,rn,rc,rfl⟩:=hrv;obtain ⟨va,vc,rfl,hva⟩:=ht.form;obtain ⟨g,rfl⟩:=hva (by simp);obtain ⟨d0,x0,x1,hd0⟩:=ht.at_ (i:=0) (t:=t0) rfl;obtain ⟨d1,x2,x3,hd1⟩:=ht.at_ (i:=1) (t:=t1) rfl;obtain ⟨a0,e0,hc0,_⟩:=row_nil_len hd0.row;obtain ⟨a1,e1,hc1,_⟩:=row_nil_len hd1.row;subst hc0 hc1;have HD:=Lib.hid (And.intro hd0 hd1);have HM:=Lib.hid h;have HF:=Lib.hid hf
 have HZ:Hid (∀ x:World,Upd [] w x->∀ k,k∈Z->k<x.heap.size):=fun x u k hk=>Nat.lt_of_lt_of_le (hZ k hk) u.size
 obtain ⟨TL,hTL⟩ : ∃ TL,(t0::t1::rest).length=TL:=⟨_,rfl⟩
 have hTL2:2<=TL:=by rw [<- hTL];simp
 have HBX:=Lib.hid (boxW w (.pointer (some ⟨b,0,none⟩)) (.pointer (some ⟨m,0,none⟩)) (.slice ra rn rc) (.slice (some ⟨g,0,none⟩) TL vc));have HU0:=Lib.hid ((Upd.refl [] w).alloc (.cells #[.pointer (some ⟨b,0,none⟩),.pointer (some ⟨m,0,none⟩),.slice ra rn rc,.slice (some ⟨g,0,none⟩) TL vc] 31 (0,0)));have hc1b:=hf.lev_leS;have hk1:=hf.lev_len;rw [show 0*2=0 from rfl] at x0;rw [show 0*2+1=1 from rfl] at x1;rw [show 1*2=2 from rfl] at x2;rw [show 1*2+1=3 from rfl] at x3;rw [hTL];generalize t0.ws.length=W0 at *;generalize t1.ws.length=W1 at *;generalize hn0:t0.n=n0' at *;generalize hn1:t1.n=n1' at *;have HNN:=Lib.hid (And.intro hn0 hn1);obtain ⟨b0,b1,b2,b3⟩:=HBX.out;have y0:=HU0.out.cell0 x0;have y1:=HU0.out.cell0 x1;have y2:=HU0.out.cell0 x2;have y3:=HU0.out.cell0 x3
 have hlt0:(0:Int)<(TL:Int):=by omega
 have hlt1:(1:Int)<(TL:Int):=by omega
 have hln:0<TL:=by omega
 have hln1:1<TL:=by omega
 unfold worldV;clear h hZ hf ht hd0 hd1 hn0 hn1 x0 x1 x2 x3 hTL hi2 hz2 hs2 hb2
 go_enter Tryz.func82,Tryz.ntmps82
 go_wp2_with fail
 go_region
 have HU1:Hid (Upd [] w ((w.alloc (.cells #[.pointer (some ⟨b,0,none⟩),.pointer (some ⟨m,0,none⟩),.slice ra rn rc,.slice (some ⟨g,0,none⟩) TL vc] 31 (0,0))).alloc (.cells #[.int .i64 n0',.slice a0 W0 e0,.int .i64 n1',.slice a1 W1 e1] 56 (0,0))).drew):=(HU0.out.alloc _).drew;have z1:=(((Upd.refl [] _).alloc (.cells #[.int .i64 n0',.slice a0 W0 e0,.int .i64 n1',.slice a1 W1 e1] 56 (0,0))).drew).cell0 b1
 have HT2:Hid (TLs ((w.alloc (.cells #[.pointer (some ⟨b,0,none⟩),.pointer (some ⟨m,0,none⟩),.slice ra rn rc,.slice (some ⟨g,0,none⟩) TL vc] 31 (0,0))).alloc (.cells #[.int .i64 n0',.slice a0 W0 e0,.int .i64 n1',.slice a1 W1 e1] 56 (0,0))).drew w.heap.size Z (.slice (some ⟨w.heap.size+1,0,none⟩) 2 2) [t0,t1]):=by
  have hn:=heap_alloc_new (w.alloc (.cells #[.pointer (some ⟨b,0,none⟩),.pointer (some ⟨m,0,none⟩),.slice ra rn rc,.slice (some ⟨g,0,none⟩) TL vc] 31 (0,0))) (.cells #[.int .i64 n0',.slice a0 W0 e0,.int .i64 n1',.slice a1 W1 e1] 56 (0,0));rw [World.size_alloc] at hn
  refine TLs.two (by rw [HNN.out.1,HNN.out.2];exact hn) (HD.out.1.keep0 HU1.out) (HD.out.2.keep0 HU1.out) (by omega) fun hm=>?_
  have:=HZ.out w (Upd.refl _ _) _ hm;omega
 clear y0 y1 y2 y3 b0 b1 b2 b3;have HLV:=Lib.hid (mlevels_spec m M p Z _ (HM.out.keep0 HU1.out) (HZ.out _ HU1.out) HF.out);generalize ((w.alloc (.cells #[.pointer (some ⟨b,0,none⟩),.pointer (some ⟨m,0,none⟩),.slice ra rn rc,.slice (some ⟨g,0,none⟩) TL vc] 31 (0,0))).alloc (.cells #[.int .i64 n0',.slice a0 W0 e0,.int .i64 n1',.slice a1 W1 e1] 56 (0,0))).drew=w1 at *;go_wp2_with fail;refine HLV.out.mono ?_;rintro e w2 hE;obtain ⟨lv,rfl,hL,hu2⟩:=hE.ex;obtain ⟨aa,ac,hav,hag⟩:=hL.form;subst hav;have HL:=Lib.hid (And.intro hL (HU1.out.trans hu2));have HT3:=Lib.hid (HT2.out.keep0 hu2);have hsb:=(HU1.out.trans hu2).size;have hs1:=HU1.out.size
 have HK0:Hid (w.heap.size+1<w1.heap.size/\∃ cs fr,w2.heap[w.heap.size+1]?=some (.cells cs 56 fr)):=by
  obtain ⟨xs0,hr0⟩:=HT2.out.row;obtain ⟨xs1,hr1⟩:=HT3.out.row;exact ⟨(hr0.lt _ rfl).2,row_type hr1 rfl⟩
 clear hL hu2 hE HLV HT2 z1;obtain ⟨fl,hfl⟩ : ∃ fl,M.lev.flatten=fl:=⟨_,rfl⟩;have HFL:=Lib.hid hfl;rw [hfl] at hc1b;clear hfl;generalize hLVe:M.lev=LV at HL hag hk1 HFL ⊢;have HLVE:=Lib.hid hLVe;clear hLVe;go_wp2_with fail
 go_loopg [3,19] LV.length (fun g s3 s19 wr=>∃ i:Nat,LV.length-i=g/\i<=LV.length/\s19=.int .i64 i/\TLs wr w.heap.size Z s3 (t0::t1::(LV.take i).flatten)/\Upd [w.heap.size+1] w2 wr/\(∀ k,s3.ownBlock=some k->k=w.heap.size+1\/w2.heap.size<=k))
 case atStart=>exact ⟨0,by omega,by omega,rfl,by simpa using HT3.out,Upd.refl _ _,fun k hk=>.inl (by simpa [Value.ownBlock] using hk.symm)⟩
 case round =>
  obtain ⟨i,rfl,hi,rfl,hT,hU,hB⟩:=hrel
  by_cases hlt:i<LV.length
  ·obtain ⟨c,hc⟩ : ∃ c,LV[i]?=some c:=⟨_,List.getElem?_eq_getElem hlt⟩
   obtain ⟨ga,rfl⟩:=hag (by omega);obtain ⟨cl,x0,htl⟩:=(HL.out.1.far (k0:=some (w.heap.size+1)) hU (fun k hk=>by cases hk;exact HK0.out.1) (fun k hk=>by cases hk;exact HK0.out.2)).at_ hc;obtain ⟨A,cc,ys,hcf,hA,hrow,hyl,hyc,hy1⟩:=htl.src;subst hcf;obtain ⟨xs,hrx⟩:=hT.row;have hb3:=flat_take_le LV (i+1);have HS:=Lib.hid (flat_take_snoc hc);rw [HS.out,List.length_append,HFL.out] at hb3;have HP:=Lib.hid (And.intro hT (And.intro htl (And.intro hU (And.intro hrx hB))));have HY:=Lib.hid (And.intro hA (And.intro hrow (And.intro hyl (And.intro hyc hy1))));have hsz:=hU.size
   have hil:(i:Int)<(LV.length:Int):=by omega
   have hb4:(t0::t1::(LV.take i).flatten).length+c.length<=25344010:=by simp only [List.length_cons];omega
   have HAS:Hid (t0::t1::(LV.take (i+1)).flatten=(t0::t1::(LV.take i).flatten)++c):=by
    show _=_
    rw [HS.out];rfl
   generalize t0::t1::(LV.take i).flatten=CU at *;generalize hcn:c.length=cn at *;have HCN:=Lib.hid hcn;clear hT hU hc htl hrx hA hrow hyl hyc hy1 hcn hB hb3
   go_wp2_with (at_builtin;go_must (refine wpList_append_src rfl (.tmp 23) (.tmp 24) 29 rfl w.heap.size 56 ti _ 2 32 Tryz.underlying29 HI.out.1 HI.out.2.1 HI.out.2.2.1 HI.out.2.2.2 (by rfl) (by decide) _ CU.length xs rfl HP.out.2.2.2.1 A cn cc ys rfl HY.out.1 HY.out.2.2.1 HY.out.2.2.2.1 HY.out.2.2.2.2 (by unfold maxLen;omega) (by omega) (by omega) ?_))
   intro v6 w6 hown hgr hat
   have HE:Hid (TLs w6 w.heap.size Z v6 (CU++c)/\Upd [w.heap.size+1] w2 w6/\(∀ k,v6.ownBlock=some k->k=w.heap.size+1\/w2.heap.size<=k)):=by
    have hp:=HP.out.1.cat HP.out.2.1 (HZ.out w (Upd.refl _ _)) hgr HP.out.2.2.2.1 (by rw [HCN.out];exact HY.out.2.1) (by rw [HCN.out];exact hown);refine ⟨hp.1,HP.out.2.2.1.then hp.2 fun k hk=>?_,fun k hk=>?_⟩
    ·rcases HP.out.2.2.2.2 k (Option.mem_toList.1 hk) with h | h
     ·exact .inl (by simp [h])
     ·exact .inr h
    ·rcases hat with e | e
     ·exact HP.out.2.2.2.2 k (by rw [<- e];exact hk)
     ·rw [hk] at e
      injection e with e
      right;omega
   clear hown hgr hat;go_wp2_with fail
   go_roundg (LV.length-(i+1))
   case measure=>omega
   case rel=>exact ⟨i+1,rfl,by omega,by simp,by rw [HAS.out];exact HE.out.1,HE.out.2⟩
  ·obtain rfl:i=LV.length:=by omega
   have hil:¬ ((LV.length:Int)<(LV.length:Int)):=by omega
   rw [List.take_length,HFL.out] at hT;have HT1:=Lib.hid (And.intro hT (HL.out.2.then hU fun k hk=>.inr (by simp at hk;omega)));clear hT hU hB;go_wp2_with fail;go_ret;exact ⟨_,rfl,by rw [HLVE.out,HFL.out];exact HT1.out.1,HT1.out.2⟩
end Go.Proofs.YtpfafhmkbcahhaaGreat
