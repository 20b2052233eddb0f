import Derived.Test.YtdackeldhdchaaaGreatPQ211
set_option maxRecDepth 100000
set_option maxHeartbeats 1600000
namespace Go.Proofs.YtdackeldhdchaaaGreat
def mixO (o:List Nat) (a y:Nat->Bool):Nat->Bool:=fun v=>if v∈o then a v else y v
theorem aDc (a y:Nat->Bool):mixO [] a y=y:=by funext v;simp [mixO]
theorem aHb (v:Nat) (o:List Nat) (a y:Nat->Bool):mixO (v::o) a y=upd (mixO o a y) v (a v):=by
 funext u
 simp only [mixO,upd,List.mem_cons]
 by_cases e:u=v
 ·subst e;simp
 ·simp [e]
theorem aJe (v:Nat) (o:List Nat) (a y:Nat->Bool) (b:Bool):upd (mixO o a y) v b=mixO (v::o) (upd a v b) y:=by
 funext u
 simp only [mixO,upd,List.mem_cons]
 by_cases e:u=v
 ·subst e;simp
 ·simp [e]
theorem anY {n:Nat}:∀ (o:List Nat) (c:List TV),(∀ t,t∈c->t.Ok/\t.n=n)->(∀ v,v∈o->v<n)->∀ {u:TV},u∈ams c o↔(u.Ok/\u.n=n/\∃ t,t∈c/\∃ a,∀ y,u.fn y=t.fn (mixO o a y))
 | [],c,hc,_,u=>by
  constructor
  ·intro h
   exact ⟨(hc u h).1,(hc u h).2,u,h,fun _=>false,fun y=>by rw [aDc]⟩
  ·rintro ⟨h1,h2,t,ht,a,he⟩
   have:u=t:=TV.fn_ext h1 (hc t ht).1 (h2.trans (hc t ht).2.symm) fun y=>by rw [he,aDc]
   subst this;exact ht
 | v::o,c,hc,ho,u=>by
  have hvn:=ho v (by simp)
  have hg:∀ t,t∈adG c v->t.Ok/\t.n=n:=fun t ht=>by
   obtain ⟨s,hs,b,rfl⟩:=aj7.1 ht;exact ⟨aoW (hc s hs).1 v b,(hc s hs).2⟩
  have ih:=anY o (adG c v) hg (fun x hx=>ho x (by simp [hx])) (u:=u)
  show u∈ams (adG c v) o↔_
  rw [ih];constructor
  ·rintro ⟨h1,h2,t,ht,a,he⟩
   obtain ⟨s,hs,b,rfl⟩:=aj7.1 ht;refine ⟨h1,h2,s,hs,upd a v b,fun y=>?_⟩;rw [he,ahb (by rw [(hc s hs).2];exact hvn),aJe]
  ·rintro ⟨h1,h2,s,hs,a,he⟩
   refine ⟨h1,h2,aee s v (a v),aj7.2 ⟨s,hs,a v,rfl⟩,a,fun y=>?_⟩;rw [he,ahb (by rw [(hc s hs).2];exact hvn),aHb]
theorem aoZ {L:List TV} {v:Nat} {u:TV}:u∈ae8 L v↔u∈L/\anJ u v=true:=by simp [ae8]
def ag9 (L:List TV) (o:List Nat):List TV:=(ag5 (acw L) o).flatten
theorem at6 {u:TV}:∀ (o:List Nat) (c:List TV),u∈(ag5 c o).flatten↔∃ i v,o[i]?=some v/\u∈ams c (o.take i)/\anJ u v=true
 | [],c=>by simp [ag5]
 | x::o,c=>by
  have ih:=at6 (u:=u) o (adG c x)
  show u∈(ae8 c x::ag5 (adG c x) o).flatten↔_
  rw [List.flatten_cons,List.mem_append,aoZ,ih];constructor
  ·rintro (⟨h1,h2⟩ | ⟨i,v,h1,h2,h3⟩)
   ·exact ⟨0,x,rfl,h1,h2⟩
   ·exact ⟨i+1,v,h1,h2,h3⟩
  ·rintro ⟨i,v,h1,h2,h3⟩
   cases i with
   | zero=>simp at h1;subst h1;exact .inl ⟨h2,h3⟩
   | succ i=>exact .inr ⟨i,v,h1,h2,h3⟩
theorem atC {l:List TV} (h:l.Nodup) (t:TV):(addT l t).Nodup:=by
 unfold addT;split
 ·exact h
 ·rename_i hn
  rw [List.nodup_append];exact ⟨h,by simp,fun a ha b hb e=>by simp at hb;subst hb;subst e;exact hn ha⟩
theorem aB8 (L:List TV) (v:Nat):(adG L v).Nodup:=by
 have key:∀ (L l:List TV),l.Nodup->(L.foldl (fun l t=>addT (addT l (aee t v false)) (aee t v true)) l).Nodup:=by
  intro L
  induction L with
  | nil=>intro l h;exact h
  | cons a L ih=>intro l h;exact ih _ (atC (atC h _) _)
 exact key L [] (by simp)
theorem aiI (L:List TV):(acw L).Nodup:=by
 have key:∀ (L l:List TV),l.Nodup->(L.foldl addT l).Nodup:=by
  intro L
  induction L with
  | nil=>intro l h;exact h
  | cons a L ih=>intro l h;exact ih _ (atC h _)
 exact key L [] (by simp)
theorem atD {n:Nat}:∀ (o:List Nat) (c:List TV),c.Nodup->(∀ t,t∈c->t.Ok/\t.n=n)->(∀ v,v∈o->v<n)->(ag5 c o).flatten.Nodup
 | [],c,_,_,_=>by simp [ag5]
 | x::o,c,hd,hc,ho=>by
  have hg:∀ t,t∈adG c x->t.Ok/\t.n=n:=fun t ht=>by
   obtain ⟨s,hs,b,rfl⟩:=aj7.1 ht;exact ⟨aoW (hc s hs).1 x b,(hc s hs).2⟩
  show (ae8 c x::ag5 (adG c x) o).flatten.Nodup
  rw [List.flatten_cons,List.nodup_append];refine ⟨List.Pairwise.filter _ hd,atD o _ (aB8 c x) hg (fun v hv=>ho v (by simp [hv])),fun a ha b hb e=>?_⟩;subst e;obtain ⟨h1,h2⟩:=aoZ.1 ha;obtain ⟨i,v,_,h4,_⟩:=(at6 o (adG c x)).1 hb;have hxn:=ho x (by simp);obtain ⟨_,_,t,ht,av,he⟩:=(anY (n:=n) (o.take i) (adG c x) hg (fun v hv=>ho v (by simp [List.mem_of_mem_take hv]))).1 h4;obtain ⟨s,hs,b,rfl⟩:=aj7.1 ht;obtain ⟨y,hy⟩:=(ajo (hc a h1).1 (by rw [(hc a h1).2];exact hxn)).1 h2;refine hy ?_;rw [he,he,ahb (by rw [(hc s hs).2];exact hxn),ahb (by rw [(hc s hs).2];exact hxn)]
  congr 1
  funext u
  simp only [upd,mixO]
  by_cases e:u=x
  ·simp [e]
  ·simp [e]
theorem aDd {n:Nat} {L:List TV} {o:List Nat} (hc:∀ t,t∈L->t.Ok/\t.n=n) (ho:∀ v,v∈o->v<n):(ag9 L o).Nodup :=
 atD o _ (aiI L) (fun t ht=>hc t (afO.1 ht)) ho
theorem aim {n:Nat} {L:List TV} {o:List Nat} (hc:∀ t,t∈L->t.Ok/\t.n=n) (ho:∀ v,v∈o->v<n) {u:TV} :
  u∈ag9 L o↔∃ i v,o[i]?=some v/\u.Ok/\u.n=n/\(∃ t,t∈L/\∃ a,∀ y,u.fn y=t.fn (mixO (o.take i) a y))/\ahP u.fn v:=by
 unfold ag9;rw [at6];constructor
 ·rintro ⟨i,v,h1,h2,h3⟩
  obtain ⟨a1,a2,t,ht,a3⟩:=(anY (n:=n) _ _ (fun t ht=>hc t (afO.1 ht)) (fun v hv=>ho v (List.mem_of_mem_take hv))).1 h2;exact ⟨i,v,h1,a1,a2,⟨t,afO.1 ht,a3⟩,(ajo a1 (by rw [a2];exact ho v (List.mem_of_getElem? h1))).1 h3⟩
 ·rintro ⟨i,v,h1,a1,a2,⟨t,ht,a3⟩,h3⟩
  exact ⟨i,v,h1,(anY (n:=n) _ _ (fun t ht=>hc t (afO.1 ht)) (fun v hv=>ho v (List.mem_of_mem_take hv))).2 ⟨a1,a2,t,afO.2 ht,a3⟩,(ajo a1 (by rw [a2];exact ho v (List.mem_of_getElem? h1))).2 h3⟩
theorem KV.Perm.mem_take {K:KV} (h:K.Perm) {l v:Nat}:v∈K.order.take l↔v<K.vars/\K.lev v<l:=by
 constructor
 ·intro hv
  obtain ⟨i,hi⟩:=List.getElem?_of_mem hv;rw [List.getElem?_take] at hi
  split at hi
  ·rename_i hil
   have hlt:i<K.order.length:=by
    by_cases e:i<K.order.length
    ·exact e
    ·rw [List.getElem?_eq_none (by omega)] at hi;cases hi
   have e:K.order.getD i 0=v:=by rw [List.getD_eq_getElem?_getD,hi];rfl
   have:=h.oo i (by rw [<- h.ol];exact hlt);rw [e] at this;exact ⟨this.1,by omega⟩
  ·cases hi
 ·rintro ⟨hv,hl⟩
  have:=h.lo v hv
  have hi:K.order[K.lev v]?=some v:=by
   rw [List.getElem?_eq_getElem (by rw [h.ol];exact this.1)];have e:=this.2;rw [List.getD_eq_getElem?_getD,List.getElem?_eq_getElem (by rw [h.ol];exact this.1)] at e
   simpa using e
  exact List.mem_of_getElem? (i:=K.lev v) (by rw [List.getElem?_take,if_pos hl];exact hi)
theorem KV.Perm.mem_order {K:KV} (h:K.Perm) {v:Nat} (hv:v∈K.order):v<K.vars:=by
 have:=h.mem_take (l:=K.order.length) (v:=v);rw [List.take_length] at this;exact (this.1 hv).1
theorem KV.Perm.order_at {K:KV} (h:K.Perm) {v:Nat} (hv:v<K.vars):K.order[K.lev v]?=some v:=by
 have:=h.lo v hv;rw [List.getElem?_eq_getElem (by rw [h.ol];exact this.1)];have e:=this.2;rw [List.getD_eq_getElem?_getD,List.getElem?_eq_getElem (by rw [h.ol];exact this.1)] at e
 simpa using e
theorem KV.Perm.at_order {K:KV} (h:K.Perm) {i v:Nat} (hi:K.order[i]?=some v):v<K.vars/\K.lev v=i:=by
 have hlt:i<K.order.length:=by
  by_cases e:i<K.order.length
  ·exact e
  ·rw [List.getElem?_eq_none (by omega)] at hi;cases hi
 have e:K.order.getD i 0=v:=by rw [List.getD_eq_getElem?_getD,hi];rfl
 have:=h.oo i (by rw [<- h.ol];exact hlt)
 rw [e] at this;exact this
theorem KV.Perm.mixO {K:KV} (h:K.Perm) (l:Nat) (a y:Nat->Bool):mixO (K.order.take l) a y=K.mix l a y:=by
 funext v
 simp only [Go.Proofs.YtdackeldhdchaaaGreat.mixO,KV.mix]
 by_cases e:v∈K.order.take l
 ·rw [if_pos e,if_pos (h.mem_take.1 e)]
 ·rw [if_neg e,if_neg fun k=>e (h.mem_take.2 k)]
def KV.tab (K:KV) (r:Nat):TV:=mkT K.vars fun x=>K.den r fun v=>x.testBit v
theorem KV.Ok.den_low {K:KV} (hk:K.Ok) {r:Nat} (ht:K.A.tk r=true) {x y:Nat->Bool} (h:∀ v,v<K.vars->x v=y v):K.den r x=K.den r y :=
 KV.den_same hk.wf hk.ord _ r x y ht (Nat.le_refl _) fun v hv _=>h v hv
theorem KV.Ok.tab_fn {K:KV} (hk:K.Ok) {r:Nat} (ht:K.A.tk r=true) (y:Nat->Bool):(K.tab r).fn y=K.den r y:=by
 unfold KV.tab;rw [avr]
 exact hk.den_low ht fun v hv=>by rw [aiq];simp [hv]
theorem KV.tab_ok {K:KV} (h:K.vars<=16) (r:Nat):(K.tab r).Ok/\(K.tab r).n=K.vars:=⟨amv _ h,rfl⟩
theorem KV.Ok.tab_eq {K:KV} (hk:K.Ok) (hn:K.vars<=16) {r:Nat} (ht:K.A.tk r=true) {t:TV} (h1:t.Ok) (h2:t.n=K.vars) (h:∀ y,K.den r y=t.fn y):K.tab r=t :=
 TV.fn_ext (KV.tab_ok hn r).1 h1 h2.symm fun y=>by rw [hk.tab_fn ht,h]
theorem KV.Ok.tab_inj {K:KV} (hk:K.Ok) (hu:K.Uni) {r s:Nat} (hr:K.A.tk r=true) (hs:K.A.tk s=true) (e:K.tab r=K.tab s):r=s :=
 KV.canon hk.wf hk.ord hu _ _ _ hr hs (Nat.le_refl _) fun y=>by rw [<- hk.tab_fn hr,<- hk.tab_fn hs,e]
def KV.nodes (K:KV):List Nat:=K.lives.filter fun r=>decide (2<=r)
theorem KV.mem_nodes {K:KV} {r:Nat}:r∈K.nodes↔2<=r/\K.A.tk r=true:=by
 simp only [KV.nodes,List.mem_filter,KV.mem_lives,decide_eq_true_eq];exact And.comm
theorem KV.nodes_nodup (K:KV):K.nodes.Nodup:=List.Pairwise.filter _ K.lives_nodup
theorem KV.Ok.nodes_len {K:KV} (hk:K.Ok):K.nodes.length+2=K.A.used:=by
 rw [<- K.lives_len hk.wf];have h01:=hk.wf.ok.tk01;refine Nat.le_antisymm ?_ ?_
 ·have:(0::1::K.nodes).length<=K.lives.length:=List.Nodup.length_le_of_subset (by
   rw [List.nodup_cons,List.nodup_cons]
   exact ⟨by simp [KV.mem_nodes],by simp [KV.mem_nodes],K.nodes_nodup⟩) (by
   intro x hx
   rcases List.mem_cons.1 hx with rfl | hx
   ·exact KV.mem_lives.2 h01.1
   ·rcases List.mem_cons.1 hx with rfl | hx
    ·exact KV.mem_lives.2 h01.2
    ·exact KV.mem_lives.2 (KV.mem_nodes.1 hx).2)
  simpa using this
 ·have:K.lives.length<=(0::1::K.nodes).length:=List.Nodup.length_le_of_subset K.lives_nodup (by
   intro x hx
   have ht:=KV.mem_lives.1 hx
   by_cases h0:x=0
   ·simp [h0]
   ·by_cases h1:x=1
    ·simp [h1]
    ·exact List.mem_cons_of_mem _ (List.mem_cons_of_mem _ (KV.mem_nodes.2 ⟨by omega,ht⟩)))
  simpa using this
structure anK (K:KV) (L:List TV):Prop where
 rt:∀ r,0<K.hold r->∃ t,t∈L/\∀ y,K.den r y=t.fn y
 lr:∀ t,t∈L->∃ r,K.A.tk r=true/\∀ y,K.den r y=t.fn y
 ok:∀ t,t∈L->t.Ok/\t.n=K.vars
def aMo (K:KV) (L:List TV) (g:(Nat->Bool)->Bool):Prop:=∃ t,t∈L/\K.SubN t.fn g
theorem aB9 (K:KV) {l i:Nat} (h:l<=i) (a c y:Nat->Bool):K.mix l a (K.mix i c y)=K.mix i (K.mix l a c) y:=by
 funext v
 simp only [KV.mix]
 by_cases h1:v<K.vars/\K.lev v<l
 ·rw [if_pos h1,if_pos ⟨h1.1,by omega⟩,if_pos h1]
 ·rw [if_neg h1]
  by_cases h2:v<K.vars/\K.lev v<i
  ·rw [if_pos h2,if_pos h2,if_neg h1]
  ·rw [if_neg h2,if_neg h2]
theorem amw {K:KV} (hp:K.Perm) {g:(Nat->Bool)->Bool}:∀ (i:Nat),i<=K.vars->(∀ v,v<K.vars->K.lev v<i->¬ ahP g v)->∀ (c y:Nat->Bool),g (K.mix i c y)=g y
 | 0,_,_,c,y=>by congr 1;funext v;simp [KV.mix]
 | i+1,hi,h,c,y=>by
  have ih:=amw hp i (by omega) (fun v h1 h2=>h v h1 (by omega)) c y;have hv:=hp.oo i (by omega);obtain ⟨v,hve⟩ : ∃ v,K.order.getD i 0=v:=⟨_,rfl⟩;rw [hve] at hv
  have e:K.mix (i+1) c y=upd (K.mix i c y) v (c v):=by
   funext u
   simp only [KV.mix,upd]
   by_cases hu:u=v
   ·subst hu;rw [if_pos rfl,if_pos ⟨hv.1,by omega⟩]
   ·rw [if_neg hu]
    by_cases h1:u<K.vars/\K.lev u<i
    ·rw [if_pos h1,if_pos ⟨h1.1,by omega⟩]
    ·rw [if_neg h1,if_neg]
     rintro ⟨h2,h3⟩;refine hu (hp.inj h2 hv.1 ?_);omega
  have hn:=h v hv.1 (by omega)
  have same:∀ (z:Nat->Bool) (b:Bool),g (upd z v b)=g z:=fun z b=>by
   have e1:g (upd z v true)=g (upd z v false):=by
    by_cases e1:g (upd z v true)=g (upd z v false)
    ·exact e1
    ·exact absurd ⟨z,e1⟩ hn
   have e2:g z=g (upd z v (z v)):=by rw [aCa]
   rw [e2]
   cases b <;> cases z v <;> simp_all
  rw [e,same,ih]
theorem ays {K:KV} (g:(Nat->Bool)->Bool):∀ (k:Nat),(∀ v,v<K.vars->K.lev v<k->¬ ahP g v)\/∃ v,v<K.vars/\ahP g v/\∀ u,u<K.vars->K.lev u<K.lev v->¬ ahP g u
 | 0=>.inl fun v _ h=>by omega
 | k+1=>by
  rcases ays g k with h | h
  ·by_cases hh:∃ v,v<K.vars/\K.lev v=k/\ahP g v
   ·obtain ⟨v,h1,h2,h3⟩:=hh
    exact .inr ⟨v,h1,h3,fun u hu hl=>h u hu (by omega)⟩
   ·refine .inl fun v hv hl hg=>?_
    by_cases e:K.lev v=k
    ·exact hh ⟨v,hv,e,hg⟩
    ·exact h v hv (by omega) hg
  ·exact .inr h
theorem aGq {K:KV} (hp:K.Perm) {L:List TV} (hL:∀ t,t∈L->t.Ok/\t.n=K.vars) {u:TV} (h1:u.Ok) (h2:u.n=K.vars) (hs:aMo K L u.fn) {v:Nat} (hv:v<K.vars) (hh:ahP u.fn v) (hno:∀ x,x<K.vars->K.lev x<K.lev v->¬ ahP u.fn x) :
  u∈ag9 L K.order:=by
 obtain ⟨t,ht,l,a,he⟩:=hs;refine (aim hL fun x hx=>hp.mem_order hx).2 ⟨K.lev v,v,hp.order_at hv,h1,h2,⟨t,ht,K.mix l a (fun _=>false),fun y=>?_⟩,hh⟩
 have hl:l<=K.lev v:=by
  by_cases hl:l<=K.lev v
  ·exact hl
  ·exfalso
   obtain ⟨y,hy⟩:=hh;refine hy ?_;rw [he,he]
   congr 1
   funext x
   simp only [KV.mix,upd]
   by_cases e:x=v
   ·subst e;rw [if_pos ⟨hv,by omega⟩,if_pos ⟨hv,by omega⟩]
   ·simp [e]
 have hlv:=(hp.lo v hv).1;rw [hp.mixO,<- aB9 K hl,<- he,amw hp _ (by omega) hno]
theorem KV.Ok.node_hangs {K:KV} (hk:K.Ok) (hu:K.Uni) {r:Nat} (h2:2<=r) (ht:K.A.tk r=true):∃ v,v<K.vars/\K.dep r=K.lev v/\ahP (K.den r) v/\∀ x,x<K.vars->K.lev x<K.lev v->¬ ahP (K.den r) x:=by
 obtain ⟨p,v,hp,hpt,hv,hvl,h3,h4,hd⟩:=hk.wf.node_at h2 ht;refine ⟨v,hvl,hd,?_,fun x hx hl=>?_⟩
 ·by_cases hh:ahP (K.den r) v
  ·exact hh
  ·exfalso
   refine hk.ord.ne r p h2 hp hpt (KV.canon hk.wf hk.ord hu _ _ _ h3 h4 (Nat.le_refl _) fun y=>?_)
   have e:K.den r (upd y v true)=K.den r (upd y v false):=by
    by_cases e:K.den r (upd y v true)=K.den r (upd y v false)
    ·exact e
    ·exact absurd ⟨y,e⟩ hh
   have hvn:p.var.toNat=v:=by omega
   have a1:=KV.den_hi hk.wf hk.ord h2 hp hpt y;have a2:=KV.den_lo hk.wf hk.ord h2 hp hpt y;rw [hvn] at a1 a2;rw [<- a1,<- a2,e]
 ·rintro ⟨y,hy⟩
  refine hy ?_;rw [KV.den_upd hk.wf hk.ord ht hx (by omega),KV.den_upd hk.wf hk.ord ht hx (by omega)]
theorem anK.sub {K:KV} {L:List TV} (h:anK K L) (hk:K.Ok) {r:Nat} (hr:K.Reach r):aMo K L (K.den r):=by
 have key:∀ {r:Nat},K.Reach r->∃ t,t∈L/\∃ a,∀ y,K.den r y=t.fn (K.mix (K.dep r) a y):=by
  intro r hr
  induction hr with
  | root h0 =>
   obtain ⟨t,ht,he⟩:=h.rt _ h0;refine ⟨t,ht,fun _=>false,fun y=>?_⟩;rw [<- he]
   refine KV.den_same hk.wf hk.ord _ _ _ _ (hk.wf.ht _ h0).2 (Nat.le_refl _) fun v hv hd=>?_
   simp only [KV.mix];rw [if_neg (by omega)]
  | @lo q p hq h2 hp hpt ih =>
   obtain ⟨t,ht,a,he⟩:=ih;obtain ⟨_,v,hp',_,hv,hvl,h3,h4,hd⟩:=hk.wf.node_at h2 (aaU.tk_iff.2 ⟨p,hp,hpt⟩)
   rw [hp] at hp';cases hp'
   have hvn:p.var.toNat=v:=by omega
   have hb:=hk.ord.below hk.wf h2 hp hpt;refine ⟨t,ht,K.mix (K.dep q) a (upd (fun _=>false) v false),fun y=>?_⟩
   have e1:K.den p.lo y=K.den p.lo (K.mix (K.dep p.lo) (fun _=>false) y):=KV.den_same hk.wf hk.ord _ _ _ _ h3 (Nat.le_refl _) fun x hx hdx=>by
    simp only [KV.mix];rw [if_neg (by omega)]
   rw [e1,<- KV.den_lo hk.wf hk.ord h2 hp hpt,he,<- aB9 K (by omega)]
   congr 1
   funext x
   simp only [KV.mix,upd,hvn]
   by_cases h5:x<K.vars/\K.lev x<K.dep q
   ·rw [if_pos h5,if_pos h5]
   ·rw [if_neg h5,if_neg h5]
    by_cases e:x=v
    ·subst e;rw [if_pos rfl,if_pos ⟨hvl,by omega⟩,if_pos rfl]
    ·rw [if_neg e]
     by_cases h6:x<K.vars/\K.lev x<K.dep p.lo
     ·rw [if_pos h6,if_pos h6,if_neg e]
     ·rw [if_neg h6,if_neg h6]
  | @hi q p hq h2 hp hpt ih =>
   obtain ⟨t,ht,a,he⟩:=ih;obtain ⟨_,v,hp',_,hv,hvl,h3,h4,hd⟩:=hk.wf.node_at h2 (aaU.tk_iff.2 ⟨p,hp,hpt⟩)
   rw [hp] at hp';cases hp'
   have hvn:p.var.toNat=v:=by omega
   have hb:=hk.ord.below hk.wf h2 hp hpt;refine ⟨t,ht,K.mix (K.dep q) a (upd (fun _=>false) v true),fun y=>?_⟩
   have e1:K.den p.hi y=K.den p.hi (K.mix (K.dep p.hi) (fun _=>false) y):=KV.den_same hk.wf hk.ord _ _ _ _ h4 (Nat.le_refl _) fun x hx hdx=>by
    simp only [KV.mix];rw [if_neg (by omega)]
   rw [e1,<- KV.den_hi hk.wf hk.ord h2 hp hpt,he,<- aB9 K (by omega)]
   congr 1
   funext x
   simp only [KV.mix,upd,hvn]
   by_cases h5:x<K.vars/\K.lev x<K.dep q
   ·rw [if_pos h5,if_pos h5]
   ·rw [if_neg h5,if_neg h5]
    by_cases e:x=v
    ·subst e;rw [if_pos rfl,if_pos ⟨hvl,by omega⟩,if_pos rfl]
    ·rw [if_neg e]
     by_cases h6:x<K.vars/\K.lev x<K.dep p.hi
     ·rw [if_pos h6,if_pos h6,if_neg e]
     ·rw [if_neg h6,if_neg h6]
 obtain ⟨t,ht,a,he⟩:=key hr;exact ⟨t,ht,K.dep r,a,he⟩
theorem KV.tab_flat {K:KV} (hk:K.Ok) (hu:K.Uni) (hn:K.vars<=16) {L:List TV} (hL:∀ t,t∈L->t.Ok/\t.n=K.vars) {r:Nat} (h2:2<=r) (ht:K.A.tk r=true) (hs:aMo K L (K.den r)):K.tab r∈ag9 L K.order:=by
 obtain ⟨v,hv,_,hh,hno⟩:=hk.node_hangs hu h2 ht
 have e:(K.tab r).fn=K.den r:=funext fun y=>hk.tab_fn ht y
 exact aGq hk.ord.pm hL (KV.tab_ok hn r).1 rfl (by rw [e];exact hs) hv (by rw [e];exact hh) (by rw [e];exact hno)
theorem anK.mem {K:KV} {L:List TV} (h:anK K L) (hk:K.Ok) (hu:K.Uni) (hn:K.vars<=16) {u:TV}:u∈ag9 L K.order↔∃ r,2<=r/\K.A.tk r=true/\K.tab r=u:=by
 constructor
 ·intro hm
  obtain ⟨i,v,h1,a1,a2,⟨t,ht,a,he⟩,hh⟩:=(aim h.ok fun x hx=>hk.ord.pm.mem_order hx).1 hm;obtain ⟨f,tf,hf⟩:=h.lr t ht;obtain ⟨x,tx,hx⟩:=KV.sub_live hk i a _ f (Nat.le_refl _) tf
  have hd:∀ y,K.den x y=u.fn y:=fun y=>by rw [hx,hf,he,hk.ord.pm.mixO]
  refine ⟨x,?_,tx,hk.tab_eq hn tx a1 a2 hd⟩
  by_cases h2:2<=x
  ·exact h2
  ·exfalso
   obtain ⟨y,hy⟩:=hh;refine hy ?_;rw [<- hd,<- hd,K.den_const (by omega),K.den_const (by omega)]
 ·rintro ⟨r,h2,ht,rfl⟩
  exact KV.tab_flat hk hu hn h.ok h2 ht (h.sub hk (KV.live_reach hk.wf hk.pos hk.ord _ r h2 ht (Nat.le_refl _)))
theorem anK.used {K:KV} {L:List TV} (h:anK K L) (hk:K.Ok) (hu:K.Uni) (hn:K.vars<=16):K.A.used=(ag9 L K.order).length+2:=by
 rw [<- hk.nodes_len];have nd:(K.nodes.map K.tab).Nodup:=List.pairwise_map.2 (List.Pairwise.imp_of_mem (fun {a b} ha hb hne e=>hne (hk.tab_inj hu (KV.mem_nodes.1 ha).2 (KV.mem_nodes.1 hb).2 e)) K.nodes_nodup)
 have e:(K.nodes.map K.tab).length=(ag9 L K.order).length:=by
  refine Nat.le_antisymm (List.Nodup.length_le_of_subset nd fun u hm=>?_) (List.Nodup.length_le_of_subset (aDd h.ok fun x hx=>hk.ord.pm.mem_order hx) fun u hm=>?_)
  ·obtain ⟨r,hr,rfl⟩:=List.mem_map.1 hm
   obtain ⟨h2,ht⟩:=KV.mem_nodes.1 hr;exact (h.mem hk hu hn).2 ⟨r,h2,ht,rfl⟩
  ·obtain ⟨r,h2,ht,rfl⟩:=(h.mem hk hu hn).1 hm
   exact List.mem_map.2 ⟨r,KV.mem_nodes.2 ⟨h2,ht⟩,rfl⟩
 rw [List.length_map] at e;omega
def aqX (K0:KV) (S:((Nat->Bool)->Bool)->Prop):Prop :=
 ∃ (K:KV) (g:(Nat->Bool)->Bool),K.Ok/\K.Uni/\K0.Ext K/\(∀ x,K.A.tk x=true->K0.A.tk x=false->S (K.den x))/\K.A.used=K.A.places/\S g/\∀ x,K.A.tk x=true->¬ ∀ y,K.den x y=g y
theorem anK.nofit {K:KV} {L:List TV} (h:anK K L) (hk:K.Ok) (hn:K.vars<=16) {t:TV} (ht:t.Ok) (htn:t.n=K.vars) (hno:aqX K (K.SubN t.fn)):K.A.places<(ag9 (L++[t]) K.order).length+2:=by
 obtain ⟨K1,g,k1,u1,ext,new,hus,hg,hx⟩:=hno
 have hL:∀ s,s∈L++[t]->s.Ok/\s.n=K.vars:=fun s hs=>by
  rcases List.mem_append.1 hs with hs | hs
  ·exact h.ok s hs
  ·simp at hs;subst hs;exact ⟨ht,htn⟩
 have hL1:∀ s,s∈L++[t]->s.Ok/\s.n=K1.vars:=fun s hs=>by rw [ext.vr];exact hL s hs
 have hn1:K1.vars<=16:=by rw [ext.vr];exact hn
 have aRx:∀ {g:(Nat->Bool)->Bool} {s:TV},K.SubN s.fn g->K1.SubN s.fn g:=fun {g s} ⟨l,a,he⟩=>⟨l,a,fun y=>by rw [he,ext.mix]⟩
 have arN:∀ r,2<=r->K1.A.tk r=true->aMo K1 (L++[t]) (K1.den r):=fun r h2 htk=>by
  by_cases h0:K.A.tk r=true
  ·obtain ⟨s,hs,hh⟩:=h.sub hk (KV.live_reach hk.wf hk.pos hk.ord _ r h2 h0 (Nat.le_refl _))
   have e:K1.den r=K.den r:=funext fun y=>ext.den hk.wf y h0
   rw [e];exact ⟨s,by simp [hs],aRx hh⟩
  ·exact ⟨t,by simp,aRx (new r htk (by simpa using h0))⟩
 obtain ⟨l,a,he⟩:=hg
 have azQ:∀ x y:Nat->Bool,(∀ v,v<K1.vars->x v=y v)->g x=g y:=fun x y hxy=>by
  rw [he,he]
  refine TV.fn_same t fun v hv=>?_
  simp only [KV.mix]
  rw [htn,<- ext.vr] at hv;rw [hxy v hv]
 obtain ⟨u,hud⟩ : ∃ u:TV,u=mkT K1.vars fun x=>g fun v=>x.testBit v:=⟨_,rfl⟩
 have huf:u.fn=g:=by
  funext y
  rw [hud,avr]
  exact azQ _ _ fun v hv=>by rw [aiq];simp [hv]
 have huo:u.Ok:=by rw [hud];exact amv _ hn1
 have hun:u.n=K1.vars:=by rw [hud];rfl
 have atE:u∈ag9 (L++[t]) K1.order:=by
  rcases ays (K:=K1) g K1.vars with hc | ⟨v,hv,hh,aGk⟩
  ·exfalso
   have hconst:∀ y,g y=g fun _=>false:=fun y=>by
    have e1:=amw k1.ord.pm (g:=g) K1.vars (Nat.le_refl _) hc (fun _=>false) y;rw [<- e1]
    exact azQ _ _ fun v hv=>by simp only [KV.mix];rw [if_pos ⟨hv,(k1.ord.pm.lo v hv).1⟩]
   cases hb:g fun _=>false with
   | true=>exact hx 1 k1.wf.ok.tk01.2 fun y=>by rw [hconst,hb,K1.den_const (by omega)];rfl
   | false=>exact hx 0 k1.wf.ok.tk01.1 fun y=>by rw [hconst,hb,K1.den_const (by omega)];rfl
  ·exact aGq k1.ord.pm hL1 huo hun ⟨t,by simp,l,a,fun y=>by rw [huf,he,ext.mix]⟩ hv (by rw [huf];exact hh) (by rw [huf];exact aGk)
 have nd:(u::K1.nodes.map K1.tab).Nodup:=by
  rw [List.nodup_cons];refine ⟨fun hm=>?_,List.pairwise_map.2 (List.Pairwise.imp_of_mem (fun {a b} ha hb hne e=>hne (k1.tab_inj u1 (KV.mem_nodes.1 ha).2 (KV.mem_nodes.1 hb).2 e)) K1.nodes_nodup)⟩;obtain ⟨r,hr,e⟩:=List.mem_map.1 hm;obtain ⟨h2,htk⟩:=KV.mem_nodes.1 hr
  refine hx r htk fun y=>?_
  rw [<- huf,<- e,k1.tab_fn htk]
 have hle:=List.Nodup.length_le_of_subset nd (l₂:=ag9 (L++[t]) K1.order) fun z hz=>by
  rcases List.mem_cons.1 hz with rfl | hz
  ·exact atE
  ·obtain ⟨r,hr,rfl⟩:=List.mem_map.1 hz
   obtain ⟨h2,htk⟩:=KV.mem_nodes.1 hr;exact KV.tab_flat k1 u1 hn1 hL1 h2 htk (arN r h2 htk)
 rw [List.length_cons,List.length_map,ext.od] at hle;have h5:=k1.nodes_len;have h6:=ext.pl;omega
end Go.Proofs.YtdackeldhdchaaaGreat
namespace Go.Proofs.YtdackeldhdchaaaGreat
open Go.RowKit Go.Maps Go.ChangeMaps Go.WideShapes
theorem aJf {a b:Bool} (h:a=b):Ending.returned (.bool a)=.returned (.bool b):=by rw [h]
theorem aMq {k:IntKind} {a b:Int} (h:a=b):Ending.returned (.int k a)=.returned (.int k b):=by rw [h]
theorem ayt {P:Program} (w:World) (base:Nat) (t ty e:TypeId) (i:TypeInfo) (z:Value) (size bytes:Nat) (ht:P.underlying t=some (.slice e)) (hi:P.info? e=some i) (hz:i.zero=some z)
  (hsize:i.size=size) (hby:i.bytes=bytes) (hzs:z.cells.size=size) (hsz:0<size)
  (v:Value) (n:Nat) (xs:List Value) (ab3:w.ownsRow base e size v n xs)
  (A:Option Addr) (m c:Nat) (news:List Value) (hA:A=none->m=0) (hl:news.length=m*size) (hnews:∀ ad,A=some ad->∀ j u,news[j]?=some u->w.cell? (ad.add j)=some u) (h1:∀ u∈news,u.oneCell'=true)
  (h63:n+m<=maxLen) (hbytes:(n+m)*bytes<=140737488355328) (ayu:base<=w.heap.size) :
  ∃ v' w',(Builtin.append_ #[t,t] ty #[v,.slice A m c]).run P w=.ok v' w'/\w'.ownsRow base e size v' (n+m) (xs++news)/\w.grownBy w' v.ownBlock/\(v'.ownBlock=v.ownBlock\/v'.ownBlock=some w.heap.size):=by
 cases A with
 | none =>
  obtain rfl:=hA rfl;have hn:news=[]:=List.eq_nil_of_length_eq_zero (by simpa using hl);subst hn;refine ⟨v,w,?_,by simpa using ab3,World.grownBy.refl w _,.inl rfl⟩
  rcases ab3.2 with ⟨rfl,rfl⟩ | ⟨g,cap,cur,rfl,_,_,hnc,_⟩
  ·simp [Builtin.append_,run_underlying ht,sizeOf,typeInfo,hi,Builtin.lenOf,Builtin.firstCells]
  ·simp [Builtin.append_,run_underlying ht,sizeOf,typeInfo,hi,Builtin.lenOf,Builtin.firstCells,hnc,storeCells]
 | some ad =>
  obtain ⟨v',w',aqL,h2,h3,_,h5⟩:=run_append_own_at (P:=P) w base t ty e i z size bytes ht hi hz hsize hby hzs hsz v n xs ab3 ad m c news hl (hnews ad rfl) h1 h63 hbytes ayu;exact ⟨v',w',aqL,h2,h3,h5⟩
theorem azR {P:Program} {w:World} {o:Oper} {a:Act} {K:Act->World->Prop} {Q:Exit->Act->World->Prop} (s x:Operand) (t:TypeId)
  (ho:o.op=.call { callee:=.builtin .append,args:=#[s,x],argTypes:=#[t,t] })
  (base:Nat) (e:TypeId) (i:TypeInfo) (z:Value) (size bytes:Nat) (ht:P.underlying t=some (.slice e)) (hi:P.info? e=some i) (hz:i.zero=some z)
  (hsize:i.size=size) (hby:i.bytes=bytes) (hzs:z.cells.size=size) (hsz:0<size)
  (v:Value) (n:Nat) (xs:List Value) (hs:a.eval s=v) (ab3:w.ownsRow base e size v n xs)
  (A:Option Addr) (m c:Nat) (news:List Value) (hx:a.eval x=.slice A m c) (hA:A=none->m=0) (hl:news.length=m*size) (hnews:∀ ad,A=some ad->∀ j u,news[j]?=some u->w.cell? (ad.add j)=some u) (h1:∀ u∈news,u.oneCell'=true)
  (h63:n+m<=maxLen) (hbytes:(n+m)*bytes<=140737488355328) (ayu:base<=w.heap.size)
  (h:∀ v' w',w'.ownsRow base e size v' (n+m) (xs++news)->w.grownBy w' v.ownBlock->(v'.ownBlock=v.ownBlock\/v'.ownBlock=some w.heap.size)->K (a.put o.dst v') w'):o.wp P a w K Q:=by
 obtain ⟨v',w',aqL,h2,h3,h4⟩:=ayt (P:=P) w base t o.type e i z size bytes ht hi hz hsize hby hzs hsz v n xs ab3 A m c news hA hl hnews h1 h63 hbytes ayu;unfold Oper.wp execOp
 simp only [ho,resolve,invoke,builtin,Sem.run_bind,Sem.run_pure,Result.andThen_ok,List.map_toArray,List.map_cons,List.map_nil,hs,hx,aqL]
 exact h v' w' h2 h3 h4
theorem agu {P:Program} {w:World} {ops:Array Oper} {rest:List Oper} {o:Oper} {a:Act} {Q:Exit->Act->World->Prop} (hgd:o.guard=none) (s x:Operand) (t:TypeId)
  (ho:o.op=.call { callee:=.builtin .append,args:=#[s,x],argTypes:=#[t,t] })
  (base:Nat) (e:TypeId) (i:TypeInfo) (z:Value) (size bytes:Nat) (ht:P.underlying t=some (.slice e)) (hi:P.info? e=some i) (hz:i.zero=some z)
  (hsize:i.size=size) (hby:i.bytes=bytes) (hzs:z.cells.size=size) (hsz:0<size)
  (v:Value) (n:Nat) (xs:List Value) (hs:a.eval s=v) (ab3:w.ownsRow base e size v n xs)
  (A:Option Addr) (m c:Nat) (news:List Value) (hx:a.eval x=.slice A m c) (hA:A=none->m=0) (hl:news.length=m*size) (hnews:∀ ad,A=some ad->∀ j u,news[j]?=some u->w.cell? (ad.add j)=some u) (h1:∀ u∈news,u.oneCell'=true)
  (h63:n+m<=maxLen) (hbytes:(n+m)*bytes<=140737488355328) (ayu:base<=w.heap.size)
  (h:∀ v' w',w'.ownsRow base e size v' (n+m) (xs++news)->w.grownBy w' v.ownBlock->(v'.ownBlock=v.ownBlock\/v'.ownBlock=some w.heap.size)->wpList P ops Q rest (a.put o.dst v') w'):wpList P ops Q (o::rest) a w :=
 wpList_plain hgd fun _ hK=>azR s x t ho base e i z size bytes ht hi hz hsize hby hzs hsz v n xs hs ab3 A m c news hx hA hl hnews h1 h63 hbytes ayu fun v' w' h2 h3 h4=>hK _ _ (h v' w' h2 h3 h4)
theorem ayv:∀ (o:List Nat) (c:List TV),(ag5 c o).flatten.length<=o.length*(2 ^ o.length*c.length)
 | [],c=>by simp [ag5]
 | x::o,c=>by
  have ih:=ayv o (adG c x);have hg:=atA c x;have hn:(ae8 c x).length<=c.length:=List.length_filter_le _ _
  show (ae8 c x::ag5 (adG c x) o).flatten.length<=_
  rw [List.flatten_cons,List.length_append,List.length_cons,Nat.pow_succ,Nat.add_mul,Nat.one_mul]
  have h1:o.length*(2 ^ o.length*(adG c x).length)<=o.length*(2 ^ o.length*2*c.length):=by
   refine Nat.mul_le_mul_left _ ?_
   rw [Nat.mul_assoc];exact Nat.mul_le_mul_left _ hg
  have h2:c.length<=2 ^ o.length*2*c.length:=by
   have:1<=2 ^ o.length*2:=by have:=Nat.two_pow_pos o.length;omega
   calc c.length=1*c.length:=by rw [Nat.one_mul]
    _<=_:=Nat.mul_le_mul_right _ this
  omega
theorem aA2 {o:List Nat} {c:List TV} (ho:o.length<=8) (hc:c.length<=4194304):(ag5 c o).flatten.length<=8589934592:=by
 have h1:=ayv o c
 have h2:2 ^ o.length<=256:=by
  calc 2 ^ o.length<=2 ^ 8:=Nat.pow_le_pow_right (by omega) ho
   _=256:=rfl
 have h3:2 ^ o.length*c.length<=256*4194304:=Nat.mul_le_mul h2 hc;have h4:o.length*(2 ^ o.length*c.length)<=8*(256*4194304):=Nat.mul_le_mul ho h3;omega
theorem aA3 {o:List Nat} {c:List TV} (ho:o.length<=8) (hc:c.length<=66000):(ag5 c o).flatten.length<=135168000:=by
 have h1:=ayv o c
 have h2:2 ^ o.length<=256:=by
  calc 2 ^ o.length<=2 ^ 8:=Nat.pow_le_pow_right (by omega) ho
   _=256:=rfl
 have h3:2 ^ o.length*c.length<=256*66000:=Nat.mul_le_mul h2 hc;have h4:o.length*(2 ^ o.length*c.length)<=8*(256*66000):=Nat.mul_le_mul ho h3;omega
theorem ayw {L:List (List TV)} {i:Nat} {l:List TV} (h:L[i]?=some l):(L.take (i+1)).flatten.length=(L.take i).flatten.length+l.length:=by
 rw [List.take_add_one,h];simp [List.flatten_append]
theorem ao1 (L:List (List TV)) (i:Nat):(L.take i).flatten.length<=L.flatten.length:=by
 have:L.flatten.length=(L.take i).flatten.length+(L.drop i).flatten.length:=by
  rw [<- List.length_append,<- List.flatten_append,List.take_append_drop]
 omega
theorem aFg (n0 n1:Nat) (Z:List Nat) (v vo:Value) (L:List TV) (o:List Nat) (n:Nat) (w:World) (h:TLs w n0 Z v L) (hZ:∀ k,k∈Z->k<w.heap.size) (hl:L.length<=4194304)
  (hn:∀ t,t∈L->t.n=n) (hn6:n<=8) (ho:w.ownsRow n1 3 1 vo o.length (acf o)) (hol:o.length<=8) (hon:∀ x,x∈o->x<n) :
  Calls Tryz.prog 212 #[v,vo] w fun e w'=>e=.returned (.int .i64 ((ag9 L o).length:Nat))/\Upd [] w w':=by
 have HLV:=Lib.hid (aqW n0 n1 Z v vo L o n w h hZ hl hn hn6 ho hol hon);have hbd:(ag9 L o).length<=8589934592:=aA2 hol (Nat.le_trans (ag8 L) hl)
 have hll:(ag5 (acw L) o).length<=8:=by rw [aqV];exact hol
 unfold ag9 at hbd ⊢;generalize ag5 (acw L) o=LL at *;obtain ⟨fa,fc,rfl,hfa⟩:=h.form;obtain ⟨oa,oc,rfl,hof⟩:=abI ho;clear h hZ hl hn hn6 ho hol hon hfa hof
 go_enter Tryz.func212,Tryz.ntmps212
 go_wp2_with fail;refine HLV.out.mono ?_;rintro e w1 hE;obtain ⟨cv,rfl,hC,hu1⟩:=hE.ex;obtain ⟨aa,ac,hav,hag⟩:=hC.form;subst hav;have HC:=Lib.hid (And.intro hC hu1);clear hC hu1 hE HLV;go_wp2_with fail
 go_loopg [5,12] LL.length (fun g s5 s12 wr=>∃ i:Nat,LL.length-i=g/\i<=LL.length/\s12=.int .i64 i/\s5=.int .i64 ((LL.take i).flatten.length:Nat)/\wr=w1)
 case atStart=>exact ⟨0,by omega,by omega,rfl,by simp,rfl⟩
 case round =>
  obtain ⟨i,rfl,hi,rfl,rfl,rfl⟩:=hrel
  by_cases hlt:i<LL.length
  ·obtain ⟨l,hl⟩ : ∃ l,LL[i]?=some l:=⟨_,List.getElem?_eq_getElem hlt⟩
   obtain ⟨ga,rfl⟩:=hag (by omega);obtain ⟨cl,x0,htl⟩:=HC.out.1.at_ hl;obtain ⟨la,lc,hcl,_⟩:=htl.form;subst hcl
   have hil:(i:Int)<(LL.length:Int):=by omega
   have HS:=Lib.hid (ayw hl);have hs2:=ao1 LL (i+1);rw [HS.out] at hs2
   have hb:(LL.take i).flatten.length+l.length<=8589934592:=by omega
   clear hs2 hl htl;generalize (LL.take i).flatten.length=S at *;go_wp2_with fail
   go_roundg (LL.length-(i+1))
   case measure=>omega
   case rel=>exact ⟨i+1,rfl,by omega,by simp,by rw [HS.out];simp,rfl⟩
  ·obtain rfl:i=LL.length:=by omega
   have hil:¬ ((LL.length:Int)<(LL.length:Int)):=by omega
   rw [List.take_length];go_wp2_with fail;go_ret;exact ⟨rfl,HC.out.2⟩
theorem Upd.cell0 {w w':World} (u:Upd [] w w') {a:Addr} {v:Value} (h:w.cell? a=some v):w'.cell? a=some v:=(u.cell (World.block_lt_of_cell? _ _ h) (by simp)).trans h
structure MV where
 n:Nat
 c:Nat
 order:List Nat
 held:List (TV × Nat)
 trail:List Nat
def MV.tabs (M:MV):List TV:=M.held.map (·.1)
def anF (H:List (TV × Nat)) (cs:List Value):List Value:=(H.zip cs).flatMap fun p=>[Value.int .i64 p.1.1.n,p.2,.int .i64 p.1.2]
theorem avs {H:List (TV × Nat)} {cs:List Value} (hl:cs.length=H.length) {i:Nat} {h:TV × Nat} {c:Value} (ht:H[i]?=some h) (hc:cs[i]?=some c):(anF H cs)[i*3]?=some (.int .i64 h.1.n)/\(anF H cs)[i*3+1]?=some c/\(anF H cs)[i*3+2]?=some (.int .i64 h.2):=by
 induction H generalizing cs i with
 | nil=>simp at ht
 | cons a L ih =>
  cases cs with
  | nil=>simp at hl
  | cons d cs =>
   have hl':cs.length=L.length:=by simpa using hl
   have e:anF (a::L) (d::cs)=Value.int .i64 a.1.n::d::.int .i64 a.2::anF L cs:=rfl
   cases i with
   | zero=>simp at ht hc;subst ht hc;rw [e];exact ⟨rfl,rfl,rfl⟩
   | succ i =>
    simp at ht hc
    obtain ⟨h1,h2,h3⟩:=ih hl' ht hc;rw [e]
    have e1:(i+1)*3=i*3+1+1+1:=by omega
    have e2:(i+1)*3+1=i*3+1+1+1+1:=by omega
    have e3:(i+1)*3+2=i*3+2+1+1+1:=by omega
    refine ⟨?_,?_,?_⟩
    ·rw [e1];simpa using h1
    ·rw [e2];simpa using h2
    ·rw [e3];simpa using h3
theorem aFi {H:List (TV × Nat)} {cs:List Value} (hl:cs.length=H.length) (h:TV × Nat) (c:Value):anF (H++[h]) (cs++[c])=anF H cs++[Value.int .i64 h.1.n,c,.int .i64 h.2]:=by
 unfold anF
 rw [List.zip_append hl.symm,List.flatMap_append];rfl
structure acd where
 ov:Value
 hv:Value
 tv:Value
def acd.all (p:acd) (m:Nat):List Nat:=m::(p.ov.ownBlock.toList++(p.hv.ownBlock.toList++p.tv.ownBlock.toList))
theorem acd.mem {p:acd} {m k:Nat}:k∈p.all m↔k=m\/p.ov.ownBlock=some k\/p.hv.ownBlock=some k\/p.tv.ownBlock=some k:=by
 simp [acd.all]
structure HLs (w:World) (Z:List Nat) (v:Value) (H:List (TV × Nat)):Prop where
 ex:∃ cs:List Value,cs.length=H.length/\w.ownsRow 0 255 3 v H.length (anF H cs)/\∀ (i:Nat) (h:TV × Nat) (c:Value),H[i]?=some h->cs[i]?=some c->TIn w Z c h.1
structure aef (w:World) (m:Nat) (M:MV) (p:acd) (Z:List Nat):Prop where
 blk:w.heap[m]?=some (.cells #[.int .i64 M.n,.int .i64 M.c,p.ov,p.hv,p.tv] 53 (0,0))
 os:w.ownsRow 0 3 1 p.ov M.order.length (acf M.order)
 hs:HLs w Z p.hv M.held
 ts:w.ownsRow 0 3 1 p.tv M.trail.length (acf M.trail)
 ne:∀ k,p.ov.ownBlock=some k->p.tv.ownBlock≠some k
 sz:∀ k,k∈p.all m->k∈Z
theorem HLs.row {w:World} {Z:List Nat} {v:Value} {H:List (TV × Nat)} (h:HLs w Z v H):∃ xs,w.ownsRow 0 255 3 v H.length xs:=by
 obtain ⟨cs,_,hr,_⟩:=h.ex;exact ⟨_,hr⟩
theorem HLs.keep {w w':World} {Z S:List Nat} {v:Value} {H:List (TV × Nat)} (h:HLs w Z v H) (u:Upd S w w') (hS:∀ k,k∈S->k∈Z\/w.heap.size<=k) (hv:∀ k,v.ownBlock=some k->k∉S):HLs w' Z v H:=by
 obtain ⟨cs,h1,h2,h3⟩:=h.ex;exact ⟨cs,h1,aaX h2 fun k hk=>u.block k (h2.lt k hk).2 (hv k hk),fun i t c ht hc=>(h3 i t c ht hc).keep u hS⟩
theorem HLs.apart {w:World} {Z Z':List Nat} {v:Value} {H:List (TV × Nat)} (h:HLs w Z v H) (hs:Sub Z w Z') (h0:∃ z,z∈Z':=by first | assumption | exact ⟨_,List.mem_append.2 (.inr (acd.mem.2 (.inl rfl)))⟩ | exact ⟨_,List.mem_append.2 (.inl (acd.mem.2 (.inl rfl)))⟩ | exact ⟨_,List.mem_append.2 (.inr (List.mem_append.2 (.inr (acd.mem.2 (.inl rfl)))))⟩ | (simp [acd.all,exists_or];done)):HLs w Z' v H:=by
 obtain ⟨cs,h1,h2,h3⟩:=h.ex;exact ⟨cs,h1,h2,fun i t c ht hc=>(h3 i t c ht hc).apart hs h0⟩
theorem HLs.form {w:World} {Z:List Nat} {v:Value} {H:List (TV × Nat)} (h:HLs w Z v H):∃ (a:Option Addr) (c:Nat),v=.slice a H.length c/\(0<H.length->∃ g,a=some ⟨g,0,none⟩):=by
 obtain ⟨xs,hr⟩:=h.row;obtain ⟨a,c,hv,hh⟩:=abI hr;refine ⟨a,c,hv,fun hp=>?_⟩
 rcases hh with ⟨_,h0,_⟩ | hh
 ·omega
 ·exact hh
theorem HLs.at_ {w:World} {n' cp g:Nat} {Z:List Nat} {H:List (TV × Nat)} (h:HLs w Z (.slice (some ⟨g,0,none⟩) n' cp) H) {i:Nat} {t:TV × Nat} (ht:H[i]?=some t) :
  ∃ c,w.cell? ⟨g,i*3,none⟩=some (.int .i64 t.1.n)/\w.cell? ⟨g,i*3+1,none⟩=some c/\w.cell? ⟨g,i*3+2,none⟩=some (.int .i64 t.2)/\TIn w Z c t.1:=by
 obtain ⟨cs,h1,h2,h3⟩:=h.ex
 have hil:i<H.length:=by
  by_cases e:i<H.length
  ·exact e
  ·rw [List.getElem?_eq_none (by omega)] at ht;cases ht
 have hc:cs[i]?=some (cs[i]'(by omega)):=List.getElem?_eq_getElem (by omega);obtain ⟨e1,e2,e3⟩:=avs h1 ht hc;exact ⟨_,abf h2 e1,abf h2 e2,abf h2 e3,h3 i t _ ht hc⟩
theorem aef.keep {w w':World} {m:Nat} {M:MV} {p:acd} {Z S:List Nat} (h:aef w m M p Z) (u:Upd S w w') (hS:∀ k,k∈S->k∈Z\/w.heap.size<=k) (hd:∀ k,k∈p.all m->k∉S):aef w' m M p Z:=by
 refine ⟨by rw [u.block m (aa4 h.blk) (hd m (acd.mem.2 (.inl rfl)))];exact h.blk,aaX h.os fun k hk=>u.block k (h.os.lt k hk).2 (hd k (acd.mem.2 (.inr (.inl hk)))),?_,aaX h.ts fun k hk=>u.block k (h.ts.lt k hk).2 (hd k (acd.mem.2 (.inr (.inr (.inr hk))))),h.ne,h.sz⟩
 exact h.hs.keep u hS fun k hk=>hd k (acd.mem.2 (.inr (.inr (.inl hk))))
theorem aef.keep0 {w w':World} {m:Nat} {M:MV} {p:acd} {Z:List Nat} (h:aef w m M p Z) (u:Upd [] w w'):aef w' m M p Z:=h.keep u (by simp) (by simp)
theorem aef.apart {w:World} {m:Nat} {M:MV} {p:acd} {Z Z':List Nat} (h:aef w m M p Z) (hs:Sub Z w Z') (hz:∀ k,k∈p.all m->k∈Z'):aef w m M p Z' :=
 ⟨h.blk,h.os,h.hs.apart hs ⟨m,hz m (acd.mem.2 (.inl rfl))⟩,h.ts,h.ne,hz⟩
theorem aef.cells {w:World} {m:Nat} {M:MV} {p:acd} {Z:List Nat} (h:aef w m M p Z) :
  w.cell? ⟨m,0,none⟩=some (.int .i64 M.n)/\w.cell? ⟨m,1,none⟩=some (.int .i64 M.c)/\w.cell? ⟨m,2,none⟩=some p.ov/\w.cell? ⟨m,3,none⟩=some p.hv/\w.cell? ⟨m,4,none⟩=some p.tv :=
 ⟨aac h.blk rfl,aac h.blk rfl,aac h.blk rfl,aac h.blk rfl,aac h.blk rfl⟩
theorem aRy (w:World) (x y z:Value):(w.alloc (.cells #[x,y,z] 255 (0,0))).cell? ⟨w.heap.size,0,none⟩=some x/\(w.alloc (.cells #[x,y,z] 255 (0,0))).cell? ⟨w.heap.size,1,none⟩=some y/\(w.alloc (.cells #[x,y,z] 255 (0,0))).cell? ⟨w.heap.size,2,none⟩=some z:=by
 have h:=heap_alloc_new w (.cells #[x,y,z] 255 (0,0));exact ⟨aac h rfl,aac h rfl,aac h rfl⟩
theorem anG (m:Nat) (M:MV) (p:acd) (Z:List Nat) (w:World) (h:aef w m M p Z) (hZ:∀ k,k∈Z->k<w.heap.size) (hl:M.held.length<=4194304) :
  Calls Tryz.prog 132 #[.pointer (some ⟨m,0,none⟩)] w fun e w'=>TLQ Z M.tabs w e w':=by
 obtain ⟨ti,hi2,hz2,hs2,hb2⟩:=info_parts Tryz.infoTable;have HI:=Lib.hid (And.intro hi2 (And.intro hz2 (And.intro hs2 hb2)));obtain ⟨fa,fc,hfv,hfa⟩:=h.hs.form;obtain ⟨_,_,_,c3,_⟩:=h.cells;rw [hfv] at c3;have hs:=h.hs;rw [hfv] at hs;have HL:=Lib.hid hs;have HZ:=Lib.hid hZ;have HT:Hid (M.tabs=M.held.map (·.1)):=rfl;generalize M.held=H at *;clear h hZ hi2 hz2 hs2 hb2 hfv hs
 go_enter Tryz.func132,Tryz.ntmps132
 go_wp2_with fail
 go_loopg [3,11] H.length (fun g s3 s8 wr=>∃ i:Nat,H.length-i=g/\i<=H.length/\s8=.int .i64 i/\TLs wr w.heap.size Z s3 ((H.take i).map (·.1))/\Upd [] w wr)
 case atStart=>exact ⟨0,by omega,by omega,rfl,by simpa using TLs.nil w w.heap.size Z,Upd.refl _ _⟩
 case round =>
  obtain ⟨i,rfl,hi,rfl,hT,hU⟩:=hrel
  by_cases hlt:i<H.length
  ·obtain ⟨u,hu⟩ : ∃ u,H[i]?=some u:=⟨_,List.getElem?_eq_getElem hlt⟩
   obtain ⟨ga,rfl⟩:=hfa (by omega);obtain ⟨cu,x0,x1,x2,htu⟩:=(HL.out.keep hU (by simp) (by simp)).at_ hu;obtain ⟨ua,uc,hcu,_⟩:=ahV htu.row;subst hcu;obtain ⟨oa,oc,hov,_⟩:=hT.form;subst hov
   have hil:(i:Int)<(H.length:Int):=by omega
   have hul:((H.take i).map (·.1)).length<=4194304:=by
    rw [List.length_map,List.length_take];omega
   have HS:Hid ((H.take (i+1)).map (·.1)=(H.take i).map (·.1)++[u.1]):=by
    show _=_
    rw [List.take_add_one,hu];simp
   generalize (H.take i).map (·.1)=UL at *;obtain ⟨z0,z1,z2⟩:=aRy wr (.int .i64 u.1.n) (.slice ua u.1.ws.length uc) (.int .i64 u.2);have hUB:=(Upd.refl [] wr).alloc (.cells #[.int .i64 u.1.n,.slice ua u.1.ws.length uc,.int .i64 u.2] 255 (0,0));have HT3:=Lib.hid (And.intro (hT.keep0 hUB) (And.intro (htu.keep0 hUB) (hU.trans hUB)));obtain ⟨t,k⟩:=u
   simp only at *
   generalize hUW:t.ws.length=UW at *;generalize hun:t.n=un at *;have HUN:=Lib.hid (And.intro hUW hun);obtain ⟨xs,abP⟩:=HT3.out.1.row;have aep:=Lib.hid abP
   have HC2:Hid (∀ z,z∈[Value.int .i64 un,Value.slice ua UW uc]->z.oneCell'=true):=by
    intro z hz;simp at hz;rcases hz with rfl | rfl <;> rfl
   have aB4:=HT3.out.2.2.size
   have hbs:w.heap.size<=((wr.alloc (.cells #[.int .i64 un,.slice ua UW uc,.int .i64 k] 255 (0,0))).alloc (.cells #[.int .i64 un,.slice ua UW uc] 121 (0,0))).heap.size:=by rw [World.size_alloc];omega
   clear htu hT hU hu hUB hUW hun abP
   go_wp2_with (at_builtin;go_must (refine wpList_append_lies _ rfl (.tmp 15) (.tmp 18) 22 rfl w.heap.size 121 ti _ 2 32 Tryz.underlying22 HI.out.1 HI.out.2.1 HI.out.2.2.1 HI.out.2.2.2 (by rfl) (by decide) _ UL.length xs rfl (aep.out.alloc _) ⟨wr.heap.size+1,0,none⟩ 1 1 [.int .i64 un,.slice ua UW uc] rfl rfl ?c1 HC2.out (by omega) (by unfold maxLen;omega) (by omega) hbs _ rfl ?_))
   case c1=>exact World.news_of_block (by
    have:=heap_alloc_new (wr.alloc (.cells #[.int .i64 un,.slice ua UW uc,.int .i64 k] 255 (0,0))) (.cells #[.int .i64 un,.slice ua UW uc] 121 (0,0))
    rw [World.size_alloc] at this;exact this)
   intro g5 cap w5 ab3 hgr hat ajb
   have HE:Hid (TLs w5 w.heap.size Z (.slice (some ⟨g5,0,none⟩) (UL.length+1) cap) (UL++[t])/\Upd [] w w5):=by
    have hp:=HT3.out.1.push HT3.out.2.1 (by omega) HZ.out hgr aep.out (by rw [HUN.out.2];exact ab3);refine ⟨hp.1,HT3.out.2.2.then (hp.2 (Value.slice oa UL.length oc).ownBlock.toList fun k hk=>.inl (by rw [hk];simp)) fun k hk=>.inr ?_⟩
    have hk':(Value.slice oa UL.length oc).ownBlock=some k:=by simpa using hk
    exact (aep.out.lt k hk').1
   clear ab3 hgr hat ajb;go_wp2_with fail
   go_roundg (H.length-(i+1))
   case measure=>omega
   case rel=>exact ⟨i+1,rfl,by omega,by simp,by rw [HS.out];exact HE.out.1,HE.out.2⟩
  ·obtain rfl:i=H.length:=by omega
   have hil:¬ ((H.length:Int)<(H.length:Int)):=by omega
   have HE:Hid (TLs wr w.heap.size Z _ M.tabs/\Upd [] w wr):=⟨by rw [HT.out];rw [List.take_length] at hT;exact hT,hU⟩;clear hT hU;go_wp2_with fail;go_ret;exact ⟨_,rfl,HE.out⟩
structure MV.Fit (M:MV):Prop where
 hl:M.held.length<=65536
 n6:M.n<=8
 ol:M.order.length<=8
 on:∀ x,x∈M.order->x<M.n
 tn:∀ t,t∈M.tabs->t.Ok/\t.n=M.n
 cb:M.c<=1048576
def MV.lev (M:MV):List (List TV):=ag5 (acw M.tabs) M.order
theorem aue (m:Nat) (M:MV) (p:acd) (Z:List Nat) (w:World) (h:aef w m M p Z) (hZ:∀ k,k∈Z->k<w.heap.size) (hf:M.Fit) :
  Calls Tryz.prog 130 #[.pointer (some ⟨m,0,none⟩)] w fun e w'=>aRt Z M.lev w e w':=by
 obtain ⟨oa,oc,hov,_⟩:=abI h.os;obtain ⟨_,_,c2,_,_⟩:=h.cells;rw [hov] at c2;have HM:=Lib.hid h;have HF:=Lib.hid hf;have HOV:=Lib.hid hov
 have HZ:Hid (∀ x:World,Upd [] w x->∀ k,k∈Z->k<x.heap.size):=fun x u k hk=>Nat.lt_of_lt_of_le (hZ k hk) u.size
 have HTB:=Lib.hid (anG m M p Z w.drew (h.keep0 (Upd.refl _ _).drew) hZ (by have:=hf.hl;omega))
 have HL0:Hid (M.tabs.length<=4194304):=by show _<=_;unfold MV.tabs;rw [List.length_map];have:=hf.hl;omega
 clear h hZ hf hov
 go_enter Tryz.func130,Tryz.ntmps130
 go_wp2_with fail
 go_region_held3 (fun w'=>w'.cell? ⟨m,2,none⟩=some (.slice oa M.order.length oc)) (first | exact c2 | exact HT.out.2.cell0 c2 | exact (HT.out.2.trans HS.out.2).cell0 c2) (first | (go_at_call 132;refine HTB.out.mono ?_;rintro e w3 hE;obtain ⟨cf,rfl,hT,hu⟩:=hE.ex;have HT:=Lib.hid (And.intro hT hu.of_drew);clear hE hT hu) | (go_at_call 131;refine (aqW _ 0 Z _ _ M.tabs M.order M.n _ HT.out.1 (HZ.out _ HT.out.2) HL0.out (fun t ht=>(HF.out.tn t ht).2) HF.out.n6 (aaX (by have:=HM.out.os;rw [HOV.out] at this;exact this) fun k hk=>HT.out.2.block k (HM.out.os.lt k (by rw [HOV.out];exact hk)).2 (by simp)) HF.out.ol HF.out.on).mono ?_;rintro e w4 hE;obtain ⟨cf,rfl,hS,hu⟩:=hE.ex;have HS:=Lib.hid (And.intro hS hu);clear hE hS hu))
 go_wp2_with fail;go_ret;exact ⟨_,rfl,HS.out.1.base HT.out.2.size,HT.out.2.trans HS.out.2⟩
end Go.Proofs.YtdackeldhdchaaaGreat
