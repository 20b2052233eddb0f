import Derived.Test.YtlkgkojidclncaaGreatTA12
import Derived.Test.YtlkgkojidclncaaGreatTA2
import Derived.Test.YtlkgkojidclncaaGreatTA7
import Derived.Test.YtlkgkojidclncaaGreatTA11
import Derived.BigRegion
import Derived.Deep.RegionHeld
import Derived.RangeFuncBox
import Derived.RangeFuncLeaves
import Derived.Shelf.Abstract
import Derived.WalkKit
import Derived.OwnWalkIn
import Derived.TacticsInMore
import Derived.LoopNIn
import Derived.LoopIn
import Derived.Maps.AppendAt
import Derived.Sort.MapsRangeIn
import Derived.RangeFuncNested
import Derived.RangeFuncBound
import Derived.Deep.QuietTactic
set_option maxRecDepth 100000
set_option maxHeartbeats 2000000
namespace Go.Proofs.YtlkgkojidclncaaGreat
def mixO (o:List Nat) (a y:Nat->Bool):Nat->Bool:=fun v=>if v∈o then a v else y v
theorem mixO_nil (a y:Nat->Bool):mixO [] a y=y:=by funext v;simp [mixO]
theorem mixO_cons (v:Nat) (o:List Nat) (a y:Nat->Bool):mixO (v::o) a y=upd (mixO o a y) v (a v):=by
 funext u
 simp only [mixO,upd,List.mem_cons]
 by_cases e:u=v
 ·subst e;simp
 ·simp [e]
theorem upd_mixO (v:Nat) (o:List Nat) (a y:Nat->Bool) (b:Bool):upd (mixO o a y) v b=mixO (v::o) (upd a v b) y:=by
 funext u
 simp only [mixO,upd,List.mem_cons]
 by_cases e:u=v
 ·subst e;simp
 ·simp [e]
theorem mem_curT {n:Nat}:∀ (o:List Nat) (c:List TV),(∀ t,t∈c->t.Ok/\t.n=n)->(∀ v,v∈o->v<n)->∀ {u:TV},u∈curT c o↔(u.Ok/\u.n=n/\∃ t,t∈c/\∃ a,∀ y,u.fn y=t.fn (mixO o a y))
 | [],c,hc,_,u=>by
  constructor
  ·intro h
   exact ⟨(hc u h).1,(hc u h).2,u,h,fun _=>false,fun y=>by rw [mixO_nil]⟩
  ·rintro ⟨h1,h2,t,ht,a,he⟩
   have:u=t:=TV.fn_ext h1 (hc t ht).1 (h2.trans (hc t ht).2.symm) fun y=>by rw [he,mixO_nil]
   subst this;exact ht
 | v::o,c,hc,ho,u=>by
  have hvn:=ho v (by simp)
  have hg:∀ t,t∈givenT c v->t.Ok/\t.n=n:=fun t ht=>by
   obtain ⟨s,hs,b,rfl⟩:=mem_givenT.1 ht;exact ⟨cofT_ok (hc s hs).1 v b,(hc s hs).2⟩
  have ih:=mem_curT o (givenT c v) hg (fun x hx=>ho x (by simp [hx])) (u:=u)
  show u∈curT (givenT c v) o↔_
  rw [ih];constructor
  ·rintro ⟨h1,h2,t,ht,a,he⟩
   obtain ⟨s,hs,b,rfl⟩:=mem_givenT.1 ht;refine ⟨h1,h2,s,hs,upd a v b,fun y=>?_⟩;rw [he,cofT_fn (by rw [(hc s hs).2];exact hvn),upd_mixO]
  ·rintro ⟨h1,h2,s,hs,a,he⟩
   refine ⟨h1,h2,cofT s v (a v),mem_givenT.2 ⟨s,hs,a v,rfl⟩,a,fun y=>?_⟩;rw [he,cofT_fn (by rw [(hc s hs).2];exact hvn),mixO_cons]
theorem mem_nodesT {L:List TV} {v:Nat} {u:TV}:u∈nodesT L v↔u∈L/\depT u v=true:=by simp [nodesT]
def flatT (L:List TV) (o:List Nat):List TV:=(levT (unlikeT L) o).flatten
theorem mem_levF {u:TV}:∀ (o:List Nat) (c:List TV),u∈(levT c o).flatten↔∃ i v,o[i]?=some v/\u∈curT c (o.take i)/\depT u v=true
 | [],c=>by simp [levT]
 | x::o,c=>by
  have ih:=mem_levF (u:=u) o (givenT c x)
  show u∈(nodesT c x::levT (givenT c x) o).flatten↔_
  rw [List.flatten_cons,List.mem_append,mem_nodesT,ih];constructor
  ·rintro (⟨h1,h2⟩ | ⟨i,v,h1,h2,h3⟩)
   ·exact ⟨0,x,rfl,h1,h2⟩
   ·exact ⟨i+1,v,h1,h2,h3⟩
  ·rintro ⟨i,v,h1,h2,h3⟩
   cases i with
   | zero=>simp at h1;subst h1;exact .inl ⟨h2,h3⟩
   | succ i=>exact .inr ⟨i,v,h1,h2,h3⟩
theorem addT_nodup {l:List TV} (h:l.Nodup) (t:TV):(addT l t).Nodup:=by
 unfold addT;split
 ·exact h
 ·rename_i hn
  rw [List.nodup_append];exact ⟨h,by simp,fun a ha b hb e=>by simp at hb;subst hb;subst e;exact hn ha⟩
theorem givenT_nodup (L:List TV) (v:Nat):(givenT L v).Nodup:=by
 have key:∀ (L l:List TV),l.Nodup->(L.foldl (fun l t=>addT (addT l (cofT t v false)) (cofT t v true)) l).Nodup:=by
  intro L
  induction L with
  | nil=>intro l h;exact h
  | cons a L ih=>intro l h;exact ih _ (addT_nodup (addT_nodup h _) _)
 exact key L [] (by simp)
theorem unlikeT_nodup (L:List TV):(unlikeT L).Nodup:=by
 have key:∀ (L l:List TV),l.Nodup->(L.foldl addT l).Nodup:=by
  intro L
  induction L with
  | nil=>intro l h;exact h
  | cons a L ih=>intro l h;exact ih _ (addT_nodup h _)
 exact key L [] (by simp)
theorem levF_nodup {n:Nat}:∀ (o:List Nat) (c:List TV),c.Nodup->(∀ t,t∈c->t.Ok/\t.n=n)->(∀ v,v∈o->v<n)->(levT c o).flatten.Nodup
 | [],c,_,_,_=>by simp [levT]
 | x::o,c,hd,hc,ho=>by
  have hg:∀ t,t∈givenT c x->t.Ok/\t.n=n:=fun t ht=>by
   obtain ⟨s,hs,b,rfl⟩:=mem_givenT.1 ht;exact ⟨cofT_ok (hc s hs).1 x b,(hc s hs).2⟩
  show (nodesT c x::levT (givenT c x) o).flatten.Nodup
  rw [List.flatten_cons,List.nodup_append];refine ⟨List.Pairwise.filter _ hd,levF_nodup o _ (givenT_nodup c x) hg (fun v hv=>ho v (by simp [hv])),fun a ha b hb e=>?_⟩;subst e;obtain ⟨h1,h2⟩:=mem_nodesT.1 ha;obtain ⟨i,v,_,h4,_⟩:=(mem_levF o (givenT c x)).1 hb;have hxn:=ho x (by simp);obtain ⟨_,_,t,ht,av,he⟩:=(mem_curT (n:=n) (o.take i) (givenT c x) hg (fun v hv=>ho v (by simp [List.mem_of_mem_take hv]))).1 h4;obtain ⟨s,hs,b,rfl⟩:=mem_givenT.1 ht;obtain ⟨y,hy⟩:=(depT_iff (hc a h1).1 (by rw [(hc a h1).2];exact hxn)).1 h2;refine hy ?_;rw [he,he,cofT_fn (by rw [(hc s hs).2];exact hxn),cofT_fn (by rw [(hc s hs).2];exact hxn)]
  congr 1
  funext u
  simp only [upd,mixO]
  by_cases e:u=x
  ·simp [e]
  ·simp [e]
theorem flatT_nodup {n:Nat} {L:List TV} {o:List Nat} (hc:∀ t,t∈L->t.Ok/\t.n=n) (ho:∀ v,v∈o->v<n):(flatT L o).Nodup :=
 levF_nodup o _ (unlikeT_nodup L) (fun t ht=>hc t (mem_unlikeT.1 ht)) ho
theorem mem_flatT {n:Nat} {L:List TV} {o:List Nat} (hc:∀ t,t∈L->t.Ok/\t.n=n) (ho:∀ v,v∈o->v<n) {u:TV} :
  u∈flatT L o↔∃ i v,o[i]?=some v/\u.Ok/\u.n=n/\(∃ t,t∈L/\∃ a,∀ y,u.fn y=t.fn (mixO (o.take i) a y))/\Hangs u.fn v:=by
 unfold flatT;rw [mem_levF];constructor
 ·rintro ⟨i,v,h1,h2,h3⟩
  obtain ⟨a1,a2,t,ht,a3⟩:=(mem_curT (n:=n) _ _ (fun t ht=>hc t (mem_unlikeT.1 ht)) (fun v hv=>ho v (List.mem_of_mem_take hv))).1 h2;exact ⟨i,v,h1,a1,a2,⟨t,mem_unlikeT.1 ht,a3⟩,(depT_iff a1 (by rw [a2];exact ho v (List.mem_of_getElem? h1))).1 h3⟩
 ·rintro ⟨i,v,h1,a1,a2,⟨t,ht,a3⟩,h3⟩
  exact ⟨i,v,h1,(mem_curT (n:=n) _ _ (fun t ht=>hc t (mem_unlikeT.1 ht)) (fun v hv=>ho v (List.mem_of_mem_take hv))).2 ⟨a1,a2,t,mem_unlikeT.2 ht,a3⟩,(depT_iff a1 (by rw [a2];exact ho v (List.mem_of_getElem? h1))).2 h3⟩
theorem KV.Perm.mem_take {K:KV} (h:K.Perm) {l v:Nat}:v∈K.order.take l↔v<K.vars/\K.lev v<l:=by
 constructor
 ·intro hv
  obtain ⟨i,hi⟩:=List.getElem?_of_mem hv;rw [List.getElem?_take] at hi
  split at hi
  ·rename_i hil
   have hlt:i<K.order.length:=by
    by_cases e:i<K.order.length
    ·exact e
    ·rw [List.getElem?_eq_none (by omega)] at hi;cases hi
   have e:K.order.getD i 0=v:=by rw [List.getD_eq_getElem?_getD,hi];rfl
   have:=h.oo i (by rw [<- h.ol];exact hlt);rw [e] at this;exact ⟨this.1,by omega⟩
  ·cases hi
 ·rintro ⟨hv,hl⟩
  have:=h.lo v hv
  have hi:K.order[K.lev v]?=some v:=by
   rw [List.getElem?_eq_getElem (by rw [h.ol];exact this.1)];have e:=this.2;rw [List.getD_eq_getElem?_getD,List.getElem?_eq_getElem (by rw [h.ol];exact this.1)] at e
   simpa using e
  exact List.mem_of_getElem? (i:=K.lev v) (by rw [List.getElem?_take,if_pos hl];exact hi)
theorem KV.Perm.mem_order {K:KV} (h:K.Perm) {v:Nat} (hv:v∈K.order):v<K.vars:=by
 have:=h.mem_take (l:=K.order.length) (v:=v);rw [List.take_length] at this;exact (this.1 hv).1
theorem KV.Perm.order_at {K:KV} (h:K.Perm) {v:Nat} (hv:v<K.vars):K.order[K.lev v]?=some v:=by
 have:=h.lo v hv;rw [List.getElem?_eq_getElem (by rw [h.ol];exact this.1)];have e:=this.2;rw [List.getD_eq_getElem?_getD,List.getElem?_eq_getElem (by rw [h.ol];exact this.1)] at e
 simpa using e
theorem KV.Perm.at_order {K:KV} (h:K.Perm) {i v:Nat} (hi:K.order[i]?=some v):v<K.vars/\K.lev v=i:=by
 have hlt:i<K.order.length:=by
  by_cases e:i<K.order.length
  ·exact e
  ·rw [List.getElem?_eq_none (by omega)] at hi;cases hi
 have e:K.order.getD i 0=v:=by rw [List.getD_eq_getElem?_getD,hi];rfl
 have:=h.oo i (by rw [<- h.ol];exact hlt)
 rw [e] at this;exact this
theorem KV.Perm.mixO {K:KV} (h:K.Perm) (l:Nat) (a y:Nat->Bool):mixO (K.order.take l) a y=K.mix l a y:=by
 funext v
 simp only [Go.Proofs.YtlkgkojidclncaaGreat.mixO,KV.mix]
 by_cases e:v∈K.order.take l
 ·rw [if_pos e,if_pos (h.mem_take.1 e)]
 ·rw [if_neg e,if_neg fun k=>e (h.mem_take.2 k)]
def KV.tab (K:KV) (r:Nat):TV:=mkT K.vars fun x=>K.den r fun v=>x.testBit v
theorem KV.Ok.den_low {K:KV} (hk:K.Ok) {r:Nat} (ht:K.A.tk r=true) {x y:Nat->Bool} (h:∀ v,v<K.vars->x v=y v):K.den r x=K.den r y :=
 KV.den_same hk.wf hk.ord _ r x y ht (Nat.le_refl _) fun v hv _=>h v hv
theorem KV.Ok.tab_fn {K:KV} (hk:K.Ok) {r:Nat} (ht:K.A.tk r=true) (y:Nat->Bool):(K.tab r).fn y=K.den r y:=by
 unfold KV.tab;rw [mkT_fn]
 exact hk.den_low ht fun v hv=>by rw [idx_bit];simp [hv]
theorem KV.tab_ok {K:KV} (h:K.vars<=16) (r:Nat):(K.tab r).Ok/\(K.tab r).n=K.vars:=⟨mkT_ok _ h,rfl⟩
theorem KV.Ok.tab_eq {K:KV} (hk:K.Ok) (hn:K.vars<=16) {r:Nat} (ht:K.A.tk r=true) {t:TV} (h1:t.Ok) (h2:t.n=K.vars) (h:∀ y,K.den r y=t.fn y):K.tab r=t :=
 TV.fn_ext (KV.tab_ok hn r).1 h1 h2.symm fun y=>by rw [hk.tab_fn ht,h]
theorem KV.Ok.tab_inj {K:KV} (hk:K.Ok) (hu:K.Uni) {r s:Nat} (hr:K.A.tk r=true) (hs:K.A.tk s=true) (e:K.tab r=K.tab s):r=s :=
 KV.canon hk.wf hk.ord hu _ _ _ hr hs (Nat.le_refl _) fun y=>by rw [<- hk.tab_fn hr,<- hk.tab_fn hs,e]
def KV.nodes (K:KV):List Nat:=K.lives.filter fun r=>decide (2<=r)
theorem KV.mem_nodes {K:KV} {r:Nat}:r∈K.nodes↔2<=r/\K.A.tk r=true:=by
 simp only [KV.nodes,List.mem_filter,KV.mem_lives,decide_eq_true_eq];exact And.comm
theorem KV.nodes_nodup (K:KV):K.nodes.Nodup:=List.Pairwise.filter _ K.lives_nodup
theorem KV.Ok.nodes_len {K:KV} (hk:K.Ok):K.nodes.length+2=K.A.used:=by
 rw [<- K.lives_len hk.wf];have h01:=hk.wf.ok.tk01;refine Nat.le_antisymm ?_ ?_
 ·have:(0::1::K.nodes).length<=K.lives.length:=List.Nodup.length_le_of_subset (by
   rw [List.nodup_cons,List.nodup_cons]
   exact ⟨by simp [KV.mem_nodes],by simp [KV.mem_nodes],K.nodes_nodup⟩) (by
   intro x hx
   rcases List.mem_cons.1 hx with rfl | hx
   ·exact KV.mem_lives.2 h01.1
   ·rcases List.mem_cons.1 hx with rfl | hx
    ·exact KV.mem_lives.2 h01.2
    ·exact KV.mem_lives.2 (KV.mem_nodes.1 hx).2)
  simpa using this
 ·have:K.lives.length<=(0::1::K.nodes).length:=List.Nodup.length_le_of_subset K.lives_nodup (by
   intro x hx
   have ht:=KV.mem_lives.1 hx
   by_cases h0:x=0
   ·simp [h0]
   ·by_cases h1:x=1
    ·simp [h1]
    ·exact List.mem_cons_of_mem _ (List.mem_cons_of_mem _ (KV.mem_nodes.2 ⟨by omega,ht⟩)))
  simpa using this
structure RootsT (K:KV) (L:List TV):Prop where
 rt:∀ r,0<K.hold r->∃ t,t∈L/\∀ y,K.den r y=t.fn y
 lr:∀ t,t∈L->∃ r,K.A.tk r=true/\∀ y,K.den r y=t.fn y
 ok:∀ t,t∈L->t.Ok/\t.n=K.vars
def SubL (K:KV) (L:List TV) (g:(Nat->Bool)->Bool):Prop:=∃ t,t∈L/\K.SubN t.fn g
theorem mix_mix (K:KV) {l i:Nat} (h:l<=i) (a c y:Nat->Bool):K.mix l a (K.mix i c y)=K.mix i (K.mix l a c) y:=by
 funext v
 simp only [KV.mix]
 by_cases h1:v<K.vars/\K.lev v<l
 ·rw [if_pos h1,if_pos ⟨h1.1,by omega⟩,if_pos h1]
 ·rw [if_neg h1]
  by_cases h2:v<K.vars/\K.lev v<i
  ·rw [if_pos h2,if_pos h2,if_neg h1]
  ·rw [if_neg h2,if_neg h2]
theorem free_above {K:KV} (hp:K.Perm) {g:(Nat->Bool)->Bool}:∀ (i:Nat),i<=K.vars->(∀ v,v<K.vars->K.lev v<i->¬ Hangs g v)->∀ (c y:Nat->Bool),g (K.mix i c y)=g y
 | 0,_,_,c,y=>by congr 1;funext v;simp [KV.mix]
 | i+1,hi,h,c,y=>by
  have ih:=free_above hp i (by omega) (fun v h1 h2=>h v h1 (by omega)) c y;have hv:=hp.oo i (by omega);obtain ⟨v,hve⟩ : ∃ v,K.order.getD i 0=v:=⟨_,rfl⟩;rw [hve] at hv
  have e:K.mix (i+1) c y=upd (K.mix i c y) v (c v):=by
   funext u
   simp only [KV.mix,upd]
   by_cases hu:u=v
   ·subst hu;rw [if_pos rfl,if_pos ⟨hv.1,by omega⟩]
   ·rw [if_neg hu]
    by_cases h1:u<K.vars/\K.lev u<i
    ·rw [if_pos h1,if_pos ⟨h1.1,by omega⟩]
    ·rw [if_neg h1,if_neg]
     rintro ⟨h2,h3⟩;refine hu (hp.inj h2 hv.1 ?_);omega
  have hn:=h v hv.1 (by omega)
  have same:∀ (z:Nat->Bool) (b:Bool),g (upd z v b)=g z:=fun z b=>by
   have e1:g (upd z v true)=g (upd z v false):=by
    by_cases e1:g (upd z v true)=g (upd z v false)
    ·exact e1
    ·exact absurd ⟨z,e1⟩ hn
   have e2:g z=g (upd z v (z v)):=by rw [upd_id]
   rw [e2]
   cases b <;> cases z v <;> simp_all
  rw [e,same,ih]
theorem first_hang {K:KV} (g:(Nat->Bool)->Bool):∀ (k:Nat),(∀ v,v<K.vars->K.lev v<k->¬ Hangs g v)\/∃ v,v<K.vars/\Hangs g v/\∀ u,u<K.vars->K.lev u<K.lev v->¬ Hangs g u
 | 0=>.inl fun v _ h=>by omega
 | k+1=>by
  rcases first_hang g k with h | h
  ·by_cases hh:∃ v,v<K.vars/\K.lev v=k/\Hangs g v
   ·obtain ⟨v,h1,h2,h3⟩:=hh
    exact .inr ⟨v,h1,h3,fun u hu hl=>h u hu (by omega)⟩
   ·refine .inl fun v hv hl hg=>?_
    by_cases e:K.lev v=k
    ·exact hh ⟨v,hv,e,hg⟩
    ·exact h v hv (by omega) hg
  ·exact .inr h
theorem flat_of {K:KV} (hp:K.Perm) {L:List TV} (hL:∀ t,t∈L->t.Ok/\t.n=K.vars) {u:TV} (h1:u.Ok) (h2:u.n=K.vars) (hs:SubL K L u.fn) {v:Nat} (hv:v<K.vars) (hh:Hangs u.fn v) (hno:∀ x,x<K.vars->K.lev x<K.lev v->¬ Hangs u.fn x) :
  u∈flatT L K.order:=by
 obtain ⟨t,ht,l,a,he⟩:=hs;refine (mem_flatT hL fun x hx=>hp.mem_order hx).2 ⟨K.lev v,v,hp.order_at hv,h1,h2,⟨t,ht,K.mix l a (fun _=>false),fun y=>?_⟩,hh⟩
 have hl:l<=K.lev v:=by
  by_cases hl:l<=K.lev v
  ·exact hl
  ·exfalso
   obtain ⟨y,hy⟩:=hh;refine hy ?_;rw [he,he]
   congr 1
   funext x
   simp only [KV.mix,upd]
   by_cases e:x=v
   ·subst e;rw [if_pos ⟨hv,by omega⟩,if_pos ⟨hv,by omega⟩]
   ·simp [e]
 have hlv:=(hp.lo v hv).1;rw [hp.mixO,<- mix_mix K hl,<- he,free_above hp _ (by omega) hno]
theorem KV.Ok.node_hangs {K:KV} (hk:K.Ok) (hu:K.Uni) {r:Nat} (h2:2<=r) (ht:K.A.tk r=true):∃ v,v<K.vars/\K.dep r=K.lev v/\Hangs (K.den r) v/\∀ x,x<K.vars->K.lev x<K.lev v->¬ Hangs (K.den r) x:=by
 obtain ⟨p,v,hp,hpt,hv,hvl,h3,h4,hd⟩:=hk.wf.node_at h2 ht;refine ⟨v,hvl,hd,?_,fun x hx hl=>?_⟩
 ·by_cases hh:Hangs (K.den r) v
  ·exact hh
  ·exfalso
   refine hk.ord.ne r p h2 hp hpt (KV.canon hk.wf hk.ord hu _ _ _ h3 h4 (Nat.le_refl _) fun y=>?_)
   have e:K.den r (upd y v true)=K.den r (upd y v false):=by
    by_cases e:K.den r (upd y v true)=K.den r (upd y v false)
    ·exact e
    ·exact absurd ⟨y,e⟩ hh
   have hvn:p.var.toNat=v:=by omega
   have a1:=KV.den_hi hk.wf hk.ord h2 hp hpt y;have a2:=KV.den_lo hk.wf hk.ord h2 hp hpt y;rw [hvn] at a1 a2;rw [<- a1,<- a2,e]
 ·rintro ⟨y,hy⟩
  refine hy ?_;rw [KV.den_upd hk.wf hk.ord ht hx (by omega),KV.den_upd hk.wf hk.ord ht hx (by omega)]
theorem RootsT.sub {K:KV} {L:List TV} (h:RootsT K L) (hk:K.Ok) {r:Nat} (hr:K.Reach r):SubL K L (K.den r):=by
 have key:∀ {r:Nat},K.Reach r->∃ t,t∈L/\∃ a,∀ y,K.den r y=t.fn (K.mix (K.dep r) a y):=by
  intro r hr
  induction hr with
  | root h0 =>
   obtain ⟨t,ht,he⟩:=h.rt _ h0;refine ⟨t,ht,fun _=>false,fun y=>?_⟩;rw [<- he]
   refine KV.den_same hk.wf hk.ord _ _ _ _ (hk.wf.ht _ h0).2 (Nat.le_refl _) fun v hv hd=>?_
   simp only [KV.mix];rw [if_neg (by omega)]
  | @lo q p hq h2 hp hpt ih =>
   obtain ⟨t,ht,a,he⟩:=ih;obtain ⟨_,v,hp',_,hv,hvl,h3,h4,hd⟩:=hk.wf.node_at h2 (ArenaV.tk_iff.2 ⟨p,hp,hpt⟩)
   rw [hp] at hp';cases hp'
   have hvn:p.var.toNat=v:=by omega
   have hb:=hk.ord.below hk.wf h2 hp hpt;refine ⟨t,ht,K.mix (K.dep q) a (upd (fun _=>false) v false),fun y=>?_⟩
   have e1:K.den p.lo y=K.den p.lo (K.mix (K.dep p.lo) (fun _=>false) y):=KV.den_same hk.wf hk.ord _ _ _ _ h3 (Nat.le_refl _) fun x hx hdx=>by
    simp only [KV.mix];rw [if_neg (by omega)]
   rw [e1,<- KV.den_lo hk.wf hk.ord h2 hp hpt,he,<- mix_mix K (by omega)]
   congr 1
   funext x
   simp only [KV.mix,upd,hvn]
   by_cases h5:x<K.vars/\K.lev x<K.dep q
   ·rw [if_pos h5,if_pos h5]
   ·rw [if_neg h5,if_neg h5]
    by_cases e:x=v
    ·subst e;rw [if_pos rfl,if_pos ⟨hvl,by omega⟩,if_pos rfl]
    ·rw [if_neg e]
     by_cases h6:x<K.vars/\K.lev x<K.dep p.lo
     ·rw [if_pos h6,if_pos h6,if_neg e]
     ·rw [if_neg h6,if_neg h6]
  | @hi q p hq h2 hp hpt ih =>
   obtain ⟨t,ht,a,he⟩:=ih;obtain ⟨_,v,hp',_,hv,hvl,h3,h4,hd⟩:=hk.wf.node_at h2 (ArenaV.tk_iff.2 ⟨p,hp,hpt⟩)
   rw [hp] at hp';cases hp'
   have hvn:p.var.toNat=v:=by omega
   have hb:=hk.ord.below hk.wf h2 hp hpt;refine ⟨t,ht,K.mix (K.dep q) a (upd (fun _=>false) v true),fun y=>?_⟩
   have e1:K.den p.hi y=K.den p.hi (K.mix (K.dep p.hi) (fun _=>false) y):=KV.den_same hk.wf hk.ord _ _ _ _ h4 (Nat.le_refl _) fun x hx hdx=>by
    simp only [KV.mix];rw [if_neg (by omega)]
   rw [e1,<- KV.den_hi hk.wf hk.ord h2 hp hpt,he,<- mix_mix K (by omega)]
   congr 1
   funext x
   simp only [KV.mix,upd,hvn]
   by_cases h5:x<K.vars/\K.lev x<K.dep q
   ·rw [if_pos h5,if_pos h5]
   ·rw [if_neg h5,if_neg h5]
    by_cases e:x=v
    ·subst e;rw [if_pos rfl,if_pos ⟨hvl,by omega⟩,if_pos rfl]
    ·rw [if_neg e]
     by_cases h6:x<K.vars/\K.lev x<K.dep p.hi
     ·rw [if_pos h6,if_pos h6,if_neg e]
     ·rw [if_neg h6,if_neg h6]
 obtain ⟨t,ht,a,he⟩:=key hr;exact ⟨t,ht,K.dep r,a,he⟩
theorem KV.tab_flat {K:KV} (hk:K.Ok) (hu:K.Uni) (hn:K.vars<=16) {L:List TV} (hL:∀ t,t∈L->t.Ok/\t.n=K.vars) {r:Nat} (h2:2<=r) (ht:K.A.tk r=true) (hs:SubL K L (K.den r)):K.tab r∈flatT L K.order:=by
 obtain ⟨v,hv,_,hh,hno⟩:=hk.node_hangs hu h2 ht
 have e:(K.tab r).fn=K.den r:=funext fun y=>hk.tab_fn ht y
 exact flat_of hk.ord.pm hL (KV.tab_ok hn r).1 rfl (by rw [e];exact hs) hv (by rw [e];exact hh) (by rw [e];exact hno)
theorem RootsT.mem {K:KV} {L:List TV} (h:RootsT K L) (hk:K.Ok) (hu:K.Uni) (hn:K.vars<=16) {u:TV}:u∈flatT L K.order↔∃ r,2<=r/\K.A.tk r=true/\K.tab r=u:=by
 constructor
 ·intro hm
  obtain ⟨i,v,h1,a1,a2,⟨t,ht,a,he⟩,hh⟩:=(mem_flatT h.ok fun x hx=>hk.ord.pm.mem_order hx).1 hm;obtain ⟨f,tf,hf⟩:=h.lr t ht;obtain ⟨x,tx,hx⟩:=KV.sub_live hk i a _ f (Nat.le_refl _) tf
  have hd:∀ y,K.den x y=u.fn y:=fun y=>by rw [hx,hf,he,hk.ord.pm.mixO]
  refine ⟨x,?_,tx,hk.tab_eq hn tx a1 a2 hd⟩
  by_cases h2:2<=x
  ·exact h2
  ·exfalso
   obtain ⟨y,hy⟩:=hh;refine hy ?_;rw [<- hd,<- hd,K.den_const (by omega),K.den_const (by omega)]
 ·rintro ⟨r,h2,ht,rfl⟩
  exact KV.tab_flat hk hu hn h.ok h2 ht (h.sub hk (KV.live_reach hk.wf hk.pos hk.ord _ r h2 ht (Nat.le_refl _)))
theorem RootsT.used {K:KV} {L:List TV} (h:RootsT K L) (hk:K.Ok) (hu:K.Uni) (hn:K.vars<=16):K.A.used=(flatT L K.order).length+2:=by
 rw [<- hk.nodes_len];have nd:(K.nodes.map K.tab).Nodup:=List.pairwise_map.2 (List.Pairwise.imp_of_mem (fun {a b} ha hb hne e=>hne (hk.tab_inj hu (KV.mem_nodes.1 ha).2 (KV.mem_nodes.1 hb).2 e)) K.nodes_nodup)
 have e:(K.nodes.map K.tab).length=(flatT L K.order).length:=by
  refine Nat.le_antisymm (List.Nodup.length_le_of_subset nd fun u hm=>?_) (List.Nodup.length_le_of_subset (flatT_nodup h.ok fun x hx=>hk.ord.pm.mem_order hx) fun u hm=>?_)
  ·obtain ⟨r,hr,rfl⟩:=List.mem_map.1 hm
   obtain ⟨h2,ht⟩:=KV.mem_nodes.1 hr;exact (h.mem hk hu hn).2 ⟨r,h2,ht,rfl⟩
  ·obtain ⟨r,h2,ht,rfl⟩:=(h.mem hk hu hn).1 hm
   exact List.mem_map.2 ⟨r,KV.mem_nodes.2 ⟨h2,ht⟩,rfl⟩
 rw [List.length_map] at e;omega
def NoFitW (K0:KV) (S:((Nat->Bool)->Bool)->Prop):Prop :=
 ∃ (K:KV) (g:(Nat->Bool)->Bool),K.Ok/\K.Uni/\K0.Ext K/\(∀ x,K.A.tk x=true->K0.A.tk x=false->S (K.den x))/\K.A.used=K.A.places/\S g/\∀ x,K.A.tk x=true->¬ ∀ y,K.den x y=g y
theorem NoFit.weak {K0:KV} {S:((Nat->Bool)->Bool)->Prop} (h:NoFit K0 S):NoFitW K0 S:=by
 obtain ⟨K1,M,g,k1,u1,R,hus,hg,hx⟩:=h;exact ⟨K1,g,k1,u1,R.ext,R.new,hus,hg,hx⟩
theorem RootsT.nofit {K:KV} {L:List TV} (h:RootsT K L) (hk:K.Ok) (hn:K.vars<=16) {t:TV} (ht:t.Ok) (htn:t.n=K.vars) (hno:NoFitW K (K.SubN t.fn)):K.A.places<(flatT (L++[t]) K.order).length+2:=by
 obtain ⟨K1,g,k1,u1,ext,new,hus,hg,hx⟩:=hno
 have hL:∀ s,s∈L++[t]->s.Ok/\s.n=K.vars:=fun s hs=>by
  rcases List.mem_append.1 hs with hs | hs
  ·exact h.ok s hs
  ·simp at hs;subst hs;exact ⟨ht,htn⟩
 have hL1:∀ s,s∈L++[t]->s.Ok/\s.n=K1.vars:=fun s hs=>by rw [ext.vr];exact hL s hs
 have hn1:K1.vars<=16:=by rw [ext.vr];exact hn
 have sub1:∀ {g:(Nat->Bool)->Bool} {s:TV},K.SubN s.fn g->K1.SubN s.fn g:=fun {g s} ⟨l,a,he⟩=>⟨l,a,fun y=>by rw [he,ext.mix]⟩
 have hsub:∀ r,2<=r->K1.A.tk r=true->SubL K1 (L++[t]) (K1.den r):=fun r h2 htk=>by
  by_cases h0:K.A.tk r=true
  ·obtain ⟨s,hs,hh⟩:=h.sub hk (KV.live_reach hk.wf hk.pos hk.ord _ r h2 h0 (Nat.le_refl _))
   have e:K1.den r=K.den r:=funext fun y=>ext.den hk.wf y h0
   rw [e];exact ⟨s,by simp [hs],sub1 hh⟩
  ·exact ⟨t,by simp,sub1 (new r htk (by simpa using h0))⟩
 obtain ⟨l,a,he⟩:=hg
 have hlow:∀ x y:Nat->Bool,(∀ v,v<K1.vars->x v=y v)->g x=g y:=fun x y hxy=>by
  rw [he,he]
  refine TV.fn_same t fun v hv=>?_
  simp only [KV.mix]
  rw [htn,<- ext.vr] at hv;rw [hxy v hv]
 obtain ⟨u,hud⟩ : ∃ u:TV,u=mkT K1.vars fun x=>g fun v=>x.testBit v:=⟨_,rfl⟩
 have huf:u.fn=g:=by
  funext y
  rw [hud,mkT_fn]
  exact hlow _ _ fun v hv=>by rw [idx_bit];simp [hv]
 have huo:u.Ok:=by rw [hud];exact mkT_ok _ hn1
 have hun:u.n=K1.vars:=by rw [hud];rfl
 have hmem:u∈flatT (L++[t]) K1.order:=by
  rcases first_hang (K:=K1) g K1.vars with hc | ⟨v,hv,hh,hfree⟩
  ·exfalso
   have hconst:∀ y,g y=g fun _=>false:=fun y=>by
    have e1:=free_above k1.ord.pm (g:=g) K1.vars (Nat.le_refl _) hc (fun _=>false) y;rw [<- e1]
    exact hlow _ _ fun v hv=>by simp only [KV.mix];rw [if_pos ⟨hv,(k1.ord.pm.lo v hv).1⟩]
   cases hb:g fun _=>false with
   | true=>exact hx 1 k1.wf.ok.tk01.2 fun y=>by rw [hconst,hb,K1.den_const (by omega)];rfl
   | false=>exact hx 0 k1.wf.ok.tk01.1 fun y=>by rw [hconst,hb,K1.den_const (by omega)];rfl
  ·exact flat_of k1.ord.pm hL1 huo hun ⟨t,by simp,l,a,fun y=>by rw [huf,he,ext.mix]⟩ hv (by rw [huf];exact hh) (by rw [huf];exact hfree)
 have nd:(u::K1.nodes.map K1.tab).Nodup:=by
  rw [List.nodup_cons];refine ⟨fun hm=>?_,List.pairwise_map.2 (List.Pairwise.imp_of_mem (fun {a b} ha hb hne e=>hne (k1.tab_inj u1 (KV.mem_nodes.1 ha).2 (KV.mem_nodes.1 hb).2 e)) K1.nodes_nodup)⟩;obtain ⟨r,hr,e⟩:=List.mem_map.1 hm;obtain ⟨h2,htk⟩:=KV.mem_nodes.1 hr
  refine hx r htk fun y=>?_
  rw [<- huf,<- e,k1.tab_fn htk]
 have hle:=List.Nodup.length_le_of_subset nd (l₂:=flatT (L++[t]) K1.order) fun z hz=>by
  rcases List.mem_cons.1 hz with rfl | hz
  ·exact hmem
  ·obtain ⟨r,hr,rfl⟩:=List.mem_map.1 hz
   obtain ⟨h2,htk⟩:=KV.mem_nodes.1 hr;exact KV.tab_flat k1 u1 hn1 hL1 h2 htk (hsub r h2 htk)
 rw [List.length_cons,List.length_map,ext.od] at hle;have h5:=k1.nodes_len;have h6:=ext.pl;omega
end Go.Proofs.YtlkgkojidclncaaGreat
namespace Go.Proofs.YtlkgkojidclncaaGreat
open Go.RowKit Go.Maps Go.ChangeMaps Go.WideShapes
theorem Upd.cell0 {w w':World} (u:Upd [] w w') {a:Addr} {v:Value} (h:w.cell? a=some v):w'.cell? a=some v:=(u.cell (World.block_lt_of_cell? _ _ h) (by simp)).trans h
structure MV where
 n:Nat
 c:Nat
 order:List Nat
 held:List (TV × Nat)
 trail:List Nat
structure Same (K:KV) (M:MV):Prop where
 od:M.order=K.order
 n:M.n=K.vars
end Go.Proofs.YtlkgkojidclncaaGreat
namespace Go.Proofs.YtlkgkojidclncaaGreat
open Go.RowKit Go.Maps Go.ChangeMaps Go.WideShapes Go.Shelf
attribute [local go_sem] Oper.semAt_some
structure Came (D:DM) (left:Lit->Bool) (ps:List (Lit × Int)):Prop where
 nd:(ps.map (·.1)).Nodup
 at_:∀ p,p∈ps->∀ z,D.atKey p.1 z=.lit (.int .u32 p.2)
 mem:∀ k,k∈ps.map (·.1)↔(Maps.has D k=true/\left k=false)
theorem Came.start (D:DM):Came D (Maps.has D) []:=⟨by simp,by simp,fun k=>by cases Maps.has D k <;> simp⟩
theorem Came.step {D:DM} {left:Lit->Bool} {ps:List (Lit × Int)} (h:Came D left ps) {k:Lit} {c:Int} (hk:WideAt.IsKeyLit k) (hl:left k=true) (hat:∀ z,D.atKey k z=.lit (.int .u32 c)):Came D (fun z=>left z&&!z.sameKey k) (ps++[(k,c)]):=by
 have hh:Maps.has D k=true:=has_true_of_atKey hat;refine ⟨?_,fun p hp=>?_,fun z=>?_⟩
 ·rw [List.map_append,List.nodup_append]
  refine ⟨h.nd,by simp,fun a ha b hb=>?_⟩
  simp at hb;subst hb
  rintro rfl;have:=((h.mem a).1 ha).2
  rw [hl] at this;cases this
 ·rcases List.mem_append.1 hp with hp | hp
  ·exact h.at_ p hp
  ·simp at hp;subst hp;exact hat
 ·rw [List.map_append,List.mem_append,h.mem]
  by_cases e:z=k
  ·subst e;simp [hh,WideAt.sameKey_self hk]
  ·simp [e,sameKey_ne e]
def AllVals (D:DM) (l:List Int):Prop:=∃ ps:List (Lit × Int),(ps.map (·.1)).Nodup/\(∀ p,p∈ps->∀ z,D.atKey p.1 z=.lit (.int .u32 p.2))/\(∀ k,k∈ps.map (·.1)↔Maps.has D k=true)/\l=ps.map (·.2)
theorem Came.all {D:DM} {left:Lit->Bool} {ps:List (Lit × Int)} (h:Came D left ps) (hl:∀ k,left k=false):AllVals D (ps.map (·.2)):=⟨ps,h.nd,h.at_,fun k=>by rw [h.mem,hl];simp,rfl⟩
theorem key_isKey {key:Value} {kl:Lit} (h:keyOf Tryz.prog 95 key=some kl):WideAt.IsKeyLit kl:=by
 unfold keyOf at h;rw [Tryz.underlying95] at h
 simp at h
 obtain ⟨_,ls,_,rfl⟩:=h
 trivial
theorem values1_in (n:Nat) (hn:1<=n) (l Bm b nn:Nat) (D:DM) (J Jx:List Int->World->Prop)
  (hY:∀ pre x W,J pre W->pre.length<Maps.size D->YieldAt Fence.wide (n-1) Tryz.prog l #[.int .u32 x] W fun e W' =>
   (e=.returned (.bool true)/\J (pre++[x]) W'/\KeepsWalks W W')\/(e=.returned (.bool false)/\Jx (pre++[x]) W'))
  (W:World) (hJ:AbidesFrom W.heap.size J) (hm:W.cell? ⟨Bm,0,none⟩=some (.map (some b))) (hown:W.ownsMap Tryz.prog 95 (plainElem Tryz.prog 62) b nn D) (h0:J [] W) :
  CallsIn Fence.wide n Tryz.prog 256 #[.func (.yield l) #[] #[],.pointer (some ⟨Bm,0,none⟩)] W fun e W'=>(∃ v,e=.returned v) /\
   ((∃ xs,AllVals D xs/\J xs W')\/(∃ pre,True/\Jx pre W')):=by
 refine callsIn_of_wp Tryz.func256 rfl trivial ?_ rfl
 simp only [Tryz.ntmps256,List.size_toArray,List.length_cons,List.length_nil,Nat.reduceAdd,Nat.reduceSub,Array.replicate_succ,Array.replicate_zero,List.push_toArray,List.append_toArray,List.nil_append,List.cons_append]
 gi_wp2_with (first
  | (gi_at_range;refine wpListIn_range_own _ rfl _ 208 rfl 95 62 nodeKeyed Tryz.underlying208 _ b nn _ rfl hown ?_;intro w0 hrg0 hg0 hs0)
  | gi_in)
 go_frame
 gi_loopw [4] (fun _ wr=>∃ (left:Lit->Bool) (cnt:Nat) (ps:List (Lit × Int)),wr.ranges Tryz.prog 95 (plainElem Tryz.prog 62) b W.heap.size nn D left cnt/\ps.length+cnt<=Maps.size D/\Came D left ps/\J (ps.map (·.2)) wr)
  (fun _ wr=>wr.rangeLeft b W.heap.size)
 case atStart =>
  exact ⟨_,_,[],hrg0,by simp,Came.start D,hJ [] W w0 none h0 hg0 (fun r e=>by cases e)⟩
 case round =>
  obtain ⟨left,cnt,ps,hrg,hcs,hC,hJs⟩:=hrel
  gi_wp2_with (first
   | (gi_at_next;refine wpListIn_next_ranges _ rfl _ rfl 95 nodeKeyed (plainElem Tryz.prog 62) id (Value.int .u32) (fun key kl hk=>⟨key,rfl⟩) (fun v y hv=>by obtain ⟨c,rfl,_⟩:=plainElem_int_inv Tryz.underlying62 hv;exact ⟨c,rfl⟩) b W.heap.size nn _ _ _ rfl hrg ?_ ?_)
   | gi_in)
  ·intro hc0 hl0
   gi_wp2
   go_end0;exact ⟨⟨_,rfl⟩,.inl ⟨_,hC.all hl0,hJs⟩⟩
  ·intro x c kl yd yp w2 cnt2 hkey hlk hv hat hrg2 hlt hg2 hs2 hen
   obtain ⟨c',ec,ez,_⟩:=plainElem_int_inv Tryz.underlying62 hv
   obtain rfl:c=c':=by simpa using ec
   obtain rfl:yd=.lit (.int .u32 c):=(Prod.mk.inj ez).1;have hJ2:J (ps.map (·.2)) w2:=hJ _ wr w2 (some W.heap.size) hJs hg2 (fun r e=>by cases e;exact ⟨Nat.le_refl _,hrg.iter_walk⟩);obtain ⟨fn,tmps,assign,body,hy,hR⟩:=hY (ps.map (·.2)) c w2 hJ2 (by simp;omega);clear hs2
   gi_wp2
   refine hR.mono ?_;have hC2:=hC.step (key_isKey hkey) hlk hat;rintro e W3 (⟨rfl,hJ3,hk3⟩ | ⟨rfl,hJx3⟩)
   ·gi_wp2
    have hrg3:=hrg2.of_walks hk3
    go_roundw
    case rel=>exact ⟨_,cnt2,ps++[(kl,c)],hrg3,by simp;omega,hC2,by simpa using hJ3⟩
    case measure=>rw [hrg3.left_eq,hrg.left_eq];exact hlt
   ·gi_wp2
    refine bodyPost_ret (results_none rfl _ _ _) rfl ?_;exact ⟨⟨_,rfl⟩,.inr ⟨_,trivial,hJx3⟩⟩
theorem values_in (n:Nat) (mb:Option Nat) (w:World) :
  CallsIn Fence.wide n Tryz.prog 248 #[.map mb] w fun e w'=>e=.returned (.func (.func 256) #[] #[.pointer (some ⟨w.heap.size,0,none⟩)])/\w'=w.alloc (.cells #[.map mb] 208):=by
 refine callsIn_of_wp Tryz.func248 rfl trivial ?_ rfl
 simp only [Tryz.ntmps248,List.size_toArray,List.length_cons,List.length_nil,Nat.reduceAdd,Nat.reduceSub,Array.replicate_succ,Array.replicate_zero,List.push_toArray,List.append_toArray,List.nil_append,List.cons_append]
 gi_wp2
 go_ret;exact ⟨rfl,rfl⟩
theorem values_stops (n:Nat) (hn:1<=n) (Bm b nn:Nat) (D:DM) (w:World) (hBm:Bm<w.heap.size) (hm:w.cell? ⟨Bm,0,none⟩=some (.map (some b))) (hown:w.ownsMap Tryz.prog 95 (plainElem Tryz.prog 62) b nn D) :
  SeqStopsK Fence.wide n Tryz.prog 256 #[.pointer (some ⟨Bm,0,none⟩)] (fun x:Int=>#[Value.int .u32 x]) KeepsWalks (AllVals D) (fun _=>True) (Maps.size D) w:=fun l J Jx W hW hJ _ hY h0=>by
 have hown':W.ownsMap Tryz.prog 95 (plainElem Tryz.prog 62) b nn D:=own_keep hown (hW.block b hown.lt);exact values1_in n hn l Bm b nn D J Jx hY W hJ ((hW.cell (p:=⟨Bm,0,none⟩) hBm).trans hm) hown' h0
attribute [local go_sem] Oper.semAt_some
theorem Tryz.infoRefE:(Tryz.prog.info? 62).map (fun i=>(i.zero,i.size,i.bytes))=some (some (.int .u32 0),1,4):=by kernel_rfl
structure GatherQ (D:DM) (n0:Nat) (w:World) (e:Ending) (w':World):Prop where
 ex:∃ (v:Value) (l:List Int),e=.returned v/\AllVals D l/\w'.ownsRow n0 62 1 v l.length (l.map (Value.int .u32))/\Below w.heap.size w w'
theorem appendSeq_in (n:Nat) (hn:3<=n) (Bm b nn:Nat) (D:DM) (w:World) (hBm:Bm<w.heap.size) (hm:w.cell? ⟨Bm,0,none⟩=some (.map (some b))) (hown:w.ownsMap Tryz.prog 95 (plainElem Tryz.prog 62) b nn D) (hsz:Maps.size D<=1048576) :
  CallsIn Fence.wide n Tryz.prog 257 #[.slice none 0 0,.func (.func 256) #[] #[.pointer (some ⟨Bm,0,none⟩)]] w fun e w'=>GatherQ D w.heap.size w e w':=by
 have h1:1<=n:=by omega
 obtain ⟨i0,hi,hz0,hz1,hz2⟩:=info_parts Tryz.infoRefE;refine callsIn_of_wp_marks Tryz.func257 rfl trivial ?_ rfl
 simp only [Tryz.ntmps257,List.size_toArray,List.length_cons,List.length_nil,Nat.reduceAdd,Nat.reduceSub,Array.replicate_succ,Array.replicate_zero,List.push_toArray,List.append_toArray,List.nil_append,List.cons_append]
 gi_wp2
 have bO:=Boxed.new w 39 (.slice none 0 0);have hB0:Below w.heap.size w (w.alloc (.cells #[.slice none 0 0] 39)):=(Below.refl _ w).alloc (Nat.le_refl _) _;have hm1:(w.alloc (.cells #[.slice none 0 0] 39)).cell? ⟨Bm,0,none⟩=some (.map (some b)):=(hB0.cell (p:=⟨Bm,0,none⟩) hBm).trans hm;have hown1:(w.alloc (.cells #[.slice none 0 0] 39)).ownsMap Tryz.prog 95 (plainElem Tryz.prog 62) b nn D:=own_keep hown (hB0.block b hown.lt)
 refine wpIn_rangeFunc_ownG rfl h1 (gf:=256) (lb:=#[.pointer (some ⟨Bm,0,none⟩)]) rfl trivial (enters_of Tryz.func256 (by kernel_rfl) rfl)
  (values_stops (n-1) (by omega) Bm b nn D _ (by simp;omega) hm1 hown1) walksK_t walksK_b (Below.refl _ _) (fun _=>rfl)
  (fun pre W=>(∃ v,Boxed W w.heap.size 39 v/\W.ownsRow w.heap.size 62 1 v pre.length (pre.map (Value.int .u32))/\True)/\Below w.heap.size w W)
  (fun _ _ _=>False)
  (OwnFrom.and (Own.from (holdsRow_own w.heap.size w.heap.size 39 62 1 (fun pre:List Int=>pre.length) (fun pre=>pre.map (Value.int .u32)) (fun _ _=>True)) _) (ownFrom_below (Nat.le_refl _) (by simp)))
  (fun _ _ _ _ _ hs _ _=>hs)
  ⟨⟨_,bO,World.ownsRow_nil _ _ _ _,trivial⟩,hB0⟩
  (fun x=>{ tmps:=#[.slice none 0 0,.func (.func 256) #[] #[.pointer (some ⟨Bm,0,none⟩)],.pointer (some ⟨w.heap.size,0,none⟩),undef,.slice none 0 0,.int .u32 x,.func (.func 256) #[] #[.pointer (some ⟨Bm,0,none⟩)],.int .u32 x,undef,undef,undef,undef,undef],defers:=[] }) ?assign ?body ?done ?stop
 case assign =>
  intro l x W K hK
  gi_wp2
  exact hK
 case body =>
  rintro l pre x W ⟨⟨v,hv,hrow,_⟩,hB⟩ hlt;have hc:=hv.cell
  gi_wp2_with (gi_at_builtin;refine wpListIn_append_own _ rfl _ _ 39 rfl w.heap.size 62 i0 (.int .u32 0) 1 4 Tryz.underlying39 hi hz0 hz1 hz2 rfl (by decide) _ _ _ rfl (hrow.alloc _) ⟨W.heap.size,0,none⟩ 1 1 [.int .u32 x] rfl rfl (cell_one_new _ _ _) (by simp [Value.oneCell']) (by unfold maxLen;omega) (by omega) (by have:=hB.size;simp;omega) ?_;intro v' w1 hown' hgrow _;obtain ⟨g',cap',rfl⟩:=ownsRow_succ hown';obtain ⟨hv1,hv2,hr2,hk2,hb2⟩:=hv.appended (by decide) hrow hB.size (Nat.le_refl _) hown' hgrow;have hc1:=hv1.cell;have hf1:=hv1.frozen)
  exact ⟨hk2.from _,hk2.walks,⟨_,hv2,by simpa using hr2,trivial⟩,hB.trans hb2⟩
 case done =>
  rintro Dd ys W hD hys ⟨⟨v,hv,hrow,_⟩,hB⟩ hK;have hc:=hv.cell
  gi_wp2
  refine ⟨by simp,.inl ⟨_,_,rfl,run_takeDeferred hK,?_⟩⟩;exact ⟨_,results_tmp rfl _ _ _,v,ys,rfl,hys,ownsRow_putObj hrow _ hK rfl,hB.trans (belowK_b (w:=w) (Nat.le_refl _) W Dd _ _ (by simp at hD;omega) hK rfl rfl)⟩
 case stop =>
  rintro Dd c pre W _ _ h _;exact h.elim
theorem collect_in (n:Nat) (hn:4<=n) (Bm b nn:Nat) (D:DM) (w:World) (hBm:Bm<w.heap.size) (hm:w.cell? ⟨Bm,0,none⟩=some (.map (some b))) (hown:w.ownsMap Tryz.prog 95 (plainElem Tryz.prog 62) b nn D) (hsz:Maps.size D<=1048576) :
  CallsIn Fence.wide n Tryz.prog 254 #[.func (.func 256) #[] #[.pointer (some ⟨Bm,0,none⟩)]] w fun e w'=>GatherQ D w.heap.size w e w':=by
 refine callsIn_of_wp Tryz.func254 rfl trivial ?_ rfl
 simp only [Tryz.ntmps254,List.size_toArray,List.length_cons,List.length_nil,Nat.reduceAdd,Nat.reduceSub,Array.replicate_succ,Array.replicate_zero,List.push_toArray,List.append_toArray,List.nil_append,List.cons_append]
 gi_wp2
 refine ⟨trivial,fun _=>by omega,?_⟩;refine (appendSeq_in (n-1) (by omega) Bm b nn D _ hBm hm hown hsz).mono ?_;rintro e w' hE;obtain ⟨v,l,rfl,hl,hr,hB⟩:=hE.ex;clear hE
 gi_wp2
 go_ret;exact ⟨v,l,rfl,hl,hr,hB⟩
end Go.Proofs.YtlkgkojidclncaaGreat
namespace Go.Proofs.YtlkgkojidclncaaGreat
open Go.RowKit Go.Maps Go.ChangeMaps Go.WideShapes
theorem len64_zero (w:World):Calls Tryz.prog 270 #[.int .u64 0] w fun e w'=>(∃ c:Int,e=.returned (.int .i64 c))/\w'=w:=by
 go_enter Tryz.func270,Tryz.ntmps270
 go_wp2_with fail;go_ret;exact ⟨⟨_,rfl⟩,rfl⟩
theorem len_zero (w:World):Calls Tryz.prog 259 #[.int .u64 0] w fun e w'=>(∃ c:Int,e=.returned (.int .i64 c))/\w'=w:=by
 go_enter Tryz.func259,Tryz.ntmps259
 go_wp2_with fail;refine (len64_zero _).mono ?_;rintro e w1 ⟨⟨c,rfl⟩,rfl⟩;go_wp2_with fail;go_ret;exact ⟨⟨_,rfl⟩,rfl⟩
theorem insSort_empty (a:Option Addr) (c:Nat) (w:World):Calls Tryz.prog 260 #[.slice a 0 c,.int .i64 0,.int .i64 0] w fun e w'=>e=.returned (.tuple #[])/\w'=w:=by
 go_enter Tryz.func260,Tryz.ntmps260
 go_wp2_with fail
 go_loopg [6] 0 (fun gg s6 wr=>gg=0/\s6=.int .i64 1/\wr=w)
 case atStart=>exact ⟨rfl,rfl,rfl⟩
 case round =>
  obtain ⟨rfl,rfl,rfl⟩:=hrel;go_wp2_with fail;go_end0;exact ⟨rfl,rfl⟩
theorem pdq_empty (a:Option Addr) (c:Nat) (l:Int) (w:World):Calls Tryz.prog 258 #[.slice a 0 c,.int .i64 0,.int .i64 0,.int .i64 l] w fun e w'=>e=.returned (.tuple #[])/\w'=w:=by
 go_enter Tryz.func258,Tryz.ntmps258
 go_wp2_with fail
 go_loopg [1,2,3] 0 (fun gg s1 s2 s3 wr=>gg=0/\s1=.int .i64 0/\s2=.int .i64 0/\wr=w)
 case atStart=>exact ⟨rfl,rfl,rfl,rfl⟩
 case round =>
  obtain ⟨rfl,rfl,rfl,rfl⟩:=hrel;go_wp2_with fail;refine (insSort_empty a c _).mono ?_;rintro e w1 ⟨rfl,rfl⟩;go_wp2_with fail;refine bodyPost_ret (results_none rfl _ _ _) rfl ?_;exact ⟨rfl,rfl⟩
theorem sort_empty (a:Option Addr) (c:Nat) (w:World):Calls Tryz.prog 255 #[.slice a 0 c] w fun e w'=>e=.returned (.tuple #[])/\w'=w:=by
 go_enter Tryz.func255,Tryz.ntmps255
 go_wp2_with fail;refine (len_zero _).mono ?_;rintro e w1 ⟨⟨l,rfl⟩,rfl⟩;go_wp2_with fail;refine (pdq_empty a c l _).mono ?_;rintro e w2 ⟨rfl,rfl⟩;go_wp2_with fail;go_end0;exact ⟨rfl,rfl⟩
theorem collect_calls (Bm b nn:Nat) (D:DM) (w:World) (hBm:Bm<w.heap.size) (hm:w.cell? ⟨Bm,0,none⟩=some (.map (some b))) (hown:w.ownsMap Tryz.prog 95 (plainElem Tryz.prog 62) b nn D) (hsz:Maps.size D<=1048576) :
  Calls Tryz.prog 254 #[.func (.func 256) #[] #[.pointer (some ⟨Bm,0,none⟩)]] w fun e w'=>GatherQ D w.heap.size w e w' :=
 callsIn_wide.1 (collect_in 10 (by omega) Bm b nn D w hBm hm hown hsz)
theorem values_calls (mb:Option Nat) (w:World) :
  Calls Tryz.prog 248 #[.map mb] w fun e w'=>e=.returned (.func (.func 256) #[] #[.pointer (some ⟨w.heap.size,0,none⟩)])/\w'=w.alloc (.cells #[.map mb] 208) :=
 callsIn_wide.1 (values_in 10 mb w)
theorem below_upd {n:Nat} {w w':World} (h:Below n w w') (hn:w.heap.size<=n):Upd [] w w' :=
 ⟨h.os,h.tape,h.output,h.size,fun k hk _=>h.block k (by omega)⟩
theorem flatN_set (l:List Nat) (r n:Nat):(flatN l).set r (.int .i64 n)=flatN (l.set r n):=by simp [flatN,List.map_set]
theorem KerMem.setOrder {w:World} {b g n' c r n:Nat} {K:KV} {T:List DM} {q:KPtr} (h:KerMem w b K T q) (hq:q.ov=.slice (some ⟨g,0,none⟩) n' c) (hr:r<K.order.length) :
  KerMem (w.setCell ⟨g,r,none⟩ (.int .i64 n)) b { K with order:=K.order.set r n } T q:=by
 have hg:q.o g=5:=h.oo g (by rw [hq];rfl)
 have hne:∀ {k c},q.o k=c->c≠5->k≠g:=fun {k c} hk hc hm=>hc (by rw [<- hk,hm,hg])
 have hk:∀ {k c},q.o k=c->c≠5->(w.setCell ⟨g,r,none⟩ (.int .i64 n)).heap[k]?=w.heap[k]?:=fun hk hc=>heap_set_ne (hne hk hc)
 refine ⟨by rw [hk h.ob (by omega)];exact h.blk,h.ar.keep fun k hm=>hk (h.oa k hm) (by omega),h.tab.keep fun k hm=>hk (h.ot k hm) (by omega),row_keep h.us fun k hm=>hk (h.ou k hm) (by omega),
  row_keep h.hs fun k hm=>hk (h.oh k hm) (by omega),?_,row_keep h.ls fun k hm=>hk (h.ol k hm) (by omega),row_keep h.ts fun k hm=>hk (h.ox k hm) (by omega),
  h.ob,h.oa,h.ot,h.ou,h.oh,h.oo,h.ol,h.ox⟩
 have hu:=h.os;rw [hq] at hu ⊢;have:=row_set hu (j:=r) (by omega) (.int .i64 n);rw [flatN_set] at this
 simpa using this
theorem KerMem.setLevel {w:World} {b g n' c r n:Nat} {K:KV} {T:List DM} {q:KPtr} (h:KerMem w b K T q) (hq:q.lv=.slice (some ⟨g,0,none⟩) n' c) (hr:r<K.level.length) :
  KerMem (w.setCell ⟨g,r,none⟩ (.int .i64 n)) b { K with level:=K.level.set r n } T q:=by
 have hg:q.o g=6:=h.ol g (by rw [hq];rfl)
 have hne:∀ {k c},q.o k=c->c≠6->k≠g:=fun {k c} hk hc hm=>hc (by rw [<- hk,hm,hg])
 have hk:∀ {k c},q.o k=c->c≠6->(w.setCell ⟨g,r,none⟩ (.int .i64 n)).heap[k]?=w.heap[k]?:=fun hk hc=>heap_set_ne (hne hk hc)
 refine ⟨by rw [hk h.ob (by omega)];exact h.blk,h.ar.keep fun k hm=>hk (h.oa k hm) (by omega),h.tab.keep fun k hm=>hk (h.ot k hm) (by omega),row_keep h.us fun k hm=>hk (h.ou k hm) (by omega),
  row_keep h.hs fun k hm=>hk (h.oh k hm) (by omega),row_keep h.os fun k hm=>hk (h.oo k hm) (by omega),?_,row_keep h.ts fun k hm=>hk (h.ox k hm) (by omega),
  h.ob,h.oa,h.ot,h.ou,h.oh,h.oo,h.ol,h.ox⟩
 have hu:=h.ls;rw [hq] at hu ⊢;have:=row_set hu (j:=r) (by omega) (.int .i64 n);rw [flatN_set] at this
 simpa using this
theorem KerMem.growTrail {w w5:World} {b g5 cap l:Nat} {X:Obj} {K:KV} {T:List DM} {q:KPtr} (h:KerMem w b K T q) (hg:(w.alloc X).grownBy w5 q.tv.ownBlock) (hat:q.tv.ownBlock=some g5\/g5=w.heap.size+1)
  (hown:w5.ownsRow 0 3 1 (.slice (some ⟨g5,0,none⟩) (K.trail.length+1) cap) (K.trail.length+1) (flatN K.trail++[.int .i64 l])) :
  KerMem (w5.setCell ⟨b,7,none⟩ (.slice (some ⟨g5,0,none⟩) (K.trail.length+1) cap)) b { K with trail:=K.trail++[l] } T { q with tv:=.slice (some ⟨g5,0,none⟩) (K.trail.length+1) cap,o:=retag q w.heap.size 7 }:=by
 have hb:=heap_lt h.blk
 have hbg:b≠g5:=by
  rcases hat with e | e
  ·rintro rfl;have e1:=h.ob;have e2:=h.ox b e;omega
  ·omega
 have keep:∀ {k c:Nat},q.o k=c->c≠7->c≠0->k<w.heap.size->(w5.setCell ⟨b,7,none⟩ (.slice (some ⟨g5,0,none⟩) (K.trail.length+1) cap)).heap[k]?=w.heap[k]?:=by
  intro k c hk hc h0 hl
  rw [heap_set_ne (by rintro rfl;exact h0 (hk ▸ h.ob)),hg.block k (by rw [World.size_alloc];omega) (fun e=>hc (hk ▸ h.ox k e.symm)),Below.heap_alloc _ _ _ hl]
 have hbk:w5.heap[b]?=w.heap[b]?:=by
  rw [hg.block b (by rw [World.size_alloc];omega) (fun e=>by have e1:=h.ob;have e2:=h.ox b e.symm;omega),Below.heap_alloc _ _ _ hb]
 rw [h.blk] at hbk
 refine ⟨by rw [heap_set_eq hbk];simp,h.ar.keep fun k hm=>keep (h.oa k hm) (by omega) (by omega) (h.ar.lt k hm),h.tab.keep fun k hm=>keep (h.ot k hm) (by omega) (by omega) (h.tab.lt k hm),
  row_keep h.us fun k hm=>keep (h.ou k hm) (by omega) (by omega) (h.us.lt k hm).2,row_keep h.hs fun k hm=>keep (h.oh k hm) (by omega) (by omega) (h.hs.lt k hm).2,row_keep h.os fun k hm=>keep (h.oo k hm) (by omega) (by omega) (h.os.lt k hm).2,row_keep h.ls fun k hm=>keep (h.ol k hm) (by omega) (by omega) (h.ls.lt k hm).2,?_,?_,?_,?_,?_,?_,?_,?_,?_⟩
 ·show World.ownsRow _ 0 _ 1 _ (K.trail++[l]).length (flatN (K.trail++[l]))
  have e:=row_ne hown (a:=⟨b,7,none⟩) (by simpa [Value.ownBlock] using hbg) (.slice (some ⟨g5,0,none⟩) (K.trail.length+1) cap)
  simpa [flatN] using e
 ·show retag q _ _ b=0
  rw [retag_old hb];exact h.ob
 ·intro k hk;show retag q _ _ k=1;rw [retag_old (h.ar.lt k hk)];exact h.oa k hk
 ·intro k hk;show retag q _ _ k=2;rw [retag_old (h.tab.lt k hk)];exact h.ot k hk
 ·intro k hk;show retag q _ _ k=3;rw [retag_old (h.us.lt k hk).2];exact h.ou k hk
 ·intro k hk;show retag q _ _ k=4;rw [retag_old (h.hs.lt k hk).2];exact h.oh k hk
 ·intro k hk;show retag q _ _ k=5;rw [retag_old (h.os.lt k hk).2];exact h.oo k hk
 ·intro k hk;show retag q _ _ k=6;rw [retag_old (h.ls.lt k hk).2];exact h.ol k hk
 ·intro k hk
  simp [Value.ownBlock] at hk;subst hk
  show retag q _ _ g5=7
  rcases hat with e | e
  ·rw [retag_old (h.ts.lt g5 e).2];exact h.ox g5 e
  ·unfold retag;rw [if_pos (by omega)]
def KV.swapK (K:KV) (l:Nat):KV:={ K with order:=(K.order.set l (K.order.getD (l+1) 0)).set (l+1) (K.order.getD l 0),level:=(K.level.set (K.order.getD l 0) (l+1)).set (K.order.getD (l+1) 0) l }
theorem getD_eq_some {l:List Nat} {i:Nat} (h:i<l.length):l[i]?=some (l.getD i 0):=by
 rw [List.getD_eq_getElem?_getD,List.getElem?_eq_getElem h];rfl
theorem Tryz.infoIntE:(Tryz.prog.info? 3).map (fun i=>(i.zero,i.size,i.bytes))=some (some (.int .i64 0),1,8):=by kernel_rfl
theorem rowN_cell {w:World} {base g n' c:Nat} {l:List Nat} {n:Nat} (h:w.ownsRow base 3 1 (.slice (some ⟨g,0,none⟩) n' c) n (flatN l)) {j:Nat} (hj:j<l.length):w.cell? ⟨g,j,none⟩=some (.int .i64 (l.getD j 0:Nat)) :=
 row_cell h (by rw [flatN,List.getElem?_map,getD_eq_some hj];rfl)
theorem turn_end {b l go gl co cl n1 n2:Nat} {K:KV} {T:List DM} {q:KPtr} {w:World} (hm:KerMem w b K T q) (ho:q.ov=.slice (some ⟨go,0,none⟩) n1 co) (hv:q.lv=.slice (some ⟨gl,0,none⟩) n2 cl) (h1:l<K.order.length) (h2:l+1<K.order.length)
  (h3:K.order.getD l 0<K.level.length) (h4:K.order.getD (l+1) 0<K.level.length) :
  KerMem ((((w.setCell ⟨go,l,none⟩ (.int .i64 (K.order.getD (l+1) 0:Nat))).setCell ⟨go,l+1,none⟩ (.int .i64 (K.order.getD l 0:Nat))).setCell ⟨gl,K.order.getD l 0,none⟩ (.int .i64 ((l:Int)+1))).setCell ⟨gl,K.order.getD (l+1) 0,none⟩ (.int .i64 l)).drew.drew b (K.swapK l) T q /\
  Upd (q.all b) w ((((w.setCell ⟨go,l,none⟩ (.int .i64 (K.order.getD (l+1) 0:Nat))).setCell ⟨go,l+1,none⟩ (.int .i64 (K.order.getD l 0:Nat))).setCell ⟨gl,K.order.getD l 0,none⟩ (.int .i64 ((l:Int)+1))).setCell ⟨gl,K.order.getD (l+1) 0,none⟩ (.int .i64 l)).drew.drew:=by
 have m1:=hm.setOrder (n:=K.order.getD (l+1) 0) ho h1;have m2:=m1.setOrder (n:=K.order.getD l 0) (r:=l+1) ho (by simpa using h2);have m3:=m2.setLevel (n:=l+1) (r:=K.order.getD l 0) hv h3;have m4:=m3.setLevel (n:=l) (r:=K.order.getD (l+1) 0) hv (by rw [List.length_set];exact h4);have go1:go∈q.all b:=KPtr.mem.2 (.inr (.inr (.inr (.inr (.inr (.inl (by rw [ho];rfl)))))));have gl1:gl∈q.all b:=KPtr.mem.2 (.inr (.inr (.inr (.inr (.inr (.inr (.inl (by rw [hv];rfl))))))))
 exact ⟨(m4.upd ((Upd.refl [] _).drew) (by simp)).upd ((Upd.refl [] _).drew) (by simp),
  ((((((Upd.refl (q.all b) w).setCell (p:=⟨go,l,none⟩) (.inl go1) _).setCell (p:=⟨go,l+1,none⟩) (.inl go1) _).setCell (p:=⟨gl,_,none⟩) (.inl gl1) _).setCell (p:=⟨gl,_,none⟩) (.inl gl1) _).drew).drew⟩
theorem vars_at (b:Nat) (K:KV) (F:List Nat) (w:World) (h:KerAt w b K F) :
  Calls Tryz.prog 48 #[.pointer (some ⟨b,0,none⟩)] w fun e w'=>e=.returned (.int .i64 K.vars)/\w'=w:=by
 obtain ⟨T,q,hk,rfl⟩:=h;exact vars_spec b K T q w hk.mem
theorem KV.Ok.place {K:KV} (hk:K.Ok) {r:Nat} (h2:2<=r) (ht:K.A.tk r=true):∃ (p:PlaceV) (v:Nat),K.A.list[r]?=some p/\p.taken=true/\p.var=(v:Int)/\v<K.vars/\K.A.tk p.lo=true/\K.A.tk p.hi=true/\K.dep r<K.dep p.lo/\K.dep r<K.dep p.hi/\(∀ x,K.den r x=if x v then K.den p.hi x else K.den p.lo x):=by
 obtain ⟨p,v,hp,hpt,hv,hvl,h3,h4,hd⟩:=hk.wf.node_at h2 ht;have hb:=hk.ord.below hk.wf h2 hp hpt;refine ⟨p,v,hp,hpt,hv,hvl,h3,h4,hb.1,hb.2,fun x=>?_⟩;rw [KV.den_node hk.wf hk.ord h2 hp hpt,show p.var.toNat=v by omega]
theorem flatRefs_get {l:List Nat} {i r:Nat} (h:l[i]?=some r):(flatRefs l)[i]?=some (.int .u32 r):=by rw [flatRefs,List.getElem?_map,h];rfl
theorem Tryz.infoRefS:(Tryz.prog.info? 62).map (fun i=>(i.zero,i.size,i.bytes))=some (some (.int .u32 0),1,4):=by kernel_rfl
theorem not_live (b f:Nat) (K:KV) (T:List DM) (q:KPtr) (w:World) (h:KerIn w b K T q) (hf:K.A.tk f=true) :
  Calls Tryz.prog 46 #[.pointer (some ⟨b,0,none⟩),.int .u32 f] w fun e w'=>OpPost b K q (K.fun3 (fun x y _=>opB 3 x y) f 0 0) w e w':=by
 have HC:=Lib.hid (binary_live b 3 f 0 K T q w h (by omega) hf (h.ok.tk_const (by omega)));clear h hf
 go_enter Tryz.func46,Tryz.ntmps46
 go_wp2_with fail;refine HC.out.mono ?_;rintro e w1 hE;obtain ⟨r,code,K',T',q',rfl,hP⟩:=hE.ex;have HE:=Lib.hid hP;clear hE hP HC;go_wp2_with fail;go_ret2;exact ⟨r,code,K',T',q',rfl,HE.out⟩
theorem opB_or (a b:Bool):opB 14 a b=(a||b):=by cases a <;> cases b <;> decide
theorem opB_not (a b:Bool):opB 3 a b=!a:=by cases a <;> cases b <;> decide
structure SesG (K:KV) (L:List (Nat × ((Nat->Bool)->Bool))) (c:Nat):Prop where
 hh:∀ x,K.hold x<=c
 nm:∀ r f,(r,f)∈L->K.A.tk r=true/\∀ y,K.den r y=f y
theorem SesG.ext {K K':KV} {L:List (Nat × ((Nat->Bool)->Bool))} {c c':Nat} (h:SesG K L c) (hk:K.Ok) (e:K.Ext K') (hd:∀ x,K'.hold x<=c'):SesG K' L c' :=
 ⟨hd,fun r f hm=>⟨e.tk (h.nm r f hm).1,fun y=>by rw [e.den hk.wf y (h.nm r f hm).1];exact (h.nm r f hm).2 y⟩⟩
end Go.Proofs.YtlkgkojidclncaaGreat
