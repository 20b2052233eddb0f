import Derived.Test.YtfkopmhpppeheaaGreatPY4
import Derived.Deep.QuietTactic
set_option maxRecDepth 100000
set_option maxHeartbeats 1600000
namespace Go.Proofs.YtfkopmhpppeheaaGreat
def KV.lev (K:KV) (v:Nat):Nat:=K.level.getD v 0
structure KV.Perm (K:KV):Prop where
 ol:K.order.length=K.vars
 ll:K.level.length=K.vars
 lo:∀ v,v<K.vars->K.lev v<K.vars/\K.order.getD (K.lev v) 0=v
 oo:∀ l,l<K.vars->K.order.getD l 0<K.vars/\K.lev (K.order.getD l 0)=l
theorem KV.Perm.inj {K:KV} (h:K.Perm) {u v:Nat} (hu:u<K.vars) (hv:v<K.vars) (e:K.lev u=K.lev v):u=v:=by
 rw [<- (h.lo u hu).2,<- (h.lo v hv).2,e]
def KV.dep (K:KV) (r:Nat):Nat:=match K.A.list[r]? with | some p=>if 0<=p.var then K.lev p.var.toNat else K.vars | none=>K.vars
structure KV.Ord (K:KV):Prop where
 pm:K.Perm
 ne:∀ (q:Nat) p,2<=q->K.A.list[q]?=some p->p.taken=true->p.lo≠p.hi
 lt:∀ (q:Nat) p,2<=q->K.A.list[q]?=some p->p.taken=true->K.lev p.var.toNat<K.dep p.lo/\K.lev p.var.toNat<K.dep p.hi
def KV.Uni (K:KV):Prop:=∀ (r s:Nat) (p c:PlaceV),2<=r->2<=s->K.A.list[r]?=some p->K.A.list[s]?=some c->p.taken=true->c.taken=true->p.var=c.var->p.lo=c.lo->p.hi=c.hi->r=s
def KV.denF (K:KV):Nat->Nat->(Nat->Bool)->Bool
 | 0,r,_=>r == 1
 | n+1,r,x=>if r<2 then r == 1 else match K.A.list[r]? with | some p=>if x p.var.toNat then K.denF n p.hi x else K.denF n p.lo x | none=>false
def KV.den (K:KV) (r:Nat) (x:Nat->Bool):Bool:=K.denF (K.vars+1) r x
theorem KV.Wf.node_at {K:KV} {P:List Nat} (h:K.Wf P) {r:Nat} (h2:2<=r) (ht:K.A.tk r=true):∃ (p:PlaceV) (v:Nat),K.A.list[r]?=some p/\p.taken=true/\p.var=(v:Int)/\v<K.vars/\K.A.tk p.lo=true/\K.A.tk p.hi=true/\K.dep r=K.lev v:=by
 obtain ⟨p,hp,hpt⟩:=ArenaV.tk_iff.1 ht;have h1:=h.vr r p h2 hp hpt;have h3:=h.cl r p h2 hp hpt;refine ⟨p,p.var.toNat,hp,hpt,by omega,by omega,h3.1,h3.2,?_⟩
 simp [KV.dep,hp,h1.1]
theorem KV.Wf.dep_const {K:KV} {P:List Nat} (h:K.Wf P) {r:Nat} (h2:r<2):K.dep r=K.vars:=by
 match r,h2 with
 | 0,_=>simp [KV.dep,h.ok.c0]
 | 1,_=>simp [KV.dep,h.ok.c1]
theorem KV.Wf.dep_le {K:KV} {P:List Nat} (h:K.Wf P) (ho:K.Ord) {r:Nat} (ht:K.A.tk r=true):K.dep r<=K.vars:=by
 by_cases h2:2<=r
 ·obtain ⟨p,v,_,_,_,hv,_,_,hd⟩:=h.node_at h2 ht
  have:=(ho.pm.lo v hv).1;omega
 ·rw [h.dep_const (by omega)];omega
theorem KV.Wf.dep_lt {K:KV} {P:List Nat} (h:K.Wf P) (ho:K.Ord) {r:Nat} (h2:2<=r) (ht:K.A.tk r=true):K.dep r<K.vars:=by
 obtain ⟨p,v,_,_,_,hv,_,_,hd⟩:=h.node_at h2 ht;have:=(ho.pm.lo v hv).1;omega
theorem KV.Ord.below {K:KV} {P:List Nat} (ho:K.Ord) (h:K.Wf P) {r:Nat} {p:PlaceV} (h2:2<=r) (hp:K.A.list[r]?=some p) (hpt:p.taken=true):K.dep r<K.dep p.lo/\K.dep r<K.dep p.hi:=by
 have h1:=h.vr r p h2 hp hpt
 have e:K.dep r=K.lev p.var.toNat:=by simp [KV.dep,hp,h1.1]
 rw [e];exact ho.lt r p h2 hp hpt
theorem KV.denF_eq {K:KV} {P:List Nat} (h:K.Wf P) (ho:K.Ord) (x:Nat->Bool):∀ (n m r:Nat),K.A.tk r=true->K.vars-K.dep r<n->K.vars-K.dep r<m->K.denF n r x=K.denF m r x:=by
 intro n
 induction n with
 | zero=>intro m r _ hn;omega
 | succ n ih =>
  intro m r ht hn hm
  obtain ⟨m,rfl⟩ : ∃ k,m=k+1:=⟨m-1,by omega⟩;unfold KV.denF;split
  ·rfl
  ·rename_i h2
   obtain ⟨p,v,hp,hpt,hv,hvl,h3,h4,hd⟩:=h.node_at (by omega) ht;have hb:=ho.below h (by omega) hp hpt;have hl:=h.dep_lt ho (by omega:2<=r) ht;rw [hp]
   simp only
   rw [ih m p.hi h4 (by omega) (by omega),ih m p.lo h3 (by omega) (by omega)]
theorem KV.den_const (K:KV) {r:Nat} (h:r<2) (x:Nat->Bool):K.den r x=(r == 1):=by
 unfold KV.den KV.denF;rw [if_pos h]
theorem KV.den_node {K:KV} {P:List Nat} (h:K.Wf P) (ho:K.Ord) {r:Nat} {p:PlaceV} (h2:2<=r) (hp:K.A.list[r]?=some p) (hpt:p.taken=true) (x:Nat->Bool) :
  K.den r x=if x p.var.toNat then K.den p.hi x else K.den p.lo x:=by
 have hb:=ho.below h h2 hp hpt;have hc:=h.cl r p h2 hp hpt
 have e:K.den r x=if x p.var.toNat then K.denF K.vars p.hi x else K.denF K.vars p.lo x:=by
  show K.denF (K.vars+1) r x=_
  rw [KV.denF,if_neg (by omega),hp]
 rw [e];have hl:=h.dep_le ho hc.1;have hl2:=h.dep_le ho hc.2;have e1:K.denF K.vars p.hi x=K.den p.hi x:=KV.denF_eq h ho x _ _ _ hc.2 (by omega) (by omega);have e2:K.denF K.vars p.lo x=K.den p.lo x:=KV.denF_eq h ho x _ _ _ hc.1 (by omega) (by omega);rw [e1,e2]
theorem KV.den_same {K:KV} {P:List Nat} (h:K.Wf P) (ho:K.Ord):∀ (n r:Nat) (x y:Nat->Bool),K.A.tk r=true->K.vars-K.dep r<=n->(∀ v,v<K.vars->K.dep r<=K.lev v->x v=y v)->K.den r x=K.den r y:=by
 intro n
 induction n with
 | zero =>
  intro r x y ht hn _
  by_cases h2:2<=r
  ·have:=h.dep_lt ho h2 ht;omega
  ·rw [K.den_const (by omega),K.den_const (by omega)]
 | succ n ih =>
  intro r x y ht hn hx
  by_cases h2:2<=r
  ·obtain ⟨p,v,hp,hpt,hv,hvl,h3,h4,hd⟩:=h.node_at h2 ht
   have hb:=ho.below h h2 hp hpt;have hl:=h.dep_lt ho h2 ht;rw [KV.den_node h ho h2 hp hpt,KV.den_node h ho h2 hp hpt]
   have e:p.var.toNat=v:=by omega
   rw [e,hx v hvl (by omega),ih p.hi x y h4 (by omega) (fun u hu h5=>hx u hu (by omega)),ih p.lo x y h3 (by omega) (fun u hu h5=>hx u hu (by omega))]
  ·rw [K.den_const (by omega),K.den_const (by omega)]
def upd (x:Nat->Bool) (v:Nat) (b:Bool):Nat->Bool:=fun u=>if u=v then b else x u
theorem upd_self (x:Nat->Bool) (v:Nat) (b:Bool):upd x v b v=b:=by simp [upd]
theorem upd_ne (x:Nat->Bool) {u v:Nat} (b:Bool) (h:u≠v):upd x v b u=x u:=by simp [upd,h]
theorem KV.den_upd {K:KV} {P:List Nat} (h:K.Wf P) (ho:K.Ord) {r v:Nat} (ht:K.A.tk r=true) (hv:v<K.vars) (hd:K.lev v<K.dep r) (x:Nat->Bool) (b:Bool):K.den r (upd x v b)=K.den r x :=
 KV.den_same h ho _ r _ _ ht (Nat.le_refl _) fun u _ h2=>upd_ne x b (by rintro rfl;omega)
theorem KV.den_lo {K:KV} {P:List Nat} (h:K.Wf P) (ho:K.Ord) {r:Nat} {p:PlaceV} (h2:2<=r) (hp:K.A.list[r]?=some p) (hpt:p.taken=true) (x:Nat->Bool):K.den r (upd x p.var.toNat false)=K.den p.lo x:=by
 have h1:=h.vr r p h2 hp hpt;have hl:=ho.lt r p h2 hp hpt;rw [KV.den_node h ho h2 hp hpt,upd_self];exact KV.den_upd h ho (h.cl r p h2 hp hpt).1 (by omega) hl.1 x false
theorem KV.den_hi {K:KV} {P:List Nat} (h:K.Wf P) (ho:K.Ord) {r:Nat} {p:PlaceV} (h2:2<=r) (hp:K.A.list[r]?=some p) (hpt:p.taken=true) (x:Nat->Bool):K.den r (upd x p.var.toNat true)=K.den p.hi x:=by
 have h1:=h.vr r p h2 hp hpt;have hl:=ho.lt r p h2 hp hpt;rw [KV.den_node h ho h2 hp hpt,upd_self];exact KV.den_upd h ho (h.cl r p h2 hp hpt).2 (by omega) hl.2 x true
theorem KV.canon {K:KV} {P:List Nat} (h:K.Wf P) (ho:K.Ord) (hu:K.Uni):∀ (n r s:Nat),K.A.tk r=true->K.A.tk s=true->K.vars-min (K.dep r) (K.dep s)<=n->(∀ x,K.den r x=K.den s x)->r=s:=by
 intro n
 induction n with
 | zero =>
  intro r s hr hs hn he
  have h1:r<2:=by
   by_cases h2:2<=r
   ·have:=h.dep_lt ho h2 hr;have:min (K.dep r) (K.dep s)<=K.dep r:=Nat.min_le_left _ _;omega
   ·omega
  have h2:s<2:=by
   by_cases h2:2<=s
   ·have:=h.dep_lt ho h2 hs;have:min (K.dep r) (K.dep s)<=K.dep s:=Nat.min_le_right _ _;omega
   ·omega
  have:=he (fun _=>false);rw [K.den_const h1,K.den_const h2] at this
  have e:(r=1)↔(s=1):=by rw [Bool.eq_iff_iff] at this;simpa using this
  omega
 | succ n ih =>
  have key:∀ (r s:Nat),K.A.tk r=true->K.A.tk s=true->K.dep r<=K.dep s->K.vars-K.dep r<=n+1->(∀ x,K.den r x=K.den s x)->r=s:=by
   intro r s hr hs hle hn he
   by_cases h2:2<=r
   ·obtain ⟨p,v,hp,hpt,hv,hvl,h3,h4,hd⟩:=h.node_at h2 hr
    have hb:=ho.below h h2 hp hpt;have hl:=h.dep_lt ho h2 hr
    by_cases hlt:K.dep r<K.dep s
    ·exfalso
     refine ho.ne r p h2 hp hpt (ih _ _ h3 h4 (by omega) fun x=>?_);rw [<- KV.den_lo h ho h2 hp hpt,<- KV.den_hi h ho h2 hp hpt,he,he,show p.var.toNat=v by omega];rw [KV.den_upd h ho hs hvl (by omega),KV.den_upd h ho hs hvl (by omega)]
    ·have hs2:2<=s:=by
      by_cases h5:2<=s
      ·exact h5
      ·have:=h.dep_const (r:=s) (by omega);omega
     obtain ⟨c,u,hc,hct,hu',hul,h5,h6,hd2⟩:=h.node_at hs2 hs;have hb2:=ho.below h hs2 hc hct;have euv:v=u:=ho.pm.inj hvl hul (by omega);subst euv;refine hu r s p c h2 hs2 hp hc hpt hct (by rw [hv,hu']) ?_ ?_
     ·refine ih _ _ h3 h5 (by omega) fun x=>?_
      rw [<- KV.den_lo h ho h2 hp hpt,<- KV.den_lo h ho hs2 hc hct,he,hv,hu']
     ·refine ih _ _ h4 h6 (by omega) fun x=>?_
      rw [<- KV.den_hi h ho h2 hp hpt,<- KV.den_hi h ho hs2 hc hct,he,hv,hu']
   ·have h5:s<2:=by
     by_cases h5:2<=s
     ·have:=h.dep_lt ho h5 hs
      have:=h.dep_const (r:=r) (by omega);omega
     ·omega
    have:=he (fun _=>false);rw [K.den_const (by omega),K.den_const h5] at this
    have e:(r=1)↔(s=1):=by rw [Bool.eq_iff_iff] at this;simpa using this
    omega
  intro r s hr hs hn he
  by_cases hle:K.dep r<=K.dep s
  ·exact key r s hr hs hle (by omega) he
  ·exact (key s r hs hr (by omega) (by omega) fun x=>(he x).symm).symm
structure KV.Ext (K K':KV):Prop where
 nd:∀ (r:Nat) (p:PlaceV),K.A.list[r]?=some p->p.taken=true->K'.A.list[r]?=some p
 pl:K'.A.places=K.A.places
 vr:K'.vars=K.vars
 od:K'.order=K.order
 lv:K'.level=K.level
theorem KV.Ext.refl (K:KV):K.Ext K:=⟨fun _ _ h _=>h,rfl,rfl,rfl,rfl⟩
theorem KV.Ext.trans {A B C:KV} (h:A.Ext B) (k:B.Ext C):A.Ext C :=
 ⟨fun r p h1 h2=>k.nd r p (h.nd r p h1 h2) h2,k.pl.trans h.pl,k.vr.trans h.vr,k.od.trans h.od,k.lv.trans h.lv⟩
theorem KV.Took.ext {K K':KV} {v:Int} {lo hi r:Nat} (t:K.Took v lo hi r K'):K.Ext K':=by
 refine ⟨fun s p hs hp=>?_,t.fr.pl,t.vr,t.od,t.lv⟩;rw [t.fr.ot s]
 ·exact hs
 ·rintro rfl
  have:=t.fr.no
  simp [ArenaV.tk,hs,hp] at this
theorem KV.Ext.tk {K K':KV} (h:K.Ext K') {r:Nat} (ht:K.A.tk r=true):K'.A.tk r=true:=by
 obtain ⟨p,hp,hpt⟩:=ArenaV.tk_iff.1 ht;exact ArenaV.tk_iff.2 ⟨p,h.nd r p hp hpt,hpt⟩
theorem KV.Ext.lev {K K':KV} (h:K.Ext K') (v:Nat):K'.lev v=K.lev v:=by simp [KV.lev,h.lv]
theorem KV.Ext.dep {K K':KV} (h:K.Ext K') {r:Nat} (ht:K.A.tk r=true):K'.dep r=K.dep r:=by
 obtain ⟨p,hp,hpt⟩:=ArenaV.tk_iff.1 ht
 simp [KV.dep,hp,h.nd r p hp hpt,h.lev,h.vr]
theorem KV.Ext.den {K K':KV} {P:List Nat} (h:K.Ext K') (hw:K.Wf P) (x:Nat->Bool):∀ {r:Nat},K.A.tk r=true->K'.den r x=K.den r x:=by
 have key:∀ (n r:Nat),K.A.tk r=true->K'.denF n r x=K.denF n r x:=by
  intro n
  induction n with
  | zero=>intro r _;rfl
  | succ n ih =>
   intro r ht
   unfold KV.denF;split
   ·rfl
   ·rename_i h2
    obtain ⟨p,hp,hpt⟩:=ArenaV.tk_iff.1 ht;have hc:=hw.cl r p (by omega) hp hpt;rw [hp,h.nd r p hp hpt]
    simp only
    rw [ih p.hi hc.2,ih p.lo hc.1]
 intro r ht
 unfold KV.den
 rw [h.vr];exact key _ r ht
inductive KV.Reach (K:KV):Nat->Prop
 | root {r:Nat} (h:0<K.hold r):K.Reach r
 | lo {q:Nat} {p:PlaceV} (h:K.Reach q) (h2:2<=q) (hp:K.A.list[q]?=some p) (hpt:p.taken=true):K.Reach p.lo
 | hi {q:Nat} {p:PlaceV} (h:K.Reach q) (h2:2<=q) (hp:K.A.list[q]?=some p) (hpt:p.taken=true):K.Reach p.hi
theorem KV.live_reach {K:KV} (hw:K.Wf []) (hp:K.Pos) (ho:K.Ord):∀ (n r:Nat),2<=r->K.A.tk r=true->K.dep r<=n->K.Reach r:=by
 intro n
 induction n using Nat.strongRecOn with
 | ind n ih =>
  intro r h2 ht hn
  have h1:=hp r h2 ht;rw [hw.eq r h2 ht] at h1
  by_cases hh:0<K.hold r
  ·exact .root hh
  ·have:one (K.hold r)=0:=by simp [one,hh]
   have hpp:0<par K.A.list r:=by simp [this] at h1;exact h1
   obtain ⟨q,p,hq,hqt,hlh⟩:=par_pos hpp
   have hq2:2<=q:=by
    match q,hq with
    | 0,hq=>rw [hw.ok.c0] at hq;cases hq;simp at hlh;omega
    | 1,hq=>rw [hw.ok.c1] at hq;cases hq;simp at hlh;omega
    | q+2,_=>omega
   have hb:=ho.below hw hq2 hq hqt;have hqk:K.A.tk q=true:=ArenaV.tk_iff.2 ⟨p,hq,hqt⟩
   rcases hlh with e | e
   ·have:=ih (K.dep q) (by rw [<- e] at hn;omega) q hq2 hqk (Nat.le_refl _)
    rw [<- e];exact .lo this hq2 hq hqt
   ·have:=ih (K.dep q) (by rw [<- e] at hn;omega) q hq2 hqk (Nat.le_refl _)
    rw [<- e];exact .hi this hq2 hq hqt
theorem KV.Perm.same {K K':KV} (h:K.Perm) (vr:K'.vars=K.vars) (od:K'.order=K.order) (lv:K'.level=K.level):K'.Perm:=by
 have e:∀ v,K'.lev v=K.lev v:=fun v=>by simp [KV.lev,lv]
 exact ⟨by rw [od,vr];exact h.ol,by rw [lv,vr];exact h.ll,fun v hv=>by rw [e,od,vr];exact h.lo v (by omega),fun l hl=>by rw [e,od,vr];exact h.oo l (by omega)⟩
theorem KV.Ord.same {K K':KV} (h:K.Ord) (hA:K'.A=K.A) (vr:K'.vars=K.vars) (od:K'.order=K.order) (lv:K'.level=K.level):K'.Ord:=by
 have e:∀ v,K'.lev v=K.lev v:=fun v=>by simp [KV.lev,lv]
 have d:∀ r,K'.dep r=K.dep r:=fun r=>by simp [KV.dep,hA,e,vr]
 exact ⟨h.pm.same vr od lv,by rw [hA];exact h.ne,fun q p h2 hp hpt=>by rw [e,d,d];exact h.lt q p h2 (by rw [<- hA];exact hp) hpt⟩
theorem KV.Ext.ord_down {K K':KV} {P:List Nat} (h:K'.Ext K) (hw:K'.Wf P) (ho:K.Ord):K'.Ord:=by
 refine ⟨ho.pm.same h.vr.symm h.od.symm h.lv.symm,fun q p h2 hp hpt=>ho.ne q p h2 (h.nd q p hp hpt) hpt,fun q p h2 hp hpt=>?_⟩;have hc:=hw.cl q p h2 hp hpt;rw [<- h.lev,<- h.dep hc.1,<- h.dep hc.2];exact ho.lt q p h2 (h.nd q p hp hpt) hpt
theorem KV.Took.ord {K K':KV} {P:List Nat} {v lo hi r:Nat} (t:K.Took (v:Int) lo hi r K') (hw:K.Wf P) (ho:K.Ord) (h1:K.A.tk lo=true) (h2:K.A.tk hi=true) (hne:lo≠hi) (hl:K.lev v<K.dep lo) (hh:K.lev v<K.dep hi):K'.Ord:=by
 have e:=t.ext;refine ⟨ho.pm.same t.vr t.od t.lv,fun q p hq hp hpt=>?_,fun q p hq hp hpt=>?_⟩
 ·by_cases e0:q=r
  ·subst e0;rw [t.fr.at_] at hp;cases hp;exact hne
  ·rw [t.fr.ot q e0] at hp;exact ho.ne q p hq hp hpt
 ·by_cases e0:q=r
  ·subst e0;rw [t.fr.at_] at hp;cases hp
   rw [e.dep h1,e.dep h2,e.lev];exact ⟨hl,hh⟩
  ·rw [t.fr.ot q e0] at hp
   have hc:=hw.cl q p hq hp hpt
   rw [e.dep hc.1,e.dep hc.2,e.lev];exact ho.lt q p hq hp hpt
theorem KV.Took.pos {K K':KV} {v:Int} {lo hi r:Nat} (t:K.Took v lo hi r K') (h:K.Pos):∀ s,s≠r->2<=s->K'.A.tk s=true->0<K'.use s:=by
 intro s hs h2 ht
 rw [t.fr.tk] at ht
 simp [hs] at ht
 have:=h s h2 ht
 rw [t.us,if_neg hs];omega
def KV.keepK (K:KV) (r:Nat):KV:=if 2<=r then { K with holds:=K.holds.set r (K.hold r+1),uses:=if K.hold r=0 then K.uses.set r (K.use r+1) else K.uses,trail:=[] } else { K with trail:=[] }
theorem KV.keepK_A (K:KV) (r:Nat):(K.keepK r).A=K.A:=by unfold KV.keepK;split <;> rfl
theorem KV.keepK_vars (K:KV) (r:Nat):(K.keepK r).vars=K.vars:=by unfold KV.keepK;split <;> rfl
theorem KV.keepK_order (K:KV) (r:Nat):(K.keepK r).order=K.order:=by unfold KV.keepK;split <;> rfl
theorem KV.keepK_level (K:KV) (r:Nat):(K.keepK r).level=K.level:=by unfold KV.keepK;split <;> rfl
theorem KV.keepK_trail (K:KV) (r:Nat):(K.keepK r).trail=[]:=by unfold KV.keepK;split <;> rfl
theorem KV.Wf.keepK_hold {K:KV} {P:List Nat} (h:K.Wf P) {r:Nat} (ht:K.A.tk r=true) (x:Nat):(K.keepK r).hold x=if x=r/\2<=r then K.hold x+1 else K.hold x:=by
 unfold KV.keepK
 by_cases h2:2<=r
 ·rw [if_pos h2]
  show (K.holds.set r (K.hold r+1)).getD x 0=_
  have hl:=h.tu r h2 ht;have:=h.len;rw [getD_set (by omega)]
  by_cases e:x=r
  ·subst e;simp [h2]
  ·simp [e];rfl
 ·rw [if_neg h2];simp [h2];rfl
theorem KV.Wf.keepK_use {K:KV} {P:List Nat} (h:K.Wf P) {r:Nat} (ht:K.A.tk r=true) (x:Nat):(K.keepK r).use x=if x=r/\2<=r/\K.hold r=0 then K.use x+1 else K.use x:=by
 unfold KV.keepK
 by_cases h2:2<=r
 ·rw [if_pos h2]
  by_cases h0:K.hold r=0
  ·simp only [h0,if_true]
   show (K.uses.set r (K.use r+1)).getD x 0=_
   rw [getD_set (h.tu r h2 ht)]
   by_cases e:x=r
   ·subst e;simp [h2]
   ·simp [e];rfl
  ·simp [h0,KV.use]
 ·rw [if_neg h2];simp [h2];rfl
theorem KV.Wf.keepK {K:KV} {P:List Nat} (h:K.Wf P) {r:Nat} (ht:K.A.tk r=true) (hm:K.hold r<65535):(K.keepK r).Wf P:=by
 have hlen:(K.keepK r).uses.length=K.uses.length:=by unfold KV.keepK;split <;> simp;split <;> simp
 have hlen2:(K.keepK r).holds.length=K.holds.length:=by unfold KV.keepK;split <;> simp
 refine ⟨by rw [K.keepK_A];exact h.ok,by rw [hlen,hlen2];exact h.len,by rw [hlen,K.keepK_A];exact h.ul,by rw [hlen,K.keepK_A];exact h.tu,?_,?_,?_,by rw [K.keepK_A];exact h.pt,by rw [K.keepK_A];exact h.cl,by rw [K.keepK_A,K.keepK_vars];exact h.vr,by rw [K.keepK_vars];exact h.vs⟩
 ·intro x hx
  rw [h.keepK_hold ht] at hx;rw [K.keepK_A]
  split at hx
  ·rename_i e;rw [e.1];exact ⟨e.2,ht⟩
  ·exact h.ht x hx
 ·intro x
  rw [h.keepK_hold ht];split
  ·rename_i e;rw [e.1];omega
  ·exact h.hm x
 ·intro x h2 htx
  rw [K.keepK_A] at htx ⊢;have:=h.eq x h2 htx;rw [h.keepK_hold ht,h.keepK_use ht]
  by_cases e:x=r
  ·subst e
   by_cases h0:K.hold x=0
   ·simp [h2,h0,one] at this ⊢;omega
   ·simp [h2,h0,one] at this ⊢
    have h9:0<K.hold x:=by omega
    simp [h9] at this;omega
  ·simp [e];exact this
theorem KV.Wf.keepK_pos {K:KV} {P:List Nat} (h:K.Wf P) {r:Nat} (ht:K.A.tk r=true) (hp:∀ s,s≠r->2<=s->K.A.tk s=true->0<K.use s) (h0:0<K.hold r->0<K.use r):(K.keepK r).Pos:=by
 intro s h2 hts
 rw [K.keepK_A] at hts;rw [h.keepK_use ht]
 by_cases e:s=r
 ·subst e
  by_cases h3:K.hold s=0
  ·simp [h2,h3]
  ·simp [h3];exact h0 (by omega)
 ·simp [e];exact hp s e h2 hts
def KV.dropH (K:KV) (r:Nat):KV:={ K with holds:=K.holds.set r (K.hold r-1) }
theorem KV.Wf.dropH_hold {K:KV} {P:List Nat} (h:K.Wf P) {r:Nat} (hh:0<K.hold r) (x:Nat):(K.dropH r).hold x=if x=r then K.hold r-1 else K.hold x:=by
 have h1:=h.ht r hh;have h2:=h.tu r h1.1 h1.2;have:=h.len
 show (K.holds.set r (K.hold r-1)).getD x 0=_
 rw [getD_set (by omega)];rfl
theorem KV.Wf.dropH {K:KV} {P:List Nat} (h:K.Wf P) {r:Nat} (hh:0<K.hold r):(K.dropH r).Wf (if K.hold r=1 then r::P else P):=by
 have h1:=h.ht r hh;refine ⟨h.ok,by simpa [KV.dropH] using h.len,h.ul,h.tu,?_,?_,?_,?_,h.cl,h.vr,h.vs⟩
 ·intro x hx
  rw [h.dropH_hold hh] at hx
  split at hx
  ·rename_i e;subst e;exact h1
  ·exact h.ht x hx
 ·intro x
  rw [h.dropH_hold hh];have:=h.hm r;have:=h.hm x
  split <;> omega
 ·intro x h2 htx
  have:=h.eq x h2 htx;rw [h.dropH_hold hh]
  show K.use x=par K.A.list x+_+_
  by_cases e:x=r
  ·subst e
   by_cases h3:K.hold x=1
   ·simp [h3,one] at this ⊢;omega
   ·have h4:0<K.hold x-1:=by omega
    simp [h3,one,hh,h4] at this ⊢;exact this
  ·rw [if_neg e,this]
   split
   ·rw [List.count_cons_of_ne (Ne.symm e)]
   ·rfl
 ·intro x hx
  split at hx
  ·rcases List.mem_cons.1 hx with rfl | hx
   ·exact h1.2
   ·exact h.pt x hx
  ·exact h.pt x hx
structure KV.Ok (K:KV):Prop where
 wf:K.Wf []
 pos:K.Pos
 ord:K.Ord
 tl:∀ l,l∈K.trail->l+2<=K.vars
structure KV.Dropped (K:KV) (r:Nat) (K':KV):Prop where
 ext:K'.Ext K
 hd:∀ x,K'.hold x=if x=r/\2<=r then K.hold x-1 else K.hold x
 tr:K'.trail=[]
 us:K'.A.used<=K.A.used
structure KV.Kept (K:KV) (r:Nat) (K':KV):Prop where
 A:K'.A=K.A
 vr:K'.vars=K.vars
 od:K'.order=K.order
 lv:K'.level=K.level
 hd:∀ x,K'.hold x=if x=r/\2<=r then K.hold x+1 else K.hold x
 tr:K'.trail=[]
structure KV.Made (K:KV) (v lo hi r:Nat) (K':KV):Prop where
 ext:K.Ext K'
 no:K.A.tk r=false
 two:2<=r
 at_:K'.A.list[r]?=some ⟨v,lo,hi,true,0⟩
 tk:∀ x,K'.A.tk x=(decide (x=r)||K.A.tk x)
 us:K'.A.used=K.A.used+1
 hd:∀ x,K'.hold x=if x=r then 1 else K.hold x
 tr:K'.trail=[]
theorem KV.Ok.kept {K:KV} (h:K.Ok) {r:Nat} (ht:K.A.tk r=true) (hm:K.hold r<65535):(K.keepK r).Ok/\K.Kept r (K.keepK r):=by
 refine ⟨⟨h.wf.keepK ht hm,h.wf.keepK_pos ht (fun s _ h2 hs=>h.pos s h2 hs) (fun hh=>h.pos r (h.wf.ht r hh).1 ht),h.ord.same (K.keepK_A r) (K.keepK_vars r) (K.keepK_order r) (K.keepK_level r),by rw [K.keepK_trail];simp⟩,?_⟩;exact ⟨K.keepK_A r,K.keepK_vars r,K.keepK_order r,K.keepK_level r,h.wf.keepK_hold ht,K.keepK_trail r⟩
theorem KV.Kept.ext {K K':KV} {r:Nat} (h:K.Kept r K'):K.Ext K':=⟨fun _ _ h1 _=>by rw [h.A];exact h1,by rw [h.A],h.vr,h.od,h.lv⟩
theorem KV.Ok.made {K K1:KV} {v lo hi r:Nat} (h:K.Ok) (t:K.Took (v:Int) lo hi r K1) (h1:K.A.tk lo=true) (h2:K.A.tk hi=true) (hv:v<K.vars) (hne:lo≠hi) (hl:K.lev v<K.dep lo) (hh:K.lev v<K.dep hi) :
  (K1.keepK r).Ok/\K.Made v lo hi r (K1.keepK r):=by
 have hw:=t.wf h.wf h1 h2 ⟨by omega,by omega⟩;have ho:=t.ord h.wf h.ord h1 h2 hne hl hh
 have htr:K1.A.tk r=true:=by rw [t.fr.tk];simp
 have h0:K1.hold r=0:=by rw [t.hd,if_pos rfl]
 refine ⟨⟨hw.keepK htr (by omega),hw.keepK_pos htr (t.pos h.pos) (by omega),ho.same (K1.keepK_A r) (K1.keepK_vars r) (K1.keepK_order r) (K1.keepK_level r),by rw [K1.keepK_trail];simp⟩,?_⟩;have e:=t.ext;refine ⟨⟨fun s p hs hp=>by rw [K1.keepK_A];exact e.nd s p hs hp,by rw [K1.keepK_A];exact e.pl,by rw [K1.keepK_vars];exact e.vr,by rw [K1.keepK_order];exact e.od,by rw [K1.keepK_level];exact e.lv⟩,t.fr.no,t.fr.two,by rw [K1.keepK_A];exact t.fr.at_,by rw [K1.keepK_A];exact t.fr.tk,by rw [K1.keepK_A];exact t.fr.us,?_,K1.keepK_trail r⟩
 intro x
 rw [hw.keepK_hold htr];have:=t.fr.two
 by_cases e:x=r
 ·subst e;simp [h0];omega
 ·simp [e];rw [t.hd,if_neg e]
end Go.Proofs.YtfkopmhpppeheaaGreat
namespace Go.Proofs.YtfkopmhpppeheaaGreat
open Go.RowKit Go.Maps Go.ChangeMaps Go.WideShapes
structure KerIn (w:World) (b:Nat) (K:KV) (T:List DM) (q:KPtr):Prop where
 mem:KerMem w b K T q
 ti:TInv T K []
 ok:K.Ok
def KerAt (w:World) (b:Nat) (K:KV) (F:List Nat):Prop:=∃ T q,KerIn w b K T q/\F=q.all b
theorem KerIn.upd {w w':World} {b:Nat} {K:KV} {T:List DM} {q:KPtr} {S:List Nat} (h:KerIn w b K T q) (u:Upd S w w') (hd:∀ k,k∈q.all b->k∉S):KerIn w' b K T q:=⟨h.mem.upd u hd,h.ti,h.ok⟩
theorem KerAt.upd {w w':World} {b:Nat} {K:KV} {F S:List Nat} (h:KerAt w b K F) (u:Upd S w w') (hd:∀ k,k∈F->k∉S):KerAt w' b K F:=by
 obtain ⟨T,q,h,rfl⟩:=h;exact ⟨T,q,h.upd u hd,rfl⟩
theorem KerAt.ok {w:World} {b:Nat} {K:KV} {F:List Nat} (h:KerAt w b K F):K.Ok:=by obtain ⟨T,q,h,rfl⟩:=h;exact h.ok
theorem KerAt.lt {w:World} {b:Nat} {K:KV} {F:List Nat} (h:KerAt w b K F):∀ k,k∈F->k<w.heap.size:=by obtain ⟨T,q,h,rfl⟩:=h;exact h.mem.lt
theorem Upd.trans0 {S:List Nat} {w w1 w2:World} (h:Upd [] w w1) (k:Upd S w1 w2):Upd S w w2:=(h.mono (by simp)).trans k
theorem KV.Wf.tk_lt {K:KV} {P:List Nat} (h:K.Wf P) {r:Nat} (h2:2<=r) (ht:K.A.tk r=true):r<K.uses.length/\r<K.holds.length/\K.uses.length<=1048576/\K.holds.length<=1048576:=by
 have h1:=h.tu r h2 ht;have h3:=h.len;have h4:=h.ul;have h5:=h.ok.lp;have h6:=h.ok.pm;omega
theorem TInv.uni {T:List DM} {K:KV} {P:List Nat} (h:TInv T K []) (hw:K.Wf P):K.Uni :=
 fun r s p c h2 h3 hp hc hpt hct e1 e2 e3=>h.uniq hw h2 h3 hp hc hpt hct (by simp) (by simp) (by simp [nkp,e1,e2,e3])
theorem KerAt.uni {w:World} {b:Nat} {K:KV} {F:List Nat} (h:KerAt w b K F):K.Uni:=by obtain ⟨T,q,h,rfl⟩:=h;exact h.ti.uni h.ok.wf
theorem KerMem.keep0 {w:World} {b r:Nat} {K:KV} {T:List DM} {q:KPtr} (h:KerMem w b K T q) (hr:r<2) :
  ∃ q',KerMem (w.setCell ⟨b,7,none⟩ (.slice none 0 0)) b (K.keepK r) T q'/\Upd (q.all b) w (w.setCell ⟨b,7,none⟩ (.slice none 0 0))/\∀ k,k∈q'.all b->k∈q.all b:=by
 have hbm:b∈q.all b:=KPtr.mem.2 (.inl rfl)
 have e:K.keepK r={ K with trail:=[] }:=by unfold KV.keepK;rw [if_neg (by omega)]
 refine ⟨{ q with tv:=.slice none 0 0 },?_,(Upd.refl _ _).setCell (p:=⟨b,7,none⟩) (.inl hbm) _,?_⟩
 ·rw [e];exact h.noTrail
 ·intro k hk
  simp only [KPtr.mem,Value.ownBlock] at hk ⊢
  simp at hk
  rcases hk with hk | hk | hk | hk | hk | hk | hk <;> simp [hk]
theorem KerMem.keep1 {w:World} {b r g n c:Nat} {K:KV} {T:List DM} {q:KPtr} (h:KerMem w b K T q) (hw:K.Wf []) (hr:2<=r) (ht:K.A.tk r=true) (hq:q.hv=.slice (some ⟨g,0,none⟩) n c) (h0:0<K.hold r) :
  ∃ q',KerMem ((w.setCell ⟨g,r,none⟩ (.int .i32 ((K.hold r+1:Nat):Int))).setCell ⟨b,7,none⟩ (.slice none 0 0)) b (K.keepK r) T q'/\Upd (q.all b) w ((w.setCell ⟨g,r,none⟩ (.int .i32 ((K.hold r+1:Nat):Int))).setCell ⟨b,7,none⟩ (.slice none 0 0))/\∀ k,k∈q'.all b->k∈q.all b:=by
 have hbm:b∈q.all b:=KPtr.mem.2 (.inl rfl)
 have e:K.keepK r={ ({ K with holds:=K.holds.set r (K.hold r+1) }:KV) with trail:=[] }:=by unfold KV.keepK;rw [if_pos hr,if_neg (by omega)]
 have hg:g∈q.all b:=KPtr.mem.2 (.inr (.inr (.inr (.inr (.inl (by rw [hq];rfl))))));refine ⟨{ q with tv:=.slice none 0 0 },?_,((Upd.refl _ _).setCell (p:=⟨g,r,none⟩) (.inl hg) _).setCell (p:=⟨b,7,none⟩) (.inl hbm) _,?_⟩
 ·rw [e];exact (h.setHold hq (hw.tk_lt hr ht).2.1).noTrail
 ·intro k hk
  simp only [KPtr.mem,Value.ownBlock] at hk ⊢
  simp at hk
  rcases hk with hk | hk | hk | hk | hk | hk | hk <;> simp [hk]
theorem KerMem.keep2 {w:World} {b r g n c gu nu cu:Nat} {K:KV} {T:List DM} {q:KPtr} (h:KerMem w b K T q) (hw:K.Wf []) (hr:2<=r) (ht:K.A.tk r=true) (hq:q.hv=.slice (some ⟨g,0,none⟩) n c) (hqu:q.uv=.slice (some ⟨gu,0,none⟩) nu cu) (h0:K.hold r=0) :
  ∃ q',KerMem (((w.setCell ⟨g,r,none⟩ (.int .i32 1)).setCell ⟨gu,r,none⟩ (.int .i32 ((K.use r+1:Nat):Int))).setCell ⟨b,7,none⟩ (.slice none 0 0)) b (K.keepK r) T q'/\Upd (q.all b) w (((w.setCell ⟨g,r,none⟩ (.int .i32 1)).setCell ⟨gu,r,none⟩ (.int .i32 ((K.use r+1:Nat):Int))).setCell ⟨b,7,none⟩ (.slice none 0 0))/\∀ k,k∈q'.all b->k∈q.all b:=by
 have hbm:b∈q.all b:=KPtr.mem.2 (.inl rfl)
 have e:K.keepK r={ ({ ({ K with holds:=K.holds.set r 1 }:KV) with uses:=K.uses.set r (K.use r+1) }) with trail:=[] }:=by unfold KV.keepK;rw [if_pos hr,if_pos h0,h0]
 have hg:g∈q.all b:=KPtr.mem.2 (.inr (.inr (.inr (.inr (.inl (by rw [hq];rfl))))));have hg2:gu∈q.all b:=KPtr.mem.2 (.inr (.inr (.inr (.inl (by rw [hqu];rfl)))));refine ⟨{ q with tv:=.slice none 0 0 },?_,(((Upd.refl _ _).setCell (p:=⟨g,r,none⟩) (.inl hg) _).setCell (p:=⟨gu,r,none⟩) (.inl hg2) _).setCell (p:=⟨b,7,none⟩) (.inl hbm) _,?_⟩
 ·rw [e];exact ((h.setHold (n:=1) hq (hw.tk_lt hr ht).2.1).setUse hqu (hw.tk_lt hr ht).1).noTrail
 ·intro k hk
  simp only [KPtr.mem,Value.ownBlock] at hk ⊢
  simp at hk
  rcases hk with hk | hk | hk | hk | hk | hk | hk <;> simp [hk]
theorem keep_full (b r:Nat) (K:KV) (T:List DM) (q:KPtr) (w:World) (h:KerIn w b K T q) (hr:r<=4294967295) (ht:K.A.tk r=true) (hf:K.hold r=65535) :
  Calls Tryz.prog 101 #[.pointer (some ⟨b,0,none⟩),.int .u32 r] w fun e w'=>e=.returned (.int .i64 8)/\Upd [] w w':=by
 have h2:=(h.ok.wf.ht r (by omega)).1;have hl:=h.ok.wf.tk_lt h2 ht
 have hd:(1:Int)<(r:Int):=by omega
 have HT:=Lib.hid ht;have HM:=Lib.hid h.mem;have HF:=Lib.hid hf;clear h ht hf
 go_enter Tryz.func101,Tryz.ntmps101
 go_wp2_with fail;refine (live_spec b r K T q _ HM.out hr).mono ?_;rintro e w1 ⟨rfl,hu⟩;rw [HT.out];have m1:=HM.out.upd hu (by simp);obtain ⟨gh,ch,hqh,c3,ch1,fh1,hgh⟩:=m1.holdCell hl.2.1;rw [HF.out] at ch1
 have hrl:(r:Int)<(K.holds.length:Int):=by omega
 have HU:=Lib.hid hu;clear hu m1 hqh hgh;go_wp2_with fail;go_ret;exact ⟨rfl,HU.out⟩
theorem keep_yes (b r:Nat) (K:KV) (T:List DM) (q:KPtr) (w:World) (h:KerMem w b K T q) (hw:K.Wf []) (hr:r<=4294967295) (ht:K.A.tk r=true) (hf:K.hold r<65535) :
  Calls Tryz.prog 101 #[.pointer (some ⟨b,0,none⟩),.int .u32 r] w fun e w'=>e=.returned (.int .i64 0)/\∃ q',KerMem w' b (K.keepK r) T q'/\Upd (q.all b) w w'/\∀ k,k∈q'.all b->k∈q.all b:=by
 have HT:=Lib.hid ht;have HM:=Lib.hid h;have HW:=Lib.hid hw
 by_cases h2:2<=r
 ·have hl:=hw.tk_lt h2 ht
  have hd:(1:Int)<(r:Int):=by omega
  have hub:K.use r+1<=2147483647:=by have:=hw.use_le h2 ht;simp at this;omega
  clear h hw ht
  by_cases h0:K.hold r=0
  ·have H0:=Lib.hid h0
   go_enter Tryz.func101,Tryz.ntmps101
   go_wp2_with fail;refine (live_spec b r K T q _ HM.out hr).mono ?_;rintro e w1 ⟨rfl,hu⟩;rw [HT.out];have m1:=HM.out.upd hu (by simp);obtain ⟨gh,ch,hqh,c3,ch1,fh1,hgh⟩:=m1.holdCell hl.2.1;obtain ⟨gu,cu,hqu,c2,cu1,fu1,hgu⟩:=m1.useCell hl.1;rw [H0.out] at ch1;have hb:=m1.blk;have fb:=frozen_at 7 hb;have c7:w1.cell? ⟨b,7,none⟩=some q.tv:=cell_at hb rfl
   have ngh:gu≠gh:=by
    rintro rfl;have e1:=m1.ou gu (by rw [hqu];rfl);have e2:=m1.oh gu (by rw [hqh];rfl);omega
   have nbu:b≠gu:=by
    rintro rfl;have e1:=m1.ou b (by rw [hqu];rfl);have e2:=m1.ob;omega
   have nbh:b≠gh:=by
    rintro rfl;have e1:=m1.oh b (by rw [hqh];rfl);have e2:=m1.ob;omega
   have hrl:(r:Int)<(K.holds.length:Int):=by omega
   have hrl2:(r:Int)<(K.uses.length:Int):=by omega
   have HU:=Lib.hid hu;have HE:=Lib.hid (m1.keep2 HW.out h2 HT.out hqh hqu h0);clear hu m1 hqh hgh hqu hgu hb;go_wp2_with fail;go_ret;obtain ⟨q',a1,a2,a3⟩:=HE.out;exact ⟨rfl,q',by simpa using a1,by simpa using HU.out.trans0 a2,a3⟩
  ·go_enter Tryz.func101,Tryz.ntmps101
   go_wp2_with fail;refine (live_spec b r K T q _ HM.out hr).mono ?_;rintro e w1 ⟨rfl,hu⟩;rw [HT.out];have m1:=HM.out.upd hu (by simp);obtain ⟨gh,ch,hqh,c3,ch1,fh1,hgh⟩:=m1.holdCell hl.2.1;have hb:=m1.blk;have fb:=frozen_at 7 hb;have c7:w1.cell? ⟨b,7,none⟩=some q.tv:=cell_at hb rfl
   have nbh:b≠gh:=by
    rintro rfl;have e1:=m1.oh b (by rw [hqh];rfl);have e2:=m1.ob;omega
   have hrl:(r:Int)<(K.holds.length:Int):=by omega
   have hn1:decide ((K.hold r:Int)=65535)=false:=by simp;omega
   have hn2:decide ((K.hold r:Int)+1=1)=false:=by simp;omega
   have hn3:¬ ((K.hold r:Int)=65535):=by omega
   have hn4:¬ ((K.hold r:Int)+1=1):=by omega
   have HU:=Lib.hid hu;have HE:=Lib.hid (m1.keep1 HW.out h2 HT.out hqh (by omega));clear hu m1 hqh hgh hb;go_wp2_with fail;go_ret;obtain ⟨q',a1,a2,a3⟩:=HE.out;exact ⟨rfl,q',by simpa using a1,by simpa using HU.out.trans0 a2,a3⟩
 ·have hd:decide ((1:Int)<(r:Int))=false:=by simp;omega
  have hd2:decide (1<r)=false:=by simp;omega
  have hr2:r<2:=by omega
  clear h hw ht h2
  go_enter Tryz.func101,Tryz.ntmps101
  go_wp2_with fail;refine (live_spec b r K T q _ HM.out hr).mono ?_;rintro e w1 ⟨rfl,hu⟩;rw [HT.out];have m1:=HM.out.upd hu (by simp);have hb:=m1.blk;have fb:=frozen_at 7 hb;have c7:w1.cell? ⟨b,7,none⟩=some q.tv:=cell_at hb rfl;have HU:=Lib.hid hu;have HE:=Lib.hid (m1.keep0 hr2);clear hu m1 hb;go_wp2_with fail;go_ret;obtain ⟨q',a1,a2,a3⟩:=HE.out;exact ⟨rfl,q',a1,HU.out.trans0 a2,a3⟩
theorem keep_any (b r:Nat) (K:KV) (T:List DM) (q:KPtr) (w:World) (h:KerIn w b K T q) (hr:r<=4294967295) (ht:K.A.tk r=true) :
  Calls Tryz.prog 101 #[.pointer (some ⟨b,0,none⟩),.int .u32 r] w fun e w'=>∃ (code:Int) (K':KV) (q':KPtr),e=.returned (.int .i64 code)/\((code=8/\K.hold r=65535/\K'=K)\/(code=0/\K.hold r<65535/\K'=K.keepK r)) /\
   KerIn w' b K' T q'/\Upd (q.all b) w w'/\∀ k,k∈q'.all b->k∈q.all b:=by
 have hm:=h.ok.wf.hm r
 by_cases hf:K.hold r=65535
 ·refine (keep_full b r K T q w h hr ht hf).mono ?_
  rintro e w1 ⟨rfl,hu⟩;exact ⟨8,K,q,rfl,.inl ⟨rfl,hf,rfl⟩,h.upd hu (by simp),hu.mono (by simp),fun k hk=>hk⟩
 ·refine (keep_yes b r K T q w h.mem h.ok.wf hr ht (by omega)).mono ?_
  rintro e w1 ⟨rfl,q',a1,a2,a3⟩;have hk:=h.ok.kept ht (by omega);exact ⟨0,K.keepK r,q',rfl,.inr ⟨rfl,by omega,rfl⟩,⟨a1,h.ti.same (K.keepK_A r) (K.keepK_vars r),hk.1⟩,a2,a3⟩
theorem KerMem.levCell {w:World} {b v:Nat} {K:KV} {T:List DM} {q:KPtr} (h:KerMem w b K T q) (hv:v<K.level.length) :
  ∃ g c,q.lv=.slice (some ⟨g,0,none⟩) K.level.length c/\w.cell? ⟨b,6,none⟩=some (.slice (some ⟨g,0,none⟩) K.level.length c)/\w.cell? ⟨g,v,none⟩=some (.int .i64 (K.lev v))/\w.frozen? ⟨g,v,none⟩=false/\g∈q.all b:=by
 have hu:=h.ls;obtain ⟨g,c,hq,_,_⟩:=hu.form (by omega);refine ⟨g,c,hq,by rw [<- hq];exact cell_at h.blk rfl,?_,?_,KPtr.mem.2 (.inr (.inr (.inr (.inr (.inr (.inr (.inl (by rw [hq];rfl))))))))⟩
 ·rw [hq] at hu
  refine row_cell hu ?_
  simp [flatN,KV.lev,hv]
 ·rw [hq] at hu;exact row_frozen hu v
def KV.isVar (K:KV) (v:Int):Bool:=decide (0<=v/\v<K.vars)
theorem variable_spec (b:Nat) (v:Int) (K:KV) (T:List DM) (q:KPtr) (w:World) (h:KerMem w b K T q) :
  Calls Tryz.prog 110 #[.pointer (some ⟨b,0,none⟩),.int .i64 v] w fun e w'=>e=.returned (.bool (K.isVar v))/\w'=w:=by
 have c4:w.cell? ⟨b,4,none⟩=some (.int .i64 K.vars):=cell_at h.blk rfl;have HV:Hid (K.isVar v=decide (0<=v/\v<K.vars)):=rfl;clear h
 by_cases h0:0<=v
 ·go_enter Tryz.func110,Tryz.ntmps110
  go_wp2_with fail;go_ret;exact ⟨by rw [HV.out];simp [h0],rfl⟩
 ·have hd:decide (0<=v)=false:=by simp;omega
  have HN:=Lib.hid h0;clear h0
  go_enter Tryz.func110,Tryz.ntmps110
  go_wp2_with fail;go_ret;exact ⟨by rw [HV.out];have:=HN.out;simp;omega,rfl⟩
theorem depth_spec (b r:Nat) (K:KV) (T:List DM) (q:KPtr) (w:World) (h:KerMem w b K T q) (hw:K.Wf []) (ho:K.Ord) (hr:r<=4294967295) (ht:K.A.tk r=true) :
  Calls Tryz.prog 238 #[.pointer (some ⟨b,0,none⟩),.int .u32 r] w fun e w'=>e=.returned (.int .i64 (K.dep r))/\Upd [] w w':=by
 obtain ⟨p,hp,hpt⟩:=ArenaV.tk_iff.1 ht;have hll:=ho.pm.ll;have hvs:=hw.vs;have hbl:=heap_lt h.blk;have HP:=Lib.hid hp;have HPT:=Lib.hid hpt;have HM:=Lib.hid h
 by_cases h2:2<=r
 ·obtain ⟨p',v,hp',hpt',hv,hvl,_,_,hd⟩:=hw.node_at h2 ht
  rw [hp] at hp';cases hp'
  have HV:=Lib.hid hv;have HD:=Lib.hid hd
  have hll2:v<K.level.length:=by omega
  clear h hw ho ht hp hpt hpt' hd
  go_enter Tryz.func238,Tryz.ntmps238
  go_wp2_with fail;refine (node_spec b r K T q p w HM.out hr HP.out HPT.out).mono ?_;rintro e w1 ⟨rfl,hu⟩;rw [HV.out];have m1:=(HM.out.upd hu (by simp)).upd ((Upd.refl [] w1).alloc (.cells #[.int .i64 (v:Int),.int .u32 p.lo,.int .u32 p.hi] 116 (0,0))) (by simp);obtain ⟨gl,cl,_,c6,cv,_,_⟩:=m1.levCell hll2;have hn:=heap_alloc_new w1 (.cells #[.int .i64 (v:Int),.int .u32 p.lo,.int .u32 p.hi] 116 (0,0));have b0:(w1.alloc (.cells #[.int .i64 (v:Int),.int .u32 p.lo,.int .u32 p.hi] 116 (0,0))).cell? ⟨w1.heap.size,0,none⟩=some (.int .i64 v):=cell_at hn rfl
  have hvi:(v:Int)<(K.level.length:Int):=by omega
  have hls:K.level.length<=64:=by omega
  have HU:=Lib.hid hu;clear hu m1 hn hv;go_wp2_with fail
  go_quiet (fail)
  go_wp2_with fail;go_ret;exact ⟨by rw [HD.out];rfl,(HU.out.alloc _).drewN _⟩
 ·have hd:=hw.dep_const (r:=r) (by omega)
  have hv:p.var=-1:=by
   match r,h2,hp with
   | 0,_,hp=>rw [hw.ok.c0] at hp;cases hp;rfl
   | 1,_,hp=>rw [hw.ok.c1] at hp;cases hp;rfl
   | r+2,h2,_=>omega
  have HD:=Lib.hid hd;have HV:=Lib.hid hv;clear h hw ho ht hp hpt hd hv
  go_enter Tryz.func238,Tryz.ntmps238
  go_wp2_with fail;refine (node_spec b r K T q p w HM.out hr HP.out HPT.out).mono ?_;rintro e w1 ⟨rfl,hu⟩;rw [HV.out];have m1:=(HM.out.upd hu (by simp)).upd ((Upd.refl [] w1).alloc (.cells #[.int .i64 (-1),.int .u32 p.lo,.int .u32 p.hi] 116 (0,0))) (by simp);have c4:(w1.alloc (.cells #[.int .i64 (-1),.int .u32 p.lo,.int .u32 p.hi] 116 (0,0))).cell? ⟨b,4,none⟩=some (.int .i64 K.vars):=cell_at m1.blk rfl;have hn:=heap_alloc_new w1 (.cells #[.int .i64 (-1),.int .u32 p.lo,.int .u32 p.hi] 116 (0,0));have b0:(w1.alloc (.cells #[.int .i64 (-1),.int .u32 p.lo,.int .u32 p.hi] 116 (0,0))).cell? ⟨w1.heap.size,0,none⟩=some (.int .i64 (-1)):=cell_at hn rfl;have HU:=Lib.hid hu;clear hu m1 hn;go_wp2_with fail;go_ret;exact ⟨by rw [HD.out];rfl,HU.out.alloc _⟩
def KV.fitsE (K:KV) (v:Int) (lo hi:Nat):Int :=
 if K.isVar v=false then 2 else if K.A.tk lo=false\/K.A.tk hi=false then 3 else if lo≠hi/\¬ K.lev v.toNat<min (K.dep lo) (K.dep hi) then 4 else 0
structure Still (w:World) where
 x:World
 u:Upd [] w x
instance (w:World):Nonempty (Still w):=⟨⟨w,Upd.refl _ _⟩⟩
theorem wp_region_still {P:Program} {id:Nat} {Q:Exit->Act->World->Prop} {a:Act} {w:World} {l:List Oper} (hm:P.follows .mixedOrders=true) (hB:Region.lexB .any l.toArray=true)
  (h:wpQuiet P l.toArray (fun w'=>∃ n:Still w,w'=n.x) (fun a'=>∀ w',(∃ n:Still w,w'=n.x)->Q .normal a' w') l a):(Code.region id l.toArray true).wp P Q a w :=
 wp_region_quiet (C:=fun w'=>∃ n:Still w,w'=n.x) hm hB ⟨⟨_,(Upd.refl [] w).drew⟩,rfl⟩ (by rw [List.toList_toArray];exact h)
theorem Still.cell {w:World} (n:Still w) {a:Addr} {v:Value} (h:w.cell? a=some v):n.x.cell? a=some v:=(n.u.cell (World.block_lt_of_cell? _ _ h) (by simp)).trans h
theorem fits_spec (b:Nat) (v:Int) (lo hi:Nat) (K:KV) (T:List DM) (q:KPtr) (w:World) (h:KerMem w b K T q) (hw:K.Wf []) (ho:K.Ord) (h1:lo<=4294967295) (h2:hi<=4294967295) :
  Calls Tryz.prog 204 #[.pointer (some ⟨b,0,none⟩),.int .i64 v,.int .u32 lo,.int .u32 hi] w fun e w'=>e=.returned (.int .i64 (K.fitsE v lo hi))/\Upd [] w w':=by
 have HM:=Lib.hid h;have HW:=Lib.hid (And.intro hw ho)
 cases hV:K.isVar v with
 | false =>
  have HV:=Lib.hid hV;clear h hw ho hV
  go_enter Tryz.func204,Tryz.ntmps204
  go_wp2_with fail;refine (variable_spec b v K T q w HM.out).mono ?_;rintro e w1 ⟨rfl,rfl⟩;rw [HV.out];go_wp2_with fail;go_ret;exact ⟨by unfold KV.fitsE;rw [if_pos HV.out];rfl,Upd.refl _ _⟩
 | true =>
  have HV:=Lib.hid hV
  have hv0:∃ n:Nat,v=(n:Int)/\n<K.vars:=by
   simp [KV.isVar] at hV
   exact ⟨v.toNat,by omega,by omega⟩
  obtain ⟨n,rfl,hn⟩:=hv0
  cases hl:K.A.tk lo with
  | false =>
   have HL:=Lib.hid hl;clear h hw ho hV hl
   go_enter Tryz.func204,Tryz.ntmps204
   go_wp2_with fail;refine (variable_spec b n K T q w HM.out).mono ?_;rintro e w1 ⟨rfl,rfl⟩;rw [HV.out];go_wp2_with fail;refine (live_spec b lo K T q _ HM.out h1).mono ?_;rintro e w2 ⟨rfl,hu⟩;rw [HL.out];have HU:=Lib.hid hu;clear hu;go_wp2_with fail;go_ret;exact ⟨by unfold KV.fitsE;rw [if_neg (by rw [HV.out];simp),if_pos (.inl HL.out)];rfl,HU.out⟩
  | true =>
   have HL:=Lib.hid hl
   cases hh:K.A.tk hi with
   | false =>
    have HH:=Lib.hid hh;clear h hw ho hV hl hh
    go_enter Tryz.func204,Tryz.ntmps204
    go_wp2_with fail;refine (variable_spec b n K T q w HM.out).mono ?_;rintro e w1 ⟨rfl,rfl⟩;rw [HV.out];go_wp2_with fail;refine (live_spec b lo K T q _ HM.out h1).mono ?_;rintro e w2 ⟨rfl,hu⟩;rw [HL.out];have HU:=Lib.hid hu;clear hu;go_wp2_with fail;refine (live_spec b hi K T q _ (HM.out.upd HU.out (by simp)) h2).mono ?_;rintro e w3 ⟨rfl,hu⟩;rw [HH.out];have HU2:=Lib.hid (HU.out.trans hu);clear hu;go_wp2_with fail;go_ret;exact ⟨by unfold KV.fitsE;rw [if_neg (by rw [HV.out];simp),if_pos (.inr HH.out)];rfl,HU2.out⟩
   | true =>
    have HH:=Lib.hid hh
    by_cases hlh:lo=hi
    ·subst hlh
     clear h hw ho hV hl hh
     go_enter Tryz.func204,Tryz.ntmps204
     go_wp2_with fail;refine (variable_spec b n K T q w HM.out).mono ?_;rintro e w1 ⟨rfl,rfl⟩;rw [HV.out];go_wp2_with fail;refine (live_spec b lo K T q _ HM.out h1).mono ?_;rintro e w2 ⟨rfl,hu⟩;rw [HL.out];have HU:=Lib.hid hu;clear hu;go_wp2_with fail;refine (live_spec b lo K T q _ (HM.out.upd HU.out (by simp)) h2).mono ?_;rintro e w3 ⟨rfl,hu⟩;rw [HH.out];have HU2:=Lib.hid (HU.out.trans hu);clear hu;go_wp2_with fail
     go_quiet (fail)
     go_wp2_with fail;go_ret;exact ⟨by unfold KV.fitsE;rw [if_neg (by rw [HV.out];simp),if_neg (by rw [HL.out];simp),if_neg (by simp)];rfl,HU2.out.drewN _⟩
    ·have HLH:=Lib.hid hlh
     have hd:decide ((lo:Int)=(hi:Int))=false:=by simp;omega
     have hd2:¬ ((lo:Int)=(hi:Int)):=by omega
     have hd3:((lo:Int) != (hi:Int))=true:=by simp;omega
     clear h hw ho hV hl hh
     go_enter Tryz.func204,Tryz.ntmps204
     go_wp2_with fail;refine (variable_spec b n K T q w HM.out).mono ?_;rintro e w1 ⟨rfl,rfl⟩;rw [HV.out];go_wp2_with fail;refine (live_spec b lo K T q _ HM.out h1).mono ?_;rintro e w2 ⟨rfl,hu⟩;rw [HL.out];have HU:=Lib.hid hu;clear hu;go_wp2_with fail;refine (live_spec b hi K T q _ (HM.out.upd HU.out (by simp)) h2).mono ?_;rintro e w3 ⟨rfl,hu⟩;rw [HH.out];have HU2:=Lib.hid (HU.out.trans hu);clear hu;have hll:=HW.out.2.pm.ll;have hvs:=HW.out.1.vs;obtain ⟨gl,cl,hql,c6,cv,_,hgl⟩:=(HM.out.upd HU2.out (by simp)).levCell (show n<K.level.length by omega)
     have hvi:(n:Int)<(K.level.length:Int):=by omega
     have hls:K.level.length<=64:=by omega
     clear hll hql hgl
     have q6:∀ n':Still w3,n'.x.cell? ⟨b,6,none⟩=some (.slice (some ⟨gl,0,none⟩) K.level.length cl):=fun n'=>n'.cell c6
     have qv:∀ n':Still w3,n'.x.cell? ⟨gl,n,none⟩=some (.int .i64 (K.lev n)):=fun n'=>n'.cell cv
     have HD1:Hid (∀ n':Still w3,Calls Tryz.prog 238 #[.pointer (some ⟨b,0,none⟩),.int .u32 lo] n'.x fun e w''=>e=.returned (.int .i64 (K.dep lo))/\∃ m:Still w3,w''=m.x):=fun n' =>
      (depth_spec b lo K T q _ (HM.out.upd (HU2.out.trans n'.u) (by simp)) HW.out.1 HW.out.2 h1 HL.out).mono fun _ _ ⟨a,u⟩=>⟨a,⟨_,n'.u.trans u⟩,rfl⟩
     have HD2:Hid (∀ n':Still w3,Calls Tryz.prog 238 #[.pointer (some ⟨b,0,none⟩),.int .u32 hi] n'.x fun e w''=>e=.returned (.int .i64 (K.dep hi))/\∃ m:Still w3,w''=m.x):=fun n' =>
      (depth_spec b hi K T q _ (HM.out.upd (HU2.out.trans n'.u) (by simp)) HW.out.1 HW.out.2 h2 HH.out).mono fun _ _ ⟨a,u⟩=>⟨a,⟨_,n'.u.trans u⟩,rfl⟩
     clear c6 cv;go_wp2_with fail;refine wp_region_still (by kernel_rfl) (by kernel_rfl) ?_
     repeat (quiet_step ((first | (go_at_call_of 238 (Value.int IntKind.u32 (lo:Int));exact HD1.out _) | (go_at_call_of 238 (Value.int IntKind.u32 (hi:Int));exact HD2.out _))))
     refine wpQuiet_nil ?_;rintro _ ⟨nq,rfl⟩;have HN:=Lib.hid (HU2.out.trans nq.u)
     have HF:Hid (K.fitsE n lo hi=if ¬ K.lev n<min (K.dep lo) (K.dep hi) then 4 else 0):=by
      show K.fitsE n lo hi=_
      unfold KV.fitsE;rw [if_neg (by rw [HV.out];simp),if_neg (by rw [HL.out,HH.out];simp),Int.toNat_natCast]
      simp only [HLH.out,ne_eq,not_false_eq_true,true_and]
     generalize hmm:(if K.dep hi<K.dep lo then ((K.dep hi:Nat):Int) else ((K.dep lo:Nat):Int))=mm;have HMM:=Lib.hid hmm;clear hmm
     cases hdd:decide (mm<=(K.lev n:Int)) with
     | true =>
      have HF4:Hid (K.fitsE n lo hi=4):=by
       have hh:=of_decide_eq_true hdd;have hmm:=HMM.out
       show K.fitsE n lo hi=4
       rw [HF.out,if_pos (by split at hmm <;> omega)]
      go_wp2_with fail;go_ret;exact ⟨by rw [HF4.out];rfl,HN.out⟩
     | false =>
      have HF4:Hid (K.fitsE n lo hi=0):=by
       have hh:=of_decide_eq_false hdd;have hmm:=HMM.out
       show K.fitsE n lo hi=0
       rw [HF.out,if_neg (by split at hmm <;> omega)]
      go_wp2_with fail;go_ret;exact ⟨by rw [HF4.out];rfl,HN.out⟩
end Go.Proofs.YtfkopmhpppeheaaGreat
