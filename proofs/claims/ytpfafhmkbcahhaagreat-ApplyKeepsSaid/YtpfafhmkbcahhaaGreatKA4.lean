import Derived.Test.YtpfafhmkbcahhaaGreatKA3
namespace Go.Proofs.YtpfafhmkbcahhaaGreat
open Go.RowKit Go.Maps Go.ChangeMaps Go.WideShapes
structure Fresh (A:ArenaV) (v:Int) (lo hi r:Nat) (A':ArenaV):Prop where
 ok:A'.Ok
 two:2<=r
 no:A.tk r=false
 at_:A'.list[r]?=some ⟨v,lo,hi,true,0⟩
 ot:∀ s,s≠r->A'.list[s]?=A.list[s]?
 us:A'.used=A.used+1
 pl:A'.places=A.places
 ll:r<A'.list.length/\A.list.length<=A'.list.length
 pr:∀ x,par A'.list x=par A.list x+(if lo=x then 1 else 0)+(if hi=x then 1 else 0)
theorem Fresh.put {A:ArenaV} (h:A.Ok) {F:List Nat} {r:Nat} (hf:A.free=F++[r]) {v:Int} {lo hi:Nat} (h1:lo<=4294967295) (h2:hi<=4294967295):Fresh A v lo hi r (A.put F r v lo hi):=by
 obtain ⟨p,hp,hpt⟩:=(h.fr r).1 (by rw [hf];simp);have hlt:=(List.getElem?_eq_some_iff.1 hp).1;refine ⟨h.put hf h1 h2,?_,?_,?_,?_,rfl,rfl,?_,?_⟩
 ·match r,hp with
  | 0,hp=>rw [h.c0] at hp;cases hp;simp at hpt
  | 1,hp=>rw [h.c1] at hp;cases hp;simp at hpt
  | r+2,_=>omega
 ·simp [ArenaV.tk,hp,hpt]
 ·simp only [ArenaV.put]
  rw [List.getElem?_set_self hlt]
 ·intro s hs
  simp only [ArenaV.put]
  rw [List.getElem?_set_ne (Ne.symm hs)]
 ·simp [ArenaV.put];exact hlt
 ·intro x
  simp only [ArenaV.put]
  have e:=par_set (q:=⟨v,lo,hi,true,0⟩) hp x
  have e1:cnt p x=0:=by simp [cnt,hpt]
  have e2:cnt ⟨v,lo,hi,true,0⟩ x=(if lo=x then 1 else 0)+(if hi=x then 1 else 0):=by simp [cnt]
  omega
theorem Fresh.push {A:ArenaV} (h:A.Ok) (hl:A.list.length<A.places) {v:Int} {lo hi:Nat} (h1:lo<=4294967295) (h2:hi<=4294967295):Fresh A v lo hi A.list.length (A.push v lo hi):=by
 refine ⟨h.push hl h1 h2,?_,?_,?_,?_,rfl,rfl,?_,?_⟩
 ·exact h.l2
 ·simp [ArenaV.tk]
 ·simp [ArenaV.push]
 ·intro s hs
  simp only [ArenaV.push]
  rw [List.getElem?_append];split
  ·rfl
  ·rw [List.getElem?_eq_none (by simp;omega),List.getElem?_eq_none (by omega)]
 ·simp [ArenaV.push]
 ·intro x
  simp only [ArenaV.push]
  rw [par_append]
  simp [par,cnt];omega
theorem alloc_any (b:Nat) (F:List Nat) (v:Int) (lo hi:Nat) (A:ArenaV) (w:World) (h:ArenaAt w b A F) (h1:lo<=4294967295) (h2:hi<=4294967295)
  (hroom:A.used<A.places) (hc:A.checkE v lo hi=0) :
  Calls Tryz.prog 245 #[.pointer (some ⟨b,0,none⟩),.agg #[.int .i64 v,.int .u32 lo,.int .u32 hi]] w fun e w' =>
   ∃ (r:Nat) (A':ArenaV) (F':List Nat),e=.returned (.tuple #[.int .u32 r,.int .i64 0])/\Fresh A v lo hi r A'/\ArenaAt w' b A' F'/\Upd F w w'/\Sub F w F':=by
 rcases List.eq_nil_or_concat A.free with hf | ⟨fr,r,hf⟩
 ·have hl:A.list.length<A.places:=by have:=h.ok.us;rw [hf] at this;simp at this;omega
  refine (alloc_push b F v lo hi A w h h1 h2 hf hl hc).mono ?_;rintro e w' ⟨rfl,F',a1,a2,a3⟩;exact ⟨_,_,F',rfl,Fresh.push h.ok hl h1 h2,a1,a2,a3⟩
 ·rw [List.concat_eq_append] at hf
  refine (alloc_free b F v lo hi r fr A w h h1 h2 hf hc).mono ?_;rintro e w' ⟨rfl,a1,a2⟩;exact ⟨_,_,F,rfl,Fresh.put h.ok hf h1 h2,a1,a2,Sub.refl _ _⟩
theorem Fresh.tk {A A':ArenaV} {v:Int} {lo hi r:Nat} (h:Fresh A v lo hi r A') (x:Nat):A'.tk x=(decide (x=r)||A.tk x):=by
 by_cases e:x=r
 ·subst e;simp [ArenaV.tk,h.at_]
 ·unfold ArenaV.tk;rw [h.ot x e];simp [e]
theorem Fresh.room {A A':ArenaV} {v:Int} {lo hi r:Nat} (h:Fresh A v lo hi r A'):r<=1048575:=by
 have h1:=h.ll.1;have h2:=h.ok.lp;have h3:=h.ok.pm;omega
structure KV.Took (K:KV) (v:Int) (lo hi r:Nat) (K':KV):Prop where
 fr:Fresh K.A v lo hi r K'.A
 ul:K.uses.length<=K'.uses.length/\r<K'.uses.length/\K'.uses.length<=K'.A.list.length
 hl:K'.holds.length=K'.uses.length
 us:∀ x,K'.use x=(if x=r then 0 else K.use x)+(if lo=x/\2<=x then 1 else 0)+(if hi=x/\2<=x then 1 else 0)
 hd:∀ x,K'.hold x=if x=r then 0 else K.hold x
 vr:K'.vars=K.vars
 od:K'.order=K.order
 lv:K'.level=K.level
 tr:K'.trail=K.trail
theorem KV.Took.wf {K K':KV} {P:List Nat} {v:Int} {lo hi r:Nat} (t:K.Took v lo hi r K') (h:K.Wf P) (h1:K.A.tk lo=true) (h2:K.A.tk hi=true) (hv:0<=v/\v<K.vars):K'.Wf P:=by
 have hno:=t.fr.no
 have hlo:lo≠r:=by rintro rfl;rw [hno] at h1;cases h1
 have hhi:hi≠r:=by rintro rfl;rw [hno] at h2;cases h2
 have hr2:=t.fr.two
 have hpar:par K.A.list r=0:=par_zero fun q p hp hpt=>by
  by_cases hq:2<=q
  ·have:=h.cl q p hq hp hpt
   constructor
   ·rintro rfl;rw [hno] at this;simp at this
   ·rintro rfl;rw [hno] at this;simp at this
  ·match q,hp with
   | 0,hp=>rw [h.ok.c0] at hp;cases hp;simp;omega
   | 1,hp=>rw [h.ok.c1] at hp;cases hp;simp;omega
   | q+2,_=>omega
 have hnp:r∉P:=fun hm=>by have:=h.pt r hm;rw [hno] at this;cases this
 refine ⟨t.fr.ok,t.hl,t.ul.2.2,?_,?_,?_,?_,?_,?_,?_,by rw [t.vr];exact h.vs⟩
 ·intro x hx htx
  rw [t.fr.tk] at htx
  by_cases e:x=r
  ·rw [e];exact t.ul.2.1
  ·simp [e] at htx
   have:=h.tu x hx htx;have:=t.ul.1;omega
 ·intro x hx
  rw [t.hd] at hx
  split at hx
  ·omega
  ·rename_i e
   have:=h.ht x hx;exact ⟨this.1,by rw [t.fr.tk];simp [this.2]⟩
 ·intro x
  rw [t.hd];split
  ·omega
  ·exact h.hm x
 ·intro x hx htx
  rw [t.us,t.hd,t.fr.pr]
  by_cases e:x=r
  ·subst e
   have hc:P.count x=0:=List.count_eq_zero.2 hnp
   simp [hlo,hhi,hpar,hc,one]
  ·rw [t.fr.tk] at htx
   simp [e] at htx
   have:=h.eq x hx htx
   simp only [e,if_false,hx,and_true]
   omega
 ·intro x hx
  rw [t.fr.tk,h.pt x hx];simp
 ·intro q p hq hp hpt
  by_cases e:q=r
  ·subst e
   rw [t.fr.at_] at hp;cases hp
   rw [t.fr.tk,t.fr.tk,h1,h2];simp
  ·rw [t.fr.ot q e] at hp
   have:=h.cl q p hq hp hpt
   rw [t.fr.tk,t.fr.tk,this.1,this.2];simp
 ·intro q p hq hp hpt
  rw [t.vr]
  by_cases e:q=r
  ·subst e
   rw [t.fr.at_] at hp;cases hp
   exact hv
  ·rw [t.fr.ot q e] at hp
   exact h.vr q p hq hp hpt
theorem TInv.took {T:List DM} {K K':KV} {lo hi r v:Nat} {D:DM} (h:TInv T K []) (t:K.Took (v:Int) lo hi r K') (hD:T[v]?=some D) (hno:Maps.has D (nk v lo hi)=false) :
  TInv (T.set v (D.put (nk v lo hi) (.lit (.int .u32 r)))) K' []:=by
 have hvl:=(List.getElem?_eq_some_iff.1 hD).1;have hIM:=h.im D (List.mem_of_getElem? hD);have hr2:=t.fr.two
 have hold:∀ (s:Nat) (c:PlaceV),K.A.list[s]?=some c->c.taken=true->s≠r:=by
  rintro s c hs hct rfl;have:=t.fr.no
  simp [ArenaV.tk,hs,hct] at this
 refine ⟨by rw [t.vr];simpa using h.len,?_,?_,?_⟩
 ·intro u D2 k hu hk
  have key:∀ (u:Nat) (D2:DM),T[u]?=some D2->Maps.has D2 k=true->∃ (r:Nat) (p:PlaceV),2<=r/\K'.A.list[r]?=some p/\p.taken=true/\p.var=(u:Int)/\k=nkp p/\r∉([]:List Nat):=by
   intro u D2 hu hk
   obtain ⟨s,c,h1,h2,h3,h4,h5,h6⟩:=h.dom u D2 k hu hk;exact ⟨s,c,h1,by rw [t.fr.ot s (hold s c h2 h3)];exact h2,h3,h4,h5,h6⟩
  by_cases e:u=v
  ·subst e
   rw [List.getElem?_set_self hvl] at hu;cases hu
   by_cases e2:k=nk u lo hi
   ·subst e2
    exact ⟨r,_,hr2,t.fr.at_,rfl,rfl,rfl,by simp⟩
   ·rw [has_put_other e2] at hk
    exact key u D hD hk
  ·rw [List.getElem?_set_ne (Ne.symm e)] at hu
   exact key u D2 hu hk
 ·intro s c D2 hs hc hct _ hD2
  by_cases e0:s=r
  ·subst e0
   rw [t.fr.at_] at hc;cases hc
   rw [show ((v:Int)).toNat=v by omega,List.getElem?_set_self hvl] at hD2;cases hD2
   exact ⟨has_put_same hIM (nk_isKey _ _ _) _,fun z=>atKey_put_same hIM (nk_isKey _ _ _) _ _⟩
  ·have hc0:=hc
   rw [t.fr.ot s e0] at hc
   by_cases e:c.var.toNat=v
   ·rw [e,List.getElem?_set_self hvl] at hD2;cases hD2
    obtain ⟨g1,g2⟩:=h.at_ s c D hs hc hct (by simp) (by rw [e];exact hD)
    have hk:nkp c≠nk v lo hi:=by
     intro e2
     rw [e2,hno] at g1;cases g1
    rw [has_put_other hk];exact ⟨g1,fun z=>by rw [atKey_put_other hk];exact g2 z⟩
   ·rw [List.getElem?_set_ne (Ne.symm e)] at hD2
    exact h.at_ s c D2 hs hc hct (by simp) hD2
 ·intro D2 hD2
  rcases List.mem_or_eq_of_mem_set hD2 with h1 | rfl
  ·exact h.im D2 h1
  ·exact hIM.put _ _
theorem KerMem.growUse {w w5:World} {b g5 cap:Nat} {X:Obj} {K:KV} {T:List DM} {q:KPtr} (h:KerMem w b K T q) (hg:(w.alloc X).grownBy w5 q.uv.ownBlock) (hat:q.uv.ownBlock=some g5\/g5=w.heap.size+1)
  (hown:w5.ownsRow 0 21 1 (.slice (some ⟨g5,0,none⟩) (K.uses.length+1) cap) (K.uses.length+1) (flat32 K.uses++[.int .i32 0])) :
  KerMem (w5.setCell ⟨b,2,none⟩ (.slice (some ⟨g5,0,none⟩) (K.uses.length+1) cap)) b { K with uses:=K.uses++[0] } T { q with uv:=.slice (some ⟨g5,0,none⟩) (K.uses.length+1) cap,o:=retag q w.heap.size 3 }:=by
 have hb:=heap_lt h.blk
 have hbg:b≠g5:=by
  rcases hat with e | e
  ·rintro rfl;have e1:=h.ob;have e2:=h.ou b e;omega
  ·omega
 have keep:∀ {k c:Nat},q.o k=c->c≠3->c≠0->k<w.heap.size->(w5.setCell ⟨b,2,none⟩ (.slice (some ⟨g5,0,none⟩) (K.uses.length+1) cap)).heap[k]?=w.heap[k]?:=by
  intro k c hk hc h0 hl
  rw [heap_set_ne (by rintro rfl;exact h0 (hk ▸ h.ob)),hg.block k (by rw [World.size_alloc];omega) (fun e=>hc (hk ▸ h.ou k e.symm)),heap_alloc_old _ _ hl]
 have hbk:w5.heap[b]?=w.heap[b]?:=by
  rw [hg.block b (by rw [World.size_alloc];omega) (fun e=>by have e1:=h.ob;have e2:=h.ou b e.symm;omega),heap_alloc_old _ _ hb]
 rw [h.blk] at hbk
 refine ⟨by rw [heap_set_eq hbk];simp,h.ar.keep fun k hm=>keep (h.oa k hm) (by omega) (by omega) (h.ar.lt k hm),h.tab.keep fun k hm=>keep (h.ot k hm) (by omega) (by omega) (h.tab.lt k hm),?_,?_,
  row_keep h.os fun k hm=>keep (h.oo k hm) (by omega) (by omega) (h.os.lt k hm).2,row_keep h.ls fun k hm=>keep (h.ol k hm) (by omega) (by omega) (h.ls.lt k hm).2,row_keep h.ts fun k hm=>keep (h.ox k hm) (by omega) (by omega) (h.ts.lt k hm).2,?_,?_,?_,?_,?_,?_,?_,?_⟩
 ·show World.ownsRow _ 0 _ 1 _ (K.uses++[0]).length (flat32 (K.uses++[0]))
  have e:=row_ne hown (a:=⟨b,2,none⟩) (by simpa [Value.ownBlock] using hbg) (.slice (some ⟨g5,0,none⟩) (K.uses.length+1) cap)
  simpa [flat32] using e
 ·exact row_keep h.hs fun k hm=>keep (h.oh k hm) (by omega) (by omega) (h.hs.lt k hm).2
 ·show retag q _ _ b=0
  rw [retag_old hb];exact h.ob
 ·intro k hk;show retag q _ _ k=1;rw [retag_old (h.ar.lt k hk)];exact h.oa k hk
 ·intro k hk;show retag q _ _ k=2;rw [retag_old (h.tab.lt k hk)];exact h.ot k hk
 ·intro k hk
  simp [Value.ownBlock] at hk;subst hk
  show retag q _ _ g5=3
  rcases hat with e | e
  ·rw [retag_old (h.us.lt g5 e).2];exact h.ou g5 e
  ·unfold retag;rw [if_pos (by omega)]
 ·intro k hk;show retag q _ _ k=4;rw [retag_old (h.hs.lt k hk).2];exact h.oh k hk
 ·intro k hk;show retag q _ _ k=5;rw [retag_old (h.os.lt k hk).2];exact h.oo k hk
 ·intro k hk;show retag q _ _ k=6;rw [retag_old (h.ls.lt k hk).2];exact h.ol k hk
 ·intro k hk;show retag q _ _ k=7;rw [retag_old (h.ts.lt k hk).2];exact h.ox k hk
theorem KerMem.growHold {w w5:World} {b g5 cap:Nat} {X:Obj} {K:KV} {T:List DM} {q:KPtr} (h:KerMem w b K T q) (hg:(w.alloc X).grownBy w5 q.hv.ownBlock) (hat:q.hv.ownBlock=some g5\/g5=w.heap.size+1)
  (hown:w5.ownsRow 0 21 1 (.slice (some ⟨g5,0,none⟩) (K.holds.length+1) cap) (K.holds.length+1) (flat32 K.holds++[.int .i32 0])) :
  KerMem (w5.setCell ⟨b,3,none⟩ (.slice (some ⟨g5,0,none⟩) (K.holds.length+1) cap)) b { K with holds:=K.holds++[0] } T { q with hv:=.slice (some ⟨g5,0,none⟩) (K.holds.length+1) cap,o:=retag q w.heap.size 4 }:=by
 have hb:=heap_lt h.blk
 have hbg:b≠g5:=by
  rcases hat with e | e
  ·rintro rfl;have e1:=h.ob;have e2:=h.oh b e;omega
  ·omega
 have keep:∀ {k c:Nat},q.o k=c->c≠4->c≠0->k<w.heap.size->(w5.setCell ⟨b,3,none⟩ (.slice (some ⟨g5,0,none⟩) (K.holds.length+1) cap)).heap[k]?=w.heap[k]?:=by
  intro k c hk hc h0 hl
  rw [heap_set_ne (by rintro rfl;exact h0 (hk ▸ h.ob)),hg.block k (by rw [World.size_alloc];omega) (fun e=>hc (hk ▸ h.oh k e.symm)),heap_alloc_old _ _ hl]
 have hbk:w5.heap[b]?=w.heap[b]?:=by
  rw [hg.block b (by rw [World.size_alloc];omega) (fun e=>by have e1:=h.ob;have e2:=h.oh b e.symm;omega),heap_alloc_old _ _ hb]
 rw [h.blk] at hbk
 refine ⟨by rw [heap_set_eq hbk];simp,h.ar.keep fun k hm=>keep (h.oa k hm) (by omega) (by omega) (h.ar.lt k hm),h.tab.keep fun k hm=>keep (h.ot k hm) (by omega) (by omega) (h.tab.lt k hm),?_,?_,
  row_keep h.os fun k hm=>keep (h.oo k hm) (by omega) (by omega) (h.os.lt k hm).2,row_keep h.ls fun k hm=>keep (h.ol k hm) (by omega) (by omega) (h.ls.lt k hm).2,row_keep h.ts fun k hm=>keep (h.ox k hm) (by omega) (by omega) (h.ts.lt k hm).2,?_,?_,?_,?_,?_,?_,?_,?_⟩
 ·exact row_keep h.us fun k hm=>keep (h.ou k hm) (by omega) (by omega) (h.us.lt k hm).2
 ·show World.ownsRow _ 0 _ 1 _ (K.holds++[0]).length (flat32 (K.holds++[0]))
  have e:=row_ne hown (a:=⟨b,3,none⟩) (by simpa [Value.ownBlock] using hbg) (.slice (some ⟨g5,0,none⟩) (K.holds.length+1) cap)
  simpa [flat32] using e
 ·show retag q _ _ b=0
  rw [retag_old hb];exact h.ob
 ·intro k hk;show retag q _ _ k=1;rw [retag_old (h.ar.lt k hk)];exact h.oa k hk
 ·intro k hk;show retag q _ _ k=2;rw [retag_old (h.tab.lt k hk)];exact h.ot k hk
 ·intro k hk;show retag q _ _ k=3;rw [retag_old (h.us.lt k hk).2];exact h.ou k hk
 ·intro k hk
  simp [Value.ownBlock] at hk;subst hk
  show retag q _ _ g5=4
  rcases hat with e | e
  ·rw [retag_old (h.hs.lt g5 e).2];exact h.oh g5 e
  ·unfold retag;rw [if_pos (by omega)]
 ·intro k hk;show retag q _ _ k=5;rw [retag_old (h.os.lt k hk).2];exact h.oo k hk
 ·intro k hk;show retag q _ _ k=6;rw [retag_old (h.ls.lt k hk).2];exact h.ol k hk
 ·intro k hk;show retag q _ _ k=7;rw [retag_old (h.ts.lt k hk).2];exact h.ox k hk
end Go.Proofs.YtpfafhmkbcahhaaGreat
namespace Go.Proofs.YtpfafhmkbcahhaaGreat
def KV.lev (K:KV) (v:Nat):Nat:=K.level.getD v 0
structure KV.Perm (K:KV):Prop where
 ol:K.order.length=K.vars
 ll:K.level.length=K.vars
 lo:∀ v,v<K.vars->K.lev v<K.vars/\K.order.getD (K.lev v) 0=v
 oo:∀ l,l<K.vars->K.order.getD l 0<K.vars/\K.lev (K.order.getD l 0)=l
theorem KV.Perm.inj {K:KV} (h:K.Perm) {u v:Nat} (hu:u<K.vars) (hv:v<K.vars) (e:K.lev u=K.lev v):u=v:=by
 rw [<- (h.lo u hu).2,<- (h.lo v hv).2,e]
def KV.dep (K:KV) (r:Nat):Nat:=match K.A.list[r]? with | some p=>if 0<=p.var then K.lev p.var.toNat else K.vars | none=>K.vars
structure KV.Ord (K:KV):Prop where
 pm:K.Perm
 ne:∀ (q:Nat) p,2<=q->K.A.list[q]?=some p->p.taken=true->p.lo≠p.hi
 lt:∀ (q:Nat) p,2<=q->K.A.list[q]?=some p->p.taken=true->K.lev p.var.toNat<K.dep p.lo/\K.lev p.var.toNat<K.dep p.hi
def KV.Uni (K:KV):Prop:=∀ (r s:Nat) (p c:PlaceV),2<=r->2<=s->K.A.list[r]?=some p->K.A.list[s]?=some c->p.taken=true->c.taken=true->p.var=c.var->p.lo=c.lo->p.hi=c.hi->r=s
def KV.denF (K:KV):Nat->Nat->(Nat->Bool)->Bool
 | 0,r,_=>r == 1
 | n+1,r,x=>if r<2 then r == 1 else match K.A.list[r]? with | some p=>if x p.var.toNat then K.denF n p.hi x else K.denF n p.lo x | none=>false
def KV.den (K:KV) (r:Nat) (x:Nat->Bool):Bool:=K.denF (K.vars+1) r x
theorem KV.Wf.node_at {K:KV} {P:List Nat} (h:K.Wf P) {r:Nat} (h2:2<=r) (ht:K.A.tk r=true):∃ (p:PlaceV) (v:Nat),K.A.list[r]?=some p/\p.taken=true/\p.var=(v:Int)/\v<K.vars/\K.A.tk p.lo=true/\K.A.tk p.hi=true/\K.dep r=K.lev v:=by
 obtain ⟨p,hp,hpt⟩:=ArenaV.tk_iff.1 ht;have h1:=h.vr r p h2 hp hpt;have h3:=h.cl r p h2 hp hpt;refine ⟨p,p.var.toNat,hp,hpt,by omega,by omega,h3.1,h3.2,?_⟩
 simp [KV.dep,hp,h1.1]
theorem KV.Wf.dep_const {K:KV} {P:List Nat} (h:K.Wf P) {r:Nat} (h2:r<2):K.dep r=K.vars:=by
 match r,h2 with
 | 0,_=>simp [KV.dep,h.ok.c0]
 | 1,_=>simp [KV.dep,h.ok.c1]
theorem KV.Wf.dep_le {K:KV} {P:List Nat} (h:K.Wf P) (ho:K.Ord) {r:Nat} (ht:K.A.tk r=true):K.dep r<=K.vars:=by
 by_cases h2:2<=r
 ·obtain ⟨p,v,_,_,_,hv,_,_,hd⟩:=h.node_at h2 ht
  have:=(ho.pm.lo v hv).1;omega
 ·rw [h.dep_const (by omega)];omega
theorem KV.Wf.dep_lt {K:KV} {P:List Nat} (h:K.Wf P) (ho:K.Ord) {r:Nat} (h2:2<=r) (ht:K.A.tk r=true):K.dep r<K.vars:=by
 obtain ⟨p,v,_,_,_,hv,_,_,hd⟩:=h.node_at h2 ht;have:=(ho.pm.lo v hv).1;omega
theorem KV.Ord.below {K:KV} {P:List Nat} (ho:K.Ord) (h:K.Wf P) {r:Nat} {p:PlaceV} (h2:2<=r) (hp:K.A.list[r]?=some p) (hpt:p.taken=true):K.dep r<K.dep p.lo/\K.dep r<K.dep p.hi:=by
 have h1:=h.vr r p h2 hp hpt
 have e:K.dep r=K.lev p.var.toNat:=by simp [KV.dep,hp,h1.1]
 rw [e];exact ho.lt r p h2 hp hpt
theorem KV.denF_eq {K:KV} {P:List Nat} (h:K.Wf P) (ho:K.Ord) (x:Nat->Bool):∀ (n m r:Nat),K.A.tk r=true->K.vars-K.dep r<n->K.vars-K.dep r<m->K.denF n r x=K.denF m r x:=by
 intro n
 induction n with
 | zero=>intro m r _ hn;omega
 | succ n ih =>
  intro m r ht hn hm
  obtain ⟨m,rfl⟩ : ∃ k,m=k+1:=⟨m-1,by omega⟩;unfold KV.denF;split
  ·rfl
  ·rename_i h2
   obtain ⟨p,v,hp,hpt,hv,hvl,h3,h4,hd⟩:=h.node_at (by omega) ht;have hb:=ho.below h (by omega) hp hpt;have hl:=h.dep_lt ho (by omega:2<=r) ht;rw [hp]
   simp only
   rw [ih m p.hi h4 (by omega) (by omega),ih m p.lo h3 (by omega) (by omega)]
theorem KV.den_const (K:KV) {r:Nat} (h:r<2) (x:Nat->Bool):K.den r x=(r == 1):=by
 unfold KV.den KV.denF;rw [if_pos h]
theorem KV.den_node {K:KV} {P:List Nat} (h:K.Wf P) (ho:K.Ord) {r:Nat} {p:PlaceV} (h2:2<=r) (hp:K.A.list[r]?=some p) (hpt:p.taken=true) (x:Nat->Bool) :
  K.den r x=if x p.var.toNat then K.den p.hi x else K.den p.lo x:=by
 have hb:=ho.below h h2 hp hpt;have hc:=h.cl r p h2 hp hpt
 have e:K.den r x=if x p.var.toNat then K.denF K.vars p.hi x else K.denF K.vars p.lo x:=by
  show K.denF (K.vars+1) r x=_
  rw [KV.denF,if_neg (by omega),hp]
 rw [e];have hl:=h.dep_le ho hc.1;have hl2:=h.dep_le ho hc.2;have e1:K.denF K.vars p.hi x=K.den p.hi x:=KV.denF_eq h ho x _ _ _ hc.2 (by omega) (by omega);have e2:K.denF K.vars p.lo x=K.den p.lo x:=KV.denF_eq h ho x _ _ _ hc.1 (by omega) (by omega);rw [e1,e2]
theorem KV.den_same {K:KV} {P:List Nat} (h:K.Wf P) (ho:K.Ord):∀ (n r:Nat) (x y:Nat->Bool),K.A.tk r=true->K.vars-K.dep r<=n->(∀ v,v<K.vars->K.dep r<=K.lev v->x v=y v)->K.den r x=K.den r y:=by
 intro n
 induction n with
 | zero =>
  intro r x y ht hn _
  by_cases h2:2<=r
  ·have:=h.dep_lt ho h2 ht;omega
  ·rw [K.den_const (by omega),K.den_const (by omega)]
 | succ n ih =>
  intro r x y ht hn hx
  by_cases h2:2<=r
  ·obtain ⟨p,v,hp,hpt,hv,hvl,h3,h4,hd⟩:=h.node_at h2 ht
   have hb:=ho.below h h2 hp hpt;have hl:=h.dep_lt ho h2 ht;rw [KV.den_node h ho h2 hp hpt,KV.den_node h ho h2 hp hpt]
   have e:p.var.toNat=v:=by omega
   rw [e,hx v hvl (by omega),ih p.hi x y h4 (by omega) (fun u hu h5=>hx u hu (by omega)),ih p.lo x y h3 (by omega) (fun u hu h5=>hx u hu (by omega))]
  ·rw [K.den_const (by omega),K.den_const (by omega)]
def upd (x:Nat->Bool) (v:Nat) (b:Bool):Nat->Bool:=fun u=>if u=v then b else x u
theorem upd_self (x:Nat->Bool) (v:Nat) (b:Bool):upd x v b v=b:=by simp [upd]
theorem upd_ne (x:Nat->Bool) {u v:Nat} (b:Bool) (h:u≠v):upd x v b u=x u:=by simp [upd,h]
theorem KV.den_upd {K:KV} {P:List Nat} (h:K.Wf P) (ho:K.Ord) {r v:Nat} (ht:K.A.tk r=true) (hv:v<K.vars) (hd:K.lev v<K.dep r) (x:Nat->Bool) (b:Bool):K.den r (upd x v b)=K.den r x :=
 KV.den_same h ho _ r _ _ ht (Nat.le_refl _) fun u _ h2=>upd_ne x b (by rintro rfl;omega)
theorem KV.den_lo {K:KV} {P:List Nat} (h:K.Wf P) (ho:K.Ord) {r:Nat} {p:PlaceV} (h2:2<=r) (hp:K.A.list[r]?=some p) (hpt:p.taken=true) (x:Nat->Bool):K.den r (upd x p.var.toNat false)=K.den p.lo x:=by
 have h1:=h.vr r p h2 hp hpt;have hl:=ho.lt r p h2 hp hpt;rw [KV.den_node h ho h2 hp hpt,upd_self];exact KV.den_upd h ho (h.cl r p h2 hp hpt).1 (by omega) hl.1 x false
theorem KV.den_hi {K:KV} {P:List Nat} (h:K.Wf P) (ho:K.Ord) {r:Nat} {p:PlaceV} (h2:2<=r) (hp:K.A.list[r]?=some p) (hpt:p.taken=true) (x:Nat->Bool):K.den r (upd x p.var.toNat true)=K.den p.hi x:=by
 have h1:=h.vr r p h2 hp hpt;have hl:=ho.lt r p h2 hp hpt;rw [KV.den_node h ho h2 hp hpt,upd_self];exact KV.den_upd h ho (h.cl r p h2 hp hpt).2 (by omega) hl.2 x true
theorem KV.canon {K:KV} {P:List Nat} (h:K.Wf P) (ho:K.Ord) (hu:K.Uni):∀ (n r s:Nat),K.A.tk r=true->K.A.tk s=true->K.vars-min (K.dep r) (K.dep s)<=n->(∀ x,K.den r x=K.den s x)->r=s:=by
 intro n
 induction n with
 | zero =>
  intro r s hr hs hn he
  have h1:r<2:=by
   by_cases h2:2<=r
   ·have:=h.dep_lt ho h2 hr;have:min (K.dep r) (K.dep s)<=K.dep r:=Nat.min_le_left _ _;omega
   ·omega
  have h2:s<2:=by
   by_cases h2:2<=s
   ·have:=h.dep_lt ho h2 hs;have:min (K.dep r) (K.dep s)<=K.dep s:=Nat.min_le_right _ _;omega
   ·omega
  have:=he (fun _=>false);rw [K.den_const h1,K.den_const h2] at this
  have e:(r=1)↔(s=1):=by rw [Bool.eq_iff_iff] at this;simpa using this
  omega
 | succ n ih =>
  have key:∀ (r s:Nat),K.A.tk r=true->K.A.tk s=true->K.dep r<=K.dep s->K.vars-K.dep r<=n+1->(∀ x,K.den r x=K.den s x)->r=s:=by
   intro r s hr hs hle hn he
   by_cases h2:2<=r
   ·obtain ⟨p,v,hp,hpt,hv,hvl,h3,h4,hd⟩:=h.node_at h2 hr
    have hb:=ho.below h h2 hp hpt;have hl:=h.dep_lt ho h2 hr
    by_cases hlt:K.dep r<K.dep s
    ·exfalso
     refine ho.ne r p h2 hp hpt (ih _ _ h3 h4 (by omega) fun x=>?_);rw [<- KV.den_lo h ho h2 hp hpt,<- KV.den_hi h ho h2 hp hpt,he,he,show p.var.toNat=v by omega];rw [KV.den_upd h ho hs hvl (by omega),KV.den_upd h ho hs hvl (by omega)]
    ·have hs2:2<=s:=by
      by_cases h5:2<=s
      ·exact h5
      ·have:=h.dep_const (r:=s) (by omega);omega
     obtain ⟨c,u,hc,hct,hu',hul,h5,h6,hd2⟩:=h.node_at hs2 hs;have hb2:=ho.below h hs2 hc hct;have euv:v=u:=ho.pm.inj hvl hul (by omega);subst euv;refine hu r s p c h2 hs2 hp hc hpt hct (by rw [hv,hu']) ?_ ?_
     ·refine ih _ _ h3 h5 (by omega) fun x=>?_
      rw [<- KV.den_lo h ho h2 hp hpt,<- KV.den_lo h ho hs2 hc hct,he,hv,hu']
     ·refine ih _ _ h4 h6 (by omega) fun x=>?_
      rw [<- KV.den_hi h ho h2 hp hpt,<- KV.den_hi h ho hs2 hc hct,he,hv,hu']
   ·have h5:s<2:=by
     by_cases h5:2<=s
     ·have:=h.dep_lt ho h5 hs
      have:=h.dep_const (r:=r) (by omega);omega
     ·omega
    have:=he (fun _=>false);rw [K.den_const (by omega),K.den_const h5] at this
    have e:(r=1)↔(s=1):=by rw [Bool.eq_iff_iff] at this;simpa using this
    omega
  intro r s hr hs hn he
  by_cases hle:K.dep r<=K.dep s
  ·exact key r s hr hs hle (by omega) he
  ·exact (key s r hs hr (by omega) (by omega) fun x=>(he x).symm).symm
structure KV.Ext (K K':KV):Prop where
 nd:∀ (r:Nat) (p:PlaceV),K.A.list[r]?=some p->p.taken=true->K'.A.list[r]?=some p
 pl:K'.A.places=K.A.places
 vr:K'.vars=K.vars
 od:K'.order=K.order
 lv:K'.level=K.level
theorem KV.Ext.refl (K:KV):K.Ext K:=⟨fun _ _ h _=>h,rfl,rfl,rfl,rfl⟩
theorem KV.Ext.trans {A B C:KV} (h:A.Ext B) (k:B.Ext C):A.Ext C :=
 ⟨fun r p h1 h2=>k.nd r p (h.nd r p h1 h2) h2,k.pl.trans h.pl,k.vr.trans h.vr,k.od.trans h.od,k.lv.trans h.lv⟩
theorem KV.Took.ext {K K':KV} {v:Int} {lo hi r:Nat} (t:K.Took v lo hi r K'):K.Ext K':=by
 refine ⟨fun s p hs hp=>?_,t.fr.pl,t.vr,t.od,t.lv⟩;rw [t.fr.ot s]
 ·exact hs
 ·rintro rfl
  have:=t.fr.no
  simp [ArenaV.tk,hs,hp] at this
theorem KV.Ext.tk {K K':KV} (h:K.Ext K') {r:Nat} (ht:K.A.tk r=true):K'.A.tk r=true:=by
 obtain ⟨p,hp,hpt⟩:=ArenaV.tk_iff.1 ht;exact ArenaV.tk_iff.2 ⟨p,h.nd r p hp hpt,hpt⟩
theorem KV.Ext.lev {K K':KV} (h:K.Ext K') (v:Nat):K'.lev v=K.lev v:=by simp [KV.lev,h.lv]
theorem KV.Ext.dep {K K':KV} (h:K.Ext K') {r:Nat} (ht:K.A.tk r=true):K'.dep r=K.dep r:=by
 obtain ⟨p,hp,hpt⟩:=ArenaV.tk_iff.1 ht
 simp [KV.dep,hp,h.nd r p hp hpt,h.lev,h.vr]
theorem KV.Ext.den {K K':KV} {P:List Nat} (h:K.Ext K') (hw:K.Wf P) (x:Nat->Bool):∀ {r:Nat},K.A.tk r=true->K'.den r x=K.den r x:=by
 have key:∀ (n r:Nat),K.A.tk r=true->K'.denF n r x=K.denF n r x:=by
  intro n
  induction n with
  | zero=>intro r _;rfl
  | succ n ih =>
   intro r ht
   unfold KV.denF;split
   ·rfl
   ·rename_i h2
    obtain ⟨p,hp,hpt⟩:=ArenaV.tk_iff.1 ht;have hc:=hw.cl r p (by omega) hp hpt;rw [hp,h.nd r p hp hpt]
    simp only
    rw [ih p.hi hc.2,ih p.lo hc.1]
 intro r ht
 unfold KV.den
 rw [h.vr];exact key _ r ht
inductive KV.Reach (K:KV):Nat->Prop
 | root {r:Nat} (h:0<K.hold r):K.Reach r
 | lo {q:Nat} {p:PlaceV} (h:K.Reach q) (h2:2<=q) (hp:K.A.list[q]?=some p) (hpt:p.taken=true):K.Reach p.lo
 | hi {q:Nat} {p:PlaceV} (h:K.Reach q) (h2:2<=q) (hp:K.A.list[q]?=some p) (hpt:p.taken=true):K.Reach p.hi
theorem KV.live_reach {K:KV} (hw:K.Wf []) (hp:K.Pos) (ho:K.Ord):∀ (n r:Nat),2<=r->K.A.tk r=true->K.dep r<=n->K.Reach r:=by
 intro n
 induction n using Nat.strongRecOn with
 | ind n ih =>
  intro r h2 ht hn
  have h1:=hp r h2 ht;rw [hw.eq r h2 ht] at h1
  by_cases hh:0<K.hold r
  ·exact .root hh
  ·have:one (K.hold r)=0:=by simp [one,hh]
   have hpp:0<par K.A.list r:=by simp [this] at h1;exact h1
   obtain ⟨q,p,hq,hqt,hlh⟩:=par_pos hpp
   have hq2:2<=q:=by
    match q,hq with
    | 0,hq=>rw [hw.ok.c0] at hq;cases hq;simp at hlh;omega
    | 1,hq=>rw [hw.ok.c1] at hq;cases hq;simp at hlh;omega
    | q+2,_=>omega
   have hb:=ho.below hw hq2 hq hqt;have hqk:K.A.tk q=true:=ArenaV.tk_iff.2 ⟨p,hq,hqt⟩
   rcases hlh with e | e
   ·have:=ih (K.dep q) (by rw [<- e] at hn;omega) q hq2 hqk (Nat.le_refl _)
    rw [<- e];exact .lo this hq2 hq hqt
   ·have:=ih (K.dep q) (by rw [<- e] at hn;omega) q hq2 hqk (Nat.le_refl _)
    rw [<- e];exact .hi this hq2 hq hqt
theorem KV.Perm.same {K K':KV} (h:K.Perm) (vr:K'.vars=K.vars) (od:K'.order=K.order) (lv:K'.level=K.level):K'.Perm:=by
 have e:∀ v,K'.lev v=K.lev v:=fun v=>by simp [KV.lev,lv]
 exact ⟨by rw [od,vr];exact h.ol,by rw [lv,vr];exact h.ll,fun v hv=>by rw [e,od,vr];exact h.lo v (by omega),fun l hl=>by rw [e,od,vr];exact h.oo l (by omega)⟩
theorem KV.Ord.same {K K':KV} (h:K.Ord) (hA:K'.A=K.A) (vr:K'.vars=K.vars) (od:K'.order=K.order) (lv:K'.level=K.level):K'.Ord:=by
 have e:∀ v,K'.lev v=K.lev v:=fun v=>by simp [KV.lev,lv]
 have d:∀ r,K'.dep r=K.dep r:=fun r=>by simp [KV.dep,hA,e,vr]
 exact ⟨h.pm.same vr od lv,by rw [hA];exact h.ne,fun q p h2 hp hpt=>by rw [e,d,d];exact h.lt q p h2 (by rw [<- hA];exact hp) hpt⟩
theorem KV.Ext.ord_down {K K':KV} {P:List Nat} (h:K'.Ext K) (hw:K'.Wf P) (ho:K.Ord):K'.Ord:=by
 refine ⟨ho.pm.same h.vr.symm h.od.symm h.lv.symm,fun q p h2 hp hpt=>ho.ne q p h2 (h.nd q p hp hpt) hpt,fun q p h2 hp hpt=>?_⟩;have hc:=hw.cl q p h2 hp hpt;rw [<- h.lev,<- h.dep hc.1,<- h.dep hc.2];exact ho.lt q p h2 (h.nd q p hp hpt) hpt
theorem KV.Took.ord {K K':KV} {P:List Nat} {v lo hi r:Nat} (t:K.Took (v:Int) lo hi r K') (hw:K.Wf P) (ho:K.Ord) (h1:K.A.tk lo=true) (h2:K.A.tk hi=true) (hne:lo≠hi) (hl:K.lev v<K.dep lo) (hh:K.lev v<K.dep hi):K'.Ord:=by
 have e:=t.ext;refine ⟨ho.pm.same t.vr t.od t.lv,fun q p hq hp hpt=>?_,fun q p hq hp hpt=>?_⟩
 ·by_cases e0:q=r
  ·subst e0;rw [t.fr.at_] at hp;cases hp;exact hne
  ·rw [t.fr.ot q e0] at hp;exact ho.ne q p hq hp hpt
 ·by_cases e0:q=r
  ·subst e0;rw [t.fr.at_] at hp;cases hp
   rw [e.dep h1,e.dep h2,e.lev];exact ⟨hl,hh⟩
  ·rw [t.fr.ot q e0] at hp
   have hc:=hw.cl q p hq hp hpt
   rw [e.dep hc.1,e.dep hc.2,e.lev];exact ho.lt q p hq hp hpt
theorem KV.Took.pos {K K':KV} {v:Int} {lo hi r:Nat} (t:K.Took v lo hi r K') (h:K.Pos):∀ s,s≠r->2<=s->K'.A.tk s=true->0<K'.use s:=by
 intro s hs h2 ht
 rw [t.fr.tk] at ht
 simp [hs] at ht
 have:=h s h2 ht
 rw [t.us,if_neg hs];omega
def KV.keepK (K:KV) (r:Nat):KV:=if 2<=r then { K with holds:=K.holds.set r (K.hold r+1),uses:=if K.hold r=0 then K.uses.set r (K.use r+1) else K.uses,trail:=[] } else { K with trail:=[] }
theorem KV.keepK_A (K:KV) (r:Nat):(K.keepK r).A=K.A:=by unfold KV.keepK;split <;> rfl
theorem KV.keepK_vars (K:KV) (r:Nat):(K.keepK r).vars=K.vars:=by unfold KV.keepK;split <;> rfl
theorem KV.keepK_order (K:KV) (r:Nat):(K.keepK r).order=K.order:=by unfold KV.keepK;split <;> rfl
theorem KV.keepK_level (K:KV) (r:Nat):(K.keepK r).level=K.level:=by unfold KV.keepK;split <;> rfl
theorem KV.keepK_trail (K:KV) (r:Nat):(K.keepK r).trail=[]:=by unfold KV.keepK;split <;> rfl
theorem KV.Wf.keepK_hold {K:KV} {P:List Nat} (h:K.Wf P) {r:Nat} (ht:K.A.tk r=true) (x:Nat):(K.keepK r).hold x=if x=r/\2<=r then K.hold x+1 else K.hold x:=by
 unfold KV.keepK
 by_cases h2:2<=r
 ·rw [if_pos h2]
  show (K.holds.set r (K.hold r+1)).getD x 0=_
  have hl:=h.tu r h2 ht;have:=h.len;rw [getD_set (by omega)]
  by_cases e:x=r
  ·subst e;simp [h2]
  ·simp [e];rfl
 ·rw [if_neg h2];simp [h2];rfl
theorem KV.Wf.keepK_use {K:KV} {P:List Nat} (h:K.Wf P) {r:Nat} (ht:K.A.tk r=true) (x:Nat):(K.keepK r).use x=if x=r/\2<=r/\K.hold r=0 then K.use x+1 else K.use x:=by
 unfold KV.keepK
 by_cases h2:2<=r
 ·rw [if_pos h2]
  by_cases h0:K.hold r=0
  ·simp only [h0,if_true]
   show (K.uses.set r (K.use r+1)).getD x 0=_
   rw [getD_set (h.tu r h2 ht)]
   by_cases e:x=r
   ·subst e;simp [h2]
   ·simp [e];rfl
  ·simp [h0,KV.use]
 ·rw [if_neg h2];simp [h2];rfl
theorem KV.Wf.keepK {K:KV} {P:List Nat} (h:K.Wf P) {r:Nat} (ht:K.A.tk r=true) (hm:K.hold r<65535):(K.keepK r).Wf P:=by
 have hlen:(K.keepK r).uses.length=K.uses.length:=by unfold KV.keepK;split <;> simp;split <;> simp
 have hlen2:(K.keepK r).holds.length=K.holds.length:=by unfold KV.keepK;split <;> simp
 refine ⟨by rw [K.keepK_A];exact h.ok,by rw [hlen,hlen2];exact h.len,by rw [hlen,K.keepK_A];exact h.ul,by rw [hlen,K.keepK_A];exact h.tu,?_,?_,?_,by rw [K.keepK_A];exact h.pt,by rw [K.keepK_A];exact h.cl,by rw [K.keepK_A,K.keepK_vars];exact h.vr,by rw [K.keepK_vars];exact h.vs⟩
 ·intro x hx
  rw [h.keepK_hold ht] at hx;rw [K.keepK_A]
  split at hx
  ·rename_i e;rw [e.1];exact ⟨e.2,ht⟩
  ·exact h.ht x hx
 ·intro x
  rw [h.keepK_hold ht];split
  ·rename_i e;rw [e.1];omega
  ·exact h.hm x
 ·intro x h2 htx
  rw [K.keepK_A] at htx ⊢;have:=h.eq x h2 htx;rw [h.keepK_hold ht,h.keepK_use ht]
  by_cases e:x=r
  ·subst e
   by_cases h0:K.hold x=0
   ·simp [h2,h0,one] at this ⊢;omega
   ·simp [h2,h0,one] at this ⊢
    have h9:0<K.hold x:=by omega
    simp [h9] at this;omega
  ·simp [e];exact this
theorem KV.Wf.keepK_pos {K:KV} {P:List Nat} (h:K.Wf P) {r:Nat} (ht:K.A.tk r=true) (hp:∀ s,s≠r->2<=s->K.A.tk s=true->0<K.use s) (h0:0<K.hold r->0<K.use r):(K.keepK r).Pos:=by
 intro s h2 hts
 rw [K.keepK_A] at hts;rw [h.keepK_use ht]
 by_cases e:s=r
 ·subst e
  by_cases h3:K.hold s=0
  ·simp [h2,h3]
  ·simp [h3];exact h0 (by omega)
 ·simp [e];exact hp s e h2 hts
def KV.dropH (K:KV) (r:Nat):KV:={ K with holds:=K.holds.set r (K.hold r-1) }
theorem KV.Wf.dropH_hold {K:KV} {P:List Nat} (h:K.Wf P) {r:Nat} (hh:0<K.hold r) (x:Nat):(K.dropH r).hold x=if x=r then K.hold r-1 else K.hold x:=by
 have h1:=h.ht r hh;have h2:=h.tu r h1.1 h1.2;have:=h.len
 show (K.holds.set r (K.hold r-1)).getD x 0=_
 rw [getD_set (by omega)];rfl
theorem KV.Wf.dropH {K:KV} {P:List Nat} (h:K.Wf P) {r:Nat} (hh:0<K.hold r):(K.dropH r).Wf (if K.hold r=1 then r::P else P):=by
 have h1:=h.ht r hh;refine ⟨h.ok,by simpa [KV.dropH] using h.len,h.ul,h.tu,?_,?_,?_,?_,h.cl,h.vr,h.vs⟩
 ·intro x hx
  rw [h.dropH_hold hh] at hx
  split at hx
  ·rename_i e;subst e;exact h1
  ·exact h.ht x hx
 ·intro x
  rw [h.dropH_hold hh];have:=h.hm r;have:=h.hm x
  split <;> omega
 ·intro x h2 htx
  have:=h.eq x h2 htx;rw [h.dropH_hold hh]
  show K.use x=par K.A.list x+_+_
  by_cases e:x=r
  ·subst e
   by_cases h3:K.hold x=1
   ·simp [h3,one] at this ⊢;omega
   ·have h4:0<K.hold x-1:=by omega
    simp [h3,one,hh,h4] at this ⊢;exact this
  ·rw [if_neg e,this]
   split
   ·rw [List.count_cons_of_ne (Ne.symm e)]
   ·rfl
 ·intro x hx
  split at hx
  ·rcases List.mem_cons.1 hx with rfl | hx
   ·exact h1.2
   ·exact h.pt x hx
  ·exact h.pt x hx
structure KV.Ok (K:KV):Prop where
 wf:K.Wf []
 pos:K.Pos
 ord:K.Ord
 tl:∀ l,l∈K.trail->l+2<=K.vars
structure KV.Dropped (K:KV) (r:Nat) (K':KV):Prop where
 ext:K'.Ext K
 hd:∀ x,K'.hold x=if x=r/\2<=r then K.hold x-1 else K.hold x
 tr:K'.trail=[]
 us:K'.A.used<=K.A.used
structure KV.Kept (K:KV) (r:Nat) (K':KV):Prop where
 A:K'.A=K.A
 vr:K'.vars=K.vars
 od:K'.order=K.order
 lv:K'.level=K.level
 hd:∀ x,K'.hold x=if x=r/\2<=r then K.hold x+1 else K.hold x
 tr:K'.trail=[]
structure KV.Made (K:KV) (v lo hi r:Nat) (K':KV):Prop where
 ext:K.Ext K'
 no:K.A.tk r=false
 two:2<=r
 at_:K'.A.list[r]?=some ⟨v,lo,hi,true,0⟩
 tk:∀ x,K'.A.tk x=(decide (x=r)||K.A.tk x)
 us:K'.A.used=K.A.used+1
 hd:∀ x,K'.hold x=if x=r then 1 else K.hold x
 tr:K'.trail=[]
theorem KV.Ok.kept {K:KV} (h:K.Ok) {r:Nat} (ht:K.A.tk r=true) (hm:K.hold r<65535):(K.keepK r).Ok/\K.Kept r (K.keepK r):=by
 refine ⟨⟨h.wf.keepK ht hm,h.wf.keepK_pos ht (fun s _ h2 hs=>h.pos s h2 hs) (fun hh=>h.pos r (h.wf.ht r hh).1 ht),h.ord.same (K.keepK_A r) (K.keepK_vars r) (K.keepK_order r) (K.keepK_level r),by rw [K.keepK_trail];simp⟩,?_⟩;exact ⟨K.keepK_A r,K.keepK_vars r,K.keepK_order r,K.keepK_level r,h.wf.keepK_hold ht,K.keepK_trail r⟩
theorem KV.Kept.ext {K K':KV} {r:Nat} (h:K.Kept r K'):K.Ext K':=⟨fun _ _ h1 _=>by rw [h.A];exact h1,by rw [h.A],h.vr,h.od,h.lv⟩
theorem KV.Ok.made {K K1:KV} {v lo hi r:Nat} (h:K.Ok) (t:K.Took (v:Int) lo hi r K1) (h1:K.A.tk lo=true) (h2:K.A.tk hi=true) (hv:v<K.vars) (hne:lo≠hi) (hl:K.lev v<K.dep lo) (hh:K.lev v<K.dep hi) :
  (K1.keepK r).Ok/\K.Made v lo hi r (K1.keepK r):=by
 have hw:=t.wf h.wf h1 h2 ⟨by omega,by omega⟩;have ho:=t.ord h.wf h.ord h1 h2 hne hl hh
 have htr:K1.A.tk r=true:=by rw [t.fr.tk];simp
 have h0:K1.hold r=0:=by rw [t.hd,if_pos rfl]
 refine ⟨⟨hw.keepK htr (by omega),hw.keepK_pos htr (t.pos h.pos) (by omega),ho.same (K1.keepK_A r) (K1.keepK_vars r) (K1.keepK_order r) (K1.keepK_level r),by rw [K1.keepK_trail];simp⟩,?_⟩;have e:=t.ext;refine ⟨⟨fun s p hs hp=>by rw [K1.keepK_A];exact e.nd s p hs hp,by rw [K1.keepK_A];exact e.pl,by rw [K1.keepK_vars];exact e.vr,by rw [K1.keepK_order];exact e.od,by rw [K1.keepK_level];exact e.lv⟩,t.fr.no,t.fr.two,by rw [K1.keepK_A];exact t.fr.at_,by rw [K1.keepK_A];exact t.fr.tk,by rw [K1.keepK_A];exact t.fr.us,?_,K1.keepK_trail r⟩
 intro x
 rw [hw.keepK_hold htr];have:=t.fr.two
 by_cases e:x=r
 ·subst e;simp [h0];omega
 ·simp [e];rw [t.hd,if_neg e]
end Go.Proofs.YtpfafhmkbcahhaaGreat
