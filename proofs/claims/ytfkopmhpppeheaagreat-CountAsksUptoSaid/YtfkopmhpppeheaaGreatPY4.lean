import Derived.Test.YtfkopmhpppeheaaGreatPY3
import Derived.Deep.DeepCutAuto
set_option maxRecDepth 100000
set_option maxHeartbeats 1600000
namespace Go.Proofs.YtfkopmhpppeheaaGreat
open Go.RowKit Go.Maps Go.ChangeMaps Go.WideShapes
structure Fresh (A:ArenaV) (v:Int) (lo hi r:Nat) (A':ArenaV):Prop where
 ok:A'.Ok
 two:2<=r
 no:A.tk r=false
 at_:A'.list[r]?=some ⟨v,lo,hi,true,0⟩
 ot:∀ s,s≠r->A'.list[s]?=A.list[s]?
 us:A'.used=A.used+1
 pl:A'.places=A.places
 ll:r<A'.list.length/\A.list.length<=A'.list.length
 pr:∀ x,par A'.list x=par A.list x+(if lo=x then 1 else 0)+(if hi=x then 1 else 0)
theorem Fresh.put {A:ArenaV} (h:A.Ok) {F:List Nat} {r:Nat} (hf:A.free=F++[r]) {v:Int} {lo hi:Nat} (h1:lo<=4294967295) (h2:hi<=4294967295):Fresh A v lo hi r (A.put F r v lo hi):=by
 obtain ⟨p,hp,hpt⟩:=(h.fr r).1 (by rw [hf];simp);have hlt:=(List.getElem?_eq_some_iff.1 hp).1;refine ⟨h.put hf h1 h2,?_,?_,?_,?_,rfl,rfl,?_,?_⟩
 ·match r,hp with
  | 0,hp=>rw [h.c0] at hp;cases hp;simp at hpt
  | 1,hp=>rw [h.c1] at hp;cases hp;simp at hpt
  | r+2,_=>omega
 ·simp [ArenaV.tk,hp,hpt]
 ·simp only [ArenaV.put]
  rw [List.getElem?_set_self hlt]
 ·intro s hs
  simp only [ArenaV.put]
  rw [List.getElem?_set_ne (Ne.symm hs)]
 ·simp [ArenaV.put];exact hlt
 ·intro x
  simp only [ArenaV.put]
  have e:=par_set (q:=⟨v,lo,hi,true,0⟩) hp x
  have e1:cnt p x=0:=by simp [cnt,hpt]
  have e2:cnt ⟨v,lo,hi,true,0⟩ x=(if lo=x then 1 else 0)+(if hi=x then 1 else 0):=by simp [cnt]
  omega
theorem Fresh.push {A:ArenaV} (h:A.Ok) (hl:A.list.length<A.places) {v:Int} {lo hi:Nat} (h1:lo<=4294967295) (h2:hi<=4294967295):Fresh A v lo hi A.list.length (A.push v lo hi):=by
 refine ⟨h.push hl h1 h2,?_,?_,?_,?_,rfl,rfl,?_,?_⟩
 ·exact h.l2
 ·simp [ArenaV.tk]
 ·simp [ArenaV.push]
 ·intro s hs
  simp only [ArenaV.push]
  rw [List.getElem?_append];split
  ·rfl
  ·rw [List.getElem?_eq_none (by simp;omega),List.getElem?_eq_none (by omega)]
 ·simp [ArenaV.push]
 ·intro x
  simp only [ArenaV.push]
  rw [par_append]
  simp [par,cnt];omega
theorem alloc_any (b:Nat) (F:List Nat) (v:Int) (lo hi:Nat) (A:ArenaV) (w:World) (h:ArenaAt w b A F) (h1:lo<=4294967295) (h2:hi<=4294967295)
  (hroom:A.used<A.places) (hc:A.checkE v lo hi=0) :
  Calls Tryz.prog 239 #[.pointer (some ⟨b,0,none⟩),.agg #[.int .i64 v,.int .u32 lo,.int .u32 hi]] w fun e w' =>
   ∃ (r:Nat) (A':ArenaV) (F':List Nat),e=.returned (.tuple #[.int .u32 r,.int .i64 0])/\Fresh A v lo hi r A'/\ArenaAt w' b A' F'/\Upd F w w'/\Sub F w F':=by
 rcases List.eq_nil_or_concat A.free with hf | ⟨fr,r,hf⟩
 ·have hl:A.list.length<A.places:=by have:=h.ok.us;rw [hf] at this;simp at this;omega
  refine (alloc_push b F v lo hi A w h h1 h2 hf hl hc).mono ?_;rintro e w' ⟨rfl,F',a1,a2,a3⟩;exact ⟨_,_,F',rfl,Fresh.push h.ok hl h1 h2,a1,a2,a3⟩
 ·rw [List.concat_eq_append] at hf
  refine (alloc_free b F v lo hi r fr A w h h1 h2 hf hc).mono ?_;rintro e w' ⟨rfl,a1,a2⟩;exact ⟨_,_,F,rfl,Fresh.put h.ok hf h1 h2,a1,a2,Sub.refl _ _⟩
theorem Fresh.tk {A A':ArenaV} {v:Int} {lo hi r:Nat} (h:Fresh A v lo hi r A') (x:Nat):A'.tk x=(decide (x=r)||A.tk x):=by
 by_cases e:x=r
 ·subst e;simp [ArenaV.tk,h.at_]
 ·unfold ArenaV.tk;rw [h.ot x e];simp [e]
theorem Fresh.room {A A':ArenaV} {v:Int} {lo hi r:Nat} (h:Fresh A v lo hi r A'):r<=1048575:=by
 have h1:=h.ll.1;have h2:=h.ok.lp;have h3:=h.ok.pm;omega
structure KV.Took (K:KV) (v:Int) (lo hi r:Nat) (K':KV):Prop where
 fr:Fresh K.A v lo hi r K'.A
 ul:K.uses.length<=K'.uses.length/\r<K'.uses.length/\K'.uses.length<=K'.A.list.length
 hl:K'.holds.length=K'.uses.length
 us:∀ x,K'.use x=(if x=r then 0 else K.use x)+(if lo=x/\2<=x then 1 else 0)+(if hi=x/\2<=x then 1 else 0)
 hd:∀ x,K'.hold x=if x=r then 0 else K.hold x
 vr:K'.vars=K.vars
 od:K'.order=K.order
 lv:K'.level=K.level
 tr:K'.trail=K.trail
theorem KV.Took.wf {K K':KV} {P:List Nat} {v:Int} {lo hi r:Nat} (t:K.Took v lo hi r K') (h:K.Wf P) (h1:K.A.tk lo=true) (h2:K.A.tk hi=true) (hv:0<=v/\v<K.vars):K'.Wf P:=by
 have hno:=t.fr.no
 have hlo:lo≠r:=by rintro rfl;rw [hno] at h1;cases h1
 have hhi:hi≠r:=by rintro rfl;rw [hno] at h2;cases h2
 have hr2:=t.fr.two
 have hpar:par K.A.list r=0:=par_zero fun q p hp hpt=>by
  by_cases hq:2<=q
  ·have:=h.cl q p hq hp hpt
   constructor
   ·rintro rfl;rw [hno] at this;simp at this
   ·rintro rfl;rw [hno] at this;simp at this
  ·match q,hp with
   | 0,hp=>rw [h.ok.c0] at hp;cases hp;simp;omega
   | 1,hp=>rw [h.ok.c1] at hp;cases hp;simp;omega
   | q+2,_=>omega
 have hnp:r∉P:=fun hm=>by have:=h.pt r hm;rw [hno] at this;cases this
 refine ⟨t.fr.ok,t.hl,t.ul.2.2,?_,?_,?_,?_,?_,?_,?_,by rw [t.vr];exact h.vs⟩
 ·intro x hx htx
  rw [t.fr.tk] at htx
  by_cases e:x=r
  ·rw [e];exact t.ul.2.1
  ·simp [e] at htx
   have:=h.tu x hx htx;have:=t.ul.1;omega
 ·intro x hx
  rw [t.hd] at hx
  split at hx
  ·omega
  ·rename_i e
   have:=h.ht x hx;exact ⟨this.1,by rw [t.fr.tk];simp [this.2]⟩
 ·intro x
  rw [t.hd];split
  ·omega
  ·exact h.hm x
 ·intro x hx htx
  rw [t.us,t.hd,t.fr.pr]
  by_cases e:x=r
  ·subst e
   have hc:P.count x=0:=List.count_eq_zero.2 hnp
   simp [hlo,hhi,hpar,hc,one]
  ·rw [t.fr.tk] at htx
   simp [e] at htx
   have:=h.eq x hx htx
   simp only [e,if_false,hx,and_true]
   omega
 ·intro x hx
  rw [t.fr.tk,h.pt x hx];simp
 ·intro q p hq hp hpt
  by_cases e:q=r
  ·subst e
   rw [t.fr.at_] at hp;cases hp
   rw [t.fr.tk,t.fr.tk,h1,h2];simp
  ·rw [t.fr.ot q e] at hp
   have:=h.cl q p hq hp hpt
   rw [t.fr.tk,t.fr.tk,this.1,this.2];simp
 ·intro q p hq hp hpt
  rw [t.vr]
  by_cases e:q=r
  ·subst e
   rw [t.fr.at_] at hp;cases hp
   exact hv
  ·rw [t.fr.ot q e] at hp
   exact h.vr q p hq hp hpt
theorem TInv.took {T:List DM} {K K':KV} {lo hi r v:Nat} {D:DM} (h:TInv T K []) (t:K.Took (v:Int) lo hi r K') (hD:T[v]?=some D) (hno:Maps.has D (nk v lo hi)=false) :
  TInv (T.set v (D.put (nk v lo hi) (.lit (.int .u32 r)))) K' []:=by
 have hvl:=(List.getElem?_eq_some_iff.1 hD).1;have hIM:=h.im D (List.mem_of_getElem? hD);have hr2:=t.fr.two
 have hold:∀ (s:Nat) (c:PlaceV),K.A.list[s]?=some c->c.taken=true->s≠r:=by
  rintro s c hs hct rfl;have:=t.fr.no
  simp [ArenaV.tk,hs,hct] at this
 refine ⟨by rw [t.vr];simpa using h.len,?_,?_,?_⟩
 ·intro u D2 k hu hk
  have key:∀ (u:Nat) (D2:DM),T[u]?=some D2->Maps.has D2 k=true->∃ (r:Nat) (p:PlaceV),2<=r/\K'.A.list[r]?=some p/\p.taken=true/\p.var=(u:Int)/\k=nkp p/\r∉([]:List Nat):=by
   intro u D2 hu hk
   obtain ⟨s,c,h1,h2,h3,h4,h5,h6⟩:=h.dom u D2 k hu hk;exact ⟨s,c,h1,by rw [t.fr.ot s (hold s c h2 h3)];exact h2,h3,h4,h5,h6⟩
  by_cases e:u=v
  ·subst e
   rw [List.getElem?_set_self hvl] at hu;cases hu
   by_cases e2:k=nk u lo hi
   ·subst e2
    exact ⟨r,_,hr2,t.fr.at_,rfl,rfl,rfl,by simp⟩
   ·rw [has_put_other e2] at hk
    exact key u D hD hk
  ·rw [List.getElem?_set_ne (Ne.symm e)] at hu
   exact key u D2 hu hk
 ·intro s c D2 hs hc hct _ hD2
  by_cases e0:s=r
  ·subst e0
   rw [t.fr.at_] at hc;cases hc
   rw [show ((v:Int)).toNat=v by omega,List.getElem?_set_self hvl] at hD2;cases hD2
   exact ⟨has_put_same hIM (nk_isKey _ _ _) _,fun z=>atKey_put_same hIM (nk_isKey _ _ _) _ _⟩
  ·have hc0:=hc
   rw [t.fr.ot s e0] at hc
   by_cases e:c.var.toNat=v
   ·rw [e,List.getElem?_set_self hvl] at hD2;cases hD2
    obtain ⟨g1,g2⟩:=h.at_ s c D hs hc hct (by simp) (by rw [e];exact hD)
    have hk:nkp c≠nk v lo hi:=by
     intro e2
     rw [e2,hno] at g1;cases g1
    rw [has_put_other hk];exact ⟨g1,fun z=>by rw [atKey_put_other hk];exact g2 z⟩
   ·rw [List.getElem?_set_ne (Ne.symm e)] at hD2
    exact h.at_ s c D2 hs hc hct (by simp) hD2
 ·intro D2 hD2
  rcases List.mem_or_eq_of_mem_set hD2 with h1 | rfl
  ·exact h.im D2 h1
  ·exact hIM.put _ _
theorem KerMem.growUse {w w5:World} {b g5 cap:Nat} {X:Obj} {K:KV} {T:List DM} {q:KPtr} (h:KerMem w b K T q) (hg:(w.alloc X).grownBy w5 q.uv.ownBlock) (hat:q.uv.ownBlock=some g5\/g5=w.heap.size+1)
  (hown:w5.ownsRow 0 21 1 (.slice (some ⟨g5,0,none⟩) (K.uses.length+1) cap) (K.uses.length+1) (flat32 K.uses++[.int .i32 0])) :
  KerMem (w5.setCell ⟨b,2,none⟩ (.slice (some ⟨g5,0,none⟩) (K.uses.length+1) cap)) b { K with uses:=K.uses++[0] } T { q with uv:=.slice (some ⟨g5,0,none⟩) (K.uses.length+1) cap,o:=retag q w.heap.size 3 }:=by
 have hb:=heap_lt h.blk
 have hbg:b≠g5:=by
  rcases hat with e | e
  ·rintro rfl;have e1:=h.ob;have e2:=h.ou b e;omega
  ·omega
 have keep:∀ {k c:Nat},q.o k=c->c≠3->c≠0->k<w.heap.size->(w5.setCell ⟨b,2,none⟩ (.slice (some ⟨g5,0,none⟩) (K.uses.length+1) cap)).heap[k]?=w.heap[k]?:=by
  intro k c hk hc h0 hl
  rw [heap_set_ne (by rintro rfl;exact h0 (hk ▸ h.ob)),hg.block k (by rw [World.size_alloc];omega) (fun e=>hc (hk ▸ h.ou k e.symm)),heap_alloc_old _ _ hl]
 have hbk:w5.heap[b]?=w.heap[b]?:=by
  rw [hg.block b (by rw [World.size_alloc];omega) (fun e=>by have e1:=h.ob;have e2:=h.ou b e.symm;omega),heap_alloc_old _ _ hb]
 rw [h.blk] at hbk
 refine ⟨by rw [heap_set_eq hbk];simp,h.ar.keep fun k hm=>keep (h.oa k hm) (by omega) (by omega) (h.ar.lt k hm),h.tab.keep fun k hm=>keep (h.ot k hm) (by omega) (by omega) (h.tab.lt k hm),?_,?_,
  row_keep h.os fun k hm=>keep (h.oo k hm) (by omega) (by omega) (h.os.lt k hm).2,row_keep h.ls fun k hm=>keep (h.ol k hm) (by omega) (by omega) (h.ls.lt k hm).2,row_keep h.ts fun k hm=>keep (h.ox k hm) (by omega) (by omega) (h.ts.lt k hm).2,?_,?_,?_,?_,?_,?_,?_,?_⟩
 ·show World.ownsRow _ 0 _ 1 _ (K.uses++[0]).length (flat32 (K.uses++[0]))
  have e:=row_ne hown (a:=⟨b,2,none⟩) (by simpa [Value.ownBlock] using hbg) (.slice (some ⟨g5,0,none⟩) (K.uses.length+1) cap)
  simpa [flat32] using e
 ·exact row_keep h.hs fun k hm=>keep (h.oh k hm) (by omega) (by omega) (h.hs.lt k hm).2
 ·show retag q _ _ b=0
  rw [retag_old hb];exact h.ob
 ·intro k hk;show retag q _ _ k=1;rw [retag_old (h.ar.lt k hk)];exact h.oa k hk
 ·intro k hk;show retag q _ _ k=2;rw [retag_old (h.tab.lt k hk)];exact h.ot k hk
 ·intro k hk
  simp [Value.ownBlock] at hk;subst hk
  show retag q _ _ g5=3
  rcases hat with e | e
  ·rw [retag_old (h.us.lt g5 e).2];exact h.ou g5 e
  ·unfold retag;rw [if_pos (by omega)]
 ·intro k hk;show retag q _ _ k=4;rw [retag_old (h.hs.lt k hk).2];exact h.oh k hk
 ·intro k hk;show retag q _ _ k=5;rw [retag_old (h.os.lt k hk).2];exact h.oo k hk
 ·intro k hk;show retag q _ _ k=6;rw [retag_old (h.ls.lt k hk).2];exact h.ol k hk
 ·intro k hk;show retag q _ _ k=7;rw [retag_old (h.ts.lt k hk).2];exact h.ox k hk
theorem KerMem.growHold {w w5:World} {b g5 cap:Nat} {X:Obj} {K:KV} {T:List DM} {q:KPtr} (h:KerMem w b K T q) (hg:(w.alloc X).grownBy w5 q.hv.ownBlock) (hat:q.hv.ownBlock=some g5\/g5=w.heap.size+1)
  (hown:w5.ownsRow 0 21 1 (.slice (some ⟨g5,0,none⟩) (K.holds.length+1) cap) (K.holds.length+1) (flat32 K.holds++[.int .i32 0])) :
  KerMem (w5.setCell ⟨b,3,none⟩ (.slice (some ⟨g5,0,none⟩) (K.holds.length+1) cap)) b { K with holds:=K.holds++[0] } T { q with hv:=.slice (some ⟨g5,0,none⟩) (K.holds.length+1) cap,o:=retag q w.heap.size 4 }:=by
 have hb:=heap_lt h.blk
 have hbg:b≠g5:=by
  rcases hat with e | e
  ·rintro rfl;have e1:=h.ob;have e2:=h.oh b e;omega
  ·omega
 have keep:∀ {k c:Nat},q.o k=c->c≠4->c≠0->k<w.heap.size->(w5.setCell ⟨b,3,none⟩ (.slice (some ⟨g5,0,none⟩) (K.holds.length+1) cap)).heap[k]?=w.heap[k]?:=by
  intro k c hk hc h0 hl
  rw [heap_set_ne (by rintro rfl;exact h0 (hk ▸ h.ob)),hg.block k (by rw [World.size_alloc];omega) (fun e=>hc (hk ▸ h.oh k e.symm)),heap_alloc_old _ _ hl]
 have hbk:w5.heap[b]?=w.heap[b]?:=by
  rw [hg.block b (by rw [World.size_alloc];omega) (fun e=>by have e1:=h.ob;have e2:=h.oh b e.symm;omega),heap_alloc_old _ _ hb]
 rw [h.blk] at hbk
 refine ⟨by rw [heap_set_eq hbk];simp,h.ar.keep fun k hm=>keep (h.oa k hm) (by omega) (by omega) (h.ar.lt k hm),h.tab.keep fun k hm=>keep (h.ot k hm) (by omega) (by omega) (h.tab.lt k hm),?_,?_,
  row_keep h.os fun k hm=>keep (h.oo k hm) (by omega) (by omega) (h.os.lt k hm).2,row_keep h.ls fun k hm=>keep (h.ol k hm) (by omega) (by omega) (h.ls.lt k hm).2,row_keep h.ts fun k hm=>keep (h.ox k hm) (by omega) (by omega) (h.ts.lt k hm).2,?_,?_,?_,?_,?_,?_,?_,?_⟩
 ·exact row_keep h.us fun k hm=>keep (h.ou k hm) (by omega) (by omega) (h.us.lt k hm).2
 ·show World.ownsRow _ 0 _ 1 _ (K.holds++[0]).length (flat32 (K.holds++[0]))
  have e:=row_ne hown (a:=⟨b,3,none⟩) (by simpa [Value.ownBlock] using hbg) (.slice (some ⟨g5,0,none⟩) (K.holds.length+1) cap)
  simpa [flat32] using e
 ·show retag q _ _ b=0
  rw [retag_old hb];exact h.ob
 ·intro k hk;show retag q _ _ k=1;rw [retag_old (h.ar.lt k hk)];exact h.oa k hk
 ·intro k hk;show retag q _ _ k=2;rw [retag_old (h.tab.lt k hk)];exact h.ot k hk
 ·intro k hk;show retag q _ _ k=3;rw [retag_old (h.us.lt k hk).2];exact h.ou k hk
 ·intro k hk
  simp [Value.ownBlock] at hk;subst hk
  show retag q _ _ g5=4
  rcases hat with e | e
  ·rw [retag_old (h.hs.lt g5 e).2];exact h.oh g5 e
  ·unfold retag;rw [if_pos (by omega)]
 ·intro k hk;show retag q _ _ k=5;rw [retag_old (h.os.lt k hk).2];exact h.oo k hk
 ·intro k hk;show retag q _ _ k=6;rw [retag_old (h.ls.lt k hk).2];exact h.ol k hk
 ·intro k hk;show retag q _ _ k=7;rw [retag_old (h.ts.lt k hk).2];exact h.ox k hk
theorem Tryz.infoI32:(Tryz.prog.info? 21).map (fun i=>(i.zero,i.size,i.bytes))=some (some (.int .i32 0),1,4):=by kernel_rfl
def KV.padded (K:KV) (j:Nat):KV:={ K with uses:=K.uses++List.replicate j 0,holds:=K.holds++List.replicate j 0 }
def KV.zero (K:KV) (r:Nat):KV:={ K with uses:=K.uses.set r 0,holds:=K.holds.set r 0 }
def KV.useA (K:KV) (r:Nat):KV:=if 2<=r then K.useK r else K
theorem KV.useA_A (K:KV) (r:Nat):(K.useA r).A=K.A:=by unfold KV.useA;split <;> rfl
theorem KV.useA_holds (K:KV) (r:Nat):(K.useA r).holds=K.holds:=by unfold KV.useA;split <;> rfl
theorem KV.useA_vars (K:KV) (r:Nat):(K.useA r).vars=K.vars:=by unfold KV.useA;split <;> rfl
theorem KV.useA_order (K:KV) (r:Nat):(K.useA r).order=K.order:=by unfold KV.useA;split <;> rfl
theorem KV.useA_level (K:KV) (r:Nat):(K.useA r).level=K.level:=by unfold KV.useA;split <;> rfl
theorem KV.useA_trail (K:KV) (r:Nat):(K.useA r).trail=K.trail:=by unfold KV.useA;split <;> rfl
theorem KV.useA_len (K:KV) (r:Nat):(K.useA r).uses.length=K.uses.length:=by unfold KV.useA KV.useK;split <;> simp
theorem KV.useA_hold (K:KV) (r x:Nat):(K.useA r).hold x=K.hold x:=by unfold KV.hold;rw [KV.useA_holds]
theorem KV.useA_use (K:KV) (r x:Nat) (h:2<=r->r<K.uses.length):(K.useA r).use x=K.use x+(if r=x/\2<=x then 1 else 0):=by
 unfold KV.useA;split
 ·rename_i h2
  show (K.uses.set r (K.use r+1)).getD x 0=_
  rw [getD_set (h h2)]
  by_cases e:x=r
  ·subst e;simp [h2]
  ·simp [e,Ne.symm e];rfl
 ·rename_i h2
  have:¬ (r=x/\2<=x):=by rintro ⟨rfl,h⟩;exact h2 h
  simp [this]
theorem getD_pad (l:List Nat) (j x:Nat):(l++List.replicate j 0).getD x 0=l.getD x 0:=by
 simp only [List.getD_eq_getElem?_getD,List.getElem?_append]
 split
 ·rfl
 ·rename_i h
  rw [show l[x]?=none from List.getElem?_eq_none (by omega),List.getElem?_replicate]
  split <;> rfl
theorem KV.took_of {K:KV} {v:Int} {lo hi r j:Nat} {A':ArenaV} {P:List Nat} (hfr:Fresh K.A v lo hi r A') (hw:K.Wf P) (h1:K.A.tk lo=true) (h2:K.A.tk hi=true) (hj:r<K.uses.length+j) (hj2:K.uses.length+j<=A'.list.length) :
  K.Took v lo hi r ((((({ K with A:=A' }:KV).padded j).zero r).useA lo).useA hi):=by
 have hz:((({ K with A:=A' }:KV).padded j).zero r).uses.length=K.uses.length+j:=by simp [KV.zero,KV.padded]
 have L1:2<=lo->lo<K.uses.length:=fun h=>hw.tu lo h h1
 have L2:2<=hi->hi<K.uses.length:=fun h=>hw.tu hi h h2
 refine ⟨by rw [KV.useA_A,KV.useA_A];exact hfr,?_,?_,?_,?_,?_,?_,?_,?_⟩
 ·rw [KV.useA_len,KV.useA_len,hz,KV.useA_A,KV.useA_A]
  exact ⟨by omega,hj,hj2⟩
 ·rw [KV.useA_holds,KV.useA_holds,KV.useA_len,KV.useA_len]
  have:=hw.len
  simp [KV.zero,KV.padded,this]
 ·intro x
  rw [KV.useA_use _ _ _ (by rw [KV.useA_len,hz];intro h;have:=L2 h;omega),KV.useA_use _ _ _ (by rw [hz];intro h;have:=L1 h;omega)]
  congr 2
  show ((K.uses++List.replicate j 0).set r 0).getD x 0=_
  rw [getD_set (by simp;omega),getD_pad];rfl
 ·intro x
  rw [KV.useA_hold,KV.useA_hold]
  show ((K.holds++List.replicate j 0).set r 0).getD x 0=_
  rw [getD_set (by have:=hw.len;simp;omega),getD_pad];rfl
 ·rw [KV.useA_vars,KV.useA_vars];rfl
 ·rw [KV.useA_order,KV.useA_order];rfl
 ·rw [KV.useA_level,KV.useA_level];rfl
 ·rw [KV.useA_trail,KV.useA_trail];rfl
theorem use_any (b r:Nat) (K:KV) (T:List DM) (q:KPtr) (w:World) (h:KerMem w b K T q) (hr:2<=r->r<K.uses.length) (hb:2<=r->K.use r+1<=2147483647) (hr32:r<=4294967295) :
  Calls Tryz.prog 162 #[.pointer (some ⟨b,0,none⟩),.int .u32 r] w fun e w'=>e=.returned (.tuple #[])/\KerMem w' b (K.useA r) T q/\Upd (q.all b) w w':=by
 by_cases h2:2<=r
 ·refine (use_spec b r K T q w h h2 (hr h2) (hb h2) hr32).mono ?_
  rintro e w' ⟨a1,a2,a3⟩;exact ⟨a1,by unfold KV.useA;rw [if_pos h2];exact a2,a3⟩
 ·refine (use_const b r w (by omega)).mono ?_
  rintro e w' ⟨a1,rfl⟩;exact ⟨a1,by unfold KV.useA;rw [if_neg h2];exact h,Upd.refl _ _⟩
structure TakeR (w:World) (b:Nat) (q0:KPtr) (v lo hi B:Nat) (K1:KV) (T:List DM) (j:Nat) (wr:World) (q:KPtr):Prop where
 mem:KerMem wr b (K1.padded j) T q
 up:Upd (q0.all b) w wr
 sub:Sub (q0.all b) w (q.all b)
 qe:q.a=q0.a/\q.t=q0.t
 bx:wr.heap[B]?=some (.cells #[.int .i64 v,.int .u32 lo,.int .u32 hi] 116 (0,0))
 bn:B∉q.all b
structure TakeS (w:World) (b:Nat) (q0:KPtr) (v lo hi B:Nat) (KK:KV) (T:List DM) (wr:World) (q:KPtr):Prop where
 mem:KerMem wr b KK T q
 up:Upd (q0.all b) w wr
 sub:Sub (q0.all b) w (q.all b)
 bx:wr.heap[B]?=some (.cells #[.int .i64 v,.int .u32 lo,.int .u32 hi] 116 (0,0))
 bn:B∉q.all b
theorem TakeS.step {w w1 w2:World} {b v lo hi B:Nat} {q0 q q':KPtr} {K1 K2:KV} {T T':List DM} (h:TakeS w b q0 v lo hi B K1 T w1 q) (hm:KerMem w2 b K2 T' q') (hu:Upd (q.all b) w1 w2) (hs:Sub (q.all b) w1 (q'.all b)) :
  TakeS w b q0 v lo hi B K2 T' w2 q':=by
 have hB:=heap_lt h.bx;refine ⟨hm,h.up.then hu h.sub,?_,by rw [hu.block B hB h.bn];exact h.bx,?_⟩
 ·intro k hk
  rcases hs k hk with hk | hk
  ·exact h.sub k hk
  ·have:=h.up.size;right;omega
 ·intro hk
  rcases hs B hk with hk | hk
  ·exact h.bn hk
  ·omega
theorem TakeS.cells {w w1:World} {b v lo hi B:Nat} {q0 q:KPtr} {K1:KV} {T:List DM} (h:TakeS w b q0 v lo hi B K1 T w1 q) :
  w1.cell? ⟨B,0,none⟩=some (.int .i64 v)/\w1.cell? ⟨B,1,none⟩=some (.int .u32 lo)/\w1.cell? ⟨B,2,none⟩=some (.int .u32 hi)/\w1.cell? ⟨b,1,none⟩=some (.pointer (some ⟨q.t,0,none⟩)) :=
 ⟨cell_at h.bx rfl,cell_at h.bx rfl,cell_at h.bx rfl,cell_at h.mem.blk rfl⟩
theorem take_spec (b v lo hi:Nat) (K:KV) (P:List Nat) {X:List Nat} (T:List DM) (D:DM) (q:KPtr) (w:World) (h:KerMem w b K T q) (hw:K.Wf P) (ht:TInv T K X) (hP:P.length<=1000000000)
  (hv:v<K.vars) (h1:K.A.tk lo=true) (h2:K.A.tk hi=true) (hl1:lo<=4294967295) (hl2:hi<=4294967295) (hD:T[v]?=some D) (hno:Maps.has D (nk v lo hi)=false) (hroom:K.A.used<K.A.places) :
  Calls Tryz.prog 206 #[.pointer (some ⟨b,0,none⟩),.agg #[.int .i64 v,.int .u32 lo,.int .u32 hi]] w fun e w' =>
   ∃ (r:Nat) (K':KV) (q':KPtr),e=.returned (.int .u32 r)/\K.Took v lo hi r K'/\KerMem w' b K' (T.set v (D.put (nk v lo hi) (.lit (.int .u32 r)))) q'/\Upd (q.all b) w w'/\Sub (q.all b) w (q'.all b):=by
 have hchk:K.A.checkE v lo hi=0:=by
  have:=hw.vs;unfold ArenaV.checkE;rw [if_neg (by omega),if_neg (by simp [h1,h2])]
 have hbl:=heap_lt h.blk;have HC:=Lib.hid hchk;have HM0:Hid (KerMem (w.alloc (.cells #[.int .i64 v,.int .u32 lo,.int .u32 hi] 116 (0,0))).drew b K T q):=h.upd (((Upd.refl [] w).alloc _).drew) (by simp)
 obtain ⟨x0,x1,x2,x3⟩ : (w.alloc (.cells #[.int .i64 v,.int .u32 lo,.int .u32 hi] 116 (0,0))).drew.cell? ⟨b,0,none⟩=some (.pointer (some ⟨q.a,0,none⟩)) /\
   (w.alloc (.cells #[.int .i64 v,.int .u32 lo,.int .u32 hi] 116 (0,0))).drew.cell? ⟨w.heap.size,0,none⟩=some (.int .i64 v) /\
   (w.alloc (.cells #[.int .i64 v,.int .u32 lo,.int .u32 hi] 116 (0,0))).drew.cell? ⟨w.heap.size,1,none⟩=some (.int .u32 lo) /\
   (w.alloc (.cells #[.int .i64 v,.int .u32 lo,.int .u32 hi] 116 (0,0))).drew.cell? ⟨w.heap.size,2,none⟩=some (.int .u32 hi):=by
  have hn:=heap_alloc_new w (.cells #[.int .i64 v,.int .u32 lo,.int .u32 hi] 116 (0,0));exact ⟨cell_at HM0.out.blk rfl,cell_at hn rfl,cell_at hn rfl,cell_at hn rfl⟩
 have NB:w.heap.size∉q.all b:=fun hm=>by have:=h.lt _ hm;omega
 have NA:w.heap.size∉q.FA:=fun hm=>NB (KPtr.mem.2 (.inr (.inl hm)))
 have BA:b∉q.FA:=by intro hm;have e1:=h.ob;have e2:=h.oa b hm;omega
 have HH:=Lib.hid (And.intro hw (And.intro ht (And.intro hD hno)));have HT1:=Lib.hid (And.intro h1 h2);have HRM:=Lib.hid hroom;clear h hw ht hD hno h1 h2 hchk hroom
 go_enter Tryz.func206,Tryz.ntmps206
 go_wp2_with fail
 go_region_held3 (fun w'=>w'.cell? ⟨b,0,none⟩=some (.pointer (some ⟨q.a,0,none⟩))/\w'.cell? ⟨w.heap.size,0,none⟩=some (.int .i64 v)/\w'.cell? ⟨w.heap.size,1,none⟩=some (.int .u32 lo)/\w'.cell? ⟨w.heap.size,2,none⟩=some (.int .u32 hi)) (first | exact ⟨x0,x1,x2,x3⟩ | exact held4 H3.out.2.2.1 x0 x1 x2 x3 BA NA NA NA) (first | (go_at_call 239;refine (alloc_any q.a q.FA v lo hi K.A _ HM0.out.ar hl1 hl2 HRM.out HC.out).mono ?_;rintro e w3 ⟨r,A',F',rfl,hfr,ha,hu,hs⟩;have H3:=Lib.hid (And.intro hfr (And.intro ha (And.intro hu hs)));clear hfr ha hu hs))
 have HS:Hid (∃ q',TakeR w b q v lo hi w.heap.size { K with A:=A' } T 0 w3 q'):=by
  obtain ⟨hfr,ha,hu,hs⟩:=H3.out;have m:=HM0.out.arena ha hu hs
  have hsz:w.heap.size<(w.alloc (.cells #[.int .i64 v,.int .u32 lo,.int .u32 hi] 116 (0,0))).drew.heap.size:=by
   show w.heap.size<(w.alloc _).heap.size
   rw [World.size_alloc];omega
  refine ⟨{ q with FA:=F',o:=retag q (w.alloc (.cells #[.int .i64 v,.int .u32 lo,.int .u32 hi] 116 (0,0))).drew.heap.size 1 },⟨by simpa [KV.padded] using m,?_,?_,⟨rfl,rfl⟩,?_,?_⟩⟩
  ·exact (((Upd.refl (q.all b) w).alloc _).drew).then hu fun x hx=>.inl (KPtr.mem.2 (.inr (.inl hx)))
  ·intro k hk
   rcases KPtr.mem.1 hk with hk | hk | hk
   ·exact .inl (KPtr.mem.2 (.inl hk))
   ·rcases hs k hk with hk | hk
    ·exact .inl (KPtr.mem.2 (.inr (.inl hk)))
    ·right;omega
   ·exact .inl (KPtr.mem.2 (.inr (.inr hk)))
  ·rw [hu.block _ hsz NA];exact heap_alloc_new w _
  ·intro hk
   rcases KPtr.mem.1 hk with hk | hk | hk
   ·exact NB (KPtr.mem.2 (.inl hk))
   ·rcases hs _ hk with hk | hk
    ·exact NA hk
    ·omega
   ·exact NB (KPtr.mem.2 (.inr (.inr hk)))
 have HFR:=Lib.hid H3.out.1;have hrb:=H3.out.1.room;have hul:=HH.out.1.ul;have hll:=H3.out.1.ll;have hlen:=HH.out.1.len;have hap:=HFR.out.ok.lp;have hap2:=HFR.out.ok.pm;have HF2:=Lib.hid (And.intro hul (And.intro hll (And.intro hlen (And.intro hap hap2))))
 have hulb:K.uses.length<=1048576:=by omega
 clear x0 x1 x2 x3 HM0 H3 hll hlen hap hap2 hul;go_wp2_with fail
 go_loopg [17] (r+1-K.uses.length) (fun g s17 wr=>∃ (j:Nat) (q':KPtr),r+1-(K.uses.length+j)=g/\(j=0\/K.uses.length+j<=r+1)/\TakeR w b q v lo hi w.heap.size { K with A:=A' } T j wr q')
 case atStart =>
  obtain ⟨q',h⟩:=HS.out;exact ⟨0,q',by omega,.inl rfl,h⟩
 case round =>
  obtain ⟨j,q',rfl,hj,hR⟩:=hrel
  by_cases hlt:K.uses.length+j<=r
  ·have hm:=hR.mem
   have hnu:(K.uses++List.replicate j 0).length=K.uses.length+j:=by simp
   have hrow:=hm.us;obtain ⟨fa,fc,hfv,_⟩:=row_nil_len hrow
   have hfv':q'.uv=.slice fa (K.uses.length+j) fc:=by rw [hfv];simp [KV.padded]
   have hc2:wr.cell? ⟨b,2,none⟩=some (.slice fa (K.uses.length+j) fc):=by rw [<- hfv'];exact cell_at hm.blk rfl
   have hrow':wr.ownsRow 0 21 1 (.slice fa (K.uses.length+j) fc) (K.uses.length+j) (flat32 (K.uses++List.replicate j 0)):=by
    rw [<- hfv',<- hnu];exact hrow
   have HROW:=Lib.hid hrow';have hbr:=heap_lt hm.blk;have HR:=Lib.hid hR;have HFV:=Lib.hid hfv';obtain ⟨n,hn⟩ : ∃ n,K.uses.length+j=n:=⟨_,rfl⟩;rw [hn] at hc2 hlt HROW HFV;have HN:=Lib.hid hn
   have hnb:n<=1048576:=by omega
   have hge:decide ((n:Int)<=(r:Int))=true:=by simp;omega
   clear hm hR hrow hrow' hfv hfv' hnu hn hj;obtain ⟨i,hi0,hz0,hz1',hz2⟩:=info_parts Tryz.infoI32;have HI:=Lib.hid hi0;have HZ:=Lib.hid hz0;have HZ1:=Lib.hid hz1';have HZ2:=Lib.hid hz2;clear hi0 hz0 hz1' hz2
   have HC2':Hid (∀ u,u∈[Value.int .i32 0]->u.oneCell'=true):=by intro u hu;simp at hu;subst hu;rfl
   go_wp2_with (at_builtin;go_must (refine wpList_append_lies _ rfl (.tmp 28) (.tmp 29) 165 rfl 0 21 i _ 1 4 Tryz.underlying165 HI.out HZ.out HZ1.out HZ2.out (by rfl) (by decide) _ n (flat32 (K.uses++List.replicate j 0)) rfl (HROW.out.alloc _) ⟨wr.heap.size,0,none⟩ 1 1 [.int .i32 0] rfl rfl ?c1 HC2'.out (by omega) (by unfold maxLen;omega) (by omega) (by omega) _ rfl ?_))
   case c1=>exact World.news_of_block (heap_alloc_new wr (.cells #[.int .i32 0] 21 (0,0)))
   intro g5 cap w5 hown hgr hat hlt2
   have hat':(Value.slice fa n fc).ownBlock=some g5\/g5=wr.heap.size+1:=hat
   have M5:Hid (∃ q5,KerMem (w5.setCell ⟨b,2,none⟩ (.slice (some ⟨g5,0,none⟩) (n+1) cap)) b { (({ K with A:=A' }:KV).padded j) with uses:=(K.uses++List.replicate j 0)++[0] } T q5/\q5.hv=q'.hv/\q5.a=q'.a/\q5.t=q'.t/\Sub (q'.all b) wr (q5.all b)):=by
    have hl:(({ K with A:=A' }:KV).padded j).uses.length=n:=by rw [<- HN.out];simp [KV.padded]
    have:=HR.out.mem.growUse (g5:=g5) (cap:=cap) (by rw [HFV.out];exact hgr) (by rw [HFV.out];exact hat') (by rw [hl];exact hown);rw [hl] at this;refine ⟨_,this,rfl,rfl,rfl,?_⟩
    intro k hk
    simp only [KPtr.mem] at hk ⊢
    rcases hk with hk | hk | hk | hk | hk
    ·exact .inl (.inl hk)
    ·exact .inl (.inr (.inl hk))
    ·exact .inl (.inr (.inr (.inl hk)))
    ·simp [Value.ownBlock] at hk;subst hk
     rcases hat' with e | e
     ·exact .inl (.inr (.inr (.inr (.inl (by rw [HFV.out];exact e)))))
     ·right;omega
    ·exact .inl (.inr (.inr (.inr (.inr hk))))
   have hbk5:w5.heap[b]?=wr.heap[b]?:=by
    have hne:some b≠(Value.slice fa n fc).ownBlock:=by
     intro e
     have e1:=HR.out.mem.ob;have e2:=HR.out.mem.ou b (by rw [HFV.out];exact e.symm);omega
    rw [hgr.block b (by rw [World.size_alloc];omega) hne,heap_alloc_old _ _ hbr]
   rw [HR.out.mem.blk] at hbk5;have fz2:w5.frozen? ⟨b,2,none⟩=false:=frozen_at 2 hbk5;have c52:w5.cell? ⟨b,2,none⟩=some q'.uv:=cell_at hbk5 rfl;have HG5:=Lib.hid (And.intro hgr hat');obtain ⟨q5,m5,q5h,q5a,q5t,q5s⟩:=M5.out;have hrow5:=m5.hs;obtain ⟨ga,gc,hgv,_⟩:=row_nil_len hrow5
   have hlh:(({ K with A:=A' }:KV).padded j).holds.length=n:=by rw [<- HN.out];simp [KV.padded,HF2.out.2.2.1]
   have hgv':q5.hv=.slice ga n gc:=by rw [hgv];congr 1
   have c53:(w5.setCell ⟨b,2,none⟩ (.slice (some ⟨g5,0,none⟩) (n+1) cap)).cell? ⟨b,3,none⟩=some (.slice ga n gc):=by rw [<- hgv'];exact cell_at m5.blk rfl
   have hrow5':(w5.setCell ⟨b,2,none⟩ (.slice (some ⟨g5,0,none⟩) (n+1) cap)).ownsRow 0 21 1 (.slice ga n gc) n (flat32 (K.holds++List.replicate j 0)):=by
    have key:∀ (wx:World) (vx:Value) (xs:List Value) (m:Nat),m=n->wx.ownsRow 0 21 1 vx m xs->wx.ownsRow 0 21 1 vx n xs:=fun _ _ _ m e h=>e ▸ h
    rw [<- hgv'];exact key _ _ _ _ hlh hrow5
   have HROW5:=Lib.hid hrow5'
   have hbr5:b<w5.heap.size:=by have:=heap_lt m5.blk;simpa [World.setCell] using this
   have HM5:=Lib.hid m5;have HQ5:=Lib.hid (And.intro q5h (And.intro q5a (And.intro q5t q5s)));have HGV:=Lib.hid hgv';have HLH:=Lib.hid hlh;have HU:=Lib.hid hown;generalize hcells:w5.setCell ⟨b,2,none⟩ (.slice (some ⟨g5,0,none⟩) (n+1) cap)=W5 at c53 HROW5 HM5;have HC5:=Lib.hid hcells;clear hgr hat hat' hown m5 q5h q5a q5t q5s hrow5 hrow5' hgv hgv' hlh hbk5 M5
   go_upto_region 4 with (fail)
   go_wp2_with (at_builtin;go_must (refine wpList_append_lies _ rfl (.tmp 37) (.tmp 38) 165 rfl 0 21 i _ 1 4 Tryz.underlying165 HI.out HZ.out HZ1.out HZ2.out (by rfl) (by decide) _ n (flat32 (K.holds++List.replicate j 0)) rfl (HROW5.out.alloc _) ⟨W5.heap.size,0,none⟩ 1 1 [.int .i32 0] rfl rfl ?c2 HC2'.out (by omega) (by unfold maxLen;omega) (by omega) (by omega) _ rfl ?_))
   intro g6 cap6 w6 hown6 hgr6 hat6 hlt6
   have hbk6:w6.heap[b]?=W5.heap[b]?:=by
    have hne:some b≠(Value.slice ga n gc).ownBlock:=by
     intro e
     have e1:=HM5.out.ob;have e2:=HM5.out.oh b (by rw [HGV.out];exact e.symm);omega
    have hb5:=heap_lt HM5.out.blk;rw [hgr6.block b (by rw [World.size_alloc];omega) hne,heap_alloc_old _ _ hb5]
   rw [HM5.out.blk] at hbk6;have fz3:w6.frozen? ⟨b,3,none⟩=false:=frozen_at 3 hbk6;have c63:w6.cell? ⟨b,3,none⟩=some q5.hv:=cell_at hbk6 rfl
   have M6:Hid (∃ q6,KerMem (w6.setCell ⟨b,3,none⟩ (.slice (some ⟨g6,0,none⟩) (n+1) cap6)) b (({ K with A:=A' }:KV).padded (j+1)) T q6/\q6.a=q'.a/\q6.t=q'.t/\Sub (q5.all b) W5 (q6.all b)):=by
    have hat6':(Value.slice ga n gc).ownBlock=some g6\/g6=W5.heap.size+1:=hat6
    have:=HM5.out.growHold (g5:=g6) (cap:=cap6) (by rw [HGV.out];exact hgr6) (by rw [HGV.out];exact hat6') (by
     have key:∀ (m:Nat),m=n->w6.ownsRow 0 21 1 (.slice (some ⟨g6,0,none⟩) (m+1) cap6) (m+1) (flat32 (K.holds++List.replicate j 0)++[.int .i32 0]):=by rintro m rfl;exact hown6
     exact key _ HLH.out)
    have e1:∀ (l:List Nat),l++List.replicate (j+1) 0=l++List.replicate j 0++[0]:=by intro l;rw [List.replicate_succ',List.append_assoc]
    have key2:∀ (m:Nat) (KK:KV) (qq:KPtr),m=n->KK=({ K with A:=A' }:KV).padded (j+1)->KerMem (w6.setCell ⟨b,3,none⟩ (.slice (some ⟨g6,0,none⟩) (m+1) cap6)) b KK T qq->KerMem (w6.setCell ⟨b,3,none⟩ (.slice (some ⟨g6,0,none⟩) (n+1) cap6)) b (({ K with A:=A' }:KV).padded (j+1)) T qq:=by rintro _ _ _ rfl rfl h;exact h
    refine ⟨_,key2 _ _ _ HLH.out (by simp only [KV.padded,e1]) this,HQ5.out.2.1,HQ5.out.2.2.1,?_⟩
    intro k hk
    simp only [KPtr.mem] at hk ⊢
    rcases hk with hk | hk | hk | hk | hk | hk
    ·exact .inl (.inl hk)
    ·exact .inl (.inr (.inl hk))
    ·exact .inl (.inr (.inr (.inl hk)))
    ·exact .inl (.inr (.inr (.inr (.inl hk))))
    ·simp [Value.ownBlock] at hk;subst hk
     rcases hat6' with e | e
     ·exact .inl (.inr (.inr (.inr (.inr (.inl (by rw [HGV.out];exact e))))))
     ·right;omega
    ·exact .inl (.inr (.inr (.inr (.inr (.inr hk)))))
   have HT6:Hid (∃ q6,TakeR w b q v lo hi w.heap.size { K with A:=A' } T (j+1) (w6.setCell ⟨b,3,none⟩ (.slice (some ⟨g6,0,none⟩) (n+1) cap6)) q6):=by
    obtain ⟨q6,m6,a6,t6,s6⟩:=M6.out;obtain ⟨hg5,hat5⟩:=HG5.out;have hR:=HR.out;have s5:=HQ5.out.2.2.2;have hB:=heap_lt hR.bx
    have hBb:w.heap.size≠b:=by omega
    have hBr:some w.heap.size≠(Value.slice fa n fc).ownBlock:=fun e=>hR.bn (KPtr.mem.2 (.inr (.inr (.inr (.inl (by rw [HFV.out];exact e.symm))))))
    have hsz5:wr.heap.size<w5.heap.size:=by have:=hg5.size;rw [World.size_alloc] at this;omega
    have hW5:W5.heap.size=w5.heap.size:=by rw [<- HC5.out];simp [World.setCell]
    have n5:w.heap.size∉q5.all b:=fun hm=>by
     rcases s5 _ hm with h | h
     ·exact hR.bn h
     ·omega
    have n6:w.heap.size∉q6.all b:=fun hm=>by
     rcases s6 _ hm with h | h
     ·exact n5 h
     ·omega
    have hBr5:some w.heap.size≠(Value.slice ga n gc).ownBlock:=fun e=>n5 (KPtr.mem.2 (.inr (.inr (.inr (.inr (.inl (by rw [HGV.out];exact e.symm)))))))
    have sub':∀ k,k∈q'.all b->k∈q.all b\/w.heap.size<=k:=hR.sub;have hws:=hR.up.size
    have sub5:∀ k,k∈q5.all b->k∈q.all b\/w.heap.size<=k:=fun k hk=>by
     rcases s5 k hk with h | h
     ·exact sub' k h
     ·right;omega
    have hb0:b∈q.all b\/w.heap.size<=b:=.inl (KPtr.mem.2 (.inl rfl))
    have u5:Upd (q.all b) w W5:=by
     rw [<- HC5.out];exact ((hR.up.alloc _).grown hg5 (fun k hk=>sub' k (KPtr.mem.2 (.inr (.inr (.inr (.inl (by rw [HFV.out];exact hk)))))))).setCell hb0 _
    have u6:=((u5.alloc _).grown hgr6 (fun k hk=>sub5 k (KPtr.mem.2 (.inr (.inr (.inr (.inr (.inl (by rw [HGV.out];exact hk)))))))));refine ⟨q6,m6,u6.setCell hb0 _,?_,⟨a6.trans hR.qe.1,t6.trans hR.qe.2⟩,?_,n6⟩
    ·intro k hk
     rcases s6 k hk with h | h
     ·exact sub5 k h
     ·right;omega
    ·rw [heap_set_ne hBb,hgr6.block _ (by rw [World.size_alloc];omega) hBr5,heap_alloc_old _ _ (by omega),<- HC5.out,heap_set_ne hBb,hg5.block _ (by rw [World.size_alloc];omega) hBr,heap_alloc_old _ _ hB]
     exact hR.bx
   clear hown6 hgr6 hat6 hbk6 M6;go_wp2_with fail
   go_roundg (r+1-(K.uses.length+(j+1)))
   case measure=>have:=HN.out;omega
   case rel =>
    obtain ⟨q6,h6⟩:=HT6.out;exact ⟨j+1,q6,rfl,.inr (by have:=HN.out;omega),h6⟩
  ·have hjr:K.uses.length+j<=A'.list.length:=by have:=HF2.out.1;have:=HF2.out.2.1;have h9:=HFR.out.ll;omega
   have hm:=hR.mem
   have hK1:r<(({ K with A:=A' }:KV).padded j).uses.length:=by simp [KV.padded];omega
   have hK2:r<(({ K with A:=A' }:KV).padded j).holds.length:=by have:=HF2.out.2.2.1;simp [KV.padded];omega
   obtain ⟨gu,cu,hqu,c2,cu1,fu1,hgu⟩:=hm.useCell hK1;obtain ⟨gh,ch,hqh,c3,cu2,fu2,hgh⟩:=hm.holdCell hK2
   have hlu:(({ K with A:=A' }:KV).padded j).uses.length=K.uses.length+j:=by simp [KV.padded]
   have hlh:(({ K with A:=A' }:KV).padded j).holds.length=K.uses.length+j:=by have:=HF2.out.2.2.1;simp [KV.padded];omega
   have hnb:K.uses.length+j<=1048576:=by omega
   obtain ⟨n,hn⟩ : ∃ n,K.uses.length+j=n:=⟨_,rfl⟩;rw [hlu,hn] at c2;rw [hlh,hn] at c3;rw [hn] at hnb
   have hge:decide ((n:Int)<=(r:Int))=false:=by simp;omega
   have hrn:(r:Int)<(n:Int):=by omega
   have ngh:gu≠gh:=by
    rintro rfl;have e1:=hm.ou gu (by rw [hqu];rfl);have e2:=hm.oh gu (by rw [hqh];rfl);omega
   have nbu:b≠gu:=by
    rintro rfl;have e1:=hm.ou b (by rw [hqu];rfl);have e2:=hm.ob;omega
   have nbh:b≠gh:=by
    rintro rfl;have e1:=hm.oh b (by rw [hqh];rfl);have e2:=hm.ob;omega
   have HR:=Lib.hid hR;have HJ:=Lib.hid (And.intro hn (And.intro hj (And.intro hjr (And.intro hqu (And.intro hqh (And.intro hgu hgh))))));clear hm hR hqu hqh hgu hgh hlu hlh hn hj hjr hlt hK1 hK2;go_wp2_with fail
   go_region
   have HS4:Hid (TakeS w b q v lo hi w.heap.size ((({ K with A:=A' }:KV).padded j).zero r) T ((wr.setCell ⟨gu,r,none⟩ (.int .i32 0)).setCell ⟨gh,r,none⟩ (.int .i32 0)).drew q'):=by
    obtain ⟨hn,hj,hjr,hqu,hqh,hgu,hgh⟩:=HJ.out;have hR:=HR.out
    have hl:r<K.uses.length+j:=by omega
    have m1:=hR.mem.setUse (n:=0) hqu (by rw [show (({ K with A:=A' }:KV).padded j).uses.length=K.uses.length+j by simp [KV.padded]];exact hl)
    have m2:=m1.setHold (n:=0) hqh (by
     have e:(({ K with A:=A' }:KV).padded j).holds.length=K.uses.length+j:=by have:=HF2.out.2.2.1;simp [KV.padded];omega
     show r<(({ K with A:=A' }:KV).padded j).holds.length
     rw [e];exact hl)
    have m3:=m2.upd ((Upd.refl [] _).drew) (by simp);have s0:TakeS w b q v lo hi w.heap.size (({ K with A:=A' }:KV).padded j) T wr q':=⟨hR.mem,hR.up,hR.sub,hR.bx,hR.bn⟩;exact s0.step m3 ((((Upd.refl _ wr).setCell (.inl hgu) _).setCell (.inl hgh) _).drew) (Sub.refl _ _)
   have HTK:Hid (K.Took v lo hi r ((((({ K with A:=A' }:KV).padded j).zero r).useA lo).useA hi)):=by
    obtain ⟨hn,hj,hjr,_⟩:=HJ.out;exact KV.took_of HFR.out HH.out.1 HT1.out.1 HT1.out.2 (by omega) hjr
   have HL:Hid ((2<=lo->lo<K.uses.length+j)/\(2<=hi->hi<K.uses.length+j)/\(((({ K with A:=A' }:KV).padded j).zero r).uses.length=K.uses.length+j)):=by
    refine ⟨fun h=>?_,fun h=>?_,by simp [KV.zero,KV.padded]⟩
    ·have:=HH.out.1.tu lo h HT1.out.1;omega
    ·have:=HH.out.1.tu hi h HT1.out.2;omega
   have HB:Hid (∀ x,2<=x->K.A.tk x=true->((({ K with A:=A' }:KV).padded j).zero r).use x<=1002097153):=by
    obtain ⟨hn,hj,hjr,_⟩:=HJ.out
    intro x h2 htx
    have:=HH.out.1.use_le h2 htx
    have e:((({ K with A:=A' }:KV).padded j).zero r).use x=if x=r then 0 else K.use x:=by
     show ((K.uses++List.replicate j 0).set r 0).getD x 0=_
     rw [getD_set (by simp;omega),getD_pad];rfl
    rw [e];split <;> omega
   generalize hW4:((wr.setCell ⟨gu,r,none⟩ (.int .i32 0)).setCell ⟨gh,r,none⟩ (.int .i32 0)).drew=W4 at HS4;generalize hK4:((({ K with A:=A' }:KV).padded j).zero r)=K4 at HS4 HTK HL HB;obtain ⟨y0,y1,y2,y3⟩:=HS4.out.cells;clear hW4 hK4 c2 c3 cu1 cu2 fu1 fu2 ngh nbu nbh hge hrn HJ HR;go_wp2_with fail;refine (use_any b lo K4 T q' _ HS4.out.mem (by rw [HL.out.2.2];exact HL.out.1) (fun h=>by have:=HB.out lo h HT1.out.1;omega) hl1).mono ?_;rintro e w5 ⟨rfl,m5,u5⟩;have HS5:=Lib.hid (HS4.out.step m5 u5 (Sub.refl _ _))
   have HB5:Hid (2<=hi->(K4.useA lo).use hi+1<=2147483647):=by
    intro h
    have:=HB.out hi h HT1.out.2;rw [KV.useA_use _ _ _ (by rw [HL.out.2.2];exact HL.out.1)]
    split <;> omega
   have HL5:Hid (2<=hi->hi<(K4.useA lo).uses.length):=by rw [KV.useA_len,HL.out.2.2];exact HL.out.2.1
   clear m5 u5 y0 y1 y2 y3 HS4;obtain ⟨y0,y1,y2,y3⟩:=HS5.out.cells;go_wp2_with fail;refine (use_any b hi _ T q' _ HS5.out.mem HL5.out HB5.out hl2).mono ?_;rintro e w6 ⟨rfl,m6,u6⟩;have HS6:=Lib.hid (HS5.out.step m6 u6 (Sub.refl _ _));clear m6 u6 y0 y1 y2 y3 HS5 HL5 HB5;obtain ⟨y0,y1,y2,y3⟩:=HS6.out.cells
   have HSZ:Hid (Maps.size D<maxLen):=by
    have h1:=HH.out.2.1;have hv:=HH.out.2.2.1;obtain ⟨_,_,_,_,_,_,_,_,ho⟩:=HS6.out.mem.tab.cells hv;have:=h1.size HH.out.1 hv (ho.canon nodeKeyed) (ho.tidy nodeKeyed)
    show Maps.size D<maxLen
    unfold maxLen;omega
   have NB6:w.heap.size∉q'.FT:=fun hm=>HS6.out.bn (KPtr.mem.2 (.inr (.inr (.inl hm))))
   have BA6:b∉q'.FT:=by intro hm;have e1:=HS6.out.mem.ob;have e2:=HS6.out.mem.ot b hm;omega
   have HT6:Hid (TabAt w6.drew q'.t T q'.FT):=HS6.out.mem.tab.upd ((Upd.refl [] _).drew) (by simp);have HNO:=Lib.hid HH.out.2.2.2;have HDD:=Lib.hid HH.out.2.2.1
   have hr32:r<=4294967295:=by omega
   go_wp2_with fail
   go_region_held3 (fun w'=>w'.cell? ⟨w.heap.size,0,none⟩=some (.int .i64 v)/\w'.cell? ⟨w.heap.size,1,none⟩=some (.int .u32 lo)/\w'.cell? ⟨w.heap.size,2,none⟩=some (.int .u32 hi)/\w'.cell? ⟨b,1,none⟩=some (.pointer (some ⟨q'.t,0,none⟩))) (first | exact ⟨y0,y1,y2,y3⟩ | exact held4 HA.out.2 y0 y1 y2 y3 NB6 NB6 NB6 BA6) (first | (go_at_call 164;refine (add_spec q'.t q'.FT v lo hi r T D _ HT6.out HDD.out hl1 hl2 hr32 HNO.out HSZ.out).mono ?_;rintro e w7 ⟨rfl,ta,tu⟩;have HA:=Lib.hid (And.intro ta tu);clear ta tu))
   go_wp2_with fail;have S7:=(HS6.out.step (HS6.out.mem.upd ((Upd.refl [] _).drew) (by simp)) ((Upd.refl _ _).drew) (Sub.refl _ _));have S8:=S7.step (S7.mem.table HA.out.1 HA.out.2) (HA.out.2.mono fun x hx=>KPtr.mem.2 (.inr (.inr (.inl hx)))) (Sub.refl _ _);have HE:=Lib.hid (And.intro HTK.out (And.intro S8.mem (And.intro S8.up S8.sub)));clear S7 S8;go_ret;exact ⟨r,_,q',rfl,HE.out⟩
end Go.Proofs.YtfkopmhpppeheaaGreat
