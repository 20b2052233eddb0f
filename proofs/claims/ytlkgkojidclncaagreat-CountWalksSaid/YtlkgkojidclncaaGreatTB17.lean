import Derived.Test.YtlkgkojidclncaaGreatTB14
import Derived.Test.YtlkgkojidclncaaGreatTB5
import Derived.Test.YtlkgkojidclncaaGreatTB4
import Derived.Deep.RegionHeld3
set_option maxRecDepth 100000
set_option maxHeartbeats 1600000
namespace Go.Proofs.YtlkgkojidclncaaGreat
open Go.RowKit Go.Maps Go.ChangeMaps Go.WideShapes
theorem not_live (b f:Nat) (K:KV) (T:List DM) (q:KPtr) (w:World) (h:KerIn w b K T q) (hf:K.A.tk f=true) :
  Calls Tryz.prog 46 #[.pointer (some ⟨b,0,none⟩),.int .u32 f] w fun e w'=>OpPost b K q (K.fun3 (fun x y _=>opB 3 x y) f 0 0) w e w':=by
 have HC:=Lib.hid (binary_live b 3 f 0 K T q w h (by omega) hf (h.ok.tk_const (by omega)));clear h hf
 go_enter Tryz.func46,Tryz.ntmps46
 go_wp2_with fail;refine HC.out.mono ?_;rintro e w1 hE;obtain ⟨r,code,K',T',q',rfl,hP⟩:=hE.ex;have HE:=Lib.hid hP;clear hE hP HC;go_wp2_with fail;go_ret2;exact ⟨r,code,K',T',q',rfl,HE.out⟩
theorem opB_or (a b:Bool):opB 14 a b=(a||b):=by cases a <;> cases b <;> decide
theorem opB_not (a b:Bool):opB 3 a b=!a:=by cases a <;> cases b <;> decide
structure SesG (K:KV) (L:List (Nat × ((Nat->Bool)->Bool))) (c:Nat):Prop where
 hh:∀ x,K.hold x<=c
 nm:∀ r f,(r,f)∈L->K.A.tk r=true/\∀ y,K.den r y=f y
theorem SesG.ext {K K':KV} {L:List (Nat × ((Nat->Bool)->Bool))} {c c':Nat} (h:SesG K L c) (hk:K.Ok) (e:K.Ext K') (hd:∀ x,K'.hold x<=c'):SesG K' L c' :=
 ⟨hd,fun r f hm=>⟨e.tk (h.nm r f hm).1,fun y=>by rw [e.den hk.wf y (h.nm r f hm).1];exact (h.nm r f hm).2 y⟩⟩
end Go.Proofs.YtlkgkojidclncaaGreat
namespace Go.Proofs.YtlkgkojidclncaaGreat
def KV.vI (K:KV) (r:Nat):Int:=match K.A.list[r]? with | some p=>p.var | none=>-1
def KV.part (K:KV) (y r:Nat):Nat × Nat:=match K.A.list[r]? with | some p=>if p.var=(y:Int) then (p.lo,p.hi) else (r,r) | none=>(r,r)
theorem KV.vI_at {K:KV} {r:Nat} {p:PlaceV} (h:K.A.list[r]?=some p):K.vI r=p.var:=by simp [KV.vI,h]
structure Nb (K:KV) (l x y:Nat):Prop where
 ok:K.Ok
 un:K.Uni
 hl:l+2<=K.vars
 hx:K.order.getD l 0=x
 hy:K.order.getD (l+1) 0=y
theorem Nb.facts {K:KV} {l x y:Nat} (h:Nb K l x y):x<K.vars/\y<K.vars/\K.lev x=l/\K.lev y=l+1/\x≠y:=by
 have hl:=h.hl;have h1:=h.ok.ord.pm.oo l (by omega);have h2:=h.ok.ord.pm.oo (l+1) (by omega);rw [h.hx] at h1;rw [h.hy] at h2;exact ⟨h1.1,h2.1,h1.2,h2.2,by rintro rfl;omega⟩
def Deep (K:KV) (l a:Nat):Prop:=K.A.tk a=true/\l+1<K.dep a
def KV.Cross (K:KV) (x y r:Nat):Prop:=2<=r/\∃ p,K.A.list[r]?=some p/\p.taken=true/\p.var=(x:Int)/\(K.vI p.lo=(y:Int)\/K.vI p.hi=(y:Int))
theorem Nb.dep_at {K:KV} {l x y r v:Nat} {p:PlaceV} (_h:Nb K l x y) (hp:K.A.list[r]?=some p) (hv:p.var=(v:Int)):K.dep r=K.lev v:=by
 simp [KV.dep,hp,hv]
theorem Nb.deep_v {K:KV} {l x y a:Nat} (h:Nb K l x y) (ha:Deep K l a):K.vI a≠(x:Int)/\K.vI a≠(y:Int):=by
 obtain ⟨hx,hy,h1,h2,_⟩:=h.facts;obtain ⟨p,hp,hpt⟩:=ArenaV.tk_iff.1 ha.1;have hd:=ha.2;rw [KV.vI_at hp];refine ⟨fun e=>?_,fun e=>?_⟩
 ·rw [h.dep_at hp e] at hd;omega
 ·rw [h.dep_at hp e] at hd;omega
theorem Nb.kid {K:KV} {l x y c:Nat} (h:Nb K l x y) (ht:K.A.tk c=true) (hd:l<K.dep c) (hv:K.vI c≠(y:Int)):Deep K l c:=by
 obtain ⟨hx,hy,h1,h2,_⟩:=h.facts;refine ⟨ht,?_⟩
 by_cases hc:2<=c
 ·obtain ⟨p,v,hp,hpt,hpv,hvl,_,_,hdep⟩:=h.ok.wf.node_at hc ht
  rcases Nat.lt_or_ge (l+1) (K.dep c) with h5 | h5
  ·exact h5
  ·exfalso
   have e:v=y:=h.ok.ord.pm.inj hvl hy (by omega);exact hv (by rw [KV.vI_at hp,hpv,e])
 ·rw [h.ok.wf.dep_const (by omega)]
  have:=h.hl;omega
theorem KV.part_no {K:KV} {y r:Nat} (h:K.vI r≠(y:Int)):K.part y r=(r,r):=by
 unfold KV.part
 cases hp:K.A.list[r]? with
 | none=>rfl
 | some p =>
  rw [KV.vI_at hp] at h
  simp [h]
theorem KV.part_yes {K:KV} {y r:Nat} {p:PlaceV} (hp:K.A.list[r]?=some p) (h:p.var=(y:Int)):K.part y r=(p.lo,p.hi):=by
 simp [KV.part,hp,h]
theorem Nb.part {K:KV} {l x y c:Nat} (h:Nb K l x y) (ht:K.A.tk c=true) (hd:l<K.dep c):Deep K l (K.part y c).1/\Deep K l (K.part y c).2/\∀ z,K.den c z=if z y then K.den (K.part y c).2 z else K.den (K.part y c).1 z:=by
 obtain ⟨hx,hy,h1,h2,_⟩:=h.facts
 by_cases hv:K.vI c=(y:Int)
 ·obtain ⟨p,hp,hpt⟩:=ArenaV.tk_iff.1 ht
  rw [KV.vI_at hp] at hv;rw [KV.part_yes hp hv]
  have h2c:2<=c:=by
   rcases Nat.lt_or_ge c 2 with h5 | h5
   ·have:=h.ok.wf.dep_const h5
    have e:=h.dep_at hp hv;have:=(h.ok.ord.pm.lo y hy).1;omega
   ·exact h5
  have hb:=h.ok.ord.below h.ok.wf h2c hp hpt;have hc:=h.ok.wf.cl c p h2c hp hpt;have e:=h.dep_at hp hv;refine ⟨⟨hc.1,by show l+1<K.dep p.lo;omega⟩,⟨hc.2,by show l+1<K.dep p.hi;omega⟩,fun z=>?_⟩;rw [KV.den_node h.ok.wf h.ok.ord h2c hp hpt,show p.var.toNat=y by omega]
 ·have hk:=h.kid ht hd hv
  rw [KV.part_no hv];exact ⟨hk,hk,fun z=>by simp⟩
theorem Nb.deep_den {K:KV} {l x y a:Nat} (h:Nb K l x y) (ha:Deep K l a) (z:Nat->Bool) (b:Bool):K.den a (upd z x b)=K.den a z/\K.den a (upd z y b)=K.den a z:=by
 obtain ⟨hx,hy,h1,h2,_⟩:=h.facts;have hd:=ha.2;exact ⟨KV.den_upd h.ok.wf h.ok.ord ha.1 hx (by omega) z b,KV.den_upd h.ok.wf h.ok.ord ha.1 hy (by omega) z b⟩
theorem KV.Ok.hangs {K:KV} (hk:K.Ok) (hu:K.Uni) {r v:Nat} {p:PlaceV} (h2:2<=r) (hp:K.A.list[r]?=some p) (hpt:p.taken=true) (hv:p.var=(v:Int)) (hno:∀ z b,K.den r (upd z v b)=K.den r z):False:=by
 refine hk.ord.ne r p h2 hp hpt (KV.canon hk.wf hk.ord hu _ _ _ (hk.wf.cl r p h2 hp hpt).1 (hk.wf.cl r p h2 hp hpt).2 (Nat.le_refl _) fun z=>?_);have h0:=KV.den_lo hk.wf hk.ord h2 hp hpt z;have h1:=KV.den_hi hk.wf hk.ord h2 hp hpt z;rw [show p.var.toNat=v by omega] at h0 h1;rw [<- h0,<- h1,hno,hno]
def Low (K0:KV) (l x:Nat) (K:KV) (r:Nat):Prop:=K.A.tk r=true/\(Deep K0 l r\/(2<=r/\∃ p,K.A.list[r]?=some p/\p.taken=true/\p.var=(x:Int)/\Deep K0 l p.lo/\Deep K0 l p.hi/\p.lo≠p.hi))
structure Mid (K0:KV) (l x y:Nat) (R:List Nat) (K:KV) (D:Nat->(Nat->Bool)->Bool):Prop where
 vr:K.vars=K0.vars
 od:K.order=K0.order
 lv:K.level=K0.level
 hd:∀ r,K.hold r=K0.hold r
 tr:K.trail=K0.trail
 pl:K.A.places=K0.A.places
 rc:∀ r,r∈R->K0.Cross x y r
 rn:R.Nodup
 old:∀ (r:Nat) (p:PlaceV),K0.A.list[r]?=some p->p.taken=true->(¬ K0.Cross x y r\/r∈R)->K.A.list[r]?=some p
 cr:∀ r,K0.Cross x y r->r∉R->∃ p,K.A.list[r]?=some p/\p.taken=true/\p.var=(y:Int)/\Low K0 l x K p.lo/\Low K0 l x K p.hi/\p.lo≠p.hi
 nw:∀ (r:Nat) (p:PlaceV),K.A.list[r]?=some p->p.taken=true->K0.A.tk r=false->2<=r/\p.var=(x:Int)/\Deep K0 l p.lo/\Deep K0 l p.hi/\p.lo≠p.hi
 sem:∀ (r:Nat) (p:PlaceV),2<=r->K.A.list[r]?=some p->p.taken=true->∀ z,D r z=if z p.var.toNat then D p.hi z else D p.lo z
 dold:∀ r,K0.A.tk r=true->∀ z,D r z=K0.den r z
theorem Nb.cross_tk {K:KV} {x y r:Nat} (h:K.Cross x y r):K.A.tk r=true:=by
 obtain ⟨_,p,hp,hpt,_⟩:=h;exact ArenaV.tk_iff.2 ⟨p,hp,hpt⟩
theorem Mid.start {K:KV} {l x y:Nat} {R:List Nat} (h:Nb K l x y) (hR:∀ r,r∈R↔K.Cross x y r) (hn:R.Nodup):Mid K l x y R K K.den:=by
 refine ⟨rfl,rfl,rfl,fun _=>rfl,rfl,rfl,fun r hr=>(hR r).1 hr,hn,fun r p hp _ _=>hp,fun r hc hr=>absurd ((hR r).2 hc) hr,fun r p hp hpt ht=>?_,fun r p h2 hp hpt z=>KV.den_node h.ok.wf h.ok.ord h2 hp hpt z,fun _ _ _=>rfl⟩
 rw [ArenaV.tk_iff.2 ⟨p,hp,hpt⟩] at ht;cases ht
theorem Mid.tk {K0 K:KV} {l x y:Nat} {R:List Nat} {D:Nat->(Nat->Bool)->Bool} (h:Mid K0 l x y R K D) {r:Nat} (ht:K0.A.tk r=true):K.A.tk r=true:=by
 obtain ⟨p,hp,hpt⟩:=ArenaV.tk_iff.1 ht
 by_cases hc:K0.Cross x y r/\r∉R
 ·obtain ⟨q,hq,hqt,_⟩:=h.cr r hc.1 hc.2
  exact ArenaV.tk_iff.2 ⟨q,hq,hqt⟩
 ·refine ArenaV.tk_iff.2 ⟨p,h.old r p hp hpt ?_,hpt⟩
  by_cases h1:K0.Cross x y r
  ·exact .inr (Classical.not_not.1 fun h2=>hc ⟨h1,h2⟩)
  ·exact .inl h1
theorem Mid.deep_at {K0 K:KV} {l x y:Nat} {R:List Nat} {D:Nat->(Nat->Bool)->Bool} (h:Mid K0 l x y R K D) (nb:Nb K0 l x y) {a:Nat} {p:PlaceV} (ha:Deep K0 l a) (hp:K0.A.list[a]?=some p) (hpt:p.taken=true):K.A.list[a]?=some p:=by
 refine h.old a p hp hpt (.inl fun hc=>?_);obtain ⟨_,q,hq,_,hv,_⟩:=hc;have:=(nb.deep_v ha).1;rw [KV.vI_at hq] at this;exact this hv
theorem Low.mono {K0 K K':KV} {l x r:Nat} (h:Low K0 l x K r) (hs:∀ p,K.A.list[r]?=some p->p.taken=true->K'.A.list[r]?=some p):Low K0 l x K' r:=by
 obtain ⟨p,hp,hpt⟩:=ArenaV.tk_iff.1 h.1;refine ⟨ArenaV.tk_iff.2 ⟨p,hs p hp hpt,hpt⟩,h.2.imp id fun ⟨h2,q,hq,hqt,hr⟩=>⟨h2,q,hs q hq hqt,hqt,hr⟩⟩
def GetR (K:KV) (X:List Nat) (x a b r:Nat) (K':KV):Prop :=
 (a=b/\r=a/\K'=K)\/(a≠b/\(2<=r/\∃ p,K.A.list[r]?=some p/\p.taken=true/\p.var=(x:Int)/\p.lo=a/\p.hi=b)/\K'=K)\/(a≠b/\K.Took (x:Int) a b r K'/\∀ (s:Nat) (p:PlaceV),s∉X->2<=s->K.A.list[s]?=some p->p.taken=true->¬ (p.var=(x:Int)/\p.lo=a/\p.hi=b))
theorem Mid.get {K0 K K':KV} {l x y a b r:Nat} {R P X:List Nat} {D:Nat->(Nat->Bool)->Bool} (h:Mid K0 l x y R K D) (_nb:Nb K0 l x y) (hw:K.Wf P) (ha:Deep K0 l a) (hb:Deep K0 l b) (G:GetR K X x a b r K') :
  ∃ D',Mid K0 l x y R K' D'/\Low K0 l x K' r/\(∀ z,D' r z=if z x then K0.den b z else K0.den a z)/\(∀ s,K.A.tk s=true->∀ z,D' s z=D s z)/\∀ (s:Nat) (p:PlaceV),K.A.list[s]?=some p->p.taken=true->K'.A.list[s]?=some p:=by
 have hda:=fun z=>h.dold a ha.1 z
 have hdb:=fun z=>h.dold b hb.1 z
 rcases G with ⟨rfl,rfl,rfl⟩ | ⟨hne,⟨h2,p,hp,hpt,hv,rfl,rfl⟩,rfl⟩ | ⟨hne,T,_⟩
 ·exact ⟨D,h,⟨h.tk ha.1,.inl ha⟩,fun z=>by rw [hda];simp,fun _ _ _=>rfl,fun _ _ hp _=>hp⟩
 ·refine ⟨D,h,⟨ArenaV.tk_iff.2 ⟨p,hp,hpt⟩,.inr ⟨h2,p,hp,hpt,hv,ha,hb,hne⟩⟩,fun z=>?_,fun _ _ _=>rfl,fun _ _ hp _=>hp⟩
  rw [h.sem r p h2 hp hpt z,hda,hdb,show p.var.toNat=x by omega]
 ·have hno:=T.fr.no
  have ta:=h.tk ha.1;have tb:=h.tk hb.1
  have nr:∀ s,K.A.tk s=true->s≠r:=fun s hs e=>by rw [e,hno] at hs;cases hs
  have keep:∀ (s:Nat) (p:PlaceV),K.A.list[s]?=some p->p.taken=true->K'.A.list[s]?=some p:=fun s p hp hpt=>by
   rw [T.fr.ot s (nr s (ArenaV.tk_iff.2 ⟨p,hp,hpt⟩))];exact hp
  have h0r:K0.A.tk r=false:=by
   cases e:K0.A.tk r with
   | false=>rfl
   | true=>rw [h.tk e] at hno;cases hno
  refine ⟨fun s=>if s=r then fun z=>if z x then K0.den b z else K0.den a z else D s,⟨by rw [T.vr,h.vr],by rw [T.od,h.od],by rw [T.lv,h.lv],fun s=>?_,by rw [T.tr,h.tr],by rw [T.fr.pl,h.pl],h.rc,h.rn,fun s p hp hpt hc=>keep s p (h.old s p hp hpt hc) hpt,fun s hc hs=>?_,fun s p hp hpt ht=>?_,fun s p h2 hp hpt z=>?_,fun s hs z=>?_⟩,⟨ArenaV.tk_iff.2 ⟨_,T.fr.at_,rfl⟩,.inr ⟨T.fr.two,_,T.fr.at_,rfl,rfl,ha,hb,hne⟩⟩,fun z=>by simp,fun s hs z=>?_,keep⟩
  ·rw [T.hd,<- h.hd]
   split
   ·rename_i e
    subst e
    rcases Nat.eq_zero_or_pos (K.hold s) with h0 | h0
    ·exact h0.symm
    ·rw [(hw.ht s h0).2] at hno;cases hno
   ·rfl
  ·obtain ⟨p,hp,hpt,hv,hlo,hhi,hn⟩:=h.cr s hc hs
   exact ⟨p,keep s p hp hpt,hpt,hv,hlo.mono (keep _),hhi.mono (keep _),hn⟩
  ·by_cases e:s=r
   ·subst e
    rw [T.fr.at_] at hp;cases hp
    exact ⟨T.fr.two,rfl,ha,hb,hne⟩
   ·rw [T.fr.ot s e] at hp
    exact h.nw s p hp hpt ht
  ·by_cases e:s=r
   ·subst e
    rw [T.fr.at_] at hp;cases hp
    simp only [if_true,Int.toNat_natCast]
    rw [if_neg (nr a ta),if_neg (nr b tb),hda,hdb]
   ·rw [T.fr.ot s e] at hp
    have hc:=hw.cl s p h2 hp hpt
    simp only [if_neg e]
    rw [if_neg (nr _ hc.1),if_neg (nr _ hc.2)];exact h.sem s p h2 hp hpt z
  ·have e:s≠r:=fun e=>by rw [e,h0r] at hs;cases hs
   simp only [if_neg e]
   exact h.dold s hs z
  ·simp only [if_neg (nr s hs)]
theorem setNode_at {A:ArenaV} {c:Nat} {q:PlaceV} {v:Int} {lo hi:Nat} (hq:A.list[c]?=some q) (s:Nat):(A.setNode c v lo hi).list[s]?=if s=c then some { q with var:=v,lo:=lo,hi:=hi } else A.list[s]?:=by
 have hlt:=(List.getElem?_eq_some_iff.1 hq).1
 simp only [ArenaV.setNode,hq]
 by_cases e:s=c
 ·subst e;rw [List.getElem?_set_self hlt,if_pos rfl]
 ·rw [List.getElem?_set_ne (Ne.symm e),if_neg e]
def KV.turnN (K:KV) (c y lo hi:Nat):KV:={ K with A:=K.A.setNode c (y:Int) lo hi }
theorem Low.ne_cross {K0 K:KV} {l x y:Nat} {R:List Nat} {D:Nat->(Nat->Bool)->Bool} (h:Mid K0 l x y R K D) (nb:Nb K0 l x y) {c r:Nat} (hc:K0.Cross x y c) (hr:Low K0 l x K r) (hin:c∈R\/K.vI c=(y:Int)):r≠c:=by
 rintro rfl;obtain ⟨_,_,_,_,hxy⟩:=nb.facts;obtain ⟨h2,p,hp,hpt,hv,hkid⟩:=hc
 rcases hr.2 with hd | ⟨_,q,hq,hqt,hqv,hlo,hhi,_⟩
 ·have:=(nb.deep_v hd).1
  rw [KV.vI_at hp] at this;exact this hv
 ·rcases hin with hin | hin
  ·have:=h.old r p hp hpt (.inr hin)
   rw [hq] at this;cases this
   rcases hkid with e | e
   ·exact (nb.deep_v hlo).2 e
   ·exact (nb.deep_v hhi).2 e
  ·rw [KV.vI_at hq,hqv] at hin
   exact hxy (by omega)
theorem Mid.low_den {K0 K:KV} {l x y:Nat} {R:List Nat} {D:Nat->(Nat->Bool)->Bool} (h:Mid K0 l x y R K D) (nb:Nb K0 l x y) {r:Nat} (hr:Low K0 l x K r) (z:Nat->Bool) (b:Bool):D r (upd z y b)=D r z:=by
 obtain ⟨_,_,_,_,hxy⟩:=nb.facts
 rcases hr.2 with hd | ⟨h2,q,hq,hqt,hqv,hlo,hhi,_⟩
 ·rw [h.dold r hd.1,h.dold r hd.1];exact (nb.deep_den hd z b).2
 ·rw [h.sem r q h2 hq hqt,h.sem r q h2 hq hqt,show q.var.toNat=x by omega,h.dold _ hlo.1,h.dold _ hhi.1,h.dold _ hlo.1,h.dold _ hhi.1,(nb.deep_den hlo z b).2,(nb.deep_den hhi z b).2,upd_ne z b hxy]
structure Four (K0:KV) (l x y c:Nat) (p:PlaceV) (a00 a01 a10 a11:Nat):Prop where
 at_:K0.A.list[c]?=some p
 tk:p.taken=true
 e0:K0.part y p.lo=(a00,a01)
 e1:K0.part y p.hi=(a10,a11)
 d00:Deep K0 l a00
 d01:Deep K0 l a01
 d10:Deep K0 l a10
 d11:Deep K0 l a11
 den:∀ z,K0.den c z=if z y then (if z x then K0.den a11 z else K0.den a01 z) else (if z x then K0.den a10 z else K0.den a00 z)
theorem Nb.four {K:KV} {l x y c:Nat} (h:Nb K l x y) (hc:K.Cross x y c):∃ p a00 a01 a10 a11,Four K l x y c p a00 a01 a10 a11:=by
 obtain ⟨_,_,h1,_,_⟩:=h.facts;obtain ⟨h2,p,hp,hpt,hv,_⟩:=hc;have hb:=h.ok.ord.below h.ok.wf h2 hp hpt;have hcl:=h.ok.wf.cl c p h2 hp hpt;have e:=h.dep_at hp hv;obtain ⟨f1,f2,f3⟩:=h.part hcl.1 (by omega);obtain ⟨g1,g2,g3⟩:=h.part hcl.2 (by omega);refine ⟨p,(K.part y p.lo).1,(K.part y p.lo).2,(K.part y p.hi).1,(K.part y p.hi).2,hp,hpt,rfl,rfl,f1,f2,g1,g2,fun z=>?_⟩;rw [KV.den_node h.ok.wf h.ok.ord h2 hp hpt,show p.var.toNat=x by omega,f3,g3]
 cases z x <;> cases z y <;> rfl
theorem Nb.cross_y {K:KV} {l x y c:Nat} (h:Nb K l x y) (hc:K.Cross x y c) (hno:∀ z b,K.den c (upd z y b)=K.den c z):False:=by
 obtain ⟨_,_,_,_,hxy⟩:=h.facts;obtain ⟨h2,p,hp,hpt,hv,hkid⟩:=hc;have hcl:=h.ok.wf.cl c p h2 hp hpt
 have e:p.var.toNat=x:=by omega
 have key:∀ (k:Nat) (bx:Bool),(∀ z,K.den c (upd z x bx)=K.den k z)->K.A.tk k=true->K.vI k=(y:Int)->False:=fun k bx hk htk hvk=>by
  obtain ⟨q,hq,hqt⟩:=ArenaV.tk_iff.1 htk;rw [KV.vI_at hq] at hvk
  have h2k:2<=k:=by
   match k with
   | 0=>rw [h.ok.wf.ok.c0] at hq;cases hq;simp at hvk
   | 1=>rw [h.ok.wf.ok.c1] at hq;cases hq;simp at hvk
   | k+2=>omega
  refine h.ok.hangs h.un h2k hq hqt hvk fun z b=>?_
  rw [<- hk,<- hk]
  have ec:upd (upd z y b) x bx=upd (upd z x bx) y b:=by
   funext u
   simp only [upd]
   by_cases e1:u=x
   ·by_cases e2:u=y
    ·exact absurd (e1.symm.trans e2) hxy
    ·simp [e1,hxy]
   ·simp [e1]
  rw [ec,hno]
 rcases hkid with hk | hk
 ·exact key p.lo false (fun z=>by have:=KV.den_lo h.ok.wf h.ok.ord h2 hp hpt z;rw [e] at this;exact this) hcl.1 hk
 ·exact key p.hi true (fun z=>by have:=KV.den_hi h.ok.wf h.ok.ord h2 hp hpt z;rw [e] at this;exact this) hcl.2 hk
theorem Mid.turn {K0 K:KV} {l x y c lo hi a00 a01 a10 a11:Nat} {p:PlaceV} {R:List Nat} {D:Nat->(Nat->Bool)->Bool} (h:Mid K0 l x y (c::R) K D) (nb:Nb K0 l x y) (F:Four K0 l x y c p a00 a01 a10 a11)
  (hlo:Low K0 l x K lo) (hhi:Low K0 l x K hi) (dlo:∀ z,D lo z=if z x then K0.den a10 z else K0.den a00 z) (dhi:∀ z,D hi z=if z x then K0.den a11 z else K0.den a01 z) :
  Mid K0 l x y R (K.turnN c y lo hi) D/\lo≠hi/\K.A.list[c]?=some p:=by
 have hc:=h.rc c (by simp);have hcR:=(List.nodup_cons.1 h.rn).1;have hq:K.A.list[c]?=some p:=h.old c p F.at_ F.tk (.inr (by simp))
 have at_:=fun s=>setNode_at (A:=K.A) (v:=(y:Int)) (lo:=lo) (hi:=hi) hq s
 have h2:2<=c:=hc.1;have t0:K0.A.tk c=true:=Nb.cross_tk hc
 have hne:lo≠hi:=by
  rintro rfl
  refine nb.cross_y hc fun z b=>?_
  have hz:∀ z,K0.den c z=D lo z:=fun z=>by
   rw [F.den];cases e:z y
   ·rw [dlo];rfl
   ·rw [dhi];rfl
  rw [hz,hz,h.low_den nb hlo]
 have nl:∀ {s:Nat},Low K0 l x K s->s≠c:=fun hs=>Low.ne_cross h nb hc hs (.inl (by simp))
 have mono:∀ {s:Nat},Low K0 l x K s->Low K0 l x (K.turnN c y lo hi) s:=fun {s} hs=>hs.mono fun q hq' _=>by
  show (K.A.setNode c (y:Int) lo hi).list[s]?=some q
  rw [at_,if_neg (nl hs)];exact hq'
 refine ⟨⟨h.vr,h.od,h.lv,h.hd,h.tr,?_,fun r hr=>h.rc r (List.mem_cons_of_mem _ hr),(List.nodup_cons.1 h.rn).2,fun r q hr hrt hcase=>?_,fun r hcr hr=>?_,fun r q hr hrt ht=>?_,fun r q h2r hr hrt z=>?_,h.dold⟩,hne,hq⟩
 ·show (K.A.setNode c (y:Int) lo hi).places=_
  rw [<- h.pl];simp only [ArenaV.setNode]
 ·show (K.A.setNode c (y:Int) lo hi).list[r]?=some q
  have hrc:r≠c:=by
   rintro rfl
   rcases hcase with hh | hh
   ·exact hh hc
   ·exact hcR hh
  rw [at_,if_neg hrc];exact h.old r q hr hrt (hcase.imp id (List.mem_cons_of_mem _))
 ·by_cases hrc:r=c
  ·subst hrc
   exact ⟨{ p with var:=(y:Int),lo:=lo,hi:=hi },by show (K.A.setNode r (y:Int) lo hi).list[r]?=_;rw [at_,if_pos rfl],F.tk,rfl,mono hlo,mono hhi,hne⟩
  ·obtain ⟨q,hr',hrt,hv,f1,f2,f3⟩:=h.cr r hcr (by simp [hrc,hr])
   exact ⟨q,by show (K.A.setNode c (y:Int) lo hi).list[r]?=_;rw [at_,if_neg hrc];exact hr',hrt,hv,mono f1,mono f2,f3⟩
 ·have hr':(K.A.setNode c (y:Int) lo hi).list[r]?=some q:=hr
  have hrc:r≠c:=by rintro rfl;rw [t0] at ht;cases ht
  rw [at_,if_neg hrc] at hr';exact h.nw r q hr' hrt ht
 ·have hr':(K.A.setNode c (y:Int) lo hi).list[r]?=some q:=hr
  by_cases hrc:r=c
  ·subst hrc
   rw [at_,if_pos rfl] at hr';cases hr'
   simp only [Int.toNat_natCast]
   rw [h.dold r t0,F.den,dlo,dhi]
  ·rw [at_,if_neg hrc] at hr'
   exact h.sem r q h2r hr' hrt z
end Go.Proofs.YtlkgkojidclncaaGreat
namespace Go.Proofs.YtlkgkojidclncaaGreat
open Go.RowKit Go.Maps Go.ChangeMaps Go.WideShapes
theorem Mid.turn_new {K0 K:KV} {l x y c lo hi a00 a01 a10 a11:Nat} {p:PlaceV} {R:List Nat} {D:Nat->(Nat->Bool)->Bool} (h:Mid K0 l x y (c::R) K D) (nb:Nb K0 l x y) (F:Four K0 l x y c p a00 a01 a10 a11)
  (dlo:∀ z,D lo z=if z x then K0.den a10 z else K0.den a00 z) (dhi:∀ z,D hi z=if z x then K0.den a11 z else K0.den a01 z)
  {s:Nat} {q:PlaceV} (h2:2<=s) (hq:K.A.list[s]?=some q) (hqt:q.taken=true) (hs:s∉c::R):¬ (q.var=(y:Int)/\q.lo=lo/\q.hi=hi):=by
 rintro ⟨hv,rfl,rfl⟩;obtain ⟨_,_,_,_,hxy⟩:=nb.facts;have hc:=h.rc c (by simp);have t0:K0.A.tk c=true:=Nb.cross_tk hc
 have ts:K0.A.tk s=true:=by
  cases e:K0.A.tk s with
  | true=>rfl
  | false =>
   have:=(h.nw s q hq hqt e).2.1;omega
 have e:s=c:=KV.canon nb.ok.wf nb.ok.ord nb.un _ _ _ ts t0 (Nat.le_refl _) fun z=>by
  rw [<- h.dold s ts,h.sem s q h2 hq hqt,show q.var.toNat=y by omega,F.den,dlo,dhi]
 exact hs (by simp [e])
theorem KV.Ok.tk01 {K:KV} (h:K.Ok) {r:Nat} (h2:r<2):K.A.tk r=true:=by
 match r,h2 with
 | 0,_=>exact h.wf.ok.tk01.1
 | 1,_=>exact h.wf.ok.tk01.2
def KV.swapO (K:KV) (l x y:Nat):KV:={ K with order:=(K.order.set l y).set (l+1) x,level:=(K.level.set x (l+1)).set y l }
theorem KV.swapO_lev {K:KV} {l x y:Nat} (hx:x<K.level.length) (hy:y<K.level.length) (v:Nat):(K.swapO l x y).lev v=if v=y then l else if v=x then l+1 else K.lev v:=by
 show ((K.level.set x (l+1)).set y l).getD v 0=_
 rw [getD_set (by simpa using hy),getD_set hx];rfl
theorem KV.swapO_ord {K:KV} {l x y:Nat} (hl:l+1<K.order.length) (j:Nat):(K.swapO l x y).order.getD j 0=if j=l+1 then x else if j=l then y else K.order.getD j 0:=by
 show ((K.order.set l y).set (l+1) x).getD j 0=_
 rw [getD_set (by simpa using hl),getD_set (by omega)]
theorem KV.Wf.swapO {K:KV} {P:List Nat} (h:K.Wf P) (l x y:Nat):(K.swapO l x y).Wf P:=⟨h.ok,h.len,h.ul,h.tu,h.ht,h.hm,h.eq,h.pt,h.cl,h.vr,h.vs⟩
theorem KV.Perm.swapO {K:KV} {l x y:Nat} (h:K.Perm) (hl:l+2<=K.vars) (hx:K.order.getD l 0=x) (hy:K.order.getD (l+1) 0=y):(K.swapO l x y).Perm:=by
 have ol:=h.ol;have ll:=h.ll;have f1:=h.oo l (by omega);have f2:=h.oo (l+1) (by omega);rw [hx] at f1;rw [hy] at f2
 have hxy:x≠y:=by rintro rfl;omega
 have lev:=fun v=>KV.swapO_lev (K:=K) (l:=l) (x:=x) (y:=y) (by omega) (by omega) v
 have ord:=fun j=>KV.swapO_ord (K:=K) (l:=l) (x:=x) (y:=y) (by omega) j
 refine ⟨by simpa [KV.swapO] using ol,by simpa [KV.swapO] using ll,fun v hv=>?_,fun j hj=>?_⟩
 ·have hv':v<K.vars:=hv
  have g:=h.lo v hv'
  show (K.swapO l x y).lev v<K.vars/\_
  rw [ord,lev]
  by_cases e1:v=y
  ·subst e1
   simp only [if_true]
   refine ⟨by omega,?_⟩;rw [if_neg (by omega)]
  ·by_cases e2:v=x
   ·subst e2
    simp only [if_neg e1,if_true]
    exact ⟨by omega,trivial⟩
   ·simp only [if_neg e1,if_neg e2]
    have n1:K.lev v≠l+1:=fun e=>e1 (by rw [<- g.2,e,hy])
    have n2:K.lev v≠l:=fun e=>e2 (by rw [<- g.2,e,hx])
    rw [if_neg n1,if_neg n2];exact g
 ·have hj':j<K.vars:=hj
  have g:=h.oo j hj'
  show (K.swapO l x y).order.getD j 0<K.vars/\_
  rw [ord]
  by_cases e1:j=l+1
  ·subst e1
   simp only [if_true]
   rw [lev,if_neg hxy,if_pos rfl];exact ⟨f1.1,rfl⟩
  ·by_cases e2:j=l
   ·subst e2
    rw [if_neg e1,if_pos rfl,lev,if_pos rfl];exact ⟨f2.1,rfl⟩
   ·rw [if_neg e1,if_neg e2,lev]
    have n1:K.order.getD j 0≠y:=fun e=>e1 (by rw [<- g.2,e];exact f2.2)
    have n2:K.order.getD j 0≠x:=fun e=>e2 (by rw [<- g.2,e];exact f1.2)
    rw [if_neg n1,if_neg n2];exact g
theorem Mid.done {K0 K:KV} {l x y:Nat} {P:List Nat} {D:Nat->(Nat->Bool)->Bool} (h:Mid K0 l x y [] K D) (nb:Nb K0 l x y) (hw:K.Wf P) :
  (K.swapO l x y).Ord/\∀ r,K.A.tk r=true->∀ z,(K.swapO l x y).den r z=D r z:=by
 obtain ⟨hx,hy,lx,ly,hxy⟩:=nb.facts;have pm0:=nb.ok.ord.pm;have hl:=nb.hl;have hvr:=h.vr
 have pm1:K.Perm:=⟨by rw [h.od,hvr];exact pm0.ol,by rw [h.lv,hvr];exact pm0.ll,fun v hv=>by
  have:=pm0.lo v (by omega)
  rw [show K.lev v=K0.lev v by simp [KV.lev,h.lv],h.od,hvr];exact this,fun j hj=>by
  have:=pm0.oo j (by omega)
  rw [h.od,hvr,show K.lev (K0.order.getD j 0)=K0.lev (K0.order.getD j 0) by simp [KV.lev,h.lv]];exact this⟩
 have ll:=pm1.ll
 have lev:∀ v,(K.swapO l x y).lev v=if v=y then l else if v=x then l+1 else K0.lev v:=fun v=>by
  rw [KV.swapO_lev (by omega) (by omega),show K.lev v=K0.lev v by simp [KV.lev,h.lv]]
 have dep_at:∀ {r v:Nat} {p:PlaceV},K.A.list[r]?=some p->p.var=(v:Int)->(K.swapO l x y).dep r=(K.swapO l x y).lev v:=fun {r v p} hp hv=>by
  have hp':(K.swapO l x y).A.list[r]?=some p:=hp
  simp [KV.dep,hp',hv]
 have dep01:∀ r,r<2->(K.swapO l x y).dep r=K0.vars:=fun r hr=>by
  rw [(hw.swapO l x y).dep_const hr];exact hvr
 have ddeep:∀ a,Deep K0 l a->(K.swapO l x y).dep a=K0.dep a:=fun a ha=>by
  by_cases h2:2<=a
  ·obtain ⟨p,v,hp,hpt,hv,hvl,_,_,hd⟩:=nb.ok.wf.node_at h2 ha.1
   have hne:=nb.deep_v ha;rw [KV.vI_at hp,hv] at hne;rw [dep_at (h.deep_at nb ha hp hpt) hv,lev,if_neg (by omega),if_neg (by omega),hd]
  ·rw [dep01 a (by omega),nb.ok.wf.dep_const (by omega)]
 have dlow:∀ r,Low K0 l x K r->l<(K.swapO l x y).dep r:=fun r hr=>by
  rcases hr.2 with hd | ⟨_,p,hp,_,hv,_⟩
  ·rw [ddeep r hd];have:=hd.2;omega
  ·rw [dep_at hp hv,lev,if_neg hxy,if_pos rfl];omega
 have above:∀ (k m:Nat),K0.A.tk k=true->m<K0.dep k->m≠l->m<(K.swapO l x y).dep k:=fun k m ht hm hml=>by
  by_cases h2:2<=k
  ·obtain ⟨p,v,hp,hpt,hv,hvl,_,_,hd⟩:=nb.ok.wf.node_at h2 ht
   by_cases hc:K0.Cross x y k
   ·obtain ⟨q,hq,_,hqv,_⟩:=h.cr k hc (by simp)
    obtain ⟨_,p',hp',_,hpv,_⟩:=hc
    rw [hp] at hp';cases hp'
    have hvx:v=x:=by omega
    subst hvx;rw [dep_at hq hqv,lev,if_pos rfl];omega
   ·rw [dep_at (h.old k p hp hpt (.inl hc)) hv,lev]
    split
    ·rename_i e;subst e;omega
    ·split
     ·rename_i e;subst e;omega
     ·omega
  ·rw [dep01 k (by omega)]
   have:=nb.ok.wf.dep_const (r:=k) (by omega);omega
 have key:∀ (q:Nat) p,2<=q->K.A.list[q]?=some p->p.taken=true->p.lo≠p.hi/\(K.swapO l x y).lev p.var.toNat<(K.swapO l x y).dep p.lo/\(K.swapO l x y).lev p.var.toNat<(K.swapO l x y).dep p.hi:=fun q p h2 hp hpt=>by
  have xcase:p.var=(x:Int)->Deep K0 l p.lo->Deep K0 l p.hi->(K.swapO l x y).lev p.var.toNat<(K.swapO l x y).dep p.lo/\(K.swapO l x y).lev p.var.toNat<(K.swapO l x y).dep p.hi:=fun hv h1 h3=>by
   have a1:=h1.2;have a2:=h3.2;rw [show p.var.toNat=x by omega,lev,if_neg hxy,if_pos rfl,ddeep _ h1,ddeep _ h3];omega
  cases ht:K0.A.tk q with
  | false =>
   obtain ⟨_,hv,h1,h3,hne⟩:=h.nw q p hp hpt ht;exact ⟨hne,xcase hv h1 h3⟩
  | true =>
   by_cases hc:K0.Cross x y q
   ·obtain ⟨p',hp',_,hv,h1,h3,hne⟩:=h.cr q hc (by simp)
    rw [hp] at hp';cases hp'
    rw [show p.var.toNat=y by omega,lev,if_pos rfl];exact ⟨hne,dlow _ h1,dlow _ h3⟩
   ·obtain ⟨p0,v,hp0,hpt0,hv,hvl,t1,t3,hd⟩:=nb.ok.wf.node_at h2 ht
    have:=h.old q p0 hp0 hpt0 (.inl hc)
    rw [hp] at this;cases this
    have hb:=nb.ok.ord.below nb.ok.wf h2 hp0 hpt;refine ⟨nb.ok.ord.ne q p h2 hp0 hpt,?_⟩;rw [hd] at hb
    by_cases ex:v=x
    ·subst ex
     have n1:K0.vI p.lo≠(y:Int):=fun e=>hc ⟨h2,p,hp0,hpt,hv,.inl e⟩
     have n3:K0.vI p.hi≠(y:Int):=fun e=>hc ⟨h2,p,hp0,hpt,hv,.inr e⟩
     exact xcase hv (nb.kid t1 (by omega) n1) (nb.kid t3 (by omega) n3)
    ·by_cases ey:v=y
     ·subst ey
      have g1:Deep K0 l p.lo:=⟨t1,by omega⟩;have g3:Deep K0 l p.hi:=⟨t3,by omega⟩;rw [show p.var.toNat=v by omega,lev,if_pos rfl,ddeep _ g1,ddeep _ g3];omega
     ·have nl:K0.lev v≠l:=fun e=>ex (pm0.inj hvl hx (by omega))
      rw [show p.var.toNat=v by omega,lev,if_neg ey,if_neg ex];exact ⟨above _ _ t1 hb.1 nl,above _ _ t3 hb.2 nl⟩
 have hord:(K.swapO l x y).Ord:=⟨pm1.swapO (by omega) (by rw [h.od];exact nb.hx) (by rw [h.od];exact nb.hy),fun q p h2 hp hpt=>(key q p h2 hp hpt).1,fun q p h2 hp hpt=>(key q p h2 hp hpt).2⟩;have hw':=hw.swapO l x y;refine ⟨hord,fun r ht=>?_⟩
 have ind:∀ (n r:Nat),K.A.tk r=true->K0.vars-(K.swapO l x y).dep r<=n->∀ z,(K.swapO l x y).den r z=D r z:=by
  intro n
  induction n with
  | zero =>
   intro r ht hn z
   by_cases h2:2<=r
   ·have:=hw'.dep_lt hord h2 ht
    have e:(K.swapO l x y).vars=K0.vars:=hvr;omega
   ·rw [KV.den_const _ (by omega),h.dold r (nb.ok.tk01 (by omega)),KV.den_const _ (by omega)]
  | succ n ih =>
   intro r ht hn z
   by_cases h2:2<=r
   ·obtain ⟨p,hp,hpt⟩:=ArenaV.tk_iff.1 ht
    have hp':(K.swapO l x y).A.list[r]?=some p:=hp;have hb:=hord.below hw' h2 hp' hpt;have hl2:=hw'.dep_lt hord h2 ht;have e:(K.swapO l x y).vars=K0.vars:=hvr;have hc:=hw.cl r p h2 hp hpt;rw [KV.den_node hw' hord h2 hp' hpt,h.sem r p h2 hp hpt,ih p.lo hc.1 (by omega),ih p.hi hc.2 (by omega)]
   ·rw [KV.den_const _ (by omega),h.dold r (nb.ok.tk01 (by omega)),KV.den_const _ (by omega)]
 exact ind _ r ht (Nat.le_refl _)
theorem KV.Wf.turnN {K:KV} {P:List Nat} {c y lo hi:Nat} {p:PlaceV} (h:K.Wf (lo::hi::P)) (h2:2<=c) (hp:K.A.list[c]?=some p) (hpt:p.taken=true) (hy:y<K.vars) (h32:lo<=4294967295/\hi<=4294967295):(K.turnN c y lo hi).Wf (p.lo::p.hi::P):=by
 have at_:=fun s=>setNode_at (A:=K.A) (v:=(y:Int)) (lo:=lo) (hi:=hi) hp s
 have hlt:=(List.getElem?_eq_some_iff.1 hp).1
 have tk:∀ s,(K.turnN c y lo hi).A.tk s=K.A.tk s:=fun s=>by
  show (K.A.setNode c (y:Int) lo hi).tk s=_
  unfold ArenaV.tk;rw [at_]
  by_cases e:s=c
  ·subst e;simp [hp]
  ·simp [e]
 have hl:(K.turnN c y lo hi).A.list.length=K.A.list.length:=by
  show (K.A.setNode c (y:Int) lo hi).list.length=_
  simp only [ArenaV.setNode,hp,List.length_set]
 have hls:(K.turnN c y lo hi).A.list=K.A.list.set c { p with var:=(y:Int),lo:=lo,hi:=hi }:=by
  show (K.A.setNode c (y:Int) lo hi).list=_
  simp only [ArenaV.setNode,hp]
 refine ⟨h.ok.setNode h2 h32.1 h32.2,h.len,by rw [hl];exact h.ul,fun r hr ht=>h.tu r hr (by rw [<- tk];exact ht),fun r hr=>⟨(h.ht r hr).1,by rw [tk];exact (h.ht r hr).2⟩,h.hm,fun r hr ht=>?_,fun r hr=>?_,fun q p' hq hp' hpt'=>?_,fun q p' hq hp' hpt'=>?_,h.vs⟩
 ·rw [tk] at ht
  have he:=h.eq r hr ht;have hs:=par_set (q:={ p with var:=(y:Int),lo:=lo,hi:=hi }) hp r;have e1:(K.turnN c y lo hi).use r=K.use r:=rfl;have e2:(K.turnN c y lo hi).hold r=K.hold r:=rfl;rw [e1,e2,hls,he];generalize par (K.A.list.set c { p with var:=(y:Int),lo:=lo,hi:=hi }) r=X at hs ⊢
  simp only [List.count_cons]
  simp only [cnt,hpt,if_true] at hs
  simp only [beq_iff_eq]
  omega
 ·rw [tk]
  have hcl:=h.cl c p h2 hp hpt
  simp at hr
  rcases hr with rfl | rfl | hr
  ·exact hcl.1
  ·exact hcl.2
  ·exact h.pt r (by simp [hr])
 ·rw [tk,tk]
  have hp'':(K.A.setNode c (y:Int) lo hi).list[q]?=some p':=hp';rw [at_] at hp''
  by_cases e:q=c
  ·rw [if_pos e] at hp'';cases hp''
   exact ⟨h.pt lo (by simp),h.pt hi (by simp)⟩
  ·rw [if_neg e] at hp''
   exact h.cl q p' hq hp'' hpt'
 ·have hp'':(K.A.setNode c (y:Int) lo hi).list[q]?=some p':=hp'
  rw [at_] at hp''
  by_cases e:q=c
  ·rw [if_pos e] at hp'';cases hp''
   exact ⟨by show (0:Int)<=(y:Int);omega,by show (y:Int)<(K.vars:Int);omega⟩
  ·rw [if_neg e] at hp''
   exact h.vr q p' hq hp'' hpt'
theorem TInv.less {T:List DM} {K:KV} {X P:List Nat} (h:TInv T K X) (hw:K.Wf P) {r v:Nat} {p:PlaceV} {D:DM} (hr:2<=r) (hrx:r∉X) (hp:K.A.list[r]?=some p) (hpt:p.taken=true) (hv:p.var=(v:Int)) (hD:T[v]?=some D) :
  TInv (T.set v (D.del (nkp p))) K (r::X):=by
 have hvl:=(List.getElem?_eq_some_iff.1 hD).1;refine ⟨by simpa using h.len,?_,?_,?_⟩
 ·intro u D2 k hu hk
  by_cases e:u=v
  ·subst e
   rw [List.getElem?_set_self hvl] at hu;cases hu
   by_cases e2:k=nkp p
   ·subst e2;rw [has_del_same] at hk;cases hk
   ·rw [has_del_other e2] at hk
    obtain ⟨s,c,h1,h2,h3,h4,h5,h6⟩:=h.dom u D k hD hk;refine ⟨s,c,h1,h2,h3,h4,h5,?_⟩
    simp only [List.mem_cons,not_or]
    refine ⟨?_,h6⟩;rintro rfl
    rw [hp] at h2;cases h2;exact e2 h5
  ·rw [List.getElem?_set_ne (Ne.symm e)] at hu
   obtain ⟨s,c,h1,h2,h3,h4,h5,h6⟩:=h.dom u D2 k hu hk;refine ⟨s,c,h1,h2,h3,h4,h5,?_⟩
   simp only [List.mem_cons,not_or]
   refine ⟨?_,h6⟩;rintro rfl
   rw [hp] at h2;cases h2
   rw [hv] at h4;omega
 ·intro s c D2 hs hc hct hsx hD2
  simp only [List.mem_cons,not_or] at hsx
  by_cases e:c.var.toNat=v
  ·rw [e,List.getElem?_set_self hvl] at hD2;cases hD2
   have hk:nkp c≠nkp p:=fun e2=>hsx.1 (h.uniq hw hs hr hc hp hct hpt hsx.2 hrx e2)
   obtain ⟨g1,g2⟩:=h.at_ s c D hs hc hct hsx.2 (by rw [e];exact hD);rw [has_del_other hk];exact ⟨g1,fun z=>by rw [atKey_del_other hk];exact g2 z⟩
  ·rw [List.getElem?_set_ne (Ne.symm e)] at hD2
   exact h.at_ s c D2 hs hc hct hsx.2 hD2
 ·intro D2 hD2
  rcases List.mem_or_eq_of_mem_set hD2 with h1 | rfl
  ·exact h.im D2 h1
  ·exact (h.im D (List.mem_of_getElem? hD)).del _
theorem TInv.exc {T:List DM} {K:KV} {X Y:List Nat} (h:TInv T K X) (e:∀ r,r∈X↔r∈Y):TInv T K Y :=
 ⟨h.len,fun v D k h1 h2=>by
  obtain ⟨r,p,a,b,c,d,f,g⟩:=h.dom v D k h1 h2
  exact ⟨r,p,a,b,c,d,f,fun hy=>g ((e r).2 hy)⟩,fun r p D a b c d f=>h.at_ r p D a b c (fun hx=>d ((e r).1 hx)) f,h.im⟩
theorem TInv.turnN {T:List DM} {K:KV} {X P:List Nat} {c y lo hi:Nat} {p:PlaceV} {D:DM} (h:TInv T K (c::X)) (hw:K.Wf P) (hcx:c∉X) (h2:2<=c) (hp:K.A.list[c]?=some p) (hpt:p.taken=true) (hy:y<K.vars) (h32:lo<=4294967295/\hi<=4294967295) (hD:T[y]?=some D)
  (hno:∀ (s:Nat) (q:PlaceV),2<=s->K.A.list[s]?=some q->q.taken=true->s∉c::X->¬ (q.var=(y:Int)/\q.lo=lo/\q.hi=hi)) :
  TInv (T.set y (D.put (nk y lo hi) (.lit (.int .u32 c)))) (K.turnN c y lo hi) X:=by
 have hvl:=(List.getElem?_eq_some_iff.1 hD).1;have hIM:=h.im D (List.mem_of_getElem? hD)
 have at_:=fun s=>setNode_at (A:=K.A) (v:=(y:Int)) (lo:=lo) (hi:=hi) hp s
 have at':∀ s,(K.turnN c y lo hi).A.list[s]?=if s=c then some { p with var:=(y:Int),lo:=lo,hi:=hi } else K.A.list[s]?:=at_
 refine ⟨by simpa [KV.turnN] using h.len,?_,?_,?_⟩
 ·intro u D2 k hu hk
  have key:∀ (u:Nat) (D2:DM),T[u]?=some D2->Maps.has D2 k=true->∃ (r:Nat) (p:PlaceV),2<=r/\(K.turnN c y lo hi).A.list[r]?=some p/\p.taken=true/\p.var=(u:Int)/\k=nkp p/\r∉X:=by
   intro u D2 hu hk
   obtain ⟨s,q,h1,h2,h3,h4,h5,h6⟩:=h.dom u D2 k hu hk
   simp only [List.mem_cons,not_or] at h6
   exact ⟨s,q,h1,by rw [at',if_neg h6.1];exact h2,h3,h4,h5,h6.2⟩
  by_cases e:u=y
  ·subst e
   rw [List.getElem?_set_self hvl] at hu;cases hu
   by_cases e2:k=nk u lo hi
   ·subst e2
    exact ⟨c,{ p with var:=(u:Int),lo:=lo,hi:=hi },h2,by rw [at',if_pos rfl],hpt,rfl,rfl,hcx⟩
   ·rw [has_put_other e2] at hk
    exact key u D hD hk
  ·rw [List.getElem?_set_ne (Ne.symm e)] at hu
   exact key u D2 hu hk
 ·intro s q D2 hs hq hqt hsx hD2
  rw [at'] at hq
  by_cases e0:s=c
  ·subst e0
   rw [if_pos rfl] at hq;cases hq
   rw [show ((y:Int)).toNat=y by omega,List.getElem?_set_self hvl] at hD2;cases hD2
   exact ⟨has_put_same hIM (nk_isKey _ _ _) _,fun z=>atKey_put_same hIM (nk_isKey _ _ _) _ _⟩
  ·rw [if_neg e0] at hq
   have hsc:s∉c::X:=by simp [e0,hsx]
   by_cases e:q.var.toNat=y
   ·rw [e,List.getElem?_set_self hvl] at hD2;cases hD2
    obtain ⟨g1,g2⟩:=h.at_ s q D hs hq hqt hsc (by rw [e];exact hD)
    have hk:nkp q≠nk y lo hi:=by
     intro e2
     have hvs:=hw.vs;have hvr:=hw.vr s q hs hq hqt;have h4:=hw.ok.u32 q (List.mem_of_getElem? hq);obtain ⟨e3,e4,e5⟩:=nk_inj (wfI (by omega) (by omega)) (wfR h4.1) (wfR h4.2.1) (wfI (by omega) (by omega)) (wfR h32.1) (wfR h32.2) e2;exact hno s q hs hq hqt hsc ⟨e3,e4,e5⟩
    rw [has_put_other hk];exact ⟨g1,fun z=>by rw [atKey_put_other hk];exact g2 z⟩
   ·rw [List.getElem?_set_ne (Ne.symm e)] at hD2
    exact h.at_ s q D2 hs hq hqt hsc hD2
 ·intro D2 hD2
  rcases List.mem_or_eq_of_mem_set hD2 with h1 | rfl
  ·exact h.im D2 h1
  ·exact hIM.put _ _
theorem TInv.tookX {T:List DM} {K K':KV} {X:List Nat} {lo hi r v:Nat} {D:DM} (h:TInv T K X) (hX:∀ s,s∈X->K.A.tk s=true) (t:K.Took (v:Int) lo hi r K') (hD:T[v]?=some D) (hno:Maps.has D (nk v lo hi)=false) :
  TInv (T.set v (D.put (nk v lo hi) (.lit (.int .u32 r)))) K' X:=by
 have hvl:=(List.getElem?_eq_some_iff.1 hD).1;have hIM:=h.im D (List.mem_of_getElem? hD);have hr2:=t.fr.two
 have hrX:r∉X:=fun hr=>by have:=hX r hr;rw [t.fr.no] at this;cases this
 have hold:∀ (s:Nat) (c:PlaceV),K.A.list[s]?=some c->c.taken=true->s≠r:=by
  rintro s c hs hct rfl;have:=t.fr.no
  simp [ArenaV.tk,hs,hct] at this
 refine ⟨by rw [t.vr];simpa using h.len,?_,?_,?_⟩
 ·intro u D2 k hu hk
  have key:∀ (u:Nat) (D2:DM),T[u]?=some D2->Maps.has D2 k=true->∃ (r:Nat) (p:PlaceV),2<=r/\K'.A.list[r]?=some p/\p.taken=true/\p.var=(u:Int)/\k=nkp p/\r∉X:=by
   intro u D2 hu hk
   obtain ⟨s,c,h1,h2,h3,h4,h5,h6⟩:=h.dom u D2 k hu hk;exact ⟨s,c,h1,by rw [t.fr.ot s (hold s c h2 h3)];exact h2,h3,h4,h5,h6⟩
  by_cases e:u=v
  ·subst e
   rw [List.getElem?_set_self hvl] at hu;cases hu
   by_cases e2:k=nk u lo hi
   ·subst e2
    exact ⟨r,_,hr2,t.fr.at_,rfl,rfl,rfl,hrX⟩
   ·rw [has_put_other e2] at hk
    exact key u D hD hk
  ·rw [List.getElem?_set_ne (Ne.symm e)] at hu
   exact key u D2 hu hk
 ·intro s c D2 hs hc hct hsX hD2
  by_cases e0:s=r
  ·subst e0
   rw [t.fr.at_] at hc;cases hc
   rw [show ((v:Int)).toNat=v by omega,List.getElem?_set_self hvl] at hD2;cases hD2
   exact ⟨has_put_same hIM (nk_isKey _ _ _) _,fun z=>atKey_put_same hIM (nk_isKey _ _ _) _ _⟩
  ·rw [t.fr.ot s e0] at hc
   by_cases e:c.var.toNat=v
   ·rw [e,List.getElem?_set_self hvl] at hD2;cases hD2
    obtain ⟨g1,g2⟩:=h.at_ s c D hs hc hct hsX (by rw [e];exact hD)
    have hk:nkp c≠nk v lo hi:=by
     intro e2
     rw [e2,hno] at g1;cases g1
    rw [has_put_other hk];exact ⟨g1,fun z=>by rw [atKey_put_other hk];exact g2 z⟩
   ·rw [List.getElem?_set_ne (Ne.symm e)] at hD2
    exact h.at_ s c D2 hs hc hct hsX hD2
 ·intro D2 hD2
  rcases List.mem_or_eq_of_mem_set hD2 with h1 | rfl
  ·exact h.im D2 h1
  ·exact hIM.put _ _
theorem TInv.lookX {T:List DM} {K:KV} {X P:List Nat} {v lo hi:Nat} {D:DM} (h:TInv T K X) (hw:K.Wf P) (hv:v<K.vars) (hD:T[v]?=some D) (h1:lo<=4294967295) (h2:hi<=4294967295) {c:Int} (hc:D.atKey (nk v lo hi) (.lit (.int .u32 0))=.lit (.int .u32 c)) :
  (Maps.has D (nk v lo hi)=true/\∃ r:Nat,c=(r:Int)/\r∉X/\2<=r/\∃ p,K.A.list[r]?=some p/\p.taken=true/\p.var=(v:Int)/\p.lo=lo/\p.hi=hi) \/
  (Maps.has D (nk v lo hi)=false/\c=0/\∀ (r:Nat) (p:PlaceV),r∉X->2<=r->K.A.list[r]?=some p->p.taken=true->¬ (p.var=(v:Int)/\p.lo=lo/\p.hi=hi)):=by
 have hvs:=hw.vs
 cases hh:Maps.has D (nk v lo hi) with
 | true =>
  left;obtain ⟨r,p,hr,hp,hpt,hpv,hk,hrX⟩:=h.dom v D _ hD hh;have h4:=hw.ok.u32 p (List.mem_of_getElem? hp);have hvr:=hw.vr r p hr hp hpt;obtain ⟨e1,e2,e3⟩:=nk_inj (wfI (by omega) (by omega)) (wfR h1) (wfR h2) (wfI (by omega) (by omega)) (wfR h4.1) (wfR h4.2.1) hk;have hat:=(h.at_ r p D hr hp hpt hrX (by rw [hpv];exact hD)).2 (.lit (.int .u32 0));rw [<- hk,hc] at hat
  simp at hat
  exact ⟨rfl,r,hat,hrX,hr,p,hp,hpt,hpv,e2.symm,e3.symm⟩
 | false =>
  right;rw [atKey_of_not_has hh] at hc
  simp at hc
  refine ⟨rfl,hc.symm,?_⟩;rintro r p hrX hr hp hpt ⟨e1,e2,e3⟩;have:=(h.at_ r p D hr hp hpt hrX (by rw [e1];exact hD)).1;rw [show nkp p=nk v lo hi by simp [nkp,e1,e2,e3],hh] at this;cases this
structure CrV where
 r:Nat
 lo:Nat
 hi:Nat
 a00:Nat
 a01:Nat
 a10:Nat
 a11:Nat
structure CrOk (K:KV) (l x y:Nat) (c:CrV):Prop where
 cr:K.Cross x y c.r
 ex:∃ p,Four K l x y c.r p c.a00 c.a01 c.a10 c.a11/\p.var=(x:Int)/\p.lo=c.lo/\p.hi=c.hi
structure CrAll (K:KV) (l x y:Nat) (C:List CrV):Prop where
 ok:∀ c,c∈C->CrOk K l x y c
 nd:(C.map CrV.r).Nodup
 all:∀ r,K.Cross x y r->r∈C.map CrV.r
theorem CrAll.iff {K:KV} {l x y:Nat} {C:List CrV} (h:CrAll K l x y C) (r:Nat):r∈C.map CrV.r↔K.Cross x y r :=
 ⟨fun hr=>by
  obtain ⟨c,hc,rfl⟩:=List.mem_map.1 hr
  exact (h.ok c hc).cr,h.all r⟩
def CrV.qs (c:CrV):List (Nat × Nat):=[(c.a00,c.a10),(c.a01,c.a11)]
def KV.has3 (K:KV) (v a b:Nat):Prop:=∃ (r:Nat) (p:PlaceV),2<=r/\K.A.list[r]?=some p/\p.taken=true/\p.var=(v:Int)/\p.lo=a/\p.hi=b
structure FrN (K:KV) (x:Nat) (Q N:List (Nat × Nat)):Prop where
 nd:N.Nodup
 iff:∀ q,q∈N↔q∈Q/\q.1≠q.2/\¬ K.has3 x q.1 q.2
theorem FrN.nil (K:KV) (x:Nat):FrN K x [] []:=⟨List.nodup_nil,by simp⟩
theorem FrN.skip {K:KV} {x:Nat} {Q N:List (Nat × Nat)} {q:Nat × Nat} (h:FrN K x Q N) (hq:q.1=q.2\/K.has3 x q.1 q.2\/q∈N):FrN K x (Q++[q]) N:=by
 refine ⟨h.nd,fun p=>?_⟩;rw [h.iff];constructor
 ·rintro ⟨h1,h2⟩;exact ⟨List.mem_append_left _ h1,h2⟩
 ·rintro ⟨h1,h2,h3⟩
  rcases List.mem_append.1 h1 with h1 | h1
  ·exact ⟨h1,h2,h3⟩
  ·simp at h1;subst h1
   rcases hq with hq | hq | hq
   ·exact absurd hq h2
   ·exact absurd hq h3
   ·exact (h.iff p).1 hq
theorem FrN.add {K:KV} {x:Nat} {Q N:List (Nat × Nat)} {q:Nat × Nat} (h:FrN K x Q N) (h1:q.1≠q.2) (h2:¬ K.has3 x q.1 q.2) (h3:q∉N):FrN K x (Q++[q]) (N++[q]):=by
 refine ⟨?_,fun p=>?_⟩
 ·rw [List.nodup_append]
  exact ⟨h.nd,by simp,fun a ha b hb=>by simp at hb;subst hb;rintro rfl;exact h3 ha⟩
 ·simp only [List.mem_append,List.mem_singleton]
  rw [h.iff];constructor
  ·rintro (⟨a,b,c⟩ | rfl)
   ·exact ⟨.inl a,b,c⟩
   ·exact ⟨.inr rfl,h1,h2⟩
  ·rintro ⟨a | rfl,b,c⟩
   ·exact .inl ⟨a,b,c⟩
   ·exact .inr rfl
structure CntN (K0 K:KV) (x:Nat) (N M:List (Nat × Nat)):Prop where
 nd:M.Nodup
 sub:∀ q,q∈M->q∈N/\K.has3 x q.1 q.2
 us:K.A.used=K0.A.used+M.length
theorem CntN.start (K:KV) (x:Nat) (N:List (Nat × Nat)):CntN K K x N []:=⟨List.nodup_nil,by simp,by simp⟩
theorem has3_keep {K K':KV} {v a b:Nat} (h:K.has3 v a b) (hk:∀ (s:Nat) (p:PlaceV),K.A.list[s]?=some p->p.taken=true->K'.A.list[s]?=some p):K'.has3 v a b:=by
 obtain ⟨r,p,h2,hp,hpt,rest⟩:=h;exact ⟨r,p,h2,hk r p hp hpt,hpt,rest⟩
theorem CntN.same {K0 K K':KV} {x:Nat} {N M:List (Nat × Nat)} (h:CntN K0 K x N M) (hu:K'.A.used=K.A.used) (hk:∀ a b,K.has3 x a b->K'.has3 x a b):CntN K0 K' x N M :=
 ⟨h.nd,fun q hq=>⟨(h.sub q hq).1,hk _ _ (h.sub q hq).2⟩,by rw [hu];exact h.us⟩
theorem Mid.has3 {K0 K:KV} {l x y a b:Nat} {R:List Nat} {D:Nat->(Nat->Bool)->Bool} (h:Mid K0 l x y R K D) (nb:Nb K0 l x y) (ha:Deep K0 l a) (hb:Deep K0 l b) (h3:K0.has3 x a b):K.has3 x a b:=by
 obtain ⟨r,p,h2,hp,hpt,hv,rfl,rfl⟩:=h3;refine ⟨r,p,h2,h.old r p hp hpt (.inl fun hc=>?_),hpt,hv,rfl,rfl⟩;obtain ⟨_,q,hq,_,_,hk⟩:=hc
 rw [hp] at hq;cases hq
 rcases hk with e | e
 ·exact (nb.deep_v ha).2 e
 ·exact (nb.deep_v hb).2 e
theorem Mid.has3_not {K0 K:KV} {l x y r:Nat} {p:PlaceV} {R:List Nat} {D:Nat->(Nat->Bool)->Bool} (h:Mid K0 l x y R K D) (nb:Nb K0 l x y) (hp:K.A.list[r]?=some p) (ha:Deep K0 l p.lo) (hb:Deep K0 l p.hi):r∉R:=by
 intro hr
 obtain ⟨_,q,hq,hqt,_,hk⟩:=h.rc r hr;have:=h.old r q hq hqt (.inr hr)
 rw [hp] at this;cases this
 rcases hk with e | e
 ·exact (nb.deep_v ha).2 e
 ·exact (nb.deep_v hb).2 e
theorem CntN.room {K0 K:KV} {l x y:Nat} {q:Nat × Nat} {Q N M:List (Nat × Nat)} {R:List Nat} {D:Nat->(Nat->Bool)->Bool} (h:CntN K0 K x N M) (F:FrN K0 x Q N) (m:Mid K0 l x y R K D) (nb:Nb K0 l x y) (ha:Deep K0 l q.1) (hb:Deep K0 l q.2)
  (hq:q∈Q) (hne:q.1≠q.2) (hno:¬ K.has3 x q.1 q.2) (hroom:K0.A.used+N.length<=K0.A.places):q∈N/\q∉M/\K.A.used<K.A.places:=by
 have h1:q∈N:=(F.iff q).2 ⟨hq,hne,fun h3=>hno (m.has3 nb ha hb h3)⟩
 have h2:q∉M:=fun hm=>hno (h.sub q hm).2
 refine ⟨h1,h2,?_⟩
 have hsub:(q::M).length<=N.length:=by
  refine List.Nodup.length_le_of_subset (List.nodup_cons.2 ⟨h2,h.nd⟩) fun a ha=>?_
  rcases List.mem_cons.1 ha with rfl | ha
  ·exact h1
  ·exact (h.sub a ha).1
 have:=h.us;rw [m.pl]
 simp at hsub
 omega
theorem CntN.took {K0 K K':KV} {x r:Nat} {q:Nat × Nat} {N M:List (Nat × Nat)} (h:CntN K0 K x N M) (T:K.Took (x:Int) q.1 q.2 r K') (h1:q∈N) (h2:q∉M):CntN K0 K' x N (q::M):=by
 have keep:∀ (s:Nat) (p:PlaceV),K.A.list[s]?=some p->p.taken=true->K'.A.list[s]?=some p:=fun s p hp hpt=>by
  rw [T.fr.ot s (fun e=>by have:=T.fr.no;rw [<- e,ArenaV.tk_iff.2 ⟨p,hp,hpt⟩] at this;cases this)];exact hp
 refine ⟨List.nodup_cons.2 ⟨h2,h.nd⟩,fun a ha=>?_,?_⟩
 ·rcases List.mem_cons.1 ha with rfl | ha
  ·exact ⟨h1,r,_,T.fr.two,T.fr.at_,rfl,rfl,rfl,rfl⟩
  ·exact ⟨(h.sub a ha).1,has3_keep (h.sub a ha).2 keep⟩
 ·rw [T.fr.us,h.us];simp;omega
theorem CntN.turnN {K0 K:KV} {l x y c lo hi:Nat} {N M:List (Nat × Nat)} {R:List Nat} {D:Nat->(Nat->Bool)->Bool} (h:CntN K0 K x N M) (m:Mid K0 l x y (c::R) K D) (nb:Nb K0 l x y) {Q:List (Nat × Nat)} (F:FrN K0 x Q N) (hQ:∀ q,q∈Q->Deep K0 l q.1/\Deep K0 l q.2):CntN K0 (K.turnN c y lo hi) x N M:=by
 obtain ⟨_,p,hp,hpt,_,_⟩:=m.rc c (by simp);have hq:=m.old c p hp hpt (.inr (by simp));refine ⟨h.nd,fun q hm=>⟨(h.sub q hm).1,?_⟩,?_⟩
 ·obtain ⟨hN,r,p',h2,hp',hpt',hv,e1,e2⟩:=h.sub q hm
  obtain ⟨d1,d2⟩:=hQ q ((F.iff q).1 hN).1
  have hrc:r≠c:=fun e=>m.has3_not nb hp' (by rw [e1];exact d1) (by rw [e2];exact d2) (by simp [e])
  refine ⟨r,p',h2,?_,hpt',hv,e1,e2⟩
  show (K.A.setNode c (y:Int) lo hi).list[r]?=_
  rw [setNode_at hq,if_neg hrc];exact hp'
 ·rw [<- h.us]
  show (K.A.setNode c (y:Int) lo hi).used=_
  simp only [ArenaV.setNode]
theorem Upd.cellK {w w':World} (u:Upd [] w w') {a:Addr} {v:Value} (h:w.cell? a=some v):w'.cell? a=some v:=(u.cell (World.block_lt_of_cell? _ _ h) (by simp)).trans h
structure GetQ (b x a d:Nat) (K:KV) (X:List Nat) (q:KPtr) (w:World) (e:Ending) (w':World):Prop where
 ex:∃ (r:Nat) (K':KV) (T':List DM) (q':KPtr),e=.returned (.int .u32 r)/\GetR K X x a d r K'/\KerMem w' b K' T' q'/\TInv T' K' X/\Upd (q.all b) w w'/\Sub (q.all b) w (q'.all b)/\r<=4294967295
theorem get_spec (b x a d:Nat) (K:KV) (P X:List Nat) (T:List DM) (q:KPtr) (w:World) (h:KerMem w b K T q) (hw:K.Wf P) (ht:TInv T K X) (hX:∀ s,s∈X->K.A.tk s=true) (hP:P.length<=1000000000) (hx:x<K.vars)
  (h1:K.A.tk a=true) (h2:K.A.tk d=true) (ha:a<=4294967295) (hd:d<=4294967295)
  (hroom:a≠d->(∀ (r:Nat) (p:PlaceV),r∉X->2<=r->K.A.list[r]?=some p->p.taken=true->¬ (p.var=(x:Int)/\p.lo=a/\p.hi=d))->K.A.used<K.A.places) :
  Calls Tryz.prog 175 #[.pointer (some ⟨b,0,none⟩),.int .i64 x,.int .u32 a,.int .u32 d] w fun e w'=>GetQ b x a d K X q w e w':=by
 have hlen:=ht.len;have hD:T[x]?=some (T[x]'(by omega)):=List.getElem?_eq_getElem (by omega);generalize T[x]'(by omega)=D at hD
 by_cases hne:a=d
 ·subst hne
  have HE:Hid (GetQ b x a a K X q w (.returned (.int .u32 a)) w):=⟨a,K,T,q,rfl,.inl ⟨rfl,rfl,rfl⟩,h,ht,Upd.refl _ _,Sub.refl _ _,ha⟩;clear h hw ht hX hroom hD hlen h1 h2
  go_enter Tryz.func175,Tryz.ntmps175
  go_wp2_with fail;go_ret;exact HE.out
 ·have hd3:((a:Int) == (d:Int))=false:=by simp;omega
  have hd4:¬ ((a:Int)=(d:Int)):=by omega
  have hu1:Upd [] w (w.alloc (.cells #[.int .i64 x,.int .u32 a,.int .u32 d] 95 (0,0))):=(Upd.refl [] w).alloc _;have c1:(w.alloc (.cells #[.int .i64 x,.int .u32 a,.int .u32 d] 95 (0,0))).cell? ⟨b,1,none⟩=some (.pointer (some ⟨q.t,0,none⟩)):=hu1.cellK (cell_at h.blk rfl);have hbx:=heap_alloc_new w (.cells #[.int .i64 x,.int .u32 a,.int .u32 d] 95 (0,0))
  have HK:Hid (∀ y:World,Upd [] (w.alloc (.cells #[.int .i64 x,.int .u32 a,.int .u32 d] 95 (0,0))) y->y.cell? ⟨b,1,none⟩=some (.pointer (some ⟨q.t,0,none⟩))/\y.cell? ⟨w.heap.size,0,none⟩=some (.int .i64 x)/\y.cell? ⟨w.heap.size,1,none⟩=some (.int .u32 a)/\y.cell? ⟨w.heap.size,2,none⟩=some (.int .u32 d)):=fun y u =>
   ⟨u.cellK c1,u.cellK (cell_at (j:=0) hbx rfl),u.cellK (cell_at (j:=1) hbx rfl),u.cellK (cell_at (j:=2) hbx rfl)⟩
  have HM:Hid (∀ y:World,Upd [] (w.alloc (.cells #[.int .i64 x,.int .u32 a,.int .u32 d] 95 (0,0))) y->KerMem y b K T q):=fun y u=>h.upd (hu1.trans u) (by simp)
  have HD:=Lib.hid hD;have HL:=Lib.hid (And.intro hw (And.intro ht (And.intro h1 (And.intro h2 (And.intro hroom hX)))));have HU1:=Lib.hid hu1;have HNE:Hid (a≠d):=hne;obtain ⟨y0,y1,y2,y3⟩:=HK.out _ (Upd.refl _ _);clear h hw ht hX hroom hD hlen h1 h2 hbx c1 hu1 hne
  go_enter Tryz.func175,Tryz.ntmps175
  go_wp2_with fail
  go_region_held3 (fun y=>y.cell? ⟨b,1,none⟩=some (.pointer (some ⟨q.t,0,none⟩))/\y.cell? ⟨w.heap.size,0,none⟩=some (.int .i64 x)/\y.cell? ⟨w.heap.size,1,none⟩=some (.int .u32 a)/\y.cell? ⟨w.heap.size,2,none⟩=some (.int .u32 d)) (exact HK.out _ (by first | exact HU2.out | exact (Upd.refl [] _).drew | exact Upd.refl _ _)) (first | (go_at_call 225;refine (find_spec q.t q.FT x a d T D _ (HM.out _ (by first | exact (Upd.refl [] _).drew | exact Upd.refl _ _)).tab HD.out ha hd).mono ?_;rintro e w2 ⟨c,rfl,hc,hu⟩;have HC:=Lib.hid (HL.out.2.1.lookX HL.out.1 hx HD.out ha hd hc);have HU2:Hid (Upd [] (w.alloc (.cells #[.int .i64 x,.int .u32 a,.int .u32 d] 95 (0,0))) w2):=(by first | exact hu | exact (Upd.refl [] _).drew.trans hu);clear hc hu))
  have HMU:=Lib.hid (HM.out w2 HU2.out);obtain ⟨z0,z1,z2,z3⟩:=HK.out w2 HU2.out;clear y0 y1 y2 y3
  cases hbb:Maps.has D (nk x a d) with
  | true =>
   rw [hbb] at HC
   have HF:Hid (∃ r:Nat,c=(r:Int)/\r<=4294967295/\2<=r/\∃ p,K.A.list[r]?=some p/\p.taken=true/\p.var=(x:Int)/\p.lo=a/\p.hi=d):=by
    rcases HC.out with ⟨_,r,rfl,_,r2,p,hp,hrest⟩ | ⟨hf,_⟩
    ·refine ⟨r,rfl,?_,r2,p,hp,hrest⟩
     have h0:=(List.getElem?_eq_some_iff.1 hp).1;have h3:=HL.out.1.ok.lp;have h4:=HL.out.1.ok.pm;omega
    ·cases hf
   obtain ⟨r,rfl,hr,r2,hp⟩:=HF.out;have HE:Hid (GetQ b x a d K X q w (.returned (.int .u32 r)) w2):=⟨r,K,T,q,rfl,.inr (.inl ⟨HNE.out,⟨r2,hp⟩,rfl⟩),HMU.out,HL.out.2.1,(HU1.out.trans HU2.out).mono (by simp),Sub.refl _ _,hr⟩;clear HC HF hp hbb;go_wp2_with fail;go_ret;exact HE.out
  | false =>
   rw [hbb] at HC
   have HF:Hid (c=0/\K.A.used<K.A.places/\∀ (s:Nat) (p:PlaceV),s∉X->2<=s->K.A.list[s]?=some p->p.taken=true->¬ (p.var=(x:Int)/\p.lo=a/\p.hi=d)):=by
    rcases HC.out with ⟨hf,_⟩ | ⟨_,rfl,hno⟩
    ·cases hf
    ·exact ⟨rfl,HL.out.2.2.2.2.1 HNE.out hno,hno⟩
   obtain ⟨rfl,_⟩:=HF.out;have HTK:=Lib.hid (take_spec b x a d K P T D q w2 HMU.out HL.out.1 HL.out.2.1 hP hx HL.out.2.2.1 HL.out.2.2.2.1 ha hd HD.out hbb HF.out.2.1);have HBB:=Lib.hid hbb;clear HC hbb;go_wp2_with fail;refine HTK.out.mono ?_;rintro e w3 ⟨r,K',q',rfl,hT,hm,hu,hs⟩
   have HE:Hid (GetQ b x a d K X q w (.returned (.int .u32 r)) w3):=by
    refine ⟨r,K',_,q',rfl,.inr (.inr ⟨HNE.out,hT,HF.out.2.2⟩),hm,HL.out.2.1.tookX HL.out.2.2.2.2.2 hT HD.out HBB.out,?_,?_,?_⟩
    ·exact ((HU1.out.trans HU2.out).mono (by simp)).trans hu
    ·intro k hk
     rcases hs k hk with hk | hk
     ·exact .inl hk
     ·have:=(HU1.out.trans HU2.out).size;right;omega
    ·have:=hT.fr.room;omega
   clear hT hm hu hs;go_wp2_with fail;go_ret;exact HE.out
end Go.Proofs.YtlkgkojidclncaaGreat
