import Derived.Test.YtfkopmhpppeheaaGreatPN8
import Derived.Deep.DeepCutAuto
set_option maxRecDepth 100000
set_option maxHeartbeats 1600000
namespace Go.Proofs.YtfkopmhpppeheaaGreat
open Go.RowKit Go.Maps Go.ChangeMaps Go.WideShapes
def qk (f g h:Nat):Lit:=.string (keyBytes [.int .u32 f,.int .u32 g,.int .u32 h])
theorem kM:Keyed Tryz.prog 228:=Keyed.of_law (deep_law_gate laidOut (of_decide_eq_true (by kernel_rfl)) (of_decide_eq_true (by kernel_rfl)) (by kernel_rfl) (by kernel_rfl))
theorem Fq {f g h:Nat} (h0:f<=4294967295) (h1:g<=4294967295) (h2:h<=4294967295) :
  keyOf Tryz.prog 228 (.agg #[.int .u32 f,.int .u32 g,.int .u32 h])=some (qk f g h):=by
 have hk:Tryz.prog.keyType 228=true:=by kernel_rfl
 obtain ⟨m,hm⟩ : ∃ m,Tryz.prog.types.size=m+1:=⟨Tryz.prog.types.size-1,by have:0<Tryz.prog.types.size:=of_decide_eq_true (by kernel_rfl);omega⟩
 have c40:Tryz.prog.cellsOf 77=1:=by kernel_rfl
 have c44:Tryz.prog.cellsOf 228=3:=by kernel_rfl
 have kl:Tryz.prog.keyLits (m+2) 228 [.int .u32 f,.int .u32 g,.int .u32 h]=some [.int .u32 f,.int .u32 g,.int .u32 h]:=by
  unfold Program.keyLits;rw [Tryz.underlying228]
  simp only [c44]
  simp [c40,List.range_succ,tX Tryz.underlying77 m (jw h0),tX Tryz.underlying77 m (jw h1),tX Tryz.underlying77 m (jw h2)]
 have hf:Value.formed Tryz.prog 228 (.agg #[.int .u32 f,.int .u32 g,.int .u32 h])=true:=by
  simp [Value.formed,Tryz.underlying228,c44]
 rw [keyOf,Tryz.underlying228]
 show (if (Tryz.prog.keyType 228&&Value.formed Tryz.prog 228 (.agg #[.int .u32 f,.int .u32 g,.int .u32 h]))=true then Option.map (fun ls=>Lit.string (keyBytes ls)) (Tryz.prog.keyLits (Tryz.prog.types.size+1) 228 [.int .u32 f,.int .u32 g,.int .u32 h]) else none)=_
 rw [hk,hf,hm];rw [Bool.and_self,if_pos rfl]
 show Option.map (fun ls=>Lit.string (keyBytes ls)) (Tryz.prog.keyLits (m+2) 228 [.int .u32 f,.int .u32 g,.int .u32 h])=_
 rw [kl];rfl
theorem adA {f g h f' g' h':Nat} (h0:f<=4294967295) (h1:g<=4294967295) (h2:h<=4294967295) (h0':f'<=4294967295) (h1':g'<=4294967295) (h2':h'<=4294967295) (e:qk f g h=qk f' g' h'):f=f'/\g=g'/\h=h':=by
 have h:=kM.inj (Fq h0 h1 h2) (by rw [e];exact Fq h0' h1' h2')
 simp only [Value.agg.injEq,Array.mk.injEq,List.cons.injEq,Value.int.injEq,true_and,and_true] at h
 omega
theorem Xm (f g h:Nat):WideAt.IsKeyLit (qk f g h):=trivial
def KV.iE (K:KV) (L:Bool->Bool->Bool->Bool) (f g h:Nat) (x:Nat->Bool):Bool:=L (K.den f x) (K.den g x) (K.den h x)
def KV.iU (K:KV) (f g h:Nat):Nat:=min (K.dep f) (min (K.dep g) (K.dep h))
def KV.mix (K:KV) (l:Nat) (a x:Nat->Bool):Nat->Bool:=fun v=>if v<K.vars/\K.lev v<l then a v else x v
def KV.jv (K:KV) (t g:(Nat->Bool)->Bool):Prop:=∃ (l:Nat) (a:Nat->Bool),∀ x,g x=t (K.mix l a x)
theorem KV.Ext.mix {K K':KV} (h:K.Ext K') (l:Nat) (a x:Nat->Bool):K'.mix l a x=K.mix l a x:=by
 funext v;simp [KV.mix,h.vr,h.lev]
theorem KV.Ext.iE {K K':KV} {P:List Nat} (h:K.Ext K') (hw:K.Wf P) {L:Bool->Bool->Bool->Bool} {f g k:Nat} (h0:K.A.tk f=true) (h1:K.A.tk g=true) (h2:K.A.tk k=true) (x:Nat->Bool):K'.iE L f g k x=K.iE L f g k x:=by
 simp [KV.iE,h.den hw x h0,h.den hw x h1,h.den hw x h2]
theorem KV.Ext.iU {K K':KV} (h:K.Ext K') {f g k:Nat} (h0:K.A.tk f=true) (h1:K.A.tk g=true) (h2:K.A.tk k=true):K'.iU f g k=K.iU f g k:=by
 simp [KV.iU,h.dep h0,h.dep h1,h.dep h2]
structure yA (K0:KV) (S:((Nat->Bool)->Bool)->Prop) (M:List Nat) (K:KV):Prop where
 ext:K0.Ext K
 hd:∀ x,K.hold x=K0.hold x+M.count x
 tr:M≠[]->K.trail=[]
 nil:M=[]->K=K0
 new:∀ x,K.A.tk x=true->K0.A.tk x=false->S (K.den x)
theorem yA.start (K0:KV) (S:((Nat->Bool)->Bool)->Prop):yA K0 S [] K0 :=
 ⟨.refl K0,fun x=>by simp,fun h=>absurd rfl h,fun _=>rfl,fun x h1 h2=>by rw [h1] at h2;cases h2⟩
structure Good (K0:KV) (L:Bool->Bool->Bool->Bool) (f g h:Nat) (M:List Nat) (K:KV) (r:Nat):Prop where
 tk:K.A.tk r=true
 den:∀ x,K.den r x=K.iE L f g h x
 dep:K.iU f g h<=K.dep r
 got:r<2\/r∈M\/K0.hold r=65535
theorem Good.ext {K0 K K':KV} {L:Bool->Bool->Bool->Bool} {f g h r:Nat} {M M':List Nat} {P:List Nat} (G:Good K0 L f g h M K r) (e:K.Ext K') (hw:K.Wf P) (hm:∀ x,x∈M->x∈M') (h0:K.A.tk f=true) (h1:K.A.tk g=true) (h2:K.A.tk h=true):Good K0 L f g h M' K' r:=by
 refine ⟨e.tk G.tk,fun x=>?_,?_,G.got.imp_right (Or.imp_left (hm _))⟩
 ·rw [e.den hw x G.tk,e.iE hw h0 h1 h2,G.den]
 ·rw [e.iU h0 h1 h2,e.dep G.tk];exact G.dep
def ZW (K0:KV) (S:((Nat->Bool)->Bool)->Prop):Prop :=
 ∃ (K:KV) (M:List Nat) (g:(Nat->Bool)->Bool),K.Ok/\K.Uni/\yA K0 S M K/\K.A.used=K.A.places/\S g/\∀ x,K.A.tk x=true->¬ ∀ y,K.den x y=g y
theorem KV.Ok.bZ {K:KV} (hk:K.Ok) {r:Nat} (ht:K.A.tk r=true):r<1048576:=by
 by_cases h2:2<=r
 ·have:=hk.wf.iZ h2 ht;omega
 ·omega
structure iD (K0:KV) (L:Bool->Bool->Bool->Bool) (M:List Nat) (K:KV) (D:DM):Prop where
 im:IsMap D
 dom:∀ k,Maps.has D k=true->∃ f g h:Nat,k=qk f g h/\f<1048576/\g<1048576/\h<1048576
 ok:∀ (f g h:Nat),f<=4294967295->g<=4294967295->h<=4294967295->Maps.has D (qk f g h)=true->K.A.tk f=true/\K.A.tk g=true/\K.A.tk h=true/\∃ r:Nat,r<=4294967295/\(∀ z,D.atKey (qk f g h) z=.lit (.int .u32 r))/\Good K0 L f g h M K r
theorem iD.nil (K0:KV) (L:Bool->Bool->Bool->Bool) (M:List Nat) (K:KV):iD K0 L M K (.map []) :=
 ⟨isMap_empty,fun k hh=>by simp [Maps.has] at hh,fun f g h _ _ _ hh=>by simp [Maps.has] at hh⟩
theorem iD.ext {K0 K K':KV} {L:Bool->Bool->Bool->Bool} {M M':List Nat} {P:List Nat} {D:DM} (h:iD K0 L M K D) (e:K.Ext K') (hw:K.Wf P) (hm:∀ x,x∈M->x∈M'):iD K0 L M' K' D:=by
 refine ⟨h.im,h.dom,fun f g k h0 h1 h2 hh=>?_⟩;obtain ⟨t0,t1,t2,r,hr,ha,hg⟩:=h.ok f g k h0 h1 h2 hh;exact ⟨e.tk t0,e.tk t1,e.tk t2,r,hr,ha,hg.ext e hw hm t0 t1 t2⟩
theorem iD.put {K0 K:KV} {L:Bool->Bool->Bool->Bool} {M:List Nat} {D:DM} {f g k r:Nat} (h:iD K0 L M K D) (h0:f<=4294967295) (h1:g<=4294967295) (h2:k<=4294967295) (t0:K.A.tk f=true) (t1:K.A.tk g=true) (t2:K.A.tk k=true) (hr:r<=4294967295) (G:Good K0 L f g k M K r) (hk:K.Ok) :
  iD K0 L M K (D.put (qk f g k) (.lit (.int .u32 r))):=by
 refine ⟨h.im.put _ _,fun k2 hh=>?_,fun f' g' k' a0 a1 a2 hh=>?_⟩
 ·by_cases e:k2=qk f g k
  ·exact ⟨f,g,k,e,hk.bZ t0,hk.bZ t1,hk.bZ t2⟩
  ·rw [has_put_other e] at hh;exact h.dom k2 hh
 by_cases e:qk f' g' k'=qk f g k
 ·obtain ⟨rfl,rfl,rfl⟩:=adA a0 a1 a2 h0 h1 h2 e
  exact ⟨t0,t1,t2,r,hr,fun z=>atKey_put_same h.im (Xm _ _ _) _ z,G⟩
 ·rw [has_put_other e] at hh
  obtain ⟨u0,u1,u2,s,hs,ha,hg⟩:=h.ok f' g' k' a0 a1 a2 hh;exact ⟨u0,u1,u2,s,hs,fun z=>by rw [atKey_put_other e];exact ha z,hg⟩
theorem Tz {K:KV}:∀ (n:Nat) (l:List ak),l.length=n->(∀ p,p∈l->K.rD p.var) ->
  (K.top l=-1/\∀ p,p∈l->p.var=-1)\/(∃ m:Nat,K.top l=(m:Int)/\m<K.vars/\(∃ p,p∈l/\p.var=(m:Int))/\∀ p,p∈l->p.var=-1\/∃ k:Nat,p.var=(k:Int)/\K.lev m<=K.lev k):=by
 intro n
 induction n with
 | zero=>intro l hl _;obtain rfl:=List.length_eq_zero_iff.1 hl;exact .inl ⟨rfl,by simp⟩
 | succ n ih =>
  intro l hl h
  rcases List.eq_nil_or_concat l with rfl | ⟨l',p,rfl⟩
  ·simp at hl
  ·rw [List.concat_eq_append] at *
   have Xn:l'.length=n:=by simpa using hl
   have h':∀ p,p∈l'->K.rD p.var:=fun p hp=>h p (List.mem_append.2 (.inl hp))
   have hp:=h p (List.mem_append.2 (.inr (by simp)));rw [La]
   rcases ih l' Xn h' with ⟨e,ha⟩ | ⟨m,e,hm,⟨c,hc,XD⟩,ha⟩
   ·rw [e]
    rcases hp with hp | ⟨k,hp,hk⟩
    ·left
     refine ⟨by unfold oH;rw [if_neg (by omega)],fun c hc=>?_⟩
     rcases List.mem_append.1 hc with hc | hc
     ·exact ha c hc
     ·simp at hc;subst hc;exact hp
    ·right
     refine ⟨k,by unfold oH;rw [if_pos ⟨by omega,.inl (by omega)⟩];exact hp,hk,⟨p,by simp,hp⟩,fun c hc=>?_⟩
     rcases List.mem_append.1 hc with hc | hc
     ·exact .inl (ha c hc)
     ·simp at hc;subst hc;exact .inr ⟨k,hp,Nat.le_refl _⟩
   ·rw [e]
    right
    rcases hp with hp | ⟨k,hp,hk⟩
    ·refine ⟨m,by unfold oH;rw [if_neg (by omega)],hm,⟨c,List.mem_append.2 (.inl hc),XD⟩,fun d hd=>?_⟩
     rcases List.mem_append.1 hd with hd | hd
     ·exact ha d hd
     ·simp at hd;subst hd;exact .inl hp
    ·by_cases aW:K.lev k<K.lev m
     ·refine ⟨k,by unfold oH;rw [if_pos ⟨by omega,.inr (by rw [hp];simpa using aW)⟩];exact hp,hk,⟨p,by simp,hp⟩,fun d hd=>?_⟩
      rcases List.mem_append.1 hd with hd | hd
      ·rcases ha d hd with h | ⟨j,hj,OJ⟩
       ·exact .inl h
       ·exact .inr ⟨j,hj,by omega⟩
      ·simp at hd;subst hd;exact .inr ⟨k,hp,Nat.le_refl _⟩
     ·refine ⟨m,by unfold oH;rw [if_neg (fun ⟨_,h⟩=>h.elim (fun h=>by omega) (fun h=>aW (by rw [hp] at h;simpa using h)))],hm,⟨c,List.mem_append.2 (.inl hc),XD⟩,fun d hd=>?_⟩
      rcases List.mem_append.1 hd with hd | hd
      ·exact ha d hd
      ·simp at hd;subst hd;exact .inr ⟨k,hp,by omega⟩
def eP (v:Int) (p:ak) (f:Nat) (b:Bool):Nat:=if p.var=v then (if b then p.hi else p.lo) else f
theorem Oz {K:KV} (hk:K.Ok) {f n:Nat} {p:ak} (hp:K.A.list[f]?=some p) (aH:p.taken=true) (hn:n<K.vars) (hl:p.var=-1\/∃ k:Nat,p.var=(k:Int)/\K.lev n<=K.lev k) (b:Bool) :
  K.A.tk (eP n p f b)=true/\K.lev n<K.dep (eP n p f b)/\(∀ x,K.den (eP n p f b) x=K.den f (upd x n b)):=by
 have kC:K.A.tk f=true:=ag.aP.2 ⟨p,hp,aH⟩;have hln:=(hk.ord.pm.lo n hn).1
 by_cases h2:2<=f
 ·obtain ⟨p',v,jo,lQ,hv,gK,t1,t2,hd⟩:=hk.wf.cZ h2 kC
  rw [hp] at jo;cases jo
  have hb:=hk.ord.below hk.wf h2 hp aH;unfold eP
  by_cases e:p.var=(n:Int)
  ·have env:v=n:=by omega
   subst env;rw [if_pos e]
   cases b with
   | false =>
    refine ⟨t1,by rw [<- hd];exact hb.1,fun x=>?_⟩;have:=KV.kQ hk.wf hk.ord h2 hp aH x
    rw [e] at this;exact this.symm
   | true =>
    refine ⟨t2,by rw [<- hd];exact hb.2,fun x=>?_⟩;have:=KV.kP hk.wf hk.ord h2 hp aH x
    rw [e] at this;exact this.symm
  ·rw [if_neg e]
   have aW:K.lev n<K.dep f:=by
    rcases hl with hl | ⟨k,dB,hkl⟩
    ·omega
    ·have ek:k=v:=by omega
     subst ek
     have hne:k≠n:=by intro h;subst h;exact e dB
     have:K.lev n≠K.lev k:=fun h=>hne (hk.ord.pm.inj gK hn h.symm)
     omega
   exact ⟨kC,aW,fun x=>(KV.dF hk.wf hk.ord kC hn aW x b).symm⟩
 ·have hv:p.var=-1:=by
   match f,h2,hp with
   | 0,_,hp=>rw [hk.wf.ok.c0] at hp;cases hp;rfl
   | 1,_,hp=>rw [hk.wf.ok.c1] at hp;cases hp;rfl
   | f+2,h2,_=>omega
  unfold eP;rw [if_neg (by omega)];have hdc:=hk.wf.dH (r:=f) (by omega)
  have aW:K.lev n<K.dep f:=by omega
  exact ⟨kC,aW,fun x=>(KV.dF hk.wf hk.ord kC hn aW x b).symm⟩
end Go.Proofs.YtfkopmhpppeheaaGreat
namespace Go.Proofs.YtfkopmhpppeheaaGreat
theorem KV.zI {K:KV} (hk:K.Ok) (hu:K.Uni) {n r1 r2 x:Nat} (hn:n<K.vars) (t1:K.A.tk r1=true) (t2:K.A.tk r2=true) (l1:K.lev n<K.dep r1) (l2:K.lev n<K.dep r2) (hne:r1≠r2) (tx:K.A.tk x=true)
  (he:∀ y,K.den x y=if y n then K.den r2 y else K.den r1 y):K.At x n r1 r2:=by
 have can:∀ {a b:Nat},K.A.tk a=true->K.A.tk b=true->(∀ y,K.den a y=K.den b y)->a=b:=fun ha hb h=>KV.canon hk.wf hk.ord hu _ _ _ ha hb (Nat.le_refl _) h
 have e0:∀ y,K.den x (upd y n false)=K.den r1 y:=fun y=>by
  rw [he,bD];simp;exact KV.dF hk.wf hk.ord t1 hn l1 y false
 have e1:∀ y,K.den x (upd y n true)=K.den r2 y:=fun y=>by
  rw [he,bD];simp;exact KV.dF hk.wf hk.ord t2 hn l2 y true
 have far:K.lev n<K.dep x->False:=fun h=>by
  refine hne (can t1 t2 fun y=>?_);rw [<- e0,<- e1,KV.dF hk.wf hk.ord tx hn h,KV.dF hk.wf hk.ord tx hn h]
 have hln:=(hk.ord.pm.lo n hn).1
 by_cases h2:2<=x
 ·obtain ⟨p,u,hp,aH,hv,MJ,c1,c2,hd⟩:=hk.wf.cZ h2 tx
  have hb:=hk.ord.below hk.wf h2 hp aH
  by_cases aW:K.lev u<K.lev n
  ·exfalso
   have ind:∀ b y,K.den x (upd y u b)=K.den x y:=fun b y=>by
    have d1:=KV.dF hk.wf hk.ord t1 MJ (show K.lev u<K.dep r1 by omega) y b;have d2:=KV.dF hk.wf hk.ord t2 MJ (show K.lev u<K.dep r2 by omega) y b;have en:upd y u b n=y n:=ig y b (by rintro rfl;omega);rw [he,he,en,d1,d2]
   refine hk.ord.ne x p h2 hp aH (can c1 c2 fun y=>?_);have a:=KV.kQ hk.wf hk.ord h2 hp aH y;have b:=KV.kP hk.wf hk.ord h2 hp aH y;rw [show p.var.toNat=u by omega] at a b;rw [<- a,<- b,ind,ind]
  ·have:¬ K.lev n<K.lev u:=fun h=>far (by omega)
   have eun:u=n:=hk.ord.pm.inj MJ hn (by omega);subst eun;refine ⟨h2,p,hp,aH,hv,can c1 t1 fun y=>?_,can c2 t2 fun y=>?_⟩
   ·have a:=KV.kQ hk.wf hk.ord h2 hp aH y
    rw [show p.var.toNat=u by omega] at a;rw [<- a,e0]
   ·have a:=KV.kP hk.wf hk.ord h2 hp aH y
    rw [show p.var.toNat=u by omega] at a;rw [<- a,e1]
 ·exact (far (by rw [hk.wf.dH (by omega)];exact hln)).elim
theorem KV.At.den {K:KV} (hk:K.Ok) {r n lo hi:Nat} (h:K.At r n lo hi) (x:Nat->Bool):K.den r x=if x n then K.den hi x else K.den lo x:=by
 obtain ⟨h2,p,hp,aH,e1,e2,e3⟩:=h;rw [KV.dD hk.wf hk.ord h2 hp aH,e1,e2,e3,Int.toNat_natCast]
theorem KV.At.dep {K:KV} {r n lo hi:Nat} (h:K.At r n lo hi):K.dep r=K.lev n:=by
 obtain ⟨h2,p,hp,aH,e1,e2,e3⟩:=h
 simp [KV.dep,hp,e1]
theorem yL (x:Nat->Bool) (n:Nat):upd x n (x n)=x:=by funext v;unfold upd;split <;> simp_all
structure pM (K:KV) (f g h:Nat):Prop where
 t0:K.A.tk f=true
 t1:K.A.tk g=true
 t2:K.A.tk h=true
theorem pM.ext {K K':KV} {f g h:Nat} (a:pM K f g h) (e:K.Ext K'):pM K' f g h:=⟨e.tk a.t0,e.tk a.t1,e.tk a.t2⟩
structure nY (K:KV) (L:Bool->Bool->Bool->Bool) (n f g h:Nat) (b:Bool) (f' g' h':Nat):Prop where
 ask:pM K f' g' h'
 dep:K.lev n<K.iU f' g' h'
 den:∀ x,K.iE L f' g' h' x=K.iE L f g h (upd x n b)
theorem nY.ext {K K':KV} {L:Bool->Bool->Bool->Bool} {n f g h f' g' h':Nat} {b:Bool} {P:List Nat} (B:nY K L n f g h b f' g' h') (q:pM K f g h) (e:K.Ext K') (hw:K.Wf P):nY K' L n f g h b f' g' h' :=
 ⟨B.ask.ext e,by rw [e.lev,e.iU B.ask.t0 B.ask.t1 B.ask.t2];exact B.dep,fun x=>by rw [e.iE hw B.ask.t0 B.ask.t1 B.ask.t2,e.iE hw q.t0 q.t1 q.t2];exact B.den x⟩
theorem Fp {K:KV} (hk:K.Ok) (L:Bool->Bool->Bool->Bool) {n f g h:Nat} {p0 p1 p2:ak} (a0:K.A.list[f]?=some p0/\p0.taken=true) (a1:K.A.list[g]?=some p1/\p1.taken=true) (a2:K.A.list[h]?=some p2/\p2.taken=true) (hn:n<K.vars)
  (hl:∀ p,p∈[p0,p1,p2]->p.var=-1\/∃ k:Nat,p.var=(k:Int)/\K.lev n<=K.lev k) (b:Bool):nY K L n f g h b (eP n p0 f b) (eP n p1 g b) (eP n p2 h b):=by
 have c0:=Oz hk a0.1 a0.2 hn (hl p0 (by simp)) b;have c1:=Oz hk a1.1 a1.2 hn (hl p1 (by simp)) b;have c2:=Oz hk a2.1 a2.2 hn (hl p2 (by simp)) b;refine ⟨⟨c0.1,c1.1,c2.1⟩,?_,fun x=>by simp [KV.iE,c0.2.2,c1.2.2,c2.2.2]⟩
 have:=c0.2.1;have:=c1.2.1;have:=c2.2.1
 simp only [KV.iU];omega
theorem TA {K:KV} {n f g h:Nat} {p0 p1 p2:ak} (a0:K.A.list[f]?=some p0) (a1:K.A.list[g]?=some p1) (a2:K.A.list[h]?=some p2) (hp:∃ p,p∈[p0,p1,p2]/\p.var=(n:Int)):K.iU f g h<=K.lev n:=by
 obtain ⟨p,hm,hv⟩:=hp
 have e:∀ {r:Nat} {p:ak},K.A.list[r]?=some p->p.var=(n:Int)->K.dep r=K.lev n:=fun h1 h2=>by simp [KV.dep,h1,h2]
 simp only [List.mem_cons,List.not_mem_nil,or_false] at hm
 rcases hm with rfl | rfl | rfl
 ·have:=e a0 hv;simp only [KV.iU];omega
 ·have:=e a1 hv;simp only [KV.iU];omega
 ·have:=e a2 hv;simp only [KV.iU];omega
theorem uB {K:KV} (hk:K.Ok) {f:Nat} {p:ak} (a:K.A.list[f]?=some p/\p.taken=true) (hv:p.var=-1):f<2:=by
 by_cases h2:2<=f
 ·obtain ⟨p',v,jo,_,hv',_⟩:=hk.wf.cZ h2 (ag.aP.2 ⟨p,a.1,a.2⟩)
  rw [a.1] at jo;cases jo;omega
 ·omega
theorem Si {K0 K:KV} (hk:K.Ok) (L:Bool->Bool->Bool->Bool) {f g h:Nat} {M:List Nat} (h0:f<2) (h1:g<2) (h2:h<2):Good K0 L f g h M K (if L (f == 1) (g == 1) (h == 1) then 1 else 0):=by
 have hr:(if L (f == 1) (g == 1) (h == 1) then 1 else 0)<2:=by split <;> omega
 refine ⟨hk.gX hr,fun x=>?_,?_,.inl hr⟩
 ·rw [K.aN hr]
  simp only [KV.iE,K.aN h0,K.aN h1,K.aN h2]
  cases L (f == 1) (g == 1) (h == 1) <;> rfl
 ·rw [hk.wf.dH hr]
  simp only [KV.iU,hk.wf.dH h0];omega
def ve (K:KV) (L:Bool->Bool->Bool->Bool) (t:(Nat->Bool)->Bool) (f g h:Nat):Prop:=∃ (l:Nat) (a:Nat->Bool),l<=K.iU f g h/\∀ x,K.iE L f g h x=t (K.mix l a x)
theorem ve.sub {K:KV} {L:Bool->Bool->Bool->Bool} {t:(Nat->Bool)->Bool} {f g h:Nat} (r:ve K L t f g h):K.jv t (K.iE L f g h):=by
 obtain ⟨l,a,_,e⟩:=r;exact ⟨l,a,e⟩
theorem ve.ext {K K':KV} {L:Bool->Bool->Bool->Bool} {t:(Nat->Bool)->Bool} {f g h:Nat} {P:List Nat} (r:ve K L t f g h) (q:pM K f g h) (e:K.Ext K') (hw:K.Wf P):ve K' L t f g h:=by
 obtain ⟨l,a,hl,h⟩:=r;refine ⟨l,a,by rw [e.iU q.t0 q.t1 q.t2];exact hl,fun x=>?_⟩
 rw [e.iE hw q.t0 q.t1 q.t2,e.mix];exact h x
theorem KV.Sj {K:KV} {P:List Nat} (hw:K.Wf P) (ho:K.Ord) (L:Bool->Bool->Bool->Bool) {f g h:Nat} (q:pM K f g h) {x y:Nat->Bool} (hx:∀ v,v<K.vars->K.iU f g h<=K.lev v->x v=y v):K.iE L f g h x=K.iE L f g h y:=by
 have d0:K.iU f g h<=K.dep f:=by simp only [KV.iU];omega
 have d1:K.iU f g h<=K.dep g:=by simp only [KV.iU];omega
 have d2:K.iU f g h<=K.dep h:=by simp only [KV.iU];omega
 unfold KV.iE;rw [KV.jb hw ho _ f x y q.t0 (Nat.le_refl _) fun v hv hl=>hx v hv (by omega),KV.jb hw ho _ g x y q.t1 (Nat.le_refl _) fun v hv hl=>hx v hv (by omega),KV.jb hw ho _ h x y q.t2 (Nat.le_refl _) fun v hv hl=>hx v hv (by omega)]
theorem ve.below {K:KV} (hk:K.Ok) {L:Bool->Bool->Bool->Bool} {t:(Nat->Bool)->Bool} {n f g h f' g' h':Nat} {b:Bool} (r:ve K L t f g h) (q:pM K f g h) (hn:n<K.vars) (hd:K.lev n=K.iU f g h) (B:nY K L n f g h b f' g' h'):ve K L t f' g' h':=by
 obtain ⟨l,a,hl,e⟩:=r;refine ⟨K.lev n+1,fun v=>if v<K.vars/\K.lev v<l then a v else if v=n then b else false,B.dep,fun x=>?_⟩;rw [B.den]
 have e2:K.iE L f g h (upd x n b)=K.iE L f g h (upd (fun v=>if v<K.vars/\K.lev v<K.lev n then false else x v) n b):=by
  refine KV.Sj hk.wf hk.ord L q fun v hv Ht=>?_
  unfold upd;split
  ·rfl
  ·show x v=(if v<K.vars/\K.lev v<K.lev n then false else x v)
   rw [if_neg (by omega)]
 rw [e2,e]
 congr 1
 funext v
 unfold KV.mix upd
 by_cases hv:v<K.vars
 ·by_cases h1:K.lev v<l
  ·simp [hv,h1];intro h2;omega
  ·by_cases h2:v=n
   ·subst h2;simp [hv,h1]
   ·by_cases h3:K.lev v<K.lev n
    ·simp [hv,h1,h2,h3];omega
    ·have h4:¬ K.lev v<K.lev n+1:=fun h=>h2 (hk.ord.pm.inj hv hn (by omega))
     simp [hv,h1,h2,h3,h4]
 ·have h2:v≠n:=by rintro rfl;exact hv hn
  simp [hv,h2]
structure oI (K0 K:KV) (L:Bool->Bool->Bool->Bool) (S:((Nat->Bool)->Bool)->Prop) (f g h:Nat) (M:List Nat) (r:Nat) (code:Int) (K':KV) (M':List Nat):Prop where
 run:yA K0 S M' K'
 ext:K.Ext K'
 sub:∀ x,x∈M->x∈M'
 ans:(code=0/\Good K0 L f g h M' K' r)\/(code=9/\ZW K0 S)
theorem Sl {K0 K K':KV} {L:Bool->Bool->Bool->Bool} {S:((Nat->Bool)->Bool)->Prop} {n f g h r1 r2 r f0 g0 h0 f1 g1 h1:Nat} {code:Int} {M M':List Nat} (hk:K.Ok) (hu:K.Uni) (dB:K'.Ok) (R:yA K0 S M K) (q:pM K f g h) (hn:n<K.vars) (hd:K.iU f g h=K.lev n)
  (B0:nY K L n f g h false f0 g0 h0) (B1:nY K L n f g h true f1 g1 h1) (G1:Good K0 L f0 g0 h0 M K r1) (G2:Good K0 L f1 g1 h1 M K r2) (hS:S (K.iE L f g h)) (N:oP K n r1 r2 M r code K' M') :
  oI K0 K L S f g h M r code K' M':=by
 have l1:K.lev n<K.dep r1:=Nat.lt_of_lt_of_le B0.dep G1.dep;have l2:K.lev n<K.dep r2:=Nat.lt_of_lt_of_le B1.dep G2.dep
 have key:∀ x,K.iE L f g h x=if x n then K.den r2 x else K.den r1 x:=by
  intro x
  rw [G1.den,G2.den,B0.den,B1.den]
  cases e:x n with
  | false=>simp;rw [<- e,yL]
  | true=>simp;rw [<- e,yL]
 have OA:∀ {K1:KV} {M1:List Nat},K.Ext K1->K1.Ok->K1.At r n r1 r2->(r<2\/r∈M1\/K0.hold r=65535)->Good K0 L f g h M1 K1 r:=by
  intro K1 M1 e xC ha hg
  refine ⟨ha.tk,fun x=>?_,?_,hg⟩
  ·rw [ha.den xC,e.iE hk.wf q.t0 q.t1 q.t2,key,e.den hk.wf x G1.tk,e.den hk.wf x G2.tk]
  ·rw [ha.dep,e.iU q.t0 q.t1 q.t2,e.lev,hd];exact Nat.le_refl _
 cases N with
 | same he =>
  subst he;refine ⟨R,.refl K,fun _ h=>h,.inl ⟨rfl,G1.tk,fun x=>?_,by omega,G1.got⟩⟩
  rw [key];simp
 | @old _ hne ha hm =>
  obtain ⟨k1,k2⟩:=hk.kept ha.tk hm;have e:=k2.ext
  have bI:(K.bW r).At r n r1 r2:=by
   obtain ⟨b2,p,hp,rest⟩:=ha;exact ⟨b2,p,by rw [K.dO];exact hp,rest⟩
  refine ⟨⟨R.ext.trans e,fun x=>?_,fun _=>k2.tr,fun h=>by simp at h,fun x t1 t2=>?_⟩,e,fun x hx=>List.mem_append.2 (.inl hx),.inl ⟨rfl,OA e k1 bI (.inr (.inl (by simp)))⟩⟩
  ·rw [k2.hd,R.hd,List.count_append,List.count_singleton]
   by_cases ex:x=r
   ·subst ex;simp [ha.1];omega
   ·simp [ex,Ne.symm ex]
  ·rw [k2.A] at t1
   have:=R.new x t1 t2
   have e2:(K.bW r).den x=K.den x:=by funext y;exact e.den hk.wf y t1
   rw [e2];exact this
 | @full _ hne ha hm =>
  refine ⟨R,.refl K,fun _ h=>h,.inl ⟨rfl,OA (.refl K) hk ha ?_⟩⟩;have:=R.hd r
  by_cases h0:K0.hold r=65535
  ·exact .inr (.inr h0)
  ·have hc:0<M.count r:=by have:=hk.wf.hm r;omega
   exact .inr (.inl (List.count_pos_iff.1 hc))
 | nodes hne bK uP =>
  refine ⟨R,.refl K,fun _ h=>h,.inr ⟨rfl,K,M,K.iE L f g h,hk,hu,R,uP,hS,fun x tx he=>?_⟩⟩;exact bK x (KV.zI hk hu hn G1.tk G2.tk l1 l2 hne tx fun y=>by rw [he,key])
 | @new _ _ hne bK hm =>
  have e:=hm.ext;have bI:K'.At r n r1 r2:=⟨hm.two,_,hm.at_,rfl,rfl,rfl,rfl⟩;have abv:=OA e dB bI (.inr (.inl (by simp:r∈M++[r])));refine ⟨⟨R.ext.trans e,fun x=>?_,fun _=>hm.tr,fun h=>by simp at h,fun x t1 t2=>?_⟩,e,fun x hx=>List.mem_append.2 (.inl hx),.inl ⟨rfl,abv⟩⟩
  ·rw [hm.hd,List.count_append,List.count_singleton]
   have h0:=R.hd r
   have hz:K.hold r=0:=by
    by_cases hz:0<K.hold r
    ·have:=(hk.wf.ht r hz).2;rw [hm.no] at this;cases this
    ·omega
   by_cases ex:x=r
   ·subst ex;simp;omega
   ·simp [ex,Ne.symm ex];exact R.hd x
  ·rw [hm.tk] at t1
   by_cases ex:x=r
   ·subst ex
    have e2:K'.den x=K.iE L f g h:=by
     funext y;rw [abv.den,e.iE hk.wf q.t0 q.t1 q.t2]
    rw [e2];exact hS
   ·simp [ex] at t1
    have:=R.new x t1 t2
    have e2:K'.den x=K.den x:=by funext y;exact e.den hk.wf y t1
    rw [e2];exact this
theorem rO:∀ (n c:Nat) (M:List Nat),(∀ x,x∈M->x<n)->(∀ x,M.count x<=c)->M.length<=n*c
 | 0,c,M,h,_=>by
  match M,h with
  | [],_=>simp
  | x::_,h=>have:=h x (by simp);omega
 | n+1,c,M,h,hc=>by
  have e:M.length=(M.filter fun x=>x == n).length+(M.filter fun x=>!(x == n)).length:=by
   rw [<- List.countP_eq_length_filter,<- List.countP_eq_length_filter];have hh:=List.length_eq_countP_add_countP (fun x=>x == n) (l:=M);rw [hh]
   congr 2
   funext a
   cases a == n <;> rfl
  have e1:(M.filter fun x=>x == n).length=M.count n:=by rw [List.count,List.countP_eq_length_filter]
  have e2:=rO n c (M.filter fun x=>!(x == n)) (fun x hx=>by
   have h1:=List.mem_filter.1 hx;have h2:=h x h1.1
   have h3:x≠n:=by simpa using h1.2
   omega) (fun x=>Nat.le_trans (List.Sublist.count_le x List.filter_sublist) (hc x))
  have:=hc n
  have e3:(n+1)*c=n*c+c:=by rw [Nat.add_mul];omega
  omega
theorem yA.len {K0 K:KV} {S:((Nat->Bool)->Bool)->Prop} {M:List Nat} (R:yA K0 S M K) (hk:K.Ok):M.length<=1099511627775/\∀ x,x∈M->x<=4294967295:=by
 have hc:∀ x,M.count x<=65535:=fun x=>by have:=R.hd x;have:=hk.wf.hm x;omega
 have hl:∀ x,x∈M->x<1048576:=fun x hx=>by
  have h1:=R.hd x;have h2:=List.count_pos_iff.2 hx;have h3:=hk.wf.ht x (by omega);have h4:=hk.wf.iZ h3.1 h3.2;omega
 refine ⟨?_,fun x hx=>by have:=hl x hx;omega⟩;have:=rO 1048576 65535 M hl hc;omega
end Go.Proofs.YtfkopmhpppeheaaGreat
namespace Go.Proofs.YtfkopmhpppeheaaGreat
open Go.RowKit Go.Maps Go.ChangeMaps Go.WideShapes
def Enters (fl:Nat):Prop:=∀ (args:Array Value) (w:World),(callFunc fl args).run Tryz.prog w=.ok (.enter fl args) w
def GV (w:World) (fl:Nat) (caps:Array Value) (FL:List Nat) (L:Bool->Bool->Bool->Bool):Prop :=
 ∀ w',(∀ k,k∈FL->w'.heap[k]?=w.heap[k]?)->∀ x y z:Bool,Calls Tryz.prog fl (#[.bool x,.bool y,.bool z]++caps) w' fun e w''=>e=.returned (.bool (L x y z))/\af [] w' w''
structure qE (w:World) (wb b ck cw cl cg mb fl:Nat) (caps:Array Value) (FL:List Nat) (L:Bool->Bool->Bool->Bool) (K:KV) (T:List DM) (q:aA) (M:List Nat) (lvv mv:Value) (D:DM):Prop where
 wk:WK w wb b K T q M lvv mv
 bw:w.heap[cw]?=some (.cells #[.pointer (some ⟨wb,0,none⟩)] 223 (0,0))
 bk:w.heap[ck]?=some (.cells #[.map (some mb)] 280 (0,0))
 bl:w.heap[cl]?=some (.cells #[.func (Fn.func fl) #[] caps] 229 (0,0))
 bg:w.heap[cg]?=some (.cells #[.func (Fn.func 212) #[] #[.pointer (some ⟨ck,0,none⟩),.pointer (some ⟨cw,0,none⟩),.pointer (some ⟨cl,0,none⟩),.pointer (some ⟨cg,0,none⟩)]] 281 (0,0))
 map:w.ownsMap Tryz.prog 228 (plainElem Tryz.prog 77) mb (Maps.size D) D
 leaf:GV w fl caps FL L
 Ef:∀ k,k∈FL->k<w.heap.size
 dj:∀ k,k∈mb::kN wb b q lvv mv->k≠ck/\k≠cw/\k≠cl/\k≠cg/\k∉FL
 dm:mb∉kN wb b q lvv mv
def oU (mb wb b:Nat) (q:aA) (lvv mv:Value):List Nat:=mb::kN wb b q lvv mv
theorem qE.lt {w:World} {wb b ck cw cl cg mb fl:Nat} {caps:Array Value} {FL:List Nat} {L:Bool->Bool->Bool->Bool} {K:KV} {T:List DM} {q:aA} {M:List Nat} {lvv mv:Value} {D:DM} (h:qE w wb b ck cw cl cg mb fl caps FL L K T q M lvv mv D) :
  ∀ k,k∈oU mb wb b q lvv mv->k<w.heap.size:=by
 intro k hk
 rcases List.mem_cons.1 hk with rfl | hk
 ·exact h.map.lt
 ·exact h.wk.lt k hk
theorem qE.keep {w w':World} {wb b ck cw cl cg mb fl:Nat} {caps:Array Value} {FL:List Nat} {L:Bool->Bool->Bool->Bool} {K:KV} {T:List DM} {q:aA} {M:List Nat} {lvv mv:Value} {D:DM} (h:qE w wb b ck cw cl cg mb fl caps FL L K T q M lvv mv D) (u:af [] w w') :
  qE w' wb b ck cw cl cg mb fl caps FL L K T q M lvv mv D:=by
 have e:∀ {k:Nat} {o:Obj},w.heap[k]?=some o->w'.heap[k]?=some o:=fun {k o} hk=>by rw [u.block k (ah hk) (by simp)];exact hk
 refine ⟨h.wk.upd u (by simp),e h.bw,e h.bk,e h.bl,e h.bg,aV h.map (u.block _ h.map.lt (by simp)),fun w2 h2=>h.leaf w2 fun k hk=>(h2 k hk).trans (u.block k (h.Ef k hk) (by simp)),fun k hk=>Nat.lt_of_lt_of_le (h.Ef k hk) u.size,h.dj,h.dm⟩
theorem qE.work {w w':World} {wb b ck cw cl cg mb fl:Nat} {caps:Array Value} {FL:List Nat} {L:Bool->Bool->Bool->Bool} {K K':KV} {T T':List DM} {q q':aA} {M M':List Nat} {lvv mv mv':Value} {D:DM} (h:qE w wb b ck cw cl cg mb fl caps FL L K T q M lvv mv D)
  (hw:WK w' wb b K' T' q' M' lvv mv') (u:af (kN wb b q lvv mv) w w') (s:Sub (kN wb b q lvv mv) w (kN wb b q' lvv mv')):qE w' wb b ck cw cl cg mb fl caps FL L K' T' q' M' lvv mv' D:=by
 have out:∀ k,k<w.heap.size->k∉kN wb b q lvv mv->k∉kN wb b q' lvv mv':=fun k hk hn hm=>by
  rcases s k hm with h | h
  ·exact hn h
  ·omega
 have djw:∀ k,k∈kN wb b q lvv mv->k≠ck/\k≠cw/\k≠cl/\k≠cg/\k∉FL:=fun k hk=>h.dj k (List.mem_cons_of_mem _ hk)
 have nk:ck∉kN wb b q lvv mv:=fun hk=>(djw _ hk).1 rfl
 have nw:cw∉kN wb b q lvv mv:=fun hk=>(djw _ hk).2.1 rfl
 have nl:cl∉kN wb b q lvv mv:=fun hk=>(djw _ hk).2.2.1 rfl
 have ng:cg∉kN wb b q lvv mv:=fun hk=>(djw _ hk).2.2.2.1 rfl
 have nf:∀ k,k∈FL->k∉kN wb b q lvv mv:=fun k hf hk=>(djw _ hk).2.2.2.2 hf
 have e:∀ {k:Nat} {o:Obj},k∉kN wb b q lvv mv->w.heap[k]?=some o->w'.heap[k]?=some o:=fun {k o} hn hk=>by rw [u.block k (ah hk) hn];exact hk
 refine ⟨hw,e nw h.bw,e nk h.bk,e nl h.bl,e ng h.bg,aV h.map (u.block _ h.map.lt h.dm),fun w2 h2=>h.leaf w2 fun k hk=>(h2 k hk).trans (u.block k (h.Ef k hk) (nf k hk)),fun k hk=>Nat.lt_of_lt_of_le (h.Ef k hk) u.size,?_,out mb h.map.lt h.dm⟩
 intro k hk
 rcases List.mem_cons.1 hk with rfl | hk
 ·exact h.dj _ (by simp)
 ·refine ⟨?_,?_,?_,?_,fun hf=>out k (h.Ef k hf) (nf k hf) hk⟩ <;> rintro rfl
  ·exact out _ (ah h.bk) nk hk
  ·exact out _ (ah h.bw) nw hk
  ·exact out _ (ah h.bl) nl hk
  ·exact out _ (ah h.bg) ng hk
theorem qE.known {w w':World} {wb b ck cw cl cg mb fl:Nat} {caps:Array Value} {FL:List Nat} {L:Bool->Bool->Bool->Bool} {K:KV} {T:List DM} {q:aA} {M:List Nat} {lvv mv:Value} {D D':DM} (h:qE w wb b ck cw cl cg mb fl caps FL L K T q M lvv mv D)
  (hm:w'.ownsMap Tryz.prog 228 (plainElem Tryz.prog 77) mb (Maps.size D') D') (u:af [mb] w w'):qE w' wb b ck cw cl cg mb fl caps FL L K T q M lvv mv D':=by
 have hmb:=h.dj mb (by simp)
 have e:∀ {k:Nat} {o:Obj},mb≠k->w.heap[k]?=some o->w'.heap[k]?=some o:=fun {k o} hn hk=>by rw [u.block k (ah hk) (by simp;exact Ne.symm hn)];exact hk
 refine ⟨h.wk.upd u (fun k hk hm=>?_),e hmb.2.1 h.bw,e hmb.1 h.bk,e hmb.2.2.1 h.bl,e hmb.2.2.2.1 h.bg,hm,fun w2 h2=>h.leaf w2 fun k hk=>(h2 k hk).trans (u.block k (h.Ef k hk) ?_),fun k hk=>Nat.lt_of_lt_of_le (h.Ef k hk) u.size,h.dj,h.dm⟩
 ·simp at hm;subst hm;exact h.dm hk
 ·simp;rintro rfl;exact hmb.2.2.2.2 hk
theorem qE.cells {w:World} {wb b ck cw cl cg mb fl:Nat} {caps:Array Value} {FL:List Nat} {L:Bool->Bool->Bool->Bool} {K:KV} {T:List DM} {q:aA} {M:List Nat} {lvv mv:Value} {D:DM} (h:qE w wb b ck cw cl cg mb fl caps FL L K T q M lvv mv D) :
  w.cell? ⟨cw,0,none⟩=some (.pointer (some ⟨wb,0,none⟩))/\w.cell? ⟨ck,0,none⟩=some (.map (some mb))/\w.cell? ⟨cl,0,none⟩=some (.func (Fn.func fl) #[] caps) /\
  w.cell? ⟨cg,0,none⟩=some (.func (Fn.func 212) #[] #[.pointer (some ⟨ck,0,none⟩),.pointer (some ⟨cw,0,none⟩),.pointer (some ⟨cl,0,none⟩),.pointer (some ⟨cg,0,none⟩)]) :=
 ⟨ae h.bw rfl,ae h.bk rfl,ae h.bl rfl,ae h.bg rfl⟩
theorem LY {K0 K:KV} {L:Bool->Bool->Bool->Bool} {M:List Nat} {D:DM} (h:iD K0 L M K D) (hc:Maps.Canon D) (ht:Tidy D):Maps.size D<maxLen:=by
 have:=gm hc (ks:=(List.range 1048576).flatMap fun f=>(List.range 1048576).flatMap fun g=>(List.range 1048576).map fun k=>qk f g k) (fun k hk=>by
  obtain ⟨f,g,h,rfl,h0,h1,h2⟩:=h.dom k hk
  exact List.mem_flatMap.2 ⟨f,List.mem_range.2 h0,List.mem_flatMap.2 ⟨g,List.mem_range.2 h1,List.mem_map.2 ⟨h,List.mem_range.2 h2,rfl⟩⟩⟩) ht
 simp only [List.length_flatMap,List.length_map,List.length_range,List.map_const',List.sum_replicate_nat] at this
 unfold maxLen;omega
structure GoP (K0:KV) (S:((Nat->Bool)->Bool)->Prop) (f g h wb b ck cw cl cg mb fl:Nat) (caps:Array Value) (FL:List Nat) (L:Bool->Bool->Bool->Bool) (K:KV) (q:aA) (M:List Nat) (lvv mv:Value) (w:World) (r:Nat) (code:Int) (w':World):Prop where
 ex:∃ (K':KV) (M':List Nat) (T':List DM) (q':aA) (mv':Value) (D':DM),oI K0 K L S f g h M r code K' M'/\iD K0 L M' K' D'/\qE w' wb b ck cw cl cg mb fl caps FL L K' T' q' M' lvv mv' D'/\af (oU mb wb b q lvv mv) w w'/\Sub (oU mb wb b q lvv mv) w (oU mb wb b q' lvv mv')
 r32:r<=4294967295
def OD (K0:KV) (t:(Nat->Bool)->Bool) (wb b ck cw cl cg mb fl:Nat) (caps:Array Value) (FL:List Nat) (L:Bool->Bool->Bool->Bool) (lvv:Value) (d:Nat):Prop :=
 ∀ (f g h:Nat) (K:KV) (T:List DM) (q:aA) (M:List Nat) (mv:Value) (D:DM) (w:World),qE w wb b ck cw cl cg mb fl caps FL L K T q M lvv mv D->pM K f g h->d<=K.iU f g h->yA K0 (K0.jv t) M K->iD K0 L M K D->ve K L t f g h ->
  Calls Tryz.prog 212 #[.agg #[.int .u32 f,.int .u32 g,.int .u32 h],.pointer (some ⟨ck,0,none⟩),.pointer (some ⟨cw,0,none⟩),.pointer (some ⟨cl,0,none⟩),.pointer (some ⟨cg,0,none⟩)] w fun e w' =>
   ∃ (r:Nat) (code:Int),e=.returned (.tuple #[.int .u32 r,.int .i64 code])/\GoP K0 (K0.jv t) f g h wb b ck cw cl cg mb fl caps FL L K q M lvv mv w r code w'
theorem Tv (K0:KV) (t:(Nat->Bool)->Bool) (wb b ck cw cl cg mb fl:Nat) (caps:Array Value) (FL:List Nat) (L:Bool->Bool->Bool->Bool) (lvv:Value)
  (f g h:Nat) (K:KV) (T:List DM) (q:aA) (M:List Nat) (mv:Value) (D:DM) (w:World) (hR:qE w wb b ck cw cl cg mb fl caps FL L K T q M lvv mv D) (hA:pM K f g h) (hS:yA K0 (K0.jv t) M K) (hK:iD K0 L M K D) (hh:Maps.has D (qk f g h)=true) :
  Calls Tryz.prog 212 #[.agg #[.int .u32 f,.int .u32 g,.int .u32 h],.pointer (some ⟨ck,0,none⟩),.pointer (some ⟨cw,0,none⟩),.pointer (some ⟨cl,0,none⟩),.pointer (some ⟨cg,0,none⟩)] w fun e w' =>
   ∃ (r:Nat) (code:Int),e=.returned (.tuple #[.int .u32 r,.int .i64 code])/\GoP K0 (K0.jv t) f g h wb b ck cw cl cg mb fl caps FL L K q M lvv mv w r code w':=by
 have dJ:=hR.wk.ker.ok;have b0:=dJ.bZ hA.t0;have b1:=dJ.bZ hA.t1;have b2:=dJ.bZ hA.t2;obtain ⟨_,_,_,r,hr,ha,hG⟩:=hK.ok f g h (by omega) (by omega) (by omega) hh;have aY:=heap_alloc_new w (.cells #[.int .u32 f,.int .u32 g,.int .u32 h] 228 (0,0));have x0:(w.alloc (.cells #[.int .u32 f,.int .u32 g,.int .u32 h] 228 (0,0))).cell? ⟨w.heap.size,0,none⟩=some (.int .u32 f):=ae aY rfl;have x1:(w.alloc (.cells #[.int .u32 f,.int .u32 g,.int .u32 h] 228 (0,0))).cell? ⟨w.heap.size,1,none⟩=some (.int .u32 g):=ae aY rfl;have x2:(w.alloc (.cells #[.int .u32 f,.int .u32 g,.int .u32 h] 228 (0,0))).cell? ⟨w.heap.size,2,none⟩=some (.int .u32 h):=ae aY rfl;have Lh:=hR.keep ((af.refl [] w).alloc (.cells #[.int .u32 f,.int .u32 g,.int .u32 h] 228 (0,0)));obtain ⟨y0,y1,y2,y3⟩:=Lh.cells;obtain ⟨x,ps,gW,hx⟩:=Lh.map.look_ok kM Tryz.underlying280 (qF _) (plainElem_int (H:=Unit) Tryz.underlying77 (jw (n:=0) (by omega))) (Fq (f:=f) (g:=g) (h:=h) (by omega) (by omega) (by omega));obtain ⟨c,rfl,bI,SA⟩:=plainElem_int_inv Tryz.underlying77 hx
 have Nw:D.atKey (qk f g h) (.lit (.int .u32 0))=.lit (.int .u32 c):=by simpa using congrArg Prod.fst bI
 rw [ha] at Nw
 have oz:c=(r:Int):=by simp at Nw;exact Nw.symm
 subst oz;rw [hh] at gW
 have HE:Hid (GoP K0 (K0.jv t) f g h wb b ck cw cl cg mb fl caps FL L K q M lvv mv w r 0 (w.alloc (.cells #[.int .u32 f,.int .u32 g,.int .u32 h] 228 (0,0)))) :=
  ⟨⟨K,M,T,q,mv,D,⟨hS,.refl K,fun _ h=>h,.inl ⟨rfl,hG⟩⟩,hK,Lh,(af.refl _ w).alloc _,Sub.refl _ _⟩,hr⟩
 clear hR hA hS hK hh dJ ha hG aY Lh hx bI SA Nw
 go_enter Tryz.func212,Tryz.ntmps212
 go_wp2_with fail;go_ret2;exact ⟨r,0,rfl,HE.out⟩
theorem XR (K0:KV) (t:(Nat->Bool)->Bool) (wb b ck cw cl cg mb fl:Nat) (caps:Array Value) (FL:List Nat) (L:Bool->Bool->Bool->Bool) (lvv:Value)
  (f g h:Nat) (K:KV) (T:List DM) (q:aA) (M:List Nat) (mv:Value) (D:DM) (w:World) (hR:qE w wb b ck cw cl cg mb fl caps FL L K T q M lvv mv D) (hA:pM K f g h) (hS:yA K0 (K0.jv t) M K) (hK:iD K0 L M K D) (hh:Maps.has D (qk f g h)=false)
  (p0 p1 p2:ak) (a0:K.A.list[f]?=some p0/\p0.taken=true) (a1:K.A.list[g]?=some p1/\p1.taken=true) (a2:K.A.list[h]?=some p2/\p2.taken=true) (Tq:K.top [p0,p1,p2]=-1) (hv:∀ p,p∈[p0,p1,p2]->p.var=-1) (I4:Enters fl) :
  Calls Tryz.prog 212 #[.agg #[.int .u32 f,.int .u32 g,.int .u32 h],.pointer (some ⟨ck,0,none⟩),.pointer (some ⟨cw,0,none⟩),.pointer (some ⟨cl,0,none⟩),.pointer (some ⟨cg,0,none⟩)] w fun e w' =>
   ∃ (r:Nat) (code:Int),e=.returned (.tuple #[.int .u32 r,.int .i64 code])/\GoP K0 (K0.jv t) f g h wb b ck cw cl cg mb fl caps FL L K q M lvv mv w r code w':=by
 have dJ:=hR.wk.ker.ok;have b0:=dJ.bZ hA.t0;have b1:=dJ.bZ hA.t1;have b2:=dJ.bZ hA.t2;have c0:=uB dJ a0 (hv p0 (by simp));have c1:=uB dJ a1 (hv p1 (by simp));have c2:=uB dJ a2 (hv p2 (by simp));have HEN:Hid (∀ (args:Array Value) (w:World),(callFunc fl args).run Tryz.prog w=.ok (.enter fl args) w):=I4;have HG:=Si (K0:=K0) (M:=M) dJ L c0 c1 c2
 have ib:∀ k:Nat,((k:Int) == 1)=(k == 1):=fun k=>by rw [Bool.eq_iff_iff];simp;omega
 rw [<- ib,<- ib,<- ib] at HG;have HG:=Lib.hid HG;have HP:=Lib.hid (And.intro a0 (And.intro a1 (And.intro a2 Tq)))
 have HV:Hid (∀ p,p∈[p0,p1,p2]->K.rD p.var):=fun p hp=>.inl (hv p hp)
 have HS:=Lib.hid (And.intro hS hK);have aY:=heap_alloc_new w (.cells #[.int .u32 f,.int .u32 g,.int .u32 h] 228 (0,0));have x0:(w.alloc (.cells #[.int .u32 f,.int .u32 g,.int .u32 h] 228 (0,0))).cell? ⟨w.heap.size,0,none⟩=some (.int .u32 f):=ae aY rfl;have x1:(w.alloc (.cells #[.int .u32 f,.int .u32 g,.int .u32 h] 228 (0,0))).cell? ⟨w.heap.size,1,none⟩=some (.int .u32 g):=ae aY rfl;have x2:(w.alloc (.cells #[.int .u32 f,.int .u32 g,.int .u32 h] 228 (0,0))).cell? ⟨w.heap.size,2,none⟩=some (.int .u32 h):=ae aY rfl;have pO:=Lib.hid aY;have Lh:=hR.keep ((af.refl [] w).alloc (.cells #[.int .u32 f,.int .u32 g,.int .u32 h] 228 (0,0)));obtain ⟨y0,y1,y2,y3⟩:=Lh.cells;obtain ⟨x,ps,gW,hx⟩:=Lh.map.look_ok kM Tryz.underlying280 (qF _) (plainElem_int (H:=Unit) Tryz.underlying77 (jw (n:=0) (by omega))) (Fq (f:=f) (g:=g) (h:=h) (by omega) (by omega) (by omega));obtain ⟨c,rfl,bI,SA⟩:=plainElem_int_inv Tryz.underlying77 hx;rw [hh] at gW;have HR1:=Lib.hid Lh;clear hR hA hS hK hh dJ aY Lh hx bI SA a0 a1 a2 Tq hv ib I4
 go_enter Tryz.func212,Tryz.ntmps212
 go_wp2_with fail;refine (zy wb b f g h K T q M lvv mv p0 p1 p2 _ HR1.out.wk ⟨HP.out.1.1,HP.out.1.2,by omega⟩ ⟨HP.out.2.1.1,HP.out.2.1.2,by omega⟩ ⟨HP.out.2.2.1.1,HP.out.2.2.1.2,by omega⟩).mono ?_;rintro e w1 ⟨v,rfl,hN⟩;have HN:=Lib.hid hN;have Fv:=Lib.hid (HR1.out.keep hN.up);clear hN y0 y1 y2 y3 gW x0 x1 x2;obtain ⟨y0,y1,y2,y3⟩:=Fv.out.cells;go_wp2_with fail;refine (Fz wb b K T q M lvv mv v _ [p0,p1,p2] _ Fv.out.wk HN.out.row HV.out (by simp)).mono ?_;rintro e w2 ⟨rfl,hu⟩;rw [HP.out.2.2.2];have eF:=Lib.hid (HN.out.up.trans hu);have HR3:=Lib.hid (Fv.out.keep hu);have Bz:w2.heap[w.heap.size]?=some (.cells #[.int .u32 f,.int .u32 g,.int .u32 h] 228 (0,0)):=(eF.out.block _ (ah pO.out) (by simp)).trans pO.out;have x0:w2.cell? ⟨w.heap.size,0,none⟩=some (.int .u32 f):=ae Bz rfl;have x1:w2.cell? ⟨w.heap.size,1,none⟩=some (.int .u32 g):=ae Bz rfl;have x2:w2.cell? ⟨w.heap.size,2,none⟩=some (.int .u32 h):=ae Bz rfl;clear hu y0 y1 y2 y3 Bz;obtain ⟨y0,y1,y2,y3⟩:=HR3.out.cells;have I4:=HEN.out;go_wp2_with fail;refine (HR3.out.leaf w2 (fun _ _=>rfl) ((f:Int) == 1) ((g:Int) == 1) ((h:Int) == 1)).mono ?_;rintro e w3 ⟨rfl,hu⟩;have ZQ:=Lib.hid (HR3.out.keep hu);have I8:=Lib.hid (eF.out.trans hu);generalize L ((f:Int) == 1) ((g:Int) == 1) ((h:Int) == 1)=bb at HG;clear hu I4 y0 y1 y2 y3 x0 x1 x2 c0 c1 c2
 have HE:Hid (GoP K0 (K0.jv t) f g h wb b ck cw cl cg mb fl caps FL L K q M lvv mv w (if bb=true then 1 else 0) 0 w3) :=
  ⟨⟨K,M,T,q,mv,D,⟨HS.out.1,.refl K,fun _ h=>h,.inl ⟨rfl,HG.out⟩⟩,HS.out.2,ZQ.out,(((af.refl [] w).alloc _).trans I8.out).mono (by simp),Sub.refl _ _⟩,by split <;> omega⟩
 clear HG
 cases bb with
 | true =>
  go_wp2_with fail;go_ret2;exact ⟨1,0,rfl,HE.out⟩
 | false =>
  go_wp2_with fail;go_ret2;exact ⟨0,0,rfl,HE.out⟩
structure anj (K0 K2:KV) (L:Bool->Bool->Bool->Bool) (n f g h r1 r2:Nat) (M2:List Nat):Prop where
 t1:K2.A.tk r1=true
 t2:K2.A.tk r2=true
 l1:K2.lev n<K2.dep r1
 l2:K2.lev n<K2.dep r2
 hn:n<K2.vars
theorem P5 {K0 K K1 K2:KV} {L:Bool->Bool->Bool->Bool} {S:((Nat->Bool)->Bool)->Prop} {n f g h r1 r2 f0 g0 h0 f1 g1 h1:Nat} {M M1 M2:List Nat} (hk:K.Ok) (xC:K1.Ok) (hn:n<K.vars) (hA:pM K f g h)
  (B0:nY K L n f g h false f0 g0 h0) (B1:nY K L n f g h true f1 g1 h1) (S1:oI K0 K L S f0 g0 h0 M r1 0 K1 M1) (S2:oI K0 K1 L S f1 g1 h1 M1 r2 0 K2 M2):anj K0 K2 L n f g h r1 r2 M2:=by
 have G1:Good K0 L f0 g0 h0 M1 K1 r1:=by rcases S1.ans with ⟨_,h⟩ | ⟨h,_⟩;exact h;omega
 have G2:Good K0 L f1 g1 h1 M2 K2 r2:=by rcases S2.ans with ⟨_,h⟩ | ⟨h,_⟩;exact h;omega
 have ZL:=B0.ext hA S1.ext hk.wf;have B1':=(B1.ext hA S1.ext hk.wf).ext (hA.ext S1.ext) S2.ext xC.wf;have G1':=G1.ext S2.ext xC.wf S2.sub ZL.ask.t0 ZL.ask.t1 ZL.ask.t2;have adB:=ZL.ext (hA.ext S1.ext) S2.ext xC.wf;exact ⟨G1'.tk,G2.tk,Nat.lt_of_lt_of_le adB.dep G1'.dep,Nat.lt_of_lt_of_le B1'.dep G2.dep,by rw [S2.ext.vr,S1.ext.vr];exact hn⟩
theorem Tu {K0 K K1 K2 K3:KV} {L:Bool->Bool->Bool->Bool} {S:((Nat->Bool)->Bool)->Prop} {n f g h r1 r2 r f0 g0 h0 f1 g1 h1:Nat} {code:Int} {M M1 M2 M3:List Nat} (hk:K.Ok) (xC:K1.Ok) (yB:K2.Ok) (hk3:K3.Ok) (hu:K2.Uni) (hn:n<K.vars) (hd:K.iU f g h=K.lev n) (hA:pM K f g h)
  (hS:S (K.iE L f g h)) (B0:nY K L n f g h false f0 g0 h0) (B1:nY K L n f g h true f1 g1 h1) (S1:oI K0 K L S f0 g0 h0 M r1 0 K1 M1) (S2:oI K0 K1 L S f1 g1 h1 M1 r2 0 K2 M2) (N:oP K2 n r1 r2 M2 r code K3 M3) :
  oI K0 K L S f g h M r code K3 M3:=by
 have G1:Good K0 L f0 g0 h0 M1 K1 r1:=by rcases S1.ans with ⟨_,h⟩ | ⟨h,_⟩;exact h;omega
 have G2:Good K0 L f1 g1 h1 M2 K2 r2:=by rcases S2.ans with ⟨_,h⟩ | ⟨h,_⟩;exact h;omega
 have A1:=hA.ext S1.ext;have A2:=A1.ext S2.ext;have ZL:=B0.ext hA S1.ext hk.wf;have B1':=(B1.ext hA S1.ext hk.wf).ext A1 S2.ext xC.wf;have G1':=G1.ext S2.ext xC.wf S2.sub ZL.ask.t0 ZL.ask.t1 ZL.ask.t2;have adB:=ZL.ext A1 S2.ext xC.wf;have E:=S1.ext.trans S2.ext
 have YM:S (K2.iE L f g h):=by
  have e:K2.iE L f g h=K.iE L f g h:=by funext x;exact E.iE hk.wf hA.t0 hA.t1 hA.t2 x
  rw [e];exact hS
 have wP:K2.iU f g h=K2.lev n:=by rw [E.iU hA.t0 hA.t1 hA.t2,E.lev];exact hd
 have R:=Sl yB hu hk3 S2.run A2 (by rw [E.vr];exact hn) wP adB B1' G1' G2 YM N;exact ⟨R.run,E.trans R.ext,fun x hx=>R.sub x (S2.sub x (S1.sub x hx)),R.ans⟩
theorem P7 {K0 K K1:KV} {L:Bool->Bool->Bool->Bool} {S:((Nat->Bool)->Bool)->Prop} {f g h f0 g0 h0 r1:Nat} {M M1:List Nat} (S1:oI K0 K L S f0 g0 h0 M r1 9 K1 M1):oI K0 K L S f g h M 0 9 K1 M1 :=
 ⟨S1.run,S1.ext,S1.sub,.inr ⟨rfl,by rcases S1.ans with ⟨h,_⟩ | ⟨_,h⟩;omega;exact h⟩⟩
theorem P6 {K0 K K1 K2:KV} {L:Bool->Bool->Bool->Bool} {S:((Nat->Bool)->Bool)->Prop} {f g h f0 g0 h0 f1 g1 h1 r1 r2:Nat} {c1:Int} {M M1 M2:List Nat} (S1:oI K0 K L S f0 g0 h0 M r1 c1 K1 M1) (S2:oI K0 K1 L S f1 g1 h1 M1 r2 9 K2 M2):oI K0 K L S f g h M 0 9 K2 M2 :=
 ⟨S2.run,S1.ext.trans S2.ext,fun x hx=>S2.sub x (S1.sub x hx),.inr ⟨rfl,by rcases S2.ans with ⟨h,_⟩ | ⟨_,h⟩;omega;exact h⟩⟩
theorem FB {S S1 S2:List Nat} {w w1:World} (h:Sub S w S1) (k:Sub S1 w1 S2) (hs:w.heap.size<=w1.heap.size):Sub S w S2:=fun x hx=>by
 rcases k x hx with h1 | h1
 ·exact h x h1
 ·right;omega
theorem XQ {mb wb b:Nat} {q q':aA} {lvv mv mv':Value} {w:World} (h:Sub (kN wb b q lvv mv) w (kN wb b q' lvv mv')):Sub (oU mb wb b q lvv mv) w (oU mb wb b q' lvv mv'):=fun k hk=>by
 rcases List.mem_cons.1 hk with rfl | hk
 ·exact .inl (by simp [oU])
 ·rcases h k hk with h | h
  ·exact .inl (List.mem_cons_of_mem _ h)
  ·exact .inr h
theorem oP.ext {K K':KV} {v lo hi r:Nat} {code:Int} {M M':List Nat} (hk:K.Ok) (N:oP K v lo hi M r code K' M'):K.Ext K'/\∀ x,x∈M->x∈M':=by
 cases N with
 | same=>exact ⟨.refl K,fun _ h=>h⟩
 | old _ ha hm=>exact ⟨(hk.kept ha.tk hm).2.ext,fun x hx=>List.mem_append.2 (.inl hx)⟩
 | full=>exact ⟨.refl K,fun _ h=>h⟩
 | nodes=>exact ⟨.refl K,fun _ h=>h⟩
 | new _ _ hm=>exact ⟨hm.ext,fun x hx=>List.mem_append.2 (.inl hx)⟩
theorem oP.lt {K K':KV} {v lo hi r:Nat} {code:Int} {M M':List Nat} (hk:K.Ok) (dB:K'.Ok) (hl:lo<=4294967295) (N:oP K v lo hi M r code K' M'):r<=4294967295:=by
 cases N with
 | same=>exact hl
 | old _ ha _=>have:=ha.lt hk.wf;omega
 | full _ ha _=>have:=ha.lt hk.wf;omega
 | nodes=>omega
 | new _ _ hm =>
  have:K'.A.tk r=true:=by rw [hm.tk];simp
  have:=dB.bZ this;omega
end Go.Proofs.YtfkopmhpppeheaaGreat
