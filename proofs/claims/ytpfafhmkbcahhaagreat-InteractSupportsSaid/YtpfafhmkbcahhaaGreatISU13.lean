import Derived.Test.YtpfafhmkbcahhaaGreatISU12
import Derived.Test.YtpfafhmkbcahhaaGreatISU11
import Derived.Test.YtpfafhmkbcahhaaGreatISU2
import Derived.Deep.RegionHeld3
import Derived.BigRegion
import Derived.Deep.RegionHeld
import Derived.RangeFuncBox
import Derived.RangeFuncLeaves
import Derived.Shelf.Abstract
import Derived.WalkKit
import Derived.OwnWalkIn
import Derived.TacticsInMore
import Derived.LoopNIn
import Derived.LoopIn
import Derived.Maps.AppendAt
import Derived.Sort.MapsRangeIn
import Derived.RangeFuncNested
import Derived.RangeFuncBound
set_option maxRecDepth 100000
set_option maxHeartbeats 2000000
namespace Go.Proofs.YtpfafhmkbcahhaaGreat
open Go.RowKit Go.Maps Go.ChangeMaps Go.WideShapes
def nb (x:Int) (i:Nat):Bool:=x.toNat.testBit i
theorem toNat_bv {x:Int} (h:U64 x):(BitVec.ofInt 64 x).toNat=x.toNat:=by
 unfold U64 at h;rw [BitVec.toNat_ofInt]
 have:x % (2 ^ 64:Nat)=x:=by omega
 rw [this]
theorem nb_bv {x:Int} (h:U64 x) (i:Nat):nb x i=(BitVec.ofInt 64 x).getLsbD i:=by
 unfold nb;rw [<- toNat_bv h,BitVec.testBit_toNat]
theorem nb_of_bv (B:BitVec 64) (i:Nat):nb ((B.toNat:Int) % 18446744073709551616) i=B.getLsbD i:=by
 have h:=B.isLt
 have:((B.toNat:Int) % 18446744073709551616).toNat=B.toNat:=by omega
 unfold nb;rw [this,BitVec.testBit_toNat]
theorem nb_or {x y:Int} (hx:U64 x) (hy:U64 y) (i:Nat):nb (bits BinOp.or IntKind.u64 x y) i=(nb x i||nb y i):=by
 rw [nb_bv hx,nb_bv hy,<- BitVec.getLsbD_or];exact nb_of_bv (BitVec.ofInt 64 x ||| BitVec.ofInt 64 y) i
theorem nb_and {x y:Int} (hx:U64 x) (hy:U64 y) (i:Nat):nb (bits BinOp.and IntKind.u64 x y) i=(nb x i&&nb y i):=by
 rw [nb_bv hx,nb_bv hy,<- BitVec.getLsbD_and];exact nb_of_bv (BitVec.ofInt 64 x &&& BitVec.ofInt 64 y) i
theorem nb_andNot {x y:Int} (hx:U64 x) (hy:U64 y) {i:Nat} (hi:i<64):nb (bits BinOp.andNot IntKind.u64 x y) i=(nb x i&&!nb y i):=by
 rw [nb_bv hx,nb_bv hy];have e:nb (bits BinOp.andNot IntKind.u64 x y) i=(BitVec.ofInt 64 x &&& ~~~BitVec.ofInt 64 y).getLsbD i:=nb_of_bv _ i;rw [e,BitVec.getLsbD_and,BitVec.getLsbD_not,decide_eq_true hi,Bool.true_and]
theorem nb_pow {n:Nat} (hn:n<64) (i:Nat):nb (IntKind.u64.wrap (2 ^ n)) i=decide (n=i):=by
 have e:IntKind.u64.wrap ((2:Int) ^ n)=(2:Int) ^ n % 18446744073709551616:=rfl;have h1:(2:Nat) ^ n<2 ^ 64:=Nat.pow_lt_pow_right (by omega) hn
 have h2:((2:Int) ^ n)=((2 ^ n:Nat):Int):=by push_cast;rfl
 have h3:((2:Int) ^ n % 18446744073709551616).toNat=2 ^ n:=by rw [h2];generalize (2:Nat) ^ n=m at h1 ⊢;omega
 rw [e];unfold nb;rw [h3,Nat.testBit_two_pow]
theorem nb_zero (i:Nat):nb 0 i=false:=by simp [nb]
theorem nb_ext {x y:Int} (hx:U64 x) (hy:U64 y) (h:∀ i,i<64->nb x i=nb y i):x=y:=by
 have:x.toNat=y.toNat:=by
  apply Nat.eq_of_testBit_eq
  intro i
  by_cases hi:i<64
  ·exact h i hi
  ·have l:∀ z:Int,U64 z->z.toNat.testBit i=false:=fun z hz=>by
    apply Nat.testBit_lt_two_pow
    have h1:(2:Nat) ^ 64<=2 ^ i:=Nat.pow_le_pow_right (by omega) (by omega)
    unfold U64 at hz;omega
   rw [l x hx,l y hy]
 unfold U64 at hx hy;omega
theorem bitT_nb {x:Int} (hx:U64 x) (v:Nat):bitT x v=nb x v:=by
 obtain ⟨n,rfl⟩ : ∃ n:Nat,x=(n:Int):=⟨x.toNat,by unfold U64 at hx;omega⟩
 have hn:n<18446744073709551616:=by unfold U64 at hx;omega
 have e:((n:Int)/2 ^ v)=((n/2 ^ v:Nat):Int):=by push_cast;rfl
 have hu:U64 ((n:Int)/2 ^ v):=by
  rw [e];have:=Nat.div_le_self n (2 ^ v);generalize n/2 ^ v=m at this ⊢;unfold U64;omega
 have h1:U64 1:=by unfold U64;omega
 have hbit:nb ((n:Int)/2 ^ v) 0=nb (n:Int) v:=by
  rw [e];unfold nb
  simp only [Int.toNat_natCast]
  rw [Nat.testBit_div_two_pow,Nat.zero_add]
 have h2:∀ i,nb (bits BinOp.and IntKind.u64 ((n:Int)/2 ^ v) 1) i=(nb ((n:Int)/2 ^ v) i&&decide (i=0)):=fun i=>by
  rw [nb_and hu h1]
  congr 1
  have:nb 1 i=decide (0=i):=nb_pow (n:=0) (by omega) i
  rw [this];by_cases h:i=0 <;> simp [h];omega
 have hW:=bits_u64 BinOp.and ((n:Int)/2 ^ v) 1;unfold bitT
 cases hb:nb (n:Int) v with
 | true =>
  have:bits BinOp.and IntKind.u64 ((n:Int)/2 ^ v) 1=1:=nb_ext hW h1 fun i _=>by
   have e1:nb 1 i=decide (0=i):=nb_pow (n:=0) (by omega) i;rw [h2,e1]
   by_cases h:i=0
   ·subst h;rw [hbit,hb];rfl
   ·simp [h];omega
  rw [this];rfl
 | false =>
  have:bits BinOp.and IntKind.u64 ((n:Int)/2 ^ v) 1=0:=nb_ext hW (by unfold U64;omega) fun i _=>by
   rw [h2,nb_zero]
   by_cases h:i=0
   ·subst h;rw [hbit,hb];rfl
   ·simp [h]
  rw [this];rfl
theorem WalkL.one {K:KV} {r:Nat} {N:List Nat} (h:WalkL K [] [r] N):WalkN K [] r N:=by
 cases h with
 | cons h t=>cases t;simpa using h
theorem KV.Under.node {K:KV} {P:List Nat} (hw:K.Wf P) {r x:Nat} (ht:K.A.tk r=true) (h:K.Under r x):2<=x/\K.A.tk x=true:=by
 induction h with
 | refl h=>exact ⟨h,ht⟩
 | lo _ hp h2 ih =>
  obtain ⟨p',hp',hpt'⟩:=ArenaV.tk_iff.1 ih.2
  rw [hp] at hp';cases hp'
  exact ⟨h2,(hw.cl _ _ ih.1 hp hpt').1⟩
 | hi _ hp h2 ih =>
  obtain ⟨p',hp',hpt'⟩:=ArenaV.tk_iff.1 ih.2
  rw [hp] at hp';cases hp'
  exact ⟨h2,(hw.cl _ _ ih.1 hp hpt').2⟩
theorem WalkN.mem {K:KV} {r x:Nat} {N:List Nat} (h:WalkN K [] r N):x∈N↔K.Under r x:=by
 refine ⟨h.under x,fun hu=>?_⟩
 induction hu with
 | refl h2=>simpa using h.has h2
 | lo _ hp h2 ih =>
  rcases (h.kids _ _ ih hp).1 with h3 | h3
  ·omega
  ·simpa using h3
 | hi _ hp h2 ih =>
  rcases (h.kids _ _ ih hp).2 with h3 | h3
  ·omega
  ·simpa using h3
theorem KV.Ok.kid_den {K:KV} (hk:K.Ok) {x:Nat} {p:PlaceV} (h2:2<=x) (hp:K.A.list[x]?=some p) (hpt:p.taken=true) (b:Bool) (y:Nat->Bool):K.den (if b then p.hi else p.lo) y=K.den x (upd y p.var.toNat b):=by
 cases b with
 | true=>exact (KV.den_hi hk.wf hk.ord h2 hp hpt y).symm
 | false=>exact (KV.den_lo hk.wf hk.ord h2 hp hpt y).symm
theorem KV.Ok.mix_kid {K:KV} (hk:K.Ok) {r x:Nat} {p:PlaceV} (h2:2<=x) (hp:K.A.list[x]?=some p) (hpt:p.taken=true) (b:Bool) {a:Nat->Bool} (ha:∀ y,K.den x y=K.den r (K.mix (K.dep x) a y)) :
  ∃ a',∀ y,K.den (if b then p.hi else p.lo) y=K.den r (K.mix (K.dep (if b then p.hi else p.lo)) a' y):=by
 have hvr:=hk.wf.vr x p h2 hp hpt;have hb:=hk.ord.below hk.wf h2 hp hpt;have hcl:=hk.wf.cl x p h2 hp hpt
 have hdx:K.dep x=K.lev p.var.toNat:=by simp [KV.dep,hp,hvr.1]
 have hvl:p.var.toNat<K.vars:=by omega
 generalize hc:(if b then p.hi else p.lo)=c
 have htc:K.A.tk c=true:=by
  subst hc;cases b
  ·exact hcl.1
  ·exact hcl.2
 have hdc:K.dep x<K.dep c:=by
  subst hc;cases b
  ·exact hb.1
  ·exact hb.2
 refine ⟨upd a p.var.toNat b,fun y=>?_⟩
 have e1:K.den c y=K.den c (K.mix (K.dep c) (upd a p.var.toNat b) y):=KV.den_same hk.wf hk.ord _ c _ _ htc (Nat.le_refl _) fun u hu hd=>by
  simp only [KV.mix];rw [if_neg (by omega)]
 rw [e1,<- hc,hk.kid_den h2 hp hpt,ha,hc]
 congr 1
 funext u
 simp only [KV.mix,upd]
 by_cases hu:u<K.vars
 ·by_cases h3:u=p.var.toNat
  ·subst h3
   simp only [hu,true_and,if_true]
   rw [if_neg (by omega),if_pos (by omega)]
  ·simp only [hu,true_and,h3,if_false]
   by_cases h4:K.lev u<K.dep x
   ·rw [if_pos h4,if_pos (by omega)]
   ·rw [if_neg h4]
 ·have h3:u≠p.var.toNat:=by omega
  simp [hu,h3]
theorem KV.Ok.mix_under {K:KV} (hk:K.Ok) {r x:Nat} (ht:K.A.tk r=true) (h:K.Under r x):∃ a,∀ y,K.den x y=K.den r (K.mix (K.dep x) a y):=by
 induction h with
 | refl h=>exact ⟨fun _=>false,fun y=>KV.den_same hk.wf hk.ord _ r _ _ ht (Nat.le_refl _) fun u hu hd=>by
   simp only [KV.mix];rw [if_neg (by omega)]⟩
 | lo h hp h2 ih =>
  obtain ⟨a,ha⟩:=ih;have hn:=h.node hk.wf ht;obtain ⟨p',hp',hpt'⟩:=ArenaV.tk_iff.1 hn.2
  rw [hp] at hp';cases hp'
  exact hk.mix_kid hn.1 hp hpt' false ha
 | hi h hp h2 ih =>
  obtain ⟨a,ha⟩:=ih;have hn:=h.node hk.wf ht;obtain ⟨p',hp',hpt'⟩:=ArenaV.tk_iff.1 hn.2
  rw [hp] at hp';cases hp'
  exact hk.mix_kid hn.1 hp hpt' true ha
def Hangs (t:(Nat->Bool)->Bool) (v:Nat):Prop:=∃ y,t (upd y v true)≠t (upd y v false)
theorem KV.Ok.hangs_of {K:KV} (hk:K.Ok) (hu:K.Uni) {r x:Nat} {p:PlaceV} (ht:K.A.tk r=true) (h:K.Under r x) (hp:K.A.list[x]?=some p):Hangs (K.den r) p.var.toNat:=by
 have hn:=h.node hk.wf ht;obtain ⟨p',hp',hpt⟩:=ArenaV.tk_iff.1 hn.2
 rw [hp] at hp';cases hp'
 have hvr:=hk.wf.vr x p hn.1 hp hpt;have hcl:=hk.wf.cl x p hn.1 hp hpt
 have hdx:K.dep x=K.lev p.var.toNat:=by simp [KV.dep,hp,hvr.1]
 obtain ⟨a,ha⟩:=hk.mix_under ht h
 have hne:∃ y,K.den p.hi y≠K.den p.lo y:=by
  by_cases hh:∃ y,K.den p.hi y≠K.den p.lo y
  ·exact hh
  ·exfalso
   refine hk.ord.ne x p hn.1 hp hpt (KV.canon hk.wf hk.ord hu _ _ _ hcl.1 hcl.2 (Nat.le_refl _) fun y=>?_)
   by_cases h:K.den p.lo y=K.den p.hi y
   ·exact h
   ·exact absurd ⟨y,fun e=>h e.symm⟩ hh
 obtain ⟨y,hy⟩:=hne;refine ⟨K.mix (K.dep x) a y,?_⟩
 have e:∀ b,upd (K.mix (K.dep x) a y) p.var.toNat b=K.mix (K.dep x) a (upd y p.var.toNat b):=fun b=>by
  funext u
  simp only [KV.mix,upd]
  by_cases h3:u=p.var.toNat
  ·subst h3;rw [if_pos rfl,if_neg (by omega),if_pos rfl]
  ·simp [h3]
 rw [e,e,<- ha,<- ha];have e1:=hk.kid_den hn.1 hp hpt true y;have e2:=hk.kid_den hn.1 hp hpt false y
 simp only [if_true] at e1
 simp only [Bool.false_eq_true,if_false] at e2
 rw [<- e1,<- e2];exact hy
theorem KV.Ok.hangs_not {K:KV} (hk:K.Ok) {v:Nat}:∀ (n r:Nat),K.vars-K.dep r<=n->K.A.tk r=true->(∀ x p,K.Under r x->K.A.list[x]?=some p->p.var.toNat≠v)->∀ y b,K.den r (upd y v b)=K.den r y
 | n,r,hn,ht,hx,y,b=>by
  by_cases h2:2<=r
  ·obtain ⟨p,u,hp,hpt,hpv,hu,h3,h4,hd⟩:=hk.wf.node_at h2 ht
   have hb:=hk.ord.below hk.wf h2 hp hpt;have hlt:=hk.wf.dep_lt hk.ord h2 ht;have hv:=hx r p (.refl h2) hp
   match n with
   | 0=>omega
   | n+1 =>
    have ih:∀ c,K.A.tk c=true->K.dep r<K.dep c->(2<=c->K.Under r c)->K.den c (upd y v b)=K.den c y:=fun c hc hd hu=>by
     by_cases hc2:2<=c
     ·exact KV.Ok.hangs_not hk n c (by omega) hc (fun x q hx' hq=>hx x q ((hu hc2).trans hx') hq) y b
     ·rw [K.den_const (by omega),K.den_const (by omega)]
    rw [KV.den_node hk.wf hk.ord h2 hp hpt,KV.den_node hk.wf hk.ord h2 hp hpt,upd_ne _ _ hv,ih p.hi h4 hb.2 (fun h=>.hi (.refl h2) hp h),ih p.lo h3 hb.1 (fun h=>.lo (.refl h2) hp h)]
  ·rw [K.den_const (by omega),K.den_const (by omega)]
theorem KV.Wf.vof_lt {K:KV} {P:List Nat} (h:K.Wf P) {x:Nat} (h2:2<=x) (ht:K.A.tk x=true):K.vof x<K.vars:=by
 obtain ⟨p,v,hp,_,hv,hl,_⟩:=h.node_at h2 ht
 simp [KV.vof,hp];omega
theorem sup_fold' (K:KV) (N:List Nat) (hv:∀ x,x∈N->K.vof x<64) (s:Int) (hs:U64 s):U64 (N.foldl (fun s x=>supStep s (K.vof x)) s)/\∀ i,nb (N.foldl (fun s x=>supStep s (K.vof x)) s) i=(nb s i||decide (∃ x,x∈N/\K.vof x=i)):=by
 induction N generalizing s with
 | nil=>exact ⟨hs,fun i=>by simp⟩
 | cons a N ih =>
  obtain ⟨h1,h2⟩:=ih (fun x hx=>hv x (by simp [hx])) (supStep s (K.vof a)) (bits_u64 _ _ _);refine ⟨h1,fun i=>?_⟩;rw [List.foldl_cons,h2];unfold supStep;rw [nb_or hs (wrap_u64 _),nb_pow (hv a (by simp)),Bool.or_assoc]
  congr 1
  rw [Bool.eq_iff_iff];simp
theorem SupIs.bits {K:KV} {r:Nat} {s:Int} (hk:K.Ok) (hu:K.Uni) (ht:K.A.tk r=true) (h:SupIs K r s):U64 s/\∀ v,nb s v=true↔Hangs (K.den r) v:=by
 obtain ⟨N,hN,rfl⟩:=h;have hN:=hN.one
 have hv:∀ x,x∈N->K.vof x<64:=fun x hx=>by
  have:=hN.two x hx;have:=hk.wf.vof_lt this.1 this.2;have:=hk.wf.vs;omega
 obtain ⟨h1,h2⟩:=sup_fold' K N hv 0 (by unfold U64;omega);refine ⟨h1,fun v=>?_⟩;rw [h2,nb_zero,Bool.false_or,decide_eq_true_eq];constructor
 ·rintro ⟨x,hx,rfl⟩
  have ht':=hN.two x hx;obtain ⟨p,hp,hpt⟩:=ArenaV.tk_iff.1 ht'.2;have:=hk.hangs_of hu ht (hN.under x hx) hp
  simpa [KV.vof,hp] using this
 ·intro hh
  by_cases he:∃ x,x∈N/\K.vof x=v
  ·exact he
  ·exfalso
   obtain ⟨y,hy⟩:=hh;have key:=hk.hangs_not (v:=v) _ r (Nat.le_refl _) ht (fun x p hx hp hv=>he ⟨x,hN.mem.2 hx,by simp [KV.vof,hp,hv]⟩);exact hy (by rw [key,key])
end Go.Proofs.YtpfafhmkbcahhaaGreat
namespace Go.Proofs.YtpfafhmkbcahhaaGreat
structure TV where
 n:Nat
 ws:List Int
deriving DecidableEq
def idx:Nat->(Nat->Bool)->Nat
 | 0,_=>0
 | n+1,y=>idx n y+if y n then 2 ^ n else 0
theorem MakeR.is_new {K K':KV} {v:Int} {lo hi r:Nat} {c:Int} (M:MakeR K v lo hi r c K') (h0:K.fitsE v lo hi=0) (hne:lo≠hi) (hno:∀ s,¬ K.At s v.toNat lo hi) (hu:K.A.used≠K.A.places):c=0/\K.Made v.toNat lo hi r K':=by
 cases M with
 | bad h=>exact absurd h0 h
 | full _ hs _ =>
  rcases hs with hs | hs
  ·exact absurd hs.1 hne
  ·exact absurd hs.2 (hno _)
 | old _ hs _ =>
  rcases hs with hs | hs
  ·exact absurd hs.1 hne
  ·exact absurd hs.2 (hno _)
 | nodes _ _ _ h=>exact absurd h hu
 | new _ _ _ h=>exact ⟨rfl,h⟩
structure Plain (K:KV) (n m:Nat):Prop where
 ok:K.Ok
 uni:K.Uni
 vr:K.vars=n
 lv:∀ v,v<n->K.lev v=v
 pl:K.A.places=m
theorem Plain.ext {K K':KV} {n m:Nat} (h:Plain K n m) (e:K.Ext K') (hk:K'.Ok) (hu:K'.Uni):Plain K' n m :=
 ⟨hk,hu,e.vr.trans h.vr,fun v hv=>(e.lev v).trans (h.lv v hv),e.pl.trans h.pl⟩
theorem plain_new {n m:Nat} (h1:1<=n) (hn:n<=64) (h2:2<=m) (hm:m<=1048576):Plain (KV.new n m) n m:=by
 refine ⟨KV.new_ok h1 hn h2 hm,(TInv.new n m).uni (KV.new_ok h1 hn h2 hm).wf,rfl,fun v hv=>by simp [KV.lev,KV.new,hv],rfl⟩
theorem Plain.var {K K':KV} {n m v r:Nat} {c:Int} (h:Plain K n m) (hv:v<n) (hno:∀ s,¬ K.At s v 0 1) (hu:K.A.used<m) (M:MakeR K (v:Int) 0 1 r c K'):c=0/\K.Made v 0 1 r K':=by
 have hvr:=h.vr;have hpl:=h.pl;refine M.is_new (KV.fits_ok (by omega) (h.ok.tk_const (by omega)) (h.ok.tk_const (by omega)) fun _=>?_) (by omega) (by simpa using hno) (by omega);rw [h.lv v hv,h.ok.wf.dep_const (by omega),h.ok.wf.dep_const (by omega)];omega
theorem KV.Made.at_iff {K K':KV} {v lo hi r:Nat} (M:K.Made v lo hi r K') {s u lo' hi':Nat}:K'.At s u lo' hi'↔(s=r/\u=v/\lo'=lo/\hi'=hi)\/K.At s u lo' hi':=by
 constructor
 ·intro h
  obtain ⟨h2,p,hp,hpt,e1,e2,e3⟩:=h
  by_cases e:s=r
  ·subst e
   rw [M.at_] at hp;cases hp
   simp at e1 e2 e3
   exact .inl ⟨rfl,by omega,e2.symm,e3.symm⟩
  ·have ht:K'.A.tk s=true:=ArenaV.tk_iff.2 ⟨p,hp,hpt⟩
   rw [M.tk] at ht
   simp [e] at ht
   obtain ⟨p',hp',hpt'⟩:=ArenaV.tk_iff.1 ht;have:=M.ext.nd s p' hp' hpt'
   rw [hp] at this;cases this
   exact .inr ⟨h2,p,hp',hpt,e1,e2,e3⟩
 ·rintro (⟨rfl,rfl,rfl,rfl⟩ | ⟨h2,p,hp,hpt,rest⟩)
  ·exact ⟨M.two,_,M.at_,rfl,rfl,rfl,rfl⟩
  ·exact ⟨h2,p,M.ext.nd s p hp hpt,hpt,rest⟩
theorem new_tk (n m x:Nat):(KV.new n m).A.tk x=true↔x<2:=by
 constructor
 ·intro h
  have:=ArenaV.tk_lt h
  simp [KV.new,ArenaV.new] at this
  exact this
 ·intro h
  obtain rfl | rfl:x=0\/x=1:=by omega
  ·rfl
  ·rfl
theorem opB_and (a b:Bool):opB 8 a b=(a&&b):=by cases a <;> cases b <;> rfl
structure TwoW (K:KV) (n m a b r1 r2:Nat):Prop where
 ab:a<b/\b<n
 pl:Plain K n m
 us:K.A.used=4
 tk:∀ x,K.A.tk x=true↔x=0\/x=1\/x=r1\/x=r2
 d1:∀ y,K.den r1 y=y a
 d2:∀ y,K.den r2 y=y b
 h1:∀ x,K.hold x<=1
theorem two_vars2 {n m a b r1 r2:Nat} {c1 c2:Int} {K1 K2:KV} (hab:a<b/\b<n) (hn:n<=64) (hm4:5<=m) (hm:m<=1048576) (k1:K1.Ok) (u1:K1.Uni) (k2:K2.Ok) (u2:K2.Uni) (M1:MakeR (KV.new n m) (a:Int) 0 1 r1 c1 K1) (M2:MakeR K1 (b:Int) 0 1 r2 c2 K2) :
  c1=0/\c2=0/\TwoW K2 n m a b r1 r2:=by
 have P0:=plain_new (n:=n) (m:=m) (by omega) hn (by omega) hm
 have no0:∀ s u lo hi,¬ (KV.new n m).At s u lo hi:=fun s u lo hi h=>by
  have:=(new_tk n m s).1 h.tk;have:=h.1;omega
 have us0:(KV.new n m).A.used=2:=rfl;obtain ⟨e1,A1⟩:=P0.var (by omega) (no0 · a 0 1) (by omega) M1;have P1:=P0.ext A1.ext k1 u1;have us1:=A1.us
 obtain ⟨e2,A2⟩:=P1.var (by omega) (fun s h=>by
  rcases A1.at_iff.1 h with ⟨_,h,_⟩ | h
  ·omega
  ·exact no0 _ _ _ _ h) (by omega) M2
 have P2:=P1.ext A2.ext k2 u2;have us2:=A2.us;have at1:K2.At r1 a 0 1:=A2.at_iff.2 (.inr (A1.at_iff.2 (.inl ⟨rfl,rfl,rfl,rfl⟩)));have at2:K2.At r2 b 0 1:=A2.at_iff.2 (.inl ⟨rfl,rfl,rfl,rfl⟩)
 have c01:∀ y,K2.den 0 y=false/\K2.den 1 y=true:=fun y=>⟨K2.den_const (by omega) y,K2.den_const (by omega) y⟩
 refine ⟨e1,e2,hab,P2,by omega,fun x=>?_,fun y=>?_,fun y=>?_,fun x=>?_⟩
 ·rw [A2.tk,A1.tk]
  simp only [Bool.or_eq_true,decide_eq_true_eq,new_tk]
  omega
 ·rw [at1.den k2,(c01 y).1,(c01 y).2];cases y a <;> rfl
 ·rw [at2.den k2,(c01 y).1,(c01 y).2];cases y b <;> rfl
 ·rw [A2.hd]
  have hz:(KV.new n m).hold x=0:=by simp [KV.hold,KV.new]
  split
  ·omega
  ·rw [A1.hd];split <;> omega
theorem TwoW.parts {K K':KV} {n m a b r1 r2:Nat} (h:TwoW K n m a b r1 r2) (e:K.Ext K') (k':K'.Ok) (u':K'.Uni) {t:(Nat->Bool)->Bool} (ht:∀ y,t y=(y a&&y b)) (hnew:∀ x,K'.A.tk x=true->K.A.tk x=false->K.SubN t (K'.den x)) (x:Nat) (hx:K'.A.tk x=true) :
  (x=0\/x=1\/x=r1\/x=r2)\/∀ y,K'.den x y=(y a&&y b):=by
 have wf:=h.pl.ok.wf
 have can:∀ {c d:Nat},K'.A.tk c=true->K'.A.tk d=true->(∀ y,K'.den c y=K'.den d y)->c=d:=fun ha hb h=>KV.canon k'.wf k'.ord u' _ _ _ ha hb (Nat.le_refl _) h
 have t2:K.A.tk r2=true:=(h.tk r2).2 (by simp)
 cases hk:K.A.tk x with
 | true=>exact .inl ((h.tk x).1 hk)
 | false =>
  obtain ⟨l,z,hl⟩:=hnew x hx hk;have hvr:=h.pl.vr;have hab:=h.ab;have l0:=h.pl.lv a (by omega);have l1:=h.pl.lv b (by omega)
  have m0:∀ y,K.mix l z y a=if a<l then z a else y a:=fun y=>by simp only [KV.mix,l0];congr 1;simp;omega
  have m1:∀ y,K.mix l z y b=if b<l then z b else y b:=fun y=>by simp only [KV.mix,l1];congr 1;simp;omega
  have hd:∀ y,K'.den x y=((if a<l then z a else y a)&&(if b<l then z b else y b)):=fun y=>by rw [hl,ht,m0,m1]
  by_cases h0:a<l
  ·left
   simp only [h0,if_true] at hd
   cases ha:z a with
   | false =>
    left
    refine can hx (k'.tk_const (by omega)) fun y=>?_
    rw [hd,ha,K'.den_const (by omega)];simp
   | true =>
    by_cases h1:b<l
    ·simp only [h1,if_true] at hd
     cases hb:z b with
     | false =>
      left
      refine can hx (k'.tk_const (by omega)) fun y=>?_
      rw [hd,ha,hb,K'.den_const (by omega)];simp
     | true =>
      right;left
      refine can hx (k'.tk_const (by omega)) fun y=>?_
      rw [hd,ha,hb,K'.den_const (by omega)];simp
    ·right;right;right
     simp only [h1,if_false] at hd
     refine can hx (e.tk t2) fun y=>?_
     rw [hd,ha,e.den wf y t2,h.d2];simp
  ·right
   intro y
   rw [hd];simp only [h0,if_false]
   rw [if_neg (by omega)]
theorem TwoW.fits {K:KV} {n m a b r1 r2:Nat} (h:TwoW K n m a b r1 r2) (hm:6<=m) {t:(Nat->Bool)->Bool} (ht:∀ y,t y=(y a&&y b)):¬ NoFit K (K.SubN t):=by
 rintro ⟨K',M,g,hk,hu,R,hus,_⟩;have hp:=(h.pl.ext R.ext hk hu).pl;have parts:=h.parts R.ext hk hu ht R.new
 by_cases hf:∃ f,K'.A.tk f=true/\∀ y,K'.den f y=(y a&&y b)
 ·obtain ⟨f,tf,df⟩:=hf
  have:=K'.used_le hk.wf (l:=[0,1,r1,r2,f]) fun x hx=>by
   rcases parts x hx with h | h
   ·simp;omega
   ·have:x=f:=KV.canon hk.wf hk.ord hu _ _ _ hx tf (Nat.le_refl _) fun y=>by rw [h,df]
    simp [this]
  simp at this;omega
 ·have:=K'.used_le hk.wf (l:=[0,1,r1,r2]) fun x hx=>by
   rcases parts x hx with h | h
   ·simp;omega
   ·exact absurd ⟨x,hx,h⟩ hf
  simp at this;omega
structure ThreeW (K:KV) (n m a b r1 r2 f:Nat):Prop where
 pl:Plain K n m
 us:K.A.used=5
 tk:∀ x,K.A.tk x=true↔x=0\/x=1\/x=r1\/x=r2\/x=f
 d1:∀ y,K.den r1 y=y a
 d2:∀ y,K.den r2 y=y b
 df:∀ y,K.den f y=(y a&&y b)
 f2:2<=f
 hf:K.hold f=1
theorem TwoW.and {K K':KV} {n m a b r1 r2 f:Nat} {c:Int} (h:TwoW K n m a b r1 r2) (hm:6<=m) (k':K'.Ok) (u':K'.Uni) (O:OpR K (K.fun3 (fun x y _=>opB 8 x y) r1 r2 0) f c K'):c=0/\ThreeW K' n m a b r1 r2 f:=by
 have ht:∀ y,K.fun3 (fun x y _=>opB 8 x y) r1 r2 0 y=(y a&&y b):=fun y=>by simp only [KV.fun3,opB_and,h.d1,h.d2]
 rcases O with ⟨rfl,O⟩ | ⟨_,_,_,s,_,_,hs⟩ | ⟨_,_,_,hno⟩
 ·have wf:=h.pl.ok.wf
  have df:∀ y,K'.den f y=(y a&&y b):=fun y=>by rw [O.den,ht]
  have t1:K.A.tk r1=true:=(h.tk r1).2 (by simp);have t2:K.A.tk r2=true:=(h.tk r2).2 (by simp)
  have d1:∀ y,K'.den r1 y=y a:=fun y=>by rw [O.ext.den wf y t1,h.d1]
  have d2:∀ y,K'.den r2 y=y b:=fun y=>by rw [O.ext.den wf y t2,h.d2]
  have n0:f≠0:=by
   rintro rfl
   have:=df fun _=>true
   rw [K'.den_const (by omega)] at this;cases this
  have n1:f≠1:=by
   rintro rfl
   have:=df fun _=>false
   rw [K'.den_const (by omega)] at this;cases this
  have nr1:f≠r1:=by
   rintro rfl
   have aa:=df fun v=>v == a
   have bb:=d1 fun v=>v == a
   rw [aa] at bb;simp at bb;have hh:=h.ab;omega
  have nr2:f≠r2:=by
   rintro rfl
   have aa:=df fun v=>v == b
   have bb:=d2 fun v=>v == b
   rw [aa] at bb;simp at bb;have hh:=h.ab;omega
  have r10:r1≠0:=by
   rintro rfl
   have:=d1 fun _=>true
   rw [K'.den_const (by omega)] at this;cases this
  have r11:r1≠1:=by
   rintro rfl
   have:=d1 fun _=>false
   rw [K'.den_const (by omega)] at this;cases this
  have r20:r2≠0:=by
   rintro rfl
   have:=d2 fun _=>true
   rw [K'.den_const (by omega)] at this;cases this
  have r21:r2≠1:=by
   rintro rfl
   have:=d2 fun _=>false
   rw [K'.den_const (by omega)] at this;cases this
  have r12:r1≠r2:=by
   rintro rfl
   have aa:=d1 fun v=>v == a
   have bb:=d2 fun v=>v == a
   rw [aa] at bb;simp at bb;have hh:=h.ab;omega
  have tk:∀ x,K'.A.tk x=true↔x=0\/x=1\/x=r1\/x=r2\/x=f:=by
   intro x
   constructor
   ·intro hx
    rcases h.parts O.ext k' u' ht O.new x hx with h | h
    ·omega
    ·have:x=f:=KV.canon k'.wf k'.ord u' _ _ _ hx O.tk (Nat.le_refl _) fun y=>by rw [h,df]
     omega
   ·rintro (rfl | rfl | rfl | rfl | rfl)
    ·exact k'.tk_const (by omega)
    ·exact k'.tk_const (by omega)
    ·exact O.ext.tk t1
    ·exact O.ext.tk t2
    ·exact O.tk
  have hle:=K'.used_le k'.wf (l:=[0,1,r1,r2,f]) fun x hx=>by
   have:=(tk x).1 hx
   simp;omega
  have hge:=K'.used_ge k'.wf (l:=[0,1,r1,r2,f]) (by simp;omega) fun x hx=>(tk x).2 (by simpa using hx)
  have hf0:K.hold f=0:=by
   by_cases hp:0<K.hold f
   ·have:=(h.tk f).1 (wf.ht f hp).2
    omega
   ·omega
  refine ⟨rfl,h.pl.ext O.ext k' u',by simp at hle hge;omega,tk,d1,d2,df,by omega,?_⟩
  rw [O.hd,hf0];simp;omega
 ·have:=h.h1 s;omega
 ·exact (h.fits hm ht hno).elim
end Go.Proofs.YtpfafhmkbcahhaaGreat
namespace Go.Proofs.YtpfafhmkbcahhaaGreat
open Go.RowKit Go.Maps Go.ChangeMaps Go.WideShapes
structure MakePost (b:Nat) (v:Int) (lo hi:Nat) (K:KV) (q:KPtr) (w:World) (e:Ending) (w':World):Prop where
 ex:∃ (r:Nat) (code:Int) (K':KV) (T':List DM) (q':KPtr),e=.returned (.tuple #[.int .u32 r,.int .i64 code])/\MakeR K v lo hi r code K'/\KerIn w' b K' T' q'/\Upd (q.all b) w w'/\Sub (q.all b) w (q'.all b)
theorem var_live (b:Nat) (v:Int) (K:KV) (T:List DM) (q:KPtr) (w:World) (h:KerIn w b K T q) :
  Calls Tryz.prog 104 #[.pointer (some ⟨b,0,none⟩),.int .i64 v] w fun e w'=>MakePost b v 0 1 K q w e w':=by
 have HK:=Lib.hid h;clear h
 go_enter Tryz.func104,Tryz.ntmps104
 go_wp2_with fail;refine (make_spec b v 0 1 K T q w HK.out (by omega) (by omega)).mono ?_;rintro e w1 ⟨r,code,K',T',q',rfl,hE⟩;have HE:=Lib.hid hE;clear hE;go_wp2_with fail;go_ret2;exact ⟨r,code,K',T',q',rfl,HE.out⟩
theorem and_live (b f g:Nat) (K:KV) (T:List DM) (q:KPtr) (w:World) (h:KerIn w b K T q) (hf:K.A.tk f=true) (hg:K.A.tk g=true) :
  Calls Tryz.prog 105 #[.pointer (some ⟨b,0,none⟩),.int .u32 f,.int .u32 g] w fun e w'=>OpPost b K q (K.fun3 (fun x y _=>opB 8 x y) f g 0) w e w':=by
 have HC:=Lib.hid (binary_live b 8 f g K T q w h (by omega) hf hg);clear h hf hg
 go_enter Tryz.func105,Tryz.ntmps105
 go_wp2_with fail;refine HC.out.mono ?_;rintro e w1 hE;obtain ⟨r,code,K',T',q',rfl,hP⟩:=hE.ex;have HE:=Lib.hid hP;clear hE hP HC;go_wp2_with fail;go_ret2;exact ⟨r,code,K',T',q',rfl,HE.out⟩
theorem sets_spec (va vb:Value) (ba bb:Nat) (l1 l2:List Int) (w:World) (h1:w.ownsRow ba 96 1 va l1.length (flatU l1)) (h2:w.ownsRow bb 96 1 vb l2.length (flatU l2)) (hl:l1.length<=1099511627776) (_hl2:l2.length<=1099511627776) :
  Calls Tryz.prog 56 #[va,vb] w fun e w'=>e=.returned (.bool (decide (l1=l2)))/\Upd [] w w':=by
 obtain ⟨fa,ca,rfl,_⟩:=row_nil_len h1;obtain ⟨fb,cb,rfl,_⟩:=row_nil_len h2;have H1:=Lib.hid (And.intro h1 h2);clear h1 h2
 by_cases hn:l1.length=l2.length
 ·have hne1:((l1.length:Int) == (l2.length:Int))=true:=by rw [beq_iff_eq];omega
  have hne2:(l1.length:Int)=(l2.length:Int):=by omega
  go_enter Tryz.func56,Tryz.ntmps56
  go_wp2_with fail
  go_loopg [13] l1.length (fun g s13 wr=>∃ i:Nat,l1.length-i=g/\i<=l1.length/\s13=.int .i64 i/\l1.take i=l2.take i/\Upd [] w wr)
  case atStart=>exact ⟨0,by omega,by omega,rfl,rfl,Upd.refl _ _⟩
  case round =>
   obtain ⟨i,rfl,hi,rfl,ht,hU⟩:=hrel
   by_cases hlt:i<l1.length
   ·obtain ⟨x,hx⟩ : ∃ x,l1[i]?=some x:=⟨_,List.getElem?_eq_getElem hlt⟩
    obtain ⟨y,hy⟩ : ∃ y,l2[i]?=some y:=⟨_,List.getElem?_eq_getElem (by omega)⟩;obtain ⟨ga,rfl⟩:=row_some H1.out.1 (by omega);obtain ⟨gb,rfl⟩:=row_some H1.out.2 (by omega)
    have r1:=row_keep H1.out.1 fun k hk=>hU.block k (H1.out.1.lt k hk).2 (by simp)
    have r2:=row_keep H1.out.2 fun k hk=>hU.block k (H1.out.2.lt k hk).2 (by simp)
    have c1:=row_cell r1 (j:=i) (u:=.int .u64 x) (by simp [flatU,hx]);have c2:=row_cell r2 (j:=i) (u:=.int .u64 y) (by simp [flatU,hy])
    have hil:(i:Int)<(l1.length:Int):=by omega
    have hil2:(i:Int)<(l2.length:Int):=by omega
    by_cases hxy:x=y
    ·have hb1:(x == y)=true:=by simpa using hxy
     have HE:Hid (l1.take (i+1)=l2.take (i+1)/\Upd [] w wr):=⟨by rw [List.take_add_one,List.take_add_one,ht,hx,hy,hxy],hU⟩;clear ht hU r1 r2 hx hy;go_wp2_with fail
     go_region
     go_wp2_with fail
     go_roundg (l1.length-(i+1))
     case measure=>omega
     case rel=>exact ⟨i+1,rfl,by omega,by simp,HE.out.1,HE.out.2.drew⟩
    ·have hb1:(x == y)=false:=by simpa using hxy
     have HE:Hid (l1≠l2/\Upd [] w wr):=⟨fun e=>hxy (by rw [e,hy] at hx;exact (Option.some.inj hx).symm),hU⟩;clear ht hU r1 r2 hx hy;go_wp2_with fail
     go_region
     go_wp2_with fail;go_ret;exact ⟨by rw [decide_eq_false HE.out.1];rfl,HE.out.2.drew⟩
   ·obtain rfl:i=l1.length:=by omega
    have hil:¬ ((l1.length:Int)<(l1.length:Int)):=by omega
    have HE:Hid (l1=l2/\Upd [] w wr):=⟨by rw [List.take_length,hn,List.take_length] at ht;exact ht,hU⟩;clear ht hU;go_wp2_with fail;go_ret;exact ⟨by rw [decide_eq_true HE.out.1];rfl,HE.out.2⟩
 ·have hne1:((l1.length:Int) == (l2.length:Int))=false:=by rw [beq_eq_false_iff_ne];omega
  have hne2:¬ ((l1.length:Int)=(l2.length:Int)):=by omega
  have HE:Hid (l1≠l2):=fun e=>hn (by rw [e])
  go_enter Tryz.func56,Tryz.ntmps56
  go_wp2_with fail;go_ret;exact ⟨by rw [decide_eq_false HE.out];rfl,Upd.refl _ _⟩
theorem Hangs.var {t:(Nat->Bool)->Bool} {a:Nat} (h:∀ y,t y=y a) (v:Nat):Hangs t v↔v=a:=by
 constructor
 ·rintro ⟨y,hy⟩
  rw [h,h] at hy
  by_cases e:v=a
  ·exact e
  ·simp [upd,Ne.symm e] at hy
 ·rintro rfl
  exact ⟨fun _=>true,by rw [h,h];simp [upd]⟩
theorem Hangs.and {t:(Nat->Bool)->Bool} {a b:Nat} (h:∀ y,t y=(y a&&y b)) (v:Nat):Hangs t v↔v=a\/v=b:=by
 constructor
 ·rintro ⟨y,hy⟩
  rw [h,h] at hy
  by_cases e:v=a\/v=b
  ·exact e
  ·simp [upd,show ¬ a=v by omega,show ¬ b=v by omega] at hy
 ·intro e
  refine ⟨fun _=>true,?_⟩;rw [h,h]
  rcases e with rfl | rfl <;> simp [upd]
theorem sup_var {K:KV} {r a:Nat} {s:Int} (hk:K.Ok) (hu:K.Uni) (ht:K.A.tk r=true) (hs:SupIs K r s) (h:∀ y,K.den r y=y a) (ha:a<64):s=IntKind.u64.wrap (2 ^ a):=by
 obtain ⟨h1,h2⟩:=hs.bits hk hu ht
 refine nb_ext h1 (wrap_u64 _) fun i _=>?_
 rw [nb_pow ha,Bool.eq_iff_iff,h2,Hangs.var h,decide_eq_true_eq,eq_comm]
theorem sup_and {K:KV} {r a b:Nat} {s:Int} (hk:K.Ok) (hu:K.Uni) (ht:K.A.tk r=true) (hs:SupIs K r s) (h:∀ y,K.den r y=(y a&&y b)) (ha:a<64) (hb:b<64):s=bits BinOp.or IntKind.u64 (IntKind.u64.wrap (2 ^ a)) (IntKind.u64.wrap (2 ^ b)):=by
 obtain ⟨h1,h2⟩:=hs.bits hk hu ht
 refine nb_ext h1 (bits_u64 _ _ _) fun i _=>?_
 rw [nb_or (wrap_u64 _) (wrap_u64 _),nb_pow ha,nb_pow hb,Bool.eq_iff_iff,h2,Hangs.and h,Bool.or_eq_true,decide_eq_true_eq,decide_eq_true_eq,eq_comm (a:=i),eq_comm (a:=i)]
theorem mat_keep (ss:List Int) (h:∀ s,s∈ss->s=1\/s=4\/s=5):ss.foldl (matRow 4) [4,0,1,0]=[4,0,1,0]:=by
 induction ss with
 | nil=>rfl
 | cons s ss ih =>
  rw [List.foldl_cons]
  have:matRow 4 [4,0,1,0] s=[4,0,1,0]:=by
   rcases h s (by simp) with rfl | rfl | rfl
   ·decide +kernel
   ·decide +kernel
   ·decide +kernel
  rw [this];exact ih fun s hs=>h s (by simp [hs])
theorem mat_awake (ss:List Int) (h:∀ s,s∈ss→s=1∨s=4∨s=5) (h5:(5:Int)∈ss):ss.foldl (matRow 4) [0,0,0,0]=[4,0,1,0]:=by
  induction ss with
  | nil=>simp at h5
  | cons s ss ih =>
    rw [List.foldl_cons]
    have hh:=fun s hs=>h s (List.mem_cons_of_mem _ hs)
    by_cases e:s=5
    · subst e
      have:matRow 4 [0,0,0,0] 5=[4,0,1,0]:=by decide +kernel
      rw [this]; exact mat_keep ss hh
    · have:matRow 4 [0,0,0,0] s=[0,0,0,0]:=by
        rcases h s (by simp) with rfl | rfl | rfl
        · decide +kernel
        · decide +kernel
        · exact absurd rfl e
      rw [this]
      exact ih hh (by rcases List.mem_cons.1 h5 with h | h; · exact absurd h.symm e
                      · exact h)
theorem ThreeW.mat {K:KV} {m r1 r2 f:Nat} {ss:List Int} (h:ThreeW K 4 m 0 2 r1 r2 f) (hu:K.Uni) (hS:SupL K K.roots ss):ss.foldl (matRow K.vars) (List.replicate K.vars 0)=[4,0,1,0]:=by
 have hk:=h.pl.ok;rw [h.pl.vr]
 have one:∀ (r:Nat) (s:Int),r∈K.roots->SupIs K r s->(s=1\/s=4\/s=5)/\(r=f->s=5):=by
  intro r s hr hs
  have hh:=KV.mem_roots.1 hr;obtain ⟨h2,ht⟩:=hk.wf.ht r hh;have c:=(h.tk r).1 ht
  have cf:r=f->s=5:=by
   rintro rfl
   rw [sup_and hk hu ht hs h.df (by omega) (by omega)];decide +kernel
  refine ⟨?_,cf⟩
  rcases c with c | c | c | c | c
  ·omega
  ·omega
  ·subst c;left
   rw [sup_var hk hu ht hs h.d1 (by omega)];decide +kernel
  ·subst c;right;left
   rw [sup_var hk hu ht hs h.d2 (by omega)];decide +kernel
  ·right;right;exact cf c
 refine mat_awake ss (fun s hs=>?_) ?_
 ·obtain ⟨i,hi⟩:=List.getElem?_of_mem hs
  have hl:i<ss.length:=by
   by_cases h:i<ss.length
   ·exact h
   ·rw [List.getElem?_eq_none (by omega)] at hi;cases hi
  have hr:K.roots[i]?=some (K.roots[i]'(by rw [<- hS.1];exact hl)):=List.getElem?_eq_getElem _;exact (one _ s (List.mem_of_getElem? hr) (hS.2 i _ s hr hi)).1
 ·have hf:f∈K.roots:=KV.mem_roots.2 (by rw [h.hf];omega)
  obtain ⟨i,hi⟩:=List.getElem?_of_mem hf
  have hl:i<K.roots.length:=by
   by_cases h:i<K.roots.length
   ·exact h
   ·rw [List.getElem?_eq_none (by omega)] at hi;cases hi
  have hs:ss[i]?=some (ss[i]'(by rw [hS.1];exact hl)):=List.getElem?_eq_getElem _;have:=(one f _ hf (hS.2 i f _ hi hs)).2 rfl
  rw [<- this];exact List.mem_of_getElem? hs
theorem Grow.inv {M:List Int} {n:Nat} {g z:Int} (h:Grow M n g z):((sweepTo M n g).2=false/\z=g)\/((sweepTo M n g).2=true/\Grow M n (sweepTo M n g).1 z):=by
 cases h with
 | done h=>exact .inl ⟨h,rfl⟩
 | more h k=>exact .inr ⟨h,k⟩
theorem GrR.inv {M:List Int} {n v:Nat} {d:Int} {gs:List Int} (h:GrR M n (v+1) d gs):(bitT d v=true/\GrR M n v d gs)\/∃ (d0 g:Int) (gs0:List Int),bitT d0 v=false/\GrR M n v d0 gs0/\Grow M n (IntKind.u64.wrap (2 ^ v)) g/\d=bits BinOp.or IntKind.u64 d0 g/\gs=gs0++[g]:=by
 cases h with
 | skip h hb=>exact .inl ⟨hb,h⟩
 | take h hb k=>exact .inr ⟨_,_,_,hb,h,k,rfl,rfl⟩
theorem GrR.inv0 {M:List Int} {n:Nat} {d:Int} {gs:List Int} (h:GrR M n 0 d gs):d=0/\gs=[]:=by
 cases h;exact ⟨rfl,rfl⟩
theorem groups_awake {d:Int} {gs:List Int} (h:GrR [4,0,1,0] 4 4 d gs):gs=[5,2,8]:=by
 have s1:sweepTo [4,0,1,0] 4 (IntKind.u64.wrap (2 ^ 0))=(5,true):=by decide +kernel
 have s5:sweepTo [4,0,1,0] 4 5=(5,false):=by decide +kernel
 have s2:sweepTo [4,0,1,0] 4 (IntKind.u64.wrap (2 ^ 1))=(2,false):=by decide +kernel
 have s8:sweepTo [4,0,1,0] 4 (IntKind.u64.wrap (2 ^ 3))=(8,false):=by decide +kernel
 have G1:∀ {d gs},GrR [4,0,1,0] 4 1 d gs->d=5/\gs=[5]:=by
  intro d gs h
  rcases h.inv with ⟨hb,h0⟩ | ⟨d0,g,gs0,hb,h0,k,rfl,rfl⟩
  ·obtain ⟨rfl,_⟩:=h0.inv0
   exact absurd hb (by decide +kernel)
  ·obtain ⟨rfl,rfl⟩:=h0.inv0
   rcases k.inv with ⟨k,_⟩ | ⟨_,k⟩
   ·rw [s1] at k;cases k
   ·rw [s1] at k
    rcases k.inv with ⟨_,rfl⟩ | ⟨k,_⟩
    ·exact ⟨by decide +kernel,rfl⟩
    ·rw [s5] at k;cases k
 have G2:∀ {d gs},GrR [4,0,1,0] 4 2 d gs->d=7/\gs=[5,2]:=by
  intro d gs h
  rcases h.inv with ⟨hb,h0⟩ | ⟨d0,g,gs0,hb,h0,k,rfl,rfl⟩
  ·obtain ⟨rfl,_⟩:=G1 h0
   exact absurd hb (by decide +kernel)
  ·obtain ⟨rfl,rfl⟩:=G1 h0
   rcases k.inv with ⟨_,rfl⟩ | ⟨k,_⟩
   ·exact ⟨by decide +kernel,by decide +kernel⟩
   ·rw [s2] at k;cases k
 have G3:∀ {d gs},GrR [4,0,1,0] 4 3 d gs->d=7/\gs=[5,2]:=by
  intro d gs h
  rcases h.inv with ⟨hb,h0⟩ | ⟨d0,g,gs0,hb,h0,k,rfl,rfl⟩
  ·exact G2 h0
  ·obtain ⟨rfl,rfl⟩:=G2 h0
   exact absurd hb (by decide +kernel)
 rcases h.inv with ⟨hb,h0⟩ | ⟨d0,g,gs0,hb,h0,k,rfl,rfl⟩
 ·obtain ⟨rfl,_⟩:=G3 h0
  exact absurd hb (by decide +kernel)
 ·obtain ⟨rfl,rfl⟩:=G3 h0
  rcases k.inv with ⟨_,rfl⟩ | ⟨k,_⟩
  ·decide +kernel
  ·rw [s8] at k;cases k
theorem ThreeW.free {K:KV} {m r1 r2 f:Nat} (h:ThreeW K 4 m 0 2 r1 r2 f) (hu:K.Uni):K.FreeUV ((0:Nat):Int) ((1:Nat):Int):=by
 have hk:=h.pl.ok
 have key:∀ r,K.A.tk r=true->K.vr r≠1:=by
  intro r ht e
  by_cases h2:2<=r
  ·obtain ⟨p,v,hp,hpt,hpv,hv,_⟩:=hk.wf.node_at h2 ht
   have e1:=KV.vr_at hp;have hh:=hk.hangs_of hu ht (.refl h2) hp;rw [hpv] at e1 hh
   simp only [Int.toNat_natCast] at hh
   have hv1:v=1:=by omega
   subst hv1
   rcases (h.tk r).1 ht with c | c | c | c | c
   ·omega
   ·omega
   ·subst c;have:=(Hangs.var h.d1 1).1 hh;omega
   ·subst c;have:=(Hangs.var h.d2 1).1 hh;omega
   ·subst c;have:=(Hangs.and h.df 1).1 hh;omega
  ·obtain ⟨p,hp,hpt⟩:=ArenaV.tk_iff.1 ht
   have e1:=KV.vr_at hp;have:=hk.wf.const_var (by omega) hp;omega
 rintro r p h2 hp hpt ⟨_,hh⟩;have hcl:=hk.wf.cl r p h2 hp hpt
 rcases hh with hh | hh
 ·exact key _ hcl.1 hh
 ·exact key _ hcl.2 hh
theorem Plain.order {K:KV} {n m l:Nat} (h:Plain K n m) (hl:l<n):K.order.getD l 0=l:=by
 have h1:=h.ok.ord.pm.oo l (by rw [h.vr];exact hl);have h2:=h.lv (K.order.getD l 0) (by rw [<- h.vr];exact h1.1);omega
theorem awake14_spec (w:World):Calls Tryz.prog 53 #[] w fun e w'=>e=.returned (.bool true)/\Upd [] w w':=by
 have HROW:Hid (∀ (w:World) (vs:Array Value) (n:Nat),vs.size=n->n<=100->(w.alloc (.cells vs 96 (0,0))).ownsRow 0 96 1 (.slice (some ⟨w.heap.size,0,none⟩) n n) n vs.toList):=fun w vs n h1 h2 =>
  World.ownsRow_lit (base:=0) (e:=96) (size:=1) w vs n (Nat.zero_le _) (by unfold maxLen;omega) (by omega)
 go_enter Tryz.func53,Tryz.ntmps53
 go_wp2_with fail;refine (knew_spec 4 20 w (by omega) (by omega) (by omega) (by omega)).mono ?_;rintro e w1 ⟨b,T,q,rfl,hk,hu,hs⟩;have H1:=Lib.hid (And.intro hk (And.intro hu hs));clear hk hu hs;go_wp2_with fail;refine (var_live b 0 _ T q w1 H1.out.1).mono ?_;rintro e w2 hE;obtain ⟨r1,c1,K1,T1,q1,rfl,M1,hk,hu,hs⟩:=hE.ex;have H2:=Lib.hid (And.intro M1 (And.intro hk (And.intro (H1.out.2.1.then hu fun x hx=>(H1.out.2.2 x hx)) (sub_trans H1.out.2.2 hs H1.out.2.1.size))));clear hE M1 hk hu hs;go_wp2_with fail;refine (var_live b 2 _ T1 q1 w2 H2.out.2.1).mono ?_;rintro e w3 hE;obtain ⟨r2,c2,K2,T2,q2,rfl,M2,hk,hu,hs⟩:=hE.ex;obtain ⟨rfl,rfl,hT⟩:=two_vars2 (a:=0) (b:=2) (by omega) (by omega) (by omega) (by omega) H2.out.2.1.ok (H2.out.2.1.ti.uni H2.out.2.1.ok.wf) hk.ok (hk.ti.uni hk.ok.wf) H2.out.1 M2;have H3:=Lib.hid (And.intro hT (And.intro hk (And.intro (H2.out.2.2.1.then hu fun x hx=>(H2.out.2.2.2 x hx)) (sub_trans H2.out.2.2.2 hs H2.out.2.2.1.size))));clear hE M2 hk hu hs hT;go_wp2_with fail;refine (and_live b r1 r2 K2 T2 q2 w3 H3.out.2.1 ((H3.out.1.tk r1).2 (by simp)) ((H3.out.1.tk r2).2 (by simp))).mono ?_;rintro e w4 hE;obtain ⟨f,c3,K3,T3,q3,rfl,O3,hk,hu,hs⟩:=hE.ex;obtain ⟨rfl,hN⟩:=H3.out.1.and (by omega) hk.ok (hk.ti.uni hk.ok.wf) O3;have H4:=Lib.hid (And.intro hN (And.intro hk (And.intro (H3.out.2.2.1.then hu fun x hx=>(H3.out.2.2.2 x hx)) (sub_trans H3.out.2.2.2 hs H3.out.2.2.1.size))));have hf2:=hN.f2
 have hgt:(1:Int)<(f:Int):=by omega
 have hgt2:¬ ((f:Int)<=1):=by omega
 clear hE O3 hk hu hs hN;go_wp2_with fail;refine (free_spec b 0 K3 T3 q3 w4 H4.out.2.1 (by rw [H4.out.1.pl.vr];omega) 0 1 (H4.out.1.pl.order (by omega)) (H4.out.1.pl.order (by omega))).mono ?_;rintro e w5 hE;obtain ⟨fr,rfl,hfr,hu⟩:=hE.ex;have hfr1:fr=true:=hfr.2 (H4.out.1.free (H4.out.2.1.ti.uni H4.out.2.1.ok.wf));clear hfr;have H5:=Lib.hid (And.intro (H4.out.2.1.upd hu (by simp)) (H4.out.2.2.1.then hu (by simp)));clear hE hu;go_wp2_with fail;refine (matrix_spec b K3 T3 q3 w5 H5.out.1).mono ?_;rintro e w6 ⟨g,ss,rfl,hS,hM⟩;rw [H4.out.1.mat (H4.out.2.1.ti.uni H4.out.2.1.ok.wf) hS,H4.out.1.pl.vr] at hM;rw [H4.out.1.pl.vr];have H6:=Lib.hid hM;clear hS hM;go_wp2_with fail;refine (sets_spec _ _ _ 0 [4,0,1,0] [4,0,1,0] _ (H6.out.row.alloc _) (HROW.out w6 _ _ rfl (by decide)) (by simp) (by simp)).mono ?_;rintro e w7 ⟨rfl,hu⟩;have H7:=Lib.hid (And.intro (H5.out.1.upd ((H6.out.up.alloc _).trans hu) (by simp)) (H5.out.2.then ((H6.out.up.alloc _).trans hu) (by simp)));clear hu
 simp only [decide_true]
 go_wp2_with fail;refine (groups_spec b K3 T3 q3 w7 H7.out.1).mono ?_;rintro e w8 hE;obtain ⟨lv,ss,d,gs,rfl,hS,hG,hrow,hu⟩:=hE.ex;rw [H4.out.1.mat (H4.out.2.1.ti.uni H4.out.2.1.ok.wf) hS,H4.out.1.pl.vr] at hG;obtain rfl:=groups_awake hG;have H8:=Lib.hid (And.intro hrow (H7.out.2.then hu (by simp)));clear hE hS hG hrow hu;go_wp2_with fail;refine (sets_spec _ _ _ 0 [5,2,8] [5,2,8] _ (H8.out.1.alloc _) (HROW.out w8 _ _ rfl (by decide)) (by simp) (by simp)).mono ?_;rintro e w9 ⟨rfl,hu⟩;have H9:=Lib.hid ((H8.out.2.alloc _).then hu (by simp));clear hu
 simp only [decide_true]
 go_wp2_with fail;go_ret;exact ⟨rfl,H9.out⟩
end Go.Proofs.YtpfafhmkbcahhaaGreat
namespace Go.Proofs.YtpfafhmkbcahhaaGreat
theorem mix_mix (K:KV) {l i:Nat} (h:l<=i) (a c y:Nat->Bool):K.mix l a (K.mix i c y)=K.mix i (K.mix l a c) y:=by
 funext v
 simp only [KV.mix]
 by_cases h1:v<K.vars/\K.lev v<l
 ·rw [if_pos h1,if_pos ⟨h1.1,by omega⟩,if_pos h1]
 ·rw [if_neg h1]
  by_cases h2:v<K.vars/\K.lev v<i
  ·rw [if_pos h2,if_pos h2,if_neg h1]
  ·rw [if_neg h2,if_neg h2]
end Go.Proofs.YtpfafhmkbcahhaaGreat
namespace Go.Proofs.YtpfafhmkbcahhaaGreat
open Go.RowKit Go.Maps Go.ChangeMaps Go.WideShapes
theorem Upd.cell0 {w w':World} (u:Upd [] w w') {a:Addr} {v:Value} (h:w.cell? a=some v):w'.cell? a=some v:=(u.cell (World.block_lt_of_cell? _ _ h) (by simp)).trans h
structure MV where
 n:Nat
 c:Nat
 order:List Nat
 held:List (TV × Nat)
 trail:List Nat
theorem drop_at (b r:Nat) (K:KV) (F:List Nat) (w:World) (h:KerAt w b K F) (hr:r<=4294967295) (hh:2<=r->0<K.hold r) :
  Calls Tryz.prog 147 #[.pointer (some ⟨b,0,none⟩),.int .u32 r] w fun e w' =>
   ∃ (K':KV) (F':List Nat),e=.returned (.int .i64 0)/\K.Dropped r K'/\KerAt w' b K' F'/\Upd F w w'/\Sub F w F':=by
 obtain ⟨T,q,hk,rfl⟩:=h;refine (drop_spec b r K T q w hk hr).mono ?_;rintro e w' ⟨code,K',T',q',rfl,hM,hk',hu,hs⟩
 rcases hM with ⟨_,h2,h0,_⟩ | ⟨rfl,_,hD⟩
 ·have:=hh h2;omega
 ·exact ⟨K',_,rfl,hD,⟨T',q',hk',rfl⟩,hu,hs⟩
structure Same (K:KV) (M:MV):Prop where
 od:M.order=K.order
 n:M.n=K.vars
end Go.Proofs.YtpfafhmkbcahhaaGreat
namespace Go.Proofs.YtpfafhmkbcahhaaGreat
open Go.RowKit Go.Maps Go.ChangeMaps Go.WideShapes Go.Shelf
attribute [local go_sem] Oper.semAt_some
structure Came (D:DM) (left:Lit->Bool) (ps:List (Lit × Int)):Prop where
 nd:(ps.map (·.1)).Nodup
 at_:∀ p,p∈ps->∀ z,D.atKey p.1 z=.lit (.int .u32 p.2)
 mem:∀ k,k∈ps.map (·.1)↔(Maps.has D k=true/\left k=false)
theorem Came.start (D:DM):Came D (Maps.has D) []:=⟨by simp,by simp,fun k=>by cases Maps.has D k <;> simp⟩
theorem Came.step {D:DM} {left:Lit->Bool} {ps:List (Lit × Int)} (h:Came D left ps) {k:Lit} {c:Int} (hk:WideAt.IsKeyLit k) (hl:left k=true) (hat:∀ z,D.atKey k z=.lit (.int .u32 c)):Came D (fun z=>left z&&!z.sameKey k) (ps++[(k,c)]):=by
 have hh:Maps.has D k=true:=has_true_of_atKey hat;refine ⟨?_,fun p hp=>?_,fun z=>?_⟩
 ·rw [List.map_append,List.nodup_append]
  refine ⟨h.nd,by simp,fun a ha b hb=>?_⟩
  simp at hb;subst hb
  rintro rfl;have:=((h.mem a).1 ha).2
  rw [hl] at this;cases this
 ·rcases List.mem_append.1 hp with hp | hp
  ·exact h.at_ p hp
  ·simp at hp;subst hp;exact hat
 ·rw [List.map_append,List.mem_append,h.mem]
  by_cases e:z=k
  ·subst e;simp [hh,WideAt.sameKey_self hk]
  ·simp [e,sameKey_ne e]
def AllVals (D:DM) (l:List Int):Prop:=∃ ps:List (Lit × Int),(ps.map (·.1)).Nodup/\(∀ p,p∈ps->∀ z,D.atKey p.1 z=.lit (.int .u32 p.2))/\(∀ k,k∈ps.map (·.1)↔Maps.has D k=true)/\l=ps.map (·.2)
theorem Came.all {D:DM} {left:Lit->Bool} {ps:List (Lit × Int)} (h:Came D left ps) (hl:∀ k,left k=false):AllVals D (ps.map (·.2)):=⟨ps,h.nd,h.at_,fun k=>by rw [h.mem,hl];simp,rfl⟩
theorem key_isKey {key:Value} {kl:Lit} (h:keyOf Tryz.prog 115 key=some kl):WideAt.IsKeyLit kl:=by
 unfold keyOf at h;rw [Tryz.underlying115] at h
 simp at h
 obtain ⟨_,ls,_,rfl⟩:=h
 trivial
theorem values1_in (n:Nat) (hn:1<=n) (l Bm b nn:Nat) (D:DM) (J Jx:List Int->World->Prop)
  (hY:∀ pre x W,J pre W->pre.length<Maps.size D->YieldAt Fence.wide (n-1) Tryz.prog l #[.int .u32 x] W fun e W' =>
   (e=.returned (.bool true)/\J (pre++[x]) W'/\KeepsWalks W W')\/(e=.returned (.bool false)/\Jx (pre++[x]) W'))
  (W:World) (hJ:AbidesFrom W.heap.size J) (hm:W.cell? ⟨Bm,0,none⟩=some (.map (some b))) (hown:W.ownsMap Tryz.prog 115 (plainElem Tryz.prog 54) b nn D) (h0:J [] W) :
  CallsIn Fence.wide n Tryz.prog 251 #[.func (.yield l) #[] #[],.pointer (some ⟨Bm,0,none⟩)] W fun e W'=>(∃ v,e=.returned v) /\
   ((∃ xs,AllVals D xs/\J xs W')\/(∃ pre,True/\Jx pre W')):=by
 refine callsIn_of_wp Tryz.func251 rfl trivial ?_ rfl
 simp only [Tryz.ntmps251,List.size_toArray,List.length_cons,List.length_nil,Nat.reduceAdd,Nat.reduceSub,Array.replicate_succ,Array.replicate_zero,List.push_toArray,List.append_toArray,List.nil_append,List.cons_append]
 gi_wp2_with (first
  | (gi_at_range;refine wpListIn_range_own _ rfl _ 284 rfl 115 54 nodeKeyed Tryz.underlying284 _ b nn _ rfl hown ?_;intro w0 hrg0 hg0 hs0)
  | gi_in)
 go_frame
 gi_loopw [4] (fun _ wr=>∃ (left:Lit->Bool) (cnt:Nat) (ps:List (Lit × Int)),wr.ranges Tryz.prog 115 (plainElem Tryz.prog 54) b W.heap.size nn D left cnt/\ps.length+cnt<=Maps.size D/\Came D left ps/\J (ps.map (·.2)) wr)
  (fun _ wr=>wr.rangeLeft b W.heap.size)
 case atStart =>
  exact ⟨_,_,[],hrg0,by simp,Came.start D,hJ [] W w0 none h0 hg0 (fun r e=>by cases e)⟩
 case round =>
  obtain ⟨left,cnt,ps,hrg,hcs,hC,hJs⟩:=hrel
  gi_wp2_with (first
   | (gi_at_next;refine wpListIn_next_ranges _ rfl _ rfl 115 nodeKeyed (plainElem Tryz.prog 54) id (Value.int .u32) (fun key kl hk=>⟨key,rfl⟩) (fun v y hv=>by obtain ⟨c,rfl,_⟩:=plainElem_int_inv Tryz.underlying54 hv;exact ⟨c,rfl⟩) b W.heap.size nn _ _ _ rfl hrg ?_ ?_)
   | gi_in)
  ·intro hc0 hl0
   gi_wp2
   go_end0;exact ⟨⟨_,rfl⟩,.inl ⟨_,hC.all hl0,hJs⟩⟩
  ·intro x c kl yd yp w2 cnt2 hkey hlk hv hat hrg2 hlt hg2 hs2 hen
   obtain ⟨c',ec,ez,_⟩:=plainElem_int_inv Tryz.underlying54 hv
   obtain rfl:c=c':=by simpa using ec
   obtain rfl:yd=.lit (.int .u32 c):=(Prod.mk.inj ez).1;have hJ2:J (ps.map (·.2)) w2:=hJ _ wr w2 (some W.heap.size) hJs hg2 (fun r e=>by cases e;exact ⟨Nat.le_refl _,hrg.iter_walk⟩);obtain ⟨fn,tmps,assign,body,hy,hR⟩:=hY (ps.map (·.2)) c w2 hJ2 (by simp;omega);clear hs2
   gi_wp2
   refine hR.mono ?_;have hC2:=hC.step (key_isKey hkey) hlk hat;rintro e W3 (⟨rfl,hJ3,hk3⟩ | ⟨rfl,hJx3⟩)
   ·gi_wp2
    have hrg3:=hrg2.of_walks hk3
    go_roundw
    case rel=>exact ⟨_,cnt2,ps++[(kl,c)],hrg3,by simp;omega,hC2,by simpa using hJ3⟩
    case measure=>rw [hrg3.left_eq,hrg.left_eq];exact hlt
   ·gi_wp2
    refine bodyPost_ret (results_none rfl _ _ _) rfl ?_;exact ⟨⟨_,rfl⟩,.inr ⟨_,trivial,hJx3⟩⟩
theorem values_in (n:Nat) (mb:Option Nat) (w:World) :
  CallsIn Fence.wide n Tryz.prog 248 #[.map mb] w fun e w'=>e=.returned (.func (.func 251) #[] #[.pointer (some ⟨w.heap.size,0,none⟩)])/\w'=w.alloc (.cells #[.map mb] 284):=by
 refine callsIn_of_wp Tryz.func248 rfl trivial ?_ rfl
 simp only [Tryz.ntmps248,List.size_toArray,List.length_cons,List.length_nil,Nat.reduceAdd,Nat.reduceSub,Array.replicate_succ,Array.replicate_zero,List.push_toArray,List.append_toArray,List.nil_append,List.cons_append]
 gi_wp2
 go_ret;exact ⟨rfl,rfl⟩
theorem values_stops (n:Nat) (hn:1<=n) (Bm b nn:Nat) (D:DM) (w:World) (hBm:Bm<w.heap.size) (hm:w.cell? ⟨Bm,0,none⟩=some (.map (some b))) (hown:w.ownsMap Tryz.prog 115 (plainElem Tryz.prog 54) b nn D) :
  SeqStopsK Fence.wide n Tryz.prog 251 #[.pointer (some ⟨Bm,0,none⟩)] (fun x:Int=>#[Value.int .u32 x]) KeepsWalks (AllVals D) (fun _=>True) (Maps.size D) w:=fun l J Jx W hW hJ _ hY h0=>by
 have hown':W.ownsMap Tryz.prog 115 (plainElem Tryz.prog 54) b nn D:=own_keep hown (hW.block b hown.lt);exact values1_in n hn l Bm b nn D J Jx hY W hJ ((hW.cell (p:=⟨Bm,0,none⟩) hBm).trans hm) hown' h0
attribute [local go_sem] Oper.semAt_some
theorem Tryz.infoRefE:(Tryz.prog.info? 54).map (fun i=>(i.zero,i.size,i.bytes))=some (some (.int .u32 0),1,4):=by kernel_rfl
structure GatherQ (D:DM) (n0:Nat) (w:World) (e:Ending) (w':World):Prop where
 ex:∃ (v:Value) (l:List Int),e=.returned v/\AllVals D l/\w'.ownsRow n0 54 1 v l.length (l.map (Value.int .u32))/\Below w.heap.size w w'
theorem appendSeq_in (n:Nat) (hn:3<=n) (Bm b nn:Nat) (D:DM) (w:World) (hBm:Bm<w.heap.size) (hm:w.cell? ⟨Bm,0,none⟩=some (.map (some b))) (hown:w.ownsMap Tryz.prog 115 (plainElem Tryz.prog 54) b nn D) (hsz:Maps.size D<=1048576) :
  CallsIn Fence.wide n Tryz.prog 252 #[.slice none 0 0,.func (.func 251) #[] #[.pointer (some ⟨Bm,0,none⟩)]] w fun e w'=>GatherQ D w.heap.size w e w':=by
 have h1:1<=n:=by omega
 obtain ⟨i0,hi,hz0,hz1,hz2⟩:=info_parts Tryz.infoRefE;refine callsIn_of_wp_marks Tryz.func252 rfl trivial ?_ rfl
 simp only [Tryz.ntmps252,List.size_toArray,List.length_cons,List.length_nil,Nat.reduceAdd,Nat.reduceSub,Array.replicate_succ,Array.replicate_zero,List.push_toArray,List.append_toArray,List.nil_append,List.cons_append]
 gi_wp2
 have bO:=Boxed.new w 28 (.slice none 0 0);have hB0:Below w.heap.size w (w.alloc (.cells #[.slice none 0 0] 28)):=(Below.refl _ w).alloc (Nat.le_refl _) _;have hm1:(w.alloc (.cells #[.slice none 0 0] 28)).cell? ⟨Bm,0,none⟩=some (.map (some b)):=(hB0.cell (p:=⟨Bm,0,none⟩) hBm).trans hm;have hown1:(w.alloc (.cells #[.slice none 0 0] 28)).ownsMap Tryz.prog 115 (plainElem Tryz.prog 54) b nn D:=own_keep hown (hB0.block b hown.lt)
 refine wpIn_rangeFunc_ownG rfl h1 (gf:=251) (lb:=#[.pointer (some ⟨Bm,0,none⟩)]) rfl trivial (enters_of Tryz.func251 (by kernel_rfl) rfl)
  (values_stops (n-1) (by omega) Bm b nn D _ (by simp;omega) hm1 hown1) walksK_t walksK_b (Below.refl _ _) (fun _=>rfl)
  (fun pre W=>(∃ v,Boxed W w.heap.size 28 v/\W.ownsRow w.heap.size 54 1 v pre.length (pre.map (Value.int .u32))/\True)/\Below w.heap.size w W)
  (fun _ _ _=>False)
  (OwnFrom.and (Own.from (holdsRow_own w.heap.size w.heap.size 28 54 1 (fun pre:List Int=>pre.length) (fun pre=>pre.map (Value.int .u32)) (fun _ _=>True)) _) (ownFrom_below (Nat.le_refl _) (by simp)))
  (fun _ _ _ _ _ hs _ _=>hs)
  ⟨⟨_,bO,World.ownsRow_nil _ _ _ _,trivial⟩,hB0⟩
  (fun x=>{ tmps:=#[.slice none 0 0,.func (.func 251) #[] #[.pointer (some ⟨Bm,0,none⟩)],.pointer (some ⟨w.heap.size,0,none⟩),undef,.slice none 0 0,.int .u32 x,.func (.func 251) #[] #[.pointer (some ⟨Bm,0,none⟩)],.int .u32 x,undef,undef,undef,undef,undef],defers:=[] }) ?assign ?body ?done ?stop
 case assign =>
  intro l x W K hK
  gi_wp2
  exact hK
 case body =>
  rintro l pre x W ⟨⟨v,hv,hrow,_⟩,hB⟩ hlt;have hc:=hv.cell
  gi_wp2_with (gi_at_builtin;refine wpListIn_append_own _ rfl _ _ 28 rfl w.heap.size 54 i0 (.int .u32 0) 1 4 Tryz.underlying28 hi hz0 hz1 hz2 rfl (by decide) _ _ _ rfl (hrow.alloc _) ⟨W.heap.size,0,none⟩ 1 1 [.int .u32 x] rfl rfl (cell_one_new _ _ _) (by simp [Value.oneCell']) (by unfold maxLen;omega) (by omega) (by have:=hB.size;simp;omega) ?_;intro v' w1 hown' hgrow _;obtain ⟨g',cap',rfl⟩:=ownsRow_succ hown';obtain ⟨hv1,hv2,hr2,hk2,hb2⟩:=hv.appended (by decide) hrow hB.size (Nat.le_refl _) hown' hgrow;have hc1:=hv1.cell;have hf1:=hv1.frozen)
  exact ⟨hk2.from _,hk2.walks,⟨_,hv2,by simpa using hr2,trivial⟩,hB.trans hb2⟩
 case done =>
  rintro Dd ys W hD hys ⟨⟨v,hv,hrow,_⟩,hB⟩ hK;have hc:=hv.cell
  gi_wp2
  refine ⟨by simp,.inl ⟨_,_,rfl,run_takeDeferred hK,?_⟩⟩;exact ⟨_,results_tmp rfl _ _ _,v,ys,rfl,hys,ownsRow_putObj hrow _ hK rfl,hB.trans (belowK_b (w:=w) (Nat.le_refl _) W Dd _ _ (by simp at hD;omega) hK rfl rfl)⟩
 case stop =>
  rintro Dd c pre W _ _ h _;exact h.elim
theorem collect_in (n:Nat) (hn:4<=n) (Bm b nn:Nat) (D:DM) (w:World) (hBm:Bm<w.heap.size) (hm:w.cell? ⟨Bm,0,none⟩=some (.map (some b))) (hown:w.ownsMap Tryz.prog 115 (plainElem Tryz.prog 54) b nn D) (hsz:Maps.size D<=1048576) :
  CallsIn Fence.wide n Tryz.prog 249 #[.func (.func 251) #[] #[.pointer (some ⟨Bm,0,none⟩)]] w fun e w'=>GatherQ D w.heap.size w e w':=by
 refine callsIn_of_wp Tryz.func249 rfl trivial ?_ rfl
 simp only [Tryz.ntmps249,List.size_toArray,List.length_cons,List.length_nil,Nat.reduceAdd,Nat.reduceSub,Array.replicate_succ,Array.replicate_zero,List.push_toArray,List.append_toArray,List.nil_append,List.cons_append]
 gi_wp2
 refine ⟨trivial,fun _=>by omega,?_⟩;refine (appendSeq_in (n-1) (by omega) Bm b nn D _ hBm hm hown hsz).mono ?_;rintro e w' hE;obtain ⟨v,l,rfl,hl,hr,hB⟩:=hE.ex;clear hE
 gi_wp2
 go_ret;exact ⟨v,l,rfl,hl,hr,hB⟩
end Go.Proofs.YtpfafhmkbcahhaaGreat
