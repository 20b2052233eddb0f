import Derived.Test.YtlkgkojidclncaaGreatTB12
import Derived.Test.YtlkgkojidclncaaGreatTB11
import Derived.Deep.RegionHeld3
set_option maxRecDepth 100000
namespace Go.Proofs.YtlkgkojidclncaaGreat
open Go.RowKit Go.Maps Go.ChangeMaps Go.WideShapes
def nb (x:Int) (i:Nat):Bool:=x.toNat.testBit i
theorem toNat_bv {x:Int} (h:U64 x):(BitVec.ofInt 64 x).toNat=x.toNat:=by
 unfold U64 at h;rw [BitVec.toNat_ofInt]
 have:x % (2 ^ 64:Nat)=x:=by omega
 rw [this]
theorem nb_bv {x:Int} (h:U64 x) (i:Nat):nb x i=(BitVec.ofInt 64 x).getLsbD i:=by
 unfold nb;rw [<- toNat_bv h,BitVec.testBit_toNat]
theorem nb_of_bv (B:BitVec 64) (i:Nat):nb ((B.toNat:Int) % 18446744073709551616) i=B.getLsbD i:=by
 have h:=B.isLt
 have:((B.toNat:Int) % 18446744073709551616).toNat=B.toNat:=by omega
 unfold nb;rw [this,BitVec.testBit_toNat]
theorem nb_or {x y:Int} (hx:U64 x) (hy:U64 y) (i:Nat):nb (bits BinOp.or IntKind.u64 x y) i=(nb x i||nb y i):=by
 rw [nb_bv hx,nb_bv hy,<- BitVec.getLsbD_or];exact nb_of_bv (BitVec.ofInt 64 x ||| BitVec.ofInt 64 y) i
theorem nb_and {x y:Int} (hx:U64 x) (hy:U64 y) (i:Nat):nb (bits BinOp.and IntKind.u64 x y) i=(nb x i&&nb y i):=by
 rw [nb_bv hx,nb_bv hy,<- BitVec.getLsbD_and];exact nb_of_bv (BitVec.ofInt 64 x &&& BitVec.ofInt 64 y) i
theorem nb_pow {n:Nat} (hn:n<64) (i:Nat):nb (IntKind.u64.wrap (2 ^ n)) i=decide (n=i):=by
 have e:IntKind.u64.wrap ((2:Int) ^ n)=(2:Int) ^ n % 18446744073709551616:=rfl;have h1:(2:Nat) ^ n<2 ^ 64:=Nat.pow_lt_pow_right (by omega) hn
 have h2:((2:Int) ^ n)=((2 ^ n:Nat):Int):=by push_cast;rfl
 have h3:((2:Int) ^ n % 18446744073709551616).toNat=2 ^ n:=by rw [h2];generalize (2:Nat) ^ n=m at h1 ⊢;omega
 rw [e];unfold nb;rw [h3,Nat.testBit_two_pow]
theorem nb_zero (i:Nat):nb 0 i=false:=by simp [nb]
theorem nb_ext {x y:Int} (hx:U64 x) (hy:U64 y) (h:∀ i,i<64->nb x i=nb y i):x=y:=by
 have:x.toNat=y.toNat:=by
  apply Nat.eq_of_testBit_eq
  intro i
  by_cases hi:i<64
  ·exact h i hi
  ·have l:∀ z:Int,U64 z->z.toNat.testBit i=false:=fun z hz=>by
    apply Nat.testBit_lt_two_pow
    have h1:(2:Nat) ^ 64<=2 ^ i:=Nat.pow_le_pow_right (by omega) (by omega)
    unfold U64 at hz;omega
   rw [l x hx,l y hy]
 unfold U64 at hx hy;omega
theorem bitT_nb {x:Int} (hx:U64 x) (v:Nat):bitT x v=nb x v:=by
 obtain ⟨n,rfl⟩ : ∃ n:Nat,x=(n:Int):=⟨x.toNat,by unfold U64 at hx;omega⟩
 have hn:n<18446744073709551616:=by unfold U64 at hx;omega
 have e:((n:Int)/2 ^ v)=((n/2 ^ v:Nat):Int):=by push_cast;rfl
 have hu:U64 ((n:Int)/2 ^ v):=by
  rw [e];have:=Nat.div_le_self n (2 ^ v);generalize n/2 ^ v=m at this ⊢;unfold U64;omega
 have h1:U64 1:=by unfold U64;omega
 have hbit:nb ((n:Int)/2 ^ v) 0=nb (n:Int) v:=by
  rw [e];unfold nb
  simp only [Int.toNat_natCast]
  rw [Nat.testBit_div_two_pow,Nat.zero_add]
 have h2:∀ i,nb (bits BinOp.and IntKind.u64 ((n:Int)/2 ^ v) 1) i=(nb ((n:Int)/2 ^ v) i&&decide (i=0)):=fun i=>by
  rw [nb_and hu h1]
  congr 1
  have:nb 1 i=decide (0=i):=nb_pow (n:=0) (by omega) i
  rw [this];by_cases h:i=0 <;> simp [h];omega
 have hW:=bits_u64 BinOp.and ((n:Int)/2 ^ v) 1;unfold bitT
 cases hb:nb (n:Int) v with
 | true =>
  have:bits BinOp.and IntKind.u64 ((n:Int)/2 ^ v) 1=1:=nb_ext hW h1 fun i _=>by
   have e1:nb 1 i=decide (0=i):=nb_pow (n:=0) (by omega) i;rw [h2,e1]
   by_cases h:i=0
   ·subst h;rw [hbit,hb];rfl
   ·simp [h];omega
  rw [this];rfl
 | false =>
  have:bits BinOp.and IntKind.u64 ((n:Int)/2 ^ v) 1=0:=nb_ext hW (by unfold U64;omega) fun i _=>by
   rw [h2,nb_zero]
   by_cases h:i=0
   ·subst h;rw [hbit,hb];rfl
   ·simp [h]
  rw [this];rfl
theorem WalkL.one {K:KV} {r:Nat} {N:List Nat} (h:WalkL K [] [r] N):WalkN K [] r N:=by
 cases h with
 | cons h t=>cases t;simpa using h
theorem KV.Under.node {K:KV} {P:List Nat} (hw:K.Wf P) {r x:Nat} (ht:K.A.tk r=true) (h:K.Under r x):2<=x/\K.A.tk x=true:=by
 induction h with
 | refl h=>exact ⟨h,ht⟩
 | lo _ hp h2 ih =>
  obtain ⟨p',hp',hpt'⟩:=ArenaV.tk_iff.1 ih.2
  rw [hp] at hp';cases hp'
  exact ⟨h2,(hw.cl _ _ ih.1 hp hpt').1⟩
 | hi _ hp h2 ih =>
  obtain ⟨p',hp',hpt'⟩:=ArenaV.tk_iff.1 ih.2
  rw [hp] at hp';cases hp'
  exact ⟨h2,(hw.cl _ _ ih.1 hp hpt').2⟩
theorem WalkN.mem {K:KV} {r x:Nat} {N:List Nat} (h:WalkN K [] r N):x∈N↔K.Under r x:=by
 refine ⟨h.under x,fun hu=>?_⟩
 induction hu with
 | refl h2=>simpa using h.has h2
 | lo _ hp h2 ih =>
  rcases (h.kids _ _ ih hp).1 with h3 | h3
  ·omega
  ·simpa using h3
 | hi _ hp h2 ih =>
  rcases (h.kids _ _ ih hp).2 with h3 | h3
  ·omega
  ·simpa using h3
theorem KV.Ok.kid_den {K:KV} (hk:K.Ok) {x:Nat} {p:PlaceV} (h2:2<=x) (hp:K.A.list[x]?=some p) (hpt:p.taken=true) (b:Bool) (y:Nat->Bool):K.den (if b then p.hi else p.lo) y=K.den x (upd y p.var.toNat b):=by
 cases b with
 | true=>exact (KV.den_hi hk.wf hk.ord h2 hp hpt y).symm
 | false=>exact (KV.den_lo hk.wf hk.ord h2 hp hpt y).symm
theorem KV.Ok.mix_kid {K:KV} (hk:K.Ok) {r x:Nat} {p:PlaceV} (h2:2<=x) (hp:K.A.list[x]?=some p) (hpt:p.taken=true) (b:Bool) {a:Nat->Bool} (ha:∀ y,K.den x y=K.den r (K.mix (K.dep x) a y)) :
  ∃ a',∀ y,K.den (if b then p.hi else p.lo) y=K.den r (K.mix (K.dep (if b then p.hi else p.lo)) a' y):=by
 have hvr:=hk.wf.vr x p h2 hp hpt;have hb:=hk.ord.below hk.wf h2 hp hpt;have hcl:=hk.wf.cl x p h2 hp hpt
 have hdx:K.dep x=K.lev p.var.toNat:=by simp [KV.dep,hp,hvr.1]
 have hvl:p.var.toNat<K.vars:=by omega
 generalize hc:(if b then p.hi else p.lo)=c
 have htc:K.A.tk c=true:=by
  subst hc;cases b
  ·exact hcl.1
  ·exact hcl.2
 have hdc:K.dep x<K.dep c:=by
  subst hc;cases b
  ·exact hb.1
  ·exact hb.2
 refine ⟨upd a p.var.toNat b,fun y=>?_⟩
 have e1:K.den c y=K.den c (K.mix (K.dep c) (upd a p.var.toNat b) y):=KV.den_same hk.wf hk.ord _ c _ _ htc (Nat.le_refl _) fun u hu hd=>by
  simp only [KV.mix];rw [if_neg (by omega)]
 rw [e1,<- hc,hk.kid_den h2 hp hpt,ha,hc]
 congr 1
 funext u
 simp only [KV.mix,upd]
 by_cases hu:u<K.vars
 ·by_cases h3:u=p.var.toNat
  ·subst h3
   simp only [hu,true_and,if_true]
   rw [if_neg (by omega),if_pos (by omega)]
  ·simp only [hu,true_and,h3,if_false]
   by_cases h4:K.lev u<K.dep x
   ·rw [if_pos h4,if_pos (by omega)]
   ·rw [if_neg h4]
 ·have h3:u≠p.var.toNat:=by omega
  simp [hu,h3]
theorem KV.Ok.mix_under {K:KV} (hk:K.Ok) {r x:Nat} (ht:K.A.tk r=true) (h:K.Under r x):∃ a,∀ y,K.den x y=K.den r (K.mix (K.dep x) a y):=by
 induction h with
 | refl h=>exact ⟨fun _=>false,fun y=>KV.den_same hk.wf hk.ord _ r _ _ ht (Nat.le_refl _) fun u hu hd=>by
   simp only [KV.mix];rw [if_neg (by omega)]⟩
 | lo h hp h2 ih =>
  obtain ⟨a,ha⟩:=ih;have hn:=h.node hk.wf ht;obtain ⟨p',hp',hpt'⟩:=ArenaV.tk_iff.1 hn.2
  rw [hp] at hp';cases hp'
  exact hk.mix_kid hn.1 hp hpt' false ha
 | hi h hp h2 ih =>
  obtain ⟨a,ha⟩:=ih;have hn:=h.node hk.wf ht;obtain ⟨p',hp',hpt'⟩:=ArenaV.tk_iff.1 hn.2
  rw [hp] at hp';cases hp'
  exact hk.mix_kid hn.1 hp hpt' true ha
def Hangs (t:(Nat->Bool)->Bool) (v:Nat):Prop:=∃ y,t (upd y v true)≠t (upd y v false)
theorem KV.Ok.hangs_of {K:KV} (hk:K.Ok) (hu:K.Uni) {r x:Nat} {p:PlaceV} (ht:K.A.tk r=true) (h:K.Under r x) (hp:K.A.list[x]?=some p):Hangs (K.den r) p.var.toNat:=by
 have hn:=h.node hk.wf ht;obtain ⟨p',hp',hpt⟩:=ArenaV.tk_iff.1 hn.2
 rw [hp] at hp';cases hp'
 have hvr:=hk.wf.vr x p hn.1 hp hpt;have hcl:=hk.wf.cl x p hn.1 hp hpt
 have hdx:K.dep x=K.lev p.var.toNat:=by simp [KV.dep,hp,hvr.1]
 obtain ⟨a,ha⟩:=hk.mix_under ht h
 have hne:∃ y,K.den p.hi y≠K.den p.lo y:=by
  by_cases hh:∃ y,K.den p.hi y≠K.den p.lo y
  ·exact hh
  ·exfalso
   refine hk.ord.ne x p hn.1 hp hpt (KV.canon hk.wf hk.ord hu _ _ _ hcl.1 hcl.2 (Nat.le_refl _) fun y=>?_)
   by_cases h:K.den p.lo y=K.den p.hi y
   ·exact h
   ·exact absurd ⟨y,fun e=>h e.symm⟩ hh
 obtain ⟨y,hy⟩:=hne;refine ⟨K.mix (K.dep x) a y,?_⟩
 have e:∀ b,upd (K.mix (K.dep x) a y) p.var.toNat b=K.mix (K.dep x) a (upd y p.var.toNat b):=fun b=>by
  funext u
  simp only [KV.mix,upd]
  by_cases h3:u=p.var.toNat
  ·subst h3;rw [if_pos rfl,if_neg (by omega),if_pos rfl]
  ·simp [h3]
 rw [e,e,<- ha,<- ha];have e1:=hk.kid_den hn.1 hp hpt true y;have e2:=hk.kid_den hn.1 hp hpt false y
 simp only [if_true] at e1
 simp only [Bool.false_eq_true,if_false] at e2
 rw [<- e1,<- e2];exact hy
theorem KV.Ok.hangs_not {K:KV} (hk:K.Ok) {v:Nat}:∀ (n r:Nat),K.vars-K.dep r<=n->K.A.tk r=true->(∀ x p,K.Under r x->K.A.list[x]?=some p->p.var.toNat≠v)->∀ y b,K.den r (upd y v b)=K.den r y
 | n,r,hn,ht,hx,y,b=>by
  by_cases h2:2<=r
  ·obtain ⟨p,u,hp,hpt,hpv,hu,h3,h4,hd⟩:=hk.wf.node_at h2 ht
   have hb:=hk.ord.below hk.wf h2 hp hpt;have hlt:=hk.wf.dep_lt hk.ord h2 ht;have hv:=hx r p (.refl h2) hp
   match n with
   | 0=>omega
   | n+1 =>
    have ih:∀ c,K.A.tk c=true->K.dep r<K.dep c->(2<=c->K.Under r c)->K.den c (upd y v b)=K.den c y:=fun c hc hd hu=>by
     by_cases hc2:2<=c
     ·exact KV.Ok.hangs_not hk n c (by omega) hc (fun x q hx' hq=>hx x q ((hu hc2).trans hx') hq) y b
     ·rw [K.den_const (by omega),K.den_const (by omega)]
    rw [KV.den_node hk.wf hk.ord h2 hp hpt,KV.den_node hk.wf hk.ord h2 hp hpt,upd_ne _ _ hv,ih p.hi h4 hb.2 (fun h=>.hi (.refl h2) hp h),ih p.lo h3 hb.1 (fun h=>.lo (.refl h2) hp h)]
  ·rw [K.den_const (by omega),K.den_const (by omega)]
theorem KV.Wf.vof_lt {K:KV} {P:List Nat} (h:K.Wf P) {x:Nat} (h2:2<=x) (ht:K.A.tk x=true):K.vof x<K.vars:=by
 obtain ⟨p,v,hp,_,hv,hl,_⟩:=h.node_at h2 ht
 simp [KV.vof,hp];omega
theorem sup_fold' (K:KV) (N:List Nat) (hv:∀ x,x∈N->K.vof x<64) (s:Int) (hs:U64 s):U64 (N.foldl (fun s x=>supStep s (K.vof x)) s)/\∀ i,nb (N.foldl (fun s x=>supStep s (K.vof x)) s) i=(nb s i||decide (∃ x,x∈N/\K.vof x=i)):=by
 induction N generalizing s with
 | nil=>exact ⟨hs,fun i=>by simp⟩
 | cons a N ih =>
  obtain ⟨h1,h2⟩:=ih (fun x hx=>hv x (by simp [hx])) (supStep s (K.vof a)) (bits_u64 _ _ _);refine ⟨h1,fun i=>?_⟩;rw [List.foldl_cons,h2];unfold supStep;rw [nb_or hs (wrap_u64 _),nb_pow (hv a (by simp)),Bool.or_assoc]
  congr 1
  rw [Bool.eq_iff_iff];simp
theorem SupIs.bits {K:KV} {r:Nat} {s:Int} (hk:K.Ok) (hu:K.Uni) (ht:K.A.tk r=true) (h:SupIs K r s):U64 s/\∀ v,nb s v=true↔Hangs (K.den r) v:=by
 obtain ⟨N,hN,rfl⟩:=h;have hN:=hN.one
 have hv:∀ x,x∈N->K.vof x<64:=fun x hx=>by
  have:=hN.two x hx;have:=hk.wf.vof_lt this.1 this.2;have:=hk.wf.vs;omega
 obtain ⟨h1,h2⟩:=sup_fold' K N hv 0 (by unfold U64;omega);refine ⟨h1,fun v=>?_⟩;rw [h2,nb_zero,Bool.false_or,decide_eq_true_eq];constructor
 ·rintro ⟨x,hx,rfl⟩
  have ht':=hN.two x hx;obtain ⟨p,hp,hpt⟩:=ArenaV.tk_iff.1 ht'.2;have:=hk.hangs_of hu ht (hN.under x hx) hp
  simpa [KV.vof,hp] using this
 ·intro hh
  by_cases he:∃ x,x∈N/\K.vof x=v
  ·exact he
  ·exfalso
   obtain ⟨y,hy⟩:=hh;have key:=hk.hangs_not (v:=v) _ r (Nat.le_refl _) ht (fun x p hx hp hv=>he ⟨x,hN.mem.2 hx,by simp [KV.vof,hp,hv]⟩);exact hy (by rw [key,key])
end Go.Proofs.YtlkgkojidclncaaGreat
namespace Go.Proofs.YtlkgkojidclncaaGreat
structure TV where
 n:Nat
 ws:List Int
deriving DecidableEq
def wordsN (n:Nat):Nat:=if n<=6 then 1 else 2 ^ (n-6)
structure TV.Ok (t:TV):Prop where
 n16:t.n<=16
 len:t.ws.length=wordsN t.n
 u:∀ x,x∈t.ws->U64 x
 low:t.n<6->∀ x,x∈t.ws->∀ i,2 ^ t.n<=i->nb x i=false
def TV.bit (t:TV) (x:Nat):Bool:=nb (t.ws.getD (x/64) 0) (x % 64)
theorem wordsN_mul {n:Nat} (h:6<=n):wordsN n*64=2 ^ n:=by
 unfold wordsN;split
 ·obtain rfl:n=6:=by omega
  rfl
 ·have:n=(n-6)+6:=by omega
  rw [this,Nat.pow_add];simp
theorem TV.Ok.word {t:TV} (h:t.Ok) {i:Nat} (hi:i<wordsN t.n):U64 (t.ws.getD i 0)/\t.ws.getD i 0∈t.ws/\t.ws[i]?=some (t.ws.getD i 0):=by
 have hl:i<t.ws.length:=by rw [h.len];exact hi
 have e:t.ws[i]?=some (t.ws.getD i 0):=by rw [List.getD_eq_getElem?_getD,List.getElem?_eq_getElem hl];rfl
 have hm:=List.mem_of_getElem? e;exact ⟨h.u _ hm,hm,e⟩
theorem div64_lt {n x:Nat} (hx:x<2 ^ n):x/64<wordsN n:=by
 by_cases h:6<=n
 ·have:=wordsN_mul h;omega
 ·have:(2:Nat) ^ n<=2 ^ 6:=Nat.pow_le_pow_right (by omega) (by omega)
  unfold wordsN;rw [if_pos (by omega)];omega
theorem TV.ext {t u:TV} (ht:t.Ok) (hu:u.Ok) (hn:t.n=u.n) (h:∀ x,x<2 ^ t.n->t.bit x=u.bit x):t=u:=by
 obtain ⟨n,ws⟩:=t;obtain ⟨m,vs⟩:=u
 simp only at hn;subst hn
 congr 1
 apply List.ext_getElem?
 intro i
 by_cases hi:i<wordsN n
 ·obtain ⟨a1,a2,a3⟩:=ht.word (i:=i) hi
  obtain ⟨b1,b2,b3⟩:=hu.word (i:=i) hi
  show ws[i]?=vs[i]?
  have a3':ws[i]?=some (ws.getD i 0):=a3;have b3':vs[i]?=some (vs.getD i 0):=b3;rw [a3',b3']
  congr 1
  refine nb_ext a1 b1 fun j hj=>?_
  by_cases h6:6<=n
  ·have hw:=wordsN_mul h6
   have:=h (64*i+j) (by show 64*i+j<2 ^ n;omega);unfold TV.bit at this;rw [show (64*i+j)/64=i by omega,show (64*i+j) % 64=j by omega] at this;exact this
  ·have hi0:i=0:=by unfold wordsN at hi;rw [if_pos (by omega)] at hi;omega
   subst hi0
   by_cases hj2:j<2 ^ n
   ·have:=h j hj2
    unfold TV.bit at this;rw [show j/64=0 by omega,show j % 64=j by omega] at this;exact this
   ·rw [ht.low (by simpa using h6) _ a2 j (by simpa using hj2),hu.low (by simpa using h6) _ b2 j (by simpa using hj2)]
 ·have e1:=ht.len
  have e2:=hu.len
  simp only at e1 e2
  rw [List.getElem?_eq_none (by omega),List.getElem?_eq_none (by omega)]
def idx:Nat->(Nat->Bool)->Nat
 | 0,_=>0
 | n+1,y=>idx n y+if y n then 2 ^ n else 0
theorem idx_lt:∀ (n:Nat) (y:Nat->Bool),idx n y<2 ^ n
 | 0,_=>by simp [idx]
 | n+1,y=>by
  have:=idx_lt n y
  have e:(2:Nat) ^ (n+1)=2 ^ n+2 ^ n:=by rw [Nat.pow_succ];omega
  unfold idx;split <;> omega
theorem idx_bit:∀ (n:Nat) (y:Nat->Bool) (v:Nat),(idx n y).testBit v=(decide (v<n)&&y v)
 | 0,y,v=>by simp [idx]
 | n+1,y,v=>by
  have hl:=idx_lt n y;have ih:=idx_bit n y v;unfold idx
  by_cases hy:y n=true
  ·rw [if_pos hy,Nat.add_comm]
   by_cases hv:v=n
   ·subst hv
    rw [Nat.testBit_two_pow_add_eq,Nat.testBit_lt_two_pow hl]
    simp [hy]
   ·by_cases hvn:v<n
    ·rw [Nat.testBit_two_pow_add_gt hvn,ih]
     simp [hvn,show v<n+1 by omega]
    ·have h2:2 ^ n+idx n y<2 ^ v:=by
      have e:(2:Nat) ^ (n+1)=2 ^ n+2 ^ n:=by rw [Nat.pow_succ];omega
      have:(2:Nat) ^ (n+1)<=2 ^ v:=Nat.pow_le_pow_right (by omega) (by omega);omega
     rw [Nat.testBit_lt_two_pow h2]
     simp [show ¬ v<n+1 by omega]
  ·rw [if_neg hy,Nat.add_zero,ih]
   by_cases hv:v=n
   ·subst hv;simp [hy]
   ·have:(v<n)↔(v<n+1):=by omega
    simp [this]
theorem idx_of {n x:Nat} (hx:x<2 ^ n):idx n (fun v=>x.testBit v)=x:=by
 apply Nat.eq_of_testBit_eq
 intro v
 rw [idx_bit]
 by_cases hv:v<n
 ·simp [hv]
 ·have:x<2 ^ v:=Nat.lt_of_lt_of_le hx (Nat.pow_le_pow_right (by omega) (by omega))
  rw [Nat.testBit_lt_two_pow this];simp [hv]
def setb (x v:Nat) (b:Bool):Nat:=if x.testBit v=b then x else if b then x+2 ^ v else x-2 ^ v
theorem tb_add {x v:Nat} (h:x.testBit v=false) (u:Nat):(x+2 ^ v).testBit u=if u=v then true else x.testBit u:=by
 by_cases hu:u=v
 ·subst hu;rw [if_pos rfl,Nat.add_comm,Nat.testBit_two_pow_add_eq,h];rfl
 ·rw [if_neg hu]
  have e:x+2 ^ v=x ||| 2 ^ v:=by
   have hd:=Nat.div_add_mod x (2 ^ (v+1))
   have hm:x % 2 ^ (v+1)<2 ^ v:=by
    have h1:x % 2 ^ (v+1)<2 ^ (v+1):=Nat.mod_lt _ (Nat.two_pow_pos _)
    have h2:(x % 2 ^ (v+1)).testBit v=false:=by rw [Nat.testBit_mod_two_pow,h];simp
    by_cases hge:2 ^ v<=x % 2 ^ (v+1)
    ·exfalso
     have e2:(2:Nat) ^ (v+1)=2 ^ v+2 ^ v:=by rw [Nat.pow_succ];omega
     have e3:x % 2 ^ (v+1)=2 ^ v+(x % 2 ^ (v+1)-2 ^ v):=by omega
     rw [e3,Nat.testBit_two_pow_add_eq,Nat.testBit_lt_two_pow (by omega)] at h2;cases h2
    ·omega
   apply Nat.eq_of_testBit_eq
   intro i
   have e4:x+2 ^ v=2 ^ (v+1)*(x/2 ^ (v+1))+(2 ^ v+x % 2 ^ (v+1)):=by omega
   have e5:2 ^ v+x % 2 ^ (v+1)<2 ^ (v+1):=by
    have e2:(2:Nat) ^ (v+1)=2 ^ v+2 ^ v:=by rw [Nat.pow_succ];omega
    omega
   rw [e4,Nat.testBit_two_pow_mul_add _ e5,Nat.testBit_or,Nat.testBit_two_pow];have h6:=Nat.testBit_mod_two_pow x (v+1) i
   have h7:x.testBit i=if i<v+1 then (x % 2 ^ (v+1)).testBit i else (x/2 ^ (v+1)).testBit (i-(v+1)):=by
    split
    ·rename_i hi;rw [h6];simp [hi]
    ·rename_i hi;rw [Nat.testBit_div_two_pow];congr 1;omega
   rw [h7]
   by_cases hi:i<v+1
   ·rw [if_pos hi,if_pos hi]
    by_cases hiv:i=v
    ·subst hiv;rw [Nat.testBit_two_pow_add_eq,Nat.testBit_lt_two_pow hm];simp
    ·rw [Nat.testBit_two_pow_add_gt (by omega)];simp [Ne.symm hiv]
   ·rw [if_neg hi,if_neg hi]
    have:¬ v=i:=by omega
    simp [this]
  rw [e,Nat.testBit_or,Nat.testBit_two_pow]
  simp [Ne.symm hu]
theorem setb_bit (x v:Nat) (b:Bool) (u:Nat):(setb x v b).testBit u=if u=v then b else x.testBit u:=by
 unfold setb
 by_cases h:x.testBit v=b
 ·rw [if_pos h]
  by_cases hu:u=v
  ·subst hu;rw [if_pos rfl];exact h
  ·rw [if_neg hu]
 ·rw [if_neg h]
  cases b with
  | true =>
   have h':x.testBit v=false:=by simpa using h
   rw [if_pos rfl,tb_add h']
  | false =>
   have h':x.testBit v=true:=by simpa using h
   have hge:2 ^ v<=x:=Nat.ge_two_pow_of_testBit h'
   have h0:(x-2 ^ v).testBit v=false:=by
    cases e:(x-2 ^ v).testBit v with
    | false=>rfl
    | true =>
     have:=Nat.testBit_two_pow_add_eq (x-2 ^ v) v
     rw [Nat.add_comm,Nat.sub_add_cancel hge,h',e] at this;cases this
   have:=tb_add h0 u;rw [Nat.sub_add_cancel hge] at this
   simp only [Bool.false_eq_true,if_false]
   by_cases hu:u=v
   ·subst hu;rw [if_pos rfl];exact h0
   ·rw [if_neg hu] at this ⊢;exact this.symm
theorem setb_idx {n v:Nat} (hv:v<n) (y:Nat->Bool) (b:Bool):setb (idx n y) v b=idx n (upd y v b):=by
 apply Nat.eq_of_testBit_eq
 intro u
 rw [setb_bit,idx_bit,idx_bit]
 by_cases hu:u=v
 ·subst hu;simp [hv,upd]
 ·simp [hu,upd]
def TV.fn (t:TV) (y:Nat->Bool):Bool:=t.bit (idx t.n y)
theorem TV.fn_ext {t u:TV} (ht:t.Ok) (hu:u.Ok) (hn:t.n=u.n) (h:∀ y,t.fn y=u.fn y):t=u :=
 TV.ext ht hu hn fun x hx=>by
  have:=h fun v=>x.testBit v
  unfold TV.fn at this;rw [idx_of hx,<- hn,idx_of hx] at this;exact this
theorem TV.fn_same (t:TV) {x y:Nat->Bool} (h:∀ v,v<t.n->x v=y v):t.fn x=t.fn y:=by
 have:idx t.n x=idx t.n y:=by
  apply Nat.eq_of_testBit_eq
  intro v
  rw [idx_bit,idx_bit]
  by_cases hv:v<t.n
  ·simp [hv,h v hv]
  ·simp [hv]
 unfold TV.fn;rw [this]
end Go.Proofs.YtlkgkojidclncaaGreat
namespace Go.Proofs.YtlkgkojidclncaaGreat
open Go.RowKit
def mkT (n:Nat) (f:Nat->Bool):TV:=⟨n,(List.range (wordsN n)).map fun i=>((idx 64 fun j=>decide (64*i+j<2 ^ n)&&f (64*i+j):Nat):Int)⟩
theorem nb_cast (m i:Nat):nb (m:Int) i=m.testBit i:=by simp [nb]
theorem mkT_word (n:Nat) (f:Nat->Bool) {i:Nat} (hi:i<wordsN n):(mkT n f).ws.getD i 0=((idx 64 fun j=>decide (64*i+j<2 ^ n)&&f (64*i+j):Nat):Int):=by
 rw [List.getD_eq_getElem?_getD]
 simp [mkT,hi]
theorem mkT_ok {n:Nat} (f:Nat->Bool) (hn:n<=16):(mkT n f).Ok:=by
 refine ⟨hn,by simp [mkT],fun x hx=>?_,fun h6 x hx i hi=>?_⟩
 ·simp only [mkT,List.mem_map] at hx
  obtain ⟨i,_,rfl⟩:=hx
  have:=idx_lt 64 fun j=>decide (64*i+j<2 ^ n)&&f (64*i+j)
  unfold U64;omega
 ·have h6':n<6:=h6
  have hi':2 ^ n<=i:=hi
  simp only [mkT,List.mem_map,List.mem_range] at hx
  obtain ⟨j,hj,rfl⟩:=hx
  have hj0:j=0:=by unfold wordsN at hj;rw [if_pos (by omega)] at hj;omega
  subst hj0;rw [nb_cast,idx_bit]
  simp;intro _ h;omega
theorem mkT_bit {n:Nat} (f:Nat->Bool) {x:Nat} (hx:x<2 ^ n):(mkT n f).bit x=f x:=by
 unfold TV.bit;rw [mkT_word n f (div64_lt hx),nb_cast,idx_bit]
 have e:64*(x/64)+x % 64=x:=by omega
 simp only [e,hx,decide_true,Bool.true_and]
 have:x % 64<64:=Nat.mod_lt _ (by omega)
 simp [this]
theorem mkT_n (n:Nat) (f:Nat->Bool):(mkT n f).n=n:=rfl
theorem mkT_fn {n:Nat} (f:Nat->Bool) (y:Nat->Bool):(mkT n f).fn y=f (idx n y):=by
 unfold TV.fn;rw [mkT_n,mkT_bit f (idx_lt n y)]
def varT (n v:Nat):TV:=mkT n fun x=>x.testBit v
def cofT (t:TV) (v:Nat) (b:Bool):TV:=mkT t.n fun x=>t.bit (setb x v b)
theorem varT_fn {n v:Nat} (hv:v<n) (y:Nat->Bool):(varT n v).fn y=y v:=by
 unfold varT;rw [mkT_fn,idx_bit];simp [hv]
theorem cofT_fn {t:TV} {v:Nat} (hv:v<t.n) (b:Bool) (y:Nat->Bool):(cofT t v b).fn y=t.fn (upd y v b):=by
 unfold cofT;rw [mkT_fn,setb_idx hv];rfl
theorem cofT_ok {t:TV} (ht:t.Ok) (v:Nat) (b:Bool):(cofT t v b).Ok:=mkT_ok _ ht.n16
def depT (t:TV) (v:Nat):Bool:=!decide (cofT t v false=cofT t v true)
theorem depT_iff {t:TV} (ht:t.Ok) {v:Nat} (hv:v<t.n):depT t v=true↔Hangs t.fn v:=by
 unfold depT;rw [Bool.not_eq_true',decide_eq_false_iff_not];constructor
 ·intro hne
  by_cases hh:∃ y,t.fn (upd y v true)≠t.fn (upd y v false)
  ·exact hh
  ·exfalso
   refine hne (TV.fn_ext (cofT_ok ht v false) (cofT_ok ht v true) rfl fun y=>?_);rw [cofT_fn hv,cofT_fn hv]
   by_cases h:t.fn (upd y v false)=t.fn (upd y v true)
   ·exact h
   ·exact absurd ⟨y,fun e=>h e.symm⟩ hh
 ·rintro ⟨y,hy⟩ e
  exact hy (by rw [<- cofT_fn hv true y,<- cofT_fn hv false y,e])
end Go.Proofs.YtlkgkojidclncaaGreat
namespace Go.Proofs.YtlkgkojidclncaaGreat
structure Plain (K:KV) (n m:Nat):Prop where
 ok:K.Ok
 uni:K.Uni
 vr:K.vars=n
 lv:∀ v,v<n->K.lev v=v
 pl:K.A.places=m
theorem KV.Made.at_iff {K K':KV} {v lo hi r:Nat} (M:K.Made v lo hi r K') {s u lo' hi':Nat}:K'.At s u lo' hi'↔(s=r/\u=v/\lo'=lo/\hi'=hi)\/K.At s u lo' hi':=by
 constructor
 ·intro h
  obtain ⟨h2,p,hp,hpt,e1,e2,e3⟩:=h
  by_cases e:s=r
  ·subst e
   rw [M.at_] at hp;cases hp
   simp at e1 e2 e3
   exact .inl ⟨rfl,by omega,e2.symm,e3.symm⟩
  ·have ht:K'.A.tk s=true:=ArenaV.tk_iff.2 ⟨p,hp,hpt⟩
   rw [M.tk] at ht
   simp [e] at ht
   obtain ⟨p',hp',hpt'⟩:=ArenaV.tk_iff.1 ht;have:=M.ext.nd s p' hp' hpt'
   rw [hp] at this;cases this
   exact .inr ⟨h2,p,hp',hpt,e1,e2,e3⟩
 ·rintro (⟨rfl,rfl,rfl,rfl⟩ | ⟨h2,p,hp,hpt,rest⟩)
  ·exact ⟨M.two,_,M.at_,rfl,rfl,rfl,rfl⟩
  ·exact ⟨h2,p,M.ext.nd s p hp hpt,hpt,rest⟩
theorem opB_and (a b:Bool):opB 8 a b=(a&&b):=by cases a <;> cases b <;> rfl
theorem opB_xor (a b:Bool):opB 6 a b=(a != b):=by cases a <;> cases b <;> rfl
end Go.Proofs.YtlkgkojidclncaaGreat
namespace Go.Proofs.YtlkgkojidclncaaGreat
open Go.RowKit Go.Maps Go.ChangeMaps Go.WideShapes
structure MakePost (b:Nat) (v:Int) (lo hi:Nat) (K:KV) (q:KPtr) (w:World) (e:Ending) (w':World):Prop where
 ex:∃ (r:Nat) (code:Int) (K':KV) (T':List DM) (q':KPtr),e=.returned (.tuple #[.int .u32 r,.int .i64 code])/\MakeR K v lo hi r code K'/\KerIn w' b K' T' q'/\Upd (q.all b) w w'/\Sub (q.all b) w (q'.all b)
theorem var_live (b:Nat) (v:Int) (K:KV) (T:List DM) (q:KPtr) (w:World) (h:KerIn w b K T q) :
  Calls Tryz.prog 47 #[.pointer (some ⟨b,0,none⟩),.int .i64 v] w fun e w'=>MakePost b v 0 1 K q w e w':=by
 have HK:=Lib.hid h;clear h
 go_enter Tryz.func47,Tryz.ntmps47
 go_wp2_with fail;refine (make_spec b v 0 1 K T q w HK.out (by omega) (by omega)).mono ?_;rintro e w1 ⟨r,code,K',T',q',rfl,hE⟩;have HE:=Lib.hid hE;clear hE;go_wp2_with fail;go_ret2;exact ⟨r,code,K',T',q',rfl,HE.out⟩
theorem and_live (b f g:Nat) (K:KV) (T:List DM) (q:KPtr) (w:World) (h:KerIn w b K T q) (hf:K.A.tk f=true) (hg:K.A.tk g=true) :
  Calls Tryz.prog 45 #[.pointer (some ⟨b,0,none⟩),.int .u32 f,.int .u32 g] w fun e w'=>OpPost b K q (K.fun3 (fun x y _=>opB 8 x y) f g 0) w e w':=by
 have HC:=Lib.hid (binary_live b 8 f g K T q w h (by omega) hf hg);clear h hf hg
 go_enter Tryz.func45,Tryz.ntmps45
 go_wp2_with fail;refine HC.out.mono ?_;rintro e w1 hE;obtain ⟨r,code,K',T',q',rfl,hP⟩:=hE.ex;have HE:=Lib.hid hP;clear hE hP HC;go_wp2_with fail;go_ret2;exact ⟨r,code,K',T',q',rfl,HE.out⟩
theorem or_live (b f g:Nat) (K:KV) (T:List DM) (q:KPtr) (w:World) (h:KerIn w b K T q) (hf:K.A.tk f=true) (hg:K.A.tk g=true) :
  Calls Tryz.prog 44 #[.pointer (some ⟨b,0,none⟩),.int .u32 f,.int .u32 g] w fun e w'=>OpPost b K q (K.fun3 (fun x y _=>opB 14 x y) f g 0) w e w':=by
 have HC:=Lib.hid (binary_live b 14 f g K T q w h (by omega) hf hg);clear h hf hg
 go_enter Tryz.func44,Tryz.ntmps44
 go_wp2_with fail;refine HC.out.mono ?_;rintro e w1 hE;obtain ⟨r,code,K',T',q',rfl,hP⟩:=hE.ex;have HE:=Lib.hid hP;clear hE hP HC;go_wp2_with fail;go_ret2;exact ⟨r,code,K',T',q',rfl,HE.out⟩
theorem xor_live (b f g:Nat) (K:KV) (T:List DM) (q:KPtr) (w:World) (h:KerIn w b K T q) (hf:K.A.tk f=true) (hg:K.A.tk g=true) :
  Calls Tryz.prog 89 #[.pointer (some ⟨b,0,none⟩),.int .u32 f,.int .u32 g] w fun e w'=>OpPost b K q (K.fun3 (fun x y _=>opB 6 x y) f g 0) w e w':=by
 have HC:=Lib.hid (binary_live b 6 f g K T q w h (by omega) hf hg);clear h hf hg
 go_enter Tryz.func89,Tryz.ntmps89
 go_wp2_with fail;refine HC.out.mono ?_;rintro e w1 hE;obtain ⟨r,code,K',T',q',rfl,hP⟩:=hE.ex;have HE:=Lib.hid hP;clear hE hP HC;go_wp2_with fail;go_ret2;exact ⟨r,code,K',T',q',rfl,HE.out⟩
theorem Hangs.var {t:(Nat->Bool)->Bool} {a:Nat} (h:∀ y,t y=y a) (v:Nat):Hangs t v↔v=a:=by
 constructor
 ·rintro ⟨y,hy⟩
  rw [h,h] at hy
  by_cases e:v=a
  ·exact e
  ·simp [upd,Ne.symm e] at hy
 ·rintro rfl
  exact ⟨fun _=>true,by rw [h,h];simp [upd]⟩
def addT (l:List TV) (t:TV):List TV:=if t∈l then l else l++[t]
def unlikeT (L:List TV):List TV:=L.foldl addT []
def nodesT (L:List TV) (v:Nat):List TV:=L.filter fun t=>depT t v
def givenT (L:List TV) (v:Nat):List TV:=L.foldl (fun l t=>addT (addT l (cofT t v false)) (cofT t v true)) []
def curT (c:List TV) (o:List Nat):List TV:=o.foldl givenT c
def levT:List TV->List Nat->List (List TV)
 | _,[]=>[]
 | c,v::o=>nodesT c v::levT (givenT c v) o
theorem mem_addT {l:List TV} {t u:TV}:u∈addT l t↔u∈l\/u=t:=by
 unfold addT;split
 ·constructor
  ·exact .inl
  ·rintro (h | rfl);exact h;assumption
 ·simp
theorem mem_unlikeT {L:List TV} {u:TV}:u∈unlikeT L↔u∈L:=by
 have key:∀ (L l:List TV),u∈L.foldl addT l↔u∈l\/u∈L:=by
  intro L
  induction L with
  | nil=>intro l;simp
  | cons a L ih=>intro l;rw [List.foldl_cons,ih,mem_addT,List.mem_cons,or_assoc]
 simpa [unlikeT] using key L []
theorem mem_givenT {L:List TV} {v:Nat} {u:TV}:u∈givenT L v↔∃ t,t∈L/\∃ b,u=cofT t v b:=by
 have key:∀ (L l:List TV),u∈L.foldl (fun l t=>addT (addT l (cofT t v false)) (cofT t v true)) l↔u∈l\/∃ t,t∈L/\∃ b,u=cofT t v b:=by
  intro L
  induction L with
  | nil=>intro l;simp
  | cons a L ih =>
   intro l
   rw [List.foldl_cons,ih,mem_addT,mem_addT];constructor
   ·rintro (((h | h) | h) | ⟨t,h,b,e⟩)
    ·exact .inl h
    ·exact .inr ⟨a,by simp,_,h⟩
    ·exact .inr ⟨a,by simp,_,h⟩
    ·exact .inr ⟨t,by simp [h],b,e⟩
   ·rintro (h | ⟨t,h,b,e⟩)
    ·exact .inl (.inl (.inl h))
    ·rcases List.mem_cons.1 h with rfl | h
     ·cases b
      ·exact .inl (.inl (.inr e))
      ·exact .inl (.inr e)
     ·exact .inr ⟨t,h,b,e⟩
 simpa [givenT] using key L []
theorem row_type {w:World} {base:Nat} {e:TypeId} {sz n:Nat} {v:Value} {xs:List Value} (h:w.ownsRow base e sz v n xs) {k:Nat} (hk:v.ownBlock=some k) :
  ∃ cs fr,w.heap[k]?=some (.cells cs e fr):=by
 obtain ⟨_,(⟨e1,_⟩ | ⟨g,cap1,cur1,e1,hg,hh,_⟩)⟩:=h
 ·rw [e1] at hk;simp [Value.ownBlock] at hk
 ·rw [e1] at hk
  simp [Value.ownBlock] at hk
  subst hk;exact ⟨_,_,hh⟩
end Go.Proofs.YtlkgkojidclncaaGreat
namespace Go.Proofs.YtlkgkojidclncaaGreat
def mixO (o:List Nat) (a y:Nat->Bool):Nat->Bool:=fun v=>if v∈o then a v else y v
theorem mixO_nil (a y:Nat->Bool):mixO [] a y=y:=by funext v;simp [mixO]
theorem mixO_cons (v:Nat) (o:List Nat) (a y:Nat->Bool):mixO (v::o) a y=upd (mixO o a y) v (a v):=by
 funext u
 simp only [mixO,upd,List.mem_cons]
 by_cases e:u=v
 ·subst e;simp
 ·simp [e]
theorem upd_mixO (v:Nat) (o:List Nat) (a y:Nat->Bool) (b:Bool):upd (mixO o a y) v b=mixO (v::o) (upd a v b) y:=by
 funext u
 simp only [mixO,upd,List.mem_cons]
 by_cases e:u=v
 ·subst e;simp
 ·simp [e]
theorem mem_curT {n:Nat}:∀ (o:List Nat) (c:List TV),(∀ t,t∈c->t.Ok/\t.n=n)->(∀ v,v∈o->v<n)->∀ {u:TV},u∈curT c o↔(u.Ok/\u.n=n/\∃ t,t∈c/\∃ a,∀ y,u.fn y=t.fn (mixO o a y))
 | [],c,hc,_,u=>by
  constructor
  ·intro h
   exact ⟨(hc u h).1,(hc u h).2,u,h,fun _=>false,fun y=>by rw [mixO_nil]⟩
  ·rintro ⟨h1,h2,t,ht,a,he⟩
   have:u=t:=TV.fn_ext h1 (hc t ht).1 (h2.trans (hc t ht).2.symm) fun y=>by rw [he,mixO_nil]
   subst this;exact ht
 | v::o,c,hc,ho,u=>by
  have hvn:=ho v (by simp)
  have hg:∀ t,t∈givenT c v->t.Ok/\t.n=n:=fun t ht=>by
   obtain ⟨s,hs,b,rfl⟩:=mem_givenT.1 ht;exact ⟨cofT_ok (hc s hs).1 v b,(hc s hs).2⟩
  have ih:=mem_curT o (givenT c v) hg (fun x hx=>ho x (by simp [hx])) (u:=u)
  show u∈curT (givenT c v) o↔_
  rw [ih];constructor
  ·rintro ⟨h1,h2,t,ht,a,he⟩
   obtain ⟨s,hs,b,rfl⟩:=mem_givenT.1 ht;refine ⟨h1,h2,s,hs,upd a v b,fun y=>?_⟩;rw [he,cofT_fn (by rw [(hc s hs).2];exact hvn),upd_mixO]
  ·rintro ⟨h1,h2,s,hs,a,he⟩
   refine ⟨h1,h2,cofT s v (a v),mem_givenT.2 ⟨s,hs,a v,rfl⟩,a,fun y=>?_⟩;rw [he,cofT_fn (by rw [(hc s hs).2];exact hvn),mixO_cons]
theorem mem_nodesT {L:List TV} {v:Nat} {u:TV}:u∈nodesT L v↔u∈L/\depT u v=true:=by simp [nodesT]
def flatT (L:List TV) (o:List Nat):List TV:=(levT (unlikeT L) o).flatten
theorem mem_levF {u:TV}:∀ (o:List Nat) (c:List TV),u∈(levT c o).flatten↔∃ i v,o[i]?=some v/\u∈curT c (o.take i)/\depT u v=true
 | [],c=>by simp [levT]
 | x::o,c=>by
  have ih:=mem_levF (u:=u) o (givenT c x)
  show u∈(nodesT c x::levT (givenT c x) o).flatten↔_
  rw [List.flatten_cons,List.mem_append,mem_nodesT,ih];constructor
  ·rintro (⟨h1,h2⟩ | ⟨i,v,h1,h2,h3⟩)
   ·exact ⟨0,x,rfl,h1,h2⟩
   ·exact ⟨i+1,v,h1,h2,h3⟩
  ·rintro ⟨i,v,h1,h2,h3⟩
   cases i with
   | zero=>simp at h1;subst h1;exact .inl ⟨h2,h3⟩
   | succ i=>exact .inr ⟨i,v,h1,h2,h3⟩
theorem addT_nodup {l:List TV} (h:l.Nodup) (t:TV):(addT l t).Nodup:=by
 unfold addT;split
 ·exact h
 ·rename_i hn
  rw [List.nodup_append];exact ⟨h,by simp,fun a ha b hb e=>by simp at hb;subst hb;subst e;exact hn ha⟩
theorem givenT_nodup (L:List TV) (v:Nat):(givenT L v).Nodup:=by
 have key:∀ (L l:List TV),l.Nodup->(L.foldl (fun l t=>addT (addT l (cofT t v false)) (cofT t v true)) l).Nodup:=by
  intro L
  induction L with
  | nil=>intro l h;exact h
  | cons a L ih=>intro l h;exact ih _ (addT_nodup (addT_nodup h _) _)
 exact key L [] (by simp)
theorem unlikeT_nodup (L:List TV):(unlikeT L).Nodup:=by
 have key:∀ (L l:List TV),l.Nodup->(L.foldl addT l).Nodup:=by
  intro L
  induction L with
  | nil=>intro l h;exact h
  | cons a L ih=>intro l h;exact ih _ (addT_nodup h _)
 exact key L [] (by simp)
theorem levF_nodup {n:Nat}:∀ (o:List Nat) (c:List TV),c.Nodup->(∀ t,t∈c->t.Ok/\t.n=n)->(∀ v,v∈o->v<n)->(levT c o).flatten.Nodup
 | [],c,_,_,_=>by simp [levT]
 | x::o,c,hd,hc,ho=>by
  have hg:∀ t,t∈givenT c x->t.Ok/\t.n=n:=fun t ht=>by
   obtain ⟨s,hs,b,rfl⟩:=mem_givenT.1 ht;exact ⟨cofT_ok (hc s hs).1 x b,(hc s hs).2⟩
  show (nodesT c x::levT (givenT c x) o).flatten.Nodup
  rw [List.flatten_cons,List.nodup_append];refine ⟨List.Pairwise.filter _ hd,levF_nodup o _ (givenT_nodup c x) hg (fun v hv=>ho v (by simp [hv])),fun a ha b hb e=>?_⟩;subst e;obtain ⟨h1,h2⟩:=mem_nodesT.1 ha;obtain ⟨i,v,_,h4,_⟩:=(mem_levF o (givenT c x)).1 hb;have hxn:=ho x (by simp);obtain ⟨_,_,t,ht,av,he⟩:=(mem_curT (n:=n) (o.take i) (givenT c x) hg (fun v hv=>ho v (by simp [List.mem_of_mem_take hv]))).1 h4;obtain ⟨s,hs,b,rfl⟩:=mem_givenT.1 ht;obtain ⟨y,hy⟩:=(depT_iff (hc a h1).1 (by rw [(hc a h1).2];exact hxn)).1 h2;refine hy ?_;rw [he,he,cofT_fn (by rw [(hc s hs).2];exact hxn),cofT_fn (by rw [(hc s hs).2];exact hxn)]
  congr 1
  funext u
  simp only [upd,mixO]
  by_cases e:u=x
  ·simp [e]
  ·simp [e]
theorem flatT_nodup {n:Nat} {L:List TV} {o:List Nat} (hc:∀ t,t∈L->t.Ok/\t.n=n) (ho:∀ v,v∈o->v<n):(flatT L o).Nodup :=
 levF_nodup o _ (unlikeT_nodup L) (fun t ht=>hc t (mem_unlikeT.1 ht)) ho
theorem mem_flatT {n:Nat} {L:List TV} {o:List Nat} (hc:∀ t,t∈L->t.Ok/\t.n=n) (ho:∀ v,v∈o->v<n) {u:TV} :
  u∈flatT L o↔∃ i v,o[i]?=some v/\u.Ok/\u.n=n/\(∃ t,t∈L/\∃ a,∀ y,u.fn y=t.fn (mixO (o.take i) a y))/\Hangs u.fn v:=by
 unfold flatT;rw [mem_levF];constructor
 ·rintro ⟨i,v,h1,h2,h3⟩
  obtain ⟨a1,a2,t,ht,a3⟩:=(mem_curT (n:=n) _ _ (fun t ht=>hc t (mem_unlikeT.1 ht)) (fun v hv=>ho v (List.mem_of_mem_take hv))).1 h2;exact ⟨i,v,h1,a1,a2,⟨t,mem_unlikeT.1 ht,a3⟩,(depT_iff a1 (by rw [a2];exact ho v (List.mem_of_getElem? h1))).1 h3⟩
 ·rintro ⟨i,v,h1,a1,a2,⟨t,ht,a3⟩,h3⟩
  exact ⟨i,v,h1,(mem_curT (n:=n) _ _ (fun t ht=>hc t (mem_unlikeT.1 ht)) (fun v hv=>ho v (List.mem_of_mem_take hv))).2 ⟨a1,a2,t,mem_unlikeT.2 ht,a3⟩,(depT_iff a1 (by rw [a2];exact ho v (List.mem_of_getElem? h1))).2 h3⟩
theorem KV.Perm.mem_take {K:KV} (h:K.Perm) {l v:Nat}:v∈K.order.take l↔v<K.vars/\K.lev v<l:=by
 constructor
 ·intro hv
  obtain ⟨i,hi⟩:=List.getElem?_of_mem hv;rw [List.getElem?_take] at hi
  split at hi
  ·rename_i hil
   have hlt:i<K.order.length:=by
    by_cases e:i<K.order.length
    ·exact e
    ·rw [List.getElem?_eq_none (by omega)] at hi;cases hi
   have e:K.order.getD i 0=v:=by rw [List.getD_eq_getElem?_getD,hi];rfl
   have:=h.oo i (by rw [<- h.ol];exact hlt);rw [e] at this;exact ⟨this.1,by omega⟩
  ·cases hi
 ·rintro ⟨hv,hl⟩
  have:=h.lo v hv
  have hi:K.order[K.lev v]?=some v:=by
   rw [List.getElem?_eq_getElem (by rw [h.ol];exact this.1)];have e:=this.2;rw [List.getD_eq_getElem?_getD,List.getElem?_eq_getElem (by rw [h.ol];exact this.1)] at e
   simpa using e
  exact List.mem_of_getElem? (i:=K.lev v) (by rw [List.getElem?_take,if_pos hl];exact hi)
theorem KV.Perm.mem_order {K:KV} (h:K.Perm) {v:Nat} (hv:v∈K.order):v<K.vars:=by
 have:=h.mem_take (l:=K.order.length) (v:=v);rw [List.take_length] at this;exact (this.1 hv).1
theorem KV.Perm.order_at {K:KV} (h:K.Perm) {v:Nat} (hv:v<K.vars):K.order[K.lev v]?=some v:=by
 have:=h.lo v hv;rw [List.getElem?_eq_getElem (by rw [h.ol];exact this.1)];have e:=this.2;rw [List.getD_eq_getElem?_getD,List.getElem?_eq_getElem (by rw [h.ol];exact this.1)] at e
 simpa using e
theorem KV.Perm.mixO {K:KV} (h:K.Perm) (l:Nat) (a y:Nat->Bool):mixO (K.order.take l) a y=K.mix l a y:=by
 funext v
 simp only [Go.Proofs.YtlkgkojidclncaaGreat.mixO,KV.mix]
 by_cases e:v∈K.order.take l
 ·rw [if_pos e,if_pos (h.mem_take.1 e)]
 ·rw [if_neg e,if_neg fun k=>e (h.mem_take.2 k)]
def KV.tab (K:KV) (r:Nat):TV:=mkT K.vars fun x=>K.den r fun v=>x.testBit v
theorem KV.Ok.den_low {K:KV} (hk:K.Ok) {r:Nat} (ht:K.A.tk r=true) {x y:Nat->Bool} (h:∀ v,v<K.vars->x v=y v):K.den r x=K.den r y :=
 KV.den_same hk.wf hk.ord _ r x y ht (Nat.le_refl _) fun v hv _=>h v hv
theorem KV.Ok.tab_fn {K:KV} (hk:K.Ok) {r:Nat} (ht:K.A.tk r=true) (y:Nat->Bool):(K.tab r).fn y=K.den r y:=by
 unfold KV.tab;rw [mkT_fn]
 exact hk.den_low ht fun v hv=>by rw [idx_bit];simp [hv]
theorem KV.tab_ok {K:KV} (h:K.vars<=16) (r:Nat):(K.tab r).Ok/\(K.tab r).n=K.vars:=⟨mkT_ok _ h,rfl⟩
theorem KV.Ok.tab_eq {K:KV} (hk:K.Ok) (hn:K.vars<=16) {r:Nat} (ht:K.A.tk r=true) {t:TV} (h1:t.Ok) (h2:t.n=K.vars) (h:∀ y,K.den r y=t.fn y):K.tab r=t :=
 TV.fn_ext (KV.tab_ok hn r).1 h1 h2.symm fun y=>by rw [hk.tab_fn ht,h]
theorem KV.Ok.tab_inj {K:KV} (hk:K.Ok) (hu:K.Uni) {r s:Nat} (hr:K.A.tk r=true) (hs:K.A.tk s=true) (e:K.tab r=K.tab s):r=s :=
 KV.canon hk.wf hk.ord hu _ _ _ hr hs (Nat.le_refl _) fun y=>by rw [<- hk.tab_fn hr,<- hk.tab_fn hs,e]
def KV.nodes (K:KV):List Nat:=K.lives.filter fun r=>decide (2<=r)
theorem KV.mem_nodes {K:KV} {r:Nat}:r∈K.nodes↔2<=r/\K.A.tk r=true:=by
 simp only [KV.nodes,List.mem_filter,KV.mem_lives,decide_eq_true_eq];exact And.comm
theorem KV.nodes_nodup (K:KV):K.nodes.Nodup:=List.Pairwise.filter _ K.lives_nodup
theorem KV.Ok.nodes_len {K:KV} (hk:K.Ok):K.nodes.length+2=K.A.used:=by
 rw [<- K.lives_len hk.wf];have h01:=hk.wf.ok.tk01;refine Nat.le_antisymm ?_ ?_
 ·have:(0::1::K.nodes).length<=K.lives.length:=List.Nodup.length_le_of_subset (by
   rw [List.nodup_cons,List.nodup_cons]
   exact ⟨by simp [KV.mem_nodes],by simp [KV.mem_nodes],K.nodes_nodup⟩) (by
   intro x hx
   rcases List.mem_cons.1 hx with rfl | hx
   ·exact KV.mem_lives.2 h01.1
   ·rcases List.mem_cons.1 hx with rfl | hx
    ·exact KV.mem_lives.2 h01.2
    ·exact KV.mem_lives.2 (KV.mem_nodes.1 hx).2)
  simpa using this
 ·have:K.lives.length<=(0::1::K.nodes).length:=List.Nodup.length_le_of_subset K.lives_nodup (by
   intro x hx
   have ht:=KV.mem_lives.1 hx
   by_cases h0:x=0
   ·simp [h0]
   ·by_cases h1:x=1
    ·simp [h1]
    ·exact List.mem_cons_of_mem _ (List.mem_cons_of_mem _ (KV.mem_nodes.2 ⟨by omega,ht⟩)))
  simpa using this
structure RootsT (K:KV) (L:List TV):Prop where
 rt:∀ r,0<K.hold r->∃ t,t∈L/\∀ y,K.den r y=t.fn y
 lr:∀ t,t∈L->∃ r,K.A.tk r=true/\∀ y,K.den r y=t.fn y
 ok:∀ t,t∈L->t.Ok/\t.n=K.vars
def SubL (K:KV) (L:List TV) (g:(Nat->Bool)->Bool):Prop:=∃ t,t∈L/\K.SubN t.fn g
theorem mix_mix (K:KV) {l i:Nat} (h:l<=i) (a c y:Nat->Bool):K.mix l a (K.mix i c y)=K.mix i (K.mix l a c) y:=by
 funext v
 simp only [KV.mix]
 by_cases h1:v<K.vars/\K.lev v<l
 ·rw [if_pos h1,if_pos ⟨h1.1,by omega⟩,if_pos h1]
 ·rw [if_neg h1]
  by_cases h2:v<K.vars/\K.lev v<i
  ·rw [if_pos h2,if_pos h2,if_neg h1]
  ·rw [if_neg h2,if_neg h2]
theorem free_above {K:KV} (hp:K.Perm) {g:(Nat->Bool)->Bool}:∀ (i:Nat),i<=K.vars->(∀ v,v<K.vars->K.lev v<i->¬ Hangs g v)->∀ (c y:Nat->Bool),g (K.mix i c y)=g y
 | 0,_,_,c,y=>by congr 1;funext v;simp [KV.mix]
 | i+1,hi,h,c,y=>by
  have ih:=free_above hp i (by omega) (fun v h1 h2=>h v h1 (by omega)) c y;have hv:=hp.oo i (by omega);obtain ⟨v,hve⟩ : ∃ v,K.order.getD i 0=v:=⟨_,rfl⟩;rw [hve] at hv
  have e:K.mix (i+1) c y=upd (K.mix i c y) v (c v):=by
   funext u
   simp only [KV.mix,upd]
   by_cases hu:u=v
   ·subst hu;rw [if_pos rfl,if_pos ⟨hv.1,by omega⟩]
   ·rw [if_neg hu]
    by_cases h1:u<K.vars/\K.lev u<i
    ·rw [if_pos h1,if_pos ⟨h1.1,by omega⟩]
    ·rw [if_neg h1,if_neg]
     rintro ⟨h2,h3⟩;refine hu (hp.inj h2 hv.1 ?_);omega
  have hn:=h v hv.1 (by omega)
  have same:∀ (z:Nat->Bool) (b:Bool),g (upd z v b)=g z:=fun z b=>by
   have e1:g (upd z v true)=g (upd z v false):=by
    by_cases e1:g (upd z v true)=g (upd z v false)
    ·exact e1
    ·exact absurd ⟨z,e1⟩ hn
   have e2:g z=g (upd z v (z v)):=by rw [upd_id]
   rw [e2]
   cases b <;> cases z v <;> simp_all
  rw [e,same,ih]
theorem first_hang {K:KV} (g:(Nat->Bool)->Bool):∀ (k:Nat),(∀ v,v<K.vars->K.lev v<k->¬ Hangs g v)\/∃ v,v<K.vars/\Hangs g v/\∀ u,u<K.vars->K.lev u<K.lev v->¬ Hangs g u
 | 0=>.inl fun v _ h=>by omega
 | k+1=>by
  rcases first_hang g k with h | h
  ·by_cases hh:∃ v,v<K.vars/\K.lev v=k/\Hangs g v
   ·obtain ⟨v,h1,h2,h3⟩:=hh
    exact .inr ⟨v,h1,h3,fun u hu hl=>h u hu (by omega)⟩
   ·refine .inl fun v hv hl hg=>?_
    by_cases e:K.lev v=k
    ·exact hh ⟨v,hv,e,hg⟩
    ·exact h v hv (by omega) hg
  ·exact .inr h
theorem flat_of {K:KV} (hp:K.Perm) {L:List TV} (hL:∀ t,t∈L->t.Ok/\t.n=K.vars) {u:TV} (h1:u.Ok) (h2:u.n=K.vars) (hs:SubL K L u.fn) {v:Nat} (hv:v<K.vars) (hh:Hangs u.fn v) (hno:∀ x,x<K.vars->K.lev x<K.lev v->¬ Hangs u.fn x) :
  u∈flatT L K.order:=by
 obtain ⟨t,ht,l,a,he⟩:=hs;refine (mem_flatT hL fun x hx=>hp.mem_order hx).2 ⟨K.lev v,v,hp.order_at hv,h1,h2,⟨t,ht,K.mix l a (fun _=>false),fun y=>?_⟩,hh⟩
 have hl:l<=K.lev v:=by
  by_cases hl:l<=K.lev v
  ·exact hl
  ·exfalso
   obtain ⟨y,hy⟩:=hh;refine hy ?_;rw [he,he]
   congr 1
   funext x
   simp only [KV.mix,upd]
   by_cases e:x=v
   ·subst e;rw [if_pos ⟨hv,by omega⟩,if_pos ⟨hv,by omega⟩]
   ·simp [e]
 have hlv:=(hp.lo v hv).1;rw [hp.mixO,<- mix_mix K hl,<- he,free_above hp _ (by omega) hno]
theorem KV.Ok.node_hangs {K:KV} (hk:K.Ok) (hu:K.Uni) {r:Nat} (h2:2<=r) (ht:K.A.tk r=true):∃ v,v<K.vars/\K.dep r=K.lev v/\Hangs (K.den r) v/\∀ x,x<K.vars->K.lev x<K.lev v->¬ Hangs (K.den r) x:=by
 obtain ⟨p,v,hp,hpt,hv,hvl,h3,h4,hd⟩:=hk.wf.node_at h2 ht;refine ⟨v,hvl,hd,?_,fun x hx hl=>?_⟩
 ·by_cases hh:Hangs (K.den r) v
  ·exact hh
  ·exfalso
   refine hk.ord.ne r p h2 hp hpt (KV.canon hk.wf hk.ord hu _ _ _ h3 h4 (Nat.le_refl _) fun y=>?_)
   have e:K.den r (upd y v true)=K.den r (upd y v false):=by
    by_cases e:K.den r (upd y v true)=K.den r (upd y v false)
    ·exact e
    ·exact absurd ⟨y,e⟩ hh
   have hvn:p.var.toNat=v:=by omega
   have a1:=KV.den_hi hk.wf hk.ord h2 hp hpt y;have a2:=KV.den_lo hk.wf hk.ord h2 hp hpt y;rw [hvn] at a1 a2;rw [<- a1,<- a2,e]
 ·rintro ⟨y,hy⟩
  refine hy ?_;rw [KV.den_upd hk.wf hk.ord ht hx (by omega),KV.den_upd hk.wf hk.ord ht hx (by omega)]
theorem RootsT.sub {K:KV} {L:List TV} (h:RootsT K L) (hk:K.Ok) {r:Nat} (hr:K.Reach r):SubL K L (K.den r):=by
 have key:∀ {r:Nat},K.Reach r->∃ t,t∈L/\∃ a,∀ y,K.den r y=t.fn (K.mix (K.dep r) a y):=by
  intro r hr
  induction hr with
  | root h0 =>
   obtain ⟨t,ht,he⟩:=h.rt _ h0;refine ⟨t,ht,fun _=>false,fun y=>?_⟩;rw [<- he]
   refine KV.den_same hk.wf hk.ord _ _ _ _ (hk.wf.ht _ h0).2 (Nat.le_refl _) fun v hv hd=>?_
   simp only [KV.mix];rw [if_neg (by omega)]
  | @lo q p hq h2 hp hpt ih =>
   obtain ⟨t,ht,a,he⟩:=ih;obtain ⟨_,v,hp',_,hv,hvl,h3,h4,hd⟩:=hk.wf.node_at h2 (ArenaV.tk_iff.2 ⟨p,hp,hpt⟩)
   rw [hp] at hp';cases hp'
   have hvn:p.var.toNat=v:=by omega
   have hb:=hk.ord.below hk.wf h2 hp hpt;refine ⟨t,ht,K.mix (K.dep q) a (upd (fun _=>false) v false),fun y=>?_⟩
   have e1:K.den p.lo y=K.den p.lo (K.mix (K.dep p.lo) (fun _=>false) y):=KV.den_same hk.wf hk.ord _ _ _ _ h3 (Nat.le_refl _) fun x hx hdx=>by
    simp only [KV.mix];rw [if_neg (by omega)]
   rw [e1,<- KV.den_lo hk.wf hk.ord h2 hp hpt,he,<- mix_mix K (by omega)]
   congr 1
   funext x
   simp only [KV.mix,upd,hvn]
   by_cases h5:x<K.vars/\K.lev x<K.dep q
   ·rw [if_pos h5,if_pos h5]
   ·rw [if_neg h5,if_neg h5]
    by_cases e:x=v
    ·subst e;rw [if_pos rfl,if_pos ⟨hvl,by omega⟩,if_pos rfl]
    ·rw [if_neg e]
     by_cases h6:x<K.vars/\K.lev x<K.dep p.lo
     ·rw [if_pos h6,if_pos h6,if_neg e]
     ·rw [if_neg h6,if_neg h6]
  | @hi q p hq h2 hp hpt ih =>
   obtain ⟨t,ht,a,he⟩:=ih;obtain ⟨_,v,hp',_,hv,hvl,h3,h4,hd⟩:=hk.wf.node_at h2 (ArenaV.tk_iff.2 ⟨p,hp,hpt⟩)
   rw [hp] at hp';cases hp'
   have hvn:p.var.toNat=v:=by omega
   have hb:=hk.ord.below hk.wf h2 hp hpt;refine ⟨t,ht,K.mix (K.dep q) a (upd (fun _=>false) v true),fun y=>?_⟩
   have e1:K.den p.hi y=K.den p.hi (K.mix (K.dep p.hi) (fun _=>false) y):=KV.den_same hk.wf hk.ord _ _ _ _ h4 (Nat.le_refl _) fun x hx hdx=>by
    simp only [KV.mix];rw [if_neg (by omega)]
   rw [e1,<- KV.den_hi hk.wf hk.ord h2 hp hpt,he,<- mix_mix K (by omega)]
   congr 1
   funext x
   simp only [KV.mix,upd,hvn]
   by_cases h5:x<K.vars/\K.lev x<K.dep q
   ·rw [if_pos h5,if_pos h5]
   ·rw [if_neg h5,if_neg h5]
    by_cases e:x=v
    ·subst e;rw [if_pos rfl,if_pos ⟨hvl,by omega⟩,if_pos rfl]
    ·rw [if_neg e]
     by_cases h6:x<K.vars/\K.lev x<K.dep p.hi
     ·rw [if_pos h6,if_pos h6,if_neg e]
     ·rw [if_neg h6,if_neg h6]
 obtain ⟨t,ht,a,he⟩:=key hr;exact ⟨t,ht,K.dep r,a,he⟩
theorem KV.tab_flat {K:KV} (hk:K.Ok) (hu:K.Uni) (hn:K.vars<=16) {L:List TV} (hL:∀ t,t∈L->t.Ok/\t.n=K.vars) {r:Nat} (h2:2<=r) (ht:K.A.tk r=true) (hs:SubL K L (K.den r)):K.tab r∈flatT L K.order:=by
 obtain ⟨v,hv,_,hh,hno⟩:=hk.node_hangs hu h2 ht
 have e:(K.tab r).fn=K.den r:=funext fun y=>hk.tab_fn ht y
 exact flat_of hk.ord.pm hL (KV.tab_ok hn r).1 rfl (by rw [e];exact hs) hv (by rw [e];exact hh) (by rw [e];exact hno)
theorem RootsT.mem {K:KV} {L:List TV} (h:RootsT K L) (hk:K.Ok) (hu:K.Uni) (hn:K.vars<=16) {u:TV}:u∈flatT L K.order↔∃ r,2<=r/\K.A.tk r=true/\K.tab r=u:=by
 constructor
 ·intro hm
  obtain ⟨i,v,h1,a1,a2,⟨t,ht,a,he⟩,hh⟩:=(mem_flatT h.ok fun x hx=>hk.ord.pm.mem_order hx).1 hm;obtain ⟨f,tf,hf⟩:=h.lr t ht;obtain ⟨x,tx,hx⟩:=KV.sub_live hk i a _ f (Nat.le_refl _) tf
  have hd:∀ y,K.den x y=u.fn y:=fun y=>by rw [hx,hf,he,hk.ord.pm.mixO]
  refine ⟨x,?_,tx,hk.tab_eq hn tx a1 a2 hd⟩
  by_cases h2:2<=x
  ·exact h2
  ·exfalso
   obtain ⟨y,hy⟩:=hh;refine hy ?_;rw [<- hd,<- hd,K.den_const (by omega),K.den_const (by omega)]
 ·rintro ⟨r,h2,ht,rfl⟩
  exact KV.tab_flat hk hu hn h.ok h2 ht (h.sub hk (KV.live_reach hk.wf hk.pos hk.ord _ r h2 ht (Nat.le_refl _)))
theorem RootsT.used {K:KV} {L:List TV} (h:RootsT K L) (hk:K.Ok) (hu:K.Uni) (hn:K.vars<=16):K.A.used=(flatT L K.order).length+2:=by
 rw [<- hk.nodes_len];have nd:(K.nodes.map K.tab).Nodup:=List.pairwise_map.2 (List.Pairwise.imp_of_mem (fun {a b} ha hb hne e=>hne (hk.tab_inj hu (KV.mem_nodes.1 ha).2 (KV.mem_nodes.1 hb).2 e)) K.nodes_nodup)
 have e:(K.nodes.map K.tab).length=(flatT L K.order).length:=by
  refine Nat.le_antisymm (List.Nodup.length_le_of_subset nd fun u hm=>?_) (List.Nodup.length_le_of_subset (flatT_nodup h.ok fun x hx=>hk.ord.pm.mem_order hx) fun u hm=>?_)
  ·obtain ⟨r,hr,rfl⟩:=List.mem_map.1 hm
   obtain ⟨h2,ht⟩:=KV.mem_nodes.1 hr;exact (h.mem hk hu hn).2 ⟨r,h2,ht,rfl⟩
  ·obtain ⟨r,h2,ht,rfl⟩:=(h.mem hk hu hn).1 hm
   exact List.mem_map.2 ⟨r,KV.mem_nodes.2 ⟨h2,ht⟩,rfl⟩
 rw [List.length_map] at e;omega
def NoFitW (K0:KV) (S:((Nat->Bool)->Bool)->Prop):Prop :=
 ∃ (K:KV) (g:(Nat->Bool)->Bool),K.Ok/\K.Uni/\K0.Ext K/\(∀ x,K.A.tk x=true->K0.A.tk x=false->S (K.den x))/\K.A.used=K.A.places/\S g/\∀ x,K.A.tk x=true->¬ ∀ y,K.den x y=g y
theorem NoFit.weak {K0:KV} {S:((Nat->Bool)->Bool)->Prop} (h:NoFit K0 S):NoFitW K0 S:=by
 obtain ⟨K1,M,g,k1,u1,R,hus,hg,hx⟩:=h;exact ⟨K1,g,k1,u1,R.ext,R.new,hus,hg,hx⟩
theorem RootsT.nofit {K:KV} {L:List TV} (h:RootsT K L) (hk:K.Ok) (hn:K.vars<=16) {t:TV} (ht:t.Ok) (htn:t.n=K.vars) (hno:NoFitW K (K.SubN t.fn)):K.A.places<(flatT (L++[t]) K.order).length+2:=by
 obtain ⟨K1,g,k1,u1,ext,new,hus,hg,hx⟩:=hno
 have hL:∀ s,s∈L++[t]->s.Ok/\s.n=K.vars:=fun s hs=>by
  rcases List.mem_append.1 hs with hs | hs
  ·exact h.ok s hs
  ·simp at hs;subst hs;exact ⟨ht,htn⟩
 have hL1:∀ s,s∈L++[t]->s.Ok/\s.n=K1.vars:=fun s hs=>by rw [ext.vr];exact hL s hs
 have hn1:K1.vars<=16:=by rw [ext.vr];exact hn
 have sub1:∀ {g:(Nat->Bool)->Bool} {s:TV},K.SubN s.fn g->K1.SubN s.fn g:=fun {g s} ⟨l,a,he⟩=>⟨l,a,fun y=>by rw [he,ext.mix]⟩
 have hsub:∀ r,2<=r->K1.A.tk r=true->SubL K1 (L++[t]) (K1.den r):=fun r h2 htk=>by
  by_cases h0:K.A.tk r=true
  ·obtain ⟨s,hs,hh⟩:=h.sub hk (KV.live_reach hk.wf hk.pos hk.ord _ r h2 h0 (Nat.le_refl _))
   have e:K1.den r=K.den r:=funext fun y=>ext.den hk.wf y h0
   rw [e];exact ⟨s,by simp [hs],sub1 hh⟩
  ·exact ⟨t,by simp,sub1 (new r htk (by simpa using h0))⟩
 obtain ⟨l,a,he⟩:=hg
 have hlow:∀ x y:Nat->Bool,(∀ v,v<K1.vars->x v=y v)->g x=g y:=fun x y hxy=>by
  rw [he,he]
  refine TV.fn_same t fun v hv=>?_
  simp only [KV.mix]
  rw [htn,<- ext.vr] at hv;rw [hxy v hv]
 obtain ⟨u,hud⟩ : ∃ u:TV,u=mkT K1.vars fun x=>g fun v=>x.testBit v:=⟨_,rfl⟩
 have huf:u.fn=g:=by
  funext y
  rw [hud,mkT_fn]
  exact hlow _ _ fun v hv=>by rw [idx_bit];simp [hv]
 have huo:u.Ok:=by rw [hud];exact mkT_ok _ hn1
 have hun:u.n=K1.vars:=by rw [hud];rfl
 have hmem:u∈flatT (L++[t]) K1.order:=by
  rcases first_hang (K:=K1) g K1.vars with hc | ⟨v,hv,hh,hfree⟩
  ·exfalso
   have hconst:∀ y,g y=g fun _=>false:=fun y=>by
    have e1:=free_above k1.ord.pm (g:=g) K1.vars (Nat.le_refl _) hc (fun _=>false) y;rw [<- e1]
    exact hlow _ _ fun v hv=>by simp only [KV.mix];rw [if_pos ⟨hv,(k1.ord.pm.lo v hv).1⟩]
   cases hb:g fun _=>false with
   | true=>exact hx 1 k1.wf.ok.tk01.2 fun y=>by rw [hconst,hb,K1.den_const (by omega)];rfl
   | false=>exact hx 0 k1.wf.ok.tk01.1 fun y=>by rw [hconst,hb,K1.den_const (by omega)];rfl
  ·exact flat_of k1.ord.pm hL1 huo hun ⟨t,by simp,l,a,fun y=>by rw [huf,he,ext.mix]⟩ hv (by rw [huf];exact hh) (by rw [huf];exact hfree)
 have nd:(u::K1.nodes.map K1.tab).Nodup:=by
  rw [List.nodup_cons];refine ⟨fun hm=>?_,List.pairwise_map.2 (List.Pairwise.imp_of_mem (fun {a b} ha hb hne e=>hne (k1.tab_inj u1 (KV.mem_nodes.1 ha).2 (KV.mem_nodes.1 hb).2 e)) K1.nodes_nodup)⟩;obtain ⟨r,hr,e⟩:=List.mem_map.1 hm;obtain ⟨h2,htk⟩:=KV.mem_nodes.1 hr
  refine hx r htk fun y=>?_
  rw [<- huf,<- e,k1.tab_fn htk]
 have hle:=List.Nodup.length_le_of_subset nd (l₂:=flatT (L++[t]) K1.order) fun z hz=>by
  rcases List.mem_cons.1 hz with rfl | hz
  ·exact hmem
  ·obtain ⟨r,hr,rfl⟩:=List.mem_map.1 hz
   obtain ⟨h2,htk⟩:=KV.mem_nodes.1 hr;exact KV.tab_flat k1 u1 hn1 hL1 h2 htk (hsub r h2 htk)
 rw [List.length_cons,List.length_map,ext.od] at hle;have h5:=k1.nodes_len;have h6:=ext.pl;omega
end Go.Proofs.YtlkgkojidclncaaGreat
namespace Go.Proofs.YtlkgkojidclncaaGreat
open Go.RowKit Go.Maps Go.ChangeMaps Go.WideShapes
theorem Upd.cell0 {w w':World} (u:Upd [] w w') {a:Addr} {v:Value} (h:w.cell? a=some v):w'.cell? a=some v:=(u.cell (World.block_lt_of_cell? _ _ h) (by simp)).trans h
structure MV where
 n:Nat
 c:Nat
 order:List Nat
 held:List (TV × Nat)
 trail:List Nat
end Go.Proofs.YtlkgkojidclncaaGreat
