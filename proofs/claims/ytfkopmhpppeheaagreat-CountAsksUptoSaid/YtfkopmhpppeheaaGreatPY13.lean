import Derived.Test.YtfkopmhpppeheaaGreatPY12
import Derived.Test.YtfkopmhpppeheaaGreatPY11
set_option maxRecDepth 100000
set_option maxHeartbeats 800000
namespace Go.Proofs.YtfkopmhpppeheaaGreat
structure TV where
 n:Nat
 ws:List Int
deriving DecidableEq
def wordsN (n:Nat):Nat:=if n<=6 then 1 else 2 ^ (n-6)
structure TV.Ok (t:TV):Prop where
 n16:t.n<=16
 len:t.ws.length=wordsN t.n
 u:∀ x,x∈t.ws->U64 x
 low:t.n<6->∀ x,x∈t.ws->∀ i,2 ^ t.n<=i->nb x i=false
def TV.bit (t:TV) (x:Nat):Bool:=nb (t.ws.getD (x/64) 0) (x % 64)
theorem nb_high {x:Int} (h:U64 x) {i:Nat} (hi:64<=i):nb x i=false:=by
 apply Nat.testBit_lt_two_pow
 have h1:(2:Nat) ^ 64<=2 ^ i:=Nat.pow_le_pow_right (by omega) hi
 unfold U64 at h;omega
theorem wordsN_pos (n : Nat) : 0 < wordsN n := by unfold wordsN; split; · omega
                                                  · exact Nat.two_pow_pos _
theorem wordsN_mul {n:Nat} (h:6<=n):wordsN n*64=2 ^ n:=by
 unfold wordsN;split
 ·obtain rfl:n=6:=by omega
  rfl
 ·have:n=(n-6)+6:=by omega
  rw [this,Nat.pow_add];simp
theorem TV.Ok.word {t:TV} (h:t.Ok) {i:Nat} (hi:i<wordsN t.n):U64 (t.ws.getD i 0)/\t.ws.getD i 0∈t.ws/\t.ws[i]?=some (t.ws.getD i 0):=by
 have hl:i<t.ws.length:=by rw [h.len];exact hi
 have e:t.ws[i]?=some (t.ws.getD i 0):=by rw [List.getD_eq_getElem?_getD,List.getElem?_eq_getElem hl];rfl
 have hm:=List.mem_of_getElem? e;exact ⟨h.u _ hm,hm,e⟩
theorem div64_lt {n x:Nat} (hx:x<2 ^ n):x/64<wordsN n:=by
 by_cases h:6<=n
 ·have:=wordsN_mul h;omega
 ·have:(2:Nat) ^ n<=2 ^ 6:=Nat.pow_le_pow_right (by omega) (by omega)
  unfold wordsN;rw [if_pos (by omega)];omega
theorem TV.ext {t u:TV} (ht:t.Ok) (hu:u.Ok) (hn:t.n=u.n) (h:∀ x,x<2 ^ t.n->t.bit x=u.bit x):t=u:=by
 obtain ⟨n,ws⟩:=t;obtain ⟨m,vs⟩:=u
 simp only at hn;subst hn
 congr 1
 apply List.ext_getElem?
 intro i
 by_cases hi:i<wordsN n
 ·obtain ⟨a1,a2,a3⟩:=ht.word (i:=i) hi
  obtain ⟨b1,b2,b3⟩:=hu.word (i:=i) hi
  show ws[i]?=vs[i]?
  have a3':ws[i]?=some (ws.getD i 0):=a3;have b3':vs[i]?=some (vs.getD i 0):=b3;rw [a3',b3']
  congr 1
  refine nb_ext a1 b1 fun j hj=>?_
  by_cases h6:6<=n
  ·have hw:=wordsN_mul h6
   have:=h (64*i+j) (by show 64*i+j<2 ^ n;omega);unfold TV.bit at this;rw [show (64*i+j)/64=i by omega,show (64*i+j) % 64=j by omega] at this;exact this
  ·have hi0:i=0:=by unfold wordsN at hi;rw [if_pos (by omega)] at hi;omega
   subst hi0
   by_cases hj2:j<2 ^ n
   ·have:=h j hj2
    unfold TV.bit at this;rw [show j/64=0 by omega,show j % 64=j by omega] at this;exact this
   ·rw [ht.low (by simpa using h6) _ a2 j (by simpa using hj2),hu.low (by simpa using h6) _ b2 j (by simpa using hj2)]
 ·have e1:=ht.len
  have e2:=hu.len
  simp only at e1 e2
  rw [List.getElem?_eq_none (by omega),List.getElem?_eq_none (by omega)]
def idx:Nat->(Nat->Bool)->Nat
 | 0,_=>0
 | n+1,y=>idx n y+if y n then 2 ^ n else 0
theorem idx_lt:∀ (n:Nat) (y:Nat->Bool),idx n y<2 ^ n
 | 0,_=>by simp [idx]
 | n+1,y=>by
  have:=idx_lt n y
  have e:(2:Nat) ^ (n+1)=2 ^ n+2 ^ n:=by rw [Nat.pow_succ];omega
  unfold idx;split <;> omega
theorem idx_bit:∀ (n:Nat) (y:Nat->Bool) (v:Nat),(idx n y).testBit v=(decide (v<n)&&y v)
 | 0,y,v=>by simp [idx]
 | n+1,y,v=>by
  have hl:=idx_lt n y;have ih:=idx_bit n y v;unfold idx
  by_cases hy:y n=true
  ·rw [if_pos hy,Nat.add_comm]
   by_cases hv:v=n
   ·subst hv
    rw [Nat.testBit_two_pow_add_eq,Nat.testBit_lt_two_pow hl]
    simp [hy]
   ·by_cases hvn:v<n
    ·rw [Nat.testBit_two_pow_add_gt hvn,ih]
     simp [hvn,show v<n+1 by omega]
    ·have h2:2 ^ n+idx n y<2 ^ v:=by
      have e:(2:Nat) ^ (n+1)=2 ^ n+2 ^ n:=by rw [Nat.pow_succ];omega
      have:(2:Nat) ^ (n+1)<=2 ^ v:=Nat.pow_le_pow_right (by omega) (by omega);omega
     rw [Nat.testBit_lt_two_pow h2]
     simp [show ¬ v<n+1 by omega]
  ·rw [if_neg hy,Nat.add_zero,ih]
   by_cases hv:v=n
   ·subst hv;simp [hy]
   ·have:(v<n)↔(v<n+1):=by omega
    simp [this]
theorem idx_of {n x:Nat} (hx:x<2 ^ n):idx n (fun v=>x.testBit v)=x:=by
 apply Nat.eq_of_testBit_eq
 intro v
 rw [idx_bit]
 by_cases hv:v<n
 ·simp [hv]
 ·have:x<2 ^ v:=Nat.lt_of_lt_of_le hx (Nat.pow_le_pow_right (by omega) (by omega))
  rw [Nat.testBit_lt_two_pow this];simp [hv]
def setb (x v:Nat) (b:Bool):Nat:=if x.testBit v=b then x else if b then x+2 ^ v else x-2 ^ v
theorem tb_add {x v:Nat} (h:x.testBit v=false) (u:Nat):(x+2 ^ v).testBit u=if u=v then true else x.testBit u:=by
 by_cases hu:u=v
 ·subst hu;rw [if_pos rfl,Nat.add_comm,Nat.testBit_two_pow_add_eq,h];rfl
 ·rw [if_neg hu]
  have e:x+2 ^ v=x ||| 2 ^ v:=by
   have hd:=Nat.div_add_mod x (2 ^ (v+1))
   have hm:x % 2 ^ (v+1)<2 ^ v:=by
    have h1:x % 2 ^ (v+1)<2 ^ (v+1):=Nat.mod_lt _ (Nat.two_pow_pos _)
    have h2:(x % 2 ^ (v+1)).testBit v=false:=by rw [Nat.testBit_mod_two_pow,h];simp
    by_cases hge:2 ^ v<=x % 2 ^ (v+1)
    ·exfalso
     have e2:(2:Nat) ^ (v+1)=2 ^ v+2 ^ v:=by rw [Nat.pow_succ];omega
     have e3:x % 2 ^ (v+1)=2 ^ v+(x % 2 ^ (v+1)-2 ^ v):=by omega
     rw [e3,Nat.testBit_two_pow_add_eq,Nat.testBit_lt_two_pow (by omega)] at h2;cases h2
    ·omega
   apply Nat.eq_of_testBit_eq
   intro i
   have e4:x+2 ^ v=2 ^ (v+1)*(x/2 ^ (v+1))+(2 ^ v+x % 2 ^ (v+1)):=by omega
   have e5:2 ^ v+x % 2 ^ (v+1)<2 ^ (v+1):=by
    have e2:(2:Nat) ^ (v+1)=2 ^ v+2 ^ v:=by rw [Nat.pow_succ];omega
    omega
   rw [e4,Nat.testBit_two_pow_mul_add _ e5,Nat.testBit_or,Nat.testBit_two_pow];have h6:=Nat.testBit_mod_two_pow x (v+1) i
   have h7:x.testBit i=if i<v+1 then (x % 2 ^ (v+1)).testBit i else (x/2 ^ (v+1)).testBit (i-(v+1)):=by
    split
    ·rename_i hi;rw [h6];simp [hi]
    ·rename_i hi;rw [Nat.testBit_div_two_pow];congr 1;omega
   rw [h7]
   by_cases hi:i<v+1
   ·rw [if_pos hi,if_pos hi]
    by_cases hiv:i=v
    ·subst hiv;rw [Nat.testBit_two_pow_add_eq,Nat.testBit_lt_two_pow hm];simp
    ·rw [Nat.testBit_two_pow_add_gt (by omega)];simp [Ne.symm hiv]
   ·rw [if_neg hi,if_neg hi]
    have:¬ v=i:=by omega
    simp [this]
  rw [e,Nat.testBit_or,Nat.testBit_two_pow]
  simp [Ne.symm hu]
theorem setb_bit (x v:Nat) (b:Bool) (u:Nat):(setb x v b).testBit u=if u=v then b else x.testBit u:=by
 unfold setb
 by_cases h:x.testBit v=b
 ·rw [if_pos h]
  by_cases hu:u=v
  ·subst hu;rw [if_pos rfl];exact h
  ·rw [if_neg hu]
 ·rw [if_neg h]
  cases b with
  | true =>
   have h':x.testBit v=false:=by simpa using h
   rw [if_pos rfl,tb_add h']
  | false =>
   have h':x.testBit v=true:=by simpa using h
   have hge:2 ^ v<=x:=Nat.ge_two_pow_of_testBit h'
   have h0:(x-2 ^ v).testBit v=false:=by
    cases e:(x-2 ^ v).testBit v with
    | false=>rfl
    | true =>
     have:=Nat.testBit_two_pow_add_eq (x-2 ^ v) v
     rw [Nat.add_comm,Nat.sub_add_cancel hge,h',e] at this;cases this
   have:=tb_add h0 u;rw [Nat.sub_add_cancel hge] at this
   simp only [Bool.false_eq_true,if_false]
   by_cases hu:u=v
   ·subst hu;rw [if_pos rfl];exact h0
   ·rw [if_neg hu] at this ⊢;exact this.symm
theorem setb_lt {x v n:Nat} (b:Bool) (hx:x<2 ^ n) (hv:v<n):setb x v b<2 ^ n:=by
 apply Nat.lt_pow_two_of_testBit
 intro i hi
 rw [setb_bit,if_neg (by omega)];exact Nat.testBit_lt_two_pow (Nat.lt_of_lt_of_le hx (Nat.pow_le_pow_right (by omega) hi))
theorem setb_idx {n v:Nat} (hv:v<n) (y:Nat->Bool) (b:Bool):setb (idx n y) v b=idx n (upd y v b):=by
 apply Nat.eq_of_testBit_eq
 intro u
 rw [setb_bit,idx_bit,idx_bit]
 by_cases hu:u=v
 ·subst hu;simp [hv,upd]
 ·simp [hu,upd]
def TV.fn (t:TV) (y:Nat->Bool):Bool:=t.bit (idx t.n y)
theorem TV.fn_ext {t u:TV} (ht:t.Ok) (hu:u.Ok) (hn:t.n=u.n) (h:∀ y,t.fn y=u.fn y):t=u :=
 TV.ext ht hu hn fun x hx=>by
  have:=h fun v=>x.testBit v
  unfold TV.fn at this;rw [idx_of hx,<- hn,idx_of hx] at this;exact this
theorem TV.fn_same (t:TV) {x y:Nat->Bool} (h:∀ v,v<t.n->x v=y v):t.fn x=t.fn y:=by
 have:idx t.n x=idx t.n y:=by
  apply Nat.eq_of_testBit_eq
  intro v
  rw [idx_bit,idx_bit]
  by_cases hv:v<t.n
  ·simp [hv,h v hv]
  ·simp [hv]
 unfold TV.fn;rw [this]
end Go.Proofs.YtfkopmhpppeheaaGreat
namespace Go.Proofs.YtfkopmhpppeheaaGreat
open Go.RowKit
def mkT (n:Nat) (f:Nat->Bool):TV:=⟨n,(List.range (wordsN n)).map fun i=>((idx 64 fun j=>decide (64*i+j<2 ^ n)&&f (64*i+j):Nat):Int)⟩
theorem nb_cast (m i:Nat):nb (m:Int) i=m.testBit i:=by simp [nb]
theorem mkT_word (n:Nat) (f:Nat->Bool) {i:Nat} (hi:i<wordsN n):(mkT n f).ws.getD i 0=((idx 64 fun j=>decide (64*i+j<2 ^ n)&&f (64*i+j):Nat):Int):=by
 rw [List.getD_eq_getElem?_getD]
 simp [mkT,hi]
theorem mkT_ok {n:Nat} (f:Nat->Bool) (hn:n<=16):(mkT n f).Ok:=by
 refine ⟨hn,by simp [mkT],fun x hx=>?_,fun h6 x hx i hi=>?_⟩
 ·simp only [mkT,List.mem_map] at hx
  obtain ⟨i,_,rfl⟩:=hx
  have:=idx_lt 64 fun j=>decide (64*i+j<2 ^ n)&&f (64*i+j)
  unfold U64;omega
 ·have h6':n<6:=h6
  have hi':2 ^ n<=i:=hi
  simp only [mkT,List.mem_map,List.mem_range] at hx
  obtain ⟨j,hj,rfl⟩:=hx
  have hj0:j=0:=by unfold wordsN at hj;rw [if_pos (by omega)] at hj;omega
  subst hj0;rw [nb_cast,idx_bit]
  simp;intro _ h;omega
theorem mkT_bit {n:Nat} (f:Nat->Bool) {x:Nat} (hx:x<2 ^ n):(mkT n f).bit x=f x:=by
 unfold TV.bit;rw [mkT_word n f (div64_lt hx),nb_cast,idx_bit]
 have e:64*(x/64)+x % 64=x:=by omega
 simp only [e,hx,decide_true,Bool.true_and]
 have:x % 64<64:=Nat.mod_lt _ (by omega)
 simp [this]
theorem mkT_n (n:Nat) (f:Nat->Bool):(mkT n f).n=n:=rfl
theorem mkT_eq {t:TV} (ht:t.Ok) {f:Nat->Bool} (h:∀ x,x<2 ^ t.n->t.bit x=f x):t=mkT t.n f :=
 TV.ext ht (mkT_ok f ht.n16) rfl fun x hx=>by rw [h x hx,mkT_bit f hx]
theorem mkT_fn {n:Nat} (f:Nat->Bool) (y:Nat->Bool):(mkT n f).fn y=f (idx n y):=by
 unfold TV.fn;rw [mkT_n,mkT_bit f (idx_lt n y)]
def constT (n:Nat) (b:Bool):TV:=mkT n fun _=>b
def varT (n v:Nat):TV:=mkT n fun x=>x.testBit v
def cofT (t:TV) (v:Nat) (b:Bool):TV:=mkT t.n fun x=>t.bit (setb x v b)
theorem constT_fn (n:Nat) (b:Bool) (y:Nat->Bool):(constT n b).fn y=b:=mkT_fn _ y
theorem varT_fn {n v:Nat} (hv:v<n) (y:Nat->Bool):(varT n v).fn y=y v:=by
 unfold varT;rw [mkT_fn,idx_bit];simp [hv]
theorem cofT_fn {t:TV} {v:Nat} (hv:v<t.n) (b:Bool) (y:Nat->Bool):(cofT t v b).fn y=t.fn (upd y v b):=by
 unfold cofT;rw [mkT_fn,setb_idx hv];rfl
theorem cofT_ok {t:TV} (ht:t.Ok) (v:Nat) (b:Bool):(cofT t v b).Ok:=mkT_ok _ ht.n16
def depT (t:TV) (v:Nat):Bool:=!decide (cofT t v false=cofT t v true)
theorem depT_iff {t:TV} (ht:t.Ok) {v:Nat} (hv:v<t.n):depT t v=true↔Hangs t.fn v:=by
 unfold depT;rw [Bool.not_eq_true',decide_eq_false_iff_not];constructor
 ·intro hne
  by_cases hh:∃ y,t.fn (upd y v true)≠t.fn (upd y v false)
  ·exact hh
  ·exfalso
   refine hne (TV.fn_ext (cofT_ok ht v false) (cofT_ok ht v true) rfl fun y=>?_);rw [cofT_fn hv,cofT_fn hv]
   by_cases h:t.fn (upd y v false)=t.fn (upd y v true)
   ·exact h
   ·exact absurd ⟨y,fun e=>h e.symm⟩ hh
 ·rintro ⟨y,hy⟩ e
  exact hy (by rw [<- cofT_fn hv true y,<- cofT_fn hv false y,e])
theorem setb_low {x v:Nat} (b:Bool) (hv:v<6):setb x v b/64=x/64/\setb x v b % 64=setb (x % 64) v b:=by
 constructor
 ·apply Nat.eq_of_testBit_eq
  intro i
  rw [show (64:Nat)=2 ^ 6 from rfl,Nat.testBit_div_two_pow,Nat.testBit_div_two_pow,setb_bit,if_neg (by omega)]
 ·apply Nat.eq_of_testBit_eq
  intro i
  rw [show (64:Nat)=2 ^ 6 from rfl,Nat.testBit_mod_two_pow,setb_bit,setb_bit,Nat.testBit_mod_two_pow]
  by_cases h:i=v
  ·subst h;simp [hv]
  ·simp [h]
theorem setb_hi {x v:Nat} (b:Bool) (hv:6<=v):setb x v b/64=setb (x/64) (v-6) b/\setb x v b % 64=x % 64:=by
 constructor
 ·apply Nat.eq_of_testBit_eq
  intro i
  rw [show (64:Nat)=2 ^ 6 from rfl,Nat.testBit_div_two_pow,setb_bit,setb_bit,Nat.testBit_div_two_pow]
  by_cases h:i=v-6
  ·subst h;rw [if_pos (by omega),if_pos rfl]
  ·rw [if_neg (by omega),if_neg h]
 ·apply Nat.eq_of_testBit_eq
  intro i
  rw [show (64:Nat)=2 ^ 6 from rfl,Nat.testBit_mod_two_pow,Nat.testBit_mod_two_pow,setb_bit]
  by_cases h:i<6
  ·simp [h,show i≠v by omega]
  ·simp [h]
theorem u64_zero:U64 0:=by unfold U64;omega
theorem nb_shr {x:Int} (hx:U64 x) (k i:Nat):U64 (x/2 ^ k)/\nb (x/2 ^ k) i=nb x (i+k):=by
 obtain ⟨n,rfl⟩ : ∃ n:Nat,x=(n:Int):=⟨x.toNat,by unfold U64 at hx;omega⟩
 have e:((n:Int)/2 ^ k)=((n/2 ^ k:Nat):Int):=by push_cast;rfl
 refine ⟨?_,?_⟩
 ·rw [e]
  have h1:=Nat.div_le_self n (2 ^ k);generalize n/2 ^ k=m at h1 ⊢
  unfold U64 at hx ⊢;omega
 ·rw [e,nb_cast,nb_cast,Nat.testBit_div_two_pow,Nat.add_comm]
theorem nb_shl {x:Int} (hx:U64 x) (k i:Nat):nb (IntKind.u64.wrap (x*2 ^ k)) i=(decide (i<64)&&(decide (k<=i)&&nb x (i-k))):=by
 obtain ⟨n,rfl⟩ : ∃ n:Nat,x=(n:Int):=⟨x.toNat,by unfold U64 at hx;omega⟩
 have e:IntKind.u64.wrap ((n:Int)*2 ^ k)=((n*2 ^ k % 18446744073709551616:Nat):Int):=by
  have h1:IntKind.u64.wrap ((n:Int)*2 ^ k)=((n:Int)*2 ^ k) % 18446744073709551616:=rfl
  have h2:(n:Int)*2 ^ k=((n*2 ^ k:Nat):Int):=by push_cast;rfl
  rw [h1,h2];generalize n*2 ^ k=m;omega
 rw [e,nb_cast,nb_cast,show (18446744073709551616:Nat)=2 ^ 64 from rfl,Nat.testBit_mod_two_pow,Nat.testBit_mul_two_pow]
def cofW (v:Nat) (b:Bool) (ones w:Int):Int :=
 if b then bits BinOp.or IntKind.u64 (bits BinOp.and IntKind.u64 w ones) (bits BinOp.and IntKind.u64 w ones/2 ^ (2 ^ v))
 else bits BinOp.or IntKind.u64 (bits BinOp.andNot IntKind.u64 w ones) (IntKind.u64.wrap (bits BinOp.andNot IntKind.u64 w ones*2 ^ (2 ^ v)))
theorem low_facts:∀ v,v<6->∀ i,i<64->(((i+2 ^ v).testBit v=!i.testBit v)/\(i.testBit v=true->2 ^ v<=i/\(i-2 ^ v).testBit v=false)/\(2 ^ v<=i->i.testBit v=false->(i-2 ^ v).testBit v=true)):=by decide +kernel
theorem cofW_bit {v:Nat} (hv:v<6) (b:Bool) {ones w:Int} (hw:U64 w) (ho:U64 ones) (hob:∀ i,i<64->nb ones i=i.testBit v):U64 (cofW v b ones w)/\∀ i,i<64->nb (cofW v b ones w) i=nb w (setb i v b):=by
 have p6:(2:Nat) ^ v<=32:=by
  have:(2:Nat) ^ v<=2 ^ 5:=Nat.pow_le_pow_right (by omega) (by omega);omega
 unfold cofW
 cases b with
 | true =>
  rw [if_pos rfl];have hA:=bits_u64 BinOp.and w ones
  have hS:=fun i=>nb_shr hA (2 ^ v) i
  refine ⟨bits_u64 _ _ _,fun i hi=>?_⟩;obtain ⟨f1,f2,f3⟩:=low_facts v hv i hi;rw [nb_or hA (hS 0).1,(hS i).2,nb_and hw ho,nb_and hw ho,hob i hi];unfold setb
  cases hb:i.testBit v with
  | true =>
   rw [if_pos rfl]
   have:nb ones (i+2 ^ v)=false:=by
    by_cases h64:i+2 ^ v<64
    ·rw [hob _ h64,f1,hb];rfl
    ·exact nb_high ho (by omega)
   rw [this];simp
  | false =>
   simp only [Bool.false_eq_true,if_false,if_true,Bool.and_false,Bool.false_or]
   by_cases h64:i+2 ^ v<64
   ·rw [hob _ h64,f1,hb];simp
   ·rw [nb_high hw (by omega)];simp
 | false =>
  simp only [Bool.false_eq_true,if_false]
  have hA:=bits_u64 BinOp.andNot w ones;refine ⟨bits_u64 _ _ _,fun i hi=>?_⟩;obtain ⟨f1,f2,f3⟩:=low_facts v hv i hi;have hsub:=Nat.sub_le i (2 ^ v);rw [nb_or hA (wrap_u64 _),nb_shl hA,nb_andNot hw ho hi,hob i hi];unfold setb
  cases hb:i.testBit v with
  | true =>
   obtain ⟨g1,g2⟩:=f2 hb
   simp only [Bool.not_true,Bool.and_false,Bool.false_or,hi,decide_true,Bool.true_and,g1]
   rw [nb_andNot hw ho (by omega),hob _ (by omega),g2];simp
  | false =>
   rw [if_pos rfl]
   simp only [Bool.not_false,Bool.and_true,hi,decide_true,Bool.true_and]
   by_cases hle:2 ^ v<=i
   ·rw [nb_andNot hw ho (by omega),hob _ (by omega),f3 hle hb];simp
   ·simp [hle]
theorem cof_low {t:TV} (ht:t.Ok) {v:Nat} (hv:v<6) (hvn:v<t.n) (b:Bool) {ones:Int} (ho:U64 ones) (hob:∀ i,i<64->nb ones i=i.testBit v):cofT t v b=⟨t.n,t.ws.map (cofW v b ones)⟩:=by
 have hok:(⟨t.n,t.ws.map (cofW v b ones)⟩ : TV).Ok:=by
  refine ⟨ht.n16,by simp [ht.len],fun x hx=>?_,fun h6 x hx i hi=>?_⟩
  ·obtain ⟨w,hw,rfl⟩:=List.mem_map.1 hx
   exact (cofW_bit hv b (ht.u w hw) ho hob).1
  ·obtain ⟨w,hw,rfl⟩:=List.mem_map.1 hx
   have hc:=cofW_bit hv b (ht.u w hw) ho hob
   by_cases h64:i<64
   ·rw [hc.2 i h64]
    have h6':t.n<6:=h6;have hi':2 ^ t.n<=i:=hi;refine ht.low h6' w hw _ ?_
    by_cases hlt:setb i v b<2 ^ t.n
    ·exfalso
     have:setb (setb i v b) v (i.testBit v)=i:=by
      apply Nat.eq_of_testBit_eq
      intro u
      rw [setb_bit,setb_bit]
      by_cases hu:u=v
      ·subst hu;simp
      ·simp [hu]
     have h2:=setb_lt (i.testBit v) hlt hvn
     rw [this] at h2;omega
    ·omega
   ·exact nb_high hc.1 (by omega)
 refine (mkT_eq hok fun x hx=>?_).symm;have hd:=div64_lt (n:=t.n) hx;obtain ⟨w1,w2,w3⟩:=ht.word hd;unfold TV.bit
 have e:(t.ws.map (cofW v b ones)).getD (x/64) 0=cofW v b ones (t.ws.getD (x/64) 0):=by
  rw [List.getD_eq_getElem?_getD,List.getElem?_map,w3];rfl
 show nb ((t.ws.map (cofW v b ones)).getD (x/64) 0) (x % 64)=nb (t.ws.getD (setb x v b/64) 0) (setb x v b % 64)
 rw [e,(cofW_bit hv b w1 ho hob).2 _ (Nat.mod_lt _ (by omega)),(setb_low b hv).1,(setb_low b hv).2]
theorem cof_hi {t:TV} (ht:t.Ok) {v:Nat} (hv:6<=v) (hvn:v<t.n) (b:Bool):cofT t v b=⟨t.n,(List.range t.ws.length).map fun i=>t.ws.getD (setb i (v-6) b) 0⟩:=by
 have hw:=wordsN_mul (n:=t.n) (by omega);have hlen:=ht.len
 have hp:(2:Nat) ^ t.n=2 ^ (t.n-6)*64:=by
  have:t.n=(t.n-6)+6:=by omega
  conv=>lhs;rw [this,Nat.pow_add]
 have hwp:wordsN t.n=2 ^ (t.n-6):=by omega
 have hsl:∀ i,i<wordsN t.n->setb i (v-6) b<wordsN t.n:=fun i hi=>by
  rw [hwp] at hi ⊢;exact setb_lt b hi (by omega)
 have hok:(⟨t.n,(List.range t.ws.length).map fun i=>t.ws.getD (setb i (v-6) b) 0⟩ : TV).Ok:=by
  refine ⟨ht.n16,by simp [hlen],fun x hx=>?_,fun h6 x hx i hi=>?_⟩
  ·obtain ⟨i,hi,rfl⟩:=List.mem_map.1 hx
   rw [List.mem_range,hlen] at hi;exact (ht.word (hsl i hi)).1
  ·have h6':t.n<6:=h6
   omega
 refine (mkT_eq hok fun x hx=>?_).symm;have hd:=div64_lt (n:=t.n) hx;unfold TV.bit
 have e:((List.range t.ws.length).map fun i=>t.ws.getD (setb i (v-6) b) 0).getD (x/64) 0=t.ws.getD (setb (x/64) (v-6) b) 0:=by
  rw [List.getD_eq_getElem?_getD,List.getElem?_map,List.getElem?_range (by omega)];rfl
 show nb (((List.range t.ws.length).map fun i=>t.ws.getD (setb i (v-6) b) 0).getD (x/64) 0) (x % 64)=nb (t.ws.getD (setb x v b/64) 0) (setb x v b % 64)
 rw [e,(setb_hi b hv).1,(setb_hi b hv).2]
end Go.Proofs.YtfkopmhpppeheaaGreat
namespace Go.Proofs.YtfkopmhpppeheaaGreat
structure Plain (K:KV) (n m:Nat):Prop where
 ok:K.Ok
 uni:K.Uni
 vr:K.vars=n
 lv:∀ v,v<n->K.lev v=v
 pl:K.A.places=m
theorem plain_new {n m:Nat} (h1:1<=n) (hn:n<=64) (h2:2<=m) (hm:m<=1048576):Plain (KV.new n m) n m:=by
 refine ⟨KV.new_ok h1 hn h2 hm,(TInv.new n m).uni (KV.new_ok h1 hn h2 hm).wf,rfl,fun v hv=>by simp [KV.lev,KV.new,hv],rfl⟩
theorem KV.Made.at_iff {K K':KV} {v lo hi r:Nat} (M:K.Made v lo hi r K') {s u lo' hi':Nat}:K'.At s u lo' hi'↔(s=r/\u=v/\lo'=lo/\hi'=hi)\/K.At s u lo' hi':=by
 constructor
 ·intro h
  obtain ⟨h2,p,hp,hpt,e1,e2,e3⟩:=h
  by_cases e:s=r
  ·subst e
   rw [M.at_] at hp;cases hp
   simp at e1 e2 e3
   exact .inl ⟨rfl,by omega,e2.symm,e3.symm⟩
  ·have ht:K'.A.tk s=true:=ArenaV.tk_iff.2 ⟨p,hp,hpt⟩
   rw [M.tk] at ht
   simp [e] at ht
   obtain ⟨p',hp',hpt'⟩:=ArenaV.tk_iff.1 ht;have:=M.ext.nd s p' hp' hpt'
   rw [hp] at this;cases this
   exact .inr ⟨h2,p,hp',hpt,e1,e2,e3⟩
 ·rintro (⟨rfl,rfl,rfl,rfl⟩ | ⟨h2,p,hp,hpt,rest⟩)
  ·exact ⟨M.two,_,M.at_,rfl,rfl,rfl,rfl⟩
  ·exact ⟨h2,p,M.ext.nd s p hp hpt,hpt,rest⟩
end Go.Proofs.YtfkopmhpppeheaaGreat
namespace Go.Proofs.YtfkopmhpppeheaaGreat
open Go.RowKit Go.Maps Go.ChangeMaps Go.WideShapes
structure MakePost (b:Nat) (v:Int) (lo hi:Nat) (K:KV) (q:KPtr) (w:World) (e:Ending) (w':World):Prop where
 ex:∃ (r:Nat) (code:Int) (K':KV) (T':List DM) (q':KPtr),e=.returned (.tuple #[.int .u32 r,.int .i64 code])/\MakeR K v lo hi r code K'/\KerIn w' b K' T' q'/\Upd (q.all b) w w'/\Sub (q.all b) w (q'.all b)
theorem var_live (b:Nat) (v:Int) (K:KV) (T:List DM) (q:KPtr) (w:World) (h:KerIn w b K T q) :
  Calls Tryz.prog 78 #[.pointer (some ⟨b,0,none⟩),.int .i64 v] w fun e w'=>MakePost b v 0 1 K q w e w':=by
 have HK:=Lib.hid h;clear h
 go_enter Tryz.func78,Tryz.ntmps78
 go_wp2_with fail;refine (make_spec b v 0 1 K T q w HK.out (by omega) (by omega)).mono ?_;rintro e w1 ⟨r,code,K',T',q',rfl,hE⟩;have HE:=Lib.hid hE;clear hE;go_wp2_with fail;go_ret2;exact ⟨r,code,K',T',q',rfl,HE.out⟩
theorem or_live (b f g:Nat) (K:KV) (T:List DM) (q:KPtr) (w:World) (h:KerIn w b K T q) (hf:K.A.tk f=true) (hg:K.A.tk g=true) :
  Calls Tryz.prog 91 #[.pointer (some ⟨b,0,none⟩),.int .u32 f,.int .u32 g] w fun e w'=>OpPost b K q (K.fun3 (fun x y _=>opB 14 x y) f g 0) w e w':=by
 have HC:=Lib.hid (binary_live b 14 f g K T q w h (by omega) hf hg);clear h hf hg
 go_enter Tryz.func91,Tryz.ntmps91
 go_wp2_with fail;refine HC.out.mono ?_;rintro e w1 hE;obtain ⟨r,code,K',T',q',rfl,hP⟩:=hE.ex;have HE:=Lib.hid hP;clear hE hP HC;go_wp2_with fail;go_ret2;exact ⟨r,code,K',T',q',rfl,HE.out⟩
theorem Hangs.var {t:(Nat->Bool)->Bool} {a:Nat} (h:∀ y,t y=y a) (v:Nat):Hangs t v↔v=a:=by
 constructor
 ·rintro ⟨y,hy⟩
  rw [h,h] at hy
  by_cases e:v=a
  ·exact e
  ·simp [upd,Ne.symm e] at hy
 ·rintro rfl
  exact ⟨fun _=>true,by rw [h,h];simp [upd]⟩
def tabV (t:TV) (c:Value):Value:=.agg #[.int .i64 t.n,c]
structure TIn (w:World) (Z:List Nat) (c:Value) (t:TV):Prop where
 ok:t.Ok
 row:w.ownsRow 0 90 1 c t.ws.length (flatU t.ws)
 fr:∀ k,c.ownBlock=some k->k∉Z
theorem TIn.keep {w w':World} {Z S:List Nat} {c:Value} {t:TV} (h:TIn w Z c t) (u:Upd S w w') (hS:∀ k,k∈S->k∈Z\/w.heap.size<=k):TIn w' Z c t :=
 ⟨h.ok,row_keep h.row fun k hk=>u.block k (h.row.lt k hk).2 fun hm=>by
  rcases hS k hm with h1 | h1
  ·exact h.fr k hk h1
  ·have:=(h.row.lt k hk).2;omega,h.fr⟩
theorem TIn.keep0 {w w':World} {Z:List Nat} {c:Value} {t:TV} (h:TIn w Z c t) (u:Upd [] w w'):TIn w' Z c t:=h.keep u (by simp)
theorem TIn.apart {w:World} {Z Z':List Nat} {c:Value} {t:TV} (h:TIn w Z c t) (hs:Sub Z w Z'):TIn w Z' c t :=
 ⟨h.ok,h.row,fun k hk hm=>by
  rcases hs k hm with h1 | h1
  ·exact h.fr k hk h1
  ·have:=(h.row.lt k hk).2;omega⟩
theorem TV.Ok.len_le {t:TV} (h:t.Ok):t.ws.length<=1024:=by
 have e:=h.len;have h1:=h.n16
 have h2:wordsN t.n<=1024:=by
  unfold wordsN;split
  ·omega
  ·have:(2:Nat) ^ (t.n-6)<=2 ^ 10:=Nat.pow_le_pow_right (by omega) (by omega)
   omega
 omega
theorem boxT (w:World) (x y:Value):(w.alloc (.cells #[x,y] 122 (0,0))).cell? ⟨w.heap.size,0,none⟩=some x/\(w.alloc (.cells #[x,y] 122 (0,0))).cell? ⟨w.heap.size,1,none⟩=some y:=by
 have hb:=heap_alloc_new w (.cells #[x,y] 122 (0,0));exact ⟨cell_at hb rfl,cell_at hb rfl⟩
theorem same_spec (Z:List Nat) (c d:Value) (t u:TV) (w:World) (h1:TIn w Z c t) (h2:TIn w Z d u) :
  Calls Tryz.prog 57 #[tabV t c,tabV u d] w fun e w'=>e=.returned (.bool (decide (t=u)))/\Upd [] w w':=by
 unfold tabV;obtain ⟨tn,tw⟩:=t;obtain ⟨un,uw⟩:=u;have hl1:tw.length<=1024:=h1.ok.len_le;have hl2:uw.length<=1024:=h2.ok.len_le;obtain ⟨fa,ca,hca,_⟩:=row_nil_len h1.row;obtain ⟨fb,cb,hcb,_⟩:=row_nil_len h2.row;subst hca hcb;have r1:w.ownsRow 0 90 1 (.slice fa tw.length ca) tw.length (flatU tw):=h1.row;have r2:w.ownsRow 0 90 1 (.slice fb uw.length cb) uw.length (flatU uw):=h2.row;clear h1 h2
 show Calls _ _ #[.agg #[.int .i64 tn,.slice fa tw.length ca],.agg #[.int .i64 un,.slice fb uw.length cb]] _ _
 generalize e1:tw.length=n1 at r1 hl1;generalize e2:uw.length=n2 at r2 hl2;have HT:=Lib.hid (And.intro r1 r2);have HL:=Lib.hid (And.intro e1 e2);clear r1 r2 e1 e2
 by_cases hn:tn=un
 ·subst hn
  have hE:(decide ((⟨tn,tw⟩ : TV)=⟨tn,uw⟩))=decide (tw=uw):=by congr 1;simp
  rw [hE];clear hE;have HU2:=Lib.hid (((Upd.refl [] w).alloc (.cells #[.int .i64 tn,.slice fa n1 ca] 122 (0,0))).alloc (.cells #[.int .i64 tn,.slice fb n2 cb] 122 (0,0)));obtain ⟨a0,a1⟩:=boxT w (.int .i64 tn) (.slice fa n1 ca);obtain ⟨b0,b1⟩:=boxT (w.alloc (.cells #[.int .i64 tn,.slice fa n1 ca] 122 (0,0))) (.int .i64 tn) (.slice fb n2 cb);rw [World.size_alloc] at b0 b1;have q0:((w.alloc (.cells #[.int .i64 tn,.slice fa n1 ca] 122 (0,0))).alloc (.cells #[.int .i64 tn,.slice fb n2 cb] 122 (0,0))).cell? ⟨w.heap.size,0,none⟩=some (.int .i64 tn):=(((Upd.refl [] _).alloc _).cell (World.block_lt_of_cell? _ _ a0) (by simp)).trans a0;have q1:((w.alloc (.cells #[.int .i64 tn,.slice fa n1 ca] 122 (0,0))).alloc (.cells #[.int .i64 tn,.slice fb n2 cb] 122 (0,0))).cell? ⟨w.heap.size,1,none⟩=some (.slice fa n1 ca):=(((Upd.refl [] _).alloc _).cell (World.block_lt_of_cell? _ _ a1) (by simp)).trans a1;clear a0 a1
  by_cases hl:n1=n2
  ·subst hl
   go_enter Tryz.func57,Tryz.ntmps57
   go_wp2_with fail
   go_loopg [5] n1 (fun g s5 wr=>∃ i:Nat,n1-i=g/\i<=n1/\s5=.int .i64 i/\tw.take i=uw.take i/\Upd [] ((w.alloc (.cells #[.int .i64 tn,.slice fa n1 ca] 122 (0,0))).alloc (.cells #[.int .i64 tn,.slice fb n1 cb] 122 (0,0))) wr)
   case atStart=>exact ⟨0,by omega,by omega,rfl,rfl,Upd.refl _ _⟩
   case round =>
    obtain ⟨i,rfl,hi,rfl,ht,hU⟩:=hrel;have p1:=(hU.cell (World.block_lt_of_cell? _ _ q1) (by simp)).trans q1;have p2:=(hU.cell (World.block_lt_of_cell? _ _ b1) (by simp)).trans b1
    by_cases hlt:i<n1
    ·obtain ⟨x,hx⟩ : ∃ x,tw[i]?=some x:=⟨_,List.getElem?_eq_getElem (by rw [HL.out.1];exact hlt)⟩
     obtain ⟨y,hy⟩ : ∃ y,uw[i]?=some y:=⟨_,List.getElem?_eq_getElem (by rw [HL.out.2];exact hlt)⟩;obtain ⟨ga,rfl⟩:=row_some HT.out.1 (by omega);obtain ⟨gb,rfl⟩:=row_some HT.out.2 (by omega)
     have r1:=row_keep HT.out.1 fun k hk=>(HU2.out.trans hU).block k (HT.out.1.lt k hk).2 (by simp)
     have r2:=row_keep HT.out.2 fun k hk=>(HU2.out.trans hU).block k (HT.out.2.lt k hk).2 (by simp)
     have c1:=row_cell r1 (j:=i) (u:=.int .u64 x) (by simp [flatU,hx]);have c2:=row_cell r2 (j:=i) (u:=.int .u64 y) (by simp [flatU,hy])
     have hil:(i:Int)<(n1:Int):=by omega
     clear q0 q1 b0 b1 r1 r2
     by_cases hxy:x=y
     ·have hb1:(x == y)=true:=by simpa using hxy
      have HE:Hid (tw.take (i+1)=uw.take (i+1)/\Upd [] _ wr):=⟨by rw [List.take_add_one,List.take_add_one,ht,hx,hy,hxy],hU⟩;clear ht hU hx hy;go_wp2_with fail
      go_region
      go_wp2_with fail
      go_roundg (n1-(i+1))
      case measure=>omega
      case rel=>exact ⟨i+1,rfl,by omega,by simp,HE.out.1,HE.out.2.drew⟩
     ·have hb1:(x == y)=false:=by simpa using hxy
      have HE:Hid (¬ (tw=uw)/\Upd [] _ wr):=⟨fun e=>hxy (by rw [e,hy] at hx;exact (Option.some.inj hx).symm),HU2.out.trans hU⟩;clear ht hU hx hy;go_wp2_with fail
      go_region
      go_wp2_with fail;go_ret;exact ⟨by rw [decide_eq_false HE.out.1];rfl,HE.out.2.drew⟩
    ·obtain rfl:i=n1:=by omega
     have hil:¬ ((i:Int)<(i:Int)):=by omega
     have HE:Hid ((tw=uw)/\Upd [] w wr):=⟨by rw [List.take_of_length_le (by rw [HL.out.1];omega),List.take_of_length_le (by rw [HL.out.2];omega)] at ht;exact ht,HU2.out.trans hU⟩;clear ht hU q0 q1 b0 b1;go_wp2_with fail;go_ret;exact ⟨by rw [decide_eq_true HE.out.1];rfl,HE.out.2⟩
  ·have hl3:((n1:Int) == (n2:Int))=false:=by rw [beq_eq_false_iff_ne];omega
   have hl4:¬ ((n1:Int)=(n2:Int)):=by omega
   have HE:Hid (¬ (tw=uw)):=fun e=>hl (by have:=HL.out;rw [e] at this;omega)
   go_enter Tryz.func57,Tryz.ntmps57
   go_wp2_with fail;go_ret;exact ⟨by rw [decide_eq_false HE.out];rfl,HU2.out⟩
 ·have hn1:((tn:Int) == (un:Int))=false:=by rw [beq_eq_false_iff_ne];omega
  have hn4:¬ ((tn:Int)=(un:Int)):=by omega
  have hE:decide ((⟨tn,tw⟩ : TV)=⟨un,uw⟩)=false:=decide_eq_false fun e=>hn (by injection e)
  rw [hE];clear hE;have HU2:=Lib.hid (((Upd.refl [] w).alloc (.cells #[.int .i64 tn,.slice fa n1 ca] 122 (0,0))).alloc (.cells #[.int .i64 un,.slice fb n2 cb] 122 (0,0)));obtain ⟨a0,a1⟩:=boxT w (.int .i64 tn) (.slice fa n1 ca);obtain ⟨b0,b1⟩:=boxT (w.alloc (.cells #[.int .i64 tn,.slice fa n1 ca] 122 (0,0))) (.int .i64 un) (.slice fb n2 cb);rw [World.size_alloc] at b0 b1;have q0:((w.alloc (.cells #[.int .i64 tn,.slice fa n1 ca] 122 (0,0))).alloc (.cells #[.int .i64 un,.slice fb n2 cb] 122 (0,0))).cell? ⟨w.heap.size,0,none⟩=some (.int .i64 tn):=(((Upd.refl [] _).alloc _).cell (World.block_lt_of_cell? _ _ a0) (by simp)).trans a0;clear a0 a1
  go_enter Tryz.func57,Tryz.ntmps57
  go_wp2_with fail;go_ret;exact ⟨rfl,HU2.out⟩
theorem bit_mod {x:Int} (hx:U64 x) (v:Nat):(x/2 ^ v % 2 == 1)=nb x v:=by
 obtain ⟨n,rfl⟩ : ∃ n:Nat,x=(n:Int):=⟨x.toNat,by unfold U64 at hx;omega⟩
 have e:((n:Int)/2 ^ v % 2)=((n/2 ^ v % 2:Nat):Int):=by push_cast;rfl
 rw [e,nb_cast,Nat.testBit_eq_decide_div_mod_eq,Bool.eq_iff_iff,beq_iff_eq,decide_eq_true_eq];omega
theorem bit_tmod {x:Int} (hx:U64 x) (v:Nat):((x/2 ^ v).tmod 2 == 1)=nb x v:=by
 rw [<- bit_mod hx,Int.tmod_eq_emod_of_nonneg (Int.ediv_nonneg hx.1 (Int.le_of_lt (Int.pow_pos (by omega))))]
theorem tbit_spec (Z:List Nat) (c:Value) (t:TV) (x:Nat) (w:World) (h:TIn w Z c t) (hx:x<2 ^ t.n) :
  Calls Tryz.prog 135 #[tabV t c,.int .i64 x] w fun e w'=>e=.returned (.bool (t.bit x))/\Upd [] w w':=by
 unfold tabV;have hd:=div64_lt hx;obtain ⟨w1,w2,w3⟩:=h.ok.word hd;have hlen:=h.ok.len;have hll:=h.ok.len_le;obtain ⟨fa,ca,hca,_⟩:=row_nil_len h.row;subst hca;obtain ⟨ga,rfl⟩:=row_some h.row (by have:=wordsN_pos t.n;omega);have HU:=Lib.hid ((Upd.refl [] w).alloc (.cells #[.int .i64 t.n,.slice (some ⟨ga,0,none⟩) t.ws.length ca] 122 (0,0)));obtain ⟨a0,a1⟩:=boxT w (.int .i64 t.n) (.slice (some ⟨ga,0,none⟩) t.ws.length ca)
 have r1:=row_keep h.row fun k hk=>HU.out.block k (h.row.lt k hk).2 (by simp)
 have c1:=row_cell r1 (j:=x/64) (u:=.int .u64 (t.ws.getD (x/64) 0)) (by rw [flatU,List.getElem?_map,w3];rfl);have HB:Hid (((t.ws.getD (x/64) 0/2 ^ (x % 64)).tmod 2 == 1)=t.bit x):=bit_tmod w1 (x % 64);generalize t.ws.getD (x/64) 0=W at c1 HB;have hx16:x<65536:=Nat.lt_of_lt_of_le hx (by have:(2:Nat) ^ t.n<=2 ^ 16:=Nat.pow_le_pow_right (by omega) h.ok.n16;omega)
 have hq2:(x:Int).tdiv 64=((x/64:Nat):Int):=by rw [Int.tdiv_eq_ediv_of_nonneg (by omega)];omega
 have hr2:(x:Int).tmod 64=((x % 64:Nat):Int):=by rw [Int.tmod_eq_emod_of_nonneg (by omega)];omega
 have hil:((x/64:Nat):Int)<(t.ws.length:Int):=by omega
 have hrl:((x % 64:Nat):Int)<64:=by omega
 have hrl2:x % 64<64:=by omega
 generalize x/64=xq at c1 hq2 hil;generalize x % 64=xr at HB hr2 hrl hrl2;clear h r1 w1 w2 w3 hd hx hlen;generalize t.ws.length=tl at *
 go_enter Tryz.func135,Tryz.ntmps135
 go_wp2_with fail;go_ret;exact ⟨by rw [<- HB.out];rfl,HU.out⟩
theorem words_spec (n:Nat) (w:World) (hn:n<=16):Calls Tryz.prog 133 #[.int .i64 n] w fun e w'=>e=.returned (.int .i64 (wordsN n:Nat))/\w'=w:=by
 by_cases h6:n<=6
 ·have hd:decide ((n:Int)<=6)=true:=by simp;omega
  have HW:Hid (wordsN n=1):=by
   show wordsN n=1
   unfold wordsN;rw [if_pos h6]
  go_enter Tryz.func133,Tryz.ntmps133
  go_wp2_with fail;go_ret;exact ⟨by rw [HW.out];rfl,rfl⟩
 ·have hd:decide ((n:Int)<=6)=false:=by simp;omega
  obtain ⟨m,rfl⟩ : ∃ m,n=m+6:=⟨n-6,by omega⟩
  have hm:m<=10:=by omega
  have hsub:IntKind.i64.wrap (((m+6:Nat):Int)-6)=(m:Int):=by rw [IntWalk.i64_in _ (by omega)];omega
  have hm64:(m:Int)<64:=by omega
  have HW:Hid (wrap64 (2 ^ m)=(wordsN (m+6):Nat)):=by
   show _=_
   have h1:(2:Nat) ^ m<=2 ^ 10:=Nat.pow_le_pow_right (by omega) hm
   have h2:((2:Int) ^ m)=((2 ^ m:Nat):Int):=by push_cast;rfl
   have h3:wordsN (m+6)=2 ^ m:=by
    unfold wordsN;split
    ·obtain rfl:m=0:=by omega
     rfl
    ·rw [Nat.add_sub_cancel]
   rw [h3,h2];generalize (2:Nat) ^ m=z at h1
   unfold wrap64;omega
  go_enter Tryz.func133,Tryz.ntmps133
  go_wp2_with fail;go_ret;exact ⟨by rw [<- HW.out];rfl,rfl⟩
end Go.Proofs.YtfkopmhpppeheaaGreat
