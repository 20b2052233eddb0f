import Derived.Test.YtdackeldhdchaaaGreatPR7
set_option maxRecDepth 100000
set_option maxHeartbeats 800000
namespace Go.Proofs.YtdackeldhdchaaaGreat
open Go.RowKit
def lW (n:Nat) (f:Nat->Bool):TV:=⟨n,(List.range (aX n)).map fun i=>((idx 64 fun j=>decide (64*i+j<2 ^ n)&&f (64*i+j):Nat):Int)⟩
theorem gQ (m i:Nat):nb (m:Int) i=m.testBit i:=by simp [nb]
theorem NI (n:Nat) (f:Nat->Bool) {i:Nat} (hi:i<aX n):(lW n f).ws.getD i 0=((idx 64 fun j=>decide (64*i+j<2 ^ n)&&f (64*i+j):Nat):Int):=by
 rw [List.getD_eq_getElem?_getD]
 simp [lW,hi]
theorem jw {n:Nat} (f:Nat->Bool) (hn:n<=16):(lW n f).Ok:=by
 refine ⟨hn,by simp [lW],fun x hx=>?_,fun h6 x hx i hi=>?_⟩
 ·simp only [lW,List.mem_map] at hx
  obtain ⟨i,_,rfl⟩:=hx
  have:=AY 64 fun j=>decide (64*i+j<2 ^ n)&&f (64*i+j)
  unfold jf;omega
 ·have Zt:n<6:=h6
  have vW:2 ^ n<=i:=hi
  simp only [lW,List.mem_map,List.mem_range] at hx
  obtain ⟨j,hj,rfl⟩:=hx
  have hj0:j=0:=by unfold aX at hj;rw [if_pos (by omega)] at hj;omega
  subst hj0;rw [gQ,gp]
  simp;intro _ h;omega
theorem AZ {n:Nat} (f:Nat->Bool) {x:Nat} (hx:x<2 ^ n):(lW n f).bit x=f x:=by
 unfold TV.bit;rw [NI n f (jI hx),gQ,gp]
 have e:64*(x/64)+x % 64=x:=by omega
 simp only [e,hx,decide_true,Bool.true_and]
 have:x % 64<64:=Nat.mod_lt _ (by omega)
 simp [this]
theorem F6 (n:Nat) (f:Nat->Bool):(lW n f).n=n:=rfl
theorem Fz {t:TV} (ht:t.Ok) {f:Nat->Bool} (h:∀ x,x<2 ^ t.n->t.bit x=f x):t=lW t.n f :=
 TV.ext ht (jw f ht.n16) rfl fun x hx=>by rw [h x hx,AZ f hx]
theorem qK {n:Nat} (f:Nat->Bool) (y:Nat->Bool):(lW n f).fn y=f (idx n y):=by
 unfold TV.fn;rw [F6,AZ f (AY n y)]
def jA (n:Nat) (b:Bool):TV:=lW n fun _=>b
def NJ (n v:Nat):TV:=lW n fun x=>x.testBit v
def bG (t:TV) (v:Nat) (b:Bool):TV:=lW t.n fun x=>t.bit (dO x v b)
theorem yP (n:Nat) (b:Bool) (y:Nat->Bool):(jA n b).fn y=b:=qK _ y
theorem eU {t:TV} {v:Nat} (hv:v<t.n) (b:Bool) (y:Nat->Bool):(bG t v b).fn y=t.fn (upd y v b):=by
 unfold bG;rw [qK,NH hv];rfl
theorem kV {t:TV} (ht:t.Ok) (v:Nat) (b:Bool):(bG t v b).Ok:=jw _ ht.n16
def jW (t:TV) (v:Nat):Bool:=!decide (bG t v false=bG t v true)
theorem ik {t:TV} (ht:t.Ok) {v:Nat} (hv:v<t.n):jW t v=true↔fJ t.fn v:=by
 unfold jW;rw [Bool.not_eq_true',decide_eq_false_iff_not];constructor
 ·intro hne
  by_cases hh:∃ y,t.fn (upd y v true)≠t.fn (upd y v false)
  ·exact hh
  ·exfalso
   refine hne (TV.fn_ext (kV ht v false) (kV ht v true) rfl fun y=>?_);rw [eU hv,eU hv]
   by_cases h:t.fn (upd y v false)=t.fn (upd y v true)
   ·exact h
   ·exact absurd ⟨y,fun e=>h e.symm⟩ hh
 ·rintro ⟨y,hy⟩ e
  exact hy (by rw [<- eU hv true y,<- eU hv false y,e])
theorem Du {x v:Nat} (b:Bool) (hv:v<6):dO x v b/64=x/64/\dO x v b % 64=dO (x % 64) v b:=by
 constructor
 ·apply Nat.eq_of_testBit_eq
  intro i
  rw [show (64:Nat)=2 ^ 6 from rfl,Nat.testBit_div_two_pow,Nat.testBit_div_two_pow,gK,if_neg (by omega)]
 ·apply Nat.eq_of_testBit_eq
  intro i
  rw [show (64:Nat)=2 ^ 6 from rfl,Nat.testBit_mod_two_pow,gK,gK,Nat.testBit_mod_two_pow]
  by_cases h:i=v
  ·subst h;simp [hv]
  ·simp [h]
theorem GK {x v:Nat} (b:Bool) (hv:6<=v):dO x v b/64=dO (x/64) (v-6) b/\dO x v b % 64=x % 64:=by
 constructor
 ·apply Nat.eq_of_testBit_eq
  intro i
  rw [show (64:Nat)=2 ^ 6 from rfl,Nat.testBit_div_two_pow,gK,gK,Nat.testBit_div_two_pow]
  by_cases h:i=v-6
  ·subst h;rw [if_pos (by omega),if_pos rfl]
  ·rw [if_neg (by omega),if_neg h]
 ·apply Nat.eq_of_testBit_eq
  intro i
  rw [show (64:Nat)=2 ^ 6 from rfl,Nat.testBit_mod_two_pow,Nat.testBit_mod_two_pow,gK]
  by_cases h:i<6
  ·simp [h,show i≠v by omega]
  ·simp [h]
theorem NK:jf 0:=by unfold jf;omega
theorem UE {x:Int} (hx:jf x) (k i:Nat):jf (x/2 ^ k)/\nb (x/2 ^ k) i=nb x (i+k):=by
 obtain ⟨n,rfl⟩ : ∃ n:Nat,x=(n:Int):=⟨x.toNat,by unfold jf at hx;omega⟩
 have e:((n:Int)/2 ^ k)=((n/2 ^ k:Nat):Int):=by push_cast;rfl
 refine ⟨?_,?_⟩
 ·rw [e]
  have h1:=Nat.div_le_self n (2 ^ k);generalize n/2 ^ k=m at h1 ⊢
  unfold jf at hx ⊢;omega
 ·rw [e,gQ,gQ,Nat.testBit_div_two_pow,Nat.add_comm]
theorem UF {x:Int} (hx:jf x) (k i:Nat):nb (IntKind.u64.wrap (x*2 ^ k)) i=(decide (i<64)&&(decide (k<=i)&&nb x (i-k))):=by
 obtain ⟨n,rfl⟩ : ∃ n:Nat,x=(n:Int):=⟨x.toNat,by unfold jf at hx;omega⟩
 have e:IntKind.u64.wrap ((n:Int)*2 ^ k)=((n*2 ^ k % 18446744073709551616:Nat):Int):=by
  have h1:IntKind.u64.wrap ((n:Int)*2 ^ k)=((n:Int)*2 ^ k) % 18446744073709551616:=rfl
  have h2:(n:Int)*2 ^ k=((n*2 ^ k:Nat):Int):=by push_cast;rfl
  rw [h1,h2];generalize n*2 ^ k=m;omega
 rw [e,gQ,gQ,show (18446744073709551616:Nat)=2 ^ 64 from rfl,Nat.testBit_mod_two_pow,Nat.testBit_mul_two_pow]
def jP (v:Nat) (b:Bool) (ed w:Int):Int :=
 if b then bits BinOp.or IntKind.u64 (bits BinOp.and IntKind.u64 w ed) (bits BinOp.and IntKind.u64 w ed/2 ^ (2 ^ v))
 else bits BinOp.or IntKind.u64 (bits BinOp.andNot IntKind.u64 w ed) (IntKind.u64.wrap (bits BinOp.andNot IntKind.u64 w ed*2 ^ (2 ^ v)))
theorem zl:∀ v,v<6->∀ i,i<64->(((i+2 ^ v).testBit v=!i.testBit v)/\(i.testBit v=true->2 ^ v<=i/\(i-2 ^ v).testBit v=false)/\(2 ^ v<=i->i.testBit v=false->(i-2 ^ v).testBit v=true)):=by decide +kernel
theorem xu {v:Nat} (hv:v<6) (b:Bool) {ed w:Int} (hw:jf w) (ho:jf ed) (hob:∀ i,i<64->nb ed i=i.testBit v):jf (jP v b ed w)/\∀ i,i<64->nb (jP v b ed w) i=nb w (dO i v b):=by
 have p6:(2:Nat) ^ v<=32:=by
  have:(2:Nat) ^ v<=2 ^ 5:=Nat.pow_le_pow_right (by omega) (by omega);omega
 unfold jP
 cases b with
 | true =>
  rw [if_pos rfl];have hA:=qA BinOp.and w ed
  have hS:=fun i=>UE hA (2 ^ v) i
  refine ⟨qA _ _ _,fun i hi=>?_⟩;obtain ⟨f1,f2,f3⟩:=zl v hv i hi;rw [Rl hA (hS 0).1,(hS i).2,NF hw ho,NF hw ho,hob i hi];unfold dO
  cases hb:i.testBit v with
  | true =>
   rw [if_pos rfl]
   have:nb ed (i+2 ^ v)=false:=by
    by_cases Vk:i+2 ^ v<64
    ·rw [hob _ Vk,f1,hb];rfl
    ·exact AX ho (by omega)
   rw [this];simp
  | false =>
   simp only [Bool.false_eq_true,if_false,if_true,Bool.and_false,Bool.false_or]
   by_cases Vk:i+2 ^ v<64
   ·rw [hob _ Vk,f1,hb];simp
   ·rw [AX hw (by omega)];simp
 | false =>
  simp only [Bool.false_eq_true,if_false]
  have hA:=qA BinOp.andNot w ed;refine ⟨qA _ _ _,fun i hi=>?_⟩;obtain ⟨f1,f2,f3⟩:=zl v hv i hi;have nO:=Nat.sub_le i (2 ^ v);rw [Rl hA (wrap_u64 _),UF hA,rF hw ho hi,hob i hi];unfold dO
  cases hb:i.testBit v with
  | true =>
   obtain ⟨g1,g2⟩:=f2 hb
   simp only [Bool.not_true,Bool.and_false,Bool.false_or,hi,decide_true,Bool.true_and,g1]
   rw [rF hw ho (by omega),hob _ (by omega),g2];simp
  | false =>
   rw [if_pos rfl]
   simp only [Bool.not_false,Bool.and_true,hi,decide_true,Bool.true_and]
   by_cases hle:2 ^ v<=i
   ·rw [rF hw ho (by omega),hob _ (by omega),f3 hle hb];simp
   ·simp [hle]
theorem PW {t:TV} (ht:t.Ok) {v:Nat} (hv:v<6) (zD:v<t.n) (b:Bool) {ed:Int} (ho:jf ed) (hob:∀ i,i<64->nb ed i=i.testBit v):bG t v b=⟨t.n,t.ws.map (jP v b ed)⟩:=by
 have dY:(⟨t.n,t.ws.map (jP v b ed)⟩ : TV).Ok:=by
  refine ⟨ht.n16,by simp [ht.len],fun x hx=>?_,fun h6 x hx i hi=>?_⟩
  ·obtain ⟨w,hw,rfl⟩:=List.mem_map.1 hx
   exact (xu hv b (ht.u w hw) ho hob).1
  ·obtain ⟨w,hw,rfl⟩:=List.mem_map.1 hx
   have hc:=xu hv b (ht.u w hw) ho hob
   by_cases Vk:i<64
   ·rw [hc.2 i Vk]
    have Zt:t.n<6:=h6;have vW:2 ^ t.n<=i:=hi;refine ht.low Zt w hw _ ?_
    by_cases aZ:dO i v b<2 ^ t.n
    ·exfalso
     have:dO (dO i v b) v (i.testBit v)=i:=by
      apply Nat.eq_of_testBit_eq
      intro u
      rw [gK,gK]
      by_cases hu:u=v
      ·subst hu;simp
      ·simp [hu]
     have h2:=zo (i.testBit v) aZ zD
     rw [this] at h2;omega
    ·omega
   ·exact AX hc.1 (by omega)
 refine (Fz dY fun x hx=>?_).symm;have hd:=jI (n:=t.n) hx;obtain ⟨w1,w2,w3⟩:=ht.word hd;unfold TV.bit
 have e:(t.ws.map (jP v b ed)).getD (x/64) 0=jP v b ed (t.ws.getD (x/64) 0):=by
  rw [List.getD_eq_getElem?_getD,List.getElem?_map,w3];rfl
 show nb ((t.ws.map (jP v b ed)).getD (x/64) 0) (x % 64)=nb (t.ws.getD (dO x v b/64) 0) (dO x v b % 64)
 rw [e,(xu hv b w1 ho hob).2 _ (Nat.mod_lt _ (by omega)),(Du b hv).1,(Du b hv).2]
theorem RD {t:TV} (ht:t.Ok) {v:Nat} (hv:6<=v) (zD:v<t.n) (b:Bool):bG t v b=⟨t.n,(List.range t.ws.length).map fun i=>t.ws.getD (dO i (v-6) b) 0⟩:=by
 have hw:=kT (n:=t.n) (by omega);have hlen:=ht.len
 have hp:(2:Nat) ^ t.n=2 ^ (t.n-6)*64:=by
  have:t.n=(t.n-6)+6:=by omega
  conv=>lhs;rw [this,Nat.pow_add]
 have ZO:aX t.n=2 ^ (t.n-6):=by omega
 have hsl:∀ i,i<aX t.n->dO i (v-6) b<aX t.n:=fun i hi=>by
  rw [ZO] at hi ⊢;exact zo b hi (by omega)
 have dY:(⟨t.n,(List.range t.ws.length).map fun i=>t.ws.getD (dO i (v-6) b) 0⟩ : TV).Ok:=by
  refine ⟨ht.n16,by simp [hlen],fun x hx=>?_,fun h6 x hx i hi=>?_⟩
  ·obtain ⟨i,hi,rfl⟩:=List.mem_map.1 hx
   rw [List.mem_range,hlen] at hi;exact (ht.word (hsl i hi)).1
  ·have Zt:t.n<6:=h6
   omega
 refine (Fz dY fun x hx=>?_).symm;have hd:=jI (n:=t.n) hx;unfold TV.bit
 have e:((List.range t.ws.length).map fun i=>t.ws.getD (dO i (v-6) b) 0).getD (x/64) 0=t.ws.getD (dO (x/64) (v-6) b) 0:=by
  rw [List.getD_eq_getElem?_getD,List.getElem?_map,List.getElem?_range (by omega)];rfl
 show nb (((List.range t.ws.length).map fun i=>t.ws.getD (dO i (v-6) b) 0).getD (x/64) 0) (x % 64)=nb (t.ws.getD (dO x v b/64) 0) (dO x v b % 64)
 rw [e,(GK b hv).1,(GK b hv).2]
end Go.Proofs.YtdackeldhdchaaaGreat
namespace Go.Proofs.YtdackeldhdchaaaGreat
structure Plain (K:KV) (n m:Nat):Prop where
 ok:K.Ok
 uni:K.Uni
 vr:K.vars=n
 lv:∀ v,v<n->K.lev v=v
 pl:K.A.places=m
theorem Hq {n m:Nat} (h1:1<=n) (hn:n<=64) (h2:2<=m) (hm:m<=1048576):Plain (KV.new n m) n m:=by
 refine ⟨KV.new_ok h1 hn h2 hm,(di.new n m).uni (KV.new_ok h1 hn h2 hm).wf,rfl,fun v hv=>by simp [KV.lev,KV.new,hv],rfl⟩
end Go.Proofs.YtdackeldhdchaaaGreat
namespace Go.Proofs.YtdackeldhdchaaaGreat
open Go.RowKit Go.Maps Go.ChangeMaps Go.WideShapes
def bK (t:TV) (c:Value):Value:=.agg #[.int .i64 t.n,c]
structure ng (w:World) (Z:List Nat) (c:Value) (n:Nat) (xs:List Value):Prop where
 form:∃ (a:Option Addr) (m:Nat),c=.slice a n m/\(a=none/\n=0/\m=0\/∃ x,a=some x)
 cells:∀ (x:Addr) (n' m:Nat),c=.slice (some x) n' m->∀ j u,xs[j]?=some u->w.cell? (x.add j)=some u
 lt:∀ k,c.ownBlock=some k->0<=k/\k<w.heap.size
 ty:∀ k,c.ownBlock=some k->(∃ cs fr,w.heap[k]?=some (.cells cs 90 fr))\/((∃ z,z∈Z)/\∀ z,z∈Z->k<z)
theorem zh (x:Addr) (j:Nat):(x.add j).block=x.block:=by unfold Addr.add;split <;> rfl
theorem ng.kp {w w':World} {Z:List Nat} {c:Value} {n:Nat} {xs:List Value} (h:ng w Z c n xs) (hk:∀ k,c.ownBlock=some k->w'.heap[k]?=w.heap[k]?):ng w' Z c n xs :=
 ⟨h.form,fun x n' m e j u hj=>by rw [<- h.cells x n' m e j u hj];exact World.cell?_of_block (by rw [zh];exact hk x.block (by rw [e];rfl)),fun k e=>⟨Nat.zero_le _,by
  by_cases hl:k<w'.heap.size
  ·exact hl
  ·have h1:=hk k e
   rw [Array.getElem?_eq_none (by omega),Array.getElem?_eq_getElem (h.lt k e).2] at h1
   cases h1⟩,fun k e=>by rw [hk k e];exact h.ty k e⟩
theorem ng.of {w:World} {b:Nat} {Z:List Nat} {c:Value} {n:Nat} {xs:List Value} (h:w.ownsRow b 90 1 c n xs):ng w Z c n xs:=by
 have hl:=h.lt
 have hc:=fun g (hg:c.ownBlock=some g)=>h.cells hg
 obtain ⟨_,(⟨e1,h1⟩ | ⟨g,cap,cur,e1,hg,hh,_⟩)⟩:=h
 ·subst h1
  exact ⟨⟨none,0,e1,.inl ⟨rfl,rfl,rfl⟩⟩,fun x n' m e=>by rw [e1] at e;simp at e,fun k e=>⟨Nat.zero_le _,(hl k e).2⟩,fun k e=>by rw [e1] at e;simp [Value.ownBlock] at e⟩
 ·refine ⟨⟨_,cap,e1,.inr ⟨_,rfl⟩⟩,fun x n' m e j u hj=>?_,fun k e=>⟨Nat.zero_le _,(hl k e).2⟩,fun k e=>.inl ?_⟩
  ·rw [e1] at e;simp at e;obtain ⟨rfl,_⟩:=e
   exact hc g (by rw [e1];rfl) j u hj
  ·rw [e1] at e;simp [Value.ownBlock] at e;subst e;exact ⟨_,_,hh⟩
theorem ng.some_ {w:World} {Z:List Nat} {a:Option Addr} {n' m n:Nat} {xs:List Value} (h:ng w Z (.slice a n' m) n xs) (hn:0<n):∃ x,a=some x:=by
 obtain ⟨a,m,e,(⟨_,h1,_⟩ | h1)⟩:=h.form
 ·omega
 ·simp at e;obtain ⟨rfl,_⟩:=e;exact h1
theorem ng.other {w:World} {Z Z':List Nat} {c:Value} {n:Nat} {xs:List Value} (h:ng w Z c n xs) (h0:∃ z,z∈Z') (hs:∀ k,k∈Z'->k∈Z\/w.heap.size<=k):ng w Z' c n xs :=
 ⟨h.form,h.cells,h.lt,fun k e=>(h.ty k e).imp id fun h1=>⟨h0,fun z hz=>by
  rcases hs z hz with h2 | h2
  ·exact h1.2 z h2
  ·exact Nat.lt_of_lt_of_le (h.lt k e).2 h2⟩⟩
class RowForm (R:Prop) (v:outParam Value) (n:outParam Nat):Prop where
 form:R->∃ (a:Option Addr) (m:Nat),v=.slice a n m/\(a=none/\n=0/\m=0\/∃ x,a=some x)
instance {w:World} {b:Nat} {e:TypeId} {sz n:Nat} {v:Value} {xs:List Value}:RowForm (w.ownsRow b e sz v n xs) v n:=⟨fun h=>by
 obtain ⟨a,m,e,h1⟩:=aC h
 exact ⟨a,m,e,h1.imp id fun ⟨g,e⟩=>⟨_,e⟩⟩⟩
instance {w:World} {Z:List Nat} {c:Value} {n:Nat} {xs:List Value}:RowForm (ng w Z c n xs) c n:=⟨fun h=>h.form⟩
theorem fP {R:Prop} {v:Value} {n:Nat} [i:RowForm R v n] (h:R):∃ (a:Option Addr) (m:Nat),v=.slice a n m/\(a=none/\n=0/\m=0\/∃ x,a=some x):=i.form h
structure fO (w:World) (Z:List Nat) (c:Value) (t:TV):Prop where
 ok:t.Ok
 row:ng w Z c t.ws.length (dB t.ws)
 fr:∀ k,c.ownBlock=some k->k∉Z
theorem fO.keep {w w':World} {Z S:List Nat} {c:Value} {t:TV} (h:fO w Z c t) (u:af S w w') (hS:∀ k,k∈S->k∈Z\/w.heap.size<=k):fO w' Z c t :=
 ⟨h.ok,h.row.kp fun k hk=>u.block k (h.row.lt k hk).2 fun hm=>by
  rcases hS k hm with h1 | h1
  ·exact h.fr k hk h1
  ·have:=(h.row.lt k hk).2;omega,h.fr⟩
theorem fO.keep0 {w w':World} {Z:List Nat} {c:Value} {t:TV} (h:fO w Z c t) (u:af [] w w'):fO w' Z c t:=h.keep u (by simp)
theorem fO.apart {w:World} {Z Z':List Nat} {c:Value} {t:TV} (h:fO w Z c t) (hs:Sub Z w Z') (h0:∃ z,z∈Z':=by first | assumption | exact ⟨_,List.mem_append.2 (.inr (aQ.mem.2 (.inl rfl)))⟩ | exact ⟨_,List.mem_append.2 (.inl (aQ.mem.2 (.inl rfl)))⟩ | exact ⟨_,List.mem_append.2 (.inr (List.mem_append.2 (.inr (aQ.mem.2 (.inl rfl)))))⟩ | (simp [aQ.all,exists_or];done)):fO w Z' c t :=
 ⟨h.ok,h.row.other h0 hs,fun k hk hm=>by
  rcases hs k hm with h1 | h1
  ·exact h.fr k hk h1
  ·have:=(h.row.lt k hk).2;omega⟩
theorem fO.any {w:World} {Z:List Nat} {c:Value} {t:TV} (h:fO w Z c t):fO w [w.heap.size] c t :=
 ⟨h.ok,⟨h.row.form,h.row.cells,h.row.lt,fun k e=>(h.row.ty k e).imp id fun _=>⟨⟨_,List.mem_singleton.2 rfl⟩,fun z hz=>by rw [List.mem_singleton.1 hz];exact (h.row.lt k e).2⟩⟩,fun k hk hm=>by
  have:=(h.row.lt k hk).2;rw [List.mem_singleton.1 hm] at this
  omega⟩
theorem fO.nb {w:World} {Z:List Nat} {c:Value} {t:TV} (h:fO w Z c t) {k:Nat} {cs:Array Value} {e:TypeId} {fr:Nat × Nat} (hb:w.heap[k]?=some (.cells cs e fr)) (hne:90≠e) (hz:(∃ z,z∈Z)->∃ z,z∈Z/\z<=k):c.ownBlock≠some k:=fun hk=>by
 rcases h.row.ty k hk with ⟨c1,f1,e1⟩ | ⟨h0,h1⟩
 ·rw [hb] at e1;injection e1 with e1;injection e1 with _ e1 _;exact hne e1.symm
 ·obtain ⟨z,h2,h3⟩:=hz h0
  have:=h1 z h2;omega
theorem TV.Ok.len_le {t:TV} (h:t.Ok):t.ws.length<=1024:=by
 have e:=h.len;have h1:=h.n16
 have h2:aX t.n<=1024:=by
  unfold aX;split
  ·omega
  ·have:(2:Nat) ^ (t.n-6)<=2 ^ 10:=Nat.pow_le_pow_right (by omega) (by omega)
   omega
 omega
theorem jc (w:World) (x y:Value):(w.alloc (.cells #[x,y] 121 (0,0))).cell? ⟨w.heap.size,0,none⟩=some x/\(w.alloc (.cells #[x,y] 121 (0,0))).cell? ⟨w.heap.size,1,none⟩=some y:=by
 have hb:=heap_alloc_new w (.cells #[x,y] 121 (0,0));exact ⟨ae hb rfl,ae hb rfl⟩
theorem iE (Z:List Nat) (c d:Value) (t u:TV) (w:World) (h1:fO w Z c t) (h2:fO w Z d u) :
  Calls Tryz.prog 122 #[bK t c,bK u d] w fun e w'=>e=.returned (.bool (decide (t=u)))/\af [] w w':=by
 unfold bK;obtain ⟨tn,tw⟩:=t;obtain ⟨un,uw⟩:=u;have oW:tw.length<=1024:=h1.ok.len_le;have DZ:uw.length<=1024:=h2.ok.len_le;obtain ⟨fa,ca,FH,_⟩:=fP h1.row;obtain ⟨fb,cb,NR,_⟩:=fP h2.row;subst FH NR;have r1:ng w Z (.slice fa tw.length ca) tw.length (dB tw):=h1.row;have r2:ng w Z (.slice fb uw.length cb) uw.length (dB uw):=h2.row;clear h1 h2
 show Calls _ _ #[.agg #[.int .i64 tn,.slice fa tw.length ca],.agg #[.int .i64 un,.slice fb uw.length cb]] _ _
 generalize e1:tw.length=n1 at r1 oW;generalize e2:uw.length=n2 at r2 DZ;have HT:=Lib.hid (And.intro r1 r2);have HL:=Lib.hid (And.intro e1 e2);clear r1 r2 e1 e2
 by_cases hn:tn=un
 ·subst hn
  have hE:(decide ((⟨tn,tw⟩ : TV)=⟨tn,uw⟩))=decide (tw=uw):=by congr 1;simp
  rw [hE];clear hE;have dF:=Lib.hid (((af.refl [] w).alloc (.cells #[.int .i64 tn,.slice fa n1 ca] 121 (0,0))).alloc (.cells #[.int .i64 tn,.slice fb n2 cb] 121 (0,0)));obtain ⟨a0,a1⟩:=jc w (.int .i64 tn) (.slice fa n1 ca);obtain ⟨b0,b1⟩:=jc (w.alloc (.cells #[.int .i64 tn,.slice fa n1 ca] 121 (0,0))) (.int .i64 tn) (.slice fb n2 cb);rw [World.size_alloc] at b0 b1;have q0:((w.alloc (.cells #[.int .i64 tn,.slice fa n1 ca] 121 (0,0))).alloc (.cells #[.int .i64 tn,.slice fb n2 cb] 121 (0,0))).cell? ⟨w.heap.size,0,none⟩=some (.int .i64 tn):=(((af.refl [] _).alloc _).cell (World.block_lt_of_cell? _ _ a0) (by simp)).trans a0;have q1:((w.alloc (.cells #[.int .i64 tn,.slice fa n1 ca] 121 (0,0))).alloc (.cells #[.int .i64 tn,.slice fb n2 cb] 121 (0,0))).cell? ⟨w.heap.size,1,none⟩=some (.slice fa n1 ca):=(((af.refl [] _).alloc _).cell (World.block_lt_of_cell? _ _ a1) (by simp)).trans a1;clear a0 a1
  by_cases hl:n1=n2
  ·subst hl
   go_enter Tryz.func122,Tryz.ntmps122
   go_wp2_with fail
   go_loopg [5] n1 (fun g s5 wr=>∃ i:Nat,n1-i=g/\i<=n1/\s5=.int .i64 i/\tw.take i=uw.take i/\af [] ((w.alloc (.cells #[.int .i64 tn,.slice fa n1 ca] 121 (0,0))).alloc (.cells #[.int .i64 tn,.slice fb n1 cb] 121 (0,0))) wr)
   case atStart=>exact ⟨0,by omega,by omega,rfl,rfl,af.refl _ _⟩
   case round =>
    obtain ⟨i,rfl,hi,rfl,ht,hU⟩:=hrel;have p1:=(hU.cell (World.block_lt_of_cell? _ _ q1) (by simp)).trans q1;have p2:=(hU.cell (World.block_lt_of_cell? _ _ b1) (by simp)).trans b1
    by_cases aZ:i<n1
    ·obtain ⟨x,hx⟩ : ∃ x,tw[i]?=some x:=⟨_,List.getElem?_eq_getElem (by rw [HL.out.1];exact aZ)⟩
     obtain ⟨y,hy⟩ : ∃ y,uw[i]?=some y:=⟨_,List.getElem?_eq_getElem (by rw [HL.out.2];exact aZ)⟩;obtain ⟨ga,rfl⟩:=HT.out.1.some_ (by omega);obtain ⟨gb,rfl⟩:=HT.out.2.some_ (by omega)
     have r1:=HT.out.1.kp fun k hk=>(dF.out.trans hU).block k (HT.out.1.lt k hk).2 (by simp)
     have r2:=HT.out.2.kp fun k hk=>(dF.out.trans hU).block k (HT.out.2.lt k hk).2 (by simp)
     have c1:=r1.cells _ _ _ rfl i (.int .u64 x) (by simp [dB,hx]);have c2:=r2.cells _ _ _ rfl i (.int .u64 y) (by simp [dB,hy])
     have fE:(i:Int)<(n1:Int):=by omega
     clear q0 q1 b0 b1 r1 r2
     by_cases pR:x=y
     ·have rQ:(x == y)=true:=by simpa using pR
      have HE:Hid (tw.take (i+1)=uw.take (i+1)/\af [] _ wr):=⟨by rw [List.take_add_one,List.take_add_one,ht,hx,hy,pR],hU⟩;clear ht hU hx hy;go_wp2_with fail
      go_region
      go_wp2_with fail
      go_roundg (n1-(i+1))
      case measure=>omega
      case rel=>exact ⟨i+1,rfl,by omega,by simp,HE.out.1,HE.out.2.drew⟩
     ·have rQ:(x == y)=false:=by simpa using pR
      have HE:Hid (¬ (tw=uw)/\af [] _ wr):=⟨fun e=>pR (by rw [e,hy] at hx;exact (Option.some.inj hx).symm),dF.out.trans hU⟩;clear ht hU hx hy;go_wp2_with fail
      go_region
      go_wp2_with fail;go_ret;exact ⟨by rw [decide_eq_false HE.out.1];rfl,HE.out.2.drew⟩
    ·obtain rfl:i=n1:=by omega
     have fE:¬ ((i:Int)<(i:Int)):=by omega
     have HE:Hid ((tw=uw)/\af [] w wr):=⟨by rw [List.take_of_length_le (by rw [HL.out.1];omega),List.take_of_length_le (by rw [HL.out.2];omega)] at ht;exact ht,dF.out.trans hU⟩;clear ht hU q0 q1 b0 b1;go_wp2_with fail;go_ret;exact ⟨by rw [decide_eq_true HE.out.1];rfl,HE.out.2⟩
  ·have QI:((n1:Int) == (n2:Int))=false:=by rw [beq_eq_false_iff_ne];omega
   have hl4:¬ ((n1:Int)=(n2:Int)):=by omega
   have HE:Hid (¬ (tw=uw)):=fun e=>hl (by have:=HL.out;rw [e] at this;omega)
   go_enter Tryz.func122,Tryz.ntmps122
   go_wp2_with fail;go_ret;exact ⟨by rw [decide_eq_false HE.out];rfl,dF.out⟩
 ·have JX:((tn:Int) == (un:Int))=false:=by rw [beq_eq_false_iff_ne];omega
  have hn4:¬ ((tn:Int)=(un:Int)):=by omega
  have hE:decide ((⟨tn,tw⟩ : TV)=⟨un,uw⟩)=false:=decide_eq_false fun e=>hn (by injection e)
  rw [hE];clear hE;have dF:=Lib.hid (((af.refl [] w).alloc (.cells #[.int .i64 tn,.slice fa n1 ca] 121 (0,0))).alloc (.cells #[.int .i64 un,.slice fb n2 cb] 121 (0,0)));obtain ⟨a0,a1⟩:=jc w (.int .i64 tn) (.slice fa n1 ca);obtain ⟨b0,b1⟩:=jc (w.alloc (.cells #[.int .i64 tn,.slice fa n1 ca] 121 (0,0))) (.int .i64 un) (.slice fb n2 cb);rw [World.size_alloc] at b0 b1;have q0:((w.alloc (.cells #[.int .i64 tn,.slice fa n1 ca] 121 (0,0))).alloc (.cells #[.int .i64 un,.slice fb n2 cb] 121 (0,0))).cell? ⟨w.heap.size,0,none⟩=some (.int .i64 tn):=(((af.refl [] _).alloc _).cell (World.block_lt_of_cell? _ _ a0) (by simp)).trans a0;clear a0 a1
  go_enter Tryz.func122,Tryz.ntmps122
  go_wp2_with fail;go_ret;exact ⟨rfl,dF.out⟩
theorem PX {x:Int} (hx:jf x) (v:Nat):(x/2 ^ v % 2 == 1)=nb x v:=by
 obtain ⟨n,rfl⟩ : ∃ n:Nat,x=(n:Int):=⟨x.toNat,by unfold jf at hx;omega⟩
 have e:((n:Int)/2 ^ v % 2)=((n/2 ^ v % 2:Nat):Int):=by push_cast;rfl
 rw [e,gQ,Nat.testBit_eq_decide_div_mod_eq,Bool.eq_iff_iff,beq_iff_eq,decide_eq_true_eq];omega
theorem vH {x:Int} (hx:jf x) (v:Nat):((x/2 ^ v).tmod 2 == 1)=nb x v:=by
 rw [<- PX hx,Int.tmod_eq_emod_of_nonneg (Int.ediv_nonneg hx.1 (Int.le_of_lt (Int.pow_pos (by omega))))]
theorem He (Z:List Nat) (c:Value) (t:TV) (x:Nat) (w:World) (h:fO w Z c t) (hx:x<2 ^ t.n) :
  Calls Tryz.prog 115 #[bK t c,.int .i64 x] w fun e w'=>e=.returned (.bool (t.bit x))/\af [] w w':=by
 unfold bK;have hd:=jI hx;obtain ⟨w1,w2,w3⟩:=h.ok.word hd;have hlen:=h.ok.len;have uH:=h.ok.len_le;have aB:=h.row;obtain ⟨fa,ca,FH,_⟩:=fP h.row;rw [FH] at aB;subst FH;obtain ⟨ga,rfl⟩:=aB.some_ (by have:=oU t.n;omega);have HU:=Lib.hid ((af.refl [] w).alloc (.cells #[.int .i64 t.n,.slice (some ga) t.ws.length ca] 121 (0,0)));obtain ⟨a0,a1⟩:=jc w (.int .i64 t.n) (.slice (some ga) t.ws.length ca)
 have r1:=aB.kp fun k hk=>HU.out.block k (aB.lt k hk).2 (by simp)
 have c1:=r1.cells _ _ _ rfl (x/64) (.int .u64 (t.ws.getD (x/64) 0)) (by rw [dB,List.getElem?_map,w3];rfl);have HB:Hid (((t.ws.getD (x/64) 0/2 ^ (x % 64)).tmod 2 == 1)=t.bit x):=vH w1 (x % 64);generalize t.ws.getD (x/64) 0=W at c1 HB;have ain:x<65536:=Nat.lt_of_lt_of_le hx (by have:(2:Nat) ^ t.n<=2 ^ 16:=Nat.pow_le_pow_right (by omega) h.ok.n16;omega)
 have DR:(x:Int).tdiv 64=((x/64:Nat):Int):=by rw [Int.tdiv_eq_ediv_of_nonneg (by omega)];omega
 have rH:(x:Int).tmod 64=((x % 64:Nat):Int):=by rw [Int.tmod_eq_emod_of_nonneg (by omega)];omega
 have fE:((x/64:Nat):Int)<(t.ws.length:Int):=by omega
 have oP:((x % 64:Nat):Int)<64:=by omega
 have UB:x % 64<64:=by omega
 generalize x/64=xq at c1 DR fE;generalize x % 64=xr at HB rH oP UB;clear h aB r1 w1 w2 w3 hd hx hlen;generalize t.ws.length=tl at *
 go_enter Tryz.func115,Tryz.ntmps115
 go_wp2_with fail;go_ret;exact ⟨by rw [<- HB.out];rfl,HU.out⟩
theorem wU (n:Nat) (w:World) (hn:n<=16):Calls Tryz.prog 113 #[.int .i64 n] w fun e w'=>e=.returned (.int .i64 (aX n:Nat))/\w'=w:=by
 by_cases h6:n<=6
 ·have hd:decide ((n:Int)<=6)=true:=by simp;omega
  have HW:Hid (aX n=1):=by
   show aX n=1
   unfold aX;rw [if_pos h6]
  go_enter Tryz.func113,Tryz.ntmps113
  go_wp2_with fail;go_ret;exact ⟨by rw [HW.out];rfl,rfl⟩
 ·have hd:decide ((n:Int)<=6)=false:=by simp;omega
  obtain ⟨m,rfl⟩ : ∃ m,n=m+6:=⟨n-6,by omega⟩
  have hm:m<=10:=by omega
  have nO:IntKind.i64.wrap (((m+6:Nat):Int)-6)=(m:Int):=by rw [IntWalk.i64_in _ (by omega)];omega
  have aio:(m:Int)<64:=by omega
  have HW:Hid (wrap64 (2 ^ m)=(aX (m+6):Nat)):=by
   show _=_
   have h1:(2:Nat) ^ m<=2 ^ 10:=Nat.pow_le_pow_right (by omega) hm
   have h2:((2:Int) ^ m)=((2 ^ m:Nat):Int):=by push_cast;rfl
   have h3:aX (m+6)=2 ^ m:=by
    unfold aX;split
    ·obtain rfl:m=0:=by omega
     rfl
    ·rw [Nat.add_sub_cancel]
   rw [h3,h2];generalize (2:Nat) ^ m=z at h1
   unfold wrap64;omega
  go_enter Tryz.func113,Tryz.ntmps113
  go_wp2_with fail;go_ret;exact ⟨by rw [<- HW.out];rfl,rfl⟩
end Go.Proofs.YtdackeldhdchaaaGreat
