import Derived.Test.YtdackeldhdchaaaGreatPQ27
set_option maxRecDepth 100000
set_option maxHeartbeats 800000
namespace Go.Proofs.YtdackeldhdchaaaGreat
open Go.RowKit
def mkT (n:Nat) (f:Nat->Bool):TV:=⟨n,(List.range (adu n)).map fun i=>((idx 64 fun j=>decide (64*i+j<2 ^ n)&&f (64*i+j):Nat):Int)⟩
theorem aiL (m i:Nat):nb (m:Int) i=m.testBit i:=by simp [nb]
theorem aLs (n:Nat) (f:Nat->Bool) {i:Nat} (hi:i<adu n):(mkT n f).ws.getD i 0=((idx 64 fun j=>decide (64*i+j<2 ^ n)&&f (64*i+j):Nat):Int):=by
 rw [List.getD_eq_getElem?_getD]
 simp [mkT,hi]
theorem amv {n:Nat} (f:Nat->Bool) (hn:n<=16):(mkT n f).Ok:=by
 refine ⟨hn,by simp [mkT],fun x hx=>?_,fun h6 x hx i hi=>?_⟩
 ·simp only [mkT,List.mem_map] at hx
  obtain ⟨i,_,rfl⟩:=hx
  have:=aCU 64 fun j=>decide (64*i+j<2 ^ n)&&f (64*i+j)
  unfold U64;omega
 ·have h6':n<6:=h6
  have hi':2 ^ n<=i:=hi
  simp only [mkT,List.mem_map,List.mem_range] at hx
  obtain ⟨j,hj,rfl⟩:=hx
  have hj0:j=0:=by unfold adu at hj;rw [if_pos (by omega)] at hj;omega
  subst hj0;rw [aiL,aiq]
  simp;intro _ h;omega
theorem aCV {n:Nat} (f:Nat->Bool) {x:Nat} (hx:x<2 ^ n):(mkT n f).bit x=f x:=by
 unfold TV.bit;rw [aLs n f (am3 hx),aiL,aiq]
 have e:64*(x/64)+x % 64=x:=by omega
 simp only [e,hx,decide_true,Bool.true_and]
 have:x % 64<64:=Nat.mod_lt _ (by omega)
 simp [this]
theorem aGA (n:Nat) (f:Nat->Bool):(mkT n f).n=n:=rfl
theorem aGi {t:TV} (ht:t.Ok) {f:Nat->Bool} (h:∀ x,x<2 ^ t.n->t.bit x=f x):t=mkT t.n f :=
 TV.ext ht (amv f ht.n16) rfl fun x hx=>by rw [h x hx,aCV f hx]
theorem avr {n:Nat} (f:Nat->Bool) (y:Nat->Bool):(mkT n f).fn y=f (idx n y):=by
 unfold TV.fn;rw [aGA,aCV f (aCU n y)]
def amA (n:Nat) (b:Bool):TV:=mkT n fun _=>b
def aLt (n v:Nat):TV:=mkT n fun x=>x.testBit v
def aee (t:TV) (v:Nat) (b:Bool):TV:=mkT t.n fun x=>t.bit (af7 x v b)
theorem aBe (n:Nat) (b:Bool) (y:Nat->Bool):(amA n b).fn y=b:=avr _ y
theorem ahb {t:TV} {v:Nat} (hv:v<t.n) (b:Bool) (y:Nat->Bool):(aee t v b).fn y=t.fn (upd y v b):=by
 unfold aee;rw [avr,aLr hv];rfl
theorem aoW {t:TV} (ht:t.Ok) (v:Nat) (b:Bool):(aee t v b).Ok:=amv _ ht.n16
def anJ (t:TV) (v:Nat):Bool:=!decide (aee t v false=aee t v true)
theorem ajo {t:TV} (ht:t.Ok) {v:Nat} (hv:v<t.n):anJ t v=true↔ahP t.fn v:=by
 unfold anJ;rw [Bool.not_eq_true',decide_eq_false_iff_not];constructor
 ·intro hne
  by_cases hh:∃ y,t.fn (upd y v true)≠t.fn (upd y v false)
  ·exact hh
  ·exfalso
   refine hne (TV.fn_ext (aoW ht v false) (aoW ht v true) rfl fun y=>?_);rw [ahb hv,ahb hv]
   by_cases h:t.fn (upd y v false)=t.fn (upd y v true)
   ·exact h
   ·exact absurd ⟨y,fun e=>h e.symm⟩ hh
 ·rintro ⟨y,hy⟩ e
  exact hy (by rw [<- ahb hv true y,<- ahb hv false y,e])
theorem aEE {x v:Nat} (b:Bool) (hv:v<6):af7 x v b/64=x/64/\af7 x v b % 64=af7 (x % 64) v b:=by
 constructor
 ·apply Nat.eq_of_testBit_eq
  intro i
  rw [show (64:Nat)=2 ^ 6 from rfl,Nat.testBit_div_two_pow,Nat.testBit_div_two_pow,aiK,if_neg (by omega)]
 ·apply Nat.eq_of_testBit_eq
  intro i
  rw [show (64:Nat)=2 ^ 6 from rfl,Nat.testBit_mod_two_pow,aiK,aiK,Nat.testBit_mod_two_pow]
  by_cases h:i=v
  ·subst h;simp [hv]
  ·simp [h]
theorem aG2 {x v:Nat} (b:Bool) (hv:6<=v):af7 x v b/64=af7 (x/64) (v-6) b/\af7 x v b % 64=x % 64:=by
 constructor
 ·apply Nat.eq_of_testBit_eq
  intro i
  rw [show (64:Nat)=2 ^ 6 from rfl,Nat.testBit_div_two_pow,aiK,aiK,Nat.testBit_div_two_pow]
  by_cases h:i=v-6
  ·subst h;rw [if_pos (by omega),if_pos rfl]
  ·rw [if_neg (by omega),if_neg h]
 ·apply Nat.eq_of_testBit_eq
  intro i
  rw [show (64:Nat)=2 ^ 6 from rfl,Nat.testBit_mod_two_pow,Nat.testBit_mod_two_pow,aiK]
  by_cases h:i<6
  ·simp [h,show i≠v by omega]
  ·simp [h]
theorem aLu:U64 0:=by unfold U64;omega
theorem aQB {x:Int} (hx:U64 x) (k i:Nat):U64 (x/2 ^ k)/\nb (x/2 ^ k) i=nb x (i+k):=by
 obtain ⟨n,rfl⟩ : ∃ n:Nat,x=(n:Int):=⟨x.toNat,by unfold U64 at hx;omega⟩
 have e:((n:Int)/2 ^ k)=((n/2 ^ k:Nat):Int):=by push_cast;rfl
 refine ⟨?_,?_⟩
 ·rw [e]
  have h1:=Nat.div_le_self n (2 ^ k);generalize n/2 ^ k=m at h1 ⊢
  unfold U64 at hx ⊢;omega
 ·rw [e,aiL,aiL,Nat.testBit_div_two_pow,Nat.add_comm]
theorem aQC {x:Int} (hx:U64 x) (k i:Nat):nb (IntKind.u64.wrap (x*2 ^ k)) i=(decide (i<64)&&(decide (k<=i)&&nb x (i-k))):=by
 obtain ⟨n,rfl⟩ : ∃ n:Nat,x=(n:Int):=⟨x.toNat,by unfold U64 at hx;omega⟩
 have e:IntKind.u64.wrap ((n:Int)*2 ^ k)=((n*2 ^ k % 18446744073709551616:Nat):Int):=by
  have h1:IntKind.u64.wrap ((n:Int)*2 ^ k)=((n:Int)*2 ^ k) % 18446744073709551616:=rfl
  have h2:(n:Int)*2 ^ k=((n*2 ^ k:Nat):Int):=by push_cast;rfl
  rw [h1,h2];generalize n*2 ^ k=m;omega
 rw [e,aiL,aiL,show (18446744073709551616:Nat)=2 ^ 64 from rfl,Nat.testBit_mod_two_pow,Nat.testBit_mul_two_pow]
def anD (v:Nat) (b:Bool) (ag6 w:Int):Int :=
 if b then bits BinOp.or IntKind.u64 (bits BinOp.and IntKind.u64 w ag6) (bits BinOp.and IntKind.u64 w ag6/2 ^ (2 ^ v))
 else bits BinOp.or IntKind.u64 (bits BinOp.andNot IntKind.u64 w ag6) (IntKind.u64.wrap (bits BinOp.andNot IntKind.u64 w ag6*2 ^ (2 ^ v)))
theorem aBW:∀ v,v<6->∀ i,i<64->(((i+2 ^ v).testBit v=!i.testBit v)/\(i.testBit v=true->2 ^ v<=i/\(i-2 ^ v).testBit v=false)/\(2 ^ v<=i->i.testBit v=false->(i-2 ^ v).testBit v=true)):=by decide +kernel
theorem azx {v:Nat} (hv:v<6) (b:Bool) {ag6 w:Int} (hw:U64 w) (ho:U64 ag6) (hob:∀ i,i<64->nb ag6 i=i.testBit v):U64 (anD v b ag6 w)/\∀ i,i<64->nb (anD v b ag6 w) i=nb w (af7 i v b):=by
 have p6:(2:Nat) ^ v<=32:=by
  have:(2:Nat) ^ v<=2 ^ 5:=Nat.pow_le_pow_right (by omega) (by omega);omega
 unfold anD
 cases b with
 | true =>
  rw [if_pos rfl];have hA:=auU BinOp.and w ag6
  have hS:=fun i=>aQB hA (2 ^ v) i
  refine ⟨auU _ _ _,fun i hi=>?_⟩;obtain ⟨f1,f2,f3⟩:=aBW v hv i hi;rw [aOP hA (hS 0).1,(hS i).2,aLp hw ho,aLp hw ho,hob i hi];unfold af7
  cases hb:i.testBit v with
  | true =>
   rw [if_pos rfl]
   have:nb ag6 (i+2 ^ v)=false:=by
    by_cases h64:i+2 ^ v<64
    ·rw [hob _ h64,f1,hb];rfl
    ·exact aCT ho (by omega)
   rw [this];simp
  | false =>
   simp only [Bool.false_eq_true,if_false,if_true,Bool.and_false,Bool.false_or]
   by_cases h64:i+2 ^ v<64
   ·rw [hob _ h64,f1,hb];simp
   ·rw [aCT hw (by omega)];simp
 | false =>
  simp only [Bool.false_eq_true,if_false]
  have hA:=auU BinOp.andNot w ag6;refine ⟨auU _ _ _,fun i hi=>?_⟩;obtain ⟨f1,f2,f3⟩:=aBW v hv i hi;have arN:=Nat.sub_le i (2 ^ v);rw [aOP hA (wrap_u64 _),aQC hA,av1 hw ho hi,hob i hi];unfold af7
  cases hb:i.testBit v with
  | true =>
   obtain ⟨g1,g2⟩:=f2 hb
   simp only [Bool.not_true,Bool.and_false,Bool.false_or,hi,decide_true,Bool.true_and,g1]
   rw [av1 hw ho (by omega),hob _ (by omega),g2];simp
  | false =>
   rw [if_pos rfl]
   simp only [Bool.not_false,Bool.and_true,hi,decide_true,Bool.true_and]
   by_cases hle:2 ^ v<=i
   ·rw [av1 hw ho (by omega),hob _ (by omega),f3 hle hb];simp
   ·simp [hle]
theorem aNw {t:TV} (ht:t.Ok) {v:Nat} (hv:v<6) (hvn:v<t.n) (b:Bool) {ag6:Int} (ho:U64 ag6) (hob:∀ i,i<64->nb ag6 i=i.testBit v):aee t v b=⟨t.n,t.ws.map (anD v b ag6)⟩:=by
 have hok:(⟨t.n,t.ws.map (anD v b ag6)⟩ : TV).Ok:=by
  refine ⟨ht.n16,by simp [ht.len],fun x hx=>?_,fun h6 x hx i hi=>?_⟩
  ·obtain ⟨w,hw,rfl⟩:=List.mem_map.1 hx
   exact (azx hv b (ht.u w hw) ho hob).1
  ·obtain ⟨w,hw,rfl⟩:=List.mem_map.1 hx
   have hc:=azx hv b (ht.u w hw) ho hob
   by_cases h64:i<64
   ·rw [hc.2 i h64]
    have h6':t.n<6:=h6;have hi':2 ^ t.n<=i:=hi;refine ht.low h6' w hw _ ?_
    by_cases hlt:af7 i v b<2 ^ t.n
    ·exfalso
     have:af7 (af7 i v b) v (i.testBit v)=i:=by
      apply Nat.eq_of_testBit_eq
      intro u
      rw [aiK,aiK]
      by_cases hu:u=v
      ·subst hu;simp
      ·simp [hu]
     have h2:=aBZ (i.testBit v) hlt hvn
     rw [this] at h2;omega
    ·omega
   ·exact aCT hc.1 (by omega)
 refine (aGi hok fun x hx=>?_).symm;have hd:=am3 (n:=t.n) hx;obtain ⟨w1,w2,w3⟩:=ht.word hd;unfold TV.bit
 have e:(t.ws.map (anD v b ag6)).getD (x/64) 0=anD v b ag6 (t.ws.getD (x/64) 0):=by
  rw [List.getD_eq_getElem?_getD,List.getElem?_map,w3];rfl
 show nb ((t.ws.map (anD v b ag6)).getD (x/64) 0) (x % 64)=nb (t.ws.getD (af7 x v b/64) 0) (af7 x v b % 64)
 rw [e,(azx hv b w1 ho hob).2 _ (Nat.mod_lt _ (by omega)),(aEE b hv).1,(aEE b hv).2]
theorem aOY {t:TV} (ht:t.Ok) {v:Nat} (hv:6<=v) (hvn:v<t.n) (b:Bool):aee t v b=⟨t.n,(List.range t.ws.length).map fun i=>t.ws.getD (af7 i (v-6) b) 0⟩:=by
 have hw:=aoT (n:=t.n) (by omega);have hlen:=ht.len
 have hp:(2:Nat) ^ t.n=2 ^ (t.n-6)*64:=by
  have:t.n=(t.n-6)+6:=by omega
  conv=>lhs;rw [this,Nat.pow_add]
 have hwp:adu t.n=2 ^ (t.n-6):=by omega
 have hsl:∀ i,i<adu t.n->af7 i (v-6) b<adu t.n:=fun i hi=>by
  rw [hwp] at hi ⊢;exact aBZ b hi (by omega)
 have hok:(⟨t.n,(List.range t.ws.length).map fun i=>t.ws.getD (af7 i (v-6) b) 0⟩ : TV).Ok:=by
  refine ⟨ht.n16,by simp [hlen],fun x hx=>?_,fun h6 x hx i hi=>?_⟩
  ·obtain ⟨i,hi,rfl⟩:=List.mem_map.1 hx
   rw [List.mem_range,hlen] at hi;exact (ht.word (hsl i hi)).1
  ·have h6':t.n<6:=h6
   omega
 refine (aGi hok fun x hx=>?_).symm;have hd:=am3 (n:=t.n) hx;unfold TV.bit
 have e:((List.range t.ws.length).map fun i=>t.ws.getD (af7 i (v-6) b) 0).getD (x/64) 0=t.ws.getD (af7 (x/64) (v-6) b) 0:=by
  rw [List.getD_eq_getElem?_getD,List.getElem?_map,List.getElem?_range (by omega)];rfl
 show nb (((List.range t.ws.length).map fun i=>t.ws.getD (af7 i (v-6) b) 0).getD (x/64) 0) (x % 64)=nb (t.ws.getD (af7 x v b/64) 0) (af7 x v b % 64)
 rw [e,(aG2 b hv).1,(aG2 b hv).2]
end Go.Proofs.YtdackeldhdchaaaGreat
namespace Go.Proofs.YtdackeldhdchaaaGreat
structure Plain (K:KV) (n m:Nat):Prop where
 ok:K.Ok
 uni:K.Uni
 vr:K.vars=n
 lv:∀ v,v<n->K.lev v=v
 pl:K.A.places=m
theorem aHr {n m:Nat} (h1:1<=n) (hn:n<=64) (h2:2<=m) (hm:m<=1048576):Plain (KV.new n m) n m:=by
 refine ⟨KV.new_ok h1 hn h2 hm,(afg.new n m).uni (KV.new_ok h1 hn h2 hm).wf,rfl,fun v hv=>by simp [KV.lev,KV.new,hv],rfl⟩
end Go.Proofs.YtdackeldhdchaaaGreat
namespace Go.Proofs.YtdackeldhdchaaaGreat
open Go.RowKit Go.Maps Go.ChangeMaps Go.WideShapes
def aeH (t:TV) (c:Value):Value:=.agg #[.int .i64 t.n,c]
structure aq6 (w:World) (Z:List Nat) (c:Value) (n:Nat) (xs:List Value):Prop where
 form:∃ (a:Option Addr) (m:Nat),c=.slice a n m/\(a=none/\n=0/\m=0\/∃ x,a=some x)
 cells:∀ (x:Addr) (n' m:Nat),c=.slice (some x) n' m->∀ j u,xs[j]?=some u->w.cell? (x.add j)=some u
 lt:∀ k,c.ownBlock=some k->0<=k/\k<w.heap.size
 ty:∀ k,c.ownBlock=some k->(∃ cs fr,w.heap[k]?=some (.cells cs 90 fr))\/((∃ z,z∈Z)/\∀ z,z∈Z->k<z)
theorem aod (x:Addr) (j:Nat):(x.add j).block=x.block:=by unfold Addr.add;split <;> rfl
theorem aq6.kp {w w':World} {Z:List Nat} {c:Value} {n:Nat} {xs:List Value} (h:aq6 w Z c n xs) (hk:∀ k,c.ownBlock=some k->w'.heap[k]?=w.heap[k]?):aq6 w' Z c n xs :=
 ⟨h.form,fun x n' m e j u hj=>by rw [<- h.cells x n' m e j u hj];exact World.cell?_of_block (by rw [aod];exact hk x.block (by rw [e];rfl)),fun k e=>⟨Nat.zero_le _,by
  by_cases hl:k<w'.heap.size
  ·exact hl
  ·have h1:=hk k e
   rw [Array.getElem?_eq_none (by omega),Array.getElem?_eq_getElem (h.lt k e).2] at h1
   cases h1⟩,fun k e=>by rw [hk k e];exact h.ty k e⟩
theorem aq6.of {w:World} {b:Nat} {Z:List Nat} {c:Value} {n:Nat} {xs:List Value} (h:w.ownsRow b 90 1 c n xs):aq6 w Z c n xs:=by
 have hl:=h.lt
 have hc:=fun g (hg:c.ownBlock=some g)=>h.cells hg
 obtain ⟨_,(⟨e1,h1⟩ | ⟨g,cap,cur,e1,hg,hh,_⟩)⟩:=h
 ·subst h1
  exact ⟨⟨none,0,e1,.inl ⟨rfl,rfl,rfl⟩⟩,fun x n' m e=>by rw [e1] at e;simp at e,fun k e=>⟨Nat.zero_le _,(hl k e).2⟩,fun k e=>by rw [e1] at e;simp [Value.ownBlock] at e⟩
 ·refine ⟨⟨_,cap,e1,.inr ⟨_,rfl⟩⟩,fun x n' m e j u hj=>?_,fun k e=>⟨Nat.zero_le _,(hl k e).2⟩,fun k e=>.inl ?_⟩
  ·rw [e1] at e;simp at e;obtain ⟨rfl,_⟩:=e
   exact hc g (by rw [e1];rfl) j u hj
  ·rw [e1] at e;simp [Value.ownBlock] at e;subst e;exact ⟨_,_,hh⟩
theorem aq6.some_ {w:World} {Z:List Nat} {a:Option Addr} {n' m n:Nat} {xs:List Value} (h:aq6 w Z (.slice a n' m) n xs) (hn:0<n):∃ x,a=some x:=by
 obtain ⟨a,m,e,(⟨_,h1,_⟩ | h1)⟩:=h.form
 ·omega
 ·simp at e;obtain ⟨rfl,_⟩:=e;exact h1
theorem aq6.other {w:World} {Z Z':List Nat} {c:Value} {n:Nat} {xs:List Value} (h:aq6 w Z c n xs) (h0:∃ z,z∈Z') (hs:∀ k,k∈Z'->k∈Z\/w.heap.size<=k):aq6 w Z' c n xs :=
 ⟨h.form,h.cells,h.lt,fun k e=>(h.ty k e).imp id fun h1=>⟨h0,fun z hz=>by
  rcases hs z hz with h2 | h2
  ·exact h1.2 z h2
  ·exact Nat.lt_of_lt_of_le (h.lt k e).2 h2⟩⟩
class RowForm (R:Prop) (v:outParam Value) (n:outParam Nat):Prop where
 form:R->∃ (a:Option Addr) (m:Nat),v=.slice a n m/\(a=none/\n=0/\m=0\/∃ x,a=some x)
instance {w:World} {b:Nat} {e:TypeId} {sz n:Nat} {v:Value} {xs:List Value}:RowForm (w.ownsRow b e sz v n xs) v n:=⟨fun h=>by
 obtain ⟨a,m,e,h1⟩:=abI h
 exact ⟨a,m,e,h1.imp id fun ⟨g,e⟩=>⟨_,e⟩⟩⟩
instance {w:World} {Z:List Nat} {c:Value} {n:Nat} {xs:List Value}:RowForm (aq6 w Z c n xs) c n:=⟨fun h=>h.form⟩
theorem ahV {R:Prop} {v:Value} {n:Nat} [i:RowForm R v n] (h:R):∃ (a:Option Addr) (m:Nat),v=.slice a n m/\(a=none/\n=0/\m=0\/∃ x,a=some x):=i.form h
structure TIn (w:World) (Z:List Nat) (c:Value) (t:TV):Prop where
 ok:t.Ok
 row:aq6 w Z c t.ws.length (aff t.ws)
 fr:∀ k,c.ownBlock=some k->k∉Z
theorem TIn.keep {w w':World} {Z S:List Nat} {c:Value} {t:TV} (h:TIn w Z c t) (u:Upd S w w') (hS:∀ k,k∈S->k∈Z\/w.heap.size<=k):TIn w' Z c t :=
 ⟨h.ok,h.row.kp fun k hk=>u.block k (h.row.lt k hk).2 fun hm=>by
  rcases hS k hm with h1 | h1
  ·exact h.fr k hk h1
  ·have:=(h.row.lt k hk).2;omega,h.fr⟩
theorem TIn.keep0 {w w':World} {Z:List Nat} {c:Value} {t:TV} (h:TIn w Z c t) (u:Upd [] w w'):TIn w' Z c t:=h.keep u (by simp)
theorem TIn.apart {w:World} {Z Z':List Nat} {c:Value} {t:TV} (h:TIn w Z c t) (hs:Sub Z w Z') (h0:∃ z,z∈Z':=by first | assumption | exact ⟨_,List.mem_append.2 (.inr (acd.mem.2 (.inl rfl)))⟩ | exact ⟨_,List.mem_append.2 (.inl (acd.mem.2 (.inl rfl)))⟩ | exact ⟨_,List.mem_append.2 (.inr (List.mem_append.2 (.inr (acd.mem.2 (.inl rfl)))))⟩ | (simp [acd.all,exists_or];done)):TIn w Z' c t :=
 ⟨h.ok,h.row.other h0 hs,fun k hk hm=>by
  rcases hs k hm with h1 | h1
  ·exact h.fr k hk h1
  ·have:=(h.row.lt k hk).2;omega⟩
theorem TIn.any {w:World} {Z:List Nat} {c:Value} {t:TV} (h:TIn w Z c t):TIn w [w.heap.size] c t :=
 ⟨h.ok,⟨h.row.form,h.row.cells,h.row.lt,fun k e=>(h.row.ty k e).imp id fun _=>⟨⟨_,List.mem_singleton.2 rfl⟩,fun z hz=>by rw [List.mem_singleton.1 hz];exact (h.row.lt k e).2⟩⟩,fun k hk hm=>by
  have:=(h.row.lt k hk).2;rw [List.mem_singleton.1 hm] at this
  omega⟩
theorem TIn.nb {w:World} {Z:List Nat} {c:Value} {t:TV} (h:TIn w Z c t) {k:Nat} {cs:Array Value} {e:TypeId} {fr:Nat × Nat} (hb:w.heap[k]?=some (.cells cs e fr)) (hne:90≠e) (hz:(∃ z,z∈Z)->∃ z,z∈Z/\z<=k):c.ownBlock≠some k:=fun hk=>by
 rcases h.row.ty k hk with ⟨c1,f1,e1⟩ | ⟨h0,h1⟩
 ·rw [hb] at e1;injection e1 with e1;injection e1 with _ e1 _;exact hne e1.symm
 ·obtain ⟨z,h2,h3⟩:=hz h0
  have:=h1 z h2;omega
theorem TIn.nbc {w:World} {Z:List Nat} {c:Value} {t:TV} (h:TIn w Z c t) {k:Nat} {cs:Array Value} {e:TypeId} {fr:Nat × Nat} (hb:w.heap[k]?=some (.cells cs e fr)) (hcs:∀ (j:Nat) (n:Int),cs[j]?≠some (.int .u64 n)):c.ownBlock≠some k:=fun hk=>by
 obtain ⟨a,m,hc,_⟩:=h.row.form;have hp:=apJ t.n;rw [<- h.ok.len] at hp;have hr:=h.row;rw [hc] at hr hk;obtain ⟨x,rfl⟩:=hr.some_ hp;obtain ⟨y,hy⟩ : ∃ y,t.ws[0]?=some y:=⟨_,List.getElem?_eq_getElem hp⟩;have h1:=hr.cells x _ _ rfl 0 (.int .u64 y) (by rw [aff,List.getElem?_map,hy];rfl)
 have e0:x.add 0=x:=by unfold Addr.add;simp
 rw [e0] at h1
 have hx:x.block=k:=by simpa [Value.ownBlock] using hk
 unfold World.cell? at h1;rw [hx,hb] at h1
 simp only at h1
 split at h1
 ·cases h1
 ·exact hcs _ _ h1
theorem TV.Ok.len_le {t:TV} (h:t.Ok):t.ws.length<=1024:=by
 have e:=h.len;have h1:=h.n16
 have h2:adu t.n<=1024:=by
  unfold adu;split
  ·omega
  ·have:(2:Nat) ^ (t.n-6)<=2 ^ 10:=Nat.pow_le_pow_right (by omega) (by omega)
   omega
 omega
theorem alC (w:World) (x y:Value):(w.alloc (.cells #[x,y] 121 (0,0))).cell? ⟨w.heap.size,0,none⟩=some x/\(w.alloc (.cells #[x,y] 121 (0,0))).cell? ⟨w.heap.size,1,none⟩=some y:=by
 have hb:=heap_alloc_new w (.cells #[x,y] 121 (0,0));exact ⟨aac hb rfl,aac hb rfl⟩
theorem ajX (Z:List Nat) (c d:Value) (t u:TV) (w:World) (h1:TIn w Z c t) (h2:TIn w Z d u) :
  Calls Tryz.prog 122 #[aeH t c,aeH u d] w fun e w'=>e=.returned (.bool (decide (t=u)))/\Upd [] w w':=by
 unfold aeH;obtain ⟨tn,tw⟩:=t;obtain ⟨un,uw⟩:=u;have hl1:tw.length<=1024:=h1.ok.len_le;have hl2:uw.length<=1024:=h2.ok.len_le;obtain ⟨fa,ca,hca,_⟩:=ahV h1.row;obtain ⟨fb,cb,hcb,_⟩:=ahV h2.row;subst hca hcb;have r1:aq6 w Z (.slice fa tw.length ca) tw.length (aff tw):=h1.row;have r2:aq6 w Z (.slice fb uw.length cb) uw.length (aff uw):=h2.row;clear h1 h2
 show Calls _ _ #[.agg #[.int .i64 tn,.slice fa tw.length ca],.agg #[.int .i64 un,.slice fb uw.length cb]] _ _
 generalize e1:tw.length=n1 at r1 hl1;generalize e2:uw.length=n2 at r2 hl2;have HT:=Lib.hid (And.intro r1 r2);have HL:=Lib.hid (And.intro e1 e2);clear r1 r2 e1 e2
 by_cases hn:tn=un
 ·subst hn
  have hE:(decide ((⟨tn,tw⟩ : TV)=⟨tn,uw⟩))=decide (tw=uw):=by congr 1;simp
  rw [hE];clear hE;have HU2:=Lib.hid (((Upd.refl [] w).alloc (.cells #[.int .i64 tn,.slice fa n1 ca] 121 (0,0))).alloc (.cells #[.int .i64 tn,.slice fb n2 cb] 121 (0,0)));obtain ⟨a0,a1⟩:=alC w (.int .i64 tn) (.slice fa n1 ca);obtain ⟨b0,b1⟩:=alC (w.alloc (.cells #[.int .i64 tn,.slice fa n1 ca] 121 (0,0))) (.int .i64 tn) (.slice fb n2 cb);rw [World.size_alloc] at b0 b1;have q0:((w.alloc (.cells #[.int .i64 tn,.slice fa n1 ca] 121 (0,0))).alloc (.cells #[.int .i64 tn,.slice fb n2 cb] 121 (0,0))).cell? ⟨w.heap.size,0,none⟩=some (.int .i64 tn):=(((Upd.refl [] _).alloc _).cell (World.block_lt_of_cell? _ _ a0) (by simp)).trans a0;have q1:((w.alloc (.cells #[.int .i64 tn,.slice fa n1 ca] 121 (0,0))).alloc (.cells #[.int .i64 tn,.slice fb n2 cb] 121 (0,0))).cell? ⟨w.heap.size,1,none⟩=some (.slice fa n1 ca):=(((Upd.refl [] _).alloc _).cell (World.block_lt_of_cell? _ _ a1) (by simp)).trans a1;clear a0 a1
  by_cases hl:n1=n2
  ·subst hl
   go_enter Tryz.func122,Tryz.ntmps122
   go_wp2_with fail
   go_loopg [5] n1 (fun g s5 wr=>∃ i:Nat,n1-i=g/\i<=n1/\s5=.int .i64 i/\tw.take i=uw.take i/\Upd [] ((w.alloc (.cells #[.int .i64 tn,.slice fa n1 ca] 121 (0,0))).alloc (.cells #[.int .i64 tn,.slice fb n1 cb] 121 (0,0))) wr)
   case atStart=>exact ⟨0,by omega,by omega,rfl,rfl,Upd.refl _ _⟩
   case round =>
    obtain ⟨i,rfl,hi,rfl,ht,hU⟩:=hrel;have p1:=(hU.cell (World.block_lt_of_cell? _ _ q1) (by simp)).trans q1;have p2:=(hU.cell (World.block_lt_of_cell? _ _ b1) (by simp)).trans b1
    by_cases hlt:i<n1
    ·obtain ⟨x,hx⟩ : ∃ x,tw[i]?=some x:=⟨_,List.getElem?_eq_getElem (by rw [HL.out.1];exact hlt)⟩
     obtain ⟨y,hy⟩ : ∃ y,uw[i]?=some y:=⟨_,List.getElem?_eq_getElem (by rw [HL.out.2];exact hlt)⟩;obtain ⟨ga,rfl⟩:=HT.out.1.some_ (by omega);obtain ⟨gb,rfl⟩:=HT.out.2.some_ (by omega)
     have r1:=HT.out.1.kp fun k hk=>(HU2.out.trans hU).block k (HT.out.1.lt k hk).2 (by simp)
     have r2:=HT.out.2.kp fun k hk=>(HU2.out.trans hU).block k (HT.out.2.lt k hk).2 (by simp)
     have c1:=r1.cells _ _ _ rfl i (.int .u64 x) (by simp [aff,hx]);have c2:=r2.cells _ _ _ rfl i (.int .u64 y) (by simp [aff,hy])
     have hil:(i:Int)<(n1:Int):=by omega
     clear q0 q1 b0 b1 r1 r2
     by_cases hxy:x=y
     ·have hb1:(x == y)=true:=by simpa using hxy
      have HE:Hid (tw.take (i+1)=uw.take (i+1)/\Upd [] _ wr):=⟨by rw [List.take_add_one,List.take_add_one,ht,hx,hy,hxy],hU⟩;clear ht hU hx hy;go_wp2_with fail
      go_region
      go_wp2_with fail
      go_roundg (n1-(i+1))
      case measure=>omega
      case rel=>exact ⟨i+1,rfl,by omega,by simp,HE.out.1,HE.out.2.drew⟩
     ·have hb1:(x == y)=false:=by simpa using hxy
      have HE:Hid (¬ (tw=uw)/\Upd [] _ wr):=⟨fun e=>hxy (by rw [e,hy] at hx;exact (Option.some.inj hx).symm),HU2.out.trans hU⟩;clear ht hU hx hy;go_wp2_with fail
      go_region
      go_wp2_with fail;go_ret;exact ⟨by rw [decide_eq_false HE.out.1];rfl,HE.out.2.drew⟩
    ·obtain rfl:i=n1:=by omega
     have hil:¬ ((i:Int)<(i:Int)):=by omega
     have HE:Hid ((tw=uw)/\Upd [] w wr):=⟨by rw [List.take_of_length_le (by rw [HL.out.1];omega),List.take_of_length_le (by rw [HL.out.2];omega)] at ht;exact ht,HU2.out.trans hU⟩;clear ht hU q0 q1 b0 b1;go_wp2_with fail;go_ret;exact ⟨by rw [decide_eq_true HE.out.1];rfl,HE.out.2⟩
  ·have hl3:((n1:Int) == (n2:Int))=false:=by rw [beq_eq_false_iff_ne];omega
   have hl4:¬ ((n1:Int)=(n2:Int)):=by omega
   have HE:Hid (¬ (tw=uw)):=fun e=>hl (by have:=HL.out;rw [e] at this;omega)
   go_enter Tryz.func122,Tryz.ntmps122
   go_wp2_with fail;go_ret;exact ⟨by rw [decide_eq_false HE.out];rfl,HU2.out⟩
 ·have hn1:((tn:Int) == (un:Int))=false:=by rw [beq_eq_false_iff_ne];omega
  have hn4:¬ ((tn:Int)=(un:Int)):=by omega
  have hE:decide ((⟨tn,tw⟩ : TV)=⟨un,uw⟩)=false:=decide_eq_false fun e=>hn (by injection e)
  rw [hE];clear hE;have HU2:=Lib.hid (((Upd.refl [] w).alloc (.cells #[.int .i64 tn,.slice fa n1 ca] 121 (0,0))).alloc (.cells #[.int .i64 un,.slice fb n2 cb] 121 (0,0)));obtain ⟨a0,a1⟩:=alC w (.int .i64 tn) (.slice fa n1 ca);obtain ⟨b0,b1⟩:=alC (w.alloc (.cells #[.int .i64 tn,.slice fa n1 ca] 121 (0,0))) (.int .i64 un) (.slice fb n2 cb);rw [World.size_alloc] at b0 b1;have q0:((w.alloc (.cells #[.int .i64 tn,.slice fa n1 ca] 121 (0,0))).alloc (.cells #[.int .i64 un,.slice fb n2 cb] 121 (0,0))).cell? ⟨w.heap.size,0,none⟩=some (.int .i64 tn):=(((Upd.refl [] _).alloc _).cell (World.block_lt_of_cell? _ _ a0) (by simp)).trans a0;clear a0 a1
  go_enter Tryz.func122,Tryz.ntmps122
  go_wp2_with fail;go_ret;exact ⟨rfl,HU2.out⟩
theorem aNx {x:Int} (hx:U64 x) (v:Nat):(x/2 ^ v % 2 == 1)=nb x v:=by
 obtain ⟨n,rfl⟩ : ∃ n:Nat,x=(n:Int):=⟨x.toNat,by unfold U64 at hx;omega⟩
 have e:((n:Int)/2 ^ v % 2)=((n/2 ^ v % 2:Nat):Int):=by push_cast;rfl
 rw [e,aiL,Nat.testBit_eq_decide_div_mod_eq,Bool.eq_iff_iff,beq_iff_eq,decide_eq_true_eq];omega
theorem ayK {x:Int} (hx:U64 x) (v:Nat):((x/2 ^ v).tmod 2 == 1)=nb x v:=by
 rw [<- aNx hx,Int.tmod_eq_emod_of_nonneg (Int.ediv_nonneg hx.1 (Int.le_of_lt (Int.pow_pos (by omega))))]
theorem aHm (Z:List Nat) (c:Value) (t:TV) (x:Nat) (w:World) (h:TIn w Z c t) (hx:x<2 ^ t.n) :
  Calls Tryz.prog 115 #[aeH t c,.int .i64 x] w fun e w'=>e=.returned (.bool (t.bit x))/\Upd [] w w':=by
 unfold aeH;have hd:=am3 hx;obtain ⟨w1,w2,w3⟩:=h.ok.word hd;have hlen:=h.ok.len;have hll:=h.ok.len_le;have abP:=h.row;obtain ⟨fa,ca,hca,_⟩:=ahV h.row;rw [hca] at abP;subst hca;obtain ⟨ga,rfl⟩:=abP.some_ (by have:=apJ t.n;omega);have HU:=Lib.hid ((Upd.refl [] w).alloc (.cells #[.int .i64 t.n,.slice (some ga) t.ws.length ca] 121 (0,0)));obtain ⟨a0,a1⟩:=alC w (.int .i64 t.n) (.slice (some ga) t.ws.length ca)
 have r1:=abP.kp fun k hk=>HU.out.block k (abP.lt k hk).2 (by simp)
 have c1:=r1.cells _ _ _ rfl (x/64) (.int .u64 (t.ws.getD (x/64) 0)) (by rw [aff,List.getElem?_map,w3];rfl);have HB:Hid (((t.ws.getD (x/64) 0/2 ^ (x % 64)).tmod 2 == 1)=t.bit x):=ayK w1 (x % 64);generalize t.ws.getD (x/64) 0=W at c1 HB;have a4t:x<65536:=Nat.lt_of_lt_of_le hx (by have:(2:Nat) ^ t.n<=2 ^ 16:=Nat.pow_le_pow_right (by omega) h.ok.n16;omega)
 have hq2:(x:Int).tdiv 64=((x/64:Nat):Int):=by rw [Int.tdiv_eq_ediv_of_nonneg (by omega)];omega
 have hr2:(x:Int).tmod 64=((x % 64:Nat):Int):=by rw [Int.tmod_eq_emod_of_nonneg (by omega)];omega
 have hil:((x/64:Nat):Int)<(t.ws.length:Int):=by omega
 have hrl:((x % 64:Nat):Int)<64:=by omega
 have aQy:x % 64<64:=by omega
 generalize x/64=xq at c1 hq2 hil;generalize x % 64=xr at HB hr2 hrl aQy;clear h abP r1 w1 w2 w3 hd hx hlen;generalize t.ws.length=tl at *
 go_enter Tryz.func115,Tryz.ntmps115
 go_wp2_with fail;go_ret;exact ⟨by rw [<- HB.out];rfl,HU.out⟩
theorem aze (n:Nat) (w:World) (hn:n<=16):Calls Tryz.prog 113 #[.int .i64 n] w fun e w'=>e=.returned (.int .i64 (adu n:Nat))/\w'=w:=by
 by_cases h6:n<=6
 ·have hd:decide ((n:Int)<=6)=true:=by simp;omega
  have HW:Hid (adu n=1):=by
   show adu n=1
   unfold adu;rw [if_pos h6]
  go_enter Tryz.func113,Tryz.ntmps113
  go_wp2_with fail;go_ret;exact ⟨by rw [HW.out];rfl,rfl⟩
 ·have hd:decide ((n:Int)<=6)=false:=by simp;omega
  obtain ⟨m,rfl⟩ : ∃ m,n=m+6:=⟨n-6,by omega⟩
  have hm:m<=10:=by omega
  have arN:IntKind.i64.wrap (((m+6:Nat):Int)-6)=(m:Int):=by rw [IntWalk.i64_in _ (by omega)];omega
  have a4u:(m:Int)<64:=by omega
  have HW:Hid (wrap64 (2 ^ m)=(adu (m+6):Nat)):=by
   show _=_
   have h1:(2:Nat) ^ m<=2 ^ 10:=Nat.pow_le_pow_right (by omega) hm
   have h2:((2:Int) ^ m)=((2 ^ m:Nat):Int):=by push_cast;rfl
   have h3:adu (m+6)=2 ^ m:=by
    unfold adu;split
    ·obtain rfl:m=0:=by omega
     rfl
    ·rw [Nat.add_sub_cancel]
   rw [h3,h2];generalize (2:Nat) ^ m=z at h1
   unfold wrap64;omega
  go_enter Tryz.func113,Tryz.ntmps113
  go_wp2_with fail;go_ret;exact ⟨by rw [<- HW.out];rfl,rfl⟩
end Go.Proofs.YtdackeldhdchaaaGreat
