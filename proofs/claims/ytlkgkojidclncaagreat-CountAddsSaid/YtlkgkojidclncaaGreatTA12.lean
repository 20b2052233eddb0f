import Derived.Test.YtlkgkojidclncaaGreatTA11
import Derived.Deep.RegionHeld3
set_option maxRecDepth 100000
set_option maxHeartbeats 800000
namespace Go.Proofs.YtlkgkojidclncaaGreat
open Go.RowKit Go.Maps Go.ChangeMaps Go.WideShapes
theorem clive_ok (b:Nat) (K:KV) (T:List DM) (q:KPtr) (lv:Value) (rs:List Nat) (w:World) (h:KerIn w b K T q) (hrow:w.ownsRow 0 62 1 lv rs.length (flatRefs rs)) (hl:∀ r,r∈rs->K.A.tk r=true) (hlen:rs.length<=1099511627776) :
  Calls Tryz.prog 115 #[.pointer (some ⟨b,0,none⟩),lv] w fun e w'=>e=.returned (.int .i64 0)/\Upd [] w w':=by
 obtain ⟨fa,fc,rfl,_⟩:=row_nil_len hrow;have HK:=Lib.hid h;have HR:=Lib.hid hrow;have HL:=Lib.hid hl;clear h hrow hl
 go_enter Tryz.func115,Tryz.ntmps115
 go_wp2_with fail
 go_loopg [13] rs.length (fun g s13 wr=>∃ i:Nat,rs.length-i=g/\i<=rs.length/\s13=.int .i64 i/\Upd [] w wr)
 case atStart=>exact ⟨0,by omega,by omega,rfl,Upd.refl _ _⟩
 case round =>
  obtain ⟨i,rfl,hi,rfl,hU⟩:=hrel
  by_cases hlt:i<rs.length
  ·obtain ⟨f,hf⟩ : ∃ f,rs[i]?=some f:=⟨_,List.getElem?_eq_getElem hlt⟩
   have htk:=HL.out f (List.mem_of_getElem? hf);obtain ⟨p,hp,hpt⟩:=ArenaV.tk_iff.1 htk;obtain ⟨g,rfl⟩:=row_some HR.out (by omega)
   have hr:=row_keep HR.out fun k hk=>hU.block k (HR.out.lt k hk).2 (by simp)
   have cf:=row_cell hr (j:=i) (u:=.int .u32 f) (by simp [flatRefs,hf])
   have hil:(i:Int)<(rs.length:Int):=by omega
   have hf32:=HK.out.ok.ref_lt htk;have HP:=Lib.hid (And.intro hp hpt);have HU:=Lib.hid hU;clear hU hr htk hp hpt hf;go_wp2_with fail;refine (nodeof_yes b f K T q p _ (HK.out.upd HU.out (by simp)).mem (by omega) HP.out.1 HP.out.2).mono ?_;rintro e w1 ⟨rfl,hu⟩;have HU1:=Lib.hid (HU.out.trans hu);clear hu;go_wp2_with fail
   go_roundg (rs.length-(i+1))
   case measure=>omega
   case rel=>exact ⟨i+1,rfl,by omega,by simp,HU1.out.alloc _⟩
  ·have hil:¬ ((i:Int)<(rs.length:Int)):=by omega
   have HU:=Lib.hid hU;clear hU;go_wp2_with fail;go_ret;exact ⟨rfl,HU.out⟩
structure SupQ (b:Nat) (K:KV) (T:List DM) (q:KPtr) (f:Nat) (w:World) (e:Ending) (w':World):Prop where
 ex:∃ N:List Nat,WalkL K [] [f] N/\e=.returned (.tuple #[.int .u64 (N.foldl (fun s x=>supStep s (K.vof x)) 0),.int .i64 0])/\KerIn w' b K T q/\Upd [] w w'
theorem support_spec (b f:Nat) (K:KV) (T:List DM) (q:KPtr) (w:World) (h:KerIn w b K T q) (hf:K.A.tk f=true) :
  Calls Tryz.prog 39 #[.pointer (some ⟨b,0,none⟩),.int .u32 f] w fun e w'=>SupQ b K T q f w e w':=by
 have hmf:∀ (fn:Fn) (first cap:Array Value) (w:World),(Instr.makeFunc fn first cap).run Tryz.prog w=.ok (.func fn first cap) w:=fun _ _ _ _=>rfl
 have HK:=Lib.hid h
 have HL:Hid (∀ r,r∈[f]->K.A.tk r=true):=fun r hr=>by
  simp only [List.mem_singleton] at hr;subst hr;exact hf
 have HROW:Hid (∀ w:World,(w.alloc (.cells #[.int .u32 f] 62 (0,0))).ownsRow 0 62 1 (.slice (some ⟨w.heap.size,0,none⟩) 1 1) [f].length (flatRefs [f])):=fun w =>
  World.ownsRow_lit (base:=0) (e:=62) (size:=1) w #[.int .u32 f] 1 (Nat.zero_le _) (by unfold maxLen;omega) rfl
 clear h hf
 go_enter Tryz.func39,Tryz.ntmps39
 go_wp2_with fail;refine (clive_ok b K T q _ [f] _ (HK.out.upd ((Upd.refl [] w).alloc _) (by simp)) (HROW.out w) HL.out (by simp)).mono ?_;rintro e w1 ⟨rfl,hu⟩;have HU1:=Lib.hid (((Upd.refl [] w).alloc _).trans hu);clear hu;go_wp2_with fail;have hsb:=heap_alloc_new w1 (.cells #[.int .u64 0] 75 (0,0));have hsb2:=(heap_alloc_old (w1.alloc (.cells #[.int .u64 0] 75 (0,0))) (.cells #[.int .u32 f] 62 (0,0)) (heap_lt hsb)).trans hsb;have HKA:=Lib.hid (HK.out.upd ((HU1.out.alloc (.cells #[.int .u64 0] 75 (0,0))).alloc (.cells #[.int .u32 f] 62 (0,0))) (by simp));have hrow:=HROW.out (w1.alloc (.cells #[.int .u64 0] 75 (0,0)));rw [World.size_alloc] at hrow
 have hnq:w1.heap.size∉q.all b:=fun hm=>by
  have:=HK.out.mem.lt _ hm;have:=HU1.out.size;omega
 refine (below_spec b w1.heap.size 117 #[.pointer (some ⟨w1.heap.size,0,none⟩)] 75 (fun s=>.int .u64 s) supStep K T q _ [f] 0 _ enters_sup (cb_support w1.heap.size) HKA.out hsb2 hnq hrow (by simp [Value.ownBlock]) HL.out (by simp)).mono ?_;rintro e w2 ⟨rfl,hQ⟩;obtain ⟨N,hN,hk2,hs2,hu2⟩:=hQ.ex;have x0:=cell_at (j:=0) hs2 rfl
 have HE:Hid (WalkL K [] [f] N/\KerIn w2 b K T q/\Upd [] w w2):=⟨hN,hk2,((HU1.out.alloc _).alloc _).then hu2 fun x hx=>by
  simp at hx;subst hx;right;exact HU1.out.size⟩
 clear hQ hN hk2 hs2 hu2 hsb hsb2 hrow;go_wp2_with fail;go_ret2;exact ⟨N,HE.out.1,rfl,HE.out.2.1,HE.out.2.2⟩
def SupIs (K:KV) (r:Nat) (s:Int):Prop:=∃ N:List Nat,WalkL K [] [r] N/\s=N.foldl (fun s x=>supStep s (K.vof x)) 0
def bitT (s:Int) (v:Nat):Bool:=bits BinOp.and IntKind.u64 (s/2 ^ v) 1 == 1
structure SeenF (V:List Nat) (D:DM):Prop where
 im:IsMap D
 has:∀ r:Nat,r<=4294967295->(Maps.has D (.int .u32 r)=true↔r∈V)
 dom:∀ k,Maps.has D k=true->∃ r:Nat,k=.int .u32 r/\r<1048576
theorem SeenF.nil:SeenF [] (.map []):=⟨isMap_empty,fun r _=>by simp [Maps.has],fun k h=>by simp [Maps.has] at h⟩
theorem SeenF.put {V:List Nat} {D:DM} {r:Nat} (h:SeenF V D) (hr:r<1048576) (d:DM):SeenF (V++[r]) (D.put (.int .u32 r) d):=by
 have hl:WideAt.IsKeyLit (.int .u32 (r:Int)):=trivial
 have inj:∀ x:Nat,x≠r->(Lit.int .u32 (x:Int))≠.int .u32 (r:Int):=fun x hx e=>hx (by simp at e;omega)
 refine ⟨h.im.put _ _,fun x hx=>?_,fun k hk=>?_⟩
 ·by_cases e:x=r
  ·subst e;simp [has_put_same h.im hl]
  ·rw [has_put_other (inj x e),h.has x hx];simp [e]
 ·by_cases e:k=.int .u32 (r:Int)
  ·exact ⟨r,e,hr⟩
  ·rw [has_put_other e] at hk;exact h.dom k hk
theorem seenF_size {V:List Nat} {D:DM} (h:SeenF V D) (hc:Maps.Canon D) (ht:Tidy D):Maps.size D<maxLen:=by
 have:=size_le_keys hc (ks:=(List.range 1048576).map fun (r:Nat)=>Lit.int .u32 (r:Int)) (fun k hk=>by
  obtain ⟨r,rfl,hr⟩:=h.dom k hk
  exact List.mem_map.2 ⟨r,List.mem_range.2 hr,rfl⟩) ht
 simp only [List.length_map,List.length_range] at this
 unfold maxLen;omega
def U64 (x:Int):Prop:=0<=x/\x<18446744073709551616
theorem wrap_u64 (n:Int):U64 (IntKind.u64.wrap n):=by
 have e:IntKind.u64.wrap n=n % 18446744073709551616:=rfl
 rw [e];unfold U64;omega
theorem bits_u64 (op:BinOp) (x y:Int):U64 (bits op IntKind.u64 x y):=wrap_u64 _
def nb (x:Int) (i:Nat):Bool:=x.toNat.testBit i
theorem toNat_bv {x:Int} (h:U64 x):(BitVec.ofInt 64 x).toNat=x.toNat:=by
 unfold U64 at h;rw [BitVec.toNat_ofInt]
 have:x % (2 ^ 64:Nat)=x:=by omega
 rw [this]
theorem nb_bv {x:Int} (h:U64 x) (i:Nat):nb x i=(BitVec.ofInt 64 x).getLsbD i:=by
 unfold nb;rw [<- toNat_bv h,BitVec.testBit_toNat]
theorem nb_of_bv (B:BitVec 64) (i:Nat):nb ((B.toNat:Int) % 18446744073709551616) i=B.getLsbD i:=by
 have h:=B.isLt
 have:((B.toNat:Int) % 18446744073709551616).toNat=B.toNat:=by omega
 unfold nb;rw [this,BitVec.testBit_toNat]
theorem nb_or {x y:Int} (hx:U64 x) (hy:U64 y) (i:Nat):nb (bits BinOp.or IntKind.u64 x y) i=(nb x i||nb y i):=by
 rw [nb_bv hx,nb_bv hy,<- BitVec.getLsbD_or];exact nb_of_bv (BitVec.ofInt 64 x ||| BitVec.ofInt 64 y) i
theorem nb_and {x y:Int} (hx:U64 x) (hy:U64 y) (i:Nat):nb (bits BinOp.and IntKind.u64 x y) i=(nb x i&&nb y i):=by
 rw [nb_bv hx,nb_bv hy,<- BitVec.getLsbD_and];exact nb_of_bv (BitVec.ofInt 64 x &&& BitVec.ofInt 64 y) i
theorem nb_pow {n:Nat} (hn:n<64) (i:Nat):nb (IntKind.u64.wrap (2 ^ n)) i=decide (n=i):=by
 have e:IntKind.u64.wrap ((2:Int) ^ n)=(2:Int) ^ n % 18446744073709551616:=rfl;have h1:(2:Nat) ^ n<2 ^ 64:=Nat.pow_lt_pow_right (by omega) hn
 have h2:((2:Int) ^ n)=((2 ^ n:Nat):Int):=by push_cast;rfl
 have h3:((2:Int) ^ n % 18446744073709551616).toNat=2 ^ n:=by rw [h2];generalize (2:Nat) ^ n=m at h1 ⊢;omega
 rw [e];unfold nb;rw [h3,Nat.testBit_two_pow]
theorem nb_zero (i:Nat):nb 0 i=false:=by simp [nb]
theorem nb_ext {x y:Int} (hx:U64 x) (hy:U64 y) (h:∀ i,i<64->nb x i=nb y i):x=y:=by
 have:x.toNat=y.toNat:=by
  apply Nat.eq_of_testBit_eq
  intro i
  by_cases hi:i<64
  ·exact h i hi
  ·have l:∀ z:Int,U64 z->z.toNat.testBit i=false:=fun z hz=>by
    apply Nat.testBit_lt_two_pow
    have h1:(2:Nat) ^ 64<=2 ^ i:=Nat.pow_le_pow_right (by omega) (by omega)
    unfold U64 at hz;omega
   rw [l x hx,l y hy]
 unfold U64 at hx hy;omega
theorem bitT_nb {x:Int} (hx:U64 x) (v:Nat):bitT x v=nb x v:=by
 obtain ⟨n,rfl⟩ : ∃ n:Nat,x=(n:Int):=⟨x.toNat,by unfold U64 at hx;omega⟩
 have hn:n<18446744073709551616:=by unfold U64 at hx;omega
 have e:((n:Int)/2 ^ v)=((n/2 ^ v:Nat):Int):=by push_cast;rfl
 have hu:U64 ((n:Int)/2 ^ v):=by
  rw [e];have:=Nat.div_le_self n (2 ^ v);generalize n/2 ^ v=m at this ⊢;unfold U64;omega
 have h1:U64 1:=by unfold U64;omega
 have hbit:nb ((n:Int)/2 ^ v) 0=nb (n:Int) v:=by
  rw [e];unfold nb
  simp only [Int.toNat_natCast]
  rw [Nat.testBit_div_two_pow,Nat.zero_add]
 have h2:∀ i,nb (bits BinOp.and IntKind.u64 ((n:Int)/2 ^ v) 1) i=(nb ((n:Int)/2 ^ v) i&&decide (i=0)):=fun i=>by
  rw [nb_and hu h1]
  congr 1
  have:nb 1 i=decide (0=i):=nb_pow (n:=0) (by omega) i
  rw [this];by_cases h:i=0 <;> simp [h];omega
 have hW:=bits_u64 BinOp.and ((n:Int)/2 ^ v) 1;unfold bitT
 cases hb:nb (n:Int) v with
 | true =>
  have:bits BinOp.and IntKind.u64 ((n:Int)/2 ^ v) 1=1:=nb_ext hW h1 fun i _=>by
   have e1:nb 1 i=decide (0=i):=nb_pow (n:=0) (by omega) i;rw [h2,e1]
   by_cases h:i=0
   ·subst h;rw [hbit,hb];rfl
   ·simp [h];omega
  rw [this];rfl
 | false =>
  have:bits BinOp.and IntKind.u64 ((n:Int)/2 ^ v) 1=0:=nb_ext hW (by unfold U64;omega) fun i _=>by
   rw [h2,nb_zero]
   by_cases h:i=0
   ·subst h;rw [hbit,hb];rfl
   ·simp [h]
  rw [this];rfl
theorem WalkL.one {K:KV} {r:Nat} {N:List Nat} (h:WalkL K [] [r] N):WalkN K [] r N:=by
 cases h with
 | cons h t=>cases t;simpa using h
theorem KV.Under.node {K:KV} {P:List Nat} (hw:K.Wf P) {r x:Nat} (ht:K.A.tk r=true) (h:K.Under r x):2<=x/\K.A.tk x=true:=by
 induction h with
 | refl h=>exact ⟨h,ht⟩
 | lo _ hp h2 ih =>
  obtain ⟨p',hp',hpt'⟩:=ArenaV.tk_iff.1 ih.2
  rw [hp] at hp';cases hp'
  exact ⟨h2,(hw.cl _ _ ih.1 hp hpt').1⟩
 | hi _ hp h2 ih =>
  obtain ⟨p',hp',hpt'⟩:=ArenaV.tk_iff.1 ih.2
  rw [hp] at hp';cases hp'
  exact ⟨h2,(hw.cl _ _ ih.1 hp hpt').2⟩
theorem WalkN.mem {K:KV} {r x:Nat} {N:List Nat} (h:WalkN K [] r N):x∈N↔K.Under r x:=by
 refine ⟨h.under x,fun hu=>?_⟩
 induction hu with
 | refl h2=>simpa using h.has h2
 | lo _ hp h2 ih =>
  rcases (h.kids _ _ ih hp).1 with h3 | h3
  ·omega
  ·simpa using h3
 | hi _ hp h2 ih =>
  rcases (h.kids _ _ ih hp).2 with h3 | h3
  ·omega
  ·simpa using h3
theorem KV.Ok.kid_den {K:KV} (hk:K.Ok) {x:Nat} {p:PlaceV} (h2:2<=x) (hp:K.A.list[x]?=some p) (hpt:p.taken=true) (b:Bool) (y:Nat->Bool):K.den (if b then p.hi else p.lo) y=K.den x (upd y p.var.toNat b):=by
 cases b with
 | true=>exact (KV.den_hi hk.wf hk.ord h2 hp hpt y).symm
 | false=>exact (KV.den_lo hk.wf hk.ord h2 hp hpt y).symm
theorem KV.Ok.mix_kid {K:KV} (hk:K.Ok) {r x:Nat} {p:PlaceV} (h2:2<=x) (hp:K.A.list[x]?=some p) (hpt:p.taken=true) (b:Bool) {a:Nat->Bool} (ha:∀ y,K.den x y=K.den r (K.mix (K.dep x) a y)) :
  ∃ a',∀ y,K.den (if b then p.hi else p.lo) y=K.den r (K.mix (K.dep (if b then p.hi else p.lo)) a' y):=by
 have hvr:=hk.wf.vr x p h2 hp hpt;have hb:=hk.ord.below hk.wf h2 hp hpt;have hcl:=hk.wf.cl x p h2 hp hpt
 have hdx:K.dep x=K.lev p.var.toNat:=by simp [KV.dep,hp,hvr.1]
 have hvl:p.var.toNat<K.vars:=by omega
 generalize hc:(if b then p.hi else p.lo)=c
 have htc:K.A.tk c=true:=by
  subst hc;cases b
  ·exact hcl.1
  ·exact hcl.2
 have hdc:K.dep x<K.dep c:=by
  subst hc;cases b
  ·exact hb.1
  ·exact hb.2
 refine ⟨upd a p.var.toNat b,fun y=>?_⟩
 have e1:K.den c y=K.den c (K.mix (K.dep c) (upd a p.var.toNat b) y):=KV.den_same hk.wf hk.ord _ c _ _ htc (Nat.le_refl _) fun u hu hd=>by
  simp only [KV.mix];rw [if_neg (by omega)]
 rw [e1,<- hc,hk.kid_den h2 hp hpt,ha,hc]
 congr 1
 funext u
 simp only [KV.mix,upd]
 by_cases hu:u<K.vars
 ·by_cases h3:u=p.var.toNat
  ·subst h3
   simp only [hu,true_and,if_true]
   rw [if_neg (by omega),if_pos (by omega)]
  ·simp only [hu,true_and,h3,if_false]
   by_cases h4:K.lev u<K.dep x
   ·rw [if_pos h4,if_pos (by omega)]
   ·rw [if_neg h4]
 ·have h3:u≠p.var.toNat:=by omega
  simp [hu,h3]
theorem KV.Ok.mix_under {K:KV} (hk:K.Ok) {r x:Nat} (ht:K.A.tk r=true) (h:K.Under r x):∃ a,∀ y,K.den x y=K.den r (K.mix (K.dep x) a y):=by
 induction h with
 | refl h=>exact ⟨fun _=>false,fun y=>KV.den_same hk.wf hk.ord _ r _ _ ht (Nat.le_refl _) fun u hu hd=>by
   simp only [KV.mix];rw [if_neg (by omega)]⟩
 | lo h hp h2 ih =>
  obtain ⟨a,ha⟩:=ih;have hn:=h.node hk.wf ht;obtain ⟨p',hp',hpt'⟩:=ArenaV.tk_iff.1 hn.2
  rw [hp] at hp';cases hp'
  exact hk.mix_kid hn.1 hp hpt' false ha
 | hi h hp h2 ih =>
  obtain ⟨a,ha⟩:=ih;have hn:=h.node hk.wf ht;obtain ⟨p',hp',hpt'⟩:=ArenaV.tk_iff.1 hn.2
  rw [hp] at hp';cases hp'
  exact hk.mix_kid hn.1 hp hpt' true ha
def Hangs (t:(Nat->Bool)->Bool) (v:Nat):Prop:=∃ y,t (upd y v true)≠t (upd y v false)
theorem KV.Ok.hangs_of {K:KV} (hk:K.Ok) (hu:K.Uni) {r x:Nat} {p:PlaceV} (ht:K.A.tk r=true) (h:K.Under r x) (hp:K.A.list[x]?=some p):Hangs (K.den r) p.var.toNat:=by
 have hn:=h.node hk.wf ht;obtain ⟨p',hp',hpt⟩:=ArenaV.tk_iff.1 hn.2
 rw [hp] at hp';cases hp'
 have hvr:=hk.wf.vr x p hn.1 hp hpt;have hcl:=hk.wf.cl x p hn.1 hp hpt
 have hdx:K.dep x=K.lev p.var.toNat:=by simp [KV.dep,hp,hvr.1]
 obtain ⟨a,ha⟩:=hk.mix_under ht h
 have hne:∃ y,K.den p.hi y≠K.den p.lo y:=by
  by_cases hh:∃ y,K.den p.hi y≠K.den p.lo y
  ·exact hh
  ·exfalso
   refine hk.ord.ne x p hn.1 hp hpt (KV.canon hk.wf hk.ord hu _ _ _ hcl.1 hcl.2 (Nat.le_refl _) fun y=>?_)
   by_cases h:K.den p.lo y=K.den p.hi y
   ·exact h
   ·exact absurd ⟨y,fun e=>h e.symm⟩ hh
 obtain ⟨y,hy⟩:=hne;refine ⟨K.mix (K.dep x) a y,?_⟩
 have e:∀ b,upd (K.mix (K.dep x) a y) p.var.toNat b=K.mix (K.dep x) a (upd y p.var.toNat b):=fun b=>by
  funext u
  simp only [KV.mix,upd]
  by_cases h3:u=p.var.toNat
  ·subst h3;rw [if_pos rfl,if_neg (by omega),if_pos rfl]
  ·simp [h3]
 rw [e,e,<- ha,<- ha];have e1:=hk.kid_den hn.1 hp hpt true y;have e2:=hk.kid_den hn.1 hp hpt false y
 simp only [if_true] at e1
 simp only [Bool.false_eq_true,if_false] at e2
 rw [<- e1,<- e2];exact hy
theorem KV.Ok.hangs_not {K:KV} (hk:K.Ok) {v:Nat}:∀ (n r:Nat),K.vars-K.dep r<=n->K.A.tk r=true->(∀ x p,K.Under r x->K.A.list[x]?=some p->p.var.toNat≠v)->∀ y b,K.den r (upd y v b)=K.den r y
 | n,r,hn,ht,hx,y,b=>by
  by_cases h2:2<=r
  ·obtain ⟨p,u,hp,hpt,hpv,hu,h3,h4,hd⟩:=hk.wf.node_at h2 ht
   have hb:=hk.ord.below hk.wf h2 hp hpt;have hlt:=hk.wf.dep_lt hk.ord h2 ht;have hv:=hx r p (.refl h2) hp
   match n with
   | 0=>omega
   | n+1 =>
    have ih:∀ c,K.A.tk c=true->K.dep r<K.dep c->(2<=c->K.Under r c)->K.den c (upd y v b)=K.den c y:=fun c hc hd hu=>by
     by_cases hc2:2<=c
     ·exact KV.Ok.hangs_not hk n c (by omega) hc (fun x q hx' hq=>hx x q ((hu hc2).trans hx') hq) y b
     ·rw [K.den_const (by omega),K.den_const (by omega)]
    rw [KV.den_node hk.wf hk.ord h2 hp hpt,KV.den_node hk.wf hk.ord h2 hp hpt,upd_ne _ _ hv,ih p.hi h4 hb.2 (fun h=>.hi (.refl h2) hp h),ih p.lo h3 hb.1 (fun h=>.lo (.refl h2) hp h)]
  ·rw [K.den_const (by omega),K.den_const (by omega)]
theorem KV.Wf.vof_lt {K:KV} {P:List Nat} (h:K.Wf P) {x:Nat} (h2:2<=x) (ht:K.A.tk x=true):K.vof x<K.vars:=by
 obtain ⟨p,v,hp,_,hv,hl,_⟩:=h.node_at h2 ht
 simp [KV.vof,hp];omega
theorem sup_fold' (K:KV) (N:List Nat) (hv:∀ x,x∈N->K.vof x<64) (s:Int) (hs:U64 s):U64 (N.foldl (fun s x=>supStep s (K.vof x)) s)/\∀ i,nb (N.foldl (fun s x=>supStep s (K.vof x)) s) i=(nb s i||decide (∃ x,x∈N/\K.vof x=i)):=by
 induction N generalizing s with
 | nil=>exact ⟨hs,fun i=>by simp⟩
 | cons a N ih =>
  obtain ⟨h1,h2⟩:=ih (fun x hx=>hv x (by simp [hx])) (supStep s (K.vof a)) (bits_u64 _ _ _);refine ⟨h1,fun i=>?_⟩;rw [List.foldl_cons,h2];unfold supStep;rw [nb_or hs (wrap_u64 _),nb_pow (hv a (by simp)),Bool.or_assoc]
  congr 1
  rw [Bool.eq_iff_iff];simp
theorem SupIs.bits {K:KV} {r:Nat} {s:Int} (hk:K.Ok) (hu:K.Uni) (ht:K.A.tk r=true) (h:SupIs K r s):U64 s/\∀ v,nb s v=true↔Hangs (K.den r) v:=by
 obtain ⟨N,hN,rfl⟩:=h;have hN:=hN.one
 have hv:∀ x,x∈N->K.vof x<64:=fun x hx=>by
  have:=hN.two x hx;have:=hk.wf.vof_lt this.1 this.2;have:=hk.wf.vs;omega
 obtain ⟨h1,h2⟩:=sup_fold' K N hv 0 (by unfold U64;omega);refine ⟨h1,fun v=>?_⟩;rw [h2,nb_zero,Bool.false_or,decide_eq_true_eq];constructor
 ·rintro ⟨x,hx,rfl⟩
  have ht':=hN.two x hx;obtain ⟨p,hp,hpt⟩:=ArenaV.tk_iff.1 ht'.2;have:=hk.hangs_of hu ht (hN.under x hx) hp
  simpa [KV.vof,hp] using this
 ·intro hh
  by_cases he:∃ x,x∈N/\K.vof x=v
  ·exact he
  ·exfalso
   obtain ⟨y,hy⟩:=hh;have key:=hk.hangs_not (v:=v) _ r (Nat.le_refl _) ht (fun x p hx hp hv=>he ⟨x,hN.mem.2 hx,by simp [KV.vof,hp,hv]⟩);exact hy (by rw [key,key])
end Go.Proofs.YtlkgkojidclncaaGreat
namespace Go.Proofs.YtlkgkojidclncaaGreat
structure TV where
 n:Nat
 ws:List Int
deriving DecidableEq
def wordsN (n:Nat):Nat:=if n<=6 then 1 else 2 ^ (n-6)
structure TV.Ok (t:TV):Prop where
 n16:t.n<=16
 len:t.ws.length=wordsN t.n
 u:∀ x,x∈t.ws->U64 x
 low:t.n<6->∀ x,x∈t.ws->∀ i,2 ^ t.n<=i->nb x i=false
def TV.bit (t:TV) (x:Nat):Bool:=nb (t.ws.getD (x/64) 0) (x % 64)
theorem wordsN_mul {n:Nat} (h:6<=n):wordsN n*64=2 ^ n:=by
 unfold wordsN;split
 ·obtain rfl:n=6:=by omega
  rfl
 ·have:n=(n-6)+6:=by omega
  rw [this,Nat.pow_add];simp
theorem TV.Ok.word {t:TV} (h:t.Ok) {i:Nat} (hi:i<wordsN t.n):U64 (t.ws.getD i 0)/\t.ws.getD i 0∈t.ws/\t.ws[i]?=some (t.ws.getD i 0):=by
 have hl:i<t.ws.length:=by rw [h.len];exact hi
 have e:t.ws[i]?=some (t.ws.getD i 0):=by rw [List.getD_eq_getElem?_getD,List.getElem?_eq_getElem hl];rfl
 have hm:=List.mem_of_getElem? e;exact ⟨h.u _ hm,hm,e⟩
theorem div64_lt {n x:Nat} (hx:x<2 ^ n):x/64<wordsN n:=by
 by_cases h:6<=n
 ·have:=wordsN_mul h;omega
 ·have:(2:Nat) ^ n<=2 ^ 6:=Nat.pow_le_pow_right (by omega) (by omega)
  unfold wordsN;rw [if_pos (by omega)];omega
theorem TV.ext {t u:TV} (ht:t.Ok) (hu:u.Ok) (hn:t.n=u.n) (h:∀ x,x<2 ^ t.n->t.bit x=u.bit x):t=u:=by
 obtain ⟨n,ws⟩:=t;obtain ⟨m,vs⟩:=u
 simp only at hn;subst hn
 congr 1
 apply List.ext_getElem?
 intro i
 by_cases hi:i<wordsN n
 ·obtain ⟨a1,a2,a3⟩:=ht.word (i:=i) hi
  obtain ⟨b1,b2,b3⟩:=hu.word (i:=i) hi
  show ws[i]?=vs[i]?
  have a3':ws[i]?=some (ws.getD i 0):=a3;have b3':vs[i]?=some (vs.getD i 0):=b3;rw [a3',b3']
  congr 1
  refine nb_ext a1 b1 fun j hj=>?_
  by_cases h6:6<=n
  ·have hw:=wordsN_mul h6
   have:=h (64*i+j) (by show 64*i+j<2 ^ n;omega);unfold TV.bit at this;rw [show (64*i+j)/64=i by omega,show (64*i+j) % 64=j by omega] at this;exact this
  ·have hi0:i=0:=by unfold wordsN at hi;rw [if_pos (by omega)] at hi;omega
   subst hi0
   by_cases hj2:j<2 ^ n
   ·have:=h j hj2
    unfold TV.bit at this;rw [show j/64=0 by omega,show j % 64=j by omega] at this;exact this
   ·rw [ht.low (by simpa using h6) _ a2 j (by simpa using hj2),hu.low (by simpa using h6) _ b2 j (by simpa using hj2)]
 ·have e1:=ht.len
  have e2:=hu.len
  simp only at e1 e2
  rw [List.getElem?_eq_none (by omega),List.getElem?_eq_none (by omega)]
def idx:Nat->(Nat->Bool)->Nat
 | 0,_=>0
 | n+1,y=>idx n y+if y n then 2 ^ n else 0
theorem idx_lt:∀ (n:Nat) (y:Nat->Bool),idx n y<2 ^ n
 | 0,_=>by simp [idx]
 | n+1,y=>by
  have:=idx_lt n y
  have e:(2:Nat) ^ (n+1)=2 ^ n+2 ^ n:=by rw [Nat.pow_succ];omega
  unfold idx;split <;> omega
theorem idx_bit:∀ (n:Nat) (y:Nat->Bool) (v:Nat),(idx n y).testBit v=(decide (v<n)&&y v)
 | 0,y,v=>by simp [idx]
 | n+1,y,v=>by
  have hl:=idx_lt n y;have ih:=idx_bit n y v;unfold idx
  by_cases hy:y n=true
  ·rw [if_pos hy,Nat.add_comm]
   by_cases hv:v=n
   ·subst hv
    rw [Nat.testBit_two_pow_add_eq,Nat.testBit_lt_two_pow hl]
    simp [hy]
   ·by_cases hvn:v<n
    ·rw [Nat.testBit_two_pow_add_gt hvn,ih]
     simp [hvn,show v<n+1 by omega]
    ·have h2:2 ^ n+idx n y<2 ^ v:=by
      have e:(2:Nat) ^ (n+1)=2 ^ n+2 ^ n:=by rw [Nat.pow_succ];omega
      have:(2:Nat) ^ (n+1)<=2 ^ v:=Nat.pow_le_pow_right (by omega) (by omega);omega
     rw [Nat.testBit_lt_two_pow h2]
     simp [show ¬ v<n+1 by omega]
  ·rw [if_neg hy,Nat.add_zero,ih]
   by_cases hv:v=n
   ·subst hv;simp [hy]
   ·have:(v<n)↔(v<n+1):=by omega
    simp [this]
theorem idx_of {n x:Nat} (hx:x<2 ^ n):idx n (fun v=>x.testBit v)=x:=by
 apply Nat.eq_of_testBit_eq
 intro v
 rw [idx_bit]
 by_cases hv:v<n
 ·simp [hv]
 ·have:x<2 ^ v:=Nat.lt_of_lt_of_le hx (Nat.pow_le_pow_right (by omega) (by omega))
  rw [Nat.testBit_lt_two_pow this];simp [hv]
def setb (x v:Nat) (b:Bool):Nat:=if x.testBit v=b then x else if b then x+2 ^ v else x-2 ^ v
theorem tb_add {x v:Nat} (h:x.testBit v=false) (u:Nat):(x+2 ^ v).testBit u=if u=v then true else x.testBit u:=by
 by_cases hu:u=v
 ·subst hu;rw [if_pos rfl,Nat.add_comm,Nat.testBit_two_pow_add_eq,h];rfl
 ·rw [if_neg hu]
  have e:x+2 ^ v=x ||| 2 ^ v:=by
   have hd:=Nat.div_add_mod x (2 ^ (v+1))
   have hm:x % 2 ^ (v+1)<2 ^ v:=by
    have h1:x % 2 ^ (v+1)<2 ^ (v+1):=Nat.mod_lt _ (Nat.two_pow_pos _)
    have h2:(x % 2 ^ (v+1)).testBit v=false:=by rw [Nat.testBit_mod_two_pow,h];simp
    by_cases hge:2 ^ v<=x % 2 ^ (v+1)
    ·exfalso
     have e2:(2:Nat) ^ (v+1)=2 ^ v+2 ^ v:=by rw [Nat.pow_succ];omega
     have e3:x % 2 ^ (v+1)=2 ^ v+(x % 2 ^ (v+1)-2 ^ v):=by omega
     rw [e3,Nat.testBit_two_pow_add_eq,Nat.testBit_lt_two_pow (by omega)] at h2;cases h2
    ·omega
   apply Nat.eq_of_testBit_eq
   intro i
   have e4:x+2 ^ v=2 ^ (v+1)*(x/2 ^ (v+1))+(2 ^ v+x % 2 ^ (v+1)):=by omega
   have e5:2 ^ v+x % 2 ^ (v+1)<2 ^ (v+1):=by
    have e2:(2:Nat) ^ (v+1)=2 ^ v+2 ^ v:=by rw [Nat.pow_succ];omega
    omega
   rw [e4,Nat.testBit_two_pow_mul_add _ e5,Nat.testBit_or,Nat.testBit_two_pow];have h6:=Nat.testBit_mod_two_pow x (v+1) i
   have h7:x.testBit i=if i<v+1 then (x % 2 ^ (v+1)).testBit i else (x/2 ^ (v+1)).testBit (i-(v+1)):=by
    split
    ·rename_i hi;rw [h6];simp [hi]
    ·rename_i hi;rw [Nat.testBit_div_two_pow];congr 1;omega
   rw [h7]
   by_cases hi:i<v+1
   ·rw [if_pos hi,if_pos hi]
    by_cases hiv:i=v
    ·subst hiv;rw [Nat.testBit_two_pow_add_eq,Nat.testBit_lt_two_pow hm];simp
    ·rw [Nat.testBit_two_pow_add_gt (by omega)];simp [Ne.symm hiv]
   ·rw [if_neg hi,if_neg hi]
    have:¬ v=i:=by omega
    simp [this]
  rw [e,Nat.testBit_or,Nat.testBit_two_pow]
  simp [Ne.symm hu]
theorem setb_bit (x v:Nat) (b:Bool) (u:Nat):(setb x v b).testBit u=if u=v then b else x.testBit u:=by
 unfold setb
 by_cases h:x.testBit v=b
 ·rw [if_pos h]
  by_cases hu:u=v
  ·subst hu;rw [if_pos rfl];exact h
  ·rw [if_neg hu]
 ·rw [if_neg h]
  cases b with
  | true =>
   have h':x.testBit v=false:=by simpa using h
   rw [if_pos rfl,tb_add h']
  | false =>
   have h':x.testBit v=true:=by simpa using h
   have hge:2 ^ v<=x:=Nat.ge_two_pow_of_testBit h'
   have h0:(x-2 ^ v).testBit v=false:=by
    cases e:(x-2 ^ v).testBit v with
    | false=>rfl
    | true =>
     have:=Nat.testBit_two_pow_add_eq (x-2 ^ v) v
     rw [Nat.add_comm,Nat.sub_add_cancel hge,h',e] at this;cases this
   have:=tb_add h0 u;rw [Nat.sub_add_cancel hge] at this
   simp only [Bool.false_eq_true,if_false]
   by_cases hu:u=v
   ·subst hu;rw [if_pos rfl];exact h0
   ·rw [if_neg hu] at this ⊢;exact this.symm
theorem setb_idx {n v:Nat} (hv:v<n) (y:Nat->Bool) (b:Bool):setb (idx n y) v b=idx n (upd y v b):=by
 apply Nat.eq_of_testBit_eq
 intro u
 rw [setb_bit,idx_bit,idx_bit]
 by_cases hu:u=v
 ·subst hu;simp [hv,upd]
 ·simp [hu,upd]
def TV.fn (t:TV) (y:Nat->Bool):Bool:=t.bit (idx t.n y)
theorem TV.fn_ext {t u:TV} (ht:t.Ok) (hu:u.Ok) (hn:t.n=u.n) (h:∀ y,t.fn y=u.fn y):t=u :=
 TV.ext ht hu hn fun x hx=>by
  have:=h fun v=>x.testBit v
  unfold TV.fn at this;rw [idx_of hx,<- hn,idx_of hx] at this;exact this
theorem TV.fn_same (t:TV) {x y:Nat->Bool} (h:∀ v,v<t.n->x v=y v):t.fn x=t.fn y:=by
 have:idx t.n x=idx t.n y:=by
  apply Nat.eq_of_testBit_eq
  intro v
  rw [idx_bit,idx_bit]
  by_cases hv:v<t.n
  ·simp [hv,h v hv]
  ·simp [hv]
 unfold TV.fn;rw [this]
end Go.Proofs.YtlkgkojidclncaaGreat
namespace Go.Proofs.YtlkgkojidclncaaGreat
open Go.RowKit
def mkT (n:Nat) (f:Nat->Bool):TV:=⟨n,(List.range (wordsN n)).map fun i=>((idx 64 fun j=>decide (64*i+j<2 ^ n)&&f (64*i+j):Nat):Int)⟩
theorem nb_cast (m i:Nat):nb (m:Int) i=m.testBit i:=by simp [nb]
theorem mkT_word (n:Nat) (f:Nat->Bool) {i:Nat} (hi:i<wordsN n):(mkT n f).ws.getD i 0=((idx 64 fun j=>decide (64*i+j<2 ^ n)&&f (64*i+j):Nat):Int):=by
 rw [List.getD_eq_getElem?_getD]
 simp [mkT,hi]
theorem mkT_ok {n:Nat} (f:Nat->Bool) (hn:n<=16):(mkT n f).Ok:=by
 refine ⟨hn,by simp [mkT],fun x hx=>?_,fun h6 x hx i hi=>?_⟩
 ·simp only [mkT,List.mem_map] at hx
  obtain ⟨i,_,rfl⟩:=hx
  have:=idx_lt 64 fun j=>decide (64*i+j<2 ^ n)&&f (64*i+j)
  unfold U64;omega
 ·have h6':n<6:=h6
  have hi':2 ^ n<=i:=hi
  simp only [mkT,List.mem_map,List.mem_range] at hx
  obtain ⟨j,hj,rfl⟩:=hx
  have hj0:j=0:=by unfold wordsN at hj;rw [if_pos (by omega)] at hj;omega
  subst hj0;rw [nb_cast,idx_bit]
  simp;intro _ h;omega
theorem mkT_bit {n:Nat} (f:Nat->Bool) {x:Nat} (hx:x<2 ^ n):(mkT n f).bit x=f x:=by
 unfold TV.bit;rw [mkT_word n f (div64_lt hx),nb_cast,idx_bit]
 have e:64*(x/64)+x % 64=x:=by omega
 simp only [e,hx,decide_true,Bool.true_and]
 have:x % 64<64:=Nat.mod_lt _ (by omega)
 simp [this]
theorem mkT_n (n:Nat) (f:Nat->Bool):(mkT n f).n=n:=rfl
theorem mkT_fn {n:Nat} (f:Nat->Bool) (y:Nat->Bool):(mkT n f).fn y=f (idx n y):=by
 unfold TV.fn;rw [mkT_n,mkT_bit f (idx_lt n y)]
def varT (n v:Nat):TV:=mkT n fun x=>x.testBit v
def cofT (t:TV) (v:Nat) (b:Bool):TV:=mkT t.n fun x=>t.bit (setb x v b)
theorem varT_fn {n v:Nat} (hv:v<n) (y:Nat->Bool):(varT n v).fn y=y v:=by
 unfold varT;rw [mkT_fn,idx_bit];simp [hv]
theorem cofT_fn {t:TV} {v:Nat} (hv:v<t.n) (b:Bool) (y:Nat->Bool):(cofT t v b).fn y=t.fn (upd y v b):=by
 unfold cofT;rw [mkT_fn,setb_idx hv];rfl
theorem cofT_ok {t:TV} (ht:t.Ok) (v:Nat) (b:Bool):(cofT t v b).Ok:=mkT_ok _ ht.n16
def depT (t:TV) (v:Nat):Bool:=!decide (cofT t v false=cofT t v true)
theorem depT_iff {t:TV} (ht:t.Ok) {v:Nat} (hv:v<t.n):depT t v=true↔Hangs t.fn v:=by
 unfold depT;rw [Bool.not_eq_true',decide_eq_false_iff_not];constructor
 ·intro hne
  by_cases hh:∃ y,t.fn (upd y v true)≠t.fn (upd y v false)
  ·exact hh
  ·exfalso
   refine hne (TV.fn_ext (cofT_ok ht v false) (cofT_ok ht v true) rfl fun y=>?_);rw [cofT_fn hv,cofT_fn hv]
   by_cases h:t.fn (upd y v false)=t.fn (upd y v true)
   ·exact h
   ·exact absurd ⟨y,fun e=>h e.symm⟩ hh
 ·rintro ⟨y,hy⟩ e
  exact hy (by rw [<- cofT_fn hv true y,<- cofT_fn hv false y,e])
end Go.Proofs.YtlkgkojidclncaaGreat
namespace Go.Proofs.YtlkgkojidclncaaGreat
structure Plain (K:KV) (n m:Nat):Prop where
 ok:K.Ok
 uni:K.Uni
 vr:K.vars=n
 lv:∀ v,v<n->K.lev v=v
 pl:K.A.places=m
theorem KV.Made.at_iff {K K':KV} {v lo hi r:Nat} (M:K.Made v lo hi r K') {s u lo' hi':Nat}:K'.At s u lo' hi'↔(s=r/\u=v/\lo'=lo/\hi'=hi)\/K.At s u lo' hi':=by
 constructor
 ·intro h
  obtain ⟨h2,p,hp,hpt,e1,e2,e3⟩:=h
  by_cases e:s=r
  ·subst e
   rw [M.at_] at hp;cases hp
   simp at e1 e2 e3
   exact .inl ⟨rfl,by omega,e2.symm,e3.symm⟩
  ·have ht:K'.A.tk s=true:=ArenaV.tk_iff.2 ⟨p,hp,hpt⟩
   rw [M.tk] at ht
   simp [e] at ht
   obtain ⟨p',hp',hpt'⟩:=ArenaV.tk_iff.1 ht;have:=M.ext.nd s p' hp' hpt'
   rw [hp] at this;cases this
   exact .inr ⟨h2,p,hp',hpt,e1,e2,e3⟩
 ·rintro (⟨rfl,rfl,rfl,rfl⟩ | ⟨h2,p,hp,hpt,rest⟩)
  ·exact ⟨M.two,_,M.at_,rfl,rfl,rfl,rfl⟩
  ·exact ⟨h2,p,M.ext.nd s p hp hpt,hpt,rest⟩
theorem opB_and (a b:Bool):opB 8 a b=(a&&b):=by cases a <;> cases b <;> rfl
theorem opB_xor (a b:Bool):opB 6 a b=(a != b):=by cases a <;> cases b <;> rfl
end Go.Proofs.YtlkgkojidclncaaGreat
namespace Go.Proofs.YtlkgkojidclncaaGreat
open Go.RowKit Go.Maps Go.ChangeMaps Go.WideShapes
structure MakePost (b:Nat) (v:Int) (lo hi:Nat) (K:KV) (q:KPtr) (w:World) (e:Ending) (w':World):Prop where
 ex:∃ (r:Nat) (code:Int) (K':KV) (T':List DM) (q':KPtr),e=.returned (.tuple #[.int .u32 r,.int .i64 code])/\MakeR K v lo hi r code K'/\KerIn w' b K' T' q'/\Upd (q.all b) w w'/\Sub (q.all b) w (q'.all b)
theorem var_live (b:Nat) (v:Int) (K:KV) (T:List DM) (q:KPtr) (w:World) (h:KerIn w b K T q) :
  Calls Tryz.prog 47 #[.pointer (some ⟨b,0,none⟩),.int .i64 v] w fun e w'=>MakePost b v 0 1 K q w e w':=by
 have HK:=Lib.hid h;clear h
 go_enter Tryz.func47,Tryz.ntmps47
 go_wp2_with fail;refine (make_spec b v 0 1 K T q w HK.out (by omega) (by omega)).mono ?_;rintro e w1 ⟨r,code,K',T',q',rfl,hE⟩;have HE:=Lib.hid hE;clear hE;go_wp2_with fail;go_ret2;exact ⟨r,code,K',T',q',rfl,HE.out⟩
theorem and_live (b f g:Nat) (K:KV) (T:List DM) (q:KPtr) (w:World) (h:KerIn w b K T q) (hf:K.A.tk f=true) (hg:K.A.tk g=true) :
  Calls Tryz.prog 45 #[.pointer (some ⟨b,0,none⟩),.int .u32 f,.int .u32 g] w fun e w'=>OpPost b K q (K.fun3 (fun x y _=>opB 8 x y) f g 0) w e w':=by
 have HC:=Lib.hid (binary_live b 8 f g K T q w h (by omega) hf hg);clear h hf hg
 go_enter Tryz.func45,Tryz.ntmps45
 go_wp2_with fail;refine HC.out.mono ?_;rintro e w1 hE;obtain ⟨r,code,K',T',q',rfl,hP⟩:=hE.ex;have HE:=Lib.hid hP;clear hE hP HC;go_wp2_with fail;go_ret2;exact ⟨r,code,K',T',q',rfl,HE.out⟩
theorem or_live (b f g:Nat) (K:KV) (T:List DM) (q:KPtr) (w:World) (h:KerIn w b K T q) (hf:K.A.tk f=true) (hg:K.A.tk g=true) :
  Calls Tryz.prog 44 #[.pointer (some ⟨b,0,none⟩),.int .u32 f,.int .u32 g] w fun e w'=>OpPost b K q (K.fun3 (fun x y _=>opB 14 x y) f g 0) w e w':=by
 have HC:=Lib.hid (binary_live b 14 f g K T q w h (by omega) hf hg);clear h hf hg
 go_enter Tryz.func44,Tryz.ntmps44
 go_wp2_with fail;refine HC.out.mono ?_;rintro e w1 hE;obtain ⟨r,code,K',T',q',rfl,hP⟩:=hE.ex;have HE:=Lib.hid hP;clear hE hP HC;go_wp2_with fail;go_ret2;exact ⟨r,code,K',T',q',rfl,HE.out⟩
theorem xor_live (b f g:Nat) (K:KV) (T:List DM) (q:KPtr) (w:World) (h:KerIn w b K T q) (hf:K.A.tk f=true) (hg:K.A.tk g=true) :
  Calls Tryz.prog 89 #[.pointer (some ⟨b,0,none⟩),.int .u32 f,.int .u32 g] w fun e w'=>OpPost b K q (K.fun3 (fun x y _=>opB 6 x y) f g 0) w e w':=by
 have HC:=Lib.hid (binary_live b 6 f g K T q w h (by omega) hf hg);clear h hf hg
 go_enter Tryz.func89,Tryz.ntmps89
 go_wp2_with fail;refine HC.out.mono ?_;rintro e w1 hE;obtain ⟨r,code,K',T',q',rfl,hP⟩:=hE.ex;have HE:=Lib.hid hP;clear hE hP HC;go_wp2_with fail;go_ret2;exact ⟨r,code,K',T',q',rfl,HE.out⟩
theorem Hangs.var {t:(Nat->Bool)->Bool} {a:Nat} (h:∀ y,t y=y a) (v:Nat):Hangs t v↔v=a:=by
 constructor
 ·rintro ⟨y,hy⟩
  rw [h,h] at hy
  by_cases e:v=a
  ·exact e
  ·simp [upd,Ne.symm e] at hy
 ·rintro rfl
  exact ⟨fun _=>true,by rw [h,h];simp [upd]⟩
def addT (l:List TV) (t:TV):List TV:=if t∈l then l else l++[t]
def unlikeT (L:List TV):List TV:=L.foldl addT []
def nodesT (L:List TV) (v:Nat):List TV:=L.filter fun t=>depT t v
def givenT (L:List TV) (v:Nat):List TV:=L.foldl (fun l t=>addT (addT l (cofT t v false)) (cofT t v true)) []
def curT (c:List TV) (o:List Nat):List TV:=o.foldl givenT c
def levT:List TV->List Nat->List (List TV)
 | _,[]=>[]
 | c,v::o=>nodesT c v::levT (givenT c v) o
theorem mem_addT {l:List TV} {t u:TV}:u∈addT l t↔u∈l\/u=t:=by
 unfold addT;split
 ·constructor
  ·exact .inl
  ·rintro (h | rfl);exact h;assumption
 ·simp
theorem mem_unlikeT {L:List TV} {u:TV}:u∈unlikeT L↔u∈L:=by
 have key:∀ (L l:List TV),u∈L.foldl addT l↔u∈l\/u∈L:=by
  intro L
  induction L with
  | nil=>intro l;simp
  | cons a L ih=>intro l;rw [List.foldl_cons,ih,mem_addT,List.mem_cons,or_assoc]
 simpa [unlikeT] using key L []
theorem mem_givenT {L:List TV} {v:Nat} {u:TV}:u∈givenT L v↔∃ t,t∈L/\∃ b,u=cofT t v b:=by
 have key:∀ (L l:List TV),u∈L.foldl (fun l t=>addT (addT l (cofT t v false)) (cofT t v true)) l↔u∈l\/∃ t,t∈L/\∃ b,u=cofT t v b:=by
  intro L
  induction L with
  | nil=>intro l;simp
  | cons a L ih =>
   intro l
   rw [List.foldl_cons,ih,mem_addT,mem_addT];constructor
   ·rintro (((h | h) | h) | ⟨t,h,b,e⟩)
    ·exact .inl h
    ·exact .inr ⟨a,by simp,_,h⟩
    ·exact .inr ⟨a,by simp,_,h⟩
    ·exact .inr ⟨t,by simp [h],b,e⟩
   ·rintro (h | ⟨t,h,b,e⟩)
    ·exact .inl (.inl (.inl h))
    ·rcases List.mem_cons.1 h with rfl | h
     ·cases b
      ·exact .inl (.inl (.inr e))
      ·exact .inl (.inr e)
     ·exact .inr ⟨t,h,b,e⟩
 simpa [givenT] using key L []
end Go.Proofs.YtlkgkojidclncaaGreat
