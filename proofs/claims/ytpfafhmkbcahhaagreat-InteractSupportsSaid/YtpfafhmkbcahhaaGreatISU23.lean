import Derived.Test.YtpfafhmkbcahhaaGreatISU22
set_option maxRecDepth 100000
set_option maxHeartbeats 6400000
namespace Go.Proofs.YtpfafhmkbcahhaaGreat
open Go.RowKit Go.Maps Go.ChangeMaps Go.WideShapes
theorem SupL.uniq {K:KV} {s1 s2:List Int} (hk:K.Ok) (hu:K.Uni) (h1:SupL K K.roots s1) (h2:SupL K K.roots s2):s1=s2:=by
 apply List.ext_getElem?
 intro i
 by_cases hi:i<K.roots.length
 ·have e1:s1[i]?=some (s1[i]'(by rw [h1.1];exact hi)):=List.getElem?_eq_getElem _
  have e2:s2[i]?=some (s2[i]'(by rw [h2.1];exact hi)):=List.getElem?_eq_getElem _;have hr:K.roots[i]?=some (K.roots[i]'hi):=List.getElem?_eq_getElem _;have ht:=(hk.wf.ht _ (KV.mem_roots.1 (List.mem_of_getElem? hr))).2;have b1:=(h1.2 i _ _ hr e1).bits hk hu ht;have b2:=(h2.2 i _ _ hr e2).bits hk hu ht;rw [e1,e2,nb_ext b1.1 b2.1 fun v _=>Bool.eq_iff_iff.2 ((b1.2 v).trans (b2.2 v).symm)]
 ·rw [List.getElem?_eq_none (by rw [h1.1];omega),List.getElem?_eq_none (by rw [h2.1];omega)]
theorem nb_lt {x:Int} (h:U64 x) {i:Nat} (hi:nb x i=true):i<64:=by
 refine Classical.byContradiction fun hn=>?_
 have h1:(2:Nat) ^ 64<=2 ^ i:=Nat.pow_le_pow_right (by omega) (by omega)
 have:x.toNat.testBit i=false:=by
  apply Nat.testBit_lt_two_pow
  unfold U64 at h;omega
 unfold nb at hi;rw [this] at hi;cases hi
theorem SupIs.lt {K:KV} {r:Nat} {s:Int} (hk:K.Ok) (hu:K.Uni) (ht:K.A.tk r=true) (h:SupIs K r s) {v:Nat} (hv:nb s v=true):v<K.vars:=by
 refine Classical.byContradiction fun hn=>?_
 obtain ⟨y,hy⟩:=((h.bits hk hu ht).2 v).1 hv
 have:=hk.hangs_not (v:=v) (K.vars-K.dep r) r (Nat.le_refl _) ht fun x p hU hp e=>by
  obtain ⟨h2,hx⟩:=hU.node hk.wf ht;have:=hk.wf.vof_lt h2 hx;unfold KV.vof at this;rw [hp] at this
  simp only at this
  omega
 rw [this,this] at hy;exact hy rfl
structure MatG (n:Nat) (M:List Int):Prop where
 n64:n<=64
 len:M.length=n
 u64:∀ x,x<n->U64 (M.getD x 0)
 sym:∀ x y,x<n->y<n->nb (M.getD x 0) y=nb (M.getD y 0) x
 dia:∀ x,x<n->nb (M.getD x 0) x=false
 lt:∀ x y,x<n->nb (M.getD x 0) y=true->y<n
theorem mat_g {K:KV} {ss:List Int} (hk:K.Ok) (hu:K.Uni) (hS:SupL K K.roots ss):MatG K.vars (ss.foldl (matRow K.vars) (List.replicate K.vars 0)):=by
 have h:=mat_bits hk hu hS;have hn:=hk.wf.vs.2;refine ⟨hn,h.len,h.u64,fun x y hx hy=>?_,fun x hx=>?_,fun x y hx hy=>?_⟩
 ·rw [h.bit x y hx (by omega),h.bit y x hy (by omega)]
  congr 1
  funext s
  have:decide (x=y)=decide (y=x):=by simp [eq_comm]
  rw [this]
  cases nb s x <;> cases nb s y <;> rfl
 ·rw [h.bit x x hx (by omega)]
  simp
 ·have h6:=nb_lt (h.u64 x hx) hy
  rw [h.bit x y hx h6,List.any_eq_true] at hy;obtain ⟨s,hs,hb⟩:=hy
  simp only [Bool.and_eq_true] at hb
  obtain ⟨i,hi⟩:=List.getElem?_of_mem hs;have hl:=(List.getElem?_eq_some_iff.1 hi).1;have hr:K.roots[i]?=some (K.roots[i]'(by rw [<- hS.1];exact hl)):=List.getElem?_eq_getElem _;exact (hS.2 i _ s hr hi).lt hk hu (hk.wf.ht _ (KV.mem_roots.1 (List.mem_of_getElem? hr))).2 hb.2.1
theorem grow_nb {M:List Int} {st:Int × Bool} {w:Nat} (hg:U64 st.1) (hm:U64 (M.getD w 0)) (i:Nat):nb (growStep M st w).1 i=(nb st.1 i||(nb st.1 w&&nb (M.getD w 0) i)):=by
 unfold growStep;rw [bitT_nb hg]
 cases hb:nb st.1 w with
 | false=>simp
 | true =>
  by_cases hz:bits BinOp.andNot IntKind.u64 (M.getD w 0) st.1=0
  ·rw [hz]
   simp only [Bool.true_and,ne_eq,not_true_eq_false,decide_false,Bool.false_eq_true,if_false]
   by_cases hi:i<64
   ·have h1:=nb_andNot hm hg hi
    rw [hz,nb_zero] at h1
    cases h2:nb st.1 i <;> cases h3:nb (M.getD w 0) i <;> simp_all
   ·cases h3:nb (M.getD w 0) i with
    | false=>simp
    | true=>exact absurd (nb_lt hm h3) hi
  ·simp only [Bool.true_and,ne_eq,hz,not_false_eq_true,decide_true,if_true]
   exact nb_or hg hm i
theorem sweep_in {M:List Int} {n:Nat} {g:Int} (hM:MatG n M) (hg:U64 g):∀ k,k<=n->(∀ i,nb g i=true->nb (sweepTo M k g).1 i=true)/\∀ P:Nat->Prop,(∀ i,nb g i=true->P i)->(∀ w,w<n->P w->∀ i,nb (M.getD w 0) i=true->P i)->∀ i,nb (sweepTo M k g).1 i=true->P i
 | 0,_=>⟨fun i h=>h,fun P h0 _ i h=>h0 i h⟩
 | k+1,hk=>by
  obtain ⟨a,b⟩:=sweep_in hM hg k (by omega);rw [sweep_succ];have hu:U64 (sweepTo M k g).1:=(sweep_grow M k g hg).1;refine ⟨fun i h=>?_,fun P h0 h1 i h=>?_⟩
  ·rw [grow_nb hu (hM.u64 k (by omega)),a i h];rfl
  ·rw [grow_nb hu (hM.u64 k (by omega)),Bool.or_eq_true,Bool.and_eq_true] at h
   rcases h with h | ⟨h,h'⟩
   ·exact b P h0 h1 i h
   ·exact h1 k (by omega) (b P h0 h1 k h) i h'
theorem sweep_clo {M:List Int} {n:Nat} {g:Int} (hM:MatG n M) (hg:U64 g):∀ k,k<=n->(sweepTo M k g).2=false->∀ w,w<k->nb g w=true->∀ i,nb (M.getD w 0) i=true->nb g i=true
 | 0,_,_,w,hw,_,_,_=>by omega
 | k+1,hk,hf,w,hw,hgw,i,hi=>by
  rw [sweep_succ] at hf;have hu:U64 (sweepTo M k g).1:=(sweep_grow M k g hg).1;have hgb:=grow_nb (st:=sweepTo M k g) (w:=k) hu (hM.u64 k (by omega)) i
  have h2:(sweepTo M k g).2=false/\(growStep M (sweepTo M k g) k).1=(sweepTo M k g).1:=by
   unfold growStep at hf ⊢
   split at hf
   ·cases hf
   ·rename_i hc;rw [if_neg hc];exact ⟨hf,rfl⟩
  have h3:=(sweep_grow M k g hg).2.2.2 h2.1;rw [h2.2,h3] at hgb
  by_cases e:w=k
  ·subst e
   rw [hgw,hi] at hgb
   simpa using hgb
  ·exact sweep_clo hM hg k (by omega) h2.1 w (by omega) hgw i hi
theorem Grow.clo {M:List Int} {n:Nat} {g z:Int} (hM:MatG n M) (h:Grow M n g z):U64 g->U64 z/\(∀ i,nb g i=true->nb z i=true)/\(∀ w,w<n->nb z w=true->∀ i,nb (M.getD w 0) i=true->nb z i=true)/\∀ P:Nat->Prop,(∀ i,nb g i=true->P i)->(∀ w,w<n->P w->∀ i,nb (M.getD w 0) i=true->P i)->∀ i,nb z i=true->P i:=by
 induction h with
 | done h=>exact fun hg=>⟨hg,fun i h=>h,sweep_clo hM hg n (Nat.le_refl _) h,fun P h0 _ i h=>h0 i h⟩
 | more h k ih =>
  intro hg
  obtain ⟨a,b,c,d⟩:=ih (sweep_grow M n _ hg).1;obtain ⟨e,f⟩:=sweep_in hM hg n (Nat.le_refl _);exact ⟨a,fun i h=>b i (e i h),c,fun P h0 h1=>d P (f P h0 h1) h1⟩
def pops (g:Int):Nat->Nat
 | 0=>0
 | n+1=>pops g n+if nb g n then 1 else 0
theorem pops_le (g:Int):∀ n,pops g n<=n
 | 0=>Nat.le_refl _
 | n+1=>by have:=pops_le g n;unfold pops;split <;> omega
theorem pops_mono {g z:Int} (h:∀ i,nb g i=true->nb z i=true):∀ n,pops g n<=pops z n
 | 0=>Nat.le_refl _
 | n+1=>by
  have:=pops_mono h n;unfold pops
  by_cases hg:nb g n=true
  ·rw [if_pos hg,if_pos (h n hg)];omega
  ·rw [if_neg hg];omega
theorem pops_lt {g z:Int} (h:∀ i,nb g i=true->nb z i=true) {i:Nat} (h1:nb g i=false) (h2:nb z i=true):∀ n,i<n->pops g n<pops z n
 | 0,hi=>by omega
 | n+1,hi=>by
  unfold pops
  by_cases e:i=n
  ·subst e
   have:=pops_mono h i
   rw [h1,h2];simp;omega
  ·have:=pops_lt h h1 h2 n (by omega)
   by_cases hg:nb g n=true
   ·rw [if_pos hg,if_pos (h n hg)];omega
   ·rw [if_neg hg];omega
def sweeps (M:List Int) (n:Nat):Nat->Int->Int
 | 0,g=>g
 | k+1,g=>sweeps M n k (sweepTo M n g).1
theorem sweeps_fix {M:List Int} {n:Nat} {g:Int} (h:(sweepTo M n g).1=g):∀ k,sweeps M n k g=g
 | 0=>rfl
 | k+1=>by unfold sweeps;rw [h];exact sweeps_fix h k
theorem sweeps_snoc (M:List Int) (n:Nat):∀ (k:Nat) (g:Int),sweeps M n (k+1) g=(sweepTo M n (sweeps M n k g)).1
 | 0,g=>rfl
 | k+1,g=>by
  have:=sweeps_snoc M n k (sweepTo M n g).1;exact this
theorem Grow.sweeps {M:List Int} {n:Nat} {g z:Int} (hM:MatG n M) (h:Grow M n g z):U64 g->(∀ i,nb g i=true->i<n)->∀ k,n<=k+pops g n->sweeps M n k g=z:=by
 induction h with
 | done h=>exact fun hg _ k _=>sweeps_fix ((sweep_grow M n _ hg).2.2.2 h) k
 | @more g z h kk ih =>
  intro hg hlt k hk
  have hs:=sweep_grow M n g hg;obtain ⟨e,f⟩:=sweep_in hM hg n (Nat.le_refl _)
  have hlt1:=f (·<n) hlt fun w hw _ i hi=>hM.lt w i hw hi
  have hx:∃ i,nb (sweepTo M n g).1 i=true/\nb g i=false:=by
   refine Classical.byContradiction fun hn=>?_
   have:=hs.2.2.1 h
   have e2:(sweepTo M n g).1=g:=nb_ext hs.1 hg fun i _=>by
    cases h1:nb g i with
    | true=>exact e i h1
    | false =>
     cases h2:nb (sweepTo M n g).1 i with
     | false=>rfl
     | true=>exact absurd ⟨i,h2,h1⟩ hn
   omega
  obtain ⟨i,h1,h2⟩:=hx;have hc:=pops_lt e h2 h1 n (hlt1 i h1);have hc2:=pops_le (sweepTo M n g).1 n
  cases k with
  | zero=>omega
  | succ k=>exact ih hs.1 hlt1 k (by omega)
def wStep (M:List Int) (r:Int) (w:Nat):Int:=if bitT r w then bits BinOp.or IntKind.u64 r (M.getD w 0) else r
theorem wStep_grow {M:List Int} {st:Int × Bool} {w:Nat} (hg:U64 st.1) (hm:U64 (M.getD w 0)):wStep M st.1 w=(growStep M st w).1:=by
 have hu:U64 (wStep M st.1 w):=by
  unfold wStep;split
  ·exact bits_u64 _ _ _
  ·exact hg
 have hu2:U64 (growStep M st w).1:=by
  unfold growStep;split
  ·exact wrap_u64 _
  ·exact hg
 refine nb_ext hu hu2 fun i _=>?_
 rw [grow_nb hg hm];unfold wStep;rw [bitT_nb hg]
 cases nb st.1 w with
 | false=>simp
 | true=>rw [if_pos rfl,Bool.true_and];exact nb_or hg hm i
theorem wSweep {M:List Int} {n:Nat} {g:Int} (hM:MatG n M) (hg:U64 g):∀ k,k<=n->(List.range k).foldl (wStep M) g=(sweepTo M k g).1
 | 0,_=>rfl
 | k+1,hk=>by
  rw [List.range_succ,List.foldl_append,wSweep hM hg k (by omega),sweep_succ,<- wStep_grow (sweep_grow M k g hg).1 (hM.u64 k (by omega))];rfl
theorem sweeps_u {M:List Int} {n:Nat}:∀ (k:Nat) {g:Int},U64 g->U64 (sweeps M n k g)
 | 0,_,h=>h
 | k+1,_,h=>sweeps_u k (sweep_grow M n _ h).1
def orAll (gs:List Int):Int:=gs.foldl (bits BinOp.or IntKind.u64) 0
theorem orAll_snoc (gs:List Int) (g:Int):orAll (gs++[g])=bits BinOp.or IntKind.u64 (orAll gs) g:=by simp [orAll]
def leastOf (l:List Nat):Int:=match l.getLast? with | none=>-1 | some x=>x
theorem leastOf_snoc (l:List Nat) (x:Nat):leastOf (l++[x])=x:=by simp [leastOf]
theorem leastOf_lt {l:List Nat} {u:Nat} (h:∀ x,x∈l->x<u):leastOf l<u:=by
 unfold leastOf
 cases e:l.getLast? with
 | none=>simp only;omega
 | some x=>have:=h x (List.mem_of_getLast? e);simp only;omega
structure GrpE (M:List Int) (n:Nat) (d:Int) (us:List Nat) (g:Int) (u:Nat):Prop where
 u64:U64 g
 d64:U64 d
 has:nb g u=true
 fst:∀ w,w<u->nb g w=false
 dis:bits BinOp.and IntKind.u64 g d=0
 nz:g≠0
 gr:sweeps M n n (IntKind.u64.wrap (2 ^ u))=g
 lst:∀ x,x∈us->x<u
structure GrpI (M:List Int) (n v:Nat) (d:Int) (gs:List Int) (vs:List Nat):Prop where
 len:vs.length=gs.length
 u64:U64 d
 dlt:∀ i,nb d i=true->i<n
 all:∀ i,i<v->nb d i=true
 clo:∀ w,w<n->nb d w=true->∀ i,nb (M.getD w 0) i=true->nb d i=true
 acc:d=orAll gs
 lt:∀ x,x∈vs->x<v
 at_:∀ i g,gs[i]?=some g->∃ u,vs[i]?=some u/\u<v/\GrpE M n (orAll (gs.take i)) (vs.take i) g u
theorem GrR.grp {M:List Int} {n:Nat} (hM:MatG n M) {v:Nat} {d:Int} {gs:List Int} (h:GrR M n v d gs):v<=n->∃ vs,GrpI M n v d gs vs:=by
 have hn:=hM.n64
 induction h with
 | zero=>exact fun _=>⟨[],⟨rfl,by unfold U64;omega,fun i h=>absurd h (by rw [nb_zero];simp),fun i h=>absurd h (Nat.not_lt_zero i),fun w _ h i _=>absurd h (by rw [nb_zero];simp),rfl,fun x h=>by simp at h,fun i g h=>by simp at h⟩⟩
 | @skip v d gs h hb ih =>
  intro hv
  obtain ⟨vs,I⟩:=ih (by omega);rw [bitT_nb I.u64] at hb;refine ⟨vs,I.len,I.u64,I.dlt,fun i hi=>?_,I.clo,I.acc,fun x h=>by have:=I.lt x h;omega,fun i g h=>?_⟩
  ·by_cases e:i=v
   ·subst e;exact hb
   ·exact I.all i (by omega)
  ·obtain ⟨u,a,b,c⟩:=I.at_ i g h
   exact ⟨u,a,by omega,c⟩
 | @take v d g gs h hb k ih =>
  intro hv
  obtain ⟨vs,I⟩:=ih (by omega);rw [bitT_nb I.u64] at hb
  have hp:∀ i,nb (IntKind.u64.wrap (2 ^ v)) i=true->i=v:=fun i h=>by rw [nb_pow (by omega)] at h;simpa using (of_decide_eq_true h).symm
  obtain ⟨g1,g2,g3,g4⟩:=k.clo hM (wrap_u64 _);have hgv:nb g v=true:=g2 v (by rw [nb_pow (by omega)];simp)
  have hglt:∀ i,nb g i=true->i<n:=g4 (·<n) (fun i h=>by rw [hp i h];omega) fun w hw _ i hi=>hM.lt w i hw hi
  have hdis:∀ i,nb g i=true->nb d i=false:=g4 (fun i=>nb d i=false) (fun i h=>by rw [hp i h];exact hb) fun w hw hdw i hi=>by
   cases h1:nb d i with
   | false=>rfl
   | true =>
    have h2:=hM.lt w i hw hi;rw [hM.sym w i hw h2] at hi;rw [I.clo i h2 h1 w hi] at hdw;cases hdw
  have hk:=k.sweeps hM (wrap_u64 _) (fun i h=>by rw [hp i h];omega) n (by omega);refine ⟨vs++[v],by simp [I.len],bits_u64 _ _ _,fun i h=>?_,fun i hi=>?_,fun w hw h i hi=>?_,by rw [orAll_snoc,<- I.acc],fun x h=>?_,fun i g' hi=>?_⟩
  ·rw [nb_or I.u64 g1,Bool.or_eq_true] at h
   exact h.elim (I.dlt i) (hglt i)
  ·rw [nb_or I.u64 g1]
   by_cases e:i=v
   ·subst e;rw [hgv];simp
   ·rw [I.all i (by omega)];rfl
  ·rw [nb_or I.u64 g1,Bool.or_eq_true] at h ⊢
   exact h.imp (fun h=>I.clo w hw h i hi) fun h=>g3 w hw h i hi
  ·rw [List.mem_append] at h
   rcases h with h | h
   ·have:=I.lt x h;omega
   ·simp at h;omega
  ·by_cases hl:i<gs.length
   ·rw [List.getElem?_append_left hl] at hi
    obtain ⟨u,a,b,c⟩:=I.at_ i g' hi;refine ⟨u,by rw [List.getElem?_append_left (by rw [I.len];exact hl)];exact a,by omega,?_⟩;rw [List.take_append_of_le_length (by omega),List.take_append_of_le_length (by rw [I.len];omega)];exact c
   ·have hl2:=(List.getElem?_eq_some_iff.1 hi).1
    simp at hl2
    obtain rfl:i=gs.length:=by omega
    simp at hi
    subst hi;refine ⟨v,by rw [<- I.len];simp,by omega,?_⟩;rw [List.take_left,<- I.acc]
    have hvs:(vs++[v]).take gs.length=vs:=by rw [<- I.len,List.take_left]
    rw [hvs];refine ⟨g1,I.u64,hgv,fun w hw=>?_,?_,fun e=>?_,hk,I.lt⟩
    ·cases h1:nb g w with
     | false=>rfl
     | true=>have:=hdis w h1;rw [I.all w hw] at this;cases this
    ·refine nb_ext (bits_u64 _ _ _) (by unfold U64;omega) fun i _=>?_
     rw [nb_and g1 I.u64,nb_zero]
     cases h1:nb g i with
     | false=>rfl
     | true=>rw [hdis i h1];rfl
    ·rw [e,nb_zero] at hgv;cases hgv
theorem all_full {d:Int} {n:Nat} (hn:n<=64) (hd:U64 d) (h:∀ i,nb d i=true↔i<n):d=18446744073709551615/2 ^ (64-n):=by
 have e:(18446744073709551615:Int)/2 ^ (64-n)=(((2 ^ 64-1)/2 ^ (64-n):Nat):Int):=by
  have h1:(2 ^ 64-1:Nat)=18446744073709551615:=by decide
  rw [h1,Int.natCast_ediv]
  have h2:∀ k:Nat,((2 ^ k:Nat):Int)=(2:Int) ^ k:=fun k=>by induction k with
   | zero=>rfl
   | succ k ih=>rw [Nat.pow_succ,Int.pow_succ,<- ih];rfl
  rw [h2];rfl
 have hl:=Nat.div_le_self (2 ^ 64-1) (2 ^ (64-n));rw [e]
 refine nb_ext hd ?_ fun i hi=>?_
 ·generalize (2 ^ 64-1)/2 ^ (64-n)=m at *;unfold U64;omega
 ·unfold nb at *
  rw [Int.toNat_natCast,Nat.testBit_div_two_pow,Nat.testBit_two_pow_sub_one];rw [Bool.eq_iff_iff,h i,decide_eq_true_iff];omega
theorem whole_spec (gm n base u:Nat) (M:List Int) (g:Int) (w:World) (hr:w.ownsRow base 96 1 (.slice (some ⟨gm,0,none⟩) n n) n (flatU M)) (hM:MatG n M) (hu:u<64) (hg:sweeps M n n (IntKind.u64.wrap (2 ^ u))=g) :
  Calls Tryz.prog 58 #[.slice (some ⟨gm,0,none⟩) n n,.int .u64 g,.int .i64 u] w fun e w'=>e=.returned (.bool true)/\w'=w:=by
 have HR:=Lib.hid hr;have HM:=Lib.hid hM;have HG:=Lib.hid hg;have hn:=hM.n64;obtain ⟨r0,hr0⟩ : ∃ r0,IntKind.u64.wrap (2 ^ u)=r0:=⟨_,rfl⟩
 have HU0:Hid (U64 r0):=by rw [<- hr0];exact wrap_u64 _
 have HR0:=Lib.hid hr0;rw [hr0] at HG;clear hr hM hg hr0
 go_enter Tryz.func58,Tryz.ntmps58
 go_wp2_with fail
 go_loopg [7,13] n (fun gg s7 s13 wr=>∃ k:Nat,n-k=gg/\k<=n/\s7=.int .u64 (sweeps M n k r0)/\s13=.int .i64 k/\wr=w)
 case atStart=>exact ⟨0,by omega,by omega,by rw [<- HR0.out];rfl,rfl,rfl⟩
 case round =>
  obtain ⟨k,rfl,hk,rfl,rfl,rfl⟩:=hrel
  by_cases hlt:k<n
  ·have hki:(k:Int)<(n:Int):=by omega
   obtain ⟨g0,hg0⟩ : ∃ g0,sweeps M n k r0=g0:=⟨_,rfl⟩
   have HU:Hid (U64 g0):=by rw [<- hg0];exact sweeps_u k HU0.out
   have HNX:Hid (sweeps M n (k+1) r0=(List.range n).foldl (wStep M) g0):=by
    show _=_
    rw [sweeps_snoc,hg0,wSweep HM.out HU.out n (Nat.le_refl _)]
   rw [hg0];clear hg0;go_wp2_with fail
   go_loopg [7,17] n (fun gg s7 s17 wr2=>∃ v:Nat,n-v=gg/\v<=n/\s7=.int .u64 ((List.range v).foldl (wStep M) g0)/\s17=.int .i64 v/\wr2=wr)
   case atStart=>exact ⟨0,by omega,by omega,rfl,rfl,rfl⟩
   case round =>
    obtain ⟨v,rfl,hv,rfl,rfl,rfl⟩:=hrel
    by_cases hvt:v<n
    ·have hvi:(v:Int)<(n:Int):=by omega
     have hv64:v<64:=by omega
     have cm:=row_cell HR.out (j:=v) (u:=.int .u64 (M.getD v 0)) (by
      have h1:=HM.out.len
      simp only [flatU]
      rw [List.getElem?_map,List.getD_eq_getElem?_getD,List.getElem?_eq_getElem (by omega)];rfl)
     obtain ⟨r,hr⟩ : ∃ r,(List.range v).foldl (wStep M) g0=r:=⟨_,rfl⟩
     have HN:Hid ((List.range (v+1)).foldl (wStep M) g0=if bitT r v then bits BinOp.or IntKind.u64 r (M.getD v 0) else r):=by
      show _=_
      rw [List.range_succ,List.foldl_append,hr];rfl
     rw [hr];clear hr;generalize M.getD v 0=mv at *
     cases hbt:(bits BinOp.and IntKind.u64 (r/2 ^ v) 1 == 1) with
     | true =>
      go_wp2_with fail
      go_roundg (n-(v+1))
      case measure=>omega
      case rel=>exact ⟨v+1,rfl,by omega,by rw [HN.out,show bitT r v=true from hbt];rfl,by simp,rfl⟩
     | false =>
      go_wp2_with fail
      go_roundg (n-(v+1))
      case measure=>omega
      case rel=>exact ⟨v+1,rfl,by omega,by rw [HN.out,show bitT r v=false from hbt];rfl,by simp,rfl⟩
    ·obtain rfl:v=n:=by omega
     have hvi:¬ ((v:Int)<(v:Int)):=by omega
     rw [<- HNX.out];go_wp2_with fail
     go_roundg (v-(k+1))
     case measure=>omega
     case rel=>exact ⟨k+1,rfl,by omega,rfl,by simp,rfl⟩
  ·obtain rfl:k=n:=by omega
   have hki:¬ ((k:Int)<(k:Int)):=by omega
   rw [HG.out]
   have e:(g == g)=true:=by simp
   go_wp2_with fail;go_ret;exact ⟨rfl,rfl⟩
theorem bitN {x:Int} (hx:U64 x) (v:Nat):bits BinOp.and IntKind.u64 (x/2 ^ v) 1=if nb x v then 1 else 0:=by
 have e0:(x/2 ^ v)=((x.toNat/2 ^ v:Nat):Int):=by
  have h1:x=((x.toNat:Nat):Int):=by unfold U64 at hx;omega
  have h2:((2 ^ v:Nat):Int)=(2:Int) ^ v:=by
   have:∀ k:Nat,((2 ^ k:Nat):Int)=(2:Int) ^ k:=fun k=>by induction k with
    | zero=>rfl
    | succ k ih=>rw [Nat.pow_succ,Int.pow_succ,<- ih];rfl
   exact this v
  rw [Int.natCast_ediv,h2,<- h1]
 have hu:U64 (x/2 ^ v):=by
  rw [e0];have:=Nat.div_le_self x.toNat (2 ^ v);generalize x.toNat/2 ^ v=m at *
  unfold U64 at *;omega
 have h1:U64 1:=by unfold U64;omega
 have hz:nb (x/2 ^ v) 0=nb x v:=by
  rw [e0];unfold nb
  rw [Int.toNat_natCast,Nat.testBit_div_two_pow,Nat.zero_add]
 have e1:∀ i,nb 1 i=decide (0=i):=fun i=>nb_pow (n:=0) (by omega) i
 refine nb_ext (bits_u64 _ _ _) (by split <;> (unfold U64;omega)) fun i _=>?_
 rw [nb_and hu h1,e1]
 by_cases h:i=0
 ·subst h
  rw [hz]
  cases nb x v with
  | true=>rw [if_pos rfl,e1];rfl
  | false=>simp [nb_zero]
 ·have h0:¬ (0=i):=fun e=>h e.symm
  cases nb x v with
  | true=>rw [if_pos rfl,e1];simp [h0]
  | false=>simp [nb_zero,h0]
theorem interactSupports_walk (nI:Int) (ua va:Option Addr) (un uc vn vc:Nat) (Us Vs:List Int) (w:World) (hU:RowC w .u64 ua un uc Us) (hV:RowC w .i64 va vn vc Vs) :
  Calls Tryz.prog 13 #[.int .i64 nI,.slice ua un uc,.slice va vn vc] w fun e w'=>e=.returned (.bool true)/\Upd [] w w':=by
 have HLA:=Lib.hid (laid14_spec nI ua va un uc vn vc Us Vs w hU hV);clear hU hV;obtain ⟨i2,hi2,hz2,hs2,hb2⟩:=info_parts Tryz.infoU64;have HI:=Lib.hid (And.intro hi2 (And.intro hz2 (And.intro hs2 hb2)));clear hi2 hz2 hs2 hb2
 go_enter Tryz.func13,Tryz.ntmps13
 go_wp2_with fail;refine HLA.out.mono ?_;rintro e w1 hE;obtain ⟨b,H,rfl,hM,_,hU1⟩:=hE.ex;have h1:=Lib.hid (And.intro hM hU1);clear hE hM hU1;go_wp2_with fail;refine (awake14_spec _).mono ?_;rintro e w2 ⟨rfl,hu⟩;obtain ⟨K,_,⟨T,q,hk,rfl⟩,hxf,_,hC,htl⟩:=h1.out.1.keep0 hu;have HU2:=Lib.hid (h1.out.2.trans hu);have hvs:=hk.ok.wf.vs;have HK:=Lib.hid hk
 have HVA:Hid (∀ x,Upd [] w2 x->Calls Tryz.prog 54 #[.pointer (some ⟨b,0,none⟩)] x fun e w'=>e=.returned (.int .i64 K.vars)/\w'=x):=fun x u=>vars_at b K _ x ⟨T,q,HK.out.upd u (by simp),rfl⟩
 clear hu hk htl hC h1 hxf;go_wp2_with fail;refine (HVA.out _ (Upd.refl _ _)).mono ?_;rintro e wA ⟨rfl,hwA⟩
 have HAU:Hid (Upd [] w2 wA):=by rw [hwA];exact Upd.refl _ _
 clear hwA
 go_wp2_with (refine wpList_make_full _ rfl (.tmp 33) (.tmp 33) 23 rfl wA.heap.size 96 i2 (.int .u64 0) 1 Tryz.underlying23 HI.out.1 HI.out.2.1 HI.out.2.2.1 .i64 .i64 _ _ K.vars rfl rfl rfl rfl (by rw [HI.out.2.2.2];omega) (by unfold maxLen;omega) (Nat.le_refl _) ?_)
 obtain ⟨g,hg⟩ : ∃ g,wA.heap.size=g:=⟨_,rfl⟩;rw [hg]
 intro wB ho hgr
 have HM0:Hid (MatR wA g K.vars (List.replicate K.vars 0) wB):=by
  refine ⟨?_,by simp,(Upd.refl [] wA).grown hgr (by simp)⟩;rw [hg]
  have e:flatU (List.replicate K.vars 0)=(madeCells #[Value.int .u64 0] K.vars).toList:=by
   rw [flatU,List.map_replicate];exact (madeU K.vars).symm
  rw [e];exact ho
 clear ho hgr;go_wp2_with fail;refine (roots_at b K _ _ ⟨T,q,HK.out.upd (HAU.out.trans HM0.out.up) (by simp),rfl⟩).mono ?_;rintro e w3 ⟨lv,rfl,hr3,hu3⟩;obtain ⟨fa,fc,rfl,_⟩:=row_nil_len hr3;have HM3:=Lib.hid (HM0.out.keep hu3);have HR:=Lib.hid hr3
 have hrl:K.roots.length<=1048576:=by
  have h1:=HK.out.ok.wf.len;have h2:=HK.out.ok.wf.ul;have h3:=HK.out.ok.wf.ok.lp;have h4:=HK.out.ok.wf.ok.pm;have h5:=K.rootsI_len K.holds.length
  show (K.rootsI _).length<=_
  omega
 have hg2:=(HM0.out.row.lt g rfl).2;clear hr3 hu3 HM0;go_wp2_with fail
 go_loopg [38] K.roots.length (fun gg s17 wr=>∃ (i:Nat) (ss:List Int),K.roots.length-i=gg/\i<=K.roots.length/\s17=.int .i64 i/\SupL K (K.roots.take i) ss/\MatR wA g K.vars (ss.foldl (matRow K.vars) (List.replicate K.vars 0)) wr/\Upd [g] w3 wr)
 case atStart=>exact ⟨0,[],by omega,by omega,rfl,by simpa using SupL.nil K,HM3.out,Upd.refl _ _⟩
 case round =>
  obtain ⟨i,ss,rfl,hi,rfl,hF,hM,hU⟩:=hrel
  by_cases hlt:i<K.roots.length
  ·obtain ⟨f,hf⟩ : ∃ f,K.roots[i]?=some f:=⟨_,List.getElem?_eq_getElem hlt⟩
   obtain ⟨gr,rfl⟩:=row_some HR.out (by omega);have hgr:=HR.out.lt gr rfl;have hgm:=HM3.out.row.lt g rfl
   have hne:gr≠g:=by omega
   have hrow:=row_keep HR.out fun k hk=>hU.block k (HR.out.lt k hk).2 (by simp [Value.ownBlock] at hk;subst hk;simpa using hne)
   have cf:=row_cell hrow (j:=i) (u:=.int .u32 f) (by simp [flatRefs,hf]);have htk:K.A.tk f=true:=(HK.out.ok.wf.ht f (KV.mem_roots.1 (List.mem_of_getElem? hf))).2
   have hil:(i:Int)<(K.roots.length:Int):=by omega
   have HMi:=Lib.hid (And.intro hM (And.intro hU (And.intro hF hf)));clear hM hU hF hf hrow;go_wp2_with fail;refine (support_spec b f K T q wr (HK.out.upd (HAU.out.trans HMi.out.1.up) (by simp)) htk).mono ?_;rintro e w4 hQ;obtain ⟨N,hN,rfl,hk4,hu4⟩:=hQ.ex;have HS:Hid (SupIs K f (N.foldl (fun s x=>supStep s (K.vof x)) 0)):=⟨N,hN,rfl⟩;generalize N.foldl (fun s x=>supStep s (K.vof x)) 0=s at HS;have HM4:=Lib.hid (And.intro (HMi.out.1.keep hu4) (HMi.out.2.1.trans (hu4.mono (by simp)):Upd [g] w3 w4));clear hQ hN hk4 hu4;go_wp2_with fail
   go_loopg [52] K.vars (fun gg s29 wr2=>∃ v:Nat,K.vars-v=gg/\v<=K.vars/\s29=.int .i64 v/\MatR wA g K.vars ((List.range v).foldl (matUpd s) (ss.foldl (matRow K.vars) (List.replicate K.vars 0))) wr2/\Upd [g] w3 wr2)
   case atStart=>exact ⟨0,by omega,by omega,rfl,HM4.out.1,HM4.out.2⟩
   case round =>
    obtain ⟨v,rfl,hv,rfl,hMv,hUv⟩:=hrel
    by_cases hvt:v<K.vars
    ·have hvi:(v:Int)<(K.vars:Int):=by omega
     have hv64:v<64:=by omega
     generalize hMM:(List.range v).foldl (matUpd s) (ss.foldl (matRow K.vars) (List.replicate K.vars 0))=MM at hMv;have hmg:∃ x,MM[v]?=some x:=⟨_,List.getElem?_eq_getElem (by rw [hMv.len];exact hvt)⟩;obtain ⟨x,hx⟩:=hmg;have cx:=row_cell hMv.row (j:=v) (u:=.int .u64 x) (by simp [flatU,hx]);have fx:=row_frozen hMv.row v;have HMV:=Lib.hid (And.intro hMv (And.intro hUv (And.intro hMM hx)));clear hMv hUv hMM hx
     cases hbt:(bits BinOp.and IntKind.u64 (s/2 ^ v) 1 == 1) with
     | true =>
      have HN:Hid ((List.range (v+1)).foldl (matUpd s) (ss.foldl (matRow K.vars) (List.replicate K.vars 0))=MM.set v (orNotT x s v)):=by
       show _=_
       rw [List.range_succ,List.foldl_append,HMV.out.2.2.1]
       simp only [List.foldl_cons,List.foldl_nil,matUpd]
       rw [show bitT s v=true from hbt,if_pos rfl,List.getD_eq_getElem?_getD,HMV.out.2.2.2];rfl
      go_wp2_with fail
      go_region
      go_wp2_with fail
      go_roundg (K.vars-(v+1))
      case measure=>omega
      case rel =>
       refine ⟨v+1,rfl,by omega,by simp,?_,?_⟩
       ·rw [HN.out]
        exact (HMV.out.1.set hvt (orNotT x s v)).keep ((Upd.refl [] _).drew)
       ·exact (HMV.out.2.1.setCell (p:=⟨g,v,none⟩) (.inl (by simp)) _).drew
     | false =>
      have HN:Hid ((List.range (v+1)).foldl (matUpd s) (ss.foldl (matRow K.vars) (List.replicate K.vars 0))=MM):=by
       show _=_
       rw [List.range_succ,List.foldl_append,HMV.out.2.2.1]
       simp only [List.foldl_cons,List.foldl_nil,matUpd]
       rw [show bitT s v=false from hbt];rfl
      go_wp2_with fail
      go_roundg (K.vars-(v+1))
      case measure=>omega
      case rel=>exact ⟨v+1,rfl,by omega,by simp,by rw [HN.out];exact HMV.out.1,HMV.out.2.1⟩
    ·obtain rfl:v=K.vars:=by omega
     have hvi:¬ ((K.vars:Int)<(K.vars:Int)):=by omega
     have HE:=Lib.hid (And.intro hMv (And.intro hUv (HMi.out.2.2.1.snoc HS.out)));clear hMv hUv;go_wp2_with fail
     go_roundg (K.roots.length-(i+1))
     case measure=>omega
     case rel =>
      refine ⟨i+1,ss++[s],rfl,by omega,by simp,?_,?_,HE.out.2.1⟩
      ·rw [List.take_add_one,HMi.out.2.2.2];exact HE.out.2.2
      ·rw [List.foldl_append];exact HE.out.1
  ·obtain rfl:i=K.roots.length:=by omega
   have hil:¬ ((K.roots.length:Int)<(K.roots.length:Int)):=by omega
   rw [List.take_length] at hF;have HG:=Lib.hid (mat_g HK.out.ok (HK.out.ti.uni HK.out.ok.wf) hF);have HU5:=Lib.hid (HAU.out.trans hM.up);obtain ⟨MM,hMM⟩ : ∃ MM,ss.foldl (matRow K.vars) (List.replicate K.vars 0)=MM:=⟨_,rfl⟩;rw [hMM] at HG hM;have HE:=Lib.hid (And.intro hF (And.intro hM hMM));clear hF hM hU hMM HR HM3 hlt hg2 hrl;go_wp2_with fail;refine (matrix_spec b K T q wr (HK.out.upd HU5.out (by simp))).mono ?_;rintro e w6 ⟨gm,ss2,rfl,hSS,hMR⟩;obtain rfl:ss=ss2:=HE.out.1.uniq HK.out.ok (HK.out.ti.uni HK.out.ok.wf) hSS;rw [HE.out.2.2] at hMR;have HMR:=Lib.hid hMR;have HWK:=Lib.hid (HE.out.2.1.keep hMR.up);have HU6:=Lib.hid (HU5.out.trans hMR.up);have hl:=hMR.len;clear hSS hMR;go_wp2_with fail;refine (sets_spec _ _ _ _ MM MM w6 (by rw [hl];exact HMR.out.row) (by rw [hl];exact HWK.out.row) (by omega) (by omega)).mono ?_;rintro e w7 ⟨rfl,hu7⟩
   have hdt:decide (MM=MM)=true:=by simp
   have HU7:=Lib.hid (HU6.out.trans hu7);have HR7:=Lib.hid (row_keep HMR.out.row fun k hk=>hu7.block k (HMR.out.row.lt k hk).2 (by simp));clear hu7 HWK HMR;obtain ⟨n,hn⟩ : ∃ n,K.vars=n:=⟨_,rfl⟩;have HN:=Lib.hid hn;rw [hn] at hvs HG HVA HR7 ⊢;clear hn hl;go_wp2_with fail
   go_loopg [80] n (fun gg s80 wr=>∃ x:Nat,n-x=gg/\x<=n/\s80=.int .i64 x/\Upd [] w7 wr)
   case atStart=>exact ⟨0,by omega,by omega,rfl,Upd.refl _ _⟩
   case round =>
    obtain ⟨x,rfl,hx,rfl,hUx⟩:=hrel
    by_cases hxt:x<n
    ·have hxi:(x:Int)<(n:Int):=by omega
     have HUX:=Lib.hid hUx;clear hUx;go_wp2_with fail
     go_loopg [85] n (fun gg s85 wz=>∃ y:Nat,n-y=gg/\y<=n/\s85=.int .i64 y/\Upd [] w7 wz)
     case atStart=>exact ⟨0,by omega,by omega,rfl,HUX.out⟩
     case round =>
      obtain ⟨y,rfl,hy,rfl,hUy⟩:=hrel
      by_cases hyt:y<n
      ·have hyi:(y:Int)<(n:Int):=by omega
       have hx64:x<64:=by omega
       have hy64:y<64:=by omega
       have hrow:=row_keep HR7.out fun k hk=>hUy.block k (HR7.out.lt k hk).2 (by simp)
       have cx:=row_cell hrow (j:=x) (u:=.int .u64 (MM.getD x 0)) (by
        have h1:=HG.out.len
        simp only [flatU]
        rw [List.getElem?_map,List.getD_eq_getElem?_getD,List.getElem?_eq_getElem (by omega)];rfl)
       have cy:=row_cell hrow (j:=y) (u:=.int .u64 (MM.getD y 0)) (by
        have h1:=HG.out.len
        simp only [flatU]
        rw [List.getElem?_map,List.getD_eq_getElem?_getD,List.getElem?_eq_getElem (by omega)];rfl)
       have HUY:=Lib.hid hUy
       have d1:(bits BinOp.and IntKind.u64 (MM.getD x 0/2 ^ y) 1 != bits BinOp.and IntKind.u64 (MM.getD y 0/2 ^ x) 1)=false:=by
        rw [bitN (HG.out.u64 x hxt),bitN (HG.out.u64 y hyt),HG.out.sym x y hxt hyt];simp
       clear hrow hUy
       by_cases hxy:y=x
       ·subst hxy
        have d2:(bits BinOp.and IntKind.u64 (MM.getD y 0/2 ^ y) 1 == 1)=false:=by
         rw [bitN (HG.out.u64 y hyt),HG.out.dia y hyt];rfl
        have d3:((y:Int) == (y:Int))=true:=by simp
        clear cx;generalize MM.getD y 0=my at *;go_wp2_with fail
        go_quiet (fail)
        have HUZ:=Lib.hid (HUY.out.drewN nq);clear cy;go_wp2_with fail
        go_roundg (n-(y+1))
        case measure=>omega
        case rel=>exact ⟨y+1,rfl,by omega,by simp,HUZ.out⟩
       ·have d3:((y:Int) == (x:Int))=false:=by simp;omega
        generalize MM.getD x 0=mx at *;generalize MM.getD y 0=my at *;go_wp2_with fail
        go_quiet (fail)
        have HUZ:=Lib.hid (HUY.out.drewN nq);clear cx cy;go_wp2_with fail
        go_roundg (n-(y+1))
        case measure=>omega
        case rel=>exact ⟨y+1,rfl,by omega,by simp,HUZ.out⟩
      ·obtain rfl:y=n:=by omega
       have hyi:¬ ((y:Int)<(y:Int)):=by omega
       have HUY:=Lib.hid hUy;clear hUy;go_wp2_with fail
       go_roundg (y-(x+1))
       case measure=>omega
       case rel=>exact ⟨x+1,rfl,by omega,by simp,HUY.out⟩
    ·obtain rfl:x=n:=by omega
     have hxi:¬ ((x:Int)<(x:Int)):=by omega
     have HU8:=Lib.hid (HU7.out.trans hUx);have HR8:=Lib.hid (row_keep HR7.out fun k hk=>hUx.block k (HR7.out.lt k hk).2 (by simp));obtain ⟨w8,hw8⟩ : ∃ w8,wr=w8:=⟨_,rfl⟩;rw [hw8] at HU8 HR8 ⊢;clear hUx hw8 HR7 HU7 hxt;go_wp2_with fail;refine (groups_spec b K T q w8 (HK.out.upd HU8.out (by simp))).mono ?_;rintro e w9 hE;obtain ⟨lg,ss3,d,gs,rfl,hS3,hGR,hgrow,hu9⟩:=hE.ex;obtain rfl:ss=ss3:=HE.out.1.uniq HK.out.ok (HK.out.ti.uni HK.out.ok.wf) hS3;rw [HE.out.2.2,HN.out] at hGR;obtain ⟨vs,hGI⟩:=hGR.grp HG.out (Nat.le_refl _);have hgl:=hGR.len;obtain ⟨ga,gc,rfl,_⟩:=row_nil_len hgrow;have HGI:=Lib.hid hGI;have HGW:=Lib.hid hgrow;have HU9:=Lib.hid (HU8.out.trans hu9);have HR9:=Lib.hid (row_keep HR8.out fun k hk=>hu9.block k (HR8.out.lt k hk).2 (by simp));obtain ⟨gl,hgl2⟩ : ∃ gl,gs.length=gl:=⟨_,rfl⟩;rw [hgl2] at hgl HGW ⊢;have HGL:=Lib.hid hgl2;clear hE hS3 hGR hGI hgrow hu9 HR8 HU8 hgl2;go_wp2_with fail
     go_loopg [17,18,123] gl (fun gg s17 s18 s123 wr=>∃ i:Nat,gl-i=gg/\i<=gl/\s17=.int .u64 (orAll (gs.take i))/\s18=.int .i64 (leastOf (vs.take i))/\s123=.int .i64 i/\wr=w9)
     case atStart=>exact ⟨0,by omega,by omega,rfl,rfl,rfl,rfl⟩
     case round =>
      obtain ⟨i,rfl,hi,rfl,rfl,rfl,rfl⟩:=hrel
      by_cases hlt:i<gl
      ·have hil:(i:Int)<(gl:Int):=by omega
       obtain ⟨gv,hgv⟩ : ∃ gv,gs[i]?=some gv:=⟨_,List.getElem?_eq_getElem (by rw [HGL.out];exact hlt)⟩;obtain ⟨u,hu,hun,hge⟩:=HGI.out.at_ i gv hgv;obtain ⟨gb,rfl⟩:=row_some HGW.out (by omega);have cg:=row_cell HGW.out (j:=i) (u:=.int .u64 gv) (by simp only [flatU];rw [List.getElem?_map,hgv];rfl)
       have HNX:Hid (orAll (gs.take (i+1))=bits BinOp.or IntKind.u64 (orAll (gs.take i)) gv/\leastOf (vs.take (i+1))=(u:Int)):=by
        refine ⟨?_,?_⟩
        ·rw [List.take_add_one,hgv];exact orAll_snoc _ _
        ·rw [List.take_add_one,hu];exact leastOf_snoc _ _
       have e1:(gv == 0)=false:=by simp [hge.nz]
       have e2:(bits BinOp.and IntKind.u64 gv (orAll (gs.take i)) != 0)=false:=by rw [hge.dis];rfl
       have e3:¬ ((u:Int)<=leastOf (vs.take i)):=by have:=leastOf_lt hge.lst;omega
       have e4:¬ ((x:Int)<=(u:Int)):=by omega
       have HGE:=Lib.hid hge;generalize orAll (gs.take i)=oa at *;generalize leastOf (vs.take i)=la at *;clear hgv hu hge;go_wp2_with fail
       go_loopg [21] u (fun gg s21 wz=>∃ k:Nat,u-k=gg/\k<=u/\s21=.int .i64 k/\wz=wr)
       case atStart=>exact ⟨0,by omega,by omega,rfl,rfl⟩
       case round =>
        obtain ⟨k,rfl,hk,rfl,rfl⟩:=hrel
        have hk64:k<64:=by omega
        by_cases hku:k<u
        ·have f1:(bits BinOp.and IntKind.u64 (gv/2 ^ k) 1 == 0)=true:=by
          rw [bitN HGE.out.u64,HGE.out.fst k hku];rfl
         have f2:(k:Int)<63:=by omega
         go_wp2_with fail
         go_roundg (u-(k+1))
         case measure=>omega
         case rel=>exact ⟨k+1,rfl,by omega,by simp,rfl⟩
        ·obtain rfl:k=u:=by omega
         have f1:(bits BinOp.and IntKind.u64 (gv/2 ^ k) 1 == 0)=false:=by
          rw [bitN HGE.out.u64,HGE.out.has];rfl
         have HWS:=Lib.hid (whole_spec gm x _ k MM gv wr HR9.out HG.out hk64 HGE.out.gr);go_wp2_with fail;refine HWS.out.mono ?_;rintro e wy ⟨rfl,hwy⟩;clear HWS;go_wp2_with fail
         go_roundg (gl-(i+1))
         case measure=>omega
         case rel=>exact ⟨i+1,rfl,by omega,by rw [HNX.out.1],by rw [HNX.out.2],by simp,rfl⟩
      ·obtain rfl:i=gl:=by omega
       have hil:¬ ((i:Int)<(i:Int)):=by omega
       have hfull:orAll (gs.take i)=18446744073709551615/2 ^ (64-x):=by
        have e1:gs.take i=gs:=List.take_of_length_le (by rw [HGL.out];exact Nat.le_refl _);rw [e1,<- HGI.out.acc]
        exact all_full HG.out.n64 HGI.out.u64 fun j=>⟨HGI.out.dlt j,HGI.out.all j⟩
       rw [hfull];obtain ⟨m,hm⟩ : ∃ m,64-x=m:=⟨_,rfl⟩
       have e1:IntKind.i64.wrap (64-(x:Int))=(m:Int):=by rw [IntWalk.i64_in _ (by omega)];omega
       have e2:(64:Int)-(x:Int)=(m:Int):=by omega
       have hm64:m<64:=by omega
       rw [hm]
       have e3:((18446744073709551615:Int)/2 ^ m == 18446744073709551615/2 ^ m)=true:=by simp
       clear hfull;go_wp2_with fail;refine (HVA.out _ HU9.out).mono ?_;rintro e wy ⟨rfl,hwy⟩;go_wp2_with fail;go_ret;exact ⟨rfl,HU2.out.trans HU9.out⟩
end Go.Proofs.YtpfafhmkbcahhaaGreat
