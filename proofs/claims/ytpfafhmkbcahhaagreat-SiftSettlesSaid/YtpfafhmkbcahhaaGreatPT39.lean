import Derived.Test.YtpfafhmkbcahhaaGreatPT33
import Derived.Test.YtpfafhmkbcahhaaGreatPT38
import Derived.Test.YtpfafhmkbcahhaaGreatPT1
import Derived.Test.YtpfafhmkbcahhaaGreatRows
import Derived.StillTailTactics
import Derived.Deep.LoopGhost
import Derived.Deep.DeepCutAuto
import Derived.Deep.RegionHeld3
set_option maxRecDepth 100000
set_option maxHeartbeats 800000
namespace Go.Proofs.YtpfafhmkbcahhaaGreat
open Go.RowKit Go.Maps Go.ChangeMaps Go.WideShapes
theorem levT_at:∀ (o:List Nat) (c:List TV) (i v:Nat),o[i]?=some v->(levT c o)[i]?=some (nodesT (curT c (o.take i)) v)
 | [],_,_,_,h=>by simp at h
 | x::o,c,0,v,h=>by simp at h;subst h;rfl
 | x::o,c,i+1,v,h=>by
  have:=levT_at o (givenT c x) i v (by simpa using h)
  show (levT (givenT c x) o)[i]?=_
  rw [this];rfl
theorem mixO_hangs {f g:(Nat->Bool)->Bool} {o:List Nat} {a:Nat->Bool} (h:∀ y,f y=g (mixO o a y)) {v:Nat} (hv:v∈o):¬ Hangs f v:=by
 rintro ⟨y,hy⟩;refine hy ?_;rw [h,h]
 congr 1
 funext x
 unfold mixO;split
 ·rfl
 ·rename_i hx
  have:x≠v:=fun e=>hx (e ▸ hv)
  simp [upd,this]
theorem KV.Ok.node_var {K:KV} (hk:K.Ok) (hu:K.Uni) {r:Nat} (h2:2<=r) (ht:K.A.tk r=true):∃ v,v<K.vars/\K.vI r=(v:Int)/\Hangs (K.tab r).fn v/\∀ x,x<K.vars->K.lev x<K.lev v->¬ Hangs (K.tab r).fn x:=by
 have e:(K.tab r).fn=K.den r:=funext fun y=>hk.tab_fn ht y
 rw [e];obtain ⟨v,hv,hd,h3,h4⟩:=hk.node_hangs hu h2 ht;obtain ⟨p,u,hp,hpt,hpu,hul,_,_,hdu⟩:=hk.wf.node_at h2 ht;refine ⟨v,hv,?_,h3,h4⟩;have:u=v:=hk.ord.pm.inj hul hv (by rw [<- hd,<- hdu]);rw [KV.vI_at hp,hpu,this]
theorem KV.Ok.node_one {K:KV} (hk:K.Ok) (hu:K.Uni) {r x:Nat} {g:(Nat->Bool)->Bool} {a:Nat->Bool} (h2:2<=r) (ht:K.A.tk r=true) (hx:x<K.vars) (hh:Hangs (K.tab r).fn x) (he:∀ y,(K.tab r).fn y=g (mixO (K.order.take (K.lev x)) a y)):K.vI r=(x:Int):=by
 obtain ⟨v,hv,e,h3,h4⟩:=hk.node_var hu h2 ht
 have:v=x:=by
  refine hk.ord.pm.inj hv hx ?_
  rcases Nat.lt_trichotomy (K.lev v) (K.lev x) with h | h | h
  ·exact absurd h3 (mixO_hangs he (hk.ord.pm.mem_take.2 ⟨hv,h⟩))
  ·exact h
  ·exact absurd hh (h4 x hx h)
 rw [e,this]
theorem KM.wid {K:KV} {M:MV} (h:KM K M) (hk:K.Ok) (hu:K.Uni) {v:Nat} (hv:v<M.n):M.wid v=(K.nodesV v).length:=by
 have hn:=h.agr.same.n;have ho:=h.agr.same.od;obtain ⟨l1,l2,l3⟩:=h.lvl hk hv;have hr:=h.agr.roots
 have hc:∀ t,t∈unlikeT M.tabs->t.Ok/\t.n=K.vars:=fun t ht=>hr.ok t (mem_unlikeT.1 ht)
 have hon:∀ x,x∈M.order->x<K.vars:=fun x hx=>by rw [<- hn];exact h.fit.on x hx
 have el:=levT_at M.order (unlikeT M.tabs) _ _ l3
 have ew:M.wid v=(nodesT (curT (unlikeT M.tabs) (M.order.take (M.lvl v))) v).length:=by
  unfold MV.wid MV.lev
  rw [List.getD_eq_getElem?_getD,el];rfl
 have el2:(K.nodesV v).length=((K.nodesV v).map K.tab).length:=by simp
 rw [ew,el2];have nd2:((K.nodesV v).map K.tab).Nodup:=List.pairwise_map.2 (List.Pairwise.imp_of_mem (fun {a b} ha hb hne e=>hne (hk.tab_inj hu (KV.mem_nodesV.1 ha).2.1 (KV.mem_nodesV.1 hb).2.1 e)) (List.Pairwise.filter _ K.nodes_nodup))
 have nd1:(nodesT (curT (unlikeT M.tabs) (M.order.take (M.lvl v))) v).Nodup:=by
  have hf:=levF_nodup M.order _ (unlikeT_nodup M.tabs) hc hon;exact (List.pairwise_flatten.1 hf).1 _ (List.mem_of_getElem? el)
 have hmc:∀ u,u∈curT (unlikeT M.tabs) (M.order.take (M.lvl v))↔_:=fun u=>mem_curT (n:=K.vars) _ _ hc (fun x hx=>hon x (List.mem_of_mem_take hx)) (u:=u)
 refine Nat.le_antisymm (List.Nodup.length_le_of_subset nd1 fun u hm=>?_) (List.Nodup.length_le_of_subset nd2 fun u hm=>?_)
 ·obtain ⟨m1,m2⟩:=mem_nodesT.1 hm
  obtain ⟨a1,a2,t,ht,a,he⟩:=(hmc u).1 m1;have hfl:u∈M.lev.flatten:=List.mem_flatten.2 ⟨_,List.mem_of_getElem? el,hm⟩;obtain ⟨r,h2,htk,rfl⟩:=(h.agr.mem hk hu h.n16).1 hfl;refine List.mem_map.2 ⟨r,KV.mem_nodesV.2 ⟨h2,htk,?_⟩,rfl⟩
  refine hk.node_one hu h2 htk (by omega) ((depT_iff a1 (by rw [a2];omega)).1 m2) (a:=a) (g:=t.fn) fun y=>?_
  rw [he,l1,ho]
 ·obtain ⟨r,hr',rfl⟩:=List.mem_map.1 hm
  obtain ⟨h2,htk,hvr⟩:=KV.mem_nodesV.1 hr';have hfl:K.tab r∈M.lev.flatten:=(h.agr.mem hk hu h.n16).2 ⟨r,h2,htk,rfl⟩;obtain ⟨j,x,e1,e2,e3⟩:=(mem_levF M.order (unlikeT M.tabs)).1 hfl;obtain ⟨a1,a2,t,ht,a,he⟩:=(mem_curT (n:=K.vars) _ _ hc (fun x hx=>hon x (List.mem_of_mem_take hx)) (u:=K.tab r)).1 e2;have hx:=hon x (List.mem_of_getElem? e1)
  have ej:j=K.lev x:=by
   have hjl:j<K.order.length:=by rw [<- ho];exact (List.getElem?_eq_some_iff.1 e1).1
   have:=(hk.ord.pm.oo j (by rw [<- hk.ord.pm.ol];exact hjl)).2;rw [List.getD_eq_getElem?_getD,<- ho,e1] at this;exact this.symm
  have hxv:K.vI r=(x:Int):=hk.node_one hu h2 htk hx ((depT_iff a1 (by rw [a2];exact hx)).1 e3) (a:=a) (g:=t.fn) fun y=>by rw [he,ej,ho]
  have:x=v:=by omega
  subst this;rw [<- l1,<- ej];exact mem_nodesT.2 ⟨e2,e3⟩
theorem kwidth_spec (b v:Nat) (K:KV) (F:List Nat) (M:MV) (w:World) (h:KerAt w b K F) (hm:KM K M) (hv:v<M.n) :
  Calls Tryz.prog 60 #[.pointer (some ⟨b,0,none⟩),.int .i64 v] w fun e w'=>e=.returned (.tuple #[.int .i64 (M.wid v),.int .i64 0])/\Upd [] w w':=by
 have hu:=h.uni;have hn:=hm.agr.same.n;obtain ⟨T,q,hk,rfl⟩:=h
 have hlt:v<T.length:=by rw [hk.ti.len];omega
 have hT:T[v]?=some T[v]:=List.getElem?_eq_getElem hlt;generalize T[v]=D at hT;obtain ⟨g,cap,m,t1,t2,t3,c0,c1,hown⟩:=hk.mem.tab.cells hT;have hsz:=hk.ti.sizeV hk.ok.wf hT (hown.canon nodeKeyed) (hown.tidy nodeKeyed);have:=width_at b v K T q D w hk (by omega) hT;rw [hsz,<- hm.wid hk.ok hu hv] at this;exact this
end Go.Proofs.YtpfafhmkbcahhaaGreat
namespace Go.Proofs.YtpfafhmkbcahhaaGreat
open Go.RowKit Go.Maps
structure It where
 x:Int
 k:Int
def ahead (a b:It):Bool:=decide (a.k<b.k)||(decide (a.k=b.k)&&decide (a.x<b.x))
def le (a b:It):Prop:=ahead b a=false
theorem le_iff {a b:It}:le a b↔a.k<b.k\/(a.k=b.k/\a.x<=b.x):=by
 unfold le ahead;simp;omega
theorem ahead_iff {a b:It}:ahead a b=true↔a.k<b.k\/(a.k=b.k/\a.x<b.x):=by
 unfold ahead;simp
theorem le_refl (a:It):le a a:=by rw [le_iff];omega
theorem le_trans {a b c:It} (h:le a b) (h':le b c):le a c:=by rw [le_iff] at *;omega
theorem le_of_ahead {a b:It} (h:ahead a b=true):le a b:=by rw [ahead_iff] at h;rw [le_iff];omega
def LeAt (K:List It) (i j:Nat):Prop:=∀ a b,K[i]?=some a->K[j]?=some b->le a b
structure HMid (K:List It) (i:Nat):Prop where
 out:∀ j,0<j->j≠i->(j-1)/2≠i->LeAt K ((j-1)/2) j
 over:∀ j,0<j->(j-1)/2=i->0<i->LeAt K ((i-1)/2) j
def Below1 (K:List It) (i:Nat):Prop:=∀ j,0<j->(j-1)/2=i->LeAt K i j
def Above1 (K:List It) (i:Nat):Prop:=0<i->LeAt K ((i-1)/2) i
def Heap (K:List It):Prop:=∀ j,0<j->LeAt K ((j-1)/2) j
theorem HMid.heap {K:List It} {i:Nat} (h:HMid K i) (ha:Above1 K i) (hb:Below1 K i):Heap K:=by
 intro j hj
 by_cases e:j=i
 ·subst e;exact ha hj
 ·by_cases e2:(j-1)/2=i
  ·rw [e2];exact hb j hj e2
  ·exact h.out j hj e e2
theorem Heap.snoc {K:List It} (h:Heap K) (a:It):HMid (K++[a]) K.length/\Below1 (K++[a]) K.length:=by
 refine ⟨⟨?_,?_⟩,?_⟩
 ·intro j hj h1 h2 x y hx hy
  have hjl:=(List.getElem?_eq_some_iff.1 hy).1
  simp at hjl
  rw [List.getElem?_append_left (by omega)] at hx;rw [List.getElem?_append_left (by omega)] at hy;exact h j hj x y hx hy
 ·intro j hj hp hi x y hx hy
  have hjl:=(List.getElem?_eq_some_iff.1 hy).1
  simp at hjl
  omega
 ·intro j hj hp x y hx hy
  have hjl:=(List.getElem?_eq_some_iff.1 hy).1
  simp at hjl
  omega
def swp (K:List It) (i p:Nat) (a b:It):List It:=(K.set i b).set p a
theorem swp_get {K:List It} {i p:Nat} {a b:It} (hp:K[p]?=some b) (hi:K[i]?=some a) (hne:p≠i) (j:Nat) :
  (swp K i p a b)[j]?=if j=p then some a else if j=i then some b else K[j]?:=by
 unfold swp;have h1:=(List.getElem?_eq_some_iff.1 hp).1;have h2:=(List.getElem?_eq_some_iff.1 hi).1
 by_cases e:j=p
 ·subst e;rw [List.getElem?_set_self (by simpa using h1)];simp
 ·rw [List.getElem?_set_ne (Ne.symm e)]
  by_cases e2:j=i
  ·subst e2;rw [List.getElem?_set_self h2];simp [e]
  ·rw [List.getElem?_set_ne (Ne.symm e2)];simp [e,e2]
theorem HMid.up {K:List It} {i:Nat} {a b:It} (h:HMid K i) (hi0:0<i) (hi:K[i]?=some a) (hp:K[(i-1)/2]?=some b) (hab:ahead a b=true) :
  HMid (swp K i ((i-1)/2) a b) ((i-1)/2)/\Below1 (swp K i ((i-1)/2) a b) ((i-1)/2):=by
 have hne:(i-1)/2≠i:=by omega
 have hle:=le_of_ahead hab;have g:=swp_get hp hi hne;refine ⟨⟨?_,?_⟩,?_⟩
 ·intro j hj h1 h2 x y hx hy
  rw [g] at hx hy;rw [if_neg h2] at hx;rw [if_neg h1] at hy
  by_cases e:j=i
  ·omega
  ·rw [if_neg e] at hy
   by_cases e2:(j-1)/2=i
   ·rw [if_pos e2] at hx;cases hx
    exact h.over j hj e2 hi0 _ _ hp hy
   ·rw [if_neg e2] at hx
    exact h.out j hj e e2 _ _ hx hy
 ·intro j hj hjp hpp x y hx hy
  rw [g] at hx hy;rw [if_neg (by omega),if_neg (by omega)] at hx;rw [if_neg (by omega)] at hy;have hpb:=h.out ((i-1)/2) hpp hne (by omega) _ _ hx hp
  by_cases e:j=i
  ·rw [if_pos e] at hy;cases hy;exact hpb
  ·rw [if_neg e] at hy
   exact le_trans hpb (h.out j hj e (by omega) _ _ (by rw [hjp];exact hp) hy)
 ·intro j hj hjp x y hx hy
  rw [g,if_pos rfl] at hx;cases hx
  rw [g,if_neg (by omega)] at hy
  by_cases e:j=i
  ·rw [if_pos e] at hy;cases hy;exact hle
  ·rw [if_neg e] at hy
   exact le_trans hle (h.out j hj e (by omega) _ _ (by rw [hjp];exact hp) hy)
theorem HMid.down {K:List It} {i c:Nat} {a b:It} (h:HMid K i) (ha:Above1 K i) (hc:0<c) (hci:(c-1)/2=i) (hi:K[i]?=some a) (hp:K[c]?=some b) (hba:ahead b a=true)
  (hl:∀ j,0<j->(j-1)/2=i->LeAt K c j) :
  HMid (swp K i c a b) c/\Above1 (swp K i c a b) c:=by
 have hne:c≠i:=by omega
 have hle:=le_of_ahead hba;have g:=swp_get hp hi hne;refine ⟨⟨?_,?_⟩,?_⟩
 ·intro j hj h1 h2 x y hx hy
  rw [g] at hx hy;rw [if_neg h2] at hx;rw [if_neg h1] at hy
  by_cases e:j=i
  ·subst e
   rw [if_pos rfl] at hy;cases hy
   rw [if_neg (by omega)] at hx;exact h.over c hc hci hj _ _ hx hp
  ·rw [if_neg e] at hy
   by_cases e2:(j-1)/2=i
   ·rw [if_pos e2] at hx;cases hx
    exact hl j hj e2 _ _ hp hy
   ·rw [if_neg e2] at hx
    exact h.out j hj e e2 _ _ hx hy
 ·intro j hj hjc hc0 x y hx hy
  rw [hci,g,if_neg (Ne.symm hne),if_pos rfl] at hx;cases hx
  rw [g,if_neg (by omega),if_neg (by omega)] at hy;exact h.out j hj (by omega) (by omega) _ _ (by rw [hjc];exact hp) hy
 ·intro _ x y hx hy
  rw [hci,g,if_neg (Ne.symm hne),if_pos rfl] at hx;cases hx
  rw [g,if_pos rfl] at hy;cases hy
  exact hle
theorem set_perm {K:List It} {i:Nat} {a b:It} (hi:K[i]?=some a):(b::K).Perm (a::K.set i b):=by
 induction K generalizing i with
 | nil=>simp at hi
 | cons x t ih =>
  cases i with
  | zero=>simp at hi;subst hi;exact List.Perm.swap _ _ _
  | succ i =>
   simp at hi
   simp only [List.set_cons_succ]
   exact (List.Perm.swap x b t).trans (((ih hi).cons x).trans (List.Perm.swap a x _))
theorem swp_perm {K:List It} {i p:Nat} {a b:It} (hp:K[p]?=some b) (hi:K[i]?=some a) (hne:p≠i):(swp K i p a b).Perm K:=by
 unfold swp;have h1:=set_perm (b:=b) hi
 have h2:((K.set i b)[p]?)=some b:=by rw [List.getElem?_set_ne (Ne.symm hne)];exact hp
 have h3:=set_perm (b:=a) h2;exact ((List.perm_cons b).1 (h1.trans h3)).symm
theorem Heap.least {K:List It} (h:Heap K) {a:It} (h0:K[0]?=some a):∀ (j:Nat) (b:It),K[j]?=some b->le a b:=by
 intro j
 induction j using Nat.strongRecOn with
 | _ j ih =>
  intro b hb
  by_cases e:j=0
  ·subst e;rw [h0] at hb;cases hb;exact le_refl _
  ·have hlt:=(List.getElem?_eq_some_iff.1 hb).1
   obtain ⟨c,hc⟩ : ∃ c,K[(j-1)/2]?=some c:=⟨_,List.getElem?_eq_getElem (by omega)⟩;exact le_trans (ih _ (by omega) c hc) (h j (by omega) c b hc hb)
end Go.Proofs.YtpfafhmkbcahhaaGreat
namespace Go.Proofs.YtpfafhmkbcahhaaGreat
open Go.RowKit Go.Maps Go.WideShapes
def flatIts (L:List It):List Value:=L.flatMap fun a=>[.int .i64 a.x,.int .i64 a.k]
theorem its_get:∀ (L:List It) (i:Nat),(flatIts L)[i*2]?=(L[i]?).map (fun a=>Value.int .i64 a.x)/\(flatIts L)[i*2+1]?=(L[i]?).map (fun a=>Value.int .i64 a.k):=by
 intro L
 induction L with
 | nil=>intro i;simp [flatIts]
 | cons p t ih =>
  intro i
  cases i with
  | zero=>simp [flatIts]
  | succ i =>
   have:=ih i
   simp only [flatIts,List.flatMap_cons] at this ⊢
   rw [List.getElem?_append_right (by simp;omega),List.getElem?_append_right (by simp;omega)]
   simp at this ⊢
   rw [show (i+1)*2-2=i*2 by omega,show (i+1)*2-1=i*2+1 by omega];exact this
theorem its_set:∀ (L:List It) (i:Nat) (a:It),flatIts (L.set i a)=((flatIts L).set (i*2) (.int .i64 a.x)).set (i*2+1) (.int .i64 a.k):=by
 intro L
 induction L with
 | nil=>intro i a;simp [flatIts]
 | cons q t ih =>
  intro i a
  cases i with
  | zero=>simp [flatIts]
  | succ i =>
   have:=ih i a
   have hh:(i+1)*2+1=(i*2+1)+2:=by omega
   have h0:(i+1)*2=(i*2)+2:=by omega
   simp only [flatIts,List.set_cons_succ,List.flatMap_cons] at this ⊢
   rw [this,hh,h0]
   simp [List.set_cons_succ]
theorem its_snoc (L:List It) (a:It):flatIts (L++[a])=flatIts L++[.int .i64 a.x,.int .i64 a.k]:=by simp [flatIts]
structure HpMem (w:World) (b:Nat) (L:List It) (D:DM) (F:List Nat):Prop where
 cells:∃ lv mb,w.heap[b]?=some (.cells #[lv,.map (some mb)] 265 (0,0))/\w.ownsRow 0 267 2 lv L.length (flatIts L) /\
  w.ownsMap Tryz.prog 3 (plainElem Tryz.prog 3) mb (Maps.size D) D/\F=[b,mb]++lv.ownBlock.toList/\b≠mb/\some b≠lv.ownBlock/\some mb≠lv.ownBlock
 bd:L.length<=2147483647
theorem HpMem.lt {w:World} {b:Nat} {L:List It} {D:DM} {F:List Nat} (h:HpMem w b L D F):∀ k,k∈F->k<w.heap.size:=by
 obtain ⟨lv,mb,h1,h2,h3,rfl,_⟩:=h.cells
 intro k hk
 simp at hk
 rcases hk with rfl | rfl | hk
 ·exact heap_lt h1
 ·exact h3.lt
 ·exact (h2.lt _ hk).2
theorem HpMem.keep {w w':World} {b:Nat} {L:List It} {D:DM} {F:List Nat} (h:HpMem w b L D F) (hk:∀ k,k∈F->w'.heap[k]?=w.heap[k]?):HpMem w' b L D F:=by
 obtain ⟨lv,mb,h1,h2,h3,rfl,hr⟩:=h.cells;refine ⟨⟨lv,mb,by rw [hk b (by simp)];exact h1,row_keep h2 (fun k hk'=>hk _ (by simp [hk'])),own_keep h3 (hk _ (by simp)),rfl,hr⟩,h.bd⟩
theorem HpMem.upd {w w':World} {b:Nat} {L:List It} {D:DM} {F S:List Nat} (h:HpMem w b L D F) (u:Upd S w w') (hd:∀ k,k∈F->k∉S):HpMem w' b L D F :=
 h.keep fun k hk=>u.block k (h.lt k hk) (hd k hk)
theorem HpMem.head {w:World} {b:Nat} {L:List It} {D:DM} {F:List Nat} (h:HpMem w b L D F):b∈F:=by
 obtain ⟨lv,mb,h1,h2,h3,rfl,hr⟩:=h.cells;simp
theorem intKeyed:Keyed Tryz.prog 3:=int_keyed Tryz.underlying3
theorem zeroIntH (w:World):(zeroValue 3).run Tryz.prog w=.ok (.int .i64 0) w:=by kernel_rfl
theorem wf64 {n:Int} (h1:-9223372036854775808<=n) (h2:n<=9223372036854775807):(Lit.int .i64 n).wf=true:=WalkArith.wf_i64 ⟨h1,h2⟩
theorem put_heap {w:World} {g i k:Nat} {u v:Value} {o:Obj} (hk:k<w.heap.size) (hg:k≠g) :
  ((((w.setCell ⟨g,i*2,none⟩ u).setCell ⟨g,i*2+1,none⟩ v).alloc o).drew.drew).heap[k]?=w.heap[k]?:=by
 show ((((w.setCell ⟨g,i*2,none⟩ u).setCell ⟨g,i*2+1,none⟩ v).alloc o)).heap[k]?=_
 rw [heap_alloc_old _ _ (by simpa [World.setCell] using hk),heap_set_ne hg,heap_set_ne hg]
theorem put_end {w w9:World} {b mb g cap i n:Nat} {a:It} {L:List It} {F:List Nat} {D':DM} {o:Obj}
  (h1:w.heap[b]?=some (.cells #[.slice (some ⟨g,0,none⟩) L.length cap,.map (some mb)] 265 (0,0)))
  (h2:w.ownsRow 0 267 2 (.slice (some ⟨g,0,none⟩) L.length cap) L.length (flatIts L)) (hF:F=[b,mb,g]) (hbm:b≠mb) (hbl:¬ b=g) (hml:¬ mb=g) (hi:i<L.length)
  (hown:w9.ownsMap Tryz.prog 3 (plainElem Tryz.prog 3) mb n D')
  (ht:((((w.setCell ⟨g,i*2,none⟩ (.int .i64 a.x)).setCell ⟨g,i*2+1,none⟩ (.int .i64 a.k)).alloc o).drew.drew).mapTurned w9 mb) (hbd:L.length<=2147483647:=by assumption) :
  HpMem w9 b (L.set i a) D' F/\Upd F w w9:=by
 have hb:=heap_lt h1;have hg:=(h2.lt g rfl).2;refine ⟨⟨⟨.slice (some ⟨g,0,none⟩) L.length cap,mb,?_,?_,own_tight hown,by simpa [Value.ownBlock] using hF,hbm,by simpa [Value.ownBlock] using hbl,by simpa [Value.ownBlock] using hml⟩,by simpa using hbd⟩,?_⟩
 ·rw [turned_at ht hbm,put_heap hb hbl];exact h1
 ·rw [List.length_set,its_set]
  have r:=(row_set (row_set h2 (j:=i*2) (by omega) (.int .i64 a.x)) (j:=i*2+1) (by omega) (.int .i64 a.k)).alloc o;refine row_keep (row_drew (row_drew r)) ?_
  rintro k hk;cases hk
  exact turned_at ht (fun e=>hml e.symm)
 ·have u0:Upd F w ((((w.setCell ⟨g,i*2,none⟩ (.int .i64 a.x)).setCell ⟨g,i*2+1,none⟩ (.int .i64 a.k)).alloc o).drew.drew) :=
   (((((Upd.refl F w).setCell (by simp [hF]) _).setCell (by simp [hF]) _).alloc _).drew).drew
  exact u0.then (upd_turned ht) (by intro x hx;simp at hx;subst hx;left;simp [hF])
theorem put_spec (b i:Nat) (a:It) (L:List It) (D:DM) (F:List Nat) (w:World) (h:HpMem w b L D F) (hi:i<L.length) (hx:(Lit.int .i64 a.x).wf=true) (hsz:Maps.size D<maxLen) :
  Calls Tryz.prog 200 #[.pointer (some ⟨b,0,none⟩),.int .i64 i,.agg #[.int .i64 a.x,.int .i64 a.k]] w fun e w' =>
   e=.returned (.tuple #[])/\HpMem w' b (L.set i a) (D.put (.int .i64 a.x) (.lit (.int .i64 i))) F/\Upd F w w':=by
 obtain ⟨lv,mb,h1,h2,h3,hF,hbm,hbl,hml⟩:=h.cells;have hbd:=h.bd;obtain ⟨g,cap,rfl,_,hg⟩:=h2.form (by omega)
 simp [Value.ownBlock] at hF hbl hml
 obtain ⟨c,hc⟩ : ∃ c,L[i]?=some c:=⟨_,List.getElem?_eq_getElem hi⟩;have hb:=heap_lt h1;have hm:=h3.lt;have hc0:w.cell? ⟨b,0,none⟩=some (.slice (some ⟨g,0,none⟩) L.length cap):=cell_at h1 rfl;have hc1:w.cell? ⟨b,1,none⟩=some (.map (some mb)):=cell_at h1 rfl;have g0:w.cell? ⟨g,i*2,none⟩=some (.int .i64 c.x):=row_cell h2 (by rw [(its_get L i).1,hc];rfl);have g1:w.cell? ⟨g,i*2+1,none⟩=some (.int .i64 c.k):=row_cell h2 (by rw [(its_get L i).2,hc];rfl);have z0:=row_frozen h2 (i*2);have z1:=row_frozen h2 (i*2+1)
 have hnb:¬ w.heap.size=b:=by omega
 have hng:¬ w.heap.size=g:=by omega
 have H1:=Lib.hid h1;have H2:=Lib.hid h2;have H3:=Lib.hid h3;have HF:=Lib.hid hF
 obtain ⟨w9,hrun,hown,hturn⟩:=(own_keep (w':=((((w.setCell ⟨g,i*2,none⟩ (.int .i64 a.x)).setCell ⟨g,i*2+1,none⟩ (.int .i64 a.k)).alloc (.cells #[.int .i64 a.x,.int .i64 a.k] 267)).drew.drew)) h3
  (by rw [put_heap (k:=mb) (by omega)];exact fun e=>hml e)).store intKeyed Tryz.underlying263 hsz (keyOf_int_mk Tryz.underlying3 hx) (plainElem_int (H:=Unit) Tryz.underlying3 (wf64 (n:=(i:Int)) (by omega) (by omega)))
 have HE:=Lib.hid (put_end (a:=a) H1.out H2.out HF.out hbm hbl hml hi hown hturn);clear h1 h2 h3 hF h hc hown hturn
 go_enter Tryz.func200,Tryz.ntmps200
 go_wp2_with fail
 go_region
 go_wp2_with fail
 go_region
 go_wp2_with fail;go_end0;exact ⟨rfl,HE.out⟩
theorem put_at (b i:Nat) (iv:Int) (hiv:iv=(i:Int)) (a:It) (L:List It) (D:DM) (F:List Nat) (w:World) (h:HpMem w b L D F) (hi:i<L.length) (hx:(Lit.int .i64 a.x).wf=true) (hsz:Maps.size D<maxLen) :
  Calls Tryz.prog 200 #[.pointer (some ⟨b,0,none⟩),.int .i64 iv,.agg #[.int .i64 a.x,.int .i64 a.k]] w fun e w' =>
   e=.returned (.tuple #[])/\HpMem w' b (L.set i a) (D.put (.int .i64 a.x) (.lit (.int .i64 i))) F/\Upd F w w':=by
 subst hiv;exact put_spec b i a L D F w h hi hx hsz
theorem ahead_spec (a b:It) (w:World) :
  Calls Tryz.prog 234 #[.agg #[.int .i64 a.x,.int .i64 a.k],.agg #[.int .i64 b.x,.int .i64 b.k]] w fun e w'=>e=.returned (.bool (ahead a b))/\Upd [] w w':=by
 obtain ⟨ax,ak⟩:=a;obtain ⟨bx,bk⟩:=b
 by_cases h1:ak<bk
 ·have e:ahead ⟨ax,ak⟩ ⟨bx,bk⟩=true:=by simp [ahead,h1]
  rw [e];clear e
  go_enter Tryz.func234,Tryz.ntmps234
  go_wp2_with fail;go_ret;exact ⟨rfl,((Upd.refl _ _).alloc _).alloc _⟩
 ·have d1:decide (ak<bk)=false:=by simpa using h1
  by_cases h2:ak=bk
  ·subst h2
   by_cases h3:ax<bx
   ·have e:ahead ⟨ax,ak⟩ ⟨bx,ak⟩=true:=by simp [ahead,h3]
    rw [e];clear e
    go_enter Tryz.func234,Tryz.ntmps234
    go_wp2_with fail;go_ret;exact ⟨rfl,((Upd.refl _ _).alloc _).alloc _⟩
   ·have d3:decide (ax<bx)=false:=by simpa using h3
    have e:ahead ⟨ax,ak⟩ ⟨bx,ak⟩=false:=by simp [ahead,h3]
    rw [e];clear e
    go_enter Tryz.func234,Tryz.ntmps234
    go_wp2_with fail;go_ret;exact ⟨rfl,((Upd.refl _ _).alloc _).alloc _⟩
  ·have d2:(ak == bk)=false:=by simpa using h2
   have e:ahead ⟨ax,ak⟩ ⟨bx,bk⟩=false:=by simp [ahead,h1,h2]
   rw [e];clear e
   go_enter Tryz.func234,Tryz.ntmps234
   go_wp2_with fail;go_ret;exact ⟨rfl,((Upd.refl _ _).alloc _).alloc _⟩
structure MapBut (D:DM) (K:List It) (i:Nat):Prop where
 dom:∀ k,Maps.has D k=true->∃ a,a∈K/\k=.int .i64 a.x
 at_:∀ (j:Nat) a,K[j]?=some a->j≠i->Maps.has D (.int .i64 a.x)=true/\∀ z,D.atKey (.int .i64 a.x) z=.lit (.int .i64 j)
structure MapIs (D:DM) (K:List It):Prop where
 dom:∀ k,Maps.has D k=true->∃ a,a∈K/\k=.int .i64 a.x
 at_:∀ (j:Nat) a,K[j]?=some a->Maps.has D (.int .i64 a.x)=true/\∀ z,D.atKey (.int .i64 a.x) z=.lit (.int .i64 j)
theorem MapIs.but {D:DM} {K:List It} (h:MapIs D K) (i:Nat):MapBut D K i:=⟨h.dom,fun j a hj _=>h.at_ j a hj⟩
structure KOk (K:List It):Prop where
 nd:(K.map It.x).Nodup
 wf:∀ a,a∈K->(Lit.int .i64 a.x).wf=true
theorem KOk.inj {K:List It} (h:KOk K) {i j:Nat} {a b:It} (hi:K[i]?=some a) (hj:K[j]?=some b) (e:a.x=b.x):i=j:=by
 have h1:(K.map It.x)[i]?=some a.x:=by simp [hi]
 have h2:(K.map It.x)[j]?=some b.x:=by simp [hj]
 exact (List.getElem?_inj (List.getElem?_eq_some_iff.1 h1).1 h.nd).1 (by rw [h1,h2,e])
theorem KOk.perm {K K':List It} (h:KOk K) (p:K'.Perm K):KOk K' :=
 ⟨(p.map It.x).symm.nodup h.nd,fun a ha=>h.wf a (p.subset ha)⟩
theorem MapBut.size {D:DM} {K:List It} {i:Nat} (h:MapBut D K i) (hc:Maps.Canon D) (ht:Tidy D) (hb:K.length<=2147483647):Maps.size D<maxLen:=by
 have:=size_le_keys hc (ks:=K.map fun a=>Lit.int .i64 a.x) (fun k hk=>by obtain ⟨a,ha,rfl⟩:=h.dom k hk;exact List.mem_map.2 ⟨a,ha,rfl⟩) ht
 simp at this
 unfold maxLen;omega
theorem MapBut.put {D:DM} {K:List It} {i:Nat} {a:It} (h:MapBut D K i) (hD:IsMap D) (hk:KOk K) (hi:K[i]?=some a):MapIs (D.put (.int .i64 a.x) (.lit (.int .i64 i))) K:=by
 have hl:WideAt.IsKeyLit (.int .i64 a.x):=trivial;refine ⟨fun k hk'=>?_,fun j b hj=>?_⟩
 ·by_cases e:k=.int .i64 a.x
  ·exact ⟨a,List.mem_of_getElem? hi,e⟩
  ·rw [has_put_other e] at hk';exact h.dom k hk'
 ·by_cases e:j=i
  ·subst e;rw [hi] at hj;cases hj
   exact ⟨has_put_same hD hl _,fun z=>atKey_put_same hD hl _ _⟩
  ·have hne:Lit.int .i64 b.x≠Lit.int .i64 a.x:=by
    intro h';simp at h';exact e (hk.inj hj hi h')
   rw [has_put_other hne];obtain ⟨g1,g2⟩:=h.at_ j b hj e;exact ⟨g1,fun z=>by rw [atKey_put_other hne];exact g2 z⟩
theorem MapBut.move {D:DM} {K:List It} {i p:Nat} {a b:It} (h:MapBut D K i) (hD:IsMap D) (hk:KOk K) (hi:K[i]?=some a) (hp:K[p]?=some b) (hne:p≠i) :
  MapBut (D.put (.int .i64 b.x) (.lit (.int .i64 i))) (swp K i p a b) p:=by
 have hl:WideAt.IsKeyLit (.int .i64 b.x):=trivial;have g:=swp_get hp hi hne
 have hmem:∀ c,c∈K->c∈swp K i p a b:=fun c hc=>(swp_perm hp hi hne).symm.subset hc
 refine ⟨fun k hk'=>?_,fun j c hj hjp=>?_⟩
 ·by_cases e:k=.int .i64 b.x
  ·exact ⟨b,hmem b (List.mem_of_getElem? hp),e⟩
  ·rw [has_put_other e] at hk'
   obtain ⟨c,hc,hx⟩:=h.dom k hk';exact ⟨c,hmem c hc,hx⟩
 ·rw [g,if_neg hjp] at hj
  by_cases e:j=i
  ·subst e;rw [if_pos rfl] at hj;cases hj
   exact ⟨has_put_same hD hl _,fun z=>atKey_put_same hD hl _ _⟩
  ·rw [if_neg e] at hj
   have hne':Lit.int .i64 c.x≠Lit.int .i64 b.x:=by
    intro h';simp at h';exact hjp (hk.inj hj hp h')
   rw [has_put_other hne'];obtain ⟨g1,g2⟩:=h.at_ j c hj e;exact ⟨g1,fun z=>by rw [atKey_put_other hne'];exact g2 z⟩
theorem HpMem.isMap {w:World} {b:Nat} {L:List It} {D:DM} {F:List Nat} (h:HpMem w b L D F):IsMap D:=by
 obtain ⟨lv,mb,h1,h2,h3,_⟩:=h.cells;exact h3.isMap
theorem HpMem.canon {w:World} {b:Nat} {L:List It} {D:DM} {F:List Nat} (h:HpMem w b L D F):Maps.Canon D:=by
 obtain ⟨lv,mb,h1,h2,h3,_⟩:=h.cells;exact h3.canon intKeyed
theorem HpMem.tidy {w:World} {b:Nat} {L:List It} {D:DM} {F:List Nat} (h:HpMem w b L D F):Tidy D:=by
 obtain ⟨lv,mb,h1,h2,h3,_⟩:=h.cells;exact h3.tidy intKeyed
theorem HpMem.list {w:World} {b:Nat} {L:List It} {D:DM} {F:List Nat} (h:HpMem w b L D F) (hn:0<L.length) :
  ∃ g cap,g∈F/\w.cell? ⟨b,0,none⟩=some (.slice (some ⟨g,0,none⟩) L.length cap)/\L.length<=cap /\
   ∀ (i:Nat) a,L[i]?=some a->w.cell? ⟨g,i*2,none⟩=some (.int .i64 a.x)/\w.cell? ⟨g,i*2+1,none⟩=some (.int .i64 a.k):=by
 obtain ⟨lv,mb,h1,h2,h3,rfl,_⟩:=h.cells;obtain ⟨g,cap,rfl,_,hg⟩:=h2.form hn;refine ⟨g,cap,by simp [Value.ownBlock],cell_at h1 rfl,(row_block h2).2.1,fun i a ha=>⟨?_,?_⟩⟩
 ·exact row_cell h2 (by rw [(its_get L i).1,ha];rfl)
 ·exact row_cell h2 (by rw [(its_get L i).2,ha];rfl)
structure UpRel (w:World) (b:Nat) (a:It) (K0:List It) (i0:Nat) (F:List Nat) (i:Nat) (Lm K:List It) (D:DM) (wr:World):Prop where
 mem:HpMem wr b Lm D F
 eq:Lm.set i a=K
 lt:i<Lm.length
 pm:K.Perm K0
 mid:HMid K i
 bel:Below1 K0 i0->Below1 K i
 but:MapBut D K i
 up:Upd F w wr
 box:wr.heap[w.heap.size]?=some (.cells #[.int .i64 a.x,.int .i64 a.k] 267 (0,0))
structure UpPost (w:World) (b:Nat) (a:It) (K0:List It) (i0:Nat) (F:List Nat) (w':World):Prop where
 ex:∃ (K:List It) (i:Nat) (D:DM),HpMem w' b K D F/\MapIs D K/\K.Perm K0/\K[i]?=some a/\HMid K i/\Above1 K i/\(Below1 K0 i0->Below1 K i)
 up:Upd F w w'
theorem UpRel.get {w:World} {b:Nat} {a:It} {K0:List It} {i0:Nat} {F:List Nat} {i:Nat} {Lm K:List It} {D:DM} {wr:World} (h:UpRel w b a K0 i0 F i Lm K D wr):K[i]?=some a:=by
 rw [<- h.eq];exact List.getElem?_set_self h.lt
theorem UpRel.klen {w:World} {b:Nat} {a:It} {K0:List It} {i0:Nat} {F:List Nat} {i:Nat} {Lm K:List It} {D:DM} {wr:World} (h:UpRel w b a K0 i0 F i Lm K D wr):K.length=Lm.length:=by
 rw [<- h.eq];simp
theorem UpRel.size {w:World} {b:Nat} {a:It} {K0:List It} {i0:Nat} {F:List Nat} {i:Nat} {Lm K:List It} {D:DM} {wr:World} (h:UpRel w b a K0 i0 F i Lm K D wr):Maps.size D<maxLen :=
 h.but.size h.mem.canon h.mem.tidy (by rw [h.klen];exact h.mem.bd)
theorem UpRel.done {w w' wr:World} {b:Nat} {a:It} {K0:List It} {i0:Nat} {F:List Nat} {i:Nat} {Lm K:List It} {D:DM} (h:UpRel w b a K0 i0 F i Lm K D wr) (hk:KOk K0) (ha:Above1 K i)
  (hm:HpMem w' b (Lm.set i a) (D.put (.int .i64 a.x) (.lit (.int .i64 i))) F) (hu:Upd F wr w'):UpPost w b a K0 i0 F w' :=
 ⟨⟨K,i,_,by rw [<- h.eq];exact hm,h.but.put h.mem.isMap (hk.perm h.pm) h.get,h.pm,h.get,h.mid,ha,h.bel⟩,h.up.trans hu⟩
theorem UpRel.sub {w wr:World} {b:Nat} {a c:It} {K0:List It} {i0:Nat} {F:List Nat} {i p:Nat} {Lm K:List It} {D:DM} (h:UpRel w b a K0 i0 F i Lm K D wr) (_hc:c∈Lm) (hne:p≠i) (hp:Lm[p]?=some c):c∈K0:=by
 refine h.pm.subset ?_;rw [<- h.eq];exact List.mem_of_getElem? (i:=p) (by rw [List.getElem?_set_ne (Ne.symm hne)];exact hp)
theorem UpRel.above {w wr:World} {b:Nat} {a c:It} {K0:List It} {i0:Nat} {F:List Nat} {m p:Nat} {Lm K:List It} {D:DM} (h:UpRel w b a K0 i0 F (m+1) Lm K D wr) (hp:m/2=p) (hc:Lm[p]?=some c) (ha:ahead a c=false):Above1 K (m+1):=by
 intro _ x y hx hy
 rw [h.get] at hy;cases hy
 rw [show (m+1-1)/2=p by omega,<- h.eq,List.getElem?_set_ne (by omega),hc] at hx
 cases hx;exact ha
theorem set_set_comm {Lm:List It} {i p:Nat} {a b:It} (_h:p≠i):(Lm.set i b).set p a=swp (Lm.set i a) i p a b:=by
 unfold swp;rw [List.set_set]
theorem UpRel.step {w w' wr:World} {b:Nat} {a c:It} {K0:List It} {i0:Nat} {F:List Nat} {i p:Nat} {Lm K:List It} {D:DM} (h:UpRel w b a K0 i0 F i Lm K D wr) (hk:KOk K0)
  (hi:0<i) (hp:(i-1)/2=p) (hc:Lm[p]?=some c) (hac:ahead a c=true)
  (hm:HpMem w' b (Lm.set i c) (D.put (.int .i64 c.x) (.lit (.int .i64 i))) F) (hu:Upd F wr w') (hF:∀ k,k∈F->k<w.heap.size) :
  UpRel w b a K0 i0 F p (Lm.set i c) (swp K i p a c) (D.put (.int .i64 c.x) (.lit (.int .i64 i))) w':=by
 have hne:p≠i:=by omega
 have hcK:K[p]?=some c:=by rw [<- h.eq,List.getElem?_set_ne (Ne.symm hne)];exact hc
 obtain ⟨m1,m2⟩:=h.mid.up hi h.get (by rw [hp];exact hcK) hac;rw [hp] at m1 m2;have hpl:=(List.getElem?_eq_some_iff.1 hc).1;refine ⟨hm,?_,by simpa using hpl,(swp_perm hcK h.get hne).trans h.pm,m1,fun _=>m2,h.but.move h.mem.isMap (hk.perm h.pm) h.get hcK hne,h.up.trans hu,?_⟩
 ·rw [set_set_comm hne,h.eq]
 ·rw [hu.block _ (heap_lt h.box) (fun hf=>by have:=hF _ hf;omega)];exact h.box
theorem heldU {w w4:World} {b g cap n B p:Nat} {a c:It} (hu:Upd [] w w4) (hb:b<w.heap.size) (hB:B<w.heap.size) (hg:g<w.heap.size)
  (h:w.cell? ⟨b,0,none⟩=some (.slice (some ⟨g,0,none⟩) n cap)/\w.cell? ⟨B,0,none⟩=some (.int .i64 a.x)/\w.cell? ⟨B,1,none⟩=some (.int .i64 a.k)/\w.cell? ⟨g,p*2,none⟩=some (.int .i64 c.x)/\w.cell? ⟨g,p*2+1,none⟩=some (.int .i64 c.k)) :
  w4.cell? ⟨b,0,none⟩=some (.slice (some ⟨g,0,none⟩) n cap)/\w4.cell? ⟨B,0,none⟩=some (.int .i64 a.x)/\w4.cell? ⟨B,1,none⟩=some (.int .i64 a.k)/\w4.cell? ⟨g,p*2,none⟩=some (.int .i64 c.x)/\w4.cell? ⟨g,p*2+1,none⟩=some (.int .i64 c.k):=by
 obtain ⟨h1,h2,h3,h4,h5⟩:=h;exact ⟨(hu.cell hb (by simp)).trans h1,(hu.cell hB (by simp)).trans h2,(hu.cell hB (by simp)).trans h3,(hu.cell hg (by simp)).trans h4,(hu.cell hg (by simp)).trans h5⟩
theorem up_spec (b i0:Nat) (a:It) (K0:List It) (D0:DM) (F:List Nat) (w:World) (h:HpMem w b K0 D0 F) (hi:K0[i0]?=some a) (hk:KOk K0) (hm:HMid K0 i0) (hb:MapBut D0 K0 i0) :
  Calls Tryz.prog 199 #[.pointer (some ⟨b,0,none⟩),.int .i64 i0] w fun e w'=>e=.returned (.tuple #[])/\UpPost w b a K0 i0 F w':=by
 have hlt:=(List.getElem?_eq_some_iff.1 hi).1;obtain ⟨g,cap,hgF,hc0,hcap,hc⟩:=h.list (by omega);obtain ⟨hx,hkk⟩:=hc i0 a hi;have hbd:=h.bd;have hFl:=h.lt;have hbl:=hFl b h.head;have hgl:=hFl g hgF;have HFl:=Lib.hid hFl;have HK:=Lib.hid hk
 have H0:Hid (UpRel w b a K0 i0 F i0 K0 K0 D0 (w.alloc (.cells #[.int .i64 a.x,.int .i64 a.k] 267 (0,0)))) :=
  ⟨h.upd ((Upd.refl [] w).alloc _) (by simp),List.ext_getElem? fun j=>by
    rw [List.getElem?_set];split
    ·rename_i e;subst e;simp [hlt,<- hi]
    ·rfl,hlt,List.Perm.refl _,hm,fun h=>h,hb,(Upd.refl F w).alloc _,heap_alloc_new w _⟩
 clear h hi hk hm hb hc hFl
 go_enter Tryz.func199,Tryz.ntmps199
 go_wp2_with fail;clear hc0 hx hkk
 go_loopg [1] i0 (fun g s1 wr=>∃ (i:Nat) (Lm K:List It) (D:DM),i=g/\s1=.int .i64 i/\UpRel w b a K0 i0 F i Lm K D wr)
 case atStart=>exact ⟨i0,K0,K0,D0,rfl,rfl,H0.out⟩
 case round =>
  obtain ⟨i,Lm,K,D,rfl,rfl,hR⟩:=hrel;have hbox:=hR.box;have x0:wr.cell? ⟨w.heap.size,0,none⟩=some (.int .i64 a.x):=cell_at hbox rfl;have x1:wr.cell? ⟨w.heap.size,1,none⟩=some (.int .i64 a.k):=cell_at hbox rfl;have hbd':=hR.mem.bd;have hlt':=hR.lt;obtain ⟨g',cap',hgF',hc0,hcap',hc⟩:=hR.mem.list (by omega);clear hbox;have hwa:(Lit.int .i64 a.x).wf=true:=(HK.out.perm hR.pm).wf a (List.mem_of_getElem? hR.get);have HWA:=Lib.hid hwa;clear hwa
  by_cases h0:i=0
  ·subst h0
   have HR:=Lib.hid hR;clear hR hc hc0
   have hd:decide ((0:Int)<0)=false:=by simp
   go_wp2_with fail
   go_quiet (fail)
   go_wp2_with fail;refine (put_spec b 0 a Lm D F _ (HR.out.mem.upd ((Upd.refl [] wr).drewN _) (by simp)) (by omega) HWA.out HR.out.size).mono ?_;rintro e w3 ⟨rfl,hm3,hu3⟩;have HE:=Lib.hid (HR.out.done HK.out (fun h=>by omega) hm3 (((Upd.refl F wr).drewN _).trans hu3));clear hm3 hu3;go_wp2_with fail;go_end0;exact ⟨rfl,HE.out⟩
  ·obtain ⟨m,rfl⟩ : ∃ m,i=m+1:=⟨i-1,by omega⟩
   obtain ⟨p,hp⟩ : ∃ p,m/2=p:=⟨_,rfl⟩
   have hpi:(m:Int)/2=(p:Int):=by omega
   have hpl:p<Lm.length:=by omega
   have HP:=Lib.hid hp;clear hp h0;obtain ⟨c,hcp⟩ : ∃ c,Lm[p]?=some c:=⟨_,List.getElem?_eq_getElem hpl⟩;obtain ⟨y0,y1⟩:=hc p c hcp;have HC:=Lib.hid hcp;have HWC:=Lib.hid (HK.out.wf c (hR.sub (List.mem_of_getElem? hcp) (by omega) hcp));have HR:=Lib.hid hR;clear hR hc hcp;have hbw:b<wr.heap.size:=HR.out.mem.lt b HR.out.mem.head;have hgw:g'<wr.heap.size:=HR.out.mem.lt g' hgF';have hBw:w.heap.size<wr.heap.size:=heap_lt HR.out.box
   by_cases hac:ahead a c=true
   ·have HA:=Lib.hid hac
    clear hac;go_wp2_with fail;have e0:IntKind.i64.wrap (m:Int)=m:=IntWalk.i64_in _ (by omega)
    have e1:(m:Int).tdiv 2=p:=by rw [Int.tdiv_eq_ediv_of_nonneg (by omega)];exact hpi
    have e2:IntKind.i64.wrap (p:Int)=p:=IntWalk.i64_in _ (by omega)
    have e3:(0:Int)<=(p:Int):=by omega
    have e4:(p:Int)<(Lm.length:Int):=by omega
    go_region_held3 (fun w'=>w'.cell? ⟨b,0,none⟩=some (.slice (some ⟨g',0,none⟩) Lm.length cap')/\w'.cell? ⟨w.heap.size,0,none⟩=some (.int .i64 a.x)/\w'.cell? ⟨w.heap.size,1,none⟩=some (.int .i64 a.k)/\w'.cell? ⟨g',p*2,none⟩=some (.int .i64 c.x)/\w'.cell? ⟨g',p*2+1,none⟩=some (.int .i64 c.k)) (first | exact ⟨hc0,x0,x1,y0,y1⟩ | exact heldU HU4.out.of_drew hbw hBw hgw ⟨hc0,x0,x1,y0,y1⟩) (first | (go_at_call 234;refine (ahead_spec a c _).mono ?_;rintro e w4 ⟨rfl,hu4⟩;rw [HA.out];have HU4:=Lib.hid hu4;clear hu4))
    obtain ⟨q1,q2,q3,q4,q5⟩:=heldU HU4.out.of_drew hbw hBw hgw ⟨hc0,x0,x1,y0,y1⟩;clear hc0 x0 x1 y0 y1 e0 e1 e2 e3 e4;go_wp2_with fail;have HM:=Lib.hid (HR.out.mem.upd HU4.out.of_drew (by simp));have hwc:(Lit.int .i64 c.x).wf=true:=HWC.out;have HW3:=Lib.hid hwc;clear hwc;refine (put_at b (m+1) _ (by omega) c Lm D F _ HM.out (by omega) HW3.out HR.out.size).mono ?_;rintro e w5 ⟨rfl,hm5,hu5⟩;have HE:=Lib.hid (HR.out.step HK.out (by omega) (by simpa using HP.out) HC.out HA.out hm5 ((HU4.out.of_drew.mono (by simp)).trans hu5) HFl.out);clear hm5 hu5;go_wp2_with fail
    go_roundg p
    case measure=>omega
    case rel=>exact ⟨p,_,_,_,rfl,by first | rfl | (rw [hpi]),HE.out⟩
   ·have hac':ahead a c=false:=by simpa using hac
    have HA:=Lib.hid hac';clear hac hac';go_wp2_with fail;have e0:IntKind.i64.wrap (m:Int)=m:=IntWalk.i64_in _ (by omega)
    have e1:(m:Int).tdiv 2=p:=by rw [Int.tdiv_eq_ediv_of_nonneg (by omega)];exact hpi
    have e2:IntKind.i64.wrap (p:Int)=p:=IntWalk.i64_in _ (by omega)
    have e3:(0:Int)<=(p:Int):=by omega
    have e4:(p:Int)<(Lm.length:Int):=by omega
    go_region_held3 (fun w'=>w'.cell? ⟨b,0,none⟩=some (.slice (some ⟨g',0,none⟩) Lm.length cap')/\w'.cell? ⟨w.heap.size,0,none⟩=some (.int .i64 a.x)/\w'.cell? ⟨w.heap.size,1,none⟩=some (.int .i64 a.k)/\w'.cell? ⟨g',p*2,none⟩=some (.int .i64 c.x)/\w'.cell? ⟨g',p*2+1,none⟩=some (.int .i64 c.k)) (first | exact ⟨hc0,x0,x1,y0,y1⟩ | exact heldU HU4.out.of_drew hbw hBw hgw ⟨hc0,x0,x1,y0,y1⟩) (first | (go_at_call 234;refine (ahead_spec a c _).mono ?_;rintro e w4 ⟨rfl,hu4⟩;rw [HA.out];have HU4:=Lib.hid hu4;clear hu4))
    obtain ⟨q1,q2,q3,q4,q5⟩:=heldU HU4.out.of_drew hbw hBw hgw ⟨hc0,x0,x1,y0,y1⟩;clear hc0 x0 x1 y0 y1 e0 e1 e2 e3 e4;go_wp2_with fail;have HM:=Lib.hid (HR.out.mem.upd HU4.out.of_drew (by simp));refine (put_at b (m+1) _ (by omega) a Lm D F _ HM.out (by omega) HWA.out HR.out.size).mono ?_;rintro e w5 ⟨rfl,hm5,hu5⟩;have HE:=Lib.hid (HR.out.done HK.out (HR.out.above HP.out HC.out HA.out) hm5 ((HU4.out.of_drew.mono (by simp)).trans hu5));clear hm5 hu5;go_wp2_with fail;go_end0;exact ⟨rfl,HE.out⟩
end Go.Proofs.YtpfafhmkbcahhaaGreat
