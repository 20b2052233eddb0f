import Derived.Test.YtfkopmhpppeheaaGreatPY23
import Derived.Test.YtfkopmhpppeheaaGreatPY13
import Derived.Test.YtfkopmhpppeheaaGreatPY27
import Derived.Test.YtfkopmhpppeheaaGreatPY22
import Derived.Test.YtfkopmhpppeheaaGreatPY25
import Derived.Test.YtfkopmhpppeheaaGreatPY28
import Derived.Test.YtfkopmhpppeheaaGreatPY24
import Derived.Test.YtfkopmhpppeheaaGreatPY18
import Derived.Test.YtfkopmhpppeheaaGreatPY20
import Derived.Test.YtfkopmhpppeheaaGreatPY12
import Derived.Deep.RegionLaw
import Derived.Deep.AppendLies
import Derived.Laws.ResultCell
import Derived.Laws.Rows
import Derived.BigQuiet
set_option maxRecDepth 100000
set_option maxHeartbeats 3200000
namespace Go.Proofs.YtfkopmhpppeheaaGreat
open Go.RowKit Go.Maps Go.ChangeMaps Go.WideShapes
structure ExS (K:KV) (n m:Nat) (Q:List TV) (c:Nat):Prop where
 ok:K.Ok
 uni:K.Uni
 vr:K.vars=n
 pl:K.A.places=m
 od:K.order=List.range n
 rt:RootsT K Q
 hh:∀ x,K.hold x<=c
theorem ExS.new {n m:Nat} (h1:1<=n) (hn:n<=64) (h2:2<=m) (hm:m<=1048576):ExS (KV.new n m) n m [] 0 :=
 ⟨KV.new_ok h1 hn h2 hm,(TInv.new n m).uni (KV.new_ok h1 hn h2 hm).wf,rfl,rfl,rfl,⟨fun r h=>by simp [KV.hold,KV.new] at h,by simp,by simp⟩,fun x=>by simp [KV.hold,KV.new]⟩
theorem varT_ok12 {n v:Nat} (hn:n<=16):(varT n v).Ok/\(varT n v).n=n:=⟨mkT_ok _ hn,rfl⟩
theorem ExS.grow {K K':KV} {n m c r:Nat} {Q:List TV} {t:TV} (h:ExS K n m Q c) (k':K'.Ok) (u':K'.Uni) (e:K.Ext K') (ht:K'.A.tk r=true) (hd:∀ y,K'.den r y=t.fn y) (hok:t.Ok) (htn:t.n=n) (hh:∀ x,K'.hold x=K.hold x+if x=r/\2<=r then 1 else 0):ExS K' n m (Q++[t]) (c+1):=by
 refine ⟨k',u',by rw [e.vr];exact h.vr,by rw [e.pl];exact h.pl,by rw [e.od];exact h.od,⟨fun x hx=>?_,fun u hu=>?_,fun u hu=>?_⟩,fun x=>?_⟩
 ·by_cases ex:x=r
  ·subst ex;exact ⟨t,by simp,hd⟩
  ·rw [hh,if_neg (fun k=>ex k.1)] at hx
   obtain ⟨u,hm,hd'⟩:=h.rt.rt x (by omega);exact ⟨u,by simp [hm],fun y=>by rw [e.den h.ok.wf y (h.ok.wf.ht x (by omega)).2];exact hd' y⟩
 ·rcases List.mem_append.1 hu with hm | hm
  ·obtain ⟨x,a1,a2⟩:=h.rt.lr u hm
   exact ⟨x,e.tk a1,fun y=>by rw [e.den h.ok.wf y a1];exact a2 y⟩
  ·simp at hm;subst hm;exact ⟨r,ht,hd⟩
 ·rw [e.vr]
  rcases List.mem_append.1 hu with hm | hm
  ·exact h.rt.ok u hm
  ·simp at hm;subst hm;exact ⟨hok,htn.trans h.vr.symm⟩
 ·have:=h.hh x
  rw [hh];split <;> omega
theorem ExS.op {K K':KV} {n m c r:Nat} {Q:List TV} {u:TV} {code:Int} {t:(Nat->Bool)->Bool} (h:ExS K n m Q c) (hn:n<=16) (hc:c<60) (k':K'.Ok) (u':K'.Uni) (O:OpR K t r code K') (hu:u.Ok/\u.n=n) (ht:∀ y,t y=u.fn y) (hf:(flatT (Q++[u]) (List.range n)).length+2<=m) :
  code=0/\K.Ext K'/\K'.A.tk r=true/\(∀ y,K'.den r y=u.fn y)/\ExS K' n m (Q++[u]) (c+1):=by
 have e:t=u.fn:=funext ht;subst e
 rcases O with ⟨rfl,O⟩ | ⟨_,_,_,s,_,_,hs⟩ | ⟨_,_,_,hno⟩
 ·exact ⟨rfl,O.ext,O.tk,O.den,h.grow k' u' O.ext O.tk O.den hu.1 hu.2 O.hd⟩
 ·have:=h.hh s;omega
 ·exfalso
  have h1:=h.rt.nofit h.ok (by rw [h.vr];exact hn) hu.1 (hu.2.trans h.vr.symm) hno.weak;rw [h.pl,h.od] at h1;omega
theorem ExS.var {K K':KV} {n m c r v:Nat} {Q:List TV} {code:Int} (h:ExS K n m Q c) (hn:n<=16) (hc:c<60) (k':K'.Ok) (u':K'.Uni) (hv:v<n) (M:MakeR K (v:Int) 0 1 r code K') (hf:(flatT Q (List.range n)).length+2<m) :
  code=0/\K.Ext K'/\K'.A.tk r=true/\(∀ y,K'.den r y=y v)/\ExS K' n m (Q++[varT n v]) (c+1):=by
 have hk:=h.ok
 have hvv:v<K.vars:=by rw [h.vr];exact hv
 have hfe:K.fitsE (v:Int) 0 1=0:=KV.fits_ok (by omega) (hk.tk_const (by omega)) (hk.tk_const (by omega)) fun _=>by
  have:=(hk.ord.pm.lo v hvv).1;rw [hk.wf.dep_const (by omega),hk.wf.dep_const (by omega)];omega
 have key:∀ (K1:KV),K1.Ok->∀ s,K1.At s v 0 1->K1.A.tk s=true/\∀ y,K1.den s y=y v:=fun K1 k1 s hs=>by
  obtain ⟨h2,p,hp,hpt,e1,e2,e3⟩:=hs;refine ⟨ArenaV.tk_iff.2 ⟨p,hp,hpt⟩,fun y=>?_⟩;rw [KV.den_node k1.wf k1.ord h2 hp hpt,e2,e3,K1.den_const (by omega),K1.den_const (by omega),show p.var.toNat=v by omega]
  cases y v <;> rfl
 cases M with
 | bad h0=>exact absurd hfe h0
 | full h0 hs hm=>exact absurd (hm ▸ h.hh _) (by omega)
 | old h0 hs hm =>
  have hs':K.At r v 0 1:=by
   rcases hs with ⟨e,_⟩ | ⟨_,hs⟩
   ·omega
   ·simpa using hs
  obtain ⟨t1,t2⟩:=key K hk r hs';have X:=(hk.kept t1 hm).2
  have hd:∀ y,(K.keepK r).den r y=y v:=fun y=>by rw [X.ext.den hk.wf y t1,t2]
  exact ⟨rfl,X.ext,X.ext.tk t1,hd,h.grow k' u' X.ext (X.ext.tk t1) (fun y=>by rw [hd,varT_fn hv]) (varT_ok12 hn).1 rfl fun x=>by rw [X.hd];split <;> rfl⟩
 | nodes h0 hne hno hu =>
  exfalso
  have:=h.rt.used hk h.uni (by rw [h.vr];exact hn);rw [h.od] at this;rw [h.pl] at hu;omega
 | new h0 hne hno hm =>
  have hm':K.Made v 0 1 r K':=by simpa using hm
  have hat:K'.At r v 0 1:=hm'.at_iff.2 (.inl ⟨rfl,rfl,rfl,rfl⟩);obtain ⟨t1,t2⟩:=key K' k' r hat
  have h0:K.hold r=0:=by
   by_cases hp:0<K.hold r
   ·have:=(hk.wf.ht r hp).2
    rw [hm'.no] at this;cases this
   ·omega
  refine ⟨rfl,hm'.ext,t1,t2,h.grow k' u' hm'.ext t1 (fun y=>by rw [t2,varT_fn hv]) (varT_ok12 hn).1 rfl fun x=>?_⟩;have:=hm'.two;rw [hm'.hd]
  by_cases e:x=r
  ·subst e;rw [if_pos rfl,if_pos ⟨rfl,this⟩,h0]
  ·rw [if_neg e,if_neg (fun k=>e k.1)];rfl
theorem ExS.lev {K:KV} {n m c:Nat} {Q:List TV} (h:ExS K n m Q c) {v:Nat} (hv:v<n):K.lev v=v:=by
 have h1:=h.ok.ord.pm.order_at (v:=v) (by rw [h.vr];exact hv);have h2:=(h.ok.ord.pm.lo v (by rw [h.vr];exact hv)).1;rw [h.od,List.getElem?_range (by rw [h.vr] at h2;exact h2)] at h1;exact Option.some.inj h1
theorem Hangs.or {t:(Nat->Bool)->Bool} {a b:Nat} (h:∀ y,t y=(y a||y b)) (v:Nat):Hangs t v↔v=a\/v=b:=by
 constructor
 ·rintro ⟨y,hy⟩
  rw [h,h] at hy
  by_cases e:v=a\/v=b
  ·exact e
  ·simp [upd,show ¬ a=v by omega,show ¬ b=v by omega] at hy
 ·intro e
  refine ⟨fun _=>false,?_⟩;rw [h,h]
  rcases e with rfl | rfl <;> simp [upd]
theorem sup_or {K:KV} {r a b:Nat} {s:Int} (hk:K.Ok) (hu:K.Uni) (ht:K.A.tk r=true) (hs:SupIs K r s) (h:∀ y,K.den r y=(y a||y b)) (ha:a<64) (hb:b<64):s=bits BinOp.or IntKind.u64 (IntKind.u64.wrap (2 ^ a)) (IntKind.u64.wrap (2 ^ b)):=by
 obtain ⟨h1,h2⟩:=hs.bits hk hu ht
 refine nb_ext h1 (bits_u64 _ _ _) fun i _=>?_
 rw [nb_or (wrap_u64 _) (wrap_u64 _),nb_pow ha,nb_pow hb,Bool.eq_iff_iff,h2,Hangs.or h,Bool.or_eq_true,decide_eq_true_eq,decide_eq_true_eq,eq_comm (a:=i),eq_comm (a:=i)]
structure OrNodes (K:KV) (f l:Nat):Prop where
 ex:∃ p s:PlaceV,2<=f/\2<=l/\f≠l/\K.A.list[f]?=some p/\p.taken=true/\p.lo=l/\p.hi=1/\K.A.list[l]?=some s/\s.taken=true/\s.lo=0/\s.hi=1
theorem or_nodes {K:KV} {f a b:Nat} (hk:K.Ok) (hu:K.Uni) (ht:K.A.tk f=true) (h:∀ y,K.den f y=(y a||y b)) (hab:a≠b) (hav:a<K.vars) (hl:K.lev a<K.lev b):∃ l,OrNodes K f l:=by
 have c0:∀ y,K.den 0 y=false:=fun y=>K.den_const (by omega) y
 have c1:∀ y,K.den 1 y=true:=fun y=>K.den_const (by omega) y
 have can:∀ {c d:Nat},K.A.tk c=true->K.A.tk d=true->(∀ y,K.den c y=K.den d y)->c=d:=fun ha hb h=>KV.canon hk.wf hk.ord hu _ _ _ ha hb (Nat.le_refl _) h
 have f2:2<=f:=by
  rcases Nat.lt_or_ge f 2 with h2 | h2
  ·have e1:=h fun _=>true
   have e2:=h fun _=>false
   rw [K.den_const h2] at e1 e2
   simp at e1 e2;omega
  ·exact h2
 obtain ⟨p,v,hp,hpt,hv,hvl,t0,t1,hd⟩:=hk.wf.node_at f2 ht;obtain ⟨v',hvl',hd',hh,hno⟩:=hk.node_hangs hu f2 ht;obtain rfl:v=v':=hk.ord.pm.inj hvl hvl' (by omega)
 have hva:v=a:=by
  rcases (Hangs.or h v).1 hh with e | e
  ·exact e
  ·subst e
   exact absurd ((Hangs.or h a).2 (.inl rfl)) (hno a hav hl)
 subst hva
 have ev:p.var.toNat=v:=by omega
 have dlo:∀ y,K.den p.lo y=y b:=fun y=>by
  rw [<- KV.den_lo hk.wf hk.ord f2 hp hpt y,ev,h,upd_self,upd_ne _ _ (Ne.symm hab)];rfl
 have dhi:∀ y,K.den p.hi y=true:=fun y=>by
  rw [<- KV.den_hi hk.wf hk.ord f2 hp hpt y,ev,h,upd_self];rfl
 have e1:p.hi=1:=can t1 (hk.tk_const (by omega)) fun y=>by rw [dhi,c1]
 have l2:2<=p.lo:=by
  rcases Nat.lt_or_ge p.lo 2 with h2 | h2
  ·have e1:=dlo fun _=>true
   have e2:=dlo fun _=>false
   rw [K.den_const h2] at e1 e2
   simp at e1 e2;omega
  ·exact h2
 obtain ⟨s,u,hs,hst,hsv,hul,s0,s1,hsd⟩:=hk.wf.node_at l2 t0;have hhs:=hk.hangs_of hu t0 (.refl l2) hs;have eu:s.var.toNat=b:=(Hangs.var dlo _).1 hhs
 have d0:∀ y,K.den s.lo y=false:=fun y=>by
  rw [<- KV.den_lo hk.wf hk.ord l2 hs hst y,eu,dlo,upd_self]
 have d1:∀ y,K.den s.hi y=true:=fun y=>by
  rw [<- KV.den_hi hk.wf hk.ord l2 hs hst y,eu,dlo,upd_self]
 refine ⟨p.lo,p,s,f2,l2,fun e=>?_,hp,hpt,rfl,e1,hs,hst,can s0 (hk.tk_const (by omega)) fun y=>by rw [d0,c0],can s1 (hk.tk_const (by omega)) fun y=>by rw [d1,c1]⟩;have e3:=h (fun x=>x == v);have e4:=dlo (fun x=>x == v);rw [<- e,e3] at e4
 simp at e4;omega
theorem OrNodes.way {K:KV} {f l:Nat} (hk:K.Ok) (h:OrNodes K f l):K.way f=2:=by
 obtain ⟨p,s,f2,l2,_,hp,hpt,e1,e2,hs,hst,e3,e4⟩:=h.ex;rw [KV.way_node hk.wf hk.ord f2 hp hpt,e1,e2,KV.way_node hk.wf hk.ord l2 hs hst,e3,e4,K.way_const (by omega),K.way_const (by omega)]
theorem OrNodes.size {K:KV} {f l:Nat} {N:List Nat} (h:OrNodes K f l) (hN:WalkL K [] [f,f] N):N.length=2:=by
 obtain ⟨p,s,f2,l2,hne,hp,hpt,e1,e2,hs,hst,e3,e4⟩:=h.ex;have a:=hN.alls List.nodup_nil
 have hnd:N.Nodup:=by simpa using a.nd
 have hf:f∈N:=by simpa using a.has f (by simp) f2
 have hl:l∈N:=by
  have:=(a.kids f p hf hp).1;rw [e1] at this
  rcases this with h | h
  ·omega
  ·simpa using h
 have hu:∀ x,K.Under f x->x=f\/x=l:=fun x hx=>by
  induction hx with
  | refl _=>exact .inl rfl
  | @lo x c _ hc h2 ih =>
   rcases ih with rfl | rfl
   ·rw [hp] at hc;cases hc;exact .inr e1
   ·rw [hs] at hc;cases hc;omega
  | @hi x c _ hc h2 ih =>
   rcases ih with rfl | rfl
   ·rw [hp] at hc;cases hc;omega
   ·rw [hs] at hc;cases hc;omega
 have h1:N.length<=[f,l].length:=List.Nodup.length_le_of_subset hnd fun x hx=>by
  obtain ⟨r,hr,hx⟩:=a.under x hx
  have:r=f:=by simpa using hr
  subst this
  rcases hu x hx with h | h <;> simp [h]
 have h2:[f,l].length<=N.length:=List.Nodup.length_le_of_subset (by simp;exact hne) fun x hx=>by
  simp at hx
  rcases hx with rfl | rfl
  ·exact hf
  ·exact hl
 simp at h1 h2
 omega
theorem or_sat:satL [0,1,2] (fun y=>y 0||y 2)=6:=by decide +kernel
theorem or_flat:(flatT [varT 3 0,varT 3 2,binT 14 (varT 3 0) (varT 3 2)] (List.range 3)).length+2<=20:=by decide +kernel
theorem or_flat2:(flatT [varT 3 0] (List.range 3)).length+2<20:=by decide +kernel
theorem or_flat1:(flatT [] (List.range 3)).length+2<20:=by decide +kernel
theorem row_two (w:World) (f g:Nat):(w.alloc (.cells #[.int .u32 f,.int .u32 g] 77 (0,0))).ownsRow 0 77 1 (.slice (some ⟨w.heap.size,0,none⟩) 2 2) [f,g].length (flatRefs [f,g]) :=
 World.ownsRow_lit (base:=0) (e:=77) (size:=1) w #[.int .u32 f,.int .u32 g] 2 (Nat.zero_le _) (by unfold maxLen;omega) rfl
theorem awake12_spec (w:World):Calls Tryz.prog 50 #[] w fun e w'=>e=.returned (.bool true)/\Upd [] w w':=by
 go_enter Tryz.func50,Tryz.ntmps50
 go_wp2_with fail;refine (knew_spec 3 20 w (by omega) (by omega) (by omega) (by omega)).mono ?_;rintro e w1 ⟨b,T,q,rfl,hk,hu,hs⟩;have X0:=ExS.new (n:=3) (m:=20) (by omega) (by omega) (by omega) (by omega);have H1:=Lib.hid (And.intro hk (And.intro hu (And.intro hs X0)));clear hk hu hs X0;go_wp2_with fail;refine (var_live b 0 _ T q w1 H1.out.1).mono ?_;rintro e w2 hE;obtain ⟨r1,c1,K1,T1,q1,rfl,M1,hk,hu,hs⟩:=hE.ex;obtain ⟨rfl,x1,t1,d1,X1⟩:=H1.out.2.2.2.var (v:=0) (by omega) (by omega) hk.ok (hk.ti.uni hk.ok.wf) (by omega) M1 or_flat1;have H2:=Lib.hid (And.intro hk (And.intro (H1.out.2.1.then hu fun x hx=>(H1.out.2.2.1 x hx)) (And.intro (sub_trans H1.out.2.2.1 hs H1.out.2.1.size) (And.intro X1 (And.intro t1 d1)))));clear hE M1 hk hu hs x1 t1 d1 X1;go_wp2_with fail;refine (var_live b 2 _ T1 q1 w2 H2.out.1).mono ?_;rintro e w3 hE;obtain ⟨r2,c2,K2,T2,q2,rfl,M2,hk,hu,hs⟩:=hE.ex;obtain ⟨rfl,x1,t1,d1,X1⟩:=H2.out.2.2.2.1.var (v:=2) (by omega) (by omega) hk.ok (hk.ti.uni hk.ok.wf) (by omega) M2 or_flat2;have ta:=x1.tk H2.out.2.2.2.2.1
 have da:∀ y,K2.den r1 y=y 0:=fun y=>by rw [x1.den H2.out.1.ok.wf y H2.out.2.2.2.2.1];exact H2.out.2.2.2.2.2 y
 have H3:=Lib.hid (And.intro hk (And.intro (H2.out.2.1.then hu fun x hx=>(H2.out.2.2.1 x hx)) (And.intro (sub_trans H2.out.2.2.1 hs H2.out.2.1.size) (And.intro X1 (And.intro t1 (And.intro d1 (And.intro ta da)))))));clear hE M2 hk hu hs x1 t1 d1 X1 ta da;go_wp2_with fail;refine (or_live b r1 r2 K2 T2 q2 w3 H3.out.1 H3.out.2.2.2.2.2.2.1 H3.out.2.2.2.2.1).mono ?_;rintro e w4 hE;obtain ⟨f,c3,K3,T3,q3,rfl,O3,hk,hu,hs⟩:=hE.ex
 obtain ⟨rfl,x1,t1,d1,X1⟩:=H3.out.2.2.2.1.op (u:=binT 14 (varT 3 0) (varT 3 2)) (by omega) (by omega) hk.ok (hk.ti.uni hk.ok.wf) O3 (binT_ok (by decide)) (fun y=>by
  rw [binT_fn (f:=varT 3 0) (g:=varT 3 2) rfl,varT_fn (by omega),varT_fn (by omega)]
  show opB 14 (K2.den r1 y) (K2.den r2 y)=_
  rw [H3.out.2.2.2.2.2.2.2,H3.out.2.2.2.2.2.1]) or_flat
 have df:∀ y,K3.den f y=(y 0||y 2):=fun y=>by rw [d1,binT_fn (f:=varT 3 0) (g:=varT 3 2) rfl,varT_fn (by omega),varT_fn (by omega),opB_or]
 have hor:=or_nodes hk.ok X1.uni t1 df (by omega) (by rw [X1.vr];omega) (by rw [X1.lev (by omega),X1.lev (by omega)];omega);obtain ⟨l,hor⟩:=hor;have H4:=Lib.hid (And.intro hk (And.intro (H3.out.2.1.then hu fun x hx=>(H3.out.2.2.1 x hx)) (And.intro X1 (And.intro t1 (And.intro df hor)))));clear hE O3 hk hu hs x1 t1 d1 X1 df hor;have HEV:=Lib.hid (eval_spec b f 4 K3 T3 q3 w4 H4.out.1 H4.out.2.2.2.1 (by unfold U64;omega));rw [H4.out.2.2.2.2.1,show (nb 4 0||nb 4 2)=true by decide] at HEV;go_wp2_with fail;refine HEV.out.mono ?_;rintro e w5 hQ;obtain ⟨rfl,hk,hu⟩:=hQ;have H5:=Lib.hid (And.intro hk (H4.out.2.1.trans hu));have HSA:=Lib.hid (sats_spec b f K3 T3 q3 w5 hk H4.out.2.2.2.1);rw [H4.out.2.2.1.od,show List.range 3=[0,1,2] from rfl,satL_congr _ H4.out.2.2.2.2.1,or_sat,show u64m 6=6 from rfl] at HSA;clear hk hu HEV;go_wp2_with fail;refine HSA.out.mono ?_;rintro e w6 hQ;obtain ⟨rfl,hk,hu⟩:=hQ;have H6:=Lib.hid (And.intro hk (H5.out.2.trans hu));have HPA:=Lib.hid (paths_spec b f K3 T3 q3 w6 hk H4.out.2.2.2.1);rw [H4.out.2.2.2.2.2.way hk.ok,show u64m 2=2 from rfl] at HPA;clear hk hu HSA;go_wp2_with fail;refine HPA.out.mono ?_;rintro e w7 hQ;obtain ⟨rfl,hk,hu⟩:=hQ;have H7:=Lib.hid (And.intro hk (H6.out.2.trans hu))
 have HSZ:=Lib.hid (size12_spec b _ [f,f] K3 T3 q3 _ (hk.upd ((Upd.refl [] w7).alloc (.cells #[.int .u32 f,.int .u32 f] 77 (0,0))) (by simp)) (row_two w7 f f) (fun r hr=>by
  have:r=f:=by simpa using hr
  subst this;exact H4.out.2.2.2.1) (by simp))
 clear hk hu HPA;go_wp2_with fail;refine HSZ.out.mono ?_;rintro e w8 hQ;obtain ⟨N,hN,rfl,hk,hu⟩:=hQ.ex;rw [H4.out.2.2.2.2.2.size hN];have H8:=Lib.hid (And.intro hk ((H7.out.2.alloc _).trans hu));have HSU:=Lib.hid (support_spec b f K3 T3 q3 w8 hk H4.out.2.2.2.1);clear hQ hN hk hu HSZ;go_wp2_with fail;refine HSU.out.mono ?_;rintro e w9 hQ;obtain ⟨N2,hN,rfl,hk,hu⟩:=hQ.ex;have hsup:=sup_or (s:=N2.foldl (fun s x=>supStep s (K3.vof x)) 0) hk.ok H4.out.2.2.1.uni H4.out.2.2.2.1 ⟨N2,hN,rfl⟩ H4.out.2.2.2.2.1 (by omega) (by omega);rw [hsup,show bits BinOp.or IntKind.u64 (IntKind.u64.wrap (2 ^ 0)) (IntKind.u64.wrap (2 ^ 2))=5 by decide +kernel];have H9:=Lib.hid (H8.out.2.trans hu);clear hQ hN hk hu HSU hsup;go_wp2_with fail;go_ret;exact ⟨rfl,H9.out⟩
theorem row_one1 (w:World) (o:Obj) (f:Nat):((w.alloc o).alloc (.cells #[.int .u32 f] 77 (0,0))).ownsRow 0 77 1 (.slice (some ⟨w.heap.size+1,0,none⟩) 1 1) [f].length (flatRefs [f]):=by
 have h:=row_one (w.alloc o) f
 rwa [World.size_alloc] at h
theorem iteTV_fn {a b c:TV} (h1:b.n=a.n) (h2:c.n=a.n) (y:Nat->Bool):(iteTV a b c).fn y=if a.fn y then b.fn y else c.fn y:=by
 unfold iteTV;rw [mkT_fn];unfold TV.fn;rw [h1,h2]
theorem tab_node {K:KV} (hk:K.Ok) (hn:K.vars<=16) {r:Nat} {p:PlaceV} (h2:2<=r) (hp:K.A.list[r]?=some p) (hpt:p.taken=true):∃ v:Nat,p.var=(v:Int)/\v<K.vars/\iteTV (varT K.vars v) (K.tab p.hi) (K.tab p.lo)=K.tab r:=by
 have ht:K.A.tk r=true:=ArenaV.tk_iff.2 ⟨p,hp,hpt⟩;obtain ⟨p',v,hp',_,hv,hvl,h3,h4,_,_,h7⟩:=hk.place h2 ht;rw [hp] at hp';cases hp';refine ⟨v,hv,hvl,(hk.tab_eq (t:=iteTV (varT K.vars v) (K.tab p.hi) (K.tab p.lo)) hn ht (mkT_ok _ hn) rfl fun y=>?_).symm⟩;rw [iteTV_fn (a:=varT K.vars v) (b:=K.tab p.hi) (c:=K.tab p.lo) rfl rfl,h7,hk.tab_fn h3,hk.tab_fn h4,varT_fn hvl]
theorem tab_zero {K:KV} (hk:K.Ok) (hn:K.vars<=16):constT K.vars false=K.tab 0 :=
 (hk.tab_eq (t:=constT K.vars false) hn (hk.tk_const (by omega)) (mkT_ok _ hn) rfl fun y=>by rw [constT_fn,K.den_const (by omega)];rfl).symm
theorem tab_one {K:KV} (hk:K.Ok) (hn:K.vars<=16):constT K.vars true=K.tab 1 :=
 (hk.tab_eq (t:=constT K.vars true) hn (hk.tk_const (by omega)) (mkT_ok _ hn) rfl fun y=>by rw [constT_fn,K.den_const (by omega)];rfl).symm
theorem cb_tab {K:KV} (hk:K.Ok) (hn:K.vars<=16) {kb:Nat} {wS:World} (hb:wS.heap[kb]?=some (.cells #[.int .i64 K.vars] 3 (0,0))):FoldCbT 130 #[.pointer (some ⟨kb,0,none⟩)] K K.tab wS:=fun w r p cl ch hu h2 hp hpt tl th=>by
 obtain ⟨v,hv,hvl,he⟩:=tab_node hk hn h2 hp hpt;rw [hv,<- he];exact cb_table kb K.vars v p.lo p.hi (K.tab p.lo) (K.tab p.hi) cl ch w ((hu.block _ (heap_lt hb) (by simp)).trans hb) hn hvl tl th rfl rfl
structure CTabQ (K:KV) (f:Nat) (w:World) (e:Ending) (w':World):Prop where
 ex:∃ c:Value,e=.returned (.tuple #[tabV (K.tab f) c,.int .i64 0])/\TIn w' (List.range w.heap.size) c (K.tab f)/\Upd [] w w'
theorem ctable_spec (b f:Nat) (K:KV) (T:List DM) (q:KPtr) (w:World) (h:KerIn w b K T q) (hf:K.A.tk f=true) (hn:K.vars<=16) :
  Calls Tryz.prog 56 #[.pointer (some ⟨b,0,none⟩),.int .u32 f] w fun e w'=>CTabQ K f w e w':=by
 have hmf:∀ (fn:Fn) (first cap:Array Value) (w:World),(Instr.makeFunc fn first cap).run Tryz.prog w=.ok (.func fn first cap) w:=fun _ _ _ _=>rfl
 have HL:Hid (∀ r',r'∈[f]->K.A.tk r'=true):=fun r' hr=>by
  simp only [List.mem_singleton] at hr;subst hr;exact hf
 have HU0:=Lib.hid (((Upd.refl [] w).alloc (.cells #[.int .i64 0,.slice none 0 0] 122 (0,0))).alloc (.cells #[.int .u32 f] 77 (0,0)));have HK:=Lib.hid (fun z (u:Upd [] w z)=>h.upd u (by simp));have hb0:=heap_alloc_new w (.cells #[.int .i64 0,.slice none 0 0] 122 (0,0))
 have HB:Hid (∀ z,Upd [] ((w.alloc (.cells #[.int .i64 0,.slice none 0 0] 122 (0,0))).alloc (.cells #[.int .u32 f] 77 (0,0))) z->z.heap[w.heap.size]?=some (.cells #[.int .i64 0,.slice none 0 0] 122 (0,0))):=fun z u =>
  ((((Upd.refl [] _).alloc (.cells #[.int .u32 f] 77 (0,0))).trans u).block _ (heap_lt hb0) (by simp)).trans hb0
 have HV2:Hid (∀ z,Upd [] w z->Calls Tryz.prog 74 #[.pointer (some ⟨b,0,none⟩)] z fun e w'=>e=.returned (.int .i64 K.vars)/\w'=z):=fun z u=>vars_spec b K T q z (h.upd u (by simp)).mem
 have hfld:=fldT
 have hv16:¬ ((16:Int)<(K.vars:Int)):=by omega
 have HOK:=Lib.hid (And.intro h.ok (And.intro hn hf));have HT0:=Lib.hid (tab_zero h.ok hn);have HT1:=Lib.hid (tab_one h.ok hn);obtain ⟨v,hv⟩ : ∃ v,K.vars=v:=⟨_,rfl⟩;have HVE:=Lib.hid hv;rw [hv] at hv16 HV2 HT0 HT1
 have hvl:v<=16:=by omega
 clear hb0 h hf hn hv
 go_enter Tryz.func56,Tryz.ntmps56
 go_wp2_with fail;refine (clive_ok b K T q _ [f] ((w.alloc (.cells #[.int .i64 0,.slice none 0 0] 122 (0,0))).alloc (.cells #[.int .u32 f] 77 (0,0))) (HK.out _ HU0.out) (row_one1 w _ f) HL.out (by simp)).mono ?_;rintro e w1 ⟨rfl,hu⟩;have HU1:=Lib.hid (HU0.out.trans hu);have HB1:=Lib.hid (HB.out _ hu);clear hu;go_wp2_with fail;refine (HV2.out w1 HU1.out).mono ?_;rintro e w2 ⟨rfl,rfl⟩;have hb2:=heap_alloc_new w2 (.cells #[.int .i64 v] 3 (0,0));have HU2:=Lib.hid (HU1.out.alloc (.cells #[.int .i64 v] 3 (0,0)));have hu2:Upd [] w2 (w2.alloc (.cells #[.int .i64 v] 3 (0,0))):=(Upd.refl _ _).alloc _;have HB2:=Lib.hid ((hu2.block _ (heap_lt HB1.out) (by simp)).trans HB1.out);obtain ⟨nb,hnb⟩ : ∃ nb,w2.heap.size=nb:=⟨_,rfl⟩;obtain ⟨w3,hw3⟩ : ∃ w3,w2.alloc (.cells #[.int .i64 v] 3 (0,0))=w3:=⟨_,rfl⟩;have HNB:=Lib.hid hnb;have HW3:=Lib.hid hw3;rw [hw3] at hb2 HU2 HB2;rw [hnb] at hb2;have HBN:=Lib.hid hb2;have x3:w3.cell? ⟨nb,0,none⟩=some (.int .i64 v):=cell_at hb2 rfl;have HC0:=Lib.hid (truconst_spec v false w3 hvl);clear hb2 hu2 hnb hw3;go_upto_region 5 with fail;rw [HW3.out,HNB.out];go_wp2_with fail;refine HC0.out.mono ?_;rintro e w4 hE;obtain ⟨c4,rfl,hT4,hu4⟩:=hE.ex;rw [HT0.out] at hT4 ⊢;obtain ⟨a4,d4,rfl,_⟩:=row_nil_len hT4.row;have hl4:=hT4.ok.len;have hp4:=wordsN_pos (K.tab 0).n;obtain ⟨g4,rfl⟩:=row_some hT4.row (by omega)
 have e4:tabV (K.tab 0) (.slice (some ⟨g4,0,none⟩) (K.tab 0).ws.length d4)=.agg #[.int .i64 v,.slice (some ⟨g4,0,none⟩) (K.tab 0).ws.length d4]:=by unfold tabV;rw [show (K.tab 0).n=v from HVE.out]
 rw [e4];have hbx4:=boxT w4 (.int .i64 v) (.slice (some ⟨g4,0,none⟩) (K.tab 0).ws.length d4);have hu5:Upd [] w4 (w4.alloc (.cells #[.int .i64 v,.slice (some ⟨g4,0,none⟩) (K.tab 0).ws.length d4] 122 (0,0))):=(Upd.refl _ _).alloc _;have ht4:=(hT4.tin (Z:=List.range w.heap.size) (fun k hk=>by have h1:=List.mem_range.1 hk;have h2:=HU2.out.size;omega)).keep0 hu5;obtain ⟨w5,hw5⟩ : ∃ w5,w4.alloc (.cells #[.int .i64 v,.slice (some ⟨g4,0,none⟩) (K.tab 0).ws.length d4] 122 (0,0))=w5:=⟨_,rfl⟩;obtain ⟨q4,hq4⟩ : ∃ q4,w4.heap.size=q4:=⟨_,rfl⟩;rw [hw5] at hbx4 hu5 ht4;rw [hq4] at hbx4;have HW5:=Lib.hid hw5;have HQ4:=Lib.hid hq4;have HU5:=Lib.hid (hu4.trans hu5);have HE4:=Lib.hid e4;have HT4:=Lib.hid ht4;have HC1:=Lib.hid (truconst_spec v true w5 hvl);have y3:=HU5.out.cell0 x3;have HX4:=Lib.hid hbx4;clear hE hT4 hu4 hl4 hp4 e4 hbx4 hu5 ht4 hw5 hq4 x3;go_upto_region 8 with fail;rw [HW5.out,HQ4.out];go_wp2_with fail;refine HC1.out.mono ?_;rintro e w6 hE;obtain ⟨c6,rfl,hT6,hu6⟩:=hE.ex;rw [HT1.out] at hT6 ⊢;obtain ⟨a6,d6,rfl,_⟩:=row_nil_len hT6.row;have hl6:=hT6.ok.len;have hp6:=wordsN_pos (K.tab 1).n;obtain ⟨g6,rfl⟩:=row_some hT6.row (by omega)
 have e6:tabV (K.tab 1) (.slice (some ⟨g6,0,none⟩) (K.tab 1).ws.length d6)=.agg #[.int .i64 v,.slice (some ⟨g6,0,none⟩) (K.tab 1).ws.length d6]:=by unfold tabV;rw [show (K.tab 1).n=v from HVE.out]
 rw [e6];have hbx6:=boxT w6 (.int .i64 v) (.slice (some ⟨g6,0,none⟩) (K.tab 1).ws.length d6);have hu7:Upd [] w6 (w6.alloc (.cells #[.int .i64 v,.slice (some ⟨g6,0,none⟩) (K.tab 1).ws.length d6] 122 (0,0))):=(Upd.refl _ _).alloc _;have ht6:=(hT6.tin (Z:=List.range w.heap.size) (fun k hk=>by have h1:=List.mem_range.1 hk;have h2:=HU2.out.size;have h3:=HU5.out.size;omega)).keep0 hu7;obtain ⟨w7,hw7⟩ : ∃ w7,w6.alloc (.cells #[.int .i64 v,.slice (some ⟨g6,0,none⟩) (K.tab 1).ws.length d6] 122 (0,0))=w7:=⟨_,rfl⟩;obtain ⟨q6,hq6⟩ : ∃ q6,w6.heap.size=q6:=⟨_,rfl⟩;rw [hw7] at hbx6 hu7 ht6;rw [hq6] at hbx6;have HW7:=Lib.hid hw7;have HQ6:=Lib.hid hq6;have HU7:=Lib.hid (hu6.trans hu7);have HU3:=Lib.hid (HU5.out.trans HU7.out);have p0:=HU7.out.cell0 HX4.out.1;have p1:=HU7.out.cell0 HX4.out.2;have p2:=hbx6.1;have p3:=hbx6.2;have hfo:=foldT_spec b 130 f g4 d4 g6 d6 #[.pointer (some ⟨nb,0,none⟩)] K T q K.tab w7 (HK.out _ (HU2.out.trans HU3.out)) enters_table (cb_tab HOK.out.1 HOK.out.2.1 (by rw [HVE.out];exact (HU3.out.block _ (heap_lt HBN.out) (by simp)).trans HBN.out)) (by have h2:=HU2.out.size;have h3:=HU3.out.size;omega) (HT4.out.keep0 HU7.out) ht6 HOK.out.2.2;unfold hdT at hfo;rw [HE4.out,e6] at hfo;have HFO:=Lib.hid hfo;clear hE hT6 hu6 hl6 hp6 e6 hbx6 hu7 ht6 hw7 hq6 hfo y3;go_upto_region 9 with fail;rw [HW7.out,HQ6.out];go_wp2_with fail;refine HFO.out.mono ?_;rintro e w8 ⟨g,c,rfl,ht8,hu8⟩;have hb8:=((HU3.out.trans hu8).block _ (heap_lt HB2.out) (by simp)).trans HB2.out;have z0:w8.cell? ⟨w.heap.size,0,none⟩=some (.int .i64 0):=cell_at hb8 rfl;have z1:w8.cell? ⟨w.heap.size,1,none⟩=some (.slice none 0 0):=cell_at hb8 rfl;have f0:=frozen_at 0 hb8;have f1:=frozen_at 1 hb8;have uR:Upd [w.heap.size] w8 ((w8.setCell ⟨w.heap.size,0,none⟩ (.int .i64 (K.tab f).n)).setCell ⟨w.heap.size,1,none⟩ (.slice (some ⟨g,0,none⟩) (K.tab f).ws.length c)):=((Upd.refl [w.heap.size] _).setCell (p:=⟨w.heap.size,0,none⟩) (.inl (by simp)) _).setCell (p:=⟨w.heap.size,1,none⟩) (.inl (by simp)) _
 have ht9:=ht8.foreign uR fun k hk=>by simp at hk;subst hk;exact ⟨_,_,_,hb8,by decide⟩
 have HQ:Hid (CTabQ K f w (.returned (.tuple #[.agg #[.int .i64 (K.tab f).n,.slice (some ⟨g,0,none⟩) (K.tab f).ws.length c],.int .i64 0])) ((w8.setCell ⟨w.heap.size,0,none⟩ (.int .i64 (K.tab f).n)).setCell ⟨w.heap.size,1,none⟩ (.slice (some ⟨g,0,none⟩) (K.tab f).ws.length c))) :=
  ⟨_,rfl,ht9,(HU2.out.trans (HU3.out.trans hu8)).then uR fun k hk=>.inr (by simp at hk;omega)⟩
 have HB8:=Lib.hid hb8;unfold tabV;clear ht8 hu8 hb8 uR ht9 p0 p1 p2 p3;go_wp2_with fail;obtain ⟨c0,c1⟩:=box2 HB8.out (.int .i64 (K.tab f).n) (.slice (some ⟨g,0,none⟩) (K.tab f).ws.length c);refine bodyPost_ret (v:=.tuple #[.agg #[.int .i64 (K.tab f).n,.slice (some ⟨g,0,none⟩) (K.tab f).ws.length c],.int .i64 0]) (by simp [results,Tryz.results56,go_sem,c0,c1]) rfl ?_;exact HQ.out
def Ans (F:Nat) (args:Array Value) (v:Value) (w:World):Prop:=∀ z,Upd [] w z->Calls Tryz.prog F args z fun e w'=>e=.returned (.tuple #[v,.int .i64 0])/\Upd [] z w'
theorem one_walk (b m r n W:Nat) (xa ya ta:Option Addr) (xn xc yn yc tc:Nat) (X:Int) (bv:Bool) (su st pa:Int) (w:World)
  (h0:Ans 112 #[.pointer (some ⟨b,0,none⟩),.int .u32 r,.int .u64 X] (.bool bv) w)
  (h1:Ans 117 #[.pointer (some ⟨m,0,none⟩),.agg #[.int .i64 n,.slice ta W tc],.int .u64 X] (.bool bv) w)
  (h2:Ans 115 #[.pointer (some ⟨b,0,none⟩),.int .u32 r] (.int .u64 su) w)
  (h3:Ans 118 #[.pointer (some ⟨m,0,none⟩),.agg #[.int .i64 n,.slice ta W tc]] (.int .u64 su) w)
  (h4:Ans 113 #[.pointer (some ⟨b,0,none⟩),.int .u32 r] (.int .u64 st) w)
  (h5:Ans 119 #[.pointer (some ⟨m,0,none⟩),.agg #[.int .i64 n,.slice ta W tc]] (.int .u64 st) w)
  (h6:Ans 114 #[.pointer (some ⟨b,0,none⟩),.int .u32 r] (.int .u64 pa) w)
  (h7:Ans 120 #[.pointer (some ⟨m,0,none⟩),.agg #[.int .i64 n,.slice ta W tc]] (.int .u64 pa) w)
  (hT:∀ z,Upd [] w z->Calls Tryz.prog 56 #[.pointer (some ⟨b,0,none⟩),.int .u32 r] z fun e w'=>∃ (ca:Option Addr) (cw cc:Nat),e=.returned (.tuple #[.agg #[.int .i64 n,.slice ca cw cc],.int .i64 0])/\Upd [] z w'/\∀ y,Upd [] w' y->Calls Tryz.prog 57 #[.agg #[.int .i64 n,.slice ca cw cc],.agg #[.int .i64 n,.slice ta W tc]] y fun e w2=>e=.returned (.bool true)/\Upd [] y w2) :
  Calls Tryz.prog 52 #[.agg #[.pointer (some ⟨b,0,none⟩),.pointer (some ⟨m,0,none⟩),.slice xa xn xc,.slice ya yn yc],.int .u32 r,.agg #[.int .i64 n,.slice ta W tc],.int .u64 X] w fun e w'=>e=.returned (.bool true)/\Upd [] w w':=by
 have g1:=heap_alloc_new w (.cells #[.pointer (some ⟨b,0,none⟩),.pointer (some ⟨m,0,none⟩),.slice xa xn xc,.slice ya yn yc] 97 (0,0));have g2:=heap_alloc_new (w.alloc (.cells #[.pointer (some ⟨b,0,none⟩),.pointer (some ⟨m,0,none⟩),.slice xa xn xc,.slice ya yn yc] 97 (0,0))) (.cells #[.int .i64 n,.slice ta W tc] 122 (0,0));have g1':=(heap_alloc_old (w.alloc (.cells #[.pointer (some ⟨b,0,none⟩),.pointer (some ⟨m,0,none⟩),.slice xa xn xc,.slice ya yn yc] 97 (0,0))) (.cells #[.int .i64 n,.slice ta W tc] 122 (0,0)) (heap_lt g1)).trans g1;rw [World.size_alloc] at g2;have hu0:Upd [] w ((w.alloc (.cells #[.pointer (some ⟨b,0,none⟩),.pointer (some ⟨m,0,none⟩),.slice xa xn xc,.slice ya yn yc] 97 (0,0))).alloc (.cells #[.int .i64 n,.slice ta W tc] 122 (0,0))):=((Upd.refl _ _).alloc _).alloc _;obtain ⟨w0,hw0⟩ : ∃ w0,(w.alloc (.cells #[.pointer (some ⟨b,0,none⟩),.pointer (some ⟨m,0,none⟩),.slice xa xn xc,.slice ya yn yc] 97 (0,0))).alloc (.cells #[.int .i64 n,.slice ta W tc] 122 (0,0))=w0:=⟨_,rfl⟩;rw [hw0] at g2 g1' hu0;have HW0:=Lib.hid hw0
 have HX:Hid (∀ z,Upd [] w0 z->z.cell? ⟨w.heap.size,0,none⟩=some (.pointer (some ⟨b,0,none⟩))/\z.cell? ⟨w.heap.size,1,none⟩=some (.pointer (some ⟨m,0,none⟩))/\z.cell? ⟨w.heap.size+1,0,none⟩=some (.int .i64 n)/\z.cell? ⟨w.heap.size+1,1,none⟩=some (.slice ta W tc)):=fun z u =>
  ⟨u.cell0 (cell_at g1' rfl),u.cell0 (cell_at g1' rfl),u.cell0 (cell_at g2 rfl),u.cell0 (cell_at g2 rfl)⟩
 have HU0:=Lib.hid hu0;have HR0:Hid (Upd [] w0 w0):=Upd.refl _ _;have H0:=Lib.hid h0;have H1:=Lib.hid h1;have H2:=Lib.hid h2;have H3:=Lib.hid h3;have H4:=Lib.hid h4;have H5:=Lib.hid h5;have H6:=Lib.hid h6;have H7:=Lib.hid h7;have HT:=Lib.hid hT
 have hss1:(su != su)=false:=by simp
 have hss2:(st != st)=false:=by simp
 have hss3:(pa != pa)=false:=by simp
 have hss4:(bv != bv)=false:=by simp
 obtain ⟨c0,c1,c2,c3⟩:=HX.out w0 HR0.out;have hfld:=fldT;clear g1 g2 g1' hu0 hw0 hT h0 h1 h2 h3 h4 h5 h6 h7
 go_enter Tryz.func52,Tryz.ntmps52
 go_upto_region 1 with fail;rw [HW0.out];go_wp2_with fail;refine (H0.out _ (HU0.out.trans HR0.out)).mono ?_;rintro e v0 ⟨rfl,hu⟩;have HR1:=Lib.hid (HR0.out.trans hu);clear hu c0 c1 c2 c3;obtain ⟨c0,c1,c2,c3⟩:=HX.out _ HR1.out;go_wp2_with fail;refine (H1.out _ (HU0.out.trans HR1.out)).mono ?_;rintro e v1 ⟨rfl,hu⟩;have HR2:=Lib.hid (HR1.out.trans hu);clear hu c0 c1 c2 c3;obtain ⟨c0,c1,c2,c3⟩:=HX.out _ HR2.out;go_wp2_with fail;refine (H2.out _ (HU0.out.trans HR2.out)).mono ?_;rintro e v2 ⟨rfl,hu⟩;have HR3:=Lib.hid (HR2.out.trans hu);clear hu c0 c1 c2 c3;obtain ⟨c0,c1,c2,c3⟩:=HX.out _ HR3.out;go_wp2_with fail;refine (H3.out _ (HU0.out.trans HR3.out)).mono ?_;rintro e v3 ⟨rfl,hu⟩;have HR4:=Lib.hid (HR3.out.trans hu);clear hu c0 c1 c2 c3;obtain ⟨c0,c1,c2,c3⟩:=HX.out _ HR4.out;go_wp2_with fail;refine (H4.out _ (HU0.out.trans HR4.out)).mono ?_;rintro e v4 ⟨rfl,hu⟩;have HR5:=Lib.hid (HR4.out.trans hu);clear hu c0 c1 c2 c3;obtain ⟨c0,c1,c2,c3⟩:=HX.out _ HR5.out;go_wp2_with fail;refine (H5.out _ (HU0.out.trans HR5.out)).mono ?_;rintro e v5 ⟨rfl,hu⟩;have HR6:=Lib.hid (HR5.out.trans hu);clear hu c0 c1 c2 c3;obtain ⟨c0,c1,c2,c3⟩:=HX.out _ HR6.out;go_wp2_with fail;refine (H6.out _ (HU0.out.trans HR6.out)).mono ?_;rintro e v6 ⟨rfl,hu⟩;have HR7:=Lib.hid (HR6.out.trans hu);clear hu c0 c1 c2 c3;obtain ⟨c0,c1,c2,c3⟩:=HX.out _ HR7.out;go_wp2_with fail;refine (H7.out _ (HU0.out.trans HR7.out)).mono ?_;rintro e v7 ⟨rfl,hu⟩;have HR8:=Lib.hid (HR7.out.trans hu);clear hu c0 c1 c2 c3;obtain ⟨c0,c1,c2,c3⟩:=HX.out _ HR8.out;go_wp2_with fail;refine (HT.out _ (HU0.out.trans HR8.out)).mono ?_;rintro e v8 ⟨ca,cw,cc,rfl,hu,hs⟩;have HR9:=Lib.hid ((HR8.out.trans hu).alloc (.cells #[.int .i64 n,.slice ca cw cc] 122 (0,0)));have HS:=Lib.hid (hs _ ((Upd.refl _ _).alloc (.cells #[.int .i64 n,.slice ca cw cc] 122 (0,0))));have hbx:=boxT v8 (.int .i64 n) (.slice ca cw cc);have y0:=hbx.1;have y1:=hbx.2;clear hu hs hbx c0 c1 c2 c3;obtain ⟨c0,c1,c2,c3⟩:=HX.out _ HR9.out;go_wp2_with fail;refine HS.out.mono ?_;rintro e v9 ⟨rfl,hu⟩;have HR10:=Lib.hid (HR9.out.trans hu);clear hu;go_wp2_with fail;go_ret;exact ⟨rfl,HU0.out.trans HR10.out⟩
theorem docsize_spec (m n0:Nat) (M:MV) (p:MPtr) (Z:List Nat) (v:Value) (L:List TV) (w:World) (h:ModIn w m M p Z) (hZ:∀ k,k∈Z->k<w.heap.size) (hf:M.Fit) (hv:TLs w n0 Z v L) (hL:∀ t,t∈L->t.n=M.n/\M.isLive t=true) (hl:L.length<=1000) :
  Calls Tryz.prog 55 #[.pointer (some ⟨m,0,none⟩),v] w fun e w'=>e=.returned (.tuple #[.int .i64 ((flatT L M.order).length:Nat),.int .i64 0])/\Upd [] w w':=by
 obtain ⟨fa,fc,rfl,hfa⟩:=hv.form;have HV:=Lib.hid hv
 have HSZ:Hid (∀ z,Upd [] w z->Calls Tryz.prog 127 #[.pointer (some ⟨m,0,none⟩),.slice fa L.length fc] z fun e w'=>e=.returned (.int .i64 ((flatT L M.order).length:Nat))/\Upd [] z w'):=fun z u =>
  msize_spec m n0 M p Z _ L z (h.keep0 u) (fun k hk=>Nat.lt_of_lt_of_le (hZ k hk) u.size) hf (hv.keep0 u) (fun t ht=>(hL t ht).1) (by omega)
 have HIS:Hid (∀ z c t,Upd [] w z->t∈L->TIn z Z c t->Calls Tryz.prog 116 #[.pointer (some ⟨m,0,none⟩),tabV t c] z fun e w'=>e=.returned (.bool true)/\Upd [] z w'):=fun z c t u ht hti =>
  (islive_spec m M p Z c t z (h.keep0 u) (fun k hk=>Nat.lt_of_lt_of_le (hZ k hk) u.size) hf hti).mono fun e w' ⟨h1,h2⟩=>⟨by rw [h1,(hL t ht).2],h2⟩
 generalize hm:L.length=N at *;have HM:=Lib.hid hm;generalize (flatT L M.order).length=S at *;clear h hZ hf hv hL hm
 go_enter Tryz.func55,Tryz.ntmps55
 go_wp2_with fail
 go_loopg [10] N (fun g s10 wr=>∃ i:Nat,N-i=g/\i<=N/\s10=.int .i64 i/\Upd [] w wr)
 case atStart=>exact ⟨0,by omega,by omega,rfl,Upd.refl _ _⟩
 case round =>
  obtain ⟨i,rfl,hi,rfl,hU⟩:=hrel
  by_cases hlt:i<N
  ·have hil:(i:Int)<(N:Int):=by omega
   obtain ⟨u,hu⟩ : ∃ u,L[i]?=some u:=⟨_,List.getElem?_eq_getElem (by rw [HM.out];exact hlt)⟩;obtain ⟨g,rfl⟩:=hfa (by omega);have hL:=HV.out.keep0 hU;obtain ⟨cu,x0,x1,htu⟩:=hL.at_ hu;obtain ⟨ua,uc,hcu,_⟩:=row_nil_len htu.row;subst hcu;have hua:Upd [] wr (wr.alloc (.cells #[.int .i64 u.n,.slice ua u.ws.length uc] 122 (0,0))):=(Upd.refl _ _).alloc _;have HI:=Lib.hid (HIS.out _ _ u (hU.trans hua) (List.mem_of_getElem? hu) (htu.keep0 hua));have hbx:=boxT wr (.int .i64 u.n) (.slice ua u.ws.length uc);have y0:=hbx.1;have y1:=hbx.2;have HUA:=Lib.hid (hU.trans hua);unfold tabV at HI;generalize u.ws.length=W at *;generalize u.n=un at *;clear hU htu hu hL hbx hua;go_wp2_with fail;refine HI.out.mono ?_;rintro e w2 ⟨rfl,hu2⟩;have HU2:=Lib.hid (HUA.out.trans hu2);clear hu2;go_wp2_with fail
   go_roundg (N-(i+1))
   case measure=>omega
   case rel=>exact ⟨i+1,rfl,by omega,by simp,HU2.out⟩
  ·obtain rfl:i=N:=by omega
   have hil:¬ ((i:Int)<(i:Int)):=by omega
   have HU:=Lib.hid hU;clear hU;go_wp2_with fail;refine (HSZ.out _ HU.out).mono ?_;rintro e w2 ⟨rfl,hu2⟩;have HU2:=Lib.hid (HU.out.trans hu2);clear hu2;go_wp2_with fail;go_ret2;exact ⟨rfl,HU2.out⟩
theorem u64m_lt {n:Nat} (h:n<18446744073709551616):u64m n=n:=by unfold u64m;omega
theorem pow_le8 {n:Nat} (h:n<=8):2 ^ n<=256:=Nat.pow_le_pow_right (n:=2) (by omega) h
theorem ctable_ans {b r:Nat} {K:KV} {T:List DM} {q:KPtr} {Z:List Nat} {c:Value} {t:TV} {w z:World} (hk:KerIn w b K T q) (ht:TIn w Z c t) (htn:t.n=K.vars) (hnm:Names K r t) (h8:K.vars<=8) (u:Upd [] w z) :
  Calls Tryz.prog 56 #[.pointer (some ⟨b,0,none⟩),.int .u32 r] z fun e w'=>∃ (ca:Option Addr) (cw cc:Nat),e=.returned (.tuple #[.agg #[.int .i64 t.n,.slice ca cw cc],.int .i64 0])/\Upd [] z w'/\∀ y,Upd [] w' y->Calls Tryz.prog 57 #[.agg #[.int .i64 t.n,.slice ca cw cc],tabV t c] y fun e w2=>e=.returned (.bool true)/\Upd [] y w2:=by
 have e:K.tab r=t:=hk.ok.tab_eq (by omega) hnm.1 ht.ok htn hnm.2;refine (ctable_spec b r K T q z (hk.upd u (by simp)) hnm.1 (by omega)).mono ?_;rintro e1 w1 ⟨c1,rfl,h1,u1⟩;rw [e] at h1 ⊢;obtain ⟨ca,cc,rfl,_⟩:=row_nil_len h1.row;refine ⟨ca,t.ws.length,cc,rfl,u1,fun y uy=>?_⟩;have h2:TIn y [] c t:=⟨ht.ok,((ht.keep0 u).keep0 (u1.trans uy)).row,by simp⟩;have h4:TIn y [] _ t:=⟨h1.ok,(h1.keep0 uy).row,by simp⟩;have h3:=same_spec [] _ c t t y h4 h2
 exact h3.mono fun e2 w2 ⟨a1,a2⟩=>⟨by rw [a1];simp,a2⟩
theorem ask_spec (b m r:Nat) (xa ya ta:Option Addr) (xn xc yn yc tw tc:Nat) (X:Int) (K:KV) (T:List DM) (q:KPtr) (M:MV) (p:MPtr) (Z:List Nat) (t:TV) (w:World)
  (hk:KerIn w b K T q) (h:ModIn w m M p Z) (hZ:∀ k,k∈Z->k<w.heap.size) (hf:M.Fit) (hs:Same K M) (h8:K.vars<=8) (ht:TIn w Z (.slice ta tw tc) t) (hl:M.isLive t=true) (htn:t.n=K.vars) (hnm:Names K r t) (hX:U64 X) :
  Calls Tryz.prog 52 #[.agg #[.pointer (some ⟨b,0,none⟩),.pointer (some ⟨m,0,none⟩),.slice xa xn xc,.slice ya yn yc],.int .u32 r,.agg #[.int .i64 t.n,.slice ta tw tc],.int .u64 X] w fun e w'=>e=.returned (.bool true)/\Upd [] w w':=by
 have hu:=hk.ti.uni hk.ok.wf
 have h8t:t.n<=8:=by omega
 have hw:=way_le hk.ok K.vars r (by omega) hnm.1;have hp8:=pow_le8 h8;have hp8t:=pow_le8 h8t;have hsl:=t.sats_le
 have hZ':∀ z,Upd [] w z->∀ k,k∈Z->k<z.heap.size:=fun z u k hk=>Nat.lt_of_lt_of_le (hZ k hk) u.size
 have hX1:=hX.1;have hX2:=hX.2
 have eX:((X.toNat:Nat):Int)=X:=by omega
 have e1:K.den r (fun v=>nb X v)=t.bit (X.toNat % 2 ^ t.n):=Names.eval hnm X
 have e2:u64m (satL K.order (K.den r))=(t.sats:Nat):=by rw [hnm.sats hk.ok htn];exact u64m_lt (by omega)
 have e3:u64m (K.way r)=(K.way r:Nat):=u64m_lt (by omega);refine one_walk b m r t.n tw xa ya ta xn xc yn yc tc X (t.bit (X.toNat % 2 ^ t.n)) (supT t) (t.sats:Nat) (K.way r:Nat) w ?_ ?_ ?_ ?_ ?_ ?_ ?_ ?_ ?_
 ·intro z u
  refine (eval_spec b r X K T q z (hk.upd u (by simp)) hnm.1 hX).mono ?_;rintro e w1 ⟨rfl,_,u1⟩;exact ⟨by rw [e1],u1⟩
 ·intro z u
  have:=doceval_spec m M p Z _ t X.toNat z (h.keep0 u) (hZ' z u) hf (ht.keep0 u) hl h8t (by omega);rw [eX] at this;exact this
 ·intro z u
  refine (support_spec b r K T q z (hk.upd u (by simp)) hnm.1).mono ?_;rintro e w1 ⟨N,hN,rfl,_,u1⟩;exact ⟨by rw [SupIs.table hk.ok hu ⟨N,hN,rfl⟩ hnm ht.ok htn],u1⟩
 ·intro z u
  exact docsup_spec m M p Z _ t z (h.keep0 u) (hZ' z u) hf (ht.keep0 u) hl h8t
 ·intro z u
  refine (sats_spec b r K T q z (hk.upd u (by simp)) hnm.1).mono ?_;rintro e w1 ⟨rfl,_,u1⟩;exact ⟨by rw [e2],u1⟩
 ·intro z u
  exact docsats_spec m M p Z _ t z (h.keep0 u) (hZ' z u) hf (ht.keep0 u) hl h8t
 ·intro z u
  refine (paths_spec b r K T q z (hk.upd u (by simp)) hnm.1).mono ?_;rintro e w1 ⟨rfl,_,u1⟩;exact ⟨by rw [e3],u1⟩
 ·intro z u
  exact docpaths_spec m M p Z _ t r K z hk.ok hu hs (h.keep0 u) (hZ' z u) hf (ht.keep0 u) hl h8 htn hnm
 ·intro z u
  exact ctable_ans hk ht htn hnm h8 u
end Go.Proofs.YtfkopmhpppeheaaGreat
namespace Go.Proofs.YtfkopmhpppeheaaGreat
open Go.ChangeShapes Go.WideShapes Go.ChangeAt Go.RowKit
structure RowC (w:World) (k:IntKind) (a:Option Addr) (n c:Nat) (zs:List Int):Prop where
 row:RowOf w k a n zs
 nc:n<=c
 cm:c<=maxLen
 wf:∀ z,z∈zs->(Lit.int k z).wf=true
theorem RowC.of_ints {H:Type} {W:World} {k:IntKind} {cs:List Value} {x:DataW H × List MemPlace}
  (h:(cs=[.slice none 0 0]/\x=(.nil,[])) \/
  ∃ (a:Addr) (len cap:Nat) (zs:List Int),cs=[.slice (some a) len cap]/\0<=a.block/\len<=cap/\cap<=maxLen/\zs.length=(if (fun _:Nat=>true) a.block then cap else len) /\
   x=(.slice (lits k (zs.take len)) (lits k (zs.drop len)),MemPlace.row a zs.length) /\
   (∀ i,i<zs.length->W.cell? (a.add i)=some (.int k (zs.getD i 0)))/\(∀ n∈zs,(Lit.int k n).wf=true)) :
  ∃ (a:Option Addr) (n c:Nat) (Zs:List Int),cs=[.slice a n c]/\RowC W k a n c Zs:=by
 rcases h with ⟨rfl,_⟩ | ⟨a,len,cap,zs,rfl,_,hl,hm,hz,_,hc,hw⟩
 ·exact ⟨none,0,0,[],rfl,⟨rfl,Nat.zero_le _,fun i hi=>by omega⟩,Nat.le_refl _,Nat.zero_le _,fun z hz=>by cases hz⟩
 ·have hz':zs.length=cap:=by simpa using hz
  refine ⟨some a,len,cap,zs.take len,rfl,⟨by rw [List.length_take];omega,by omega,fun i hi=>⟨a,rfl,?_⟩⟩,hl,hm,fun z hz=>hw z (List.mem_of_mem_take hz)⟩;rw [hc i (by omega),List.getD_eq_getElem?_getD,List.getD_eq_getElem?_getD,List.getElem?_take_of_lt hi]
end Go.Proofs.YtfkopmhpppeheaaGreat
