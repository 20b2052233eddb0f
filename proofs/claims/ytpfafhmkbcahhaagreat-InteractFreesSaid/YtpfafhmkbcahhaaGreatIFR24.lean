import Derived.Test.YtpfafhmkbcahhaaGreatIFR23
import Derived.Test.YtpfafhmkbcahhaaGreatIFR13
import Derived.Laws.StructEq
set_option maxRecDepth 100000
set_option maxHeartbeats 6400000
namespace Go.Proofs.YtpfafhmkbcahhaaGreat
open Go.RowKit Go.Maps Go.ChangeMaps Go.WideShapes
theorem free_bad (b:Nat) (l:Int) (K:KV) (T:List DM) (q:KPtr) (w:World) (h:KerIn w b K T q) (hl:l<0\/(K.vars:Int)-2<l) :
  Calls Tryz.prog 59 #[.pointer (some ⟨b,0,none⟩),.int .i64 l] w fun e w'=>e=.returned (.tuple #[.bool false,.int .i64 1])/\Upd [] w w':=by
 have HK:=Lib.hid h;have hol:=h.ok.ord.pm.ol;have hvs:=h.ok.wf.vs;have hd4:IntKind.i64.wrap ((K.vars:Int)-2)=(K.vars:Int)-2:=IntWalk.i64_in _ (by omega);clear h
 by_cases hneg:l<0
 ·have hd1:decide (l<0)=true:=by simpa using hneg
  clear hl
  go_enter Tryz.func59,Tryz.ntmps59
  go_wp2_with fail;refine (order_spec b K T q w HK.out.mem (by omega) (by omega)).mono ?_;rintro e w1 ⟨go,gc,rfl,hor,hu1⟩;rw [hol];have HU1:=Lib.hid hu1;clear hor hu1;go_wp2_with fail;go_ret2;exact ⟨rfl,HU1.out⟩
 ·have hd1:decide (l<0)=false:=by simpa using hneg
  have hd3:(K.vars:Int)-2<l:=by omega
  clear hl
  go_enter Tryz.func59,Tryz.ntmps59
  go_wp2_with fail;refine (order_spec b K T q w HK.out.mem (by omega) (by omega)).mono ?_;rintro e w1 ⟨go,gc,rfl,hor,hu1⟩;rw [hol];have HU1:=Lib.hid hu1;clear hor hu1;go_wp2_with fail;go_ret2;exact ⟨rfl,HU1.out⟩
theorem width_ker (b v:Nat) (K:KV) (T:List DM) (q:KPtr) (w:World) (hk:KerIn w b K T q) (hv:v<K.vars) :
  Calls Tryz.prog 60 #[.pointer (some ⟨b,0,none⟩),.int .i64 v] w fun e w'=>e=.returned (.tuple #[.int .i64 (K.nodesV v).length,.int .i64 0])/\Upd [] w w':=by
 have hlt:v<T.length:=by rw [hk.ti.len];omega
 have hT:T[v]?=some T[v]:=List.getElem?_eq_getElem hlt;generalize T[v]=D at hT;obtain ⟨g,cap,m,t1,t2,t3,c0,c1,hown⟩:=hk.mem.tab.cells hT;have hsz:=hk.ti.sizeV hk.ok.wf hT (hown.canon nodeKeyed) (hown.tidy nodeKeyed);have:=width_at b v K T q D w hk (by omega) hT;rw [hsz] at this;exact this
theorem nb_orNot {a s:Int} (ha:U64 a) (hs:U64 s) {v y:Nat} (hv:v<64) (hy:y<64):U64 (orNotT a s v)/\nb (orNotT a s v) y=(nb a y||(nb s y&&!decide (v=y))):=by
 have hu:U64 (bits BinOp.andNot IntKind.u64 s (IntKind.u64.wrap (2 ^ v))):=bits_u64 _ _ _;refine ⟨bits_u64 _ _ _,?_⟩;unfold orNotT;rw [nb_or ha hu,nb_andNot hs (wrap_u64 _) hy,nb_pow hv]
structure MatB (n:Nat) (M:List Int) (B:Nat->Nat->Bool):Prop where
 len:M.length=n
 u64:∀ x,x<n->U64 (M.getD x 0)
 bit:∀ x y,x<n->y<64->nb (M.getD x 0) y=B x y
theorem MatB.row {n:Nat} {M:List Int} {B:Nat->Nat->Bool} {s:Int} (h:MatB n M B) (hn:n<=64) (hs:U64 s):∀ k,k<=n->MatB n ((List.range k).foldl (matUpd s) M) fun x y=>B x y||(decide (x<k)&&(nb s x&&(nb s y&&!decide (x=y))))
 | 0,_=>by simpa using h
 | k+1,hk=>by
  have ih:=MatB.row h hn hs k (by omega);rw [List.range_succ,List.foldl_append]
  simp only [List.foldl_cons,List.foldl_nil]
  generalize (List.range k).foldl (matUpd s) M=M1 at *;unfold matUpd;rw [bitT_nb hs]
  cases hb:nb s k with
  | false =>
   simp only [Bool.false_eq_true,if_false]
   refine ⟨ih.len,ih.u64,fun x y hx hy=>?_⟩;rw [ih.bit x y hx hy]
   by_cases e:x=k
   ·subst e;simp [hb]
   ·have:(decide (x<k+1))=decide (x<k):=by simp;omega
    rw [this]
  | true =>
   simp only [if_true]
   have hon:∀ y,y<64->U64 (orNotT (M1.getD k 0) s k)/\nb (orNotT (M1.getD k 0) s k) y=(nb (M1.getD k 0) y||(nb s y&&!decide (k=y))):=fun y hy=>nb_orNot (ih.u64 k (by omega)) hs (by omega) hy
   have hg:∀ x,(M1.set k (orNotT (M1.getD k 0) s k)).getD x 0=if x=k then orNotT (M1.getD k 0) s k else M1.getD x 0:=fun x=>by
    rw [List.getD_eq_getElem?_getD]
    by_cases e:x=k
    ·subst e;rw [List.getElem?_set_self (by rw [ih.len];omega)];simp
    ·rw [List.getElem?_set_ne (Ne.symm e),if_neg e,List.getD_eq_getElem?_getD]
   refine ⟨by simpa using ih.len,fun x hx=>?_,fun x y hx hy=>?_⟩
   ·rw [hg];split
    ·exact (hon 0 (by omega)).1
    ·exact ih.u64 x hx
   ·rw [hg]
    by_cases e:x=k
    ·subst e
     rw [if_pos rfl,(hon y hy).2,ih.bit x y hx hy]
     simp [hb]
    ·rw [if_neg e,ih.bit x y hx hy]
     have:(decide (x<k+1))=decide (x<k):=by simp;omega
     rw [this]
theorem MatB.fold {n:Nat} (hn:n<=64):∀ (ss:List Int) {M:List Int} {B:Nat->Nat->Bool},MatB n M B->(∀ s,s∈ss->U64 s)->MatB n (ss.foldl (matRow n) M) fun x y=>B x y||(ss.any fun s=>nb s x&&(nb s y&&!decide (x=y)))
 | [],M,B,h,_=>by simpa using h
 | s::ss,M,B,h,hs=>by
  have h1:=h.row hn (hs s (by simp)) n (Nat.le_refl _)
  have h1':MatB n (matRow n M s) fun x y=>B x y||(nb s x&&(nb s y&&!decide (x=y))):=by
   refine ⟨h1.len,h1.u64,fun x y hx hy=>?_⟩;have:=h1.bit x y hx hy;rw [decide_eq_true hx,Bool.true_and] at this;exact this
  have h2:=MatB.fold hn ss h1' fun t ht=>hs t (by simp [ht])
  refine ⟨h2.len,h2.u64,fun x y hx hy=>?_⟩;rw [List.foldl_cons,h2.bit x y hx hy,List.any_cons,Bool.or_assoc]
theorem MatB.zero (n:Nat):MatB n (List.replicate n 0) fun _ _=>false:=by
 have e:∀ x,(List.replicate n (0:Int)).getD x 0=0:=fun x=>by
  rw [List.getD_eq_getElem?_getD,List.getElem?_replicate];split <;> rfl
 refine ⟨by simp,fun x _=>by rw [e];unfold U64;omega,fun x y _ _=>by rw [e];simp [nb]⟩
theorem mat_bits {K:KV} {ss:List Int} (hk:K.Ok) (hu:K.Uni) (hS:SupL K K.roots ss):MatB K.vars (ss.foldl (matRow K.vars) (List.replicate K.vars 0)) fun x y=>ss.any fun s=>nb s x&&(nb s y&&!decide (x=y)):=by
 have h:=MatB.fold (n:=K.vars) hk.wf.vs.2 ss (MatB.zero _) fun s hs=>by
  obtain ⟨i,hi⟩:=List.getElem?_of_mem hs;have hl:=(List.getElem?_eq_some_iff.1 hi).1;have hr:K.roots[i]?=some (K.roots[i]'(by rw [<- hS.1];exact hl)):=List.getElem?_eq_getElem _;have hm:=List.mem_of_getElem? hr;exact ((hS.2 i _ s hr hi).bits hk hu (hk.wf.ht _ (KV.mem_roots.1 hm)).2).1
 refine ⟨h.len,h.u64,fun x y hx hy=>?_⟩;rw [h.bit x y hx hy,Bool.false_or]
theorem mat_notfree {K:KV} {ss:List Int} {x y:Nat} (hk:K.Ok) (hu:K.Uni) (hS:SupL K K.roots ss) (hx:x<K.vars) (hy:y<K.vars) (hxy:x≠y) (hf:¬ K.FreeUV (x:Int) (y:Int)):nb ((ss.foldl (matRow K.vars) (List.replicate K.vars 0)).getD x 0) y=true:=by
 have hv:=hk.wf.vs;rw [(mat_bits hk hu hS).bit x y hx (by omega)]
 have hex:∃ (r:Nat) (p:PlaceV),2<=r/\K.A.list[r]?=some p/\p.taken=true/\p.var=(x:Int)/\(K.vr p.lo=(y:Int)\/K.vr p.hi=(y:Int)):=by
  refine Classical.byContradiction fun h=>hf fun r p h2 hp hpt hh=>h ⟨r,p,h2,hp,hpt,hh.1,hh.2⟩
 obtain ⟨r,p,h2,hp,hpt,e1,e2⟩:=hex;have htk:K.A.tk r=true:=ArenaV.tk_iff.2 ⟨p,hp,hpt⟩
 have hroot:∃ f,0<K.hold f/\K.Under f r:=by
  have hr:=KV.live_reach hk.wf hk.pos hk.ord _ r h2 htk (Nat.le_refl _)
  have key:∀ s,K.Reach s->2<=s->∃ f,0<K.hold f/\K.Under f s:=fun s hs=>by
   induction hs with
   | root hh=>intro h2;exact ⟨_,hh,.refl h2⟩
   | lo hq hq2 hqp _ ih =>
    intro h2
    obtain ⟨f,hf,hu⟩:=ih hq2;exact ⟨f,hf,.lo hu hqp h2⟩
   | hi hq hq2 hqp _ ih =>
    intro h2
    obtain ⟨f,hf,hu⟩:=ih hq2;exact ⟨f,hf,.hi hu hqp h2⟩
  exact key r hr h2
 obtain ⟨f,hf0,hun⟩:=hroot;have hft:=(hk.wf.ht f hf0).2;have hhx:=hk.hangs_of hu hft hun hp
 have hhy:Hangs (K.den f) y:=by
  have hcl:=hk.wf.cl r p h2 hp hpt
  rcases e2 with e2 | e2
  ·have l2:2<=p.lo:=by
    rcases Nat.lt_or_ge p.lo 2 with h | h
    ·obtain ⟨c,hc,_⟩:=ArenaV.tk_iff.1 hcl.1
     have:=hk.wf.const_var h hc;rw [KV.vr_at hc] at e2;omega
    ·exact h
   obtain ⟨c,hc,_⟩:=ArenaV.tk_iff.1 hcl.1;have:=hk.hangs_of hu hft (.lo hun hp l2) hc;rw [KV.vr_at hc] at e2
   have e3:c.var.toNat=y:=by omega
   rw [e3] at this;exact this
  ·have l2:2<=p.hi:=by
    rcases Nat.lt_or_ge p.hi 2 with h | h
    ·obtain ⟨c,hc,_⟩:=ArenaV.tk_iff.1 hcl.2
     have:=hk.wf.const_var h hc;rw [KV.vr_at hc] at e2;omega
    ·exact h
   obtain ⟨c,hc,_⟩:=ArenaV.tk_iff.1 hcl.2;have:=hk.hangs_of hu hft (.hi hun hp l2) hc;rw [KV.vr_at hc] at e2
   have e3:c.var.toNat=y:=by omega
   rw [e3] at this;exact this
 have e4:p.var.toNat=x:=by omega
 rw [e4] at hhx;obtain ⟨i,hi⟩:=List.getElem?_of_mem (KV.mem_roots.2 hf0);have hl:=(List.getElem?_eq_some_iff.1 hi).1;have hs:ss[i]?=some (ss[i]'(by rw [hS.1];exact hl)):=List.getElem?_eq_getElem _;obtain ⟨_,hb⟩:=(hS.2 i f _ hi hs).bits hk hu hft;rw [List.any_eq_true];exact ⟨_,List.mem_of_getElem? hs,by rw [(hb x).2 hhx,(hb y).2 hhy];simp [hxy]⟩
def PlaceV.node3 (p:PlaceV):List Value:=[.int .i64 p.var,.int .u32 p.lo,.int .u32 p.hi]
def flatN3 (l:List PlaceV):List Value:=l.flatMap PlaceV.node3
theorem flatN3_at:∀ {l:List PlaceV} {i:Nat} {p:PlaceV},l[i]?=some p->(flatN3 l)[i*3]?=some (.int .i64 p.var)/\(flatN3 l)[i*3+1]?=some (.int .u32 p.lo)/\(flatN3 l)[i*3+2]?=some (.int .u32 p.hi)
 | [],i,p,h=>by simp at h
 | x::l,0,p,h=>by simp at h;subst h;exact ⟨rfl,rfl,rfl⟩
 | x::l,i+1,p,h=>by
  simp at h
  obtain ⟨a,b,c⟩:=flatN3_at h;have e:flatN3 (x::l)=x.node3++flatN3 l:=rfl;have hl:x.node3.length=3:=rfl;rw [e];refine ⟨?_,?_,?_⟩
  ·rw [List.getElem?_append_right (by rw [hl];omega),hl,show (i+1)*3-3=i*3 by omega];exact a
  ·rw [List.getElem?_append_right (by rw [hl];omega),hl,show (i+1)*3+1-3=i*3+1 by omega];exact b
  ·rw [List.getElem?_append_right (by rw [hl];omega),hl,show (i+1)*3+2-3=i*3+2 by omega];exact c
theorem flatN3_snoc (l:List PlaceV) (p:PlaceV):flatN3 (l++[p])=flatN3 l++p.node3:=by simp [flatN3]
def KV.plc (K:KV) (r:Nat):PlaceV:=K.A.list.getD r ⟨0,0,0,false,0⟩
theorem KV.plc_at {K:KV} {r:Nat} (h:K.A.tk r=true):K.A.list[r]?=some (K.plc r)/\(K.plc r).taken=true:=by
 obtain ⟨p,hp,hpt⟩:=ArenaV.tk_iff.1 h
 have e:K.plc r=p:=by unfold KV.plc;rw [List.getD_eq_getElem?_getD,hp];rfl
 rw [e];exact ⟨hp,hpt⟩
structure FreeX (b l:Nat) (K:KV) (q:KPtr) (w:World) (e:Ending) (w':World):Prop where
 ex:∃ (K':KV) (T':List DM) (q':KPtr),e=.returned (.int .i64 0)/\KerIn w' b K' T' q'/\K'.A=K.A/\K'.vars=K.vars/\Upd (q.all b) w w'
theorem exch_free (b l:Nat) (K:KV) (T:List DM) (q:KPtr) (w:World) (h:KerIn w b K T q) (htr:K.trail.length<=1000000) (hl:l+2<=K.vars) (hf:K.FreeUV (K.order.getD l 0:Nat) (K.order.getD (l+1) 0:Nat)) :
  Calls Tryz.prog 49 #[.pointer (some ⟨b,0,none⟩),.int .i64 l] w fun e w'=>FreeX b l K q w e w':=by
 refine (exchange_spec b l K T q w h htr).mono fun e w' P=>?_
 obtain ⟨code,K',T',q',rfl,hk',hu,hs,hc⟩:=P.ex
 rcases hc with ⟨rfl,h1,rfl⟩ | ⟨m,hm,_,C,N,hC,hN,hcase⟩
 ·omega
 ·obtain rfl:l=m:=by omega
  have hCn:C=[]:=by
   cases C with
   | nil=>rfl
   | cons c C =>
    obtain ⟨c2,p,hp,hpt,hv,hh⟩:=(hC.ok c (by simp)).cr;refine absurd ⟨hv,?_⟩ (hf _ p c2 hp hpt)
    have e:∀ r,K.vI r=K.vr r:=fun r=>by unfold KV.vI KV.vr;rfl
    rw [<- e,<- e];exact hh
  have hNn:N=[]:=by
   cases N with
   | nil=>rfl
   | cons a N =>
    have:=(hN.iff a).1 (by simp);rw [hCn] at this
    simp at this
  rcases hcase with ⟨_,hf,_⟩ | ⟨rfl,_,K1,X,hnil,rfl⟩
  ·have h1:=h.ok.wf.ok.us
   have h2:=h.ok.wf.ok.lp;rw [hNn] at hf
   simp at hf;omega
  ·have e1:=hnil hCn
   subst e1;exact ⟨_,T',q',rfl,hk',rfl,rfl,hu⟩
theorem neq_node (w:World) (pv:Int) (pl ph:Int):Sem.run Tryz.prog (binOp .neq 115 (.agg #[.int .i64 pv,.int .u32 pl,.int .u32 ph]) (.agg #[.int .i64 pv,.int .u32 pl,.int .u32 ph])) w=.ok (.bool false) w:=by
 rw [run_neq_struct,run_equalIn_agg w 9999 _ _ _ (by kernel_rfl) (by kernel_rfl)]
 have p3:Tryz.prog.plainKey 3=true:=by kernel_rfl
 have p4:Tryz.prog.plainKey 54=true:=by kernel_rfl
 have a1:=run_part_plain (w:=w) p3 (xs:=#[.int .i64 pv,.int .u32 pl,.int .u32 ph]) (off:=0) (v:=.int .i64 pv) rfl;have a2:=run_part_plain (w:=w) p4 (xs:=#[.int .i64 pv,.int .u32 pl,.int .u32 ph]) (off:=1) (v:=.int .u32 pl) rfl;have a3:=run_part_plain (w:=w) p4 (xs:=#[.int .i64 pv,.int .u32 pl,.int .u32 ph]) (off:=2) (v:=.int .u32 ph) rfl;have b1:=run_equalIn_int (P:=Tryz.prog) w 9998 3 .i64 .i64 pv pv (by kernel_rfl);have b2:=run_equalIn_int (P:=Tryz.prog) w 9998 54 .u32 .u32 pl pl (by kernel_rfl);have b3:=run_equalIn_int (P:=Tryz.prog) w 9998 54 .u32 .u32 ph ph (by kernel_rfl)
 simp [Op.eqFields,Program.fieldsOf,a1,a2,a3,b1,b2,b3]
theorem interactFrees_walk (nI lI:Int) (ua va:Option Addr) (un uc vn vc:Nat) (Us Vs:List Int) (w:World) (hU:RowC w .u64 ua un uc Us) (hV:RowC w .i64 va vn vc Vs) :
  Calls Tryz.prog 14 #[.int .i64 nI,.slice ua un uc,.slice va vn vc,.int .i64 lI] w fun e w'=>e=.returned (.bool true)/\Upd [] w w':=by
 have HLA:=Lib.hid (laid14_spec nI ua va un uc vn vc Us Vs w hU hV);clear hU hV
 go_enter Tryz.func14,Tryz.ntmps14
 go_wp2_with fail;refine HLA.out.mono ?_;rintro e w1 hE;obtain ⟨b,H,rfl,hM,_,hU1⟩:=hE.ex;have h1:=Lib.hid (And.intro hM hU1);clear hE hM hU1;go_wp2_with fail;refine (awake14_spec _).mono ?_;rintro e w2 ⟨rfl,hu⟩;obtain ⟨K,_,⟨T,q,hk,rfl⟩,hxf,_,hC,htl⟩:=h1.out.1.keep0 hu;have HXF:=Lib.hid hxf;have HU2:=Lib.hid (h1.out.2.trans hu);have hvs:=hk.ok.wf.vs;have hol:=hk.ok.ord.pm.ol;have HK:=Lib.hid (And.intro hk htl)
 have HVA:Hid (∀ x,Upd [] w2 x->Calls Tryz.prog 54 #[.pointer (some ⟨b,0,none⟩)] x fun e w'=>e=.returned (.int .i64 K.vars)/\w'=x):=fun x u=>vars_at b K _ x ⟨T,q,HK.out.1.upd u (by simp),rfl⟩
 obtain ⟨n,hn⟩ : ∃ n,K.vars=n:=⟨_,rfl⟩;rw [hn] at hvs hol HVA;have HN:=Lib.hid hn;clear hu hk htl hC hn h1 hxf
 by_cases hn1:n=1
 ·subst hn1
  have HFB:=Lib.hid (free_bad b 0 K T q w2 HK.out.1 (.inr (by rw [HN.out];omega)));have e1:((1:Nat):Int)=1:=rfl;rw [e1] at HVA;clear hol;go_wp2_with fail;refine (HVA.out _ (Upd.refl _ _)).mono ?_;rintro e w3 ⟨rfl,rfl⟩;go_wp2_with fail;refine HFB.out.mono ?_;rintro e w4 ⟨rfl,hu⟩;have HU4:=Lib.hid (HU2.out.trans hu);clear hu;go_wp2_with fail;go_ret;exact ⟨rfl,HU4.out⟩
 ·obtain ⟨n1,hnn⟩ : ∃ n1,n=n1+1:=⟨n-1,by omega⟩
  have hq1:((n:Int) == 1)=false:=by simp;omega
  have hn1p:1<=n1:=by omega
  have hn64:n<=64:=by omega
  have hsub:IntKind.i64.wrap ((n:Int)-1)=(n1:Int):=by rw [IntWalk.i64_in _ (by omega)];omega
  have hsub2:(n:Int)-1=(n1:Int):=by omega
  have hn10:¬ ((n1:Int)=0):=by omega
  obtain ⟨l,hl,hl',hll⟩:=idx_at n1 lI (by omega) (by omega);obtain ⟨x,hx⟩ : ∃ x,K.order.getD l 0=x:=⟨_,rfl⟩;obtain ⟨y,hy⟩ : ∃ y,K.order.getD (l+1) 0=y:=⟨_,rfl⟩;have hoo1:=HK.out.1.ok.ord.pm.oo l (by rw [HN.out];omega);have hoo2:=HK.out.1.ok.ord.pm.oo (l+1) (by rw [HN.out];omega);rw [hx,HN.out] at hoo1;rw [hy,HN.out] at hoo2
  have hxy:x≠y:=fun e=>by rw [e] at hoo1;omega
  have HXY:=Lib.hid (And.intro hx (And.intro hy (And.intro hxy (And.intro hoo1.1 hoo2.1))));have hxn:x<n:=hoo1.1;have hyn:y<n:=hoo2.1;have HNN:=Lib.hid hnn;clear hn1 hx hy hoo1 hoo2 hxy hnn;go_wp2_with fail;refine (HVA.out _ (Upd.refl _ _)).mono ?_;rintro e w3 ⟨rfl,rfl⟩;go_wp2_with fail;refine (HVA.out _ (Upd.refl _ _)).mono ?_;rintro e w4 ⟨rfl,rfl⟩;go_wp2_with fail;refine (order_at_spec b K _ w4 ⟨T,q,HK.out.1,rfl⟩).mono ?_;rintro e w5 ⟨go,oc,rfl,hor,hu5⟩;have HOR:=Lib.hid (And.intro hor hu5);clear hor hu5;rw [hol] at HOR ⊢;go_wp2_with fail;refine (matrix_spec b K T q w5 (HK.out.1.upd HOR.out.2 (by simp))).mono ?_;rintro e w6 ⟨gm,ss,rfl,hSS,hMR⟩;rw [HN.out] at hMR ⊢;obtain ⟨MM,hMM⟩ : ∃ MM,ss.foldl (matRow n) (List.replicate n 0)=MM:=⟨_,rfl⟩;rw [hMM] at hMR;have HM:=Lib.hid (And.intro hMR (And.intro hSS hMM));have HU6:=Lib.hid (HOR.out.2.trans hMR.up);clear hMR hSS hMM;have HFR:=Lib.hid (free_spec b l K T q w6 (HK.out.1.upd HU6.out (by simp)) (by rw [HN.out];have:=HNN.out;omega) x y HXY.out.1 HXY.out.2.1);go_wp2_with fail;refine HFR.out.mono ?_;rintro e w7 hE;obtain ⟨B,rfl,hB,hu7⟩:=hE.ex;have HB:=Lib.hid hB;have HU7:=Lib.hid (HU6.out.trans hu7)
  have hor7:=row_keep HOR.out.1 fun k hk=>(HM.out.1.up.trans hu7).block k (HOR.out.1.lt k hk).2 (by simp)
  have hmr7:=row_keep HM.out.1.row fun k hk=>hu7.block k (HM.out.1.row.lt k hk).2 (by simp)
  have HR7:=Lib.hid (And.intro hor7 hmr7);clear hE hB hu7 HFR hor7 hmr7;go_wp2_with fail;refine (HVA.out _ HU7.out).mono ?_;rintro e w8 ⟨rfl,rfl⟩;go_wp2_with fail;refine (HVA.out _ HU7.out).mono ?_;rintro e w9 ⟨rfl,rfl⟩
  have hxo:(flatN K.order)[l]?=some (.int .i64 x):=by
   have h1:=HXY.out.1;rw [List.getD_eq_getElem?_getD] at h1;have h2:K.order[l]?=some (K.order[l]'(by omega)):=List.getElem?_eq_getElem (by omega);rw [h2] at h1
   simp at h1
   simp [flatN,h2,h1]
  have hyo:(flatN K.order)[l+1]?=some (.int .i64 y):=by
   have h1:=HXY.out.2.1;rw [List.getD_eq_getElem?_getD] at h1;have h2:K.order[l+1]?=some (K.order[l+1]'(by omega)):=List.getElem?_eq_getElem (by omega);rw [h2] at h1
   simp at h1
   simp [flatN,h2,h1]
  have o1:=row_cell HR7.out.1 hxo;have o2:=row_cell HR7.out.1 hyo
  have mm1:=row_cell HR7.out.2 (j:=x) (u:=.int .u64 (MM.getD x 0)) (by
   have h1:=HM.out.1.len
   simp only [flatU]
   rw [List.getElem?_map,List.getD_eq_getElem?_getD,List.getElem?_eq_getElem (by omega)];rfl)
  have hl1:(l:Int)<(n:Int):=by omega
  have hl2:(l:Int)+1<(n:Int):=by omega
  have hl3:IntKind.i64.wrap ((l:Int)+1)=(l:Int)+1:=IntWalk.i64_in _ (by omega)
  have hl4:(0:Int)<=(l:Int)+1:=by omega
  have hl5:((l:Int)+1).toNat=l+1:=by omega
  have hx1:(x:Int)<(n:Int):=by omega
  have hnn:((n:Int) != (n:Int))=false:=by simp
  clear hxo hyo
  cases B with
  | false =>
   have HBT:Hid ((bits BinOp.and IntKind.u64 (MM.getD x 0/2 ^ y) 1 == 1)=true):=by
    show bitT (MM.getD x 0) y=true
    have hb:=mat_bits HK.out.1.ok (HK.out.1.ti.uni HK.out.1.ok.wf) HM.out.2.1;have hnf:=mat_notfree HK.out.1.ok (HK.out.1.ti.uni HK.out.1.ok.wf) HM.out.2.1 (x:=x) (y:=y) (by rw [HN.out];exact hxn) (by rw [HN.out];exact hyn) HXY.out.2.2.1 (fun h=>by have:=HB.out.2 h;cases this);rw [HN.out,HM.out.2.2] at hb hnf;rw [bitT_nb (hb.u64 x hxn),hnf]
   have hmu:0<=MM.getD x 0/\MM.getD x 0<=18446744073709551615:=by
    have hb:=(mat_bits HK.out.1.ok (HK.out.1.ti.uni HK.out.1.ok.wf) HM.out.2.1).u64 x (by rw [HN.out];exact hxn);rw [HN.out,HM.out.2.2] at hb
    unfold U64 at hb;omega
   have hy64:(y:Int)<64:=by omega
   generalize MM.getD x 0=mx at *;obtain ⟨hmu1,hmu2⟩:=hmu;go_wp2_with fail
   go_quiet (fail)
   go_wp2_with fail;go_ret;exact ⟨by rw [<- HBT.out];rfl,HU2.out.trans (HU7.out.drewN _)⟩
  | true =>
   have HFU:Hid (K.FreeUV (x:Int) (y:Int)):=HB.out.1 rfl;clear mm1;go_wp2_with fail
   go_quiet (fail)
   have HUD:=Lib.hid (HU7.out.drewN nq);generalize w9.drewN nq=wD at *;clear o1 o2;obtain ⟨ul,hul⟩ : ∃ ul,(K.A.used:Int)-2=ul:=⟨_,rfl⟩;have HUL:=Lib.hid hul;have HLV:=Lib.hid (live_at b K _ wD ⟨T,q,HK.out.1.upd HUD.out (by simp),rfl⟩);rw [hul] at HLV;obtain ⟨wx,hwx⟩ : ∃ wx,(K.nodesV x).length=wx:=⟨_,rfl⟩;obtain ⟨wy,hwy⟩ : ∃ wy,(K.nodesV y).length=wy:=⟨_,rfl⟩;have HWX:=Lib.hid (And.intro hwx hwy);have HWD:=Lib.hid (width_ker b x K T q wD (HK.out.1.upd HUD.out (by simp)) (by rw [HN.out];exact hxn));rw [hwx] at HWD;clear hul hwx hwy;go_wp2_with fail;refine HLV.out.mono ?_;rintro e w10 ⟨rfl,rfl⟩;go_wp2_with fail;refine HWD.out.mono ?_;rintro e w11 ⟨rfl,hu⟩;have HU11:=Lib.hid (HUD.out.trans hu);have HWD2:=Lib.hid (width_ker b y K T q w11 (HK.out.1.upd HU11.out (by simp)) (by rw [HN.out];exact hyn));rw [HWX.out.2] at HWD2;clear hu HWD HLV;go_wp2_with fail;refine HWD2.out.mono ?_;rintro e w12 ⟨rfl,hu⟩;have HU12:=Lib.hid (HU11.out.trans hu);clear hu HWD2;go_wp2_with fail;refine (roots_at b K _ w12 ⟨T,q,HK.out.1.upd HU12.out (by simp),rfl⟩).mono ?_;rintro e wR ⟨rv,rfl,hrow,hu⟩;obtain ⟨ra,rc,rfl,_⟩:=row_nil_len hrow;have HUR:=Lib.hid (HU12.out.trans hu);have HSZ:Hid (w12.heap.size<=wR.heap.size):=hu.size
   have hrl:K.roots.length<=1048576:=by
    have h1:K.roots.length<=K.holds.length:=by
     unfold KV.roots KV.rootsI;exact Nat.le_trans (List.length_filter_le _ _) (by simp)
    have h2:=HK.out.1.ok.wf.len;have h3:=HK.out.1.ok.wf.ul;have h4:=HK.out.1.ok.wf.ok.lp;have h5:=HK.out.1.ok.wf.ok.pm;omega
   obtain ⟨rl,hrl2⟩ : ∃ rl,K.roots.length=rl:=⟨_,rfl⟩;rw [hrl2] at hrow hrl ⊢;have HRL:=Lib.hid hrl2;have HRW:=Lib.hid hrow
   have HRT:Hid (∀ i r,K.roots[i]?=some r->K.A.tk r=true):=fun i r h=>(HK.out.1.ok.wf.ht r (KV.mem_roots.1 (List.mem_of_getElem? h))).2
   obtain ⟨tn,hr0,hr1,hr2,hr3⟩:=info_parts Tryz.infoNode;have HIN:=Lib.hid (And.intro hr0 (And.intro hr1 (And.intro hr2 hr3)));clear hu hrow hrl2 hr0 hr1 hr2 hr3;go_wp2_with fail
   go_loopg [24,128] rl (fun gg s24 s128 wr=>∃ (i nc:Nat) (na:Option Addr),rl-i=gg/\i<=rl/\s24=.slice na i nc/\s128=.int .i64 i/\wr.ownsRow wR.heap.size 115 3 (.slice na i nc) i (flatN3 ((K.roots.take i).map K.plc))/\Upd [] wR wr)
   case atStart=>exact ⟨0,0,none,by omega,by omega,rfl,rfl,World.ownsRow_nil _ _ _ _,Upd.refl _ _⟩
   case round =>
    obtain ⟨i,nc,na,rfl,hi,rfl,rfl,hB2,hU⟩:=hrel
    by_cases hlt:i<rl
    ·have hil:(i:Int)<(rl:Int):=by omega
     obtain ⟨r,hr⟩ : ∃ r,K.roots[i]?=some r:=⟨_,List.getElem?_eq_getElem (by rw [HRL.out];exact hlt)⟩;have htk:=HRT.out i r hr;obtain ⟨hp,hpt⟩:=K.plc_at htk
     have hrow:=row_keep HRW.out fun k hk=>hU.block k (HRW.out.lt k hk).2 (by simp)
     obtain ⟨g,rfl⟩:=row_some hrow (by omega);have cf:=row_cell hrow (flatRefs_get hr);have HND:=Lib.hid (node_at_yes b r K _ (K.plc r) wr ⟨T,q,HK.out.1.upd (HUR.out.trans hU) (by simp),rfl⟩ hp hpt)
     have HTK:Hid (flatN3 ((K.roots.take (i+1)).map K.plc)=flatN3 ((K.roots.take i).map K.plc)++(K.plc r).node3):=by
      show _=_
      rw [List.take_add_one,hr,List.map_append,<- flatN3_snoc];rfl
     have HN3:Hid ((K.plc r).node3=[.int .i64 (K.plc r).var,.int .u32 (K.plc r).lo,.int .u32 (K.plc r).hi]):=rfl;generalize K.plc r=p at *;obtain ⟨pv,hpv⟩ : ∃ pv,p.var=pv:=⟨_,rfl⟩;obtain ⟨pl,hpl⟩ : ∃ pl,p.lo=pl:=⟨_,rfl⟩;obtain ⟨ph,hph⟩ : ∃ ph,p.hi=ph:=⟨_,rfl⟩;rw [hpv,hpl,hph] at HND HN3;have HB:=Lib.hid (And.intro hB2 hU);clear hB2 hU hrow htk hp hpt hr hpv hpl hph;go_wp2_with fail;refine HND.out.mono ?_;rintro e w13 ⟨rfl,hu⟩
     have HB13:Hid (w13.ownsRow wR.heap.size 115 3 (.slice na i nc) i (flatN3 ((K.roots.take i).map K.plc))):=row_keep HB.out.1 fun k hk=>hu.block k (HB.out.1.lt k hk).2 (by simp)
     have HU13:=Lib.hid (HB.out.2.trans hu);have hbx:=heap_alloc_new w13 (.cells #[.int .i64 pv,.int .u32 pl,.int .u32 ph] 115 (0,0));obtain ⟨w14,hw14⟩ : ∃ w14,w13.alloc (.cells #[.int .i64 pv,.int .u32 pl,.int .u32 ph] 115 (0,0))=w14:=⟨_,rfl⟩
     have hu14:Upd [] w13 w14:=by rw [<- hw14];exact (Upd.refl _ _).alloc _
     rw [hw14] at hbx;have HW14:=Lib.hid hw14
     have HB14:Hid (w14.ownsRow wR.heap.size 115 3 (.slice na i nc) i (flatN3 ((K.roots.take i).map K.plc))):=row_keep HB13.out fun k hk=>hu14.block k (HB13.out.lt k hk).2 (by simp)
     have HU14:=Lib.hid (HU13.out.trans hu14);have z0:=cell_at (j:=0) hbx rfl;have z1:=cell_at (j:=1) hbx rfl;have z2:=cell_at (j:=2) hbx rfl
     have HCB:Hid (∀ u,u∈[Value.int .i64 pv,Value.int .u32 pl,Value.int .u32 ph]->u.oneCell'=true):=by intro u hu;simp at hu;rcases hu with rfl | rfl | rfl <;> rfl
     have hbs:wR.heap.size<=(w14.alloc (.cells #[.int .i64 pv,.int .u32 pl,.int .u32 ph] 115 (0,0))).heap.size:=by rw [World.size_alloc];have:=HU14.out.size;omega
     clear hu hu14 hw14 hbx cf HND;go_upto_region 24 with fail;rw [HW14.out]
     go_wp2_with (at_builtin;go_must (refine wpList_append_lies _ rfl (.tmp 138) (.tmp 140) 113 rfl wR.heap.size 115 tn _ 3 16 Tryz.underlying113 HIN.out.1 HIN.out.2.1 HIN.out.2.2.1 HIN.out.2.2.2 (by rfl) (by decide) _ i (flatN3 ((K.roots.take i).map K.plc)) rfl (HB14.out.alloc _) ⟨w14.heap.size,0,none⟩ 1 1 [.int .i64 pv,.int .u32 pl,.int .u32 ph] rfl rfl ?c1 HCB.out (by omega) (by unfold maxLen;omega) (by omega) hbs _ rfl ?_))
     try case c1=>exact World.news_of_block (heap_alloc_new w14 (.cells #[.int .i64 pv,.int .u32 pl,.int .u32 ph] 115 (0,0)))
     intro g2 cap2 w15 hown hgr hat hlt6
     have hu15:Upd [] wR w15:=(HU14.out.alloc (.cells #[.int .i64 pv,.int .u32 pl,.int .u32 ph] 115 (0,0))).grown hgr fun k hk=>.inr (HB14.out.lt k hk).1
     have HREL:Hid (w15.ownsRow wR.heap.size 115 3 (.slice (some ⟨g2,0,none⟩) (i+1) cap2) (i+1) (flatN3 ((K.roots.take (i+1)).map K.plc))/\Upd [] wR w15):=by
      refine ⟨?_,hu15⟩;rw [HTK.out,HN3.out]
      simp only [<- List.map_take] at hown
      exact hown
     clear hown hgr hat hlt6 hu15 hbs z0 z1 z2;go_wp2_with fail
     go_roundg (rl-(i+1))
     case measure=>omega
     case rel=>exact ⟨i+1,cap2,some ⟨g2,0,none⟩,rfl,by omega,by simp,by simp,HREL.out.1,HREL.out.2⟩
    ·obtain rfl:i=rl:=by omega
     have hil:¬ ((i:Int)<(i:Int)):=by omega
     obtain ⟨wS,hwS⟩ : ∃ wS,wr=wS:=⟨_,rfl⟩;rw [hwS] at hB2 hU ⊢;clear hwS;have hUS:=HUR.out.trans hU;have HEX:=Lib.hid (exch_free b l K T q wS (HK.out.1.upd hUS (by simp)) (by have:=HK.out.2;omega) (by rw [HN.out];have:=HNN.out;omega) (by rw [HXY.out.1,HXY.out.2.1];exact HFU.out));have HBS:=Lib.hid (And.intro hB2 (row_keep HRW.out fun k hk=>hU.block k (HRW.out.lt k hk).2 (by simp)));have HUS:=Lib.hid hUS
     have HLK:Hid (∀ k,k∈q.all b->k<w12.heap.size/\¬ k<w.heap.size):=fun k hk=>⟨Nat.lt_of_lt_of_le (HK.out.1.mem.lt k hk) HU12.out.size,HXF.out k hk⟩
     have hSR:=hU.size;have HSR:=Lib.hid hSR;clear hB2 hU hUS hSR hlt;go_wp2_with fail;refine HEX.out.mono ?_;rintro e wE hE;obtain ⟨K',T',q',rfl,hk',hA,hv',hue⟩:=hE.ex
     have hnv:∀ v,K'.nodesV v=K.nodesV v:=fun v=>by
      unfold KV.nodesV KV.nodes KV.lives KV.vI;rw [hA]
     have HKE:=Lib.hid (And.intro hk' (And.intro hA hv'))
     have hbe:=row_keep HBS.out.1 fun k hk=>hue.block k (HBS.out.1.lt k hk).2 fun hm=>by
      have h1:=(HLK.out k hm).1;have h2:=(HBS.out.1.lt k hk).1;have h4:=HSZ.out;omega
     have hre:=row_keep HBS.out.2 fun k hk=>hue.block k (HBS.out.2.lt k hk).2 fun hm=>by
      have h1:=(HLK.out k hm).1;have h2:=(HBS.out.2.lt k hk).1;omega
     have HBE:=Lib.hid (And.intro hbe hre)
     have HUE:Hid (Upd [] w wE):=by
      have hu1:=HU2.out.trans HUS.out
      exact hu1.then hue fun k hk=>by
       have:=(HLK.out k hk).2;exact .inr (by omega)
     have HWE:=Lib.hid (width_ker b x K' T' q' wE hk' (by rw [hv',HN.out];exact hxn));rw [hnv,HWX.out.1] at HWE;have HNV:=Lib.hid hnv;clear hE hk' hA hv' hue hbe hre hnv HEX;go_wp2_with fail;refine HWE.out.mono ?_;rintro e wF ⟨rfl,hu⟩;have HUF:=Lib.hid hu;have HWF:=Lib.hid (width_ker b y K' T' q' wF (HKE.out.1.upd hu (by simp)) (by rw [HKE.out.2.2,HN.out];exact hyn));rw [HNV.out,HWX.out.2] at HWF;clear hu HWE;go_wp2_with fail;refine HWF.out.mono ?_;rintro e wG ⟨rfl,hu⟩;have HUG:=Lib.hid (HUF.out.trans hu);have HBG:=Lib.hid (And.intro (row_keep HBE.out.1 fun k hk=>HUG.out.block k (HBE.out.1.lt k hk).2 (by simp)) (row_keep HBE.out.2 fun k hk=>HUG.out.block k (HBE.out.2.lt k hk).2 (by simp)));clear hu HWF;go_wp2_with fail
     go_loopg [161] i (fun gg s161 wz=>∃ m:Nat,i-m=gg/\m<=i/\s161=.int .i64 m/\Upd [] wG wz)
     case atStart=>exact ⟨0,by omega,by omega,rfl,Upd.refl _ _⟩
     case round =>
      obtain ⟨m,rfl,hm,rfl,hUm⟩:=hrel
      by_cases hlt3:m<i
      ·have hml:(m:Int)<(i:Int):=by omega
       obtain ⟨r,hr⟩ : ∃ r,K.roots[m]?=some r:=⟨_,List.getElem?_eq_getElem (by rw [HRL.out];exact hlt3)⟩;have htk:=HRT.out m r hr;obtain ⟨hp,hpt⟩:=K.plc_at htk
       have hrow:=row_keep HBG.out.2 fun k hk=>hUm.block k (HBG.out.2.lt k hk).2 (by simp)
       obtain ⟨g,rfl⟩:=row_some hrow (by omega);have cf:=row_cell hrow (flatRefs_get hr)
       have hbw:=row_keep HBG.out.1 fun k hk=>hUm.block k (HBG.out.1.lt k hk).2 (by simp)
       obtain ⟨gn,rfl⟩:=row_some hbw (by omega);have hfl:=flatN3_at (l:=(K.roots.take i).map K.plc) (i:=m) (p:=K.plc r) (by rw [List.getElem?_map,List.getElem?_take_of_lt hlt3,hr];rfl);have y0:=row_cell hbw hfl.1;have y1:=row_cell hbw hfl.2.1;have y2:=row_cell hbw hfl.2.2;have HND:=Lib.hid (node_at_yes b r K' _ (K.plc r) wr ⟨T',q',HKE.out.1.upd (HUG.out.trans hUm) (by simp),rfl⟩ (by rw [HKE.out.2.1];exact hp) hpt);generalize K.plc r=p at *;obtain ⟨pv,hpv⟩ : ∃ pv,p.var=pv:=⟨_,rfl⟩;obtain ⟨pl,hpl⟩ : ∃ pl,p.lo=pl:=⟨_,rfl⟩;obtain ⟨ph,hph⟩ : ∃ ph,p.hi=ph:=⟨_,rfl⟩;rw [hpv] at HND y0;rw [hpl] at HND y1;rw [hph] at HND y2;have HUM:=Lib.hid hUm;have HY:=Lib.hid (And.intro y0 (And.intro y1 y2));clear hUm hrow htk hp hpt hr hpv hpl hph hbw hfl y0 y1 y2;go_wp2_with fail;refine HND.out.mono ?_;rintro e wH ⟨rfl,hu⟩;have HUH:=Lib.hid (HUM.out.trans hu);have hbx:=heap_alloc_new wH (.cells #[.int .i64 pv,.int .u32 pl,.int .u32 ph] 115 (0,0));have hua:=hu.alloc (.cells #[.int .i64 pv,.int .u32 pl,.int .u32 ph] 115 (0,0));have y0:=hua.cell0 HY.out.1;have y1:=hua.cell0 HY.out.2.1;have y2:=hua.cell0 HY.out.2.2;have z0:=cell_at (j:=0) hbx rfl;have z1:=cell_at (j:=1) hbx rfl;have z2:=cell_at (j:=2) hbx rfl;clear hu hua hbx cf HND;go_upto_region 34 with fail
       have q1:(m:Int)*3=((m*3:Nat):Int):=by omega
       have q2:¬ ((m:Int)<0):=by omega
       have hne:∀ w,_:=neq_node
       go_quiet (fail)
       have HUZ:Hid (Upd [] wG ((wH.alloc (.cells #[.int .i64 pv,.int .u32 pl,.int .u32 ph] 115 (0,0))).drewN nq)):=(HUH.out.alloc _).drewN _;clear y0 y1 y2 z0 z1 z2;go_wp2_with fail
       go_roundg (i-(m+1))
       case measure=>omega
       case rel=>exact ⟨m+1,rfl,by omega,by simp,HUZ.out⟩
      ·obtain rfl:m=i:=by omega
       have hml:¬ ((m:Int)<(m:Int)):=by omega
       have HLV:=Lib.hid (live_at b K' _ wr ⟨T',q',HKE.out.1.upd (HUG.out.trans hUm) (by simp),rfl⟩);rw [HKE.out.2.1,HUL.out] at HLV;have HUZ:Hid (Upd [] w wr):=HUE.out.trans (HUG.out.trans hUm);clear hUm
       have e1:(ul == ul)=true:=by simp
       have e2:((wx:Int) == (wx:Int))=true:=by simp
       have e3:((wy:Int) == (wy:Int))=true:=by simp
       go_wp2_with fail;refine HLV.out.mono ?_;rintro e wJ ⟨rfl,hj⟩;go_wp2_with fail;go_ret;exact ⟨rfl,HUZ.out⟩
end Go.Proofs.YtpfafhmkbcahhaaGreat
