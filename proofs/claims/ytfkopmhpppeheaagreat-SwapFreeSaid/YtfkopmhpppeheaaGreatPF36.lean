import Derived.Test.YtfkopmhpppeheaaGreatPF35
import Derived.Test.YtfkopmhpppeheaaGreatPF12
import Derived.Test.YtfkopmhpppeheaaGreatPF30
set_option maxRecDepth 100000
set_option maxHeartbeats 12800000
namespace Go.Proofs.YtfkopmhpppeheaaGreat
structure SeeF (K:KV) (u v:Nat) (D L:List Nat) (i:Nat) (fr:Bool):Prop where
 nd:D.Nodup
 lv:∀ r,r∈D->K.A.tk r=true
 cc:∀ r,r<2->r∈D
 tl:∀ r,r∈L->K.A.tk r=true
 il:i<=L.length
 dn:∀ j r,j<i->L[j]?=some r->r∈D
 kd:∀ (r:Nat) (p:PlaceV),r∈D->2<=r->K.A.list[r]?=some p->p.lo∈L/\p.hi∈L
 rt:∀ r,0<K.hold r->r∈L
 ln:L.length+4<=K.roots.length+2*D.length
 fr:fr=true->∀ r,r∈D->¬ K.Cross u v r
theorem SeeF.start {K:KV} (hk:K.Ok) (u v:Nat):SeeF K u v [0,1] K.roots 0 true:=by
 refine ⟨by simp,fun r hr=>?_,fun r hr=>?_,fun r hr=>hk.held_tk (KV.mem_roots.1 hr),Nat.zero_le _,fun j r hj=>by omega,fun r p hr h2=>?_,fun r hr=>KV.mem_roots.2 hr,by simp,fun _ r hr hc=>?_⟩
 ·have h:r<2:=by simp at hr;omega
  exact hk.tk01 h
 ·simp;omega
 ·have h:r<2:=by simp at hr;omega
  omega
 ·have h:r<2:=by simp at hr;omega
  have:=hc.1;omega
theorem SeeF.skip {K:KV} {u v:Nat} {D L:List Nat} {i r:Nat} {fr:Bool} (h:SeeF K u v D L i fr) (hr:L[i]?=some r) (hd:r∈D):SeeF K u v D L (i+1) fr :=
 ⟨h.nd,h.lv,h.cc,h.tl,(List.getElem?_eq_some_iff.1 hr).1,fun j s hj hs=>by
  by_cases e:j=i
  ·subst e;rw [hr] at hs;cases hs;exact hd
  ·exact h.dn j s (by omega) hs,h.kd,h.rt,h.ln,h.fr⟩
theorem SeeF.node {K:KV} {u v:Nat} {D L:List Nat} {i r:Nat} {fr fr':Bool} {p:PlaceV} (hk:K.Ok) (h:SeeF K u v D L i fr) (hr:L[i]?=some r) (hd:r∉D) (hp:K.A.list[r]?=some p) (hpt:p.taken=true) (hf:fr'=true->fr=true/\¬ (p.var=(u:Int)/\(K.vI p.lo=(v:Int)\/K.vI p.hi=(v:Int)))):SeeF K u v (D++[r]) (L++[p.lo,p.hi]) (i+1) fr':=by
 have hil:=(List.getElem?_eq_some_iff.1 hr).1
 have h2:2<=r:=by
  refine Classical.byContradiction fun h2=>hd (h.cc r (by omega))
 have hc:=hk.wf.cl r p h2 hp hpt;refine ⟨?_,fun s hs=>?_,fun s hs=>List.mem_append_left _ (h.cc s hs),fun s hs=>?_,by simp;omega,fun j s hj hs=>?_,fun s q hs hs2 hq=>?_,fun s hs=>List.mem_append_left _ (h.rt s hs),?_,fun hfr s hs hcr=>?_⟩
 ·rw [List.nodup_append]
  exact ⟨h.nd,by simp,fun a ha c hc=>by simp at hc;subst hc;rintro rfl;exact hd ha⟩
 ·rcases List.mem_append.1 hs with hs | hs
  ·exact h.lv s hs
  ·simp at hs;subst hs;exact ArenaV.tk_iff.2 ⟨p,hp,hpt⟩
 ·rcases List.mem_append.1 hs with hs | hs
  ·exact h.tl s hs
  ·simp at hs
   rcases hs with rfl | rfl
   ·exact hc.1
   ·exact hc.2
 ·rw [List.getElem?_append_left (by omega)] at hs
  by_cases e:j=i
  ·subst e;rw [hr] at hs;cases hs;simp
  ·exact List.mem_append_left _ (h.dn j s (by omega) hs)
 ·rcases List.mem_append.1 hs with hs | hs
  ·have:=h.kd s q hs hs2 hq
   exact ⟨List.mem_append_left _ this.1,List.mem_append_left _ this.2⟩
  ·simp at hs;subst hs
   rw [hp] at hq;cases hq
   simp
 ·have:=h.ln
  rw [List.length_append,List.length_append]
  simp;omega
 ·obtain ⟨f1,f2⟩:=hf hfr
  rcases List.mem_append.1 hs with hs | hs
  ·exact h.fr f1 s hs hcr
  ·simp at hs;subst hs
   obtain ⟨_,q,hq,_,hv,hch⟩:=hcr
   rw [hp] at hq;cases hq
   exact f2 ⟨hv,hch⟩
theorem SeeF.all {K:KV} {u v:Nat} {D L:List Nat} {fr:Bool} (hk:K.Ok) (h:SeeF K u v D L L.length fr) {r:Nat} (ht:K.A.tk r=true):r∈D:=by
 have hin:∀ r,r∈L->r∈D:=fun r hr=>by
  obtain ⟨j,hj⟩:=List.getElem?_of_mem hr;exact h.dn j r (List.getElem?_eq_some_iff.1 hj).1 hj
 by_cases h2:2<=r
 ·have hr:=KV.live_reach hk.wf hk.pos hk.ord _ r h2 ht (Nat.le_refl _)
  refine hin r ?_;clear h2 ht
  induction hr with
  | root h0=>exact h.rt _ h0
  | lo hq h2 hp hpt ih=>exact (h.kd _ _ (hin _ ih) h2 hp).1
  | hi hq h2 hp hpt ih=>exact (h.kd _ _ (hin _ ih) h2 hp).2
 ·exact h.cc r (by omega)
theorem SeeF.free {K:KV} {l:Nat} {D L:List Nat} (hk:K.Ok) (h:SeeF K (K.order.getD l 0) (K.order.getD (l+1) 0) D L L.length true):FreeL K l :=
 fun r hr=>h.fr rfl r (h.all hk (Nb.cross_tk hr)) hr
theorem SeeF.lens {K:KV} {u v:Nat} {D L:List Nat} {i:Nat} {fr:Bool} (h:SeeF K u v D L i fr) (hk:K.Ok):D.length<=K.A.used/\L.length<=3*K.A.used:=by
 have h1:=KV.used_ge hk.wf h.nd h.lv
 have h2:=KV.used_ge hk.wf K.roots_nodup fun r hr=>hk.held_tk (KV.mem_roots.1 hr)
 have:=h.ln;exact ⟨h1,by omega⟩
structure FreeA (K:KV) (l:Nat) (K':KV):Prop where
 live:((K'.A.used:Int)-2)=(K.A.used:Int)-2-(K.nodesV (K.order.getD l 0)).length-(K.nodesV (K.order.getD (l+1) 0)).length+(K'.nodesV (K.order.getD l 0)).length+(K'.nodesV (K.order.getD (l+1) 0)).length
 wid:FreeL K l->∀ v,(K'.nodesV v).length=(K.nodesV v).length
theorem KV.nodesV_swapK (K:KV) (l v:Nat):(K.swapK l).nodesV v=K.nodesV v:=by
 unfold KV.nodesV KV.nodes KV.lives KV.vI KV.swapK;rfl
theorem KV.nodesV_addT (K:KV) (l v:Nat):(K.addT l).nodesV v=K.nodesV v:=by
 unfold KV.nodesV KV.nodes KV.lives KV.vI KV.addT;rfl
theorem FreeA.of {K K':KV} {l:Nat} (h:XP K l K') (hf:FreeL K l->∀ v,K'.nodesV v=K.nodesV v):FreeA K l K':=by
 refine ⟨?_,fun f v=>by rw [hf f]⟩;have:=h.live rfl rfl;omega
theorem ExL.yes {K K':KV} {l:Nat} (hk:K.Ok) (hu:K.Uni) (hk':K'.Ok) (hu':K'.Uni) (hl:l+2<=K.vars) (h:∃ K1,Exch K l K1/\(FreeL K l->K1=K.swapK l)/\K'=K1.addT l):XP K l K'/\FreeA K l K':=by
 obtain ⟨K1,X,hf,rfl⟩:=h;have h:XP K l (K1.addT l):=⟨hk,hu,hk',hu',hl,X.bare hk' rfl rfl rfl rfl rfl⟩;exact ⟨h,.of h fun f v=>by rw [KV.nodesV_addT,hf f,KV.nodesV_swapK]⟩
theorem XP.back {K K1 K2:KV} {l:Nat} (h:XP K l K1) (h2:XP K1 l K2):K2.order=K.order/\K2.A.used=K.A.used:=by
 have ol:=h.ok.ord.pm.ol;have hl:=h.hl
 have e3:K2.order=K.order:=by rw [h2.ex.od,h.ex.od,turnL_turnL (by omega)]
 refine ⟨e3,home_eq h.ok h.un h2.ok' h2.un' (h2.ex.vr.trans h.ex.vr) e3 (fun r=>(h2.ex.hd r).trans (h.ex.hd r)) fun r hr z=>?_⟩;rw [h2.held (by rw [h.ex.hd];exact hr)];exact h.held hr z
end Go.Proofs.YtfkopmhpppeheaaGreat
namespace Go.Proofs.YtfkopmhpppeheaaGreat
open Go.RowKit Go.Maps Go.ChangeMaps Go.WideShapes
theorem zaf6 (b v:Nat) (K:KV) (T:List DM) (q:KPtr) (w:World) (hk:KerIn w b K T q) (hv:v<K.vars) :
  Calls Tryz.prog 49 #[.pointer (some ⟨b,0,none⟩),.int .i64 v] w fun e w'=>e=.returned (.tuple #[.int .i64 (K.nodesV v).length,.int .i64 0])/\Upd [] w w':=by
 have hlt:v<T.length:=by rw [hk.ti.len];omega
 have hT:T[v]?=some T[v]:=List.getElem?_eq_getElem hlt;generalize T[v]=D at hT;obtain ⟨g,cap,m,t1,t2,t3,c0,c1,hown⟩:=hk.mem.tab.cells hT;have hsz:=hk.ti.sizeV hk.ok.wf hT (hown.canon nodeKeyed) (hown.tidy nodeKeyed);have:=width_at b v K T q D w hk (by omega) hT;rw [hsz] at this;exact this
theorem zab6 (b1 b2:Nat) (v1 v2:Value) (l:List Nat) (w:World) (h1:w.ownsRow b1 3 1 v1 l.length (flatN l)) (h2:w.ownsRow b2 3 1 v2 l.length (flatN l)) (hl:l.length<=1048576) :
  Calls Tryz.prog 47 #[v1,v2] w fun e w'=>e=.returned (.bool true)/\Upd [] w w':=by
 obtain ⟨a1,c1,rfl,hg1⟩:=row_nil_len h1;obtain ⟨a2,c2,rfl,hg2⟩:=row_nil_len h2;have H1:=Lib.hid h1;have H2:=Lib.hid h2;clear h1 h2
 go_enter Tryz.func47,Tryz.ntmps47
 go_wp2_with fail
 go_loopg [13] l.length (fun g s13 wr=>∃ i:Nat,l.length-i=g/\i<=l.length/\s13=.int .i64 i/\Upd [] w wr)
 case atStart=>exact ⟨0,by omega,by omega,rfl,Upd.refl _ _⟩
 case round =>
  obtain ⟨i,rfl,hi,rfl,hU⟩:=hrel
  by_cases hlt:i<l.length
  ·obtain ⟨g1,rfl⟩:=row_some H1.out (by omega)
   obtain ⟨g2,rfl⟩:=row_some H2.out (by omega)
   have hil:(i:Int)<(l.length:Int):=by omega
   have x1:=rowI_get (row_keep H1.out fun k hk=>hU.block k (H1.out.lt k hk).2 (by simp)) hlt;have x2:=rowI_get (row_keep H2.out fun k hk=>hU.block k (H2.out.lt k hk).2 (by simp)) hlt;generalize l.getD i 0=X at *;have HU:=Lib.hid hU;clear hU
   have hp0:(0:Int)<=(i:Int):=by omega
   go_wp2_with fail
   go_quiet (fail)
   go_wp2_with fail
   go_roundg (l.length-(i+1))
   case measure=>omega
   case rel=>exact ⟨i+1,rfl,by omega,by simp,HU.out.drewN _⟩
  ·obtain rfl:i=l.length:=by omega
   have hil:¬ ((l.length:Int)<(l.length:Int)):=by omega
   have HU:=Lib.hid hU;clear hU;go_wp2_with fail;go_ret;exact ⟨rfl,HU.out⟩
theorem zaa6 (b v:Nat) (K:KV) (F:List Nat) (w:World) (h:KerAt w b K F) (hv:v<K.vars) :
  Calls Tryz.prog 49 #[.pointer (some ⟨b,0,none⟩),.int .i64 v] w fun e w'=>e=.returned (.tuple #[.int .i64 (K.nodesV v).length,.int .i64 0])/\Upd [] w w':=by
 obtain ⟨T,q,hk,rfl⟩:=h;exact zaf6 b v K T q w hk hv
structure FreeR (b mb:Nat) (K:KV) (F:List Nat) (w0:World) (u v:Nat) (D L:List Nat) (i:Nat) (fr:Bool) (lv:Value) (wr:World):Prop where
 sm:∃ S,SeenOk D S/\wr.ownsMap Tryz.prog 77 (plainElem (H:=Unit) Tryz.prog 3) mb (Maps.size S) S
 row:wr.ownsRow w0.heap.size 77 1 lv L.length (flatRefs L)
 nb:∀ k,lv.ownBlock=some k->k≠mb
 up:Upd [] w0 wr
 see:SeeF K u v D L i fr
theorem zae6 (w0 w5:World) (lv:Value) (b u v:Nat) (K:KV) (F:List Nat) (hK:K.Ok) (hr:w5.ownsRow w0.heap.size 77 1 lv K.roots.length (flatRefs K.roots)) (hu:Upd [] w0 w5) :
  ∃ w6 w7:World,(Instr.mapUpdate 114 (.map (some w5.heap.size)) (.int .u32 0) (.int .i64 1)).run Tryz.prog (w5.alloc (.map #[] 0))=.ok () w6 /\
   (Instr.mapUpdate 114 (.map (some w5.heap.size)) (.int .u32 1) (.int .i64 1)).run Tryz.prog w6=.ok () w7/\FreeR b w5.heap.size K F w0 u v [0,1] K.roots 0 true lv w7:=by
 have h0:=own_emptyR (heap_alloc_new w5 (.map #[] 0));obtain ⟨w6,run6,own6,t6⟩:=h0.store refKeyed Tryz.underlying114 (by unfold maxLen;omega) (keyOf_int_mk Tryz.underlying77 (wfR (n:=0) (by omega))) (plainElem_int (H:=Unit) Tryz.underlying3 (wfI (n:=1) (by omega) (by omega)));have hs1:=SeenOk.nil.put (r:=0) (by omega);have own6':=own_tight own6;obtain ⟨w7,run7,own7,t7⟩:=own6'.store refKeyed Tryz.underlying114 (seen_size hs1 (own6'.canon refKeyed) (own6'.tidy refKeyed)) (keyOf_int_mk Tryz.underlying77 (wfR (n:=1) (by omega))) (plainElem_int (H:=Unit) Tryz.underlying3 (wfI (n:=1) (by omega) (by omega)));have hs2:=hs1.put (r:=1) (by omega);have u1:Upd [w5.heap.size] w5 w7:=(((Upd.refl [w5.heap.size] w5).alloc (.map #[] 0)).trans (upd_turned t6)).trans (upd_turned t7);refine ⟨w6,w7,run6,run7,⟨_,hs2,own_tight own7⟩,row_keep hr fun k hk=>u1.block k (hr.lt k hk).2 (by have:=(hr.lt k hk).2;simp;omega),fun k hk=>by have:=(hr.lt k hk).2;omega,hu.then u1 fun k hk=>.inr (by simp at hk;subst hk;exact hu.size),SeeF.start hK u v⟩
theorem KV.Ok.used_20 {K:KV} (hk:K.Ok):K.A.used<=1048576:=by
 have:=KV.used_le hk.wf (l:=List.range 1048576) fun x hx=>List.mem_range.2 (hk.ref_lt hx)
 simpa using this
theorem KV.Ok.used_two {K:KV} (hk:K.Ok):2<=K.A.used:=by
 have:=hk.nodes_len;omega
theorem KV.Ok.nodesV_le {K:KV} (hk:K.Ok) (v:Nat):(K.nodesV v).length<=K.A.used:=by
 have h1:=List.length_filter_le (fun r=>decide (K.vI r=(v:Int))) K.nodes;have h2:=hk.nodes_len
 unfold KV.nodesV;omega
theorem FreeR.note {b mb:Nat} {K:KV} {F:List Nat} {w0 wr:World} {u v i r:Nat} {D L:List Nat} {fr:Bool} {lv:Value} (h:FreeR b mb K F w0 u v D L i fr lv wr) (hm:w0.heap.size<=mb) (hr:r<1048576) :
  (∃ c:Int,(Instr.lookup 114 (.map (some mb)) (.int .u32 r) false).run Tryz.prog wr=.ok (.int .i64 c) wr/\(r∈D->c=1)/\(r∉D->c=0)) /\
  ∃ w9:World,(Instr.mapUpdate 114 (.map (some mb)) (.int .u32 r) (.int .i64 1)).run Tryz.prog wr=.ok () w9/\Upd [] w0 w9/\Upd [mb] wr w9 /\
   (∃ S,SeenOk (D++[r]) S/\w9.ownsMap Tryz.prog 77 (plainElem (H:=Unit) Tryz.prog 3) mb (Maps.size S) S)/\w9.ownsRow w0.heap.size 77 1 lv L.length (flatRefs L):=by
 obtain ⟨S,hS,hM⟩:=h.sm;refine ⟨?_,?_⟩
 ·obtain ⟨c,hrun,hat,_⟩:=hM.lookup_int refKeyed Tryz.underlying114 Tryz.underlying3 (zeroInt _) (keyOf_int_mk Tryz.underlying77 (wfR (n:=r) (by omega)))
  refine ⟨c,hrun,fun hd=>?_,fun hd=>?_⟩
  ·have:=hS.at_ r (by omega) ((hS.has r (by omega)).2 hd) (.lit (.int .i64 0))
   rw [this] at hat
   simpa using hat.symm
  ·have hno:Maps.has S (.int .u32 r)=false:=by
    cases e:Maps.has S (.int .u32 r) with
    | false=>rfl
    | true=>exact absurd ((hS.has r (by omega)).1 e) hd
   rw [atKey_of_not_has hno] at hat
   simpa using hat.symm
 ·obtain ⟨w9,hrun9,hown,hturn⟩:=hM.store refKeyed Tryz.underlying114 (seen_size hS (hM.canon refKeyed) (hM.tidy refKeyed)) (keyOf_int_mk Tryz.underlying77 (wfR (n:=r) (by omega))) (plainElem_int (H:=Unit) Tryz.underlying3 (wfI (n:=1) (by omega) (by omega)))
  have hu9:=upd_turned hturn;exact ⟨w9,hrun9,h.up.then hu9 fun k hk=>.inr (by simp at hk;subst hk;exact hm),hu9,⟨_,hS.put hr,own_tight hown⟩,row_keep h.row fun k hk=>hu9.block k (h.row.lt k hk).2 (by simp;exact h.nb k hk)⟩
theorem swapFree_walk (a0 a2:Int) (ga:Option Addr) (gn gc:Nat) (w:World) (hG:GatesAt w ga gn) :
  Calls Tryz.prog 10 #[.int .i64 a0,.slice ga gn gc,.int .i64 a2] w fun e w'=>e=.returned (.bool true)/\Upd [] w w':=by
 have hmm:=@run_makeMap Tryz.prog;obtain ⟨tr,r1,r2,r3,r4⟩:=info_parts Tryz.infoRefS;have HIR:=Lib.hid (And.intro r1 (And.intro r2 (And.intro r3 r4)));have HG:=Lib.hid hG;clear hG r1 r2 r3 r4
 go_enter Tryz.func10,Tryz.ntmps10
 go_wp2_with fail;refine (awake15_spec _).mono ?_;rintro e w1 ⟨rfl,hu1⟩;have HU1:=Lib.hid hu1;clear hu1;go_wp2_with fail;refine (much15_spec a0 ga none gn gc 0 0 w1 HG.out.mx (by unfold maxLen;omega)).mono ?_;rintro e w2 ⟨rfl,hu2⟩;have HU2:Hid (Upd [] w w2):=HU1.out.trans hu2;clear hu2 HU1;obtain ⟨B,hB⟩ : ∃ B,muchB a0 gn 0=B:=⟨_,rfl⟩;rw [hB]
 cases B with
 | false =>
  clear hB;go_wp2_with fail;go_ret;exact ⟨rfl,HU2.out⟩
 | true =>
  obtain ⟨h1,h64,h40⟩ : 1<=a0/\a0<=64/\gn<=40:=by
   unfold muchB at hB;simp at hB;omega
  clear hB
  by_cases h2:a0<2
  ·go_wp2_with fail
   go_ret;exact ⟨rfl,HU2.out⟩
  ·obtain ⟨n,rfl⟩ : ∃ n:Nat,a0=(n:Int):=⟨a0.toNat,by omega⟩
   have hn2:2<=n:=by omega
   have hn64:n<=64:=by omega
   obtain ⟨l,hl,hm⟩:=mod15_all a2 (n-1) (by omega) (by omega)
   have hnm:((n-1:Nat):Int)=(n:Int)-1:=by omega
   rw [hnm] at hm;have HM:=Lib.hid hm;have HBS:=Lib.hid (built_spec n ga gn gc w2 (by omega) hn64 (HG.out.keep0 HU2.out) h40);clear hm hnm h1 h64;go_wp2_with fail;refine HBS.out.mono ?_;rintro e w3 hE;obtain ⟨b,K,F,refs,bv,rfl,hK,hBl,hbr,_,hFr,hu3⟩:=hE.ex;obtain ⟨oa,oc,rfl,_⟩:=row_nil_len hbr;have HU3:Hid (Upd [] w w3):=HU2.out.trans hu3;have hvn:=hBl.vr;have htr:=hBl.tr;have hol:=hK.ok.ord.pm.ol;rw [hvn] at hol
   have HFR:Hid (∀ k,k∈F->w.heap.size<=k):=fun k hk=>by have:=hFr k hk;have:=HU2.out.size;omega
   have hl2:l+2<=K.vars:=by omega
   have HK:=Lib.hid (And.intro hK (And.intro hvn (And.intro htr hl2)));clear hE hK hBl hbr hFr hu3 HBS HU2 hvn htr;go_wp2_with fail;refine (HM.out w3).mono ?_;rintro e w3' ⟨rfl,rfl⟩;go_wp2_with fail;refine (order_at_spec b K F w3' HK.out.1).mono ?_;rintro e w4 ⟨og,ocp,rfl,hor,hu4⟩;rw [hol] at hor ⊢
   have hln:(l:Int)+1<(n:Int):=by omega
   have hln0:(l:Int)<(n:Int):=by omega
   have c0:=rowI_get hor (j:=l) (by rw [hol];omega);have c1:=rowI_get hor (j:=l+1) (by rw [hol];omega);obtain ⟨u,hu⟩ : ∃ u,K.order.getD l 0=u:=⟨_,rfl⟩;obtain ⟨v,hv⟩ : ∃ v,K.order.getD (l+1) 0=v:=⟨_,rfl⟩;rw [hu] at c0;rw [hv] at c1;have hK4:=HK.out.1.upd hu4 (by simp);have HUV:Hid (K.order.getD l 0=u/\K.order.getD (l+1) 0=v):=⟨hu,hv⟩;have HO4:Hid (w4.ownsRow w3'.heap.size 3 1 (.slice (some ⟨og,0,none⟩) n ocp) n (flatN K.order)):=hor;have HU4:Hid (Upd [] w w4):=HU3.out.trans hu4;have HK4:Hid (KerAt w4 b K F):=hK4;clear hor hu4 hu hv hK4 HU3;go_wp2_with fail
   go_quiet (fail)
   go_wp2_with fail;refine (roots_at b K F _ (HK4.out.upd (by first | exact Upd.refl [] w4 | exact (Upd.refl [] w4).drew | exact (Upd.refl [] w4).drewN _) (by simp))).mono ?_;rintro e w5 ⟨rv,rfl,hrr,hu5⟩;obtain ⟨ra,rc,rfl,_⟩:=row_nil_len hrr;have hu45:Upd [] w4 w5:=Upd.trans (by first | exact Upd.refl [] w4 | exact (Upd.refl [] w4).drew | exact (Upd.refl [] w4).drewN _) hu5
   have hrr4:w5.ownsRow w4.heap.size 77 1 (.slice ra K.roots.length rc) K.roots.length (flatRefs K.roots):=by
    have e:∀ z:World,z.heap.size=w4.heap.size->w5.ownsRow z.heap.size 77 1 (.slice ra K.roots.length rc) K.roots.length (flatRefs K.roots)->w5.ownsRow w4.heap.size 77 1 (.slice ra K.roots.length rc) K.roots.length (flatRefs K.roots):=fun z hz h=>by rw [hz] at h;exact h
    exact e _ (by simp) hrr
   obtain ⟨w6,w7,run6,run7,hFR⟩:=zae6 w4 w5 _ b u v K F HK4.out.ok hrr4 hu45;have HFR0:=Lib.hid hFR;have HMB:Hid (w4.heap.size<=w5.heap.size):=hu45.size;obtain ⟨RL,hRL⟩ : ∃ RL,K.roots.length=RL:=⟨_,rfl⟩;have HRL:=Lib.hid hRL;rw [hRL];clear hrr hu5 hu45 hrr4 hFR hRL;go_upto_region 16 with fail;generalize w5.heap.size=mb at *;clear run6 run7 c0 c1;go_wp2_with fail
   go_loopg [13,14,16] (3*(K.A.used-2)+K.roots.length) (fun g s13 s14 s16 wr=>∃ (i:Nat) (D L:List Nat) (fr:Bool),3*(K.A.used-D.length)+(L.length-i)=g/\s13=.bool fr/\s16=.int .i64 i/\FreeR b mb K F w4 u v D L i fr s14 wr)
   case atStart=>exact ⟨0,[0,1],K.roots,true,by simp,rfl,rfl,by rw [<- HRL.out];exact HFR0.out⟩
   case round =>
    obtain ⟨i,D,L,fr,rfl,rfl,rfl,hR⟩:=hrel;have hlens:=hR.see.lens HK4.out.ok;have hus:=HK4.out.ok.used_20;obtain ⟨ta,tc,rfl,_⟩:=row_nil_len hR.row;have hil0:=hR.see.il
    by_cases hlt:i<L.length
    ·obtain ⟨r,hr⟩ : ∃ r,L[i]?=some r:=⟨_,List.getElem?_eq_getElem hlt⟩
     obtain ⟨tg,rfl⟩:=row_some hR.row (by omega);have cr:=row_cell hR.row (flatRefs_get hr);have htk:=hR.see.tl r (List.mem_of_getElem? hr);have hrl:=HK4.out.ok.ref_lt htk;obtain ⟨⟨c,hrun,hc1,hc0⟩,w9,hrun9,hu9,hum9,hsm9,hrow9⟩:=hR.note HMB.out hrl
     have hil:(i:Int)<(L.length:Int):=by omega
     by_cases hd:r∈D
     ·obtain rfl:c=1:=hc1 hd
      have HQ:Hid (FreeR b mb K F w4 u v D L (i+1) fr (.slice (some ⟨tg,0,none⟩) L.length tc) wr):=⟨hR.sm,hR.row,hR.nb,hR.up,hR.see.skip hr hd⟩;clear hR hr hc1 hc0 hrun9 hu9 hum9 hsm9 hrow9 hd;go_wp2_with fail
      go_roundg (3*(K.A.used-D.length)+(L.length-(i+1)))
      case measure=>omega
      case rel=>exact ⟨i+1,D,L,fr,rfl,rfl,by simp,HQ.out⟩
     ·obtain rfl:c=0:=hc0 hd
      have h2r:2<=r:=Classical.byContradiction fun h2=>hd (hR.see.cc r (by omega))
      obtain ⟨p,pv,hp,hpt,hpv,hpvl,tlo,thi,_⟩:=HK4.out.ok.place h2r htk;have hN:=node_at_yes b r K F p w9 (HK4.out.upd hu9 (by simp)) hp hpt;rw [hpv] at hN
      have HSEE:Hid (∀ f':Bool,(f'=true->fr=true/\¬ (pv=u/\(K.vI p.lo=(v:Int)\/K.vI p.hi=(v:Int))))->SeeF K u v (D++[r]) (L++[p.lo,p.hi]) (i+1) f'):=fun f' hf=>hR.see.node HK4.out.ok hr hd hp hpt fun e=>⟨(hf e).1,by rw [hpv];have:=(hf e).2;omega⟩
      have hdl:D.length+1<=K.A.used:=by
       have:=(HSEE.out false (fun e=>nomatch e)).lens HK4.out.ok
       simp at this;omega
      have HND:Hid (∀ (z:World) (ch:Nat),Upd [] w4 z->K.A.tk ch=true->∃ q:PlaceV,K.vI ch=q.var/\Calls Tryz.prog 48 #[.pointer (some ⟨b,0,none⟩),.int .u32 ch] z fun e w'=>e=.returned (.tuple #[.agg #[.int .i64 q.var,.int .u32 q.lo,.int .u32 q.hi],.int .i64 0])/\Upd [] z w'):=fun z ch uz tc=>by
       obtain ⟨q,hq,hqt⟩:=ArenaV.tk_iff.1 tc;exact ⟨q,KV.vI_at hq,node_at_yes b ch K F q z (HK4.out.upd uz (by simp)) hq hqt⟩
      obtain ⟨lo,hlo⟩ : ∃ lo,p.lo=lo:=⟨_,rfl⟩;obtain ⟨hi,hhi⟩ : ∃ hi,p.hi=hi:=⟨_,rfl⟩;rw [hlo,hhi] at hN HSEE;rw [hlo] at tlo;rw [hhi] at thi;have HT:=Lib.hid (And.intro tlo thi);have HNB:=Lib.hid hR.nb;have H9:=Lib.hid (And.intro hu9 (And.intro hsm9 hrow9));have HN:=Lib.hid hN;clear hR hr hc1 hc0 hu9 hum9 hsm9 hrow9 hd hp hpt hpv tlo thi hN hlo hhi htk;go_wp2_with fail;refine HN.out.mono ?_;rintro e wa ⟨rfl,hua⟩;have hba:=heap_alloc_new wa (.cells #[.int .i64 pv,.int .u32 lo,.int .u32 hi] 116 (0,0));have hub:Upd [] w9 (wa.alloc (.cells #[.int .i64 pv,.int .u32 lo,.int .u32 hi] 116 (0,0))):=hua.alloc _;obtain ⟨wb,hwb⟩ : ∃ wb,wa.alloc (.cells #[.int .i64 pv,.int .u32 lo,.int .u32 hi] 116 (0,0))=wb:=⟨_,rfl⟩;rw [hwb] at hba hub;have HWB:=Lib.hid hwb
      have HBA:Hid (∀ z,Upd [] wb z->z.cell? ⟨wa.heap.size,0,none⟩=some (.int .i64 pv)/\z.cell? ⟨wa.heap.size,1,none⟩=some (.int .u32 lo)/\z.cell? ⟨wa.heap.size,2,none⟩=some (.int .u32 hi)):=fun z uz =>
       ⟨uz.cell0 (cell_at hba rfl),uz.cell0 (cell_at hba rfl),uz.cell0 (cell_at hba rfl)⟩
      have HUB:=Lib.hid hub;obtain ⟨n0,n1,n2⟩:=HBA.out _ (Upd.refl _ _);have hbs:=heap_alloc_new wb (.cells #[.int .u32 lo,.int .u32 hi] 77 (0,0));have hus':Upd [] wb (wb.alloc (.cells #[.int .u32 lo,.int .u32 hi] 77 (0,0))):=(Upd.refl _ _).alloc _;obtain ⟨ws,hws⟩ : ∃ ws,wb.alloc (.cells #[.int .u32 lo,.int .u32 hi] 77 (0,0))=ws:=⟨_,rfl⟩;rw [hws] at hbs hus';have HWS:=Lib.hid hws
      have HBS:Hid (∀ z,Upd [] ws z->z.cell? ⟨wb.heap.size,0,none⟩=some (.int .u32 lo)/\z.cell? ⟨wb.heap.size,1,none⟩=some (.int .u32 hi)):=fun z uz =>
       ⟨uz.cell0 (cell_at hbs rfl),uz.cell0 (cell_at hbs rfl)⟩
      have HUS:=Lib.hid hus';clear hua hba hub hwb hbs hus' hws;go_upto_region 23 with fail;rw [HWB.out];go_upto_region 26 with fail;rw [HWS.out];generalize wa.heap.size=nb at *;generalize wb.heap.size=sb at *;clear n0 n1 n2
      go_loopg [13,110] 2 (fun g s13 s110 wr=>∃ (j:Nat) (f2:Bool),2-j=g/\j<=2/\s13=.bool f2/\s110=.int .i64 j/\Upd [] ws wr/\(f2=true->fr=true/\(0<j->¬ (pv=u/\K.vI lo=(v:Int)))/\(1<j->¬ (pv=u/\K.vI hi=(v:Int)))))
      case atStart=>exact ⟨0,fr,by omega,by omega,rfl,rfl,Upd.refl _ _,fun e=>⟨e,fun h=>by omega,fun h=>by omega⟩⟩
      case round =>
       obtain ⟨j,f2,rfl,hj,rfl,rfl,huz,hf2⟩:=hrel
       by_cases hj2:j<2
       ·obtain ⟨ch,hch⟩ : ∃ ch,(if j=0 then lo else hi)=ch:=⟨_,rfl⟩
        obtain ⟨s0,s1⟩:=HBS.out _ huz
        have hj01:j=0\/j=1:=by omega
        have cc:wr.cell? ⟨sb,j,none⟩=some (.int .u32 ch):=by
         rcases hj01 with rfl | rfl
         ·rw [<- hch];exact s0
         ·rw [<- hch];exact s1
        have htc:K.A.tk ch=true:=by
         rcases hj01 with rfl | rfl
         ·rw [<- hch];exact HT.out.1
         ·rw [<- hch];exact HT.out.2
        have hjl:(j:Int)<2:=by omega
        have huw:Upd [] wb wr:=HUS.out.trans huz;obtain ⟨q,hvi,hC⟩:=HND.out wr ch (H9.out.1.trans (HUB.out.trans huw)) htc;have HC:=Lib.hid hC;have HZ:=Lib.hid (And.intro huz huw)
        have HREL:Hid (∀ f3:Bool,(f3=true->f2=true/\¬ (pv=u/\q.var=(v:Int)))->(f3=true->fr=true/\(0<j+1->¬ (pv=u/\K.vI lo=(v:Int)))/\(1<j+1->¬ (pv=u/\K.vI hi=(v:Int))))):=fun f3 e ht=>by
         obtain ⟨e1,e2⟩:=e ht;rw [<- hvi] at e2;obtain ⟨g1,g2,g3⟩:=hf2 e1
         rcases hj01 with rfl | rfl
         ·rw [<- hch] at e2
          exact ⟨g1,fun _=>e2,fun h=>by omega⟩
         ·rw [<- hch] at e2
          exact ⟨g1,fun _=>g2 (by omega),fun _=>e2⟩
        generalize q.var=qv at *;generalize q.lo=ql at *;generalize q.hi=qh at *;clear s0 s1 hC huz huw hf2 hvi hch htc;go_wp2_with fail;refine HC.out.mono ?_;rintro e wc ⟨rfl,huc⟩;have hbc:=heap_alloc_new wc (.cells #[.int .i64 qv,.int .u32 ql,.int .u32 qh] 116 (0,0));have hud:Upd [] wr (wc.alloc (.cells #[.int .i64 qv,.int .u32 ql,.int .u32 qh] 116 (0,0))):=huc.alloc _;obtain ⟨wd,hwd⟩ : ∃ wd,wc.alloc (.cells #[.int .i64 qv,.int .u32 ql,.int .u32 qh] 116 (0,0))=wd:=⟨_,rfl⟩;rw [hwd] at hbc hud;have HWD:=Lib.hid hwd;have q0:=cell_at (j:=0) hbc rfl;obtain ⟨n0,_,_⟩:=HBA.out _ (HZ.out.2.trans hud);have HUD:Hid (Upd [] ws wd):=HZ.out.1.trans hud;clear huc hbc hud hwd;go_upto_region 29 with fail;rw [HWD.out]
        cases f2 with
        | false =>
         go_wp2_with fail
         go_roundg (2-(j+1))
         case measure=>omega
         case rel=>exact ⟨j+1,false,rfl,by omega,rfl,by simp,HUD.out,HREL.out _ fun e=>nomatch e⟩
        | true =>
         by_cases hpu:pv=u
         ·have hpb:((pv:Int) == (u:Int))=true:=by simp [hpu]
          have hpb':((pv:Int) != (u:Int))=false:=by simp [hpu]
          by_cases hqv:qv=(v:Int)
          ·have hqb:(qv == (v:Int))=true:=by simp [hqv]
           have hqb':(qv != (v:Int))=false:=by simp [hqv]
           clear hpu hqv;go_wp2_with fail
           go_roundg (2-(j+1))
           case measure=>omega
           case rel=>exact ⟨j+1,false,rfl,by omega,rfl,by simp,HUD.out,HREL.out _ fun e=>nomatch e⟩
          ·have hqb:(qv == (v:Int))=false:=by simp [hqv]
           have hqb':(qv != (v:Int))=true:=by simp [hqv]
           have HQV:=Lib.hid hqv;clear hpu hqv;go_wp2_with fail
           go_roundg (2-(j+1))
           case measure=>omega
           case rel=>exact ⟨j+1,true,rfl,by omega,rfl,by simp,HUD.out,HREL.out _ fun _=>⟨by trivial,fun h=>HQV.out h.2⟩⟩
         ·have hpb:((pv:Int) == (u:Int))=false:=by simp;omega
          have hpb':((pv:Int) != (u:Int))=true:=by simp;omega
          have HPU:=Lib.hid hpu;clear hpu;go_wp2_with fail
          go_roundg (2-(j+1))
          case measure=>omega
          case rel=>exact ⟨j+1,true,rfl,by omega,rfl,by simp,HUD.out,HREL.out _ fun _=>⟨by trivial,fun h=>HPU.out h.1⟩⟩
       ·obtain rfl:j=2:=by omega
        have hjl:¬ ((2:Int)<2):=by omega
        have huw:Upd [] wb wr:=HUS.out.trans huz;obtain ⟨_,n1,n2⟩:=HBA.out _ huw;have hu0:Upd [] w9 wr:=HUB.out.trans huw
        have HROW:Hid (wr.ownsRow w4.heap.size 77 1 (.slice (some ⟨tg,0,none⟩) L.length tc) L.length (flatRefs L)):=row_keep H9.out.2.2 fun k hk=>hu0.block k (H9.out.2.2.lt k hk).2 (by simp)
        have HSM:Hid (∃ S,SeenOk (D++[r]) S/\wr.ownsMap Tryz.prog 77 (plainElem (H:=Unit) Tryz.prog 3) mb (Maps.size S) S):=by
         obtain ⟨S,hS,hM⟩:=H9.out.2.1;exact ⟨S,hS,own_keep hM (hu0.block _ hM.lt (by simp))⟩
        have HUZ:Hid (Upd [] w4 wr):=H9.out.1.trans hu0
        have HSF:Hid (SeeF K u v (D++[r]) (L++[lo,hi]) (i+1) f2):=HSEE.out f2 fun e=>by
         obtain ⟨g1,g2,g3⟩:=hf2 e;have g2:=g2 (by omega);have g3:=g3 (by omega);exact ⟨g1,fun h=>h.2.elim (fun h5=>g2 ⟨h.1,h5⟩) (fun h5=>g3 ⟨h.1,h5⟩)⟩
        have HC2:Hid (∀ x,x∈[Value.int .u32 lo,Value.int .u32 hi]->x.oneCell'=true):=by intro x hx;simp at hx;rcases hx with rfl | rfl <;> rfl
        have hbs2:w4.heap.size<=(wr.alloc (.cells #[.int .u32 lo,.int .u32 hi] 77 (0,0))).heap.size:=by rw [World.size_alloc];have:=HUZ.out.size;omega
        clear hf2 huz huw hu0
        go_wp2_with (at_builtin;go_must (refine wpList_append_lies _ rfl (.tmp 136) (.tmp 141) 42 rfl w4.heap.size 77 tr _ 1 4 Tryz.underlying42 HIR.out.1 HIR.out.2.1 HIR.out.2.2.1 HIR.out.2.2.2 (by rfl) (by decide) _ L.length (flatRefs L) rfl (HROW.out.alloc _) ⟨wr.heap.size,0,none⟩ 2 2 [.int .u32 lo,.int .u32 hi] rfl rfl ?c1 HC2.out (by omega) (by unfold maxLen;omega) (by omega) hbs2 _ rfl ?_))
        try case c1=>exact World.news_of_block (heap_alloc_new wr (.cells #[.int .u32 lo,.int .u32 hi] 77 (0,0)))
        intro g5 cap we hown hgr hat hlt5
        have HQ:Hid (FreeR b mb K F w4 u v (D++[r]) (L++[lo,hi]) (i+1) f2 (.slice (some ⟨g5,0,none⟩) (L.length+2) cap) we):=by
         have u5:Upd (Value.slice (some ⟨tg,0,none⟩) L.length tc).ownBlock.toList wr we:=Upd.grown ((Upd.refl _ wr).alloc _) hgr (fun k hk=>.inl (by simp [hk]));obtain ⟨S,hS,hM⟩:=HSM.out;refine ⟨⟨S,hS,own_keep hM (u5.block _ hM.lt fun hm=>HNB.out mb (by simpa using hm) rfl)⟩,?_,fun k hk=>?_,HUZ.out.then u5 fun k hk=>.inr (HROW.out.lt k (by simpa using hk)).1,HSF.out⟩
         ·rw [List.length_append,show ([lo,hi]:List Nat).length=2 from rfl,show flatRefs (L++[lo,hi])=flatRefs L++[.int .u32 lo,.int .u32 hi] by simp [flatRefs]]
          exact hown
         ·have hk':g5=k:=by simpa [Value.ownBlock] using hk
          subst hk'
          rcases hat with h | h
          ·exact HNB.out _ h
          ·have:=hM.lt;omega
        clear hown hgr hat hlt5 hbs2 n1 n2;go_wp2_with fail
        go_roundg (3*(K.A.used-(D.length+1))+(L.length+2-(i+1)))
        case measure=>omega
        case rel=>exact ⟨i+1,D++[r],L++[lo,hi],f2,by simp,rfl,by simp,HQ.out⟩
    ·obtain rfl:i=L.length:=by omega
     have hil:¬ ((L.length:Int)<(L.length:Int)):=by omega
     have HFREE:Hid (fr=true->FreeL K l):=fun e=>by
      subst e;obtain ⟨e1,e2⟩:=HUV.out;have h:=hR.see;rw [<- e1,<- e2] at h;exact h.free HK4.out.ok
     have HW:=Lib.hid hR.up;have pm:=HK4.out.ok.ord.pm;have hvn:=HK.out.2.1
     have hul:u<K.vars:=by rw [<- HUV.out.1];exact (pm.oo l (by omega)).1
     have hvl:v<K.vars:=by rw [<- HUV.out.2];exact (pm.oo (l+1) (by omega)).1
     have nb:=HK4.out.ok.nodesV_le u;have nb':=HK4.out.ok.nodesV_le v;have hu2:=HK4.out.ok.used_two;obtain ⟨aN,haN⟩ : ∃ x,(K.nodesV u).length=x:=⟨_,rfl⟩;obtain ⟨bN,hbN⟩ : ∃ x,(K.nodesV v).length=x:=⟨_,rfl⟩;obtain ⟨lvI,hlv⟩ : ∃ x,(K.A.used:Int)-2=x:=⟨_,rfl⟩;obtain ⟨plI,hpl⟩ : ∃ x,(K.A.places:Int)-2=x:=⟨_,rfl⟩
     have hlv0:0<=lvI:=by omega
     have hlv1:lvI<=1048576:=by omega
     have haB:aN<=1048576:=by omega
     have hbB:bN<=1048576:=by omega
     have HWU:Hid (∀ z,Upd [] w4 z->Calls Tryz.prog 49 #[.pointer (some ⟨b,0,none⟩),.int .i64 u] z fun e w'=>e=.returned (.tuple #[.int .i64 aN,.int .i64 0])/\Upd [] z w'):=fun z uz=>by
      rw [<- haN];exact zaa6 b u K F z (HK4.out.upd uz (by simp)) hul
     have HWV:Hid (∀ z,Upd [] w4 z->Calls Tryz.prog 49 #[.pointer (some ⟨b,0,none⟩),.int .i64 v] z fun e w'=>e=.returned (.tuple #[.int .i64 bN,.int .i64 0])/\Upd [] z w'):=fun z uz=>by
      rw [<- hbN];exact zaa6 b v K F z (HK4.out.upd uz (by simp)) hvl
     have HLV:Hid (∀ z,Upd [] w4 z->Calls Tryz.prog 33 #[.pointer (some ⟨b,0,none⟩)] z fun e w'=>e=.returned (.int .i64 lvI)/\w'=z):=fun z uz=>by
      rw [<- hlv];exact live_at b K F z (HK4.out.upd uz (by simp))
     have HRM:Hid (∀ z,Upd [] w4 z->Calls Tryz.prog 22 #[.pointer (some ⟨b,0,none⟩),.int .i64 l] z fun e w'=>∃ n:Nat,e=.returned (.tuple #[.int .i64 n,.int .i64 plI,.int .i64 0])/\Upd [] z w'/\RoomN K l n):=fun z uz=>by
      rw [<- hpl];exact room_at b l K F z (HK4.out.upd uz (by simp)) HK.out.2.2.2
     have HTR:Hid (∀ z,Upd [] w4 z->Calls Tryz.prog 20 #[.pointer (some ⟨b,0,none⟩),.int .i64 l] z fun e w'=>TryQ b l K F (ExL l K) z e w'):=fun z uz =>
      try_exl b l K F z (HK4.out.upd uz (by simp)) HK.out.2.2.2 (by rw [HK.out.2.2.1];simp)
     have HEQ:=Lib.hid (And.intro haN (And.intro hbN (And.intro hlv hpl)));clear hR pm nb nb' hu2 haN hbN hlv hpl hul hvl hlens hus hil0 hlt hvn;go_wp2_with fail;refine (HWU.out wr HW.out).mono ?_;rintro e wa ⟨rfl,hua⟩;have HWA:=Lib.hid (HW.out.trans hua);clear hua;go_wp2_with fail;refine (HWV.out wa HWA.out).mono ?_;rintro e wb ⟨rfl,hub⟩;have HWB:=Lib.hid (HWA.out.trans hub);clear hub;go_wp2_with fail;refine (HLV.out wb HWB.out).mono ?_;rintro e wb' ⟨rfl,rfl⟩;go_wp2_with fail;refine (HRM.out wb' HWB.out).mono ?_;rintro e wc ⟨nn,rfl,huc,hrn⟩;have HWC:=Lib.hid (HWB.out.trans huc);have HRN:=Lib.hid hrn
     have HNL:Hid (fr=true->(nn:Int)=lvI):=fun e=>by
      have:=hrn.free (HFREE.out e);have:=HEQ.out.2.2.1;omega
     clear huc hrn;go_wp2_with fail;refine (HTR.out wc HWC.out).mono ?_;rintro e wd hE;obtain ⟨code,K',F',rfl,hK',hud,hsd,hx⟩:=hE.ex
     have HS':Hid (Stp [] w F' wd):=by
      have h1:Stp [] w F wc:=⟨HU4.out.trans HWC.out,fun k hk=>.inr (HFR.out k hk)⟩;exact h1.trans ⟨hud,hsd⟩
     have HOR:Hid (wd.ownsRow w3'.heap.size 3 1 (.slice (some ⟨og,0,none⟩) n ocp) n (flatN K.order)):=by
      refine row_keep HO4.out fun k hk=>?_
      have h1:=HO4.out.lt k hk;have h2:=HWC.out.block k h1.2 (by simp);rw [hud.block k (by have:=HWC.out.size;omega) fun hm=>by have:=HK.out.1.lt k hm;omega,h2]
     have HOF:Hid (og<wd.heap.size/\og∉F'):=by
      have h1:=HO4.out.lt og (by simp [Value.ownBlock]);have h2:=HWC.out.size;have h3:=hud.size;refine ⟨by omega,fun hm=>?_⟩
      rcases hsd og hm with h | h
      ·have:=HK.out.1.lt og h;omega
      ·omega
     rcases hx with ⟨rfl,rfl,hno⟩ | ⟨rfl,hyes,hroom⟩
     ·have hle:¬ ((nn:Int)<=plI):=by have:=hno nn HRN.out;have:=HEQ.out.2.2.2;omega
      have hle':decide ((nn:Int)<=plI)=false:=by simp;omega
      rw [if_neg (by decide)];clear hE hK' hud hsd hno
      cases fr with
      | false =>
       go_wp2_with fail;go_ret;exact ⟨rfl,HS'.out.up.alloc _⟩
      | true =>
       have hnq:=HNL.out rfl
       have hnb:((nn:Int) == lvI)=true:=by simp [hnq]
       have hnb':((nn:Int) != lvI)=false:=by simp [hnq]
       clear hnq;go_wp2_with fail;go_ret;exact ⟨rfl,HS'.out.up.alloc _⟩
     ·rw [if_pos rfl]
      have hle:((nn:Int)<=plI):=by have:=hroom nn HRN.out;have:=HEQ.out.2.2.2;omega
      have hle':decide ((nn:Int)<=plI)=true:=by simp;omega
      have htr':K'.trail.length<=1000000:=by
       obtain ⟨K1,X,_,e⟩:=hyes
       have h1:K'.trail=K1.trail++[l]:=by rw [e];rfl
       rw [h1,X.tr,HK.out.2.2.1];simp
      obtain ⟨hxp,hfa⟩:=ExL.yes HK4.out.ok HK4.out.uni hK'.ok hK'.uni HK.out.2.2.2 hyes;have hvr':=hxp.ex.vr;have hpl':=hxp.ex.pl;have hrn':=hxp.room HRN.out;have pm:=HK4.out.ok.ord.pm;have hvn:=HK.out.2.1
      have hul:u<K'.vars:=by rw [hvr',<- HUV.out.1];exact (pm.oo l (by omega)).1
      have hvl:v<K'.vars:=by rw [hvr',<- HUV.out.2];exact (pm.oo (l+1) (by omega)).1
      have nb:=hK'.ok.nodesV_le u;have nb':=hK'.ok.nodesV_le v;have hu2:=hK'.ok.used_two;have hus:=hK'.ok.used_20;obtain ⟨cN,hcN⟩ : ∃ x,(K'.nodesV u).length=x:=⟨_,rfl⟩;obtain ⟨dN,hdN⟩ : ∃ x,(K'.nodesV v).length=x:=⟨_,rfl⟩
      have hcB:cN<=1048576:=by omega
      have hdB:dN<=1048576:=by omega
      have hlive:(K'.A.used:Int)-2=lvI-(aN:Int)-(bN:Int)+(cN:Int)+(dN:Int):=by
       have h1:=hfa.live;obtain ⟨e1,e2,e3,_⟩:=HEQ.out;obtain ⟨f1,f2⟩:=HUV.out;rw [f1,f2,e1,e2,hcN,hdN] at h1;omega
      have HWID:Hid (fr=true->aN=cN/\bN=dN):=fun e=>by
       have h1:=hfa.wid (HFREE.out e);obtain ⟨e1,e2,_⟩:=HEQ.out;have g1:=h1 u;have g2:=h1 v;omega
      have HK':=Lib.hid hK'
      have HWU':Hid (∀ z,Upd [] wd z->Calls Tryz.prog 49 #[.pointer (some ⟨b,0,none⟩),.int .i64 u] z fun e w'=>e=.returned (.tuple #[.int .i64 cN,.int .i64 0])/\Upd [] z w'):=fun z uz=>by
       rw [<- hcN];exact zaa6 b u K' F' z (HK'.out.upd uz (by simp)) hul
      have HWV':Hid (∀ z,Upd [] wd z->Calls Tryz.prog 49 #[.pointer (some ⟨b,0,none⟩),.int .i64 v] z fun e w'=>e=.returned (.tuple #[.int .i64 dN,.int .i64 0])/\Upd [] z w'):=fun z uz=>by
       rw [<- hdN];exact zaa6 b v K' F' z (HK'.out.upd uz (by simp)) hvl
      have HLV':Hid (∀ z,Upd [] wd z->Calls Tryz.prog 33 #[.pointer (some ⟨b,0,none⟩)] z fun e w'=>e=.returned (.int .i64 (lvI-(aN:Int)-(bN:Int)+(cN:Int)+(dN:Int)))/\w'=z):=fun z uz=>by
       rw [<- hlive];exact live_at b K' F' z (HK'.out.upd uz (by simp))
      have HTR':Hid (∀ z,Upd [] wd z->Calls Tryz.prog 20 #[.pointer (some ⟨b,0,none⟩),.int .i64 l] z fun e w'=>TryQ b l K' F' (ExL l K') z e w'):=fun z uz =>
       try_exl b l K' F' z (HK'.out.upd uz (by simp)) (by rw [hvr'];exact HK.out.2.2.2) htr'
      have HXP:=Lib.hid (And.intro hxp (And.intro hrn' hpl'))
      have hl0:0<=lvI-(aN:Int)-(bN:Int)+(cN:Int)+(dN:Int):=by omega
      have hl1:lvI-(aN:Int)-(bN:Int)+(cN:Int)+(dN:Int)<=1048576:=by omega
      have hbc:=heap_alloc_new wd (.cells #[.int .i64 (l:Int),.int .i64 ((K.A.used:Int)-2),.int .i64 ((K'.A.used:Int)-2)] 46 (0,0));have hue:Upd [] wd (wd.alloc (.cells #[.int .i64 (l:Int),.int .i64 ((K.A.used:Int)-2),.int .i64 ((K'.A.used:Int)-2)] 46 (0,0))):=(Upd.refl _ _).alloc _;obtain ⟨we,hwe⟩ : ∃ we,wd.alloc (.cells #[.int .i64 (l:Int),.int .i64 ((K.A.used:Int)-2),.int .i64 ((K'.A.used:Int)-2)] 46 (0,0))=we:=⟨_,rfl⟩;rw [hwe] at hue;have HWE:=Lib.hid hwe;have HUE:=Lib.hid hue;clear hE hK' hud hsd hroom hyes hxp hfa hvr' hpl' hrn' pm hvn hul hvl nb nb' hu2 hus hcN hdN hlive hbc hue hwe htr';go_upto_region 39 with fail;rw [HWE.out]
      cases fr with
      | false =>
       go_wp2_with fail;refine (HWU'.out we HUE.out).mono ?_;rintro e wf ⟨rfl,huf⟩;have HUF:=Lib.hid (HUE.out.trans huf);clear huf;go_wp2_with fail;refine (HWV'.out wf HUF.out).mono ?_;rintro e wg ⟨rfl,hug⟩;have HUG:=Lib.hid (HUF.out.trans hug);clear hug;go_wp2_with fail;refine (HLV'.out wg HUG.out).mono ?_;rintro e wg' ⟨rfl,rfl⟩;go_wp2_with fail;refine (HTR'.out wg' HUG.out).mono ?_;rintro e wh hE;obtain ⟨code2,K2,F2,rfl,hK2,hud2,hsd2,hx2⟩:=hE.ex
       rcases hx2 with ⟨rfl,rfl,hno⟩ | ⟨rfl,hyes,_⟩
       ·exfalso
        have g1:=hno nn HXP.out.2.1;have g2:=HXP.out.2.2;have g3:=HEQ.out.2.2.2;omega
       ·rw [if_pos rfl]
        obtain ⟨hxp2,_⟩:=ExL.yes HK'.out.ok HK'.out.uni hK2.ok hK2.uni (by rw [HXP.out.1.ex.vr];exact HK.out.2.2.2) hyes;obtain ⟨ho2,hus2⟩:=HXP.out.1.back hxp2;have HS2:Hid (Stp [] w F2 wh):=(HS'.out.trans (Stp.of0 HUG.out)).trans ⟨hud2,hsd2⟩
        have HOR2:Hid (wh.ownsRow w3'.heap.size 3 1 (.slice (some ⟨og,0,none⟩) n ocp) n (flatN K.order)):=by
         refine row_keep HOR.out fun k hk=>?_
         have hk':og=k:=by simpa [Value.ownBlock] using hk
         subst hk';rw [hud2.block og (by have:=HUG.out.size;have:=HOF.out.1;omega) HOF.out.2,HUG.out.block og HOF.out.1 (by simp)]
        obtain ⟨wi,hwi⟩ : ∃ wi,wh.alloc (.cells #[.int .i64 (l:Int),.int .i64 ((K'.A.used:Int)-2),.int .i64 ((K2.A.used:Int)-2)] 46 (0,0))=wi:=⟨_,rfl⟩;have hui:Upd [] wh wi:=hwi ▸ (Upd.refl _ _).alloc _;have HWI:=Lib.hid hwi;have HUI:=Lib.hid hui;have HO2:=Lib.hid (order_at_spec b K2 F2 wi (hK2.upd hui (by simp)));rw [ho2,hol] at HO2
        have HL2:Hid (∀ z,Upd [] wi z->Calls Tryz.prog 33 #[.pointer (some ⟨b,0,none⟩)] z fun e w'=>e=.returned (.int .i64 lvI)/\w'=z):=fun z uz=>by
         rw [<- HEQ.out.2.2.1,<- hus2];exact live_at b K2 F2 z ((hK2.upd hui (by simp)).upd uz (by simp))
        clear hE hK2 hud2 hsd2 hyes hxp2 ho2 hus2 hwi hui;go_upto_region 48 with fail;rw [HWI.out];go_wp2_with fail;refine HO2.out.mono ?_;rintro e wj ⟨g2,cap2,rfl,hor2,huj⟩;have HOC:=Lib.hid (zab6 wi.heap.size w3'.heap.size (.slice (some ⟨g2,0,none⟩) n cap2) (.slice (some ⟨og,0,none⟩) n ocp) K.order wj (by rw [hol];exact hor2) (by rw [hol];exact row_keep HOR2.out fun k hk=>(HUI.out.trans huj).block k (HOR2.out.lt k hk).2 (by simp)) (by rw [hol];omega));have HUJ:=Lib.hid huj;clear hor2 huj;go_wp2_with fail;refine HOC.out.mono ?_;rintro e wk ⟨rfl,huk⟩;have HUK:=Lib.hid (HUJ.out.trans huk);clear huk;go_wp2_with fail;refine (HL2.out wk HUK.out).mono ?_;rintro e wk' ⟨rfl,rfl⟩;go_wp2_with fail;go_ret;exact ⟨rfl,(HS2.out.up.trans HUI.out).trans HUK.out⟩
      | true =>
       obtain ⟨rfl,rfl⟩ : cN=aN/\dN=bN:=⟨(HWID.out rfl).1.symm,(HWID.out rfl).2.symm⟩;have hnq:=HNL.out rfl
       have hnb:((nn:Int) == lvI)=true:=by simp [hnq]
       have hnb':((nn:Int) != lvI)=false:=by simp [hnq]
       clear hnq;go_wp2_with fail;refine (HWU'.out we HUE.out).mono ?_;rintro e wf ⟨rfl,huf⟩;have HUF:=Lib.hid (HUE.out.trans huf);clear huf;go_wp2_with fail;refine (HWV'.out wf HUF.out).mono ?_;rintro e wg ⟨rfl,hug⟩;have HUG:=Lib.hid (HUF.out.trans hug);clear hug;go_wp2_with fail;refine (HLV'.out wg HUG.out).mono ?_;rintro e wg' ⟨rfl,rfl⟩;go_wp2_with fail;refine (HTR'.out wg' HUG.out).mono ?_;rintro e wh hE;obtain ⟨code2,K2,F2,rfl,hK2,hud2,hsd2,hx2⟩:=hE.ex
       rcases hx2 with ⟨rfl,rfl,hno⟩ | ⟨rfl,hyes,_⟩
       ·exfalso
        have g1:=hno nn HXP.out.2.1;have g2:=HXP.out.2.2;have g3:=HEQ.out.2.2.2;omega
       ·rw [if_pos rfl]
        obtain ⟨hxp2,_⟩:=ExL.yes HK'.out.ok HK'.out.uni hK2.ok hK2.uni (by rw [HXP.out.1.ex.vr];exact HK.out.2.2.2) hyes;obtain ⟨ho2,hus2⟩:=HXP.out.1.back hxp2;have HS2:Hid (Stp [] w F2 wh):=(HS'.out.trans (Stp.of0 HUG.out)).trans ⟨hud2,hsd2⟩
        have HOR2:Hid (wh.ownsRow w3'.heap.size 3 1 (.slice (some ⟨og,0,none⟩) n ocp) n (flatN K.order)):=by
         refine row_keep HOR.out fun k hk=>?_
         have hk':og=k:=by simpa [Value.ownBlock] using hk
         subst hk';rw [hud2.block og (by have:=HUG.out.size;have:=HOF.out.1;omega) HOF.out.2,HUG.out.block og HOF.out.1 (by simp)]
        obtain ⟨wi,hwi⟩ : ∃ wi,wh.alloc (.cells #[.int .i64 (l:Int),.int .i64 ((K'.A.used:Int)-2),.int .i64 ((K2.A.used:Int)-2)] 46 (0,0))=wi:=⟨_,rfl⟩;have hui:Upd [] wh wi:=hwi ▸ (Upd.refl _ _).alloc _;have HWI:=Lib.hid hwi;have HUI:=Lib.hid hui;have HO2:=Lib.hid (order_at_spec b K2 F2 wi (hK2.upd hui (by simp)));rw [ho2,hol] at HO2
        have HL2:Hid (∀ z,Upd [] wi z->Calls Tryz.prog 33 #[.pointer (some ⟨b,0,none⟩)] z fun e w'=>e=.returned (.int .i64 lvI)/\w'=z):=fun z uz=>by
         rw [<- HEQ.out.2.2.1,<- hus2];exact live_at b K2 F2 z ((hK2.upd hui (by simp)).upd uz (by simp))
        clear hE hK2 hud2 hsd2 hyes hxp2 ho2 hus2 hwi hui;go_upto_region 48 with fail;rw [HWI.out];go_wp2_with fail;refine HO2.out.mono ?_;rintro e wj ⟨g2,cap2,rfl,hor2,huj⟩;have HOC:=Lib.hid (zab6 wi.heap.size w3'.heap.size (.slice (some ⟨g2,0,none⟩) n cap2) (.slice (some ⟨og,0,none⟩) n ocp) K.order wj (by rw [hol];exact hor2) (by rw [hol];exact row_keep HOR2.out fun k hk=>(HUI.out.trans huj).block k (HOR2.out.lt k hk).2 (by simp)) (by rw [hol];omega));have HUJ:=Lib.hid huj;clear hor2 huj;go_wp2_with fail;refine HOC.out.mono ?_;rintro e wk ⟨rfl,huk⟩;have HUK:=Lib.hid (HUJ.out.trans huk);clear huk;go_wp2_with fail;refine (HL2.out wk HUK.out).mono ?_;rintro e wk' ⟨rfl,rfl⟩;go_wp2_with fail;go_ret;exact ⟨rfl,(HS2.out.up.trans HUI.out).trans HUK.out⟩
end Go.Proofs.YtfkopmhpppeheaaGreat
namespace Go.Proofs.YtfkopmhpppeheaaGreat
open Go.ChangeShapes Go.WideShapes Go.ChangeAt Go.RowKit
theorem u8Size:Tryz.prog.cellsOf 5=1:=by kernel_rfl
theorem zac6:Tryz.prog.cellsOf 184=3:=by kernel_rfl
theorem wf_u8n {x:Int} (h:(Lit.int .u8 x).wf=true):∃ n:Nat,x=(n:Int)/\n<=255:=by
 have h1:0<=x/\x<=255:=by
  simp only [Lit.wf,Bool.and_eq_true,decide_eq_true_eq] at h
  have e1:IntKind.u8.min=0:=rfl;have e2:IntKind.u8.max=255:=rfl;omega
 exact ⟨x.toNat,by omega,by omega⟩
theorem zad6 {H:Type} {enc:TypeId × Value->H} {W:World} {fuel:Nat} {cs:List Value} {x:DataW H × List MemPlace} (h:DataW.trod enc Tryz.prog W 0 (fun _=>true) true fuel 184 cs=some x) :
  ∃ (op:Nat) (a b:Int),cs=[.int .u8 op,.int .i64 a,.int .i64 b]/\op<=255:=by
 obtain ⟨ys,m,_,_,hsz,hl,hf⟩:=Go.DataW.trod_struct Tryz.underlying184 h;rw [zac6] at hsz
 match cs,hsz with
 | [c0,c1,c2],_ =>
  match ys,hl with
  | [y0,y1,y2],_ =>
   have h0:=hf 0 _ rfl;have h1:=hf 1 _ rfl;have h2:=hf 2 _ rfl
   simp [intSize,u8Size] at h0 h1 h2
   obtain ⟨o,e0,_,hw⟩:=Go.DataW.trod_int Tryz.underlying5 h0;obtain ⟨a,e1,_,_⟩:=Go.DataW.trod_int Tryz.underlying3 h1;obtain ⟨b,e2,_,_⟩:=Go.DataW.trod_int Tryz.underlying3 h2
   simp at e0 e1 e2
   subst e0 e1 e2;obtain ⟨n,rfl,hn⟩:=wf_u8n hw;exact ⟨n,a,b,rfl,hn⟩
theorem GatesAt.of_trod {H:Type} {enc:TypeId × Value->H} {W:World} {fuel:Nat} {cs:List Value} {x:DataW H × List MemPlace} (h:DataW.trod enc Tryz.prog W 0 (fun _=>true) true fuel 103 cs=some x) :
  ∃ (a:Option Addr) (n c:Nat),cs=[.slice a n c]/\GatesAt W a n:=by
 rcases Go.DataW.trod_slice Tryz.underlying103 h with ⟨rfl,_⟩ | ⟨a,len,cap,elems,rest,n,_,rfl,_,_,hl,hm,hlen,hel,_,_⟩
 ·exact ⟨none,0,0,rfl,Nat.zero_le _,fun i hi=>by omega⟩
 ·rw [zac6] at hel
  refine ⟨some a,len,cap,rfl,by omega,fun i hi=>?_⟩;have h1:=hel i hi;rw [List.getElem?_eq_getElem (by omega)] at h1;obtain ⟨cs',hc,ht⟩:=Option.bind_eq_some_iff.1 h1;obtain ⟨op,A,B,rfl,ho⟩:=zad6 ht;obtain ⟨_,h7,hcell⟩:=World.cells?_some hc;have c0:=hcell 0 (by rw [<- h7];simp);have c1:=hcell 1 (by rw [<- h7];simp);have c2:=hcell 2 (by rw [<- h7];simp)
  have ea:(a.add (i*3)).add 0=a.add (i*3):=by unfold Addr.add;simp
  rw [ea] at c0;exact ⟨a,op,A,B,rfl,ho,c0,c1,c2⟩
end Go.Proofs.YtfkopmhpppeheaaGreat
