import Derived.Test.YtfkopmhpppeheaaGreatPY20
import Derived.Test.YtfkopmhpppeheaaGreatPY7
import Derived.Test.YtfkopmhpppeheaaGreatPY11
import Derived.Deep.QuietTactic
set_option maxRecDepth 100000
set_option maxHeartbeats 3200000
namespace Go.Proofs.YtfkopmhpppeheaaGreat
open Go.RowKit Go.Maps Go.ChangeMaps Go.WideShapes
theorem flatN_set (l:List Nat) (r n:Nat):(flatN l).set r (.int .i64 n)=flatN (l.set r n):=by simp [flatN,List.map_set]
theorem KerMem.setOrder {w:World} {b g n' c r n:Nat} {K:KV} {T:List DM} {q:KPtr} (h:KerMem w b K T q) (hq:q.ov=.slice (some ⟨g,0,none⟩) n' c) (hr:r<K.order.length) :
  KerMem (w.setCell ⟨g,r,none⟩ (.int .i64 n)) b { K with order:=K.order.set r n } T q:=by
 have hg:q.o g=5:=h.oo g (by rw [hq];rfl)
 have hne:∀ {k c},q.o k=c->c≠5->k≠g:=fun {k c} hk hc hm=>hc (by rw [<- hk,hm,hg])
 have hk:∀ {k c},q.o k=c->c≠5->(w.setCell ⟨g,r,none⟩ (.int .i64 n)).heap[k]?=w.heap[k]?:=fun hk hc=>heap_set_ne (hne hk hc)
 refine ⟨by rw [hk h.ob (by omega)];exact h.blk,h.ar.keep fun k hm=>hk (h.oa k hm) (by omega),h.tab.keep fun k hm=>hk (h.ot k hm) (by omega),row_keep h.us fun k hm=>hk (h.ou k hm) (by omega),
  row_keep h.hs fun k hm=>hk (h.oh k hm) (by omega),?_,row_keep h.ls fun k hm=>hk (h.ol k hm) (by omega),row_keep h.ts fun k hm=>hk (h.ox k hm) (by omega),
  h.ob,h.oa,h.ot,h.ou,h.oh,h.oo,h.ol,h.ox⟩
 have hu:=h.os;rw [hq] at hu ⊢;have:=row_set hu (j:=r) (by omega) (.int .i64 n);rw [flatN_set] at this
 simpa using this
theorem KerMem.setLevel {w:World} {b g n' c r n:Nat} {K:KV} {T:List DM} {q:KPtr} (h:KerMem w b K T q) (hq:q.lv=.slice (some ⟨g,0,none⟩) n' c) (hr:r<K.level.length) :
  KerMem (w.setCell ⟨g,r,none⟩ (.int .i64 n)) b { K with level:=K.level.set r n } T q:=by
 have hg:q.o g=6:=h.ol g (by rw [hq];rfl)
 have hne:∀ {k c},q.o k=c->c≠6->k≠g:=fun {k c} hk hc hm=>hc (by rw [<- hk,hm,hg])
 have hk:∀ {k c},q.o k=c->c≠6->(w.setCell ⟨g,r,none⟩ (.int .i64 n)).heap[k]?=w.heap[k]?:=fun hk hc=>heap_set_ne (hne hk hc)
 refine ⟨by rw [hk h.ob (by omega)];exact h.blk,h.ar.keep fun k hm=>hk (h.oa k hm) (by omega),h.tab.keep fun k hm=>hk (h.ot k hm) (by omega),row_keep h.us fun k hm=>hk (h.ou k hm) (by omega),
  row_keep h.hs fun k hm=>hk (h.oh k hm) (by omega),row_keep h.os fun k hm=>hk (h.oo k hm) (by omega),?_,row_keep h.ts fun k hm=>hk (h.ox k hm) (by omega),
  h.ob,h.oa,h.ot,h.ou,h.oh,h.oo,h.ol,h.ox⟩
 have hu:=h.ls;rw [hq] at hu ⊢;have:=row_set hu (j:=r) (by omega) (.int .i64 n);rw [flatN_set] at this
 simpa using this
theorem KerMem.growTrail {w w5:World} {b g5 cap l:Nat} {X:Obj} {K:KV} {T:List DM} {q:KPtr} (h:KerMem w b K T q) (hg:(w.alloc X).grownBy w5 q.tv.ownBlock) (hat:q.tv.ownBlock=some g5\/g5=w.heap.size+1)
  (hown:w5.ownsRow 0 3 1 (.slice (some ⟨g5,0,none⟩) (K.trail.length+1) cap) (K.trail.length+1) (flatN K.trail++[.int .i64 l])) :
  KerMem (w5.setCell ⟨b,7,none⟩ (.slice (some ⟨g5,0,none⟩) (K.trail.length+1) cap)) b { K with trail:=K.trail++[l] } T { q with tv:=.slice (some ⟨g5,0,none⟩) (K.trail.length+1) cap,o:=retag q w.heap.size 7 }:=by
 have hb:=heap_lt h.blk
 have hbg:b≠g5:=by
  rcases hat with e | e
  ·rintro rfl;have e1:=h.ob;have e2:=h.ox b e;omega
  ·omega
 have keep:∀ {k c:Nat},q.o k=c->c≠7->c≠0->k<w.heap.size->(w5.setCell ⟨b,7,none⟩ (.slice (some ⟨g5,0,none⟩) (K.trail.length+1) cap)).heap[k]?=w.heap[k]?:=by
  intro k c hk hc h0 hl
  rw [heap_set_ne (by rintro rfl;exact h0 (hk ▸ h.ob)),hg.block k (by rw [World.size_alloc];omega) (fun e=>hc (hk ▸ h.ox k e.symm)),Below.heap_alloc _ _ _ hl]
 have hbk:w5.heap[b]?=w.heap[b]?:=by
  rw [hg.block b (by rw [World.size_alloc];omega) (fun e=>by have e1:=h.ob;have e2:=h.ox b e.symm;omega),Below.heap_alloc _ _ _ hb]
 rw [h.blk] at hbk
 refine ⟨by rw [heap_set_eq hbk];simp,h.ar.keep fun k hm=>keep (h.oa k hm) (by omega) (by omega) (h.ar.lt k hm),h.tab.keep fun k hm=>keep (h.ot k hm) (by omega) (by omega) (h.tab.lt k hm),
  row_keep h.us fun k hm=>keep (h.ou k hm) (by omega) (by omega) (h.us.lt k hm).2,row_keep h.hs fun k hm=>keep (h.oh k hm) (by omega) (by omega) (h.hs.lt k hm).2,row_keep h.os fun k hm=>keep (h.oo k hm) (by omega) (by omega) (h.os.lt k hm).2,row_keep h.ls fun k hm=>keep (h.ol k hm) (by omega) (by omega) (h.ls.lt k hm).2,?_,?_,?_,?_,?_,?_,?_,?_,?_⟩
 ·show World.ownsRow _ 0 _ 1 _ (K.trail++[l]).length (flatN (K.trail++[l]))
  have e:=row_ne hown (a:=⟨b,7,none⟩) (by simpa [Value.ownBlock] using hbg) (.slice (some ⟨g5,0,none⟩) (K.trail.length+1) cap)
  simpa [flatN] using e
 ·show retag q _ _ b=0
  rw [retag_old hb];exact h.ob
 ·intro k hk;show retag q _ _ k=1;rw [retag_old (h.ar.lt k hk)];exact h.oa k hk
 ·intro k hk;show retag q _ _ k=2;rw [retag_old (h.tab.lt k hk)];exact h.ot k hk
 ·intro k hk;show retag q _ _ k=3;rw [retag_old (h.us.lt k hk).2];exact h.ou k hk
 ·intro k hk;show retag q _ _ k=4;rw [retag_old (h.hs.lt k hk).2];exact h.oh k hk
 ·intro k hk;show retag q _ _ k=5;rw [retag_old (h.os.lt k hk).2];exact h.oo k hk
 ·intro k hk;show retag q _ _ k=6;rw [retag_old (h.ls.lt k hk).2];exact h.ol k hk
 ·intro k hk
  simp [Value.ownBlock] at hk;subst hk
  show retag q _ _ g5=7
  rcases hat with e | e
  ·rw [retag_old (h.ts.lt g5 e).2];exact h.ox g5 e
  ·unfold retag;rw [if_pos (by omega)]
def KV.swapK (K:KV) (l:Nat):KV:={ K with order:=(K.order.set l (K.order.getD (l+1) 0)).set (l+1) (K.order.getD l 0),level:=(K.level.set (K.order.getD l 0) (l+1)).set (K.order.getD (l+1) 0) l }
theorem getD_eq_some {l:List Nat} {i:Nat} (h:i<l.length):l[i]?=some (l.getD i 0):=by
 rw [List.getD_eq_getElem?_getD,List.getElem?_eq_getElem h];rfl
theorem KV.Perm.swap {K:KV} (h:K.Perm) {l:Nat} (hl:l+2<=K.vars):(K.swapK l).Perm/\(∀ j,(K.swapK l).order.getD j 0=if j=l+1 then K.order.getD l 0 else if j=l then K.order.getD (l+1) 0 else K.order.getD j 0) /\
  ∀ v,(K.swapK l).lev v=if v=K.order.getD (l+1) 0 then l else if v=K.order.getD l 0 then l+1 else K.lev v:=by
 have hx:=h.oo l (by omega);have hy:=h.oo (l+1) (by omega);have hol:=h.ol;have hll:=h.ll
 have ho:∀ j,(K.swapK l).order.getD j 0=if j=l+1 then K.order.getD l 0 else if j=l then K.order.getD (l+1) 0 else K.order.getD j 0:=fun j=>by
  simp only [KV.swapK]
  rw [getD_set (by rw [List.length_set];omega),getD_set (by omega)]
 have hv:∀ v,(K.swapK l).lev v=if v=K.order.getD (l+1) 0 then l else if v=K.order.getD l 0 then l+1 else K.lev v:=fun v=>by
  simp only [KV.swapK,KV.lev]
  rw [getD_set (by rw [List.length_set];omega),getD_set (by omega)]
 have hne:K.order.getD l 0≠K.order.getD (l+1) 0:=fun e=>by rw [e] at hx;omega
 refine ⟨⟨by simpa [KV.swapK] using hol,by simpa [KV.swapK] using hll,fun v hvl=>?_,fun j hj=>?_⟩,ho,hv⟩
 ·have hl1:=h.lo v hvl
  rw [hv]
  by_cases e1:v=K.order.getD (l+1) 0
  ·rw [if_pos e1,ho,if_neg (by omega),if_pos rfl]
   exact ⟨by show l<K.vars;omega,e1.symm⟩
  ·rw [if_neg e1]
   by_cases e2:v=K.order.getD l 0
   ·rw [if_pos e2,ho,if_pos rfl]
    exact ⟨by show l+1<K.vars;omega,e2.symm⟩
   ·rw [if_neg e2,ho]
    have n1:K.lev v≠l+1:=fun e=>e1 (by rw [<- hl1.2,e])
    have n2:K.lev v≠l:=fun e=>e2 (by rw [<- hl1.2,e])
    rw [if_neg n1,if_neg n2];exact hl1
 ·have hj':j<K.vars:=hj
  have hj1:=h.oo j hj';rw [ho]
  by_cases e1:j=l+1
  ·rw [if_pos e1,hv,if_neg hne,if_pos rfl]
   exact ⟨hx.1,e1.symm⟩
  ·rw [if_neg e1]
   by_cases e2:j=l
   ·rw [if_pos e2,hv,if_pos rfl]
    exact ⟨hy.1,e2.symm⟩
   ·rw [if_neg e2,hv]
    have n1:K.order.getD j 0≠K.order.getD (l+1) 0:=fun e=>by rw [e] at hj1;omega
    have n2:K.order.getD j 0≠K.order.getD l 0:=fun e=>by rw [e] at hj1;omega
    rw [if_neg n1,if_neg n2];exact hj1
theorem KV.bare_tk {K:KV} (hw:K.Wf []) (h:K.A.used=2) {r:Nat} (ht:K.A.tk r=true):r<2:=by
 by_cases h2:r<2
 ·exact h2
 ·have h01:=hw.ok.tk01
  have:=K.used_ge hw (l:=[0,1,r]) (by simp;omega) (fun x hx=>by
   simp at hx
   rcases hx with rfl | rfl | rfl
   ·exact h01.1
   ·exact h01.2
   ·exact ht)
  simp at this;omega
theorem TInv.bare {T:List DM} {K:KV} {X:List Nat} (h:TInv T K X) (hw:K.Wf []) (hb:K.A.used=2) {v:Nat} {D:DM} (hv:T[v]?=some D) (k:Lit):Maps.has D k=false:=by
 cases e:Maps.has D k with
 | false=>rfl
 | true =>
  obtain ⟨r,p,h2,hp,hpt,_⟩:=h.dom v D k hv e;have:=KV.bare_tk hw hb (ArenaV.tk_iff.2 ⟨p,hp,hpt⟩);omega
theorem KV.Ok.swap_bare {K:KV} (h:K.Ok) (hb:K.A.used=2) {l:Nat} (hl:l+2<=K.vars):(K.swapK l).Ok:=by
 have hw:=h.wf
 have no:∀ (q:Nat) (p:PlaceV),2<=q->K.A.list[q]?=some p->p.taken=true->False:=fun q p h2 hp hpt=>by
  have:=KV.bare_tk hw hb (ArenaV.tk_iff.2 ⟨p,hp,hpt⟩);omega
 refine ⟨⟨hw.ok,hw.len,hw.ul,hw.tu,hw.ht,hw.hm,hw.eq,hw.pt,hw.cl,hw.vr,hw.vs⟩,h.pos,⟨(h.ord.pm.swap hl).1,fun q p h2 hp hpt=>(no q p h2 hp hpt).elim,fun q p h2 hp hpt=>(no q p h2 hp hpt).elim⟩,h.tl⟩
theorem Tryz.infoIntE:(Tryz.prog.info? 3).map (fun i=>(i.zero,i.size,i.bytes))=some (some (.int .i64 0),1,8):=by kernel_rfl
theorem crossings_bare (b x y:Nat) (K:KV) (T:List DM) (q:KPtr) (w:World) (h:KerIn w b K T q) (hb:K.A.used=2) (hx:x<K.vars) :
  Calls Tryz.prog 157 #[.pointer (some ⟨b,0,none⟩),.int .i64 x,.int .i64 y] w fun e w'=>e=.returned (.slice none 0 0)/\Upd [] w w':=by
 have hT:x<T.length:=by rw [h.ti.len];exact hx
 have hD:T[x]?=some T[x]:=List.getElem?_eq_getElem hT;have hem:=h.ti.bare h.ok.wf hb hD
 have hsz:Maps.size T[x]<=1048576:=by
  obtain ⟨_,_,_,_,_,_,_,_,ho⟩:=h.mem.tab.cells hD;exact h.ti.size h.ok.wf hD (ho.canon nodeKeyed) (ho.tidy nodeKeyed)
 have HR:=Lib.hid (refs_empty q.t q.FT x T T[x] w h.mem.tab hD hem hsz);have c1:w.cell? ⟨b,1,none⟩=some (.pointer (some ⟨q.t,0,none⟩)):=cell_at h.mem.blk rfl;clear h hb hD hem hsz
 go_enter Tryz.func157,Tryz.ntmps157
 go_wp2_with fail;refine HR.out.mono ?_;rintro e w1 ⟨a,c,rfl,hu⟩;have HU:=Lib.hid hu;clear hu HR c1;go_wp2_with fail
 go_loopg [7,26] 0 (fun gg s7 s26 wr=>gg=0/\s7=.slice none 0 0/\s26=.int .i64 0/\wr=w1)
 case atStart=>exact ⟨rfl,rfl,rfl,rfl⟩
 case round =>
  obtain ⟨rfl,rfl,rfl,rfl⟩:=hrel;go_wp2_with fail;go_ret;exact ⟨rfl,HU.out⟩
theorem own_emptyN {W:World} {mb:Nat} (h:W.heap[mb]?=some (.map #[] 0)):W.ownsMap Tryz.prog 116 (plainElem (H:=Unit) Tryz.prog 3) mb 0 (.map []):=by
 obtain ⟨es,clock,q1,q2,q3,q4⟩:=World.ownsMap_made W Tryz.prog 116 (plainElem (H:=Unit) Tryz.prog 3);rw [heap_alloc_new] at q1;cases q1;exact ⟨#[],0,h,q2,Nat.zero_le _,rfl⟩
theorem rowN_cell {w:World} {base g n' c:Nat} {l:List Nat} {n:Nat} (h:w.ownsRow base 3 1 (.slice (some ⟨g,0,none⟩) n' c) n (flatN l)) {j:Nat} (hj:j<l.length):w.cell? ⟨g,j,none⟩=some (.int .i64 (l.getD j 0:Nat)) :=
 row_cell h (by rw [flatN,List.getElem?_map,getD_eq_some hj];rfl)
theorem fresh_none (b:Nat) (x:Int) (w:World):Calls Tryz.prog 159 #[.pointer (some ⟨b,0,none⟩),.int .i64 x,.slice none 0 0] w fun e w'=>e=.returned (.int .i64 0)/\Upd [] w w':=by
 have hmm:=@run_makeMap Tryz.prog;have HM:=Lib.hid (own_emptyN (heap_alloc_new w (.map #[] 0)));have HU:=Lib.hid ((Upd.refl [] w).alloc (.map #[] 0))
 go_enter Tryz.func159,Tryz.ntmps159
 go_wp2_with fail
 have hlen:=fun ty=>HM.out.len Tryz.underlying291 ty
 go_loopg [17] 0 (fun gg s17 wr=>gg=0/\s17=.int .i64 0/\wr=w.alloc (.map #[] 0))
 case atStart=>exact ⟨rfl,rfl,rfl⟩
 case round =>
  obtain ⟨rfl,rfl,rfl⟩:=hrel;go_wp2_with fail;go_ret;exact ⟨rfl,HU.out⟩
structure TurnE (b:Nat) (K:KV) (q:KPtr) (l:Nat) (T:List DM) (w w':World):Prop where
 mem:KerMem w' b (K.swapK l) T q
 up:Upd (q.all b) w w'
theorem turn_end {b l go gl co cl n1 n2:Nat} {K:KV} {T:List DM} {q:KPtr} {w:World} (hm:KerMem w b K T q) (ho:q.ov=.slice (some ⟨go,0,none⟩) n1 co) (hv:q.lv=.slice (some ⟨gl,0,none⟩) n2 cl) (h1:l<K.order.length) (h2:l+1<K.order.length)
  (h3:K.order.getD l 0<K.level.length) (h4:K.order.getD (l+1) 0<K.level.length) :
  KerMem ((((w.setCell ⟨go,l,none⟩ (.int .i64 (K.order.getD (l+1) 0:Nat))).setCell ⟨go,l+1,none⟩ (.int .i64 (K.order.getD l 0:Nat))).setCell ⟨gl,K.order.getD l 0,none⟩ (.int .i64 ((l:Int)+1))).setCell ⟨gl,K.order.getD (l+1) 0,none⟩ (.int .i64 l)).drew.drew b (K.swapK l) T q /\
  Upd (q.all b) w ((((w.setCell ⟨go,l,none⟩ (.int .i64 (K.order.getD (l+1) 0:Nat))).setCell ⟨go,l+1,none⟩ (.int .i64 (K.order.getD l 0:Nat))).setCell ⟨gl,K.order.getD l 0,none⟩ (.int .i64 ((l:Int)+1))).setCell ⟨gl,K.order.getD (l+1) 0,none⟩ (.int .i64 l)).drew.drew:=by
 have m1:=hm.setOrder (n:=K.order.getD (l+1) 0) ho h1;have m2:=m1.setOrder (n:=K.order.getD l 0) (r:=l+1) ho (by simpa using h2);have m3:=m2.setLevel (n:=l+1) (r:=K.order.getD l 0) hv h3;have m4:=m3.setLevel (n:=l) (r:=K.order.getD (l+1) 0) hv (by rw [List.length_set];exact h4);have go1:go∈q.all b:=KPtr.mem.2 (.inr (.inr (.inr (.inr (.inr (.inl (by rw [ho];rfl)))))));have gl1:gl∈q.all b:=KPtr.mem.2 (.inr (.inr (.inr (.inr (.inr (.inr (.inl (by rw [hv];rfl))))))))
 exact ⟨(m4.upd ((Upd.refl [] _).drew) (by simp)).upd ((Upd.refl [] _).drew) (by simp),
  ((((((Upd.refl (q.all b) w).setCell (p:=⟨go,l,none⟩) (.inl go1) _).setCell (p:=⟨go,l+1,none⟩) (.inl go1) _).setCell (p:=⟨gl,_,none⟩) (.inl gl1) _).setCell (p:=⟨gl,_,none⟩) (.inl gl1) _).drew).drew⟩
theorem turn_bare (b l:Nat) (K:KV) (T:List DM) (q:KPtr) (w:World) (h:KerIn w b K T q) (hb:K.A.used=2) (hl:l+2<=K.vars) :
  Calls Tryz.prog 87 #[.pointer (some ⟨b,0,none⟩),.int .i64 l] w fun e w'=>e=.returned (.bool true)/\TurnE b K q l T w w':=by
 have hw:=h.ok.wf;have hpm:=h.ok.ord.pm;have hvs:=hw.vs;have hol:=hpm.ol;have hll:=hpm.ll;have hx:=hpm.oo l (by omega);have hy:=hpm.oo (l+1) (by omega);obtain ⟨x,hxe⟩ : ∃ x,K.order.getD l 0=x:=⟨_,rfl⟩;obtain ⟨y,hye⟩ : ∃ y,K.order.getD (l+1) 0=y:=⟨_,rfl⟩
 have hxv:x<K.vars:=by rw [<- hxe];exact hx.1
 have hyv:y<K.vars:=by rw [<- hye];exact hy.1
 have hos:=h.mem.os;have hls:=h.mem.ls;obtain ⟨go,co,hqo,_,_⟩:=hos.form (by omega);obtain ⟨gl,cl,hql,_,_⟩:=hls.form (by omega);have HQ:=Lib.hid (And.intro hqo hql);rw [hqo] at hos;rw [hql] at hls
 have b5:w.cell? ⟨b,5,none⟩=some (.slice (some ⟨go,0,none⟩) K.order.length co):=by rw [<- hqo];exact cell_at h.mem.blk rfl
 have o0:w.cell? ⟨go,l,none⟩=some (.int .i64 x):=by rw [<- hxe];exact rowN_cell hos (by omega)
 have o1:w.cell? ⟨go,l+1,none⟩=some (.int .i64 y):=by rw [<- hye];exact rowN_cell hos (by omega)
 have hli:(l:Int)<(K.order.length:Int):=by omega
 have hli1:(l:Int)+1<(K.order.length:Int):=by omega
 have hli2:0<=(l:Int)+1:=by omega
 have hw1:IntKind.i64.wrap ((l:Int)+1)=(l:Int)+1:=IntWalk.i64_in _ (by omega);have HK:=Lib.hid h;have HB:=Lib.hid hb;clear hos hls hx hy;clear h hb hqo hql
 go_enter Tryz.func87,Tryz.ntmps87
 go_wp2_with fail
 go_region
 have HK1:=Lib.hid (HK.out.upd ((Upd.refl [] w).drew) (by simp));clear b5 o0 o1;go_wp2_with fail;refine (crossings_bare b x y K T q _ HK1.out HB.out hxv).mono ?_;rintro e w1 ⟨rfl,hu⟩;have HU1:=Lib.hid (((Upd.refl [] w).drew).trans hu);clear hu HK1;go_wp2_with fail
 have HF:Hid (∀ n:Still w1,Calls Tryz.prog 159 #[.pointer (some ⟨b,0,none⟩),.int .i64 x,.slice none 0 0] n.x fun e w2=>e=.returned (.int .i64 0)/\∃ m:Still w1,w2=m.x):=fun n =>
  (fresh_none b x n.x).mono fun _ _ ⟨a,u⟩=>⟨a,⟨_,n.u.trans u⟩,rfl⟩
 have hroom:K.room 0=true:=by
  have h1:=HB.out;have h2:=HK.out.ok.wf.ok.us;have h3:=HK.out.ok.wf.ok.l2;have h4:=HK.out.ok.wf.ok.lp
  simp [KV.room];omega
 have HR:Hid (∀ n:Still w1,Calls Tryz.prog 158 #[.pointer (some ⟨b,0,none⟩),.int .i64 0] n.x fun e w2=>e=.returned (.bool true)/\∃ m:Still w1,w2=m.x):=fun n =>
  (room_spec b 0 K T q n.x ((HK.out.upd HU1.out (by simp)).upd n.u (by simp)).mem (by omega) (by omega)).mono fun _ _ ⟨a,u⟩=>⟨by rw [a,hroom],⟨_,n.u.trans u⟩,rfl⟩
 clear hroom;refine wp_region_still (by kernel_rfl) (by kernel_rfl) ?_
 repeat (quiet_step ((first | (go_at_call 159;exact HF.out _) | (go_at_call 158;exact HR.out _))))
 refine wpQuiet_nil ?_;rintro _ ⟨n2,rfl⟩;have HU2:=Lib.hid (HU1.out.trans n2.u);clear HF HR;go_wp2_with fail
 go_loopg [47] 0 (fun gg s47 wr=>gg=0/\s47=.int .i64 0/\wr=n2.x)
 case atStart=>exact ⟨rfl,rfl,rfl⟩
 case round =>
  obtain ⟨rfl,rfl,rfl⟩:=hrel;go_wp2_with fail
  go_loopg [62] 0 (fun gg s62 wr=>gg=0/\s62=.int .i64 0/\wr=n2.x)
  case atStart=>exact ⟨rfl,rfl,rfl⟩
  case round =>
   obtain ⟨rfl,rfl,rfl⟩:=hrel;go_wp2_with fail
   go_loopg [119] 0 (fun gg s119 wr=>gg=0/\s119=.int .i64 0/\wr=n2.x)
   case atStart=>exact ⟨rfl,rfl,rfl⟩
   case round =>
    obtain ⟨rfl,rfl,rfl⟩:=hrel;have hm:=(HK.out.upd HU2.out (by simp)).mem;have hos:=hm.os;have hls:=hm.ls;rw [HQ.out.1] at hos;rw [HQ.out.2] at hls
    have b5:n2.x.cell? ⟨b,5,none⟩=some (.slice (some ⟨go,0,none⟩) K.order.length co):=by rw [<- HQ.out.1];exact cell_at hm.blk rfl
    have b6:n2.x.cell? ⟨b,6,none⟩=some (.slice (some ⟨gl,0,none⟩) K.level.length cl):=by rw [<- HQ.out.2];exact cell_at hm.blk rfl
    have o0:n2.x.cell? ⟨go,l,none⟩=some (.int .i64 (K.order.getD l 0:Nat)):=rowN_cell hos (by omega);have o1:n2.x.cell? ⟨go,l+1,none⟩=some (.int .i64 (K.order.getD (l+1) 0:Nat)):=rowN_cell hos (by omega);have l0:n2.x.cell? ⟨gl,x,none⟩=some (.int .i64 (K.lev x:Nat)):=rowN_cell hls (by omega);have l1:n2.x.cell? ⟨gl,y,none⟩=some (.int .i64 (K.lev y:Nat)):=rowN_cell hls (by omega);have f0:=row_frozen hos l;have f1:=row_frozen hos (l+1);have g0:=row_frozen hls x;have g1:=row_frozen hls y
    have hxl:(x:Int)<(K.level.length:Int):=by omega
    have hyl:(y:Int)<(K.level.length:Int):=by omega
    have hgo:go≠gl:=by
     rintro rfl;have e1:=hm.oo go (by rw [HQ.out.1];rfl);have e2:=hm.ol go (by rw [HQ.out.2];rfl);omega
    have hbo:b≠go:=by
     rintro rfl;have e1:=hm.oo b (by rw [HQ.out.1];rfl);have e2:=hm.ob;omega
    have hbl:b≠gl:=by
     rintro rfl;have e1:=hm.ol b (by rw [HQ.out.2];rfl);have e2:=hm.ob;omega
    have hxy:x≠y:=fun e=>by
     have h1:=(hpm.oo l (by omega)).2;have h2:=(hpm.oo (l+1) (by omega)).2
     rw [hxe] at h1;rw [hye] at h2;rw [e] at h1;omega
    have HM:=Lib.hid hm;clear hm hos hls;go_wp2_with fail
    go_region
    go_wp2_with fail
    go_region
    go_wp2_with fail;go_ret;refine ⟨rfl,?_⟩;have:=turn_end (l:=l) HM.out HQ.out.1 HQ.out.2 (by omega) (by omega) (by rw [hxe];omega) (by rw [hye];omega);rw [hxe,hye] at this;exact ⟨this.1,HU2.out.trans0 this.2⟩
def KV.exchK (K:KV) (l:Nat):KV:={ K.swapK l with trail:=K.trail++[l] }
theorem KV.Ok.exch_bare {K:KV} (h:K.Ok) (hb:K.A.used=2) {l:Nat} (hl:l+2<=K.vars):(K.exchK l).Ok:=by
 have hs:=h.swap_bare hb hl;refine ⟨⟨hs.wf.ok,hs.wf.len,hs.wf.ul,hs.wf.tu,hs.wf.ht,hs.wf.hm,hs.wf.eq,hs.wf.pt,hs.wf.cl,hs.wf.vr,hs.wf.vs⟩,hs.pos,hs.ord.same rfl rfl rfl rfl,fun x hx=>?_⟩
 rcases List.mem_append.1 hx with hx | hx
 ·exact h.tl x hx
 ·simp at hx;subst hx;exact hl
structure ExchE (b:Nat) (K:KV) (l:Int) (q:KPtr) (w:World) (e:Ending) (w':World):Prop where
 ex:∃ (code:Int) (K':KV) (T':List DM) (q':KPtr),e=.returned (.int .i64 code)/\((code=1/\(l<0\/(K.vars:Int)-2<l)/\K'=K)\/(code=0/\0<=l/\l<=(K.vars:Int)-2/\K'=K.exchK l.toNat))/\KerIn w' b K' T' q'/\Upd (q.all b) w w'/\Sub (q.all b) w (q'.all b)
theorem exchange_bare (b:Nat) (l:Int) (K:KV) (T:List DM) (q:KPtr) (w:World) (h:KerIn w b K T q) (hb:K.A.used=2) (htr:K.trail.length<=1000000) :
  Calls Tryz.prog 29 #[.pointer (some ⟨b,0,none⟩),.int .i64 l] w fun e w'=>ExchE b K l q w e w':=by
 obtain ⟨ti,hi0,hz0,hz1',hz2⟩:=info_parts Tryz.infoIntE;have HI:=Lib.hid (And.intro hi0 (And.intro hz0 (And.intro hz1' hz2)));have hvs:=h.ok.wf.vs;have c4:w.cell? ⟨b,4,none⟩=some (.int .i64 K.vars):=cell_at h.mem.blk rfl;have HK:=Lib.hid h;have HB:=Lib.hid hb;clear h hb hi0 hz0 hz1' hz2
 by_cases h0:l<0
 ·have hd0:decide (l<0)=true:=by simpa using h0
  go_enter Tryz.func29,Tryz.ntmps29
  go_wp2_with fail;go_ret;exact ⟨1,K,T,q,rfl,.inl ⟨rfl,.inl h0,rfl⟩,HK.out,Upd.refl _ _,Sub.refl _ _⟩
 ·have hd0:decide (l<0)=false:=by simpa using h0
  have hsub:IntKind.i64.wrap ((K.vars:Int)-2)=(K.vars:Int)-2:=IntWalk.i64_in _ (by omega)
  by_cases h1:(K.vars:Int)-2<l
  ·have hd1:decide ((K.vars:Int)-2<l)=true:=by simpa using h1
   go_enter Tryz.func29,Tryz.ntmps29
   go_wp2_with fail;go_ret;exact ⟨1,K,T,q,rfl,.inl ⟨rfl,.inr h1,rfl⟩,HK.out,Upd.refl _ _,Sub.refl _ _⟩
  ·have hd1:decide ((K.vars:Int)-2<l)=false:=by simpa using h1
   obtain ⟨n,rfl⟩ : ∃ n:Nat,l=(n:Int):=⟨l.toNat,by omega⟩;have HT:=Lib.hid (turn_bare b n K T q w HK.out HB.out (by omega))
   go_enter Tryz.func29,Tryz.ntmps29
   go_wp2_with fail;refine HT.out.mono ?_;rintro e w1 ⟨rfl,hm,hu⟩;have hrow:=hm.ts;obtain ⟨fa,fc,hfv,_⟩:=row_nil_len hrow
   have hb7:w1.cell? ⟨b,7,none⟩=some (.slice fa K.trail.length fc):=by rw [show Value.slice fa K.trail.length fc=q.tv from hfv.symm];exact cell_at hm.blk rfl
   rw [hfv] at hrow;have HROW:Hid (w1.ownsRow 0 3 1 (.slice fa K.trail.length fc) K.trail.length (flatN K.trail)):=hrow;have HFV:=Lib.hid hfv;have HM:=Lib.hid (And.intro hm hu);have hbl:=heap_lt hm.blk
   have HC2:Hid (∀ u,u∈[Value.int .i64 n]->u.oneCell'=true):=by intro u hu;simp at hu;subst hu;rfl
   clear hm hu hrow hfv HT c4
   go_wp2_with (at_builtin;go_must (refine wpList_append_lies _ rfl (.tmp 29) (.tmp 31) 23 rfl 0 3 ti _ 1 8 Tryz.underlying23 HI.out.1 HI.out.2.1 HI.out.2.2.1 HI.out.2.2.2 (by rfl) (by decide) _ K.trail.length (flatN K.trail) rfl (HROW.out.alloc _) ⟨w1.heap.size,0,none⟩ 1 1 [.int .i64 n] rfl rfl ?c1 HC2.out (by omega) (by unfold maxLen;omega) (by omega) (by omega) _ rfl ?_))
   case c1=>exact World.news_of_block (heap_alloc_new w1 (.cells #[.int .i64 n] 3 (0,0)))
   intro g5 cap w5 hown hgr hat hlt5
   have hat':(Value.slice fa K.trail.length fc).ownBlock=some g5\/g5=w1.heap.size+1:=hat
   have hbk5:w5.heap[b]?=w1.heap[b]?:=by
    have hne:some b≠(Value.slice fa K.trail.length fc).ownBlock:=by
     intro e
     have e1:=HM.out.1.ob;have e2:=HM.out.1.ox b (by rw [HFV.out];exact e.symm);omega
    rw [hgr.block b (by rw [World.size_alloc];omega) hne,Below.heap_alloc _ _ _ hbl]
   rw [HM.out.1.blk] at hbk5;have fz:w5.frozen? ⟨b,7,none⟩=false:=frozen_at 7 hbk5;have c57:w5.cell? ⟨b,7,none⟩=some q.tv:=cell_at hbk5 rfl
   have HE:Hid (∃ q',KerMem (w5.setCell ⟨b,7,none⟩ (.slice (some ⟨g5,0,none⟩) (K.trail.length+1) cap)) b (K.exchK n) T q'/\Upd (q.all b) w (w5.setCell ⟨b,7,none⟩ (.slice (some ⟨g5,0,none⟩) (K.trail.length+1) cap))/\Sub (q.all b) w (q'.all b)):=by
    have m:=HM.out.1.growTrail (g5:=g5) (cap:=cap) (l:=n) (by rw [HFV.out];exact hgr) (by rw [HFV.out];exact hat') hown;refine ⟨_,m,?_,fun k hk=>?_⟩
    ·have hbm:b∈q.all b:=KPtr.mem.2 (.inl rfl)
     have u5:Upd (q.all b) w w5:=(HM.out.2.alloc (.cells #[.int .i64 n] 3 (0,0))).grown hgr fun k hk=>.inl (KPtr.mem.2 (.inr (.inr (.inr (.inr (.inr (.inr (.inr (by rw [HFV.out];exact hk)))))))))
     exact u5.setCell (p:=⟨b,7,none⟩) (.inl hbm) _
    ·simp only [KPtr.mem] at hk ⊢
     rcases hk with hk | hk | hk | hk | hk | hk | hk | hk
     ·exact .inl (.inl hk)
     ·exact .inl (.inr (.inl hk))
     ·exact .inl (.inr (.inr (.inl hk)))
     ·exact .inl (.inr (.inr (.inr (.inl hk))))
     ·exact .inl (.inr (.inr (.inr (.inr (.inl hk)))))
     ·exact .inl (.inr (.inr (.inr (.inr (.inr (.inl hk))))))
     ·exact .inl (.inr (.inr (.inr (.inr (.inr (.inr (.inl hk)))))))
     ·simp [Value.ownBlock] at hk;subst hk
      rcases hat' with e | e
      ·exact .inl (.inr (.inr (.inr (.inr (.inr (.inr (.inr (by rw [HFV.out];exact e))))))))
      ·have:=HM.out.2.size;right;omega
   clear hown hgr hat hat' hlt5 hbk5 hb7;go_wp2_with fail;go_ret;obtain ⟨q',m,u,s⟩:=HE.out;exact ⟨0,K.exchK n,T,q',rfl,.inr ⟨rfl,by omega,by omega,by simp⟩,⟨m,HK.out.ti.same rfl rfl,HK.out.ok.exch_bare HB.out (by omega)⟩,u,s⟩
end Go.Proofs.YtfkopmhpppeheaaGreat
namespace Go.Proofs.YtfkopmhpppeheaaGreat
theorem holdL_mem:∀ {H:List (TV × Nat)} {t:TV} {c:Nat},(H.map (·.1)).Nodup->(t,c)∈H->holdL H t=c
 | [],_,_,_,h=>by cases h
 | a::H,t,c,hn,h=>by
  rw [List.map_cons,List.nodup_cons] at hn
  rcases List.mem_cons.1 h with rfl | h
  ·simp [holdL]
  ·have:a.1≠t:=fun e=>hn.1 (by rw [e];exact List.mem_map.2 ⟨_,h,rfl⟩)
   simp only [holdL,if_neg this]
   exact holdL_mem hn.2 h
theorem mem_of_holdL:∀ {H:List (TV × Nat)} {t:TV},0<holdL H t->(t,holdL H t)∈H
 | [],_,h=>by simp [holdL] at h
 | a::H,t,h=>by
  by_cases e:a.1=t
  ·simp only [holdL,if_pos e];rw [<- e];simp
  ·simp only [holdL,if_neg e] at h ⊢
   exact List.mem_cons_of_mem _ (mem_of_holdL h)
theorem mem_incL:∀ {H:List (TV × Nat)} {t u:TV} {c:Nat},(H.map (·.1)).Nodup->((u,c)∈incL H t↔(u≠t/\(u,c)∈H)\/(u=t/\c=holdL H t+1))
 | [],t,u,c,_=>by simp [incL,holdL]
 | a::H,t,u,c,hn=>by
  rw [List.map_cons,List.nodup_cons] at hn
  by_cases e:a.1=t
  ·simp only [incL,if_pos e,holdL,List.mem_cons]
   have hno:∀ d,(t,d)∉H:=fun d hd=>hn.1 (by rw [e];exact List.mem_map.2 ⟨_,hd,rfl⟩)
   constructor
   ·rintro (h | h)
    ·right
     have h1:=congrArg Prod.fst h;have h2:=congrArg Prod.snd h;exact ⟨h1.trans e,h2⟩
    ·refine .inl ⟨fun h1=>hno c (by rw [<- h1];exact h),.inr h⟩
   ·rintro (⟨h1,h | h⟩ | ⟨h1,h2⟩)
    ·exact absurd (by rw [<- e,<- h]) h1
    ·exact .inr h
    ·left;rw [h1,h2,<- e]
  ·simp only [incL,if_neg e,holdL,List.mem_cons,mem_incL (t:=t) (u:=u) (c:=c) hn.2]
   constructor
   ·rintro (h | h | h)
    ·exact .inl ⟨fun h1=>e (by rw [<- h1,<- h]),.inl h⟩
    ·exact .inl ⟨h.1,.inr h.2⟩
    ·exact .inr h
   ·rintro (⟨h1,h | h⟩ | h)
    ·exact .inl h
    ·exact .inr (.inl ⟨h1,h⟩)
    ·exact .inr (.inr h)
theorem incL_keys (H:List (TV × Nat)) (t:TV):(incL H t).map (·.1)=if t∈H.map (·.1) then H.map (·.1) else H.map (·.1)++[t]:=by
 induction H with
 | nil=>simp [incL]
 | cons a H ih =>
  by_cases e:a.1=t
  ·simp [incL,e]
  ·simp only [incL,if_neg e,List.map_cons,ih,List.mem_cons]
   by_cases h:t∈H.map (·.1)
   ·rw [if_pos h,if_pos (.inr h)]
   ·rw [if_neg h,if_neg (by rintro (h1 | h1);exact e h1.symm;exact h h1)];rfl
theorem incL_nodup {H:List (TV × Nat)} (h:(H.map (·.1)).Nodup) (t:TV):((incL H t).map (·.1)).Nodup:=by
 rw [incL_keys];split
 ·exact h
 ·rename_i hn
  rw [List.nodup_append];exact ⟨h,by simp,fun a ha b hb e=>by simp at hb;subst hb;subst e;exact hn ha⟩
theorem incL_len (H:List (TV × Nat)) (t:TV):(incL H t).length<=H.length+1:=by
 have h:=congrArg List.length (incL_keys H t);rw [List.length_map] at h
 rw [h];split <;> simp
structure Agr (K:KV) (M:MV):Prop where
 same:Same K M
 c:M.c=K.A.places
 nd:(M.held.map (·.1)).Nodup
 hl:∀ t c,(t,c)∈M.held->t.Ok/\t.n=K.vars/\∃ r,2<=r/\K.A.tk r=true/\K.hold r=c/\0<c/\∀ y,K.den r y=t.fn y
 lh:∀ r,0<K.hold r->∃ t c,(t,c)∈M.held/\K.hold r=c/\∀ y,K.den r y=t.fn y
theorem Agr.roots {K:KV} {M:MV} (h:Agr K M):RootsT K M.tabs:=by
 refine ⟨fun r hr=>?_,fun t ht=>?_,fun t ht=>?_⟩
 ·obtain ⟨t,c,hm,_,hd⟩:=h.lh r hr
  exact ⟨t,List.mem_map.2 ⟨_,hm,rfl⟩,hd⟩
 ·obtain ⟨⟨t',c⟩,hm,rfl⟩:=List.mem_map.1 ht
  obtain ⟨_,_,r,_,h2,_,_,h3⟩:=h.hl t' c hm;exact ⟨r,h2,h3⟩
 ·obtain ⟨⟨t',c⟩,hm,rfl⟩:=List.mem_map.1 ht
  obtain ⟨h1,h2,_⟩:=h.hl t' c hm;exact ⟨h1,h2⟩
theorem MV.lev_flat {K:KV} {M:MV} (h:Same K M):M.lev.flatten=flatT M.tabs K.order:=by rw [<- h.od];rfl
theorem Agr.used {K:KV} {M:MV} (h:Agr K M) (hk:K.Ok) (hu:K.Uni) (hn:K.vars<=16):K.A.used=M.lev.flatten.length+2:=by
 rw [MV.lev_flat h.same];exact h.roots.used hk hu hn
def Names (K:KV) (r:Nat) (t:TV):Prop:=K.A.tk r=true/\∀ y,K.den r y=t.fn y
theorem Names.eq {K:KV} (hk:K.Ok) (hu:K.Uni) {r s:Nat} {t:TV} (h1:Names K r t) (h2:Names K s t):r=s :=
 KV.canon hk.wf hk.ord hu _ _ _ h1.1 h2.1 (Nat.le_refl _) fun y=>by rw [h1.2,h2.2]
theorem Names.teq {K:KV} {r:Nat} {t u:TV} (h1:Names K r t) (h2:Names K r u) (ht:t.Ok) (hu:u.Ok) (hn:t.n=u.n):t=u :=
 TV.fn_ext ht hu hn fun y=>by rw [<- h1.2,<- h2.2]
theorem Names.ext {K K':KV} {r:Nat} {t:TV} (h:Names K r t) (hk:K.Ok) (e:K.Ext K'):Names K' r t:=⟨e.tk h.1,fun y=>by rw [e.den hk.wf y h.1];exact h.2 y⟩
theorem Agr.holds {K:KV} {M:MV} (h:Agr K M) (hk:K.Ok) (hu:K.Uni) {r:Nat} {t:TV} (ht:t.Ok) (hn:t.n=K.vars) (hr:Names K r t):M.holds t=K.hold r:=by
 unfold MV.holds
 by_cases h0:0<K.hold r
 ·obtain ⟨u,c,hm,hc,hd⟩:=h.lh r h0
  obtain ⟨h1,h2,_⟩:=h.hl u c hm;have:u=t:=Names.teq ⟨hr.1,hd⟩ hr h1 ht (h2.trans hn.symm);subst this;rw [holdL_mem h.nd hm,hc]
 ·by_cases h1:0<holdL M.held t
  ·obtain ⟨_,_,s,h2,h3,h4,h5,h6⟩:=h.hl t _ (mem_of_holdL h1)
   have:s=r:=Names.eq hk hu ⟨h3,h6⟩ hr
   subst this;omega
  ·omega
theorem Agr.holds0 {K:KV} {M:MV} (h:Agr K M) {t:TV} (hno:∀ r,¬ Names K r t):M.holds t=0:=by
 unfold MV.holds
 by_cases h1:0<holdL M.held t
 ·obtain ⟨_,_,s,h2,h3,h4,h5,h6⟩:=h.hl t _ (mem_of_holdL h1)
  exact absurd ⟨h3,h6⟩ (hno s)
 ·omega
theorem const_names {K:KV} (hk:K.Ok) (b:Bool) {n:Nat}:Names K (if b then 1 else 0) (constT n b) :=
 ⟨hk.tk_const (by cases b <;> simp),fun y=>by rw [constT_fn,K.den_const (by cases b <;> simp)];cases b <;> rfl⟩
theorem TV.isC_iff {t:TV}:t.isC=true↔∃ b,t=constT t.n b:=by
 unfold TV.isC;rw [Bool.or_eq_true,decide_eq_true_eq,decide_eq_true_eq];constructor
 ·rintro (h | h)
  ·exact ⟨false,h⟩
  ·exact ⟨true,h⟩
 ·rintro ⟨b,h⟩
  cases b
  ·exact .inl h
  ·exact .inr h
theorem isC_names {K:KV} (hk:K.Ok) (hu:K.Uni) (hn:K.vars<=16) {r:Nat} {t:TV} (ht:t.Ok) (htn:t.n=K.vars) (h:Names K r t):t.isC=true↔r<2:=by
 constructor
 ·intro hc
  obtain ⟨b,hb⟩:=TV.isC_iff.1 hc;have h1:=const_names hk b (n:=t.n);rw [<- hb] at h1;have:=Names.eq hk hu h h1
  cases b <;> simp at this <;> omega
 ·intro h2
  refine TV.isC_iff.2 ⟨r == 1,TV.fn_ext ht (mkT_ok _ (by rw [htn];exact hn)) rfl fun y=>?_⟩;rw [<- h.2,K.den_const h2,constT_fn]
theorem Agr.same_kernel {K K':KV} {M:MV} (h:Agr K M) (hk:K.Ok) (e:K.Ext K') (hd:∀ x,K'.hold x=K.hold x):Agr K' M:=by
 refine ⟨h.same.ext e,h.c.trans e.pl.symm,h.nd,fun t c hm=>?_,fun r hr=>?_⟩
 ·obtain ⟨h1,h2,r,h3,h4,h5,h6,h7⟩:=h.hl t c hm
  exact ⟨h1,by rw [e.vr];exact h2,r,h3,e.tk h4,by rw [hd];exact h5,h6,fun y=>by rw [e.den hk.wf y h4];exact h7 y⟩
 ·rw [hd] at hr
  obtain ⟨t,c,h1,h2,h3⟩:=h.lh r hr;exact ⟨t,c,h1,by rw [hd];exact h2,fun y=>by rw [e.den hk.wf y (hk.wf.ht r hr).2];exact h3 y⟩
theorem Agr.step {K K':KV} {M:MV} (h:Agr K M) (hk:K.Ok) (hu:K.Uni) (hk':K'.Ok) (hu':K'.Uni) (hn:K.vars<=16) {t:TV} (ht:t.Ok) (htn:t.n=K.vars) (e:K.Ext K') {r:Nat} (hr:Names K' r t)
  (hd:∀ x,K'.hold x=K.hold x+if x=r/\2<=r then 1 else 0):M.hold1E t=0/\Agr K' (M.hold1 t):=by
 have hn':K'.vars<=16:=by rw [e.vr];exact hn
 cases hc:t.isC with
 | true =>
  have h2:=(isC_names hk' hu' hn' ht (by rw [e.vr];exact htn) hr).1 hc;refine ⟨by unfold MV.hold1E;rw [if_pos hc],?_⟩;rw [MV.hold1,if_pos hc]
  exact h.same_kernel hk e fun x=>by rw [hd,if_neg (by omega)];rfl
 | false =>
  have h2:2<=r:=by
   by_cases h2:2<=r
   ·exact h2
   ·have:=(isC_names hk' hu' hn' ht (by rw [e.vr];exact htn) hr).2 (by omega)
    rw [hc] at this;cases this
  have hq:M.holds t=K.hold r:=by
   by_cases hl:K.A.tk r=true
   ·exact h.holds hk hu ht htn ⟨hl,fun y=>by rw [<- e.den hk.wf y hl];exact hr.2 y⟩
   ·have h0:K.hold r=0:=by
     by_cases h0:K.hold r=0
     ·exact h0
     ·exact absurd (hk.wf.ht r (by omega)).2 hl
    rw [h0]
    refine h.holds0 fun s hs=>hl ?_
    have:=Names.eq hk' hu' (hs.ext hk e) hr
    subst this;exact hs.1
  have hm:=hk'.wf.hm r;rw [hd,if_pos ⟨rfl,h2⟩] at hm;refine ⟨by unfold MV.hold1E;rw [if_neg (by rw [hc];simp),if_neg (by omega)],?_⟩;rw [MV.hold1,if_neg (by rw [hc];simp),if_neg (by omega)];refine ⟨⟨h.same.od.trans e.od.symm,h.same.n.trans e.vr.symm⟩,h.c.trans e.pl.symm,incL_nodup h.nd t,fun u c hm=>?_,fun x hx=>?_⟩
  ·rcases (mem_incL h.nd).1 hm with ⟨h1,h3⟩ | ⟨rfl,h3⟩
   ·obtain ⟨a1,a2,s,a3,a4,a5,a6,a7⟩:=h.hl u c h3
    refine ⟨a1,by rw [e.vr];exact a2,s,a3,e.tk a4,?_,a6,fun y=>by rw [e.den hk.wf y a4];exact a7 y⟩
    rw [hd,if_neg,a5];rfl
    rintro ⟨rfl,_⟩;exact h1 (Names.teq (K:=K') ⟨e.tk a4,fun y=>by rw [e.den hk.wf y a4];exact a7 y⟩ hr a1 ht (a2.trans htn.symm))
   ·refine ⟨ht,by rw [e.vr];exact htn,r,h2,hr.1,?_,by omega,hr.2⟩
    rw [hd,if_pos ⟨rfl,h2⟩,h3]
    show _=M.holds u+1
    rw [hq]
  ·by_cases ex:x=r
   ·subst ex
    refine ⟨t,holdL M.held t+1,(mem_incL h.nd).2 (.inr ⟨rfl,rfl⟩),?_,hr.2⟩;rw [hd,if_pos ⟨rfl,h2⟩]
    show _=M.holds t+1
    rw [hq]
   ·rw [hd,if_neg (fun k=>ex k.1)] at hx
    obtain ⟨u,c,a1,a2,a3⟩:=h.lh x (by omega);have hxt:=(hk.wf.ht x (by omega)).2;refine ⟨u,c,(mem_incL h.nd).2 (.inl ⟨?_,a1⟩),by rw [hd,if_neg (fun k=>ex k.1)];exact a2,fun y=>by rw [e.den hk.wf y hxt];exact a3 y⟩;rintro rfl;exact ex (Names.eq hk' hu' (Names.ext ⟨hxt,a3⟩ hk e) hr)
theorem Agr.roots_len {K:KV} {M:MV} (h:Agr K M) (hk:K.Ok) (hu:K.Uni) (hn:K.vars<=16):K.roots.length=M.held.length:=by
 have e:(K.roots.map K.tab).length=(M.held.map (·.1)).length:=by
  have nd:(K.roots.map K.tab).Nodup:=List.pairwise_map.2 (List.Pairwise.imp_of_mem (fun {a b} ha hb hne e=>hne (hk.tab_inj hu (hk.wf.ht a (KV.mem_roots.1 ha)).2 (hk.wf.ht b (KV.mem_roots.1 hb)).2 e)) K.roots_nodup);refine Nat.le_antisymm (List.Nodup.length_le_of_subset nd fun u hm=>?_) (List.Nodup.length_le_of_subset h.nd fun u hm=>?_)
  ·obtain ⟨r,hr,rfl⟩:=List.mem_map.1 hm
   have h0:=KV.mem_roots.1 hr;obtain ⟨t,c,a1,a2,a3⟩:=h.lh r h0;obtain ⟨b1,b2,_⟩:=h.hl t c a1;exact List.mem_map.2 ⟨_,a1,(hk.tab_eq hn (hk.wf.ht r h0).2 b1 b2 a3).symm⟩
  ·obtain ⟨⟨t,c⟩,hm',rfl⟩:=List.mem_map.1 hm
   obtain ⟨b1,b2,r,b3,b4,b5,b6,b7⟩:=h.hl t c hm';exact List.mem_map.2 ⟨r,KV.mem_roots.2 (by omega),hk.tab_eq hn b4 b1 b2 b7⟩
 rw [List.length_map,List.length_map] at e;exact e
theorem Agr.fits_yes {K K':KV} {M:MV} (h:Agr K M) (hk:K.Ok) (hk':K'.Ok) (hu':K'.Uni) (hn:K.vars<=16) {t:TV} (ht:t.Ok) (htn:t.n=K.vars) (e:K.Ext K') {r:Nat} (hr:Names K' r t) (hd:∀ x,K'.hold x=K.hold x+if x=r/\2<=r then 1 else 0):M.fits [t]=true:=by
 have hR:=h.roots
 have hR':RootsT K' (M.tabs++[t]):=by
  refine ⟨fun x hx=>?_,fun u hm=>?_,fun u hm=>?_⟩
  ·by_cases ex:x=r
   ·subst ex;exact ⟨t,by simp,hr.2⟩
   ·rw [hd,if_neg (fun k=>ex k.1)] at hx
    obtain ⟨u,hm,hd'⟩:=hR.rt x (by omega);exact ⟨u,by simp [hm],fun y=>by rw [e.den hk.wf y (hk.wf.ht x (by omega)).2];exact hd' y⟩
  ·rcases List.mem_append.1 hm with hm | hm
   ·obtain ⟨x,a1,a2⟩:=hR.lr u hm
    exact ⟨x,e.tk a1,fun y=>by rw [e.den hk.wf y a1];exact a2 y⟩
   ·simp at hm;subst hm;exact ⟨r,hr.1,hr.2⟩
  ·rw [e.vr]
   rcases List.mem_append.1 hm with hm | hm
   ·exact hR.ok u hm
   ·simp at hm;subst hm;exact ⟨ht,htn⟩
 have h1:=hR'.used hk' hu' (by rw [e.vr];exact hn);have h2:=hk'.wf.ok.lp;have h3:=hk'.wf.ok.us;unfold MV.fits;rw [decide_eq_true_eq,h.same.od,<- e.od,h.c,<- e.pl];omega
theorem Agr.fits_no {K:KV} {M:MV} (h:Agr K M) (hk:K.Ok) (hn:K.vars<=16) {t:TV} (ht:t.Ok) (htn:t.n=K.vars) (hno:NoFitW K (K.SubN t.fn)):M.fits [t]=false:=by
 have:=h.roots.nofit hk hn ht htn hno;unfold MV.fits;rw [decide_eq_false_iff_not,h.same.od,h.c];omega
theorem Agr.new {n c:Nat} (h1:1<=n) (hn:n<=64) (h2:2<=c) (hc:c<=1048576):Agr (KV.new n c) (MV.new n c):=by
 have hp:=plain_new h1 hn h2 hc;refine ⟨⟨rfl,rfl⟩,rfl,by simp [MV.new],fun t d h=>by simp [MV.new] at h,fun r hr=>?_⟩
 have h0:(KV.new n c).hold r=0:=by simp [KV.new,KV.hold]
 omega
theorem flatT_nil (o:List Nat):flatT [] o=[]:=by
 refine List.eq_nil_iff_forall_not_mem.2 fun u hu=>?_
 have key:∀ (o:List Nat),(levT (unlikeT []) o).flatten=[]:=fun o=>by
  have e:unlikeT []=[]:=rfl;rw [e]
  induction o with
  | nil=>rfl
  | cons a o ih=>exact ih
 unfold flatT at hu
 rw [key] at hu;cases hu
theorem MV.U_nil {M:MV} (h:M.held=[]) (l:Nat):M.U l=0:=by
 have e:M.tabs=[]:=by unfold MV.tabs;rw [h];rfl
 unfold MV.U MV.lev;rw [e];have h1:=flatT_nil M.order;have h2:=flatT_nil (turnL M.order l);unfold flatT at h1 h2
 rw [h1,h2];rfl
theorem Agr.exch_bare {K:KV} {M:MV} (h:Agr K M) (hb:M.held=[]) (h2:2<=K.A.places) (l:Int):(M.exchE l=if l<0\/(K.vars:Int)-2<l then 1 else 0)/\(M.exch l).held=[] /\
  (¬ (l<0\/(K.vars:Int)-2<l)->Agr (K.exchK l.toNat) (M.exch l))/\((l<0\/(K.vars:Int)-2<l)->M.exch l=M)/\(M.exch l).trail.length<=M.trail.length+1/\(K.trail=M.trail->¬ (l<0\/(K.vars:Int)-2<l)->(K.exchK l.toNat).trail=(M.exch l).trail):=by
 have hE:M.exchE l=if l<0\/(K.vars:Int)-2<l then 1 else 0:=by
  unfold MV.exchE;rw [h.same.n,MV.U_nil hb,h.c]
  by_cases hl:l<0\/(K.vars:Int)-2<l
  ·rw [if_pos hl,if_pos hl]
  ·rw [if_neg hl,if_neg hl,if_neg (by omega)]
 by_cases hl:l<0\/(K.vars:Int)-2<l
 ·rw [if_pos hl] at hE
  have e:M.exch l=M:=by unfold MV.exch;rw [hE,if_neg (by decide)]
  rw [e,hE,if_pos hl];exact ⟨rfl,hb,fun hn=>absurd hl hn,fun _=>rfl,by omega,fun _ hn=>absurd hl hn⟩
 ·rw [if_neg hl] at hE
  have e:M.exch l={ M with order:=turnL M.order l.toNat,trail:=M.trail++[l.toNat] }:=by unfold MV.exch;rw [hE,if_pos rfl]
  rw [e,hE,if_neg hl];refine ⟨rfl,hb,fun _=>⟨⟨?_,h.same.n⟩,h.c,h.nd,fun t c hm=>?_,fun r hr=>?_⟩,fun hh=>absurd hh hl,by simp,fun ht _=>by rw [show (K.exchK l.toNat).trail=K.trail++[l.toNat] from rfl,ht]⟩
  ·show turnL M.order _=(K.order.set _ _).set _ _
   rw [h.same.od];rfl
  ·rw [show ({ M with order:=turnL M.order l.toNat,trail:=M.trail++[l.toNat] }:MV).held=M.held from rfl,hb] at hm;cases hm
  ·obtain ⟨t,c,hm,_⟩:=h.lh r hr
   rw [hb] at hm;cases hm
end Go.Proofs.YtfkopmhpppeheaaGreat
namespace Go.Proofs.YtfkopmhpppeheaaGreat
open Go.RowKit Go.Maps Go.ChangeMaps Go.WideShapes
theorem trail_at (b:Nat) (K:KV) (F:List Nat) (w:World) (h:KerAt w b K F) :
  Calls Tryz.prog 44 #[.pointer (some ⟨b,0,none⟩)] w fun e w'=>e=.returned (.int .i64 K.trail.length)/\w'=w:=by
 obtain ⟨T,q,hk,rfl⟩:=h;obtain ⟨ta,tc,htv,_⟩:=row_nil_len hk.mem.ts;have c7:w.cell? ⟨b,7,none⟩=some q.tv:=cell_at hk.mem.blk rfl;rw [htv] at c7;clear hk htv
 go_enter Tryz.func44,Tryz.ntmps44
 go_wp2_with fail;go_ret;exact ⟨rfl,rfl⟩
theorem order_at_spec (b:Nat) (K:KV) (F:List Nat) (w:World) (h:KerAt w b K F) :
  Calls Tryz.prog 43 #[.pointer (some ⟨b,0,none⟩)] w fun e w'=>∃ (g cap:Nat),e=.returned (.slice (some ⟨g,0,none⟩) K.order.length cap)/\w'.ownsRow w.heap.size 3 1 (.slice (some ⟨g,0,none⟩) K.order.length cap) K.order.length (flatN K.order)/\Upd [] w w':=by
 obtain ⟨T,q,hk,rfl⟩:=h;have h1:=hk.ok.wf.vs;have h2:=hk.ok.ord.pm.ol;exact order_spec b K T q w hk.mem (by omega) (by omega)
theorem live_at (b:Nat) (K:KV) (F:List Nat) (w:World) (h:KerAt w b K F) :
  Calls Tryz.prog 33 #[.pointer (some ⟨b,0,none⟩)] w fun e w'=>e=.returned (.int .i64 ((K.A.used:Int)-2))/\w'=w:=by
 obtain ⟨T,q,hk,rfl⟩:=h;exact live_count b K T q w hk.mem
theorem vars_at (b:Nat) (K:KV) (F:List Nat) (w:World) (h:KerAt w b K F) :
  Calls Tryz.prog 74 #[.pointer (some ⟨b,0,none⟩)] w fun e w'=>e=.returned (.int .i64 K.vars)/\w'=w:=by
 obtain ⟨T,q,hk,rfl⟩:=h;exact vars_spec b K T q w hk.mem
theorem roots_at (b:Nat) (K:KV) (F:List Nat) (w:World) (h:KerAt w b K F) :
  Calls Tryz.prog 35 #[.pointer (some ⟨b,0,none⟩)] w fun e w'=>∃ v:Value,e=.returned v/\w'.ownsRow w.heap.size 77 1 v K.roots.length (flatRefs K.roots)/\Upd [] w w':=by
 obtain ⟨T,q,hk,rfl⟩:=h;exact roots_spec b K T q w hk
theorem held_at (b r:Nat) (K:KV) (F:List Nat) (w:World) (h:KerAt w b K F) (hr:r<=4294967295) :
  Calls Tryz.prog 82 #[.pointer (some ⟨b,0,none⟩),.int .u32 r] w fun e w'=>e=.returned (.int .i64 (K.hold r))/\w'=w:=by
 obtain ⟨T,q,hk,rfl⟩:=h;have h1:=hk.ok.wf.len;have h2:=hk.ok.wf.ul;have h3:=hk.ok.wf.ok.lp;have h4:=hk.ok.wf.ok.pm;exact held_spec b r K T q w hk.mem (by omega) (hk.ok.wf.hm r) hr
theorem node_at_yes (b r:Nat) (K:KV) (F:List Nat) (p:PlaceV) (w:World) (h:KerAt w b K F) (hp:K.A.list[r]?=some p) (hpt:p.taken=true) :
  Calls Tryz.prog 48 #[.pointer (some ⟨b,0,none⟩),.int .u32 r] w fun e w'=>e=.returned (.tuple #[.agg #[.int .i64 p.var,.int .u32 p.lo,.int .u32 p.hi],.int .i64 0])/\Upd [] w w':=by
 obtain ⟨T,q,hk,rfl⟩:=h;have:=hk.ok.ref_lt (ArenaV.tk_iff.2 ⟨p,hp,hpt⟩);exact nodeof_yes b r K T q p w hk.mem (by omega) hp hpt
theorem orders_spec (b1 b2:Nat) (v1 v2:Value) (l:List Nat) (w:World) (h1:w.ownsRow b1 3 1 v1 l.length (flatN l)) (h2:w.ownsRow b2 3 1 v2 l.length (flatN l)) (hl:l.length<=1048576) :
  Calls Tryz.prog 121 #[v1,v2] w fun e w'=>e=.returned (.bool true)/\Upd [] w w':=by
 obtain ⟨a1,c1,rfl,hg1⟩:=row_nil_len h1;obtain ⟨a2,c2,rfl,hg2⟩:=row_nil_len h2;have H1:=Lib.hid h1;have H2:=Lib.hid h2;clear h1 h2
 go_enter Tryz.func121,Tryz.ntmps121
 go_wp2_with fail
 go_loopg [13] l.length (fun g s13 wr=>∃ i:Nat,l.length-i=g/\i<=l.length/\s13=.int .i64 i/\Upd [] w wr)
 case atStart=>exact ⟨0,by omega,by omega,rfl,Upd.refl _ _⟩
 case round =>
  obtain ⟨i,rfl,hi,rfl,hU⟩:=hrel
  by_cases hlt:i<l.length
  ·obtain ⟨g1,rfl⟩:=row_some H1.out (by omega)
   obtain ⟨g2,rfl⟩:=row_some H2.out (by omega)
   have hil:(i:Int)<(l.length:Int):=by omega
   have x1:=rowI_get (row_keep H1.out fun k hk=>hU.block k (H1.out.lt k hk).2 (by simp)) hlt;have x2:=rowI_get (row_keep H2.out fun k hk=>hU.block k (H2.out.lt k hk).2 (by simp)) hlt;generalize l.getD i 0=X at *;have HU:=Lib.hid hU;clear hU
   have hp0:(0:Int)<=(i:Int):=by omega
   go_wp2_with fail
   go_quiet (fail)
   go_wp2_with fail
   go_roundg (l.length-(i+1))
   case measure=>omega
   case rel=>exact ⟨i+1,rfl,by omega,by simp,HU.out.drewN _⟩
  ·obtain rfl:i=l.length:=by omega
   have hil:¬ ((l.length:Int)<(l.length:Int)):=by omega
   have HU:=Lib.hid hU;clear hU;go_wp2_with fail;go_ret;exact ⟨rfl,HU.out⟩
theorem KV.Ok.place {K:KV} (hk:K.Ok) {r:Nat} (h2:2<=r) (ht:K.A.tk r=true):∃ (p:PlaceV) (v:Nat),K.A.list[r]?=some p/\p.taken=true/\p.var=(v:Int)/\v<K.vars/\K.A.tk p.lo=true/\K.A.tk p.hi=true/\K.dep r<K.dep p.lo/\K.dep r<K.dep p.hi/\(∀ x,K.den r x=if x v then K.den p.hi x else K.den p.lo x):=by
 obtain ⟨p,v,hp,hpt,hv,hvl,h3,h4,hd⟩:=hk.wf.node_at h2 ht;have hb:=hk.ord.below hk.wf h2 hp hpt;refine ⟨p,v,hp,hpt,hv,hvl,h3,h4,hb.1,hb.2,fun x=>?_⟩;rw [KV.den_node hk.wf hk.ord h2 hp hpt,show p.var.toNat=v by omega]
theorem value_spec (b r:Nat) (x:Int) (K:KV) (F:List Nat) (w:World) (h:KerAt w b K F) (hr:K.A.tk r=true) (hx:U64 x) :
  Calls Tryz.prog 36 #[.pointer (some ⟨b,0,none⟩),.int .u32 r,.int .u64 x] w fun e w'=>e=.returned (.tuple #[.bool (K.den r fun v=>nb x v),.bool true])/\Upd [] w w':=by
 have HK:=Lib.hid h;have hvs:=h.ok.wf.vs;have HR:=Lib.hid hr;have HX:=Lib.hid hx;clear h hr;unfold U64 at hx
 go_enter Tryz.func36,Tryz.ntmps36
 go_wp2_with fail
 go_loopg [1,10] 65 (fun g s1 s10 wr=>∃ (i r':Nat),65-i=g/\i<=65/\s10=.int .i64 i/\s1=.int .u32 r'/\K.A.tk r'=true/\i<=K.dep r'/\(K.den r' (fun v=>nb x v)=K.den r (fun v=>nb x v))/\Upd [] w wr)
 case atStart=>exact ⟨0,r,by omega,by omega,rfl,rfl,HR.out,by omega,rfl,Upd.refl _ _⟩
 case round =>
  obtain ⟨i,r',rfl,hi,rfl,rfl,ht,hd,he,hU⟩:=hrel;have hdl:=HK.out.ok.wf.dep_le HK.out.ok.ord ht
  have hi64:i<=64:=by omega
  have hil:(i:Int)<65:=by omega
  by_cases h2:r'<=1
  ·have hr1:(r':Int)<=1:=by omega
   have HE:Hid (((r':Int) == 1)=K.den r fun v=>nb x v):=by
    show _=_
    rw [<- he,K.den_const (by omega),Bool.eq_iff_iff]
    simp only [beq_iff_eq];omega
   have HU:=Lib.hid hU;clear hU he hd ht hdl;go_wp2_with fail;go_ret2;exact ⟨by rw [<- HE.out];rfl,HU.out⟩
  ·obtain ⟨p,v,hp,hpt,hv,hvl,h3,h4,h5,h6,h7⟩:=HK.out.ok.place (r:=r') (by omega) ht
   have hr1:¬ ((r':Int)<=1):=by omega
   have HN:=Lib.hid (node_at_yes b r' K F p wr (HK.out.upd hU (by simp)) hp hpt);rw [hv] at HN
   have HE:Hid (K.den r (fun v=>nb x v)=if nb x v then K.den p.hi (fun v=>nb x v) else K.den p.lo (fun v=>nb x v)):=by
    show _=_
    rw [<- he,h7]
   have HP:=Lib.hid (And.intro h3 (And.intro h4 (And.intro (show i+1<=K.dep p.lo by omega) (show i+1<=K.dep p.hi by omega))));have HU:=Lib.hid hU
   have hv0:¬ ((v:Int)<0):=by omega
   have hv64:¬ ((64:Int)<=(v:Int)):=by omega
   have hv65:(v:Int)<64:=by omega
   have hdv0:decide ((v:Int)<0)=false:=by simp
   have hdv:decide ((64:Int)<=(v:Int))=false:=by simp;omega
   clear hU he hd ht hdl hp hpt hv h3 h4 h5 h6 h7;generalize p.lo=lo at *;generalize p.hi=hi at *;go_wp2_with fail;refine HN.out.mono ?_;rintro e w3 ⟨rfl,hu⟩;have HU3:=Lib.hid (HU.out.trans hu);clear hu HN;have HBT:=Lib.hid (bitT_nb HX.out v);unfold bitT at HBT
   cases hbt:(bits BinOp.and IntKind.u64 (x/2 ^ v) 1 == 1) with
   | true =>
    have HG:Hid (K.den hi (fun v=>nb x v)=K.den r (fun v=>nb x v)):=by
     show _=_
     rw [HE.out,<- HBT.out,hbt,if_pos rfl]
    go_wp2_with fail
    go_roundg (65-(i+1))
    case measure=>omega
    case rel=>exact ⟨i+1,hi,rfl,by omega,by simp,rfl,HP.out.2.1,HP.out.2.2.2,HG.out,HU3.out.alloc _⟩
   | false =>
    have HG:Hid (K.den lo (fun v=>nb x v)=K.den r (fun v=>nb x v)):=by
     show _=_
     rw [HE.out,<- HBT.out,hbt,if_neg (by simp)]
    go_wp2_with fail
    go_roundg (65-(i+1))
    case measure=>omega
    case rel=>exact ⟨i+1,lo,rfl,by omega,by simp,rfl,HP.out.1,HP.out.2.2.1,HG.out,HU3.out.alloc _⟩
theorem unlike_zero (b r:Nat) (Z:List Nat) (c:Value) (t:TV) (K:KV) (F:List Nat) (w:World) (h:KerAt w b K F) (hr:Names K r t) (ht:TIn w Z c t) (hn:t.n=K.vars) (h6:t.n<=8) :
  Calls Tryz.prog 123 #[.pointer (some ⟨b,0,none⟩),.int .u32 r,tabV t c] w fun e w'=>e=.returned (.int .i64 0)/\Upd [] w w':=by
 obtain ⟨ta,tc,rfl,_⟩:=row_nil_len ht.row;have HK:=Lib.hid h;have HT:=Lib.hid ht;have HR:=Lib.hid hr;have HN2:=Lib.hid hn;have HU0:=Lib.hid ((Upd.refl [] w).alloc (.cells #[.int .i64 t.n,.slice ta t.ws.length tc] 122 (0,0)));have hb:=boxT w (.int .i64 t.n) (.slice ta t.ws.length tc)
 have HBT:Hid (∀ (x:World) (i:Nat),Upd [] w x->i<2 ^ t.n->Calls Tryz.prog 135 #[tabV t (.slice ta t.ws.length tc),.int .i64 i] x fun e w'=>e=.returned (.bool (t.bit i))/\Upd [] x w'):=fun x i u hi=>tbit_spec Z _ t i x (ht.keep0 u) hi
 have HVAL:Hid (∀ (x:World) (i:Nat),Upd [] w x->i<2 ^ t.n->Calls Tryz.prog 36 #[.pointer (some ⟨b,0,none⟩),.int .u32 r,.int .u64 i] x fun e w'=>e=.returned (.tuple #[.bool (t.bit i),.bool true])/\Upd [] x w'):=fun x i u hi=>by
  have h64:(2:Nat) ^ t.n<=256:=by
   calc 2 ^ t.n<=2 ^ 8:=Nat.pow_le_pow_right (by omega) h6
    _=256:=rfl
  refine (value_spec b r i K F x (h.upd u (by simp)) hr.1 (by unfold U64;omega)).mono ?_;rintro e w' ⟨rfl,hu⟩;refine ⟨?_,hu⟩
  have e1:(fun v=>nb (i:Int) v)=fun v=>i.testBit v:=by funext v;exact nb_cast i v
  rw [e1,hr.2];unfold TV.fn;rw [idx_of hi]
 have hp:(1:Nat)<=2 ^ t.n/\2 ^ t.n<=256:=by
  refine ⟨Nat.two_pow_pos _,?_⟩
  calc 2 ^ t.n<=2 ^ 8:=Nat.pow_le_pow_right (by omega) h6
   _=256:=rfl
 have hsh:IntKind.i64.wrap (2 ^ t.n)=((2 ^ t.n:Nat):Int):=by
  have h2:((2:Int) ^ t.n)=((2 ^ t.n:Nat):Int):=by push_cast;rfl
  rw [h2];exact IntWalk.i64_in _ (by omega)
 have hn64:(t.n:Int)<64:=by omega
 unfold tabV at HBT ⊢;generalize t.ws.length=W at *;obtain ⟨N,hN⟩ : ∃ N,2 ^ t.n=N:=⟨_,rfl⟩;rw [hN] at hp hsh
 simp only [hN] at HBT HVAL
 generalize t.n=n at *;obtain ⟨b0,b1⟩:=hb
 have HB:Hid (∀ x:World,Upd [] (w.alloc (.cells #[.int .i64 n,.slice ta W tc] 122 (0,0))) x->x.cell? ⟨w.heap.size,0,none⟩=some (.int .i64 n)/\x.cell? ⟨w.heap.size,1,none⟩=some (.slice ta W tc)):=fun x u=>boxT_keep u ⟨b0,b1⟩
 clear h hr ht hn b0 b1 hN
 go_enter Tryz.func123,Tryz.ntmps123
 go_wp2_with fail
 go_loopg [7,8] N (fun g s7 s8 wr=>∃ i:Nat,N-i=g/\i<=N/\s8=.int .i64 i/\s7=.int .i64 0/\Upd [] (w.alloc (.cells #[.int .i64 n,.slice ta W tc] 122 (0,0))) wr)
 case atStart=>exact ⟨0,by omega,by omega,rfl,rfl,Upd.refl _ _⟩
 case round =>
  obtain ⟨i,rfl,hi,rfl,rfl,hU⟩:=hrel;obtain ⟨z0,z1⟩:=HB.out _ hU
  by_cases hlt:i<N
  ·have hil:(i:Int)<(N:Int):=by omega
   have HV:=Lib.hid (HVAL.out wr i (HU0.out.trans hU) hlt);have HU:=Lib.hid hU;clear hU;go_wp2_with fail;refine HV.out.mono ?_;rintro e w3 ⟨rfl,hu⟩;have HB2:=Lib.hid (HBT.out w3 i (HU0.out.trans (HU.out.trans hu)) hlt);obtain ⟨y0,y1⟩:=HB.out _ (HU.out.trans hu);have HU3:=Lib.hid (HU.out.trans hu);clear hu HV z0 z1;go_wp2_with fail;refine HB2.out.mono ?_;rintro e w4 ⟨rfl,hu⟩;have HU4:=Lib.hid (HU3.out.trans hu);clear hu HB2 y0 y1;generalize t.bit i=bt
   cases bt with
   | true =>
    go_wp2_with fail
    go_roundg (N-(i+1))
    case measure=>omega
    case rel=>exact ⟨i+1,rfl,by omega,by simp,rfl,HU4.out⟩
   | false =>
    go_wp2_with fail
    go_roundg (N-(i+1))
    case measure=>omega
    case rel=>exact ⟨i+1,rfl,by omega,by simp,rfl,HU4.out⟩
  ·obtain rfl:i=N:=by omega
   have hil:¬ ((i:Int)<(i:Int)):=by omega
   have HU:=Lib.hid hU;clear hU;go_wp2_with fail;go_ret;exact ⟨rfl,HU0.out.trans HU.out⟩
end Go.Proofs.YtfkopmhpppeheaaGreat
