import Derived.Test.YtfkopmhpppeheaaGreatPY2
import Derived.Deep.RegionHeld3
set_option maxRecDepth 100000
set_option maxHeartbeats 1600000
namespace Go.Proofs.YtfkopmhpppeheaaGreat
open Go.RowKit Go.Maps Go.ChangeMaps Go.WideShapes
def flat32 (l:List Nat):List Value:=l.map fun (n:Nat)=>Value.int .i32 n
structure KPtr where
 a:Nat
 t:Nat
 uv:Value
 hv:Value
 ov:Value
 lv:Value
 tv:Value
 FA:List Nat
 FT:List Nat
 o:Nat->Nat
def KPtr.all (q:KPtr) (b:Nat):List Nat:=b::(q.FA++(q.FT++(q.uv.ownBlock.toList++(q.hv.ownBlock.toList++(q.ov.ownBlock.toList++(q.lv.ownBlock.toList++q.tv.ownBlock.toList))))))
structure KerMem (w:World) (b:Nat) (K:KV) (T:List DM) (q:KPtr):Prop where
 blk:w.heap[b]?=some (.cells #[.pointer (some ⟨q.a,0,none⟩),.pointer (some ⟨q.t,0,none⟩),q.uv,q.hv,.int .i64 K.vars,q.ov,q.lv,q.tv] 172 (0,0))
 ar:ArenaAt w q.a K.A q.FA
 tab:TabAt w q.t T q.FT
 us:w.ownsRow 0 21 1 q.uv K.uses.length (flat32 K.uses)
 hs:w.ownsRow 0 21 1 q.hv K.holds.length (flat32 K.holds)
 os:w.ownsRow 0 3 1 q.ov K.order.length (flatN K.order)
 ls:w.ownsRow 0 3 1 q.lv K.level.length (flatN K.level)
 ts:w.ownsRow 0 3 1 q.tv K.trail.length (flatN K.trail)
 ob:q.o b=0
 oa:∀ k,k∈q.FA->q.o k=1
 ot:∀ k,k∈q.FT->q.o k=2
 ou:∀ k,q.uv.ownBlock=some k->q.o k=3
 oh:∀ k,q.hv.ownBlock=some k->q.o k=4
 oo:∀ k,q.ov.ownBlock=some k->q.o k=5
 ol:∀ k,q.lv.ownBlock=some k->q.o k=6
 ox:∀ k,q.tv.ownBlock=some k->q.o k=7
theorem KPtr.mem {q:KPtr} {b k:Nat}:k∈q.all b↔k=b\/k∈q.FA\/k∈q.FT\/q.uv.ownBlock=some k\/q.hv.ownBlock=some k\/q.ov.ownBlock=some k\/q.lv.ownBlock=some k\/q.tv.ownBlock=some k:=by
 simp [KPtr.all]
theorem KerMem.lt {w:World} {b:Nat} {K:KV} {T:List DM} {q:KPtr} (h:KerMem w b K T q):∀ k,k∈q.all b->k<w.heap.size:=by
 intro k hk
 rcases KPtr.mem.1 hk with rfl | hk | hk | hk | hk | hk | hk | hk
 ·exact heap_lt h.blk
 ·exact h.ar.lt k hk
 ·exact h.tab.lt k hk
 ·exact (h.us.lt k hk).2
 ·exact (h.hs.lt k hk).2
 ·exact (h.os.lt k hk).2
 ·exact (h.ls.lt k hk).2
 ·exact (h.ts.lt k hk).2
theorem KerMem.keep {w w':World} {b:Nat} {K:KV} {T:List DM} {q:KPtr} (h:KerMem w b K T q) (hk:∀ k,k∈q.all b→w'.heap[k]?=w.heap[k]?):KerMem w' b K T q :=
  ⟨by rw [hk b (KPtr.mem.2 (.inl rfl))]; exact h.blk,h.ar.keep fun k hm=>hk k (KPtr.mem.2 (.inr (.inl hm))),h.tab.keep fun k hm=>hk k (KPtr.mem.2 (.inr (.inr (.inl hm)))),
   row_keep h.us fun k hm=>hk k (KPtr.mem.2 (.inr (.inr (.inr (.inl hm))))),row_keep h.hs fun k hm=>hk k (KPtr.mem.2 (.inr (.inr (.inr (.inr (.inl hm)))))),
   row_keep h.os fun k hm=>hk k (KPtr.mem.2 (.inr (.inr (.inr (.inr (.inr (.inl hm))))))),row_keep h.ls fun k hm=>hk k (KPtr.mem.2 (.inr (.inr (.inr (.inr (.inr (.inr (.inl hm)))))))),
   row_keep h.ts fun k hm=>hk k (KPtr.mem.2 (.inr (.inr (.inr (.inr (.inr (.inr (.inr hm)))))))),h.ob,h.oa,h.ot,h.ou,h.oh,h.oo,h.ol,h.ox⟩
theorem KerMem.upd {w w':World} {b:Nat} {K:KV} {T:List DM} {q:KPtr} {S:List Nat} (h:KerMem w b K T q) (u:Upd S w w') (hd:∀ k,k∈q.all b->k∉S):KerMem w' b K T q :=
 h.keep fun k hk=>u.block k (h.lt k hk) (hd k hk)
def retag (q:KPtr) (n c:Nat):Nat->Nat:=fun k=>if n<=k then c else q.o k
theorem retag_old {q:KPtr} {n c k:Nat} (h:k<n):retag q n c k=q.o k:=by unfold retag;rw [if_neg (by omega)]
theorem retag_sub {q:KPtr} {n c k:Nat} {F:List Nat} (hF:∀ k,k∈F->q.o k=c) (h:k∈F\/n<=k):retag q n c k=c:=by
 unfold retag;split
 ·rfl
 ·rcases h with h | h
  ·exact hF k h
  ·omega
theorem KerMem.arena {w w':World} {b:Nat} {K:KV} {T:List DM} {q:KPtr} {A':ArenaV} {F':List Nat} (h:KerMem w b K T q) (ha:ArenaAt w' q.a A' F') (hu:Upd q.FA w w') (hs:Sub q.FA w F') :
  KerMem w' b { K with A:=A' } T { q with FA:=F',o:=retag q w.heap.size 1 }:=by
 have hne:∀ {k c},q.o k=c->c≠1->k∉q.FA:=fun {k c} hk hc hm=>hc (hk ▸ h.oa k hm)
 have hb:=heap_lt h.blk
 refine ⟨by rw [hu.block b hb (hne h.ob (by omega))];exact h.blk,ha,h.tab.upd hu fun k hk=>hne (h.ot k hk) (by omega),
  row_keep h.us fun k hk=>hu.block k (h.us.lt k hk).2 (hne (h.ou k hk) (by omega)),row_keep h.hs fun k hk=>hu.block k (h.hs.lt k hk).2 (hne (h.oh k hk) (by omega)),
  row_keep h.os fun k hk=>hu.block k (h.os.lt k hk).2 (hne (h.oo k hk) (by omega)),row_keep h.ls fun k hk=>hu.block k (h.ls.lt k hk).2 (hne (h.ol k hk) (by omega)),
  row_keep h.ts fun k hk=>hu.block k (h.ts.lt k hk).2 (hne (h.ox k hk) (by omega)),?_,?_,?_,?_,?_,?_,?_,?_⟩
 ·show retag q _ 1 b=0
  rw [retag_old hb];exact h.ob
 ·intro k hk;exact retag_sub h.oa (hs k hk)
 ·intro k hk;show retag q _ 1 k=2;rw [retag_old (h.tab.lt k hk)];exact h.ot k hk
 ·intro k hk;show retag q _ 1 k=3;rw [retag_old (h.us.lt k hk).2];exact h.ou k hk
 ·intro k hk;show retag q _ 1 k=4;rw [retag_old (h.hs.lt k hk).2];exact h.oh k hk
 ·intro k hk;show retag q _ 1 k=5;rw [retag_old (h.os.lt k hk).2];exact h.oo k hk
 ·intro k hk;show retag q _ 1 k=6;rw [retag_old (h.ls.lt k hk).2];exact h.ol k hk
 ·intro k hk;show retag q _ 1 k=7;rw [retag_old (h.ts.lt k hk).2];exact h.ox k hk
theorem KerMem.table {w w':World} {b:Nat} {K:KV} {T T':List DM} {q:KPtr} (h:KerMem w b K T q) (ha:TabAt w' q.t T' q.FT) (hu:Upd q.FT w w'):KerMem w' b K T' q:=by
 have hne:∀ {k c},q.o k=c->c≠2->k∉q.FT:=fun {k c} hk hc hm=>hc (hk ▸ h.ot k hm)
 have hb:=heap_lt h.blk
 exact ⟨by rw [hu.block b hb (hne h.ob (by omega))];exact h.blk,h.ar.upd hu fun k hk=>hne (h.oa k hk) (by omega),ha,
  row_keep h.us fun k hk=>hu.block k (h.us.lt k hk).2 (hne (h.ou k hk) (by omega)),row_keep h.hs fun k hk=>hu.block k (h.hs.lt k hk).2 (hne (h.oh k hk) (by omega)),
  row_keep h.os fun k hk=>hu.block k (h.os.lt k hk).2 (hne (h.oo k hk) (by omega)),row_keep h.ls fun k hk=>hu.block k (h.ls.lt k hk).2 (hne (h.ol k hk) (by omega)),
  row_keep h.ts fun k hk=>hu.block k (h.ts.lt k hk).2 (hne (h.ox k hk) (by omega)),h.ob,h.oa,h.ot,h.ou,h.oh,h.oo,h.ol,h.ox⟩
theorem flat32_set (l:List Nat) (r n:Nat):(flat32 l).set r (.int .i32 n)=flat32 (l.set r n):=by simp [flat32,List.map_set]
theorem KerMem.setUse {w:World} {b g n' c r n:Nat} {K:KV} {T:List DM} {q:KPtr} (h:KerMem w b K T q) (hq:q.uv=.slice (some ⟨g,0,none⟩) n' c) (hr:r<K.uses.length) :
  KerMem (w.setCell ⟨g,r,none⟩ (.int .i32 n)) b { K with uses:=K.uses.set r n } T q:=by
 have hg:q.o g=3:=h.ou g (by rw [hq];rfl)
 have hne:∀ {k c},q.o k=c->c≠3->k≠g:=fun {k c} hk hc hm=>hc (by rw [<- hk,hm,hg])
 have hk:∀ {k c},q.o k=c->c≠3->(w.setCell ⟨g,r,none⟩ (.int .i32 n)).heap[k]?=w.heap[k]?:=fun hk hc=>heap_set_ne (hne hk hc)
 refine ⟨by rw [hk h.ob (by omega)];exact h.blk,h.ar.keep fun k hm=>hk (h.oa k hm) (by omega),h.tab.keep fun k hm=>hk (h.ot k hm) (by omega),?_,
  row_keep h.hs fun k hm=>hk (h.oh k hm) (by omega),row_keep h.os fun k hm=>hk (h.oo k hm) (by omega),row_keep h.ls fun k hm=>hk (h.ol k hm) (by omega),row_keep h.ts fun k hm=>hk (h.ox k hm) (by omega),
  h.ob,h.oa,h.ot,h.ou,h.oh,h.oo,h.ol,h.ox⟩
 have hu:=h.us;rw [hq] at hu ⊢;have:=row_set hu (j:=r) (by omega) (.int .i32 n);rw [flat32_set] at this
 simpa using this
theorem KerMem.setHold {w:World} {b g n' c r n:Nat} {K:KV} {T:List DM} {q:KPtr} (h:KerMem w b K T q) (hq:q.hv=.slice (some ⟨g,0,none⟩) n' c) (hr:r<K.holds.length) :
  KerMem (w.setCell ⟨g,r,none⟩ (.int .i32 n)) b { K with holds:=K.holds.set r n } T q:=by
 have hg:q.o g=4:=h.oh g (by rw [hq];rfl)
 have hne:∀ {k c},q.o k=c->c≠4->k≠g:=fun {k c} hk hc hm=>hc (by rw [<- hk,hm,hg])
 have hk:∀ {k c},q.o k=c->c≠4->(w.setCell ⟨g,r,none⟩ (.int .i32 n)).heap[k]?=w.heap[k]?:=fun hk hc=>heap_set_ne (hne hk hc)
 refine ⟨by rw [hk h.ob (by omega)];exact h.blk,h.ar.keep fun k hm=>hk (h.oa k hm) (by omega),h.tab.keep fun k hm=>hk (h.ot k hm) (by omega),row_keep h.us fun k hm=>hk (h.ou k hm) (by omega),?_,
  row_keep h.os fun k hm=>hk (h.oo k hm) (by omega),row_keep h.ls fun k hm=>hk (h.ol k hm) (by omega),row_keep h.ts fun k hm=>hk (h.ox k hm) (by omega),
  h.ob,h.oa,h.ot,h.ou,h.oh,h.oo,h.ol,h.ox⟩
 have hu:=h.hs;rw [hq] at hu ⊢;have:=row_set hu (j:=r) (by omega) (.int .i32 n);rw [flat32_set] at this
 simpa using this
theorem KerMem.noTrail {w:World} {b:Nat} {K:KV} {T:List DM} {q:KPtr} (h:KerMem w b K T q) :
  KerMem (w.setCell ⟨b,7,none⟩ (.slice none 0 0)) b { K with trail:=[] } T { q with tv:=.slice none 0 0 }:=by
 have hne:∀ {k c},q.o k=c->c≠0->k≠b:=fun {k c} hk hc hm=>hc (by rw [<- hk,hm,h.ob])
 have hk:∀ {k c},q.o k=c->c≠0->(w.setCell ⟨b,7,none⟩ (.slice none 0 0)).heap[k]?=w.heap[k]?:=fun hk hc=>heap_set_ne (hne hk hc)
 refine ⟨by rw [heap_set_eq h.blk];rfl,h.ar.keep fun k hm=>hk (h.oa k hm) (by omega),h.tab.keep fun k hm=>hk (h.ot k hm) (by omega),row_keep h.us fun k hm=>hk (h.ou k hm) (by omega),
  row_keep h.hs fun k hm=>hk (h.oh k hm) (by omega),row_keep h.os fun k hm=>hk (h.oo k hm) (by omega),row_keep h.ls fun k hm=>hk (h.ol k hm) (by omega),World.ownsRow_nil _ _ _ _,
  h.ob,h.oa,h.ot,h.ou,h.oh,h.oo,h.ol,fun k hk=>by simp [Value.ownBlock] at hk⟩
theorem live_spec (b r:Nat) (K:KV) (T:List DM) (q:KPtr) (w:World) (h:KerMem w b K T q) (hr:r<=4294967295) :
  Calls Tryz.prog 108 #[.pointer (some ⟨b,0,none⟩),.int .u32 r] w fun e w'=>e=.returned (.bool (K.A.tk r))/\Upd [] w w':=by
 have hc0:w.cell? ⟨b,0,none⟩=some (.pointer (some ⟨q.a,0,none⟩)):=cell_at h.blk rfl;have HA:=Lib.hid h.ar;clear h
 cases ht:K.A.tk r with
 | false =>
  have HT:=Lib.hid ht;clear ht
  go_enter Tryz.func108,Tryz.ntmps108
  go_wp2_with fail;refine (get_no q.a q.FA r K.A w HA.out hr HT.out).mono ?_;rintro e w1 ⟨rfl,hu⟩;have HU:=Lib.hid hu;clear hu;go_wp2_with fail;go_ret;exact ⟨rfl,HU.out.alloc _⟩
 | true =>
  obtain ⟨p,hp,hpt⟩:=ArenaV.tk_iff.1 ht;have HP:=Lib.hid hp;have HT:=Lib.hid hpt;clear ht hp hpt
  go_enter Tryz.func108,Tryz.ntmps108
  go_wp2_with fail;refine (get_yes q.a q.FA r K.A p w HA.out hr HP.out HT.out).mono ?_;rintro e w1 ⟨rfl,hu⟩;have HU:=Lib.hid hu;clear hu;go_wp2_with fail;go_ret;exact ⟨rfl,HU.out.alloc _⟩
theorem box3 {w1:World} {B:Nat} {x y z:Value} {t:TypeId} (h:w1.heap[B]?=some (.cells #[x,y,z] t (0,0))) (x' y' z':Value) (o:Obj) :
  ((((w1.setCell ⟨B,0,none⟩ x').setCell ⟨B,1,none⟩ y').setCell ⟨B,2,none⟩ z').alloc o).cell? ⟨B,0,none⟩=some x' /\
  ((((w1.setCell ⟨B,0,none⟩ x').setCell ⟨B,1,none⟩ y').setCell ⟨B,2,none⟩ z').alloc o).cell? ⟨B,1,none⟩=some y' /\
  ((((w1.setCell ⟨B,0,none⟩ x').setCell ⟨B,1,none⟩ y').setCell ⟨B,2,none⟩ z').alloc o).cell? ⟨B,2,none⟩=some z':=by
 have e:=heap_set_eq (j:=2) (heap_set_eq (j:=1) (heap_set_eq (j:=0) h x') y') z';have e2:=(heap_alloc_old _ o (heap_lt e)).trans e;exact ⟨cell_at e2 rfl,cell_at e2 rfl,cell_at e2 rfl⟩
theorem node_spec (b r:Nat) (K:KV) (T:List DM) (q:KPtr) (p:PlaceV) (w:World) (h:KerMem w b K T q) (hr:r<=4294967295) (hp:K.A.list[r]?=some p) (hpt:p.taken=true) :
  Calls Tryz.prog 109 #[.pointer (some ⟨b,0,none⟩),.int .u32 r] w fun e w'=>e=.returned (.agg #[.int .i64 p.var,.int .u32 p.lo,.int .u32 p.hi])/\Upd [] w w':=by
 have hc0:w.cell? ⟨b,0,none⟩=some (.pointer (some ⟨q.a,0,none⟩)):=cell_at h.blk rfl;have HA:=Lib.hid h.ar;have hb:=heap_lt h.blk;have HP:=Lib.hid hp;have HT:=Lib.hid hpt;clear h hp hpt
 go_enter Tryz.func109,Tryz.ntmps109
 go_wp2_with fail;refine (get_yes q.a q.FA r K.A p _ (HA.out.upd ((Upd.refl [] w).alloc _) (by simp)) hr HP.out HT.out).mono ?_;rintro e w1 ⟨rfl,hu⟩;have hbx:w1.heap[w.heap.size]?=some (.cells #[.int .i64 0,.int .u32 0,.int .u32 0] 116 (0,0)):=(hu.block w.heap.size (by simp) (by simp)).trans (heap_alloc_new w _);have b0:w1.cell? ⟨w.heap.size,0,none⟩=some (.int .i64 0):=cell_at hbx rfl;have b1:w1.cell? ⟨w.heap.size,1,none⟩=some (.int .u32 0):=cell_at hbx rfl;have b2:w1.cell? ⟨w.heap.size,2,none⟩=some (.int .u32 0):=cell_at hbx rfl;have f0:=frozen_at 0 hbx;have f1:=frozen_at 1 hbx;have f2:=frozen_at 2 hbx;have hbw:=heap_lt hbx;have HX:=Lib.hid hbx;have HU:Hid (Upd [] w w1):=((Upd.refl [] w).alloc _).trans (hu.mono (by simp));clear hu hbx;go_wp2_with fail;obtain ⟨r0,r1,r2⟩:=box3 HX.out (.int .i64 p.var) (.int .u32 p.lo) (.int .u32 p.hi) (.cells #[.int .i64 p.var,.int .u32 p.lo,.int .u32 p.hi] 116 (0,0));refine bodyPost_ret (v:=.agg #[.int .i64 p.var,.int .u32 p.lo,.int .u32 p.hi]) (by simp [results,Tryz.results109,go_sem,r0,r1,r2]) rfl ⟨rfl,?_⟩;exact (((HU.out.setCell (.inr (Nat.le_refl _)) _).setCell (.inr (Nat.le_refl _)) _).setCell (.inr (Nat.le_refl _)) _).alloc _
def KV.room (K:KV) (more:Int):Bool:=decide ((K.A.used:Int)+more<=(K.A.places:Int))
theorem room_spec (b:Nat) (more:Int) (K:KV) (T:List DM) (q:KPtr) (w:World) (h:KerMem w b K T q) (hm0:0<=more) (hm:more<=1073741824) :
  Calls Tryz.prog 158 #[.pointer (some ⟨b,0,none⟩),.int .i64 more] w fun e w'=>e=.returned (.bool (K.room more))/\Upd [] w w':=by
 have hc0:w.cell? ⟨b,0,none⟩=some (.pointer (some ⟨q.a,0,none⟩)):=cell_at h.blk rfl;have HA:=Lib.hid h.ar;have h1:=h.ar.ok.us;have h2:=h.ar.ok.lp;have h3:=h.ar.ok.pm
 have hu:K.A.used<=1048576:=by omega
 have e1:IntKind.i64.wrap ((K.A.used:Int)+more)=(K.A.used:Int)+more:=IntWalk.i64_in _ (by omega);have hR:Hid (K.room more=decide ((K.A.used:Int)+more<=(K.A.places:Int))):=rfl;clear h h1 h2
 go_enter Tryz.func158,Tryz.ntmps158
 go_wp2_with fail
 go_quiet ((first | (go_at_call 95;exact Calls.quiet_of_same (((used_spec q.a q.FA K.A _ (HA.out.upd ((Upd.refl [] w).drewN _) (by simp))).mono fun _ _ ⟨a,b⟩=>⟨a,b.symm⟩))) | (go_at_call 151;exact Calls.quiet_of_same (((places_spec q.a q.FA K.A _ (HA.out.upd ((Upd.refl [] w).drewN _) (by simp))).mono fun _ _ ⟨a,b⟩=>⟨a,b.symm⟩)))))
 go_wp2_with fail;go_ret;exact ⟨by rw [hR.out];rfl,(Upd.refl _ _).drewN _⟩
theorem KerMem.useCell {w:World} {b r:Nat} {K:KV} {T:List DM} {q:KPtr} (h:KerMem w b K T q) (hr:r<K.uses.length) :
  ∃ g c,q.uv=.slice (some ⟨g,0,none⟩) K.uses.length c/\w.cell? ⟨b,2,none⟩=some (.slice (some ⟨g,0,none⟩) K.uses.length c)/\w.cell? ⟨g,r,none⟩=some (.int .i32 (K.use r))/\w.frozen? ⟨g,r,none⟩=false/\g∈q.all b:=by
 have hu:=h.us;obtain ⟨g,c,hq,_,_⟩:=hu.form (by omega);refine ⟨g,c,hq,by rw [<- hq];exact cell_at h.blk rfl,?_,?_,KPtr.mem.2 (.inr (.inr (.inr (.inl (by rw [hq];rfl)))))⟩
 ·rw [hq] at hu
  refine row_cell hu ?_
  simp [flat32,KV.use,hr]
 ·rw [hq] at hu;exact row_frozen hu r
theorem KerMem.holdCell {w:World} {b r:Nat} {K:KV} {T:List DM} {q:KPtr} (h:KerMem w b K T q) (hr:r<K.holds.length) :
  ∃ g c,q.hv=.slice (some ⟨g,0,none⟩) K.holds.length c/\w.cell? ⟨b,3,none⟩=some (.slice (some ⟨g,0,none⟩) K.holds.length c)/\w.cell? ⟨g,r,none⟩=some (.int .i32 (K.hold r))/\w.frozen? ⟨g,r,none⟩=false/\g∈q.all b:=by
 have hu:=h.hs;obtain ⟨g,c,hq,_,_⟩:=hu.form (by omega);refine ⟨g,c,hq,by rw [<- hq];exact cell_at h.blk rfl,?_,?_,KPtr.mem.2 (.inr (.inr (.inr (.inr (.inl (by rw [hq];rfl))))))⟩
 ·rw [hq] at hu
  refine row_cell hu ?_
  simp [flat32,KV.hold,hr]
 ·rw [hq] at hu;exact row_frozen hu r
theorem use_spec (b r:Nat) (K:KV) (T:List DM) (q:KPtr) (w:World) (h:KerMem w b K T q) (h2:2<=r) (hr:r<K.uses.length) (hb:K.use r+1<=2147483647) (hr32:r<=4294967295) :
  Calls Tryz.prog 162 #[.pointer (some ⟨b,0,none⟩),.int .u32 r] w fun e w'=>e=.returned (.tuple #[])/\KerMem w' b (K.useK r) T q/\Upd (q.all b) w w':=by
 obtain ⟨g,c,hq,c2,cu,fu,hg⟩:=h.useCell hr;have hE:=And.intro (h.setUse (n:=K.use r+1) hq hr) ((Upd.refl (q.all b) w).setCell (p:=⟨g,r,none⟩) (.inl hg) (.int .i32 ((K.use r+1:Nat))))
 simp only [Int.natCast_add,Int.cast_ofNat_Int] at hE
 have HE:=Lib.hid hE
 have hd:(1:Int)<(r:Int):=by omega
 have hrl:(r:Int)<(K.uses.length:Int):=by omega
 have hus:K.uses.length<=9223372036854775807:=by have:=(row_block (hq ▸ h.us)).2;unfold maxLen at this;omega
 clear h hq hE
 go_enter Tryz.func162,Tryz.ntmps162
 go_wp2_with fail;go_end0;exact ⟨rfl,HE.out⟩
theorem use_const (b r:Nat) (w:World) (h2:r<2) :
  Calls Tryz.prog 162 #[.pointer (some ⟨b,0,none⟩),.int .u32 r] w fun e w'=>e=.returned (.tuple #[])/\w=w':=by
 have hd:decide ((1:Int)<(r:Int))=false:=by simp;omega
 have hd2:decide (1<r)=false:=by simp;omega
 go_enter Tryz.func162,Tryz.ntmps162
 go_wp2_with fail;go_end0;exact ⟨rfl,rfl⟩
def nkp (p:PlaceV):Lit:=nk p.var p.lo p.hi
structure TInv (T:List DM) (K:KV) (X:List Nat):Prop where
 len:T.length=K.vars
 dom:∀ (v:Nat) (D:DM) (k:Lit),T[v]?=some D->Maps.has D k=true->∃ (r:Nat) (p:PlaceV),2<=r/\K.A.list[r]?=some p/\p.taken=true/\p.var=(v:Int)/\k=nkp p/\r∉X
 at_:∀ (r:Nat) (p:PlaceV) (D:DM),2<=r->K.A.list[r]?=some p->p.taken=true->r∉X->T[p.var.toNat]?=some D->Maps.has D (nkp p)=true/\∀ z,D.atKey (nkp p) z=.lit (.int .u32 r)
 im:∀ (D:DM),D∈T->IsMap D
theorem nkp_inj {K:KV} {P:List Nat} (h:K.Wf P) {r s:Nat} {p c:PlaceV} (hr:2<=r) (hs:2<=s) (hp:K.A.list[r]?=some p) (hc:K.A.list[s]?=some c) (hpt:p.taken=true) (hct:c.taken=true) (e:nkp p=nkp c) :
  p.var=c.var/\p.lo=c.lo/\p.hi=c.hi:=by
 have h1:=h.vr r p hr hp hpt;have h2:=h.vr s c hs hc hct;have h3:=h.vs;have h4:=h.ok.u32 p (List.mem_of_getElem? hp);have h5:=h.ok.u32 c (List.mem_of_getElem? hc);exact nk_inj (wfI (by omega) (by omega)) (wfR h4.1) (wfR h4.2.1) (wfI (by omega) (by omega)) (wfR h5.1) (wfR h5.2.1) e
theorem TInv.uniq {T:List DM} {K:KV} {X P:List Nat} (h:TInv T K X) (hw:K.Wf P) {r s:Nat} {p c:PlaceV} (hr:2<=r) (hs:2<=s) (hp:K.A.list[r]?=some p) (hc:K.A.list[s]?=some c) (hpt:p.taken=true) (hct:c.taken=true)
  (hrx:r∉X) (hsx:s∉X) (e:nkp p=nkp c):r=s:=by
 have hv:=h.len;have h1:=hw.vr r p hr hp hpt;obtain ⟨e1,_,_⟩:=nkp_inj hw hr hs hp hc hpt hct e
 have hl:p.var.toNat<T.length:=by omega
 have hD:T[p.var.toNat]?=some T[p.var.toNat]:=List.getElem?_eq_getElem hl;have g1:=(h.at_ r p _ hr hp hpt hrx hD).2 .nil;have g2:=(h.at_ s c _ hs hc hct hsx (by rw [<- e1];exact hD)).2 .nil;rw [e,g2] at g1
 simp at g1
 omega
theorem TInv.size {T:List DM} {K:KV} {X P:List Nat} (h:TInv T K X) (hw:K.Wf P) {v:Nat} {D:DM} (hv:T[v]?=some D) (hc:Maps.Canon D) (ht:Tidy D):Maps.size D<=1048576:=by
 have:=size_le_keys hc (ks:=K.A.list.map nkp) (fun k hk=>by
  obtain ⟨r,p,_,hp,_,_,rfl,_⟩:=h.dom v D k hv hk
  exact List.mem_map.2 ⟨p,List.mem_of_getElem? hp,rfl⟩) ht
 have h2:=hw.ok.lp;have h3:=hw.ok.pm
 simp at this
 omega
theorem TInv.same {T:List DM} {K K':KV} {X:List Nat} (h:TInv T K X) (hA:K'.A=K.A) (hv:K'.vars=K.vars):TInv T K' X :=
 ⟨by rw [hv];exact h.len,by rw [hA];exact h.dom,by rw [hA];exact h.at_,h.im⟩
theorem TInv.gone {T:List DM} {K:KV} {P:List Nat} (h:TInv T K []) (hw:K.Wf P) {r v:Nat} {p:PlaceV} {D:DM} (hr:2<=r) (hp:K.A.list[r]?=some p) (hpt:p.taken=true) (hv:p.var=(v:Int)) (hD:T[v]?=some D) :
  TInv (T.set v (D.del (nkp p))) (K.gone r) []:=by
 have hvl:=(List.getElem?_eq_some_iff.1 hD).1;have hlt:=(List.getElem?_eq_some_iff.1 hp).1;refine ⟨by simpa [KV.gone] using h.len,?_,?_,?_⟩
 ·intro u D2 k hu hk
  have key:∀ (s:Nat) (c:PlaceV),2<=s->K.A.list[s]?=some c->c.taken=true->s≠r->(K.gone r).A.list[s]?=some c:=by
   intro s c _ hc _ hne
   simp only [KV.gone,ArenaV.drop]
   rw [List.getElem?_set_ne (Ne.symm hne)];exact hc
  by_cases e:u=v
  ·subst e
   rw [List.getElem?_set_self hvl] at hu;cases hu
   by_cases e2:k=nkp p
   ·subst e2;rw [has_del_same] at hk;cases hk
   ·rw [has_del_other e2] at hk
    obtain ⟨s,c,h1,h2,h3,h4,h5,h6⟩:=h.dom u D k hD hk;refine ⟨s,c,h1,key s c h1 h2 h3 ?_,h3,h4,h5,by simp⟩;rintro rfl
    rw [hp] at h2;cases h2;exact e2 h5
  ·rw [List.getElem?_set_ne (Ne.symm e)] at hu
   obtain ⟨s,c,h1,h2,h3,h4,h5,h6⟩:=h.dom u D2 k hu hk;refine ⟨s,c,h1,key s c h1 h2 h3 ?_,h3,h4,h5,by simp⟩;rintro rfl
   rw [hp] at h2;cases h2
   rw [hv] at h4;omega
 ·intro s c D2 hs hc hct _ hD2
  have hne:s≠r:=by
   rintro rfl
   simp only [KV.gone,ArenaV.drop] at hc
   rw [List.getElem?_set_self hlt] at hc;cases hc;simp [PlaceV.zero] at hct
  simp only [KV.gone,ArenaV.drop] at hc
  rw [List.getElem?_set_ne (Ne.symm hne)] at hc
  by_cases e:c.var.toNat=v
  ·rw [e,List.getElem?_set_self hvl] at hD2;cases hD2
   have hk:nkp c≠nkp p:=fun e2=>hne (h.uniq hw hs hr hc hp hct hpt (by simp) (by simp) e2)
   obtain ⟨g1,g2⟩:=h.at_ s c D hs hc hct (by simp) (by rw [e];exact hD);rw [has_del_other hk];exact ⟨g1,fun z=>by rw [atKey_del_other hk];exact g2 z⟩
  ·rw [List.getElem?_set_ne (Ne.symm e)] at hD2
   exact h.at_ s c D2 hs hc hct (by simp) hD2
 ·intro D2 hD2
  rcases List.mem_or_eq_of_mem_set hD2 with h1 | rfl
  ·exact h.im D2 h1
  ·exact (h.im D (List.mem_of_getElem? hD)).del _
structure KV.Le (K' K:KV):Prop where
 nd:∀ (r:Nat) (p:PlaceV),K'.A.list[r]?=some p->p.taken=true->K.A.list[r]?=some p
 pl:K'.A.places=K.A.places
 us:K'.A.used<=K.A.used
 hd:K'.holds=K.holds
 vr:K'.vars=K.vars
 od:K'.order=K.order
 lv:K'.level=K.level
 tr:K'.trail=K.trail
theorem KV.Le.refl (K:KV):K.Le K:=⟨fun _ _ h _=>h,rfl,Nat.le_refl _,rfl,rfl,rfl,rfl,rfl⟩
theorem KV.Le.trans {A B C:KV} (h:A.Le B) (k:B.Le C):A.Le C :=
 ⟨fun r p h1 h2=>k.nd r p (h.nd r p h1 h2) h2,h.pl.trans k.pl,Nat.le_trans h.us k.us,h.hd.trans k.hd,h.vr.trans k.vr,h.od.trans k.od,h.lv.trans k.lv,h.tr.trans k.tr⟩
theorem KV.less_le (K:KV) (r:Nat):(K.less r).Le K:=⟨fun _ _ h _=>h,rfl,Nat.le_refl _,rfl,rfl,rfl,rfl,rfl⟩
theorem KV.gone_le (K:KV) (r:Nat):(K.gone r).Le K:=by
 refine ⟨fun s p h ht=>?_,rfl,by simp [KV.gone,ArenaV.drop],rfl,rfl,rfl,rfl,rfl⟩
 simp only [KV.gone,ArenaV.drop] at h
 by_cases e:s=r
 ·subst e
  by_cases hl:s<K.A.list.length
  ·rw [List.getElem?_set_self hl] at h;cases h;simp [PlaceV.zero] at ht
  ·rw [List.getElem?_eq_none (by simpa using hl)] at h;cases h
 ·rw [List.getElem?_set_ne (Ne.symm e)] at h;exact h
theorem KV.Pos.less {K:KV} {P:List Nat} {r:Nat} (h:K.Pos) (hw:K.Wf (r::P)) (hr:2<=r) (hu:1<K.use r):(K.less r).Pos:=by
 intro s hs ht
 show 0<(K.uses.set r (K.use r-1)).getD s 0
 rw [getD_set (hw.tu r hr (hw.pt r (by simp)))];split
 ·omega
 ·exact h s hs ht
theorem KV.Pos.gone {K:KV} {P:List Nat} {r:Nat} (h:K.Pos) (hw:K.Wf (r::P)) (hr:2<=r):(K.gone r).Pos:=by
 intro s hs ht
 have hl:=hw.tu r hr (hw.pt r (by simp));have hlt:=ArenaV.tk_lt (hw.pt r (by simp))
 show 0<(K.uses.set r 0).getD s 0
 rw [getD_set hl]
 have:(K.gone r).A.tk s=if s=r then false else K.A.tk s:=tk_drop hlt
 rw [this] at ht
 split at ht
 ·cases ht
 ·rename_i e
  rw [if_neg e];exact h s hs ht
structure RelR (w:World) (b:Nat) (K0:KV) (P:List Nat) (q0:KPtr) (S:List Nat) (wr:World) (K:KV) (T:List DM) (q:KPtr):Prop where
 mem:KerMem wr b K T q
 wf:K.Wf (S++P)
 ti:TInv T K []
 le:K.Le K0
 pos:K0.Pos->K.Pos
 qe:q={ q0 with FA:=q.FA,o:=q.o }
 up:Upd (q0.all b) w wr
 sub:Sub (q0.all b) w (q.all b)
theorem RelR.pop {w:World} {b:Nat} {K0:KV} {P:List Nat} {q0:KPtr} {S:List Nat} {r:Nat} {wr:World} {K:KV} {T:List DM} {q:KPtr} (h:RelR w b K0 P q0 (r::S) wr K T q) (hr:r<2):RelR w b K0 P q0 S wr K T q :=
 ⟨h.mem,h.wf.unpend01 hr,h.ti,h.le,h.pos,h.qe,h.up,h.sub⟩
theorem RelR.less {w:World} {b:Nat} {K0:KV} {P:List Nat} {q0:KPtr} {S:List Nat} {r g n c:Nat} {wr:World} {K:KV} {T:List DM} {q:KPtr} (h:RelR w b K0 P q0 (r :: S) wr K T q) (hr:2≤r) (hu:1 < K.use r)
    (hl:r < K.uses.length) (hq:q.uv=.slice (some ⟨g,0,none⟩) n c):RelR w b K0 P q0 S (wr.setCell ⟨g,r,none⟩ (.int .i32 ((K.use r - 1:Nat):Int))) (K.less r) T q :=
  ⟨h.mem.setUse hq hl,h.wf.less hr,h.ti.same rfl rfl,(K.less_le r).trans h.le,fun hp=>(h.pos hp).less h.wf hr hu,h.qe,
   h.up.setCell (h.sub g (KPtr.mem.2 (.inr (.inr (.inr (.inl (by rw [hq]; rfl))))))) _,h.sub⟩
theorem RelR.gone {w:World} {b:Nat} {K0:KV} {P:List Nat} {q0:KPtr} {S:List Nat} {r g n c v:Nat} {wr w2 w3 w4 w5:World} {K:KV} {T:List DM} {q:KPtr} {p:PlaceV} {D:DM} {F':List Nat}
  (h:RelR w b K0 P q0 (r::S) wr K T q) (hr:2<=r) (hu:K.use r=1)
  (hl:r<K.uses.length) (hq:q.uv=.slice (some ⟨g,0,none⟩) n c) (hp:K.A.list[r]?=some p) (hpt:p.taken=true) (hv:p.var=(v:Int)) (hD:T[v]?=some D)
  (u2:Upd [] (wr.setCell ⟨g,r,none⟩ (.int .i32 0)) w2)
  (t3:TabAt w3 q.t (T.set v (D.del (nkp p))) q.FT) (u3:Upd q.FT w2 w3)
  (a4:ArenaAt w4 q.a (K.A.drop r) F') (u4:Upd q.FA w3 w4) (s4:Sub q.FA w3 F')
  (u5:∀ k,k<w.heap.size\/k∈q.all b\/k∈F'->w5.heap[k]?=w4.heap[k]?) (u6:Upd (q0.all b) w w4->Upd (q0.all b) w w5) :
  RelR w b K0 P q0 (p.hi::p.lo::S) w5 (K.gone r) (T.set v (D.del (nkp p))) { q with FA:=F',o:=retag q w3.heap.size 1 }:=by
 have m1:=h.mem.setUse (n:=0) hq hl;have m2:=m1.upd u2 (by simp);have m3:=m2.table t3 u3;have m4:=m3.arena a4 u4 s4;have hsz:w.heap.size<=w3.heap.size:=Nat.le_trans h.up.size (Nat.le_trans (by simpa [World.setCell] using u2.size) u3.size);have hall:∀ k,k∈q.all b->k∈q0.all b\/w.heap.size<=k:=h.sub
 have hU4:Upd (q0.all b) w w4:=by
  have e1:=h.up.setCell (p:=⟨g,r,none⟩) (hall g (KPtr.mem.2 (.inr (.inr (.inr (.inl (by rw [hq];rfl))))))) (.int .i32 0)
  have e2:=e1.then u2 (by simp)
  have e3:=e2.then u3 (fun x hx=>hall x (KPtr.mem.2 (.inr (.inr (.inl hx)))))
  exact e3.then u4 (fun x hx=>hall x (KPtr.mem.2 (.inr (.inl hx))))
 have hw:=h.wf.gone hr hu hp hpt;refine ⟨?_,hw.perm (List.Perm.swap _ _ _),?_,(K.gone_le r).trans h.le,fun hq=>(h.pos hq).gone h.wf hr,?_,u6 hU4,?_⟩
 ·refine KerMem.keep (w:=w4) m4 fun k hk=>u5 k ?_
  rcases KPtr.mem.1 hk with hk | hk | hk
  ·exact .inr (.inl (KPtr.mem.2 (.inl hk)))
  ·exact .inr (.inr hk)
  ·exact .inr (.inl (KPtr.mem.2 (.inr (.inr hk))))
 ·exact h.ti.gone h.wf hr hp hpt hv hD
 ·rw [h.qe]
 ·intro k hk
  rcases KPtr.mem.1 hk with hk | hk | hk
  ·exact hall k (KPtr.mem.2 (.inl hk))
  ·rcases s4 k hk with hk | hk
   ·exact hall k (KPtr.mem.2 (.inr (.inl hk)))
   ·right;omega
  ·exact hall k (KPtr.mem.2 (.inr (.inr hk)))
structure TodoAt (w:World) (n0:Nat) (S:List Nat) (F:List Nat) (v:Value):Prop where
 row:w.ownsRow n0 77 1 v S.length (flatRefs S.reverse)
 own:∀ k,v.ownBlock=some k->k∉F
theorem TodoAt.top {w:World} {n0 r:Nat} {S F:List Nat} {v:Value} (h:TodoAt w n0 (r::S) F v) :
  ∃ g c,v=.slice (some ⟨g,0,none⟩) (S.length+1) c/\w.cell? ⟨g,S.length,none⟩=some (.int .u32 r)/\S.length+1<=c/\c<=9223372036854775807/\g∉F/\n0<=g/\g<w.heap.size/\TodoAt w n0 S F (.slice (some ⟨g,0,none⟩) S.length c):=by
 have hr:=h.row;obtain ⟨g,c,rfl,_,_⟩:=hr.form (by simp);obtain ⟨_,hc1,hc2,_⟩:=row_block hr;have hl:=hr.lt g rfl;have ht:=row_take hr (m:=S.length) (by simp);unfold maxLen at hc2
 simp at hr hc1
 refine ⟨g,c,by simp,row_cell hr ?_,hc1,by omega,h.own g rfl,hl.1,hl.2,?_,?_⟩
 ·simp [flatRefs]
 ·simpa [flatRefs] using ht
 ·intro k hk;exact h.own k hk
theorem held4 {w w4:World} {S:List Nat} {a1 a2 a3 a4:Addr} {v1 v2 v3 v4:Value} (hu:Upd S w w4) (h1:w.cell? a1=some v1) (h2:w.cell? a2=some v2) (h3:w.cell? a3=some v3) (h4:w.cell? a4=some v4)
    (n1:a1.block∉S) (n2:a2.block∉S) (n3:a3.block∉S) (n4:a4.block∉S) :
    w4.cell? a1=some v1∧w4.cell? a2=some v2∧w4.cell? a3=some v3∧w4.cell? a4=some v4 :=
  ⟨(hu.cell (World.block_lt_of_cell? w _ h1) n1).trans h1,(hu.cell (World.block_lt_of_cell? w _ h2) n2).trans h2,(hu.cell (World.block_lt_of_cell? w _ h3) n3).trans h3,
   (hu.cell (World.block_lt_of_cell? w _ h4) n4).trans h4⟩
theorem rel_end {w:World} {b:Nat} {K0:KV} {P:List Nat} {q0:KPtr} {S:List Nat} {r g n c v gt g5 cap:Nat} {wr w2 w3 w4 w5:World} {K:KV} {T:List DM} {q:KPtr} {p:PlaceV} {D:DM} {F':List Nat} {X:Obj}
  (h:RelR w b K0 P q0 (r::S) wr K T q) (hr:2<=r) (hu:K.use r=1)
  (hl:r<K.uses.length) (hq:q.uv=.slice (some ⟨g,0,none⟩) n c) (hp:K.A.list[r]?=some p) (hpt:p.taken=true) (hv:p.var=(v:Int)) (hD:T[v]?=some D)
  (u2:Upd [] (wr.setCell ⟨g,r,none⟩ (.int .i32 0)) w2)
  (t3:TabAt w3 q.t (T.set v (D.del (nk v p.lo p.hi))) q.FT) (u3:Upd q.FT w2 w3)
  (a4:ArenaAt w4 q.a (K.A.drop r) F') (u4:Upd q.FA w3 w4) (s4:Sub q.FA w3 F')
  (d3:gt∉q.all b) (d4:w.heap.size<=gt) (d5:gt<wr.heap.size) (hg:(w4.alloc X).grownBy w5 (some gt)) (hat:some gt=some g5\/g5=(w4.alloc X).heap.size)
  (hown:w5.ownsRow w.heap.size 77 1 (.slice (some ⟨g5,0,none⟩) (S.length+2) cap) (S.length+2) (flatRefs S.reverse++[.int .u32 p.lo,.int .u32 p.hi])) :
  ∃ q',RelR w b K0 P q0 (p.hi::p.lo::S) w5 (K.gone r) (T.set v (D.del (nkp p))) q'/\TodoAt w5 w.heap.size (p.hi::p.lo::S) (q'.all b) (.slice (some ⟨g5,0,none⟩) (S.length+2) cap):=by
 have hs2:wr.heap.size<=w2.heap.size:=by simpa [World.setCell] using u2.size
 have hs3:=u3.size;have hs4:=u4.size;have hF4:∀ k,k∈F'->k<w4.heap.size:=a4.lt;have hold:∀ k,k∈q.all b->k<wr.heap.size:=h.mem.lt
 have hnkp:nkp p=nk v p.lo p.hi:=by unfold nkp;rw [hv]
 have hF5:gt∉F':=by
  intro hk
  rcases s4 gt hk with hk | hk
  ·exact d3 (KPtr.mem.2 (.inr (.inl hk)))
  ·omega
 refine ⟨_,h.gone hr hu hl hq hp hpt hv hD u2 (by rw [hnkp];exact t3) u3 a4 u4 s4 (fun k hk=>?_) (fun hU=>(hU.alloc X).grown hg (by intro k hk;cases hk;exact .inr d4)),?_,?_⟩
 ·have hk4:k<w4.heap.size/\k≠gt:=by
   rcases hk with hk | hk | hk
   ·have:=h.up.size
    exact ⟨by omega,by omega⟩
   ·have:=hold k hk
    exact ⟨by omega,by rintro rfl;exact d3 hk⟩
   ·exact ⟨hF4 k hk,by rintro rfl;exact hF5 hk⟩
  rw [hg.block k (by rw [World.size_alloc];omega) (by simpa using hk4.2),heap_alloc_old _ _ hk4.1]
 ·simpa [flatRefs] using hown
 ·intro k hk
  simp [Value.ownBlock] at hk
  subst hk
  intro hm
  have hm4:g5<w4.heap.size:=by
   rcases KPtr.mem.1 hm with hk | hk | hk
   ·have:=hold b (KPtr.mem.2 (.inl rfl));omega
   ·exact hF4 _ hk
   ·have:=hold g5 (KPtr.mem.2 (.inr (.inr hk)));omega
  rcases hat with hat | hat
  ·simp at hat
   subst hat
   rcases KPtr.mem.1 hm with hk | hk | hk
   ·exact d3 (KPtr.mem.2 (.inl hk))
   ·exact hF5 hk
   ·exact d3 (KPtr.mem.2 (.inr (.inr hk)))
  ·rw [World.size_alloc] at hat;omega
theorem release_spec (b r0:Nat) (K0:KV) (P:List Nat) (T0:List DM) (q0:KPtr) (w:World) (h:KerMem w b K0 T0 q0) (hw:K0.Wf (r0::P)) (ht:TInv T0 K0 []) (hP:P.length<=1000000000) (hr32:r0<=4294967295) :
  Calls Tryz.prog 96 #[.pointer (some ⟨b,0,none⟩),.int .u32 r0] w fun e w'=>e=.returned (.tuple #[])/\∃ K T q,RelR w b K0 P q0 [] w' K T q:=by
 have hu0:2*K0.A.used+1<=2097153:=by have:=hw.ok.us;have:=hw.ok.lp;have:=hw.ok.pm;omega
 have HS:Hid (∀ o,RelR w b K0 P q0 [r0] (w.alloc o) K0 T0 q0):=fun o=>by
  have hu:=(Upd.refl (q0.all b) w).alloc o;exact ⟨h.keep fun k hk=>(heap_alloc_old w o (h.lt k hk)),hw,ht,.refl _,id,rfl,hu,Sub.refl _ _⟩
 have HN:Hid (∀ k,k∈q0.all b->k<w.heap.size):=h.lt;clear h hw ht
 go_enter Tryz.func96,Tryz.ntmps96
 go_wp2_with fail
 go_loopg [4] (2*K0.A.used+1) (fun g s4 wr=>∃ (S:List Nat) (K:KV) (T:List DM) (q:KPtr),2*K.A.used+S.length=g/\g<=2097153/\(∀ x,x∈S->x<=4294967295)/\RelR w b K0 P q0 S wr K T q/\TodoAt wr w.heap.size S (q.all b) s4)
 case atStart =>
  refine ⟨[r0],K0,T0,q0,rfl,hu0,by simpa using hr32,HS.out _,?_,?_⟩
  ·exact World.ownsRow_lit w #[.int .u32 r0] 1 (Nat.le_refl _) (by unfold maxLen;omega) rfl
  ·intro k hk;simp [Value.ownBlock] at hk;subst hk;intro hm;have:=HN.out _ hm;omega
 case round =>
  obtain ⟨S,K,T,q,rfl,hg,hx,hR,hT⟩:=hrel
  cases S with
  | nil =>
   obtain ⟨a,c,rfl,_⟩:=row_nil_len hT.row;have HR:=Lib.hid hR;clear hR hT hx;go_wp2_with fail;go_end0;exact ⟨rfl,K,T,q,HR.out⟩
  | cons r S =>
   obtain ⟨gt,ct,rfl,d0,d1,d2,d3,d4,d5,d6⟩:=hT.top;have hr:=hx r (by simp)
   have HX:Hid (∀ x,x∈S->x<=4294967295):=fun x h=>hx x (by simp [h])
   have HT:=Lib.hid d6
   simp at hg
   obtain ⟨n,hn⟩ : ∃ n,S.length=n:=⟨_,rfl⟩;rw [hn] at d0 d1 hg;have HNN:=Lib.hid hn
   have hnb:n<=2097153:=by omega
   by_cases hr1:r<=1
   ·have HR:=Lib.hid (hR.pop (by omega))
    have hd:decide ((r:Int)<=1)=true:=by simp;omega
    clear hR hT hx d6
    simp only [hn]
    clear hn;go_wp2_with fail
    go_roundg (2*K.A.used+n)
    case measure=>simp;have:=HNN.out;omega
    case rel =>
     exact ⟨S,K,T,q,by rw [HNN.out],by omega,HX.out,HR.out,by rw [<- HNN.out];exact HT.out⟩
   ·have hr2:2<=r:=by omega
    have htk:=hR.wf.pt r (by simp);have hl:=hR.wf.tu r hr2 htk;have he:=hR.wf.eq r hr2 htk;have hub:=hR.wf.use_le hr2 htk
    have hpos:1<=K.use r:=by rw [he];simp;omega
    simp [hn] at hub
    have hbd:(K.use r:Int)<=2147483647:=by omega
    have hbd0:(1:Int)<=(K.use r:Int):=by omega
    obtain ⟨gu,cu,hq,c2,cu1,fu,hgu⟩:=hR.mem.useCell hl
    have hbgu:b≠gu:=by rintro rfl;have e1:=hR.mem.ob;have e2:=hR.mem.ou b (by rw [hq];rfl);omega
    have hgne:gt≠gu:=by rintro rfl;exact d3 hgu
    have hd:decide ((r:Int)<=1)=false:=by simp;omega
    have hrl:(r:Int)<(K.uses.length:Int):=by omega
    have hus:K.uses.length<=9223372036854775807:=by have:=(row_block (hq ▸ hR.mem.us)).2;unfold maxLen at this;omega
    have hbl:=hR.mem.lt b (KPtr.mem.2 (.inl rfl))
    by_cases hu1:1<K.use r
    ·have HR:=Lib.hid (hR.less hr2 hu1 hl hq)
     have hc:((K.use r-1:Nat):Int)=(K.use r:Int)-1:=by omega
     rw [hc] at HR
     have hgt:decide (0<(K.use r:Int)-1)=true:=by simp;omega
     have HT2:Hid (TodoAt (wr.setCell ⟨gu,r,none⟩ (.int .i32 ((K.use r:Int)-1))) w.heap.size S (q.all b) (.slice (some ⟨gt,0,none⟩) n ct)):=by
      rw [<- hn];exact ⟨row_ne d6.row (by simpa [Value.ownBlock] using hgne.symm) _,d6.own⟩
     clear hR hT hx d6 hq he hub hc hgu
     simp only [hn]
     clear hn;go_wp2_with fail
     go_roundg (2*K.A.used+n)
     case measure=>simp;have:=HNN.out;omega
     case rel =>
      exact ⟨S,K.less r,T,q,by rw [HNN.out];rfl,by omega,HX.out,HR.out,HT2.out⟩
    ·have hu1':K.use r=1:=by omega
     obtain ⟨p,hp,hpt⟩:=ArenaV.tk_iff.1 htk;have hvr:=hR.wf.vr r p hr2 hp hpt;obtain ⟨v,hv⟩ : ∃ v:Nat,p.var=(v:Int):=⟨p.var.toNat,by omega⟩
     have hvl:v<T.length:=by rw [hR.ti.len];omega
     have hD:T[v]?=some T[v]:=List.getElem?_eq_getElem hvl;have hhas:=(hR.ti.at_ r p _ hr2 hp hpt (by simp) (by rw [hv];exact hD)).1;have hlh:=hR.wf.ok.u32 p (List.mem_of_getElem? hp)
     have cu2:wr.cell? ⟨gu,r,none⟩=some (.int .i32 1):=by rw [cu1,hu1'];rfl
     have HTK:=Lib.hid htk;have HM1:=Lib.hid (hR.mem.setUse (n:=0) hq hl);have HR:=Lib.hid hR;have HD:=Lib.hid hD;have HP:=Lib.hid (And.intro hp (And.intro hpt hv))
     have HH:Hid (Maps.has T[v] (nk v p.lo p.hi)=true):=by rw [<- hv];exact hhas
     have HQ:=Lib.hid hq;have HU1:=Lib.hid hu1'
     have HT2:Hid (TodoAt wr w.heap.size S (q.all b) (.slice (some ⟨gt,0,none⟩) n ct)):=by
      rw [<- hn];exact d6
     have HV:=Lib.hid hv;clear hR hT hx d6 hq he hub cu1 hu1' hu1 hpos hbd hbd0 hhas hD hp hpt hvr hv htk
     simp only [hn]
     clear hn;go_wp2_with fail;refine (node_spec b r { K with uses:=K.uses.set r 0 } T q p _ HM1.out (by omega) HP.out.1 HP.out.2.1).mono ?_;rintro e w1 ⟨rfl,hu1⟩;have hb1:w1.cell? ⟨b,1,none⟩=some (.pointer (some ⟨q.t,0,none⟩)):=cell_at ((hu1.block b (by simpa [World.setCell] using hbl) (by simp)).trans HM1.out.blk) rfl;have hb0:w1.cell? ⟨b,0,none⟩=some (.pointer (some ⟨q.a,0,none⟩)):=cell_at ((hu1.block b (by simpa [World.setCell] using hbl) (by simp)).trans HM1.out.blk) rfl;have hbw1:b<w1.heap.size:=World.block_lt_of_cell? w1 _ hb0
     have hwr1:wr.heap.size<=w1.heap.size:=by simpa [World.setCell] using hu1.size
     have NT1:w1.heap.size∉q.FT:=by intro hm;have e1:=HM1.out.tab.lt _ hm;simp [World.setCell] at e1;omega
     have NA1:w1.heap.size∉q.FA:=by intro hm;have e1:=HM1.out.ar.lt _ hm;simp [World.setCell] at e1;omega
     have HM2:Hid (KerMem (w1.alloc (.cells #[.int .i64 v,.int .u32 p.lo,.int .u32 p.hi] 116 (0,0))).drew b { K with uses:=K.uses.set r 0 } T q) :=
      HM1.out.upd ((hu1.alloc _).drew) (by simp)
     have HU:Hid (Upd [] (wr.setCell ⟨gu,r,none⟩ (.int .i32 0)) (w1.alloc (.cells #[.int .i64 v,.int .u32 p.lo,.int .u32 p.hi] 116 (0,0))).drew):=(hu1.alloc _).drew
     obtain ⟨x0,x1,x2,x3⟩ : (w1.alloc (.cells #[.int .i64 v,.int .u32 p.lo,.int .u32 p.hi] 116 (0,0))).drew.cell? ⟨b,1,none⟩=some (.pointer (some ⟨q.t,0,none⟩)) /\
       (w1.alloc (.cells #[.int .i64 v,.int .u32 p.lo,.int .u32 p.hi] 116 (0,0))).drew.cell? ⟨w1.heap.size,0,none⟩=some (.int .i64 v) /\
       (w1.alloc (.cells #[.int .i64 v,.int .u32 p.lo,.int .u32 p.hi] 116 (0,0))).drew.cell? ⟨w1.heap.size,1,none⟩=some (.int .u32 p.lo) /\
       (w1.alloc (.cells #[.int .i64 v,.int .u32 p.lo,.int .u32 p.hi] 116 (0,0))).drew.cell? ⟨w1.heap.size,2,none⟩=some (.int .u32 p.hi):=by
      have hn:=heap_alloc_new w1 (.cells #[.int .i64 v,.int .u32 p.lo,.int .u32 p.hi] 116 (0,0));exact ⟨cell_at HM2.out.blk rfl,cell_at hn rfl,cell_at hn rfl,cell_at hn rfl⟩
     clear hu1 hb1 hb0;rw [HV.out];go_wp2_with fail
     have bFT:b∉q.FT:=by intro hm;have e1:=HM2.out.ob;have e2:=HM2.out.ot b hm;omega
     go_region_held3 (fun w'=>w'.cell? ⟨b,1,none⟩=some (.pointer (some ⟨q.t,0,none⟩))/\w'.cell? ⟨w1.heap.size,0,none⟩=some (.int .i64 v)/\w'.cell? ⟨w1.heap.size,1,none⟩=some (.int .u32 p.lo)/\w'.cell? ⟨w1.heap.size,2,none⟩=some (.int .u32 p.hi)) (first | exact ⟨x0,x1,x2,x3⟩ | exact held4 H3.out.2 x0 x1 x2 x3 bFT NT1 NT1 NT1) (first | (go_at_call 160;refine (rem_spec q.t q.FT v p.lo p.hi T T[v] _ HM2.out.tab HD.out hlh.1 hlh.2.1 HH.out).mono ?_;rintro e w3 ⟨rfl,ht3,hu3⟩;have H3:=Lib.hid (And.intro ht3 hu3);clear ht3 hu3))
     obtain ⟨_,y1,y2,y3⟩:=held4 H3.out.2 x0 x1 x2 x3 bFT NT1 NT1 NT1;have HM3:=Lib.hid (HM2.out.table H3.out.1 H3.out.2);have hb0:w3.cell? ⟨b,0,none⟩=some (.pointer (some ⟨q.a,0,none⟩)):=cell_at HM3.out.blk rfl;clear x0 x1 x2 x3 HM2;go_wp2_with fail;refine (free_ok q.a q.FA r K.A w3 HM3.out.ar (by omega) hr2 HTK.out).mono ?_;rintro e w4 ⟨rfl,F',a4,u4,s4⟩;have z2:w4.cell? ⟨w1.heap.size,1,none⟩=some (.int .u32 p.lo):=(u4.cell (World.block_lt_of_cell? w3 _ y2) NA1).trans y2;have z3:w4.cell? ⟨w1.heap.size,2,none⟩=some (.int .u32 p.hi):=(u4.cell (World.block_lt_of_cell? w3 _ y3) NA1).trans y3
     have HROW:Hid (w4.ownsRow w.heap.size 77 1 (.slice (some ⟨gt,0,none⟩) n ct) n (flatRefs S.reverse)):=by
      have h0:=HT2.out.row;rw [HNN.out] at h0;refine row_keep h0 ?_
      intro k hk
      simp [Value.ownBlock] at hk;subst hk
      have e1:=HU.out.size;have e2:=H3.out.2.size
      have e0:(wr.setCell ⟨gu,r,none⟩ (.int .i32 0)).heap.size=wr.heap.size:=by simp [World.setCell]
      rw [u4.block gt (by omega) (fun hm=>d3 (KPtr.mem.2 (.inr (.inl hm)))),H3.out.2.block gt (by omega) (fun hm=>d3 (KPtr.mem.2 (.inr (.inr (.inl hm))))),HU.out.block gt (by omega) (by simp),heap_set_ne hgne]
     have hsz5:w.heap.size<=(w4.alloc (.cells #[.int .u32 p.lo,.int .u32 p.hi] 77 (0,0))).heap.size:=by
      have e1:=HU.out.size;have e2:=H3.out.2.size;have e3:=u4.size
      have e0:(wr.setCell ⟨gu,r,none⟩ (.int .i32 0)).heap.size=wr.heap.size:=by simp [World.setCell]
      rw [World.size_alloc];omega
     have H4:=Lib.hid (And.intro a4 (And.intro u4 s4));clear a4 u4 s4 y1 y2 y3 hb0;obtain ⟨i,hi0,hz0,hz1',hz2⟩:=info_parts Tryz.infoRef;have HI:=Lib.hid hi0;have HZ:=Lib.hid hz0;have HZ1:=Lib.hid hz1';have HZ2:=Lib.hid hz2;clear hi0 hz0 hz1' hz2
     have HC2':Hid (∀ u,u∈[Value.int .u32 p.lo,Value.int .u32 p.hi]->u.oneCell'=true):=by intro u hu;simp at hu;rcases hu with rfl | rfl <;> rfl
     go_wp2_with (at_builtin;go_must (refine wpList_append_lies _ rfl (.tmp 57) (.tmp 62) 42 rfl w.heap.size 77 i _ 1 4 Tryz.underlying42 HI.out HZ.out HZ1.out HZ2.out (by rfl) (by decide) _ n (flatRefs S.reverse) rfl (HROW.out.alloc _) ⟨w4.heap.size,0,none⟩ 2 2 [.int .u32 p.lo,.int .u32 p.hi] rfl rfl ?c1 HC2'.out (by omega) (by unfold maxLen;omega) (by omega) (by omega) _ rfl ?_))
     case c1=>exact World.news_of_block (heap_alloc_new w4 (.cells #[.int .u32 p.lo,.int .u32 p.hi] 77 (0,0)))
     intro g5 cap w5 hown hgr hat hlt2
     have HX5:=Lib.hid (And.intro hown (And.intro hgr hat));clear hown hgr hat;go_wp2_with fail;obtain ⟨a4,u4,s4⟩:=H4.out;obtain ⟨hown,hgr,hat⟩:=HX5.out;have hfin:=rel_end (X:=.cells #[.int .u32 p.lo,.int .u32 p.hi] 77 (0,0)) (g5:=g5) (cap:=cap) HR.out hr2 HU1.out hl HQ.out HP.out.1 HP.out.2.1 HV.out HD.out HU.out H3.out.1 H3.out.2 a4 u4 s4 d3 d4 d5 hgr (by rw [World.size_alloc];simpa [Value.ownBlock] using hat) (by rw [HNN.out];exact hown);rw [HNN.out] at hfin;have HF:=Lib.hid hfin
     have HX2:Hid (∀ x,x∈p.hi::p.lo::S->x<=4294967295):=by
      intro x hx
      simp at hx
      rcases hx with hx | hx | hx
      ·rw [hx];exact hlh.2.1
      ·rw [hx];exact hlh.1
      ·exact HX.out x hx
     clear hfin a4 u4 s4 hown hgr hat
     have hus1:1<=K.A.used:=by have h3:=HR.out.wf.ok.us;have h1:=(HR.out.wf.ok.drop HTK.out hr2).us;have h2:=(HR.out.wf.ok.drop HTK.out hr2).l2;simp [ArenaV.drop] at *;omega
     go_roundg (2*(K.A.used-1)+(n+2))
     case measure=>have:=HNN.out;simp;omega
     case rel =>
      obtain ⟨q',hR',hT'⟩:=HF.out;exact ⟨p.hi::p.lo::S,K.gone r,_,q',by simp [KV.gone,ArenaV.drop,HNN.out],by omega,HX2.out,hR',hT'⟩
end Go.Proofs.YtfkopmhpppeheaaGreat
