import Derived.Test.YtfkopmhpppeheaaGreatPY27
import Derived.Deep.RegionHeld3
set_option maxRecDepth 100000
set_option maxHeartbeats 6400000
namespace Go.Proofs.YtfkopmhpppeheaaGreat
open Go.RowKit Go.Maps Go.ChangeMaps Go.WideShapes
variable {n0:Nat}
structure FoldQT (n0:Nat) (wS:World) (b ck ckk cf cw mb fl:Nat) (caps:Array Value) (K:KV) (T:List DM) (q:KPtr) (G:Nat->TV) (r:Nat) (w:World) (e:Ending) (w':World):Prop where
 ex:∃ (V:List Nat) (D:DM) (g c:Nat),e=.returned (tabV (G r) (hdT (G r) g c))/\FSt n0 w w' b ck ckk cf cw mb fl caps K T q G (fun z=>Upd [] wS z) V D [(hdT (G r) g c,G r)]
theorem updS {wS:World} {k:Nat} (hk:wS.heap.size<=k):∀ w w':World,Upd [] wS w->Upd [k] w w'->Upd [] wS w':=fun _ _ h u=>h.then u fun x hx=>.inr (by simp at hx;omega)
theorem fold_knownT (wS:World) (b ck ckk cf cw mb fl:Nat) (caps:Array Value) (K:KV) (T:List DM) (q:KPtr) (G:Nat->TV) (r:Nat) (V:List Nat) (D:DM) (w:World) (hmb:wS.heap.size<=mb)
  (h:FSt n0 w w b ck ckk cf cw mb fl caps K T q G (fun z=>Upd [] wS z) V D []) (hr:r<=4294967295) (hin:r∈V) :
  Calls Tryz.prog 198 #[.int .u32 r,.pointer (some ⟨ck,0,none⟩),.pointer (some ⟨ckk,0,none⟩),.pointer (some ⟨cf,0,none⟩),.pointer (some ⟨cw,0,none⟩)] w fun e w'=>FoldQT n0 wS b ck ckk cf cw mb fl caps K T q G r w e w':=by
 have h1:=h.keep0 (updS hmb) ((Upd.refl [] w).alloc (.cells #[.int .i64 0,.slice none 0 0] 122 (0,0)));have hb0:=heap_alloc_new w (.cells #[.int .i64 0,.slice none 0 0] 122 (0,0));have hlt:=h.m.lt;have hws:=h.s.size;obtain ⟨w1,hw1⟩ : ∃ w1,w.alloc (.cells #[.int .i64 0,.slice none 0 0] 122 (0,0))=w1:=⟨_,rfl⟩;rw [hw1] at h1 hb0;obtain ⟨x,ps,hrun,hx⟩:=h1.m.map.look_ok refKeyed Tryz.underlying268 (zeroTab w1) tabElem_zero (keyOf_int_mk Tryz.underlying77 (wfR hr));obtain ⟨g,c,hval,hti⟩:=h1.kn.val r hin;rw [hval] at hx;have hxe:=tabElem_inv hx;subst hxe;rw [(h1.kn.seen.has r hr).2 hin] at hrun;have ck0:=cell_at (j:=0) h1.m.bk rfl;have hu2:Upd [] w1 (w1.alloc (.cells #[.int .i64 (G r).n,hdT (G r) g c] 122 (0,0))):=(Upd.refl _ _).alloc _;have hb2:=(hu2.block _ (heap_lt hb0) (by simp)).trans hb0;have h2:=h1.keep0 (updS hmb) hu2;have hbx:=boxT w1 (.int .i64 (G r).n) (hdT (G r) g c)
 have h3:FSt n0 w (((w1.alloc (.cells #[.int .i64 (G r).n,hdT (G r) g c] 122 (0,0))).setCell ⟨w.heap.size,0,none⟩ (.int .i64 (G r).n)).setCell ⟨w.heap.size,1,none⟩ (hdT (G r) g c)) b ck ckk cf cw mb fl caps K T q G (fun z=>Upd [] wS z) V D [] :=
  h2.box (updS hws) hb2 (Nat.le_refl _) hlt (((Upd.refl [w.heap.size] _).setCell (p:=⟨w.heap.size,0,none⟩) (.inl (by simp)) _).setCell (p:=⟨w.heap.size,1,none⟩) (.inl (by simp)) _)
 have ht3:=(hti.keep0 hu2).foreign (((Upd.refl [w.heap.size] (w1.alloc (.cells #[.int .i64 (G r).n,hdT (G r) g c] 122 (0,0)))).setCell (p:=⟨w.heap.size,0,none⟩) (.inl (by simp)) (.int .i64 (G r).n)).setCell (p:=⟨w.heap.size,1,none⟩) (.inl (by simp)) (hdT (G r) g c)) fun k hk=>by simp at hk;subst hk;exact ⟨_,_,_,hb2,by decide⟩
 have HE:Hid (FSt n0 w (((w1.alloc (.cells #[.int .i64 (G r).n,hdT (G r) g c] 122 (0,0))).setCell ⟨w.heap.size,0,none⟩ (.int .i64 (G r).n)).setCell ⟨w.heap.size,1,none⟩ (hdT (G r) g c)) b ck ckk cf cw mb fl caps K T q G (fun z=>Upd [] wS z) V D [(hdT (G r) g c,G r)]) :=
  ⟨h3.kn,h3.c0,h3.c1,h3.m,h3.up,h3.s,fun y hy=>by simp at hy;subst hy;exact ht3⟩
 have HQ:Hid (∀ n hd,n=(G r).n->hd=hdT (G r) g c->FoldQT n0 wS b ck ckk cf cw mb fl caps K T q G r w (.returned (.agg #[.int .i64 n,hd])) (((w1.alloc (.cells #[.int .i64 n,hd] 122 (0,0))).setCell ⟨w.heap.size,0,none⟩ (.int .i64 n)).setCell ⟨w.heap.size,1,none⟩ hd)):=fun n hd e1 e2=>by
  subst e1 e2;exact ⟨V,D,g,c,rfl,HE.out⟩
 have HQ2:=Lib.hid (HQ.out _ _ rfl rfl);have z0:(w1.alloc (.cells #[.int .i64 (G r).n,hdT (G r) g c] 122 (0,0))).cell? ⟨w.heap.size,0,none⟩=some (.int .i64 0):=cell_at hb2 rfl;have z1:(w1.alloc (.cells #[.int .i64 (G r).n,hdT (G r) g c] 122 (0,0))).cell? ⟨w.heap.size,1,none⟩=some (.slice none 0 0):=cell_at hb2 rfl;have f0:=frozen_at 0 hb2;have f1:=frozen_at 1 hb2;have x0:=hbx.1;have x1:=hbx.2;have HB2:=Lib.hid hb2;have HW1:=Lib.hid hw1;have hfld:=fldT;unfold tabV at hrun;unfold hdT at HQ2 HB2 hrun z0 z1 f0 f1 x0 x1;generalize (G r).n=n at *;generalize (G r).ws.length=W at *;clear h h1 h2 h3 ht3 hti hb0 hb2 hu2 hbx hx hval hw1 hlt hws HE HQ
 go_enter Tryz.func198,Tryz.ntmps198
 go_upto_region 1 with fail;rw [HW1.out];go_wp2_with fail;obtain ⟨c0,c1⟩:=box2 HB2.out (.int .i64 n) (.slice (some ⟨g,0,none⟩) W c);refine bodyPost_ret (v:=.agg #[.int .i64 n,.slice (some ⟨g,0,none⟩) W c]) (by simp [results,Tryz.results198,go_sem,c0,c1]) rfl ?_;exact HQ2.out
end Go.Proofs.YtfkopmhpppeheaaGreat
namespace Go.Proofs.YtfkopmhpppeheaaGreat
open Go.RowKit Go.Maps Go.ChangeMaps Go.WideShapes
variable {n0:Nat}
def FoldCbT (fl:Nat) (caps:Array Value) (K:KV) (G:Nat->TV) (wS:World):Prop :=
 ∀ (w:World) (r:Nat) (p:PlaceV) (cl ch:Value),Upd [] wS w->2<=r->K.A.list[r]?=some p->p.taken=true->TIn w [] cl (G p.lo)->TIn w [] ch (G p.hi)->Calls Tryz.prog fl (#[.agg #[.int .i64 p.var,.int .u32 p.lo,.int .u32 p.hi],tabV (G p.lo) cl,tabV (G p.hi) ch]++caps) w fun e w'=>TabQN (G r) w e w'
def FoldHypT (n0:Nat) (wS:World) (b ck ckk cf cw mb fl:Nat) (caps:Array Value) (K:KV) (T:List DM) (q:KPtr) (G:Nat->TV) (d:Nat):Prop :=
 ∀ (r:Nat) (V:List Nat) (D:DM) (w:World),FSt n0 w w b ck ckk cf cw mb fl caps K T q G (fun z=>Upd [] wS z) V D []->K.A.tk r=true->d<=K.dep r ->
  Calls Tryz.prog 198 #[.int .u32 r,.pointer (some ⟨ck,0,none⟩),.pointer (some ⟨ckk,0,none⟩),.pointer (some ⟨cf,0,none⟩),.pointer (some ⟨cw,0,none⟩)] w fun e w'=>FoldQT n0 wS b ck ckk cf cw mb fl caps K T q G r w e w'
theorem FSt.rebase {w0 z:World} {wS:World} {b ck ckk cf cw mb fl:Nat} {caps:Array Value} {K:KV} {T:List DM} {q:KPtr} {G:Nat->TV} {V:List Nat} {D:DM} {L:List (Value × TV)} (h:FSt n0 w0 z b ck ckk cf cw mb fl caps K T q G (fun z=>Upd [] wS z) V D L):FSt n0 z z b ck ckk cf cw mb fl caps K T q G (fun z=>Upd [] wS z) V D []:=⟨h.kn,h.c0,h.c1,h.m,Upd.refl _ _,h.s,by simp⟩
theorem FSt.step {w0 z z':World} {wS:World} {b ck ckk cf cw mb fl:Nat} {caps:Array Value} {K:KV} {T:List DM} {q:KPtr} {G:Nat->TV} {V V':List Nat} {D D':DM} {L L':List (Value × TV)} (h:FSt n0 w0 z b ck ckk cf cw mb fl caps K T q G (fun z=>Upd [] wS z) V D L) (h':FSt n0 z z' b ck ckk cf cw mb fl caps K T q G (fun z=>Upd [] wS z) V' D' L'):FSt n0 w0 z' b ck ckk cf cw mb fl caps K T q G (fun z=>Upd [] wS z) V' D' (L'++L) :=
 ⟨h'.kn,h'.c0,h'.c1,h'.m,h.up.trans h'.up,h'.s,fun x hx=>by
  rcases List.mem_append.1 hx with hx | hx
  ·exact h'.ts x hx
  ·exact (h.ts x hx).keep h'.up fun k hk=>.inl (List.mem_cons.2 (.inl (List.mem_singleton.1 hk)))⟩
structure CutT (n0:Nat) (wS wA:World) (b ck ckk cf cw mb fl:Nat) (caps:Array Value) (K:KV) (T:List DM) (q:KPtr) (G:Nat->TV) (r:Nat) (s10:Value) (wc:World):Prop where
 ex:∃ (Bx:Nat) (V:List Nat) (D:DM) (g c:Nat),s10=.pointer (some ⟨Bx,0,none⟩)/\wc.cell? ⟨Bx,0,none⟩=some (.int .i64 (G r).n)/\wc.cell? ⟨Bx,1,none⟩=some (hdT (G r) g c)/\FSt n0 wA wc b ck ckk cf cw mb fl caps K T q G (fun z=>Upd [] wS z) V D [(hdT (G r) g c,G r)]/\wA.heap.size<=Bx
theorem CutT.of {wA z:World} {Bx:Nat} {wS:World} {b ck ckk cf cw mb fl:Nat} {caps:Array Value} {K:KV} {T:List DM} {q:KPtr} {G:Nat->TV} {V:List Nat} {D:DM} {r g c:Nat} (h:FSt n0 wA z b ck ckk cf cw mb fl caps K T q G (fun z=>Upd [] wS z) V D [(hdT (G r) g c,G r)]) (hs:wS.heap.size<=wA.heap.size) (hb:z.heap[Bx]?=some (Obj.cells #[.int .i64 0,.slice none 0 0] 122 (0,0))) (hB:wA.heap.size<=Bx)
  (hlt:(∀ k,k∈q.all b->k<wA.heap.size)/\ck<wA.heap.size/\ckk<wA.heap.size/\cf<wA.heap.size/\cw<wA.heap.size/\mb<wA.heap.size) :
  CutT n0 wS wA b ck ckk cf cw mb fl caps K T q G r (.pointer (some ⟨Bx,0,none⟩)) ((z.setCell ⟨Bx,0,none⟩ (.int .i64 (G r).n)).setCell ⟨Bx,1,none⟩ (hdT (G r) g c)):=by
 obtain ⟨c0,c1⟩:=box2 hb (.int .i64 (G r).n) (hdT (G r) g c);exact ⟨Bx,V,D,g,c,rfl,c0,c1,h.box (updS (Nat.le_trans hs hB)) hb hB hlt (((Upd.refl [Bx] _).setCell (p:=⟨Bx,0,none⟩) (.inl (by simp)) _).setCell (p:=⟨Bx,1,none⟩) (.inl (by simp)) _),hB⟩
theorem CutT.ofA {wA z:World} {wS:World} {b ck ckk cf cw mb fl:Nat} {caps:Array Value} {K:KV} {T:List DM} {q:KPtr} {G:Nat->TV} {V:List Nat} {D:DM} {r g c:Nat} (h:FSt n0 wA z b ck ckk cf cw mb fl caps K T q G (fun z=>Upd [] wS z) V D [(hdT (G r) g c,G r)]) (hmb:wS.heap.size<=mb) :
  CutT n0 wS wA b ck ckk cf cw mb fl caps K T q G r (.pointer (some ⟨z.heap.size,0,none⟩)) (z.alloc (.cells #[.int .i64 (G r).n,hdT (G r) g c] 122 (0,0))):=by
 obtain ⟨c0,c1⟩:=boxT z (.int .i64 (G r).n) (hdT (G r) g c);exact ⟨_,V,D,g,c,rfl,c0,c1,h.keep0 (updS hmb) ((Upd.refl _ _).alloc _),h.up.size⟩
theorem fold_newT (wS:World) (b ck ckk cf cw mb fl:Nat) (caps:Array Value) (K:KV) (T:List DM) (q:KPtr) (G:Nat->TV) (r:Nat) (V:List Nat) (D:DM) (w:World) (hmb:wS.heap.size<=mb) (hn0:n0<=wS.heap.size) (hen:Enters fl) (hCb:FoldCbT fl caps K G wS)
  (h:FSt n0 w w b ck ckk cf cw mb fl caps K T q G (fun z=>Upd [] wS z) V D []) (h2:2<=r) (ht:K.A.tk r=true) (hnin:r∉V) (IH:FoldHypT n0 wS b ck ckk cf cw mb fl caps K T q G (K.dep r+1)) :
  Calls Tryz.prog 198 #[.int .u32 r,.pointer (some ⟨ck,0,none⟩),.pointer (some ⟨ckk,0,none⟩),.pointer (some ⟨cf,0,none⟩),.pointer (some ⟨cw,0,none⟩)] w fun e w'=>FoldQT n0 wS b ck ckk cf cw mb fl caps K T q G r w e w':=by
 have HN0:=Lib.hid hn0;clear hn0;have hok:=h.m.ker.ok;have hrl:=hok.ref_lt ht
 have hr:r<=4294967295:=by omega
 obtain ⟨p,v,hp,hpt,hpv,hvl,tlo,thi,hdep⟩:=hok.wf.node_at h2 ht;have hbl:=hok.ord.below hok.wf h2 hp hpt;have h1:=h.keep0 (updS hmb) ((Upd.refl [] w).alloc (Obj.cells #[.int .i64 0,.slice none 0 0] 122 (0,0)));have hb0:=heap_alloc_new w (Obj.cells #[.int .i64 0,.slice none 0 0] 122 (0,0));have hws:=h.s.size;obtain ⟨w1,hw1⟩ : ∃ w1,w.alloc (Obj.cells #[.int .i64 0,.slice none 0 0] 122 (0,0))=w1:=⟨_,rfl⟩
 have hu1:Upd [] w w1:=by rw [<- hw1];exact (Upd.refl _ _).alloc _
 rw [hw1] at h1 hb0;obtain ⟨x,ps,hrun,hx⟩:=h1.m.map.look_ok refKeyed Tryz.underlying268 (zeroTab w1) tabElem_zero (keyOf_int_mk Tryz.underlying77 (wfR hr));obtain ⟨xn,xa,xl,xc,hxe⟩:=tabElem_form hx;subst hxe
 have hno:Maps.has D (.int .u32 r)=false:=by
  cases e:Maps.has D (.int .u32 r) with
  | false=>rfl
  | true=>exact absurd ((h1.kn.seen.has r hr).1 e) hnin
 rw [hno] at hrun;have ck0:=cell_at (j:=0) h1.m.bk rfl;have hu2:Upd [] w1 (w1.alloc (.cells #[.int .i64 xn,.slice xa xl xc] 122 (0,0))):=(Upd.refl _ _).alloc _;have HS2:=Lib.hid (h1.keep0 (updS hmb) hu2);have hbx:=boxT w1 (.int .i64 xn) (.slice xa xl xc);have x0:=hbx.1;have x1:=hbx.2;have ckk2:=hu2.cell0 (cell_at (j:=0) h1.m.bkk rfl);have HR0:=Lib.hid (And.intro hb0 (And.intro hu2 hu1));have HW1:=Lib.hid hw1;have HP:=Lib.hid (And.intro hp (And.intro hpt (And.intro hpv (And.intro hvl (And.intro tlo (And.intro thi (And.intro hbl hok)))))));have HIH:=Lib.hid IH;have HCB:=Lib.hid (And.intro hCb h2);have HMB:=Lib.hid (And.intro hmb hws);have H0:=Lib.hid h;have HEN:Hid (∀ (args:Array Value) (w:World),(callFunc fl args).run Tryz.prog w=.ok (.enter fl args) w):=hen;have hfld:=fldT;clear h h1 hb0 hws hx hbx hu1 hu2 hw1 hp hpt hpv hvl tlo thi hbl hok IH hCb hen hno hdep
 go_enter Tryz.func198,Tryz.ntmps198
 go_upto_region 1 with fail;rw [HW1.out];go_wp2_with fail;refine (cnode_spec b r K T q p _ HS2.out.m.ker.mem hr HP.out.1 HP.out.2.1).mono ?_;rintro e w3 ⟨rfl,hu3⟩;have HSA:Hid (FSt n0 w (w3.alloc (.cells #[.int .i64 p.var,.int .u32 p.lo,.int .u32 p.hi] 116 (0,0))) b ck ckk cf cw mb fl caps K T q G (fun z=>Upd [] wS z) V D []):=HS2.out.keep0 (updS HMB.out.1) (hu3.alloc (.cells #[.int .i64 p.var,.int .u32 p.lo,.int .u32 p.hi] 116 (0,0)));have hnb:=heap_alloc_new w3 (.cells #[.int .i64 p.var,.int .u32 p.lo,.int .u32 p.hi] 116 (0,0));have HUA:=Lib.hid (HR0.out.2.1.trans (hu3.alloc (.cells #[.int .i64 p.var,.int .u32 p.lo,.int .u32 p.hi] 116 (0,0))));have HPV:Hid (∃ vv:Int,p.var=vv):=⟨_,rfl⟩;obtain ⟨lo,hlo⟩ : ∃ lo,p.lo=lo:=⟨_,rfl⟩;obtain ⟨hi,hhi⟩ : ∃ hi,p.hi=hi:=⟨_,rfl⟩;obtain ⟨vv,hvv⟩ : ∃ vv,p.var=vv:=⟨_,rfl⟩;rw [hlo,hhi,hvv] at HSA hnb HUA;have HNE:=Lib.hid (And.intro hlo (And.intro hhi hvv));rw [hlo,hhi,hvv];obtain ⟨wA,hwA⟩ : ∃ wA,w3.alloc (.cells #[.int .i64 vv,.int .u32 lo,.int .u32 hi] 116 (0,0))=wA:=⟨_,rfl⟩;rw [hwA] at HSA hnb HUA;have HWA:=Lib.hid hwA;obtain ⟨B,hB⟩ : ∃ B,w3.heap.size=B:=⟨_,rfl⟩;rw [hB] at hnb;have HBE:=Lib.hid hB;have HLT:=Lib.hid HSA.out.m.lt;have HWS:Hid (wS.heap.size<=wA.heap.size):=HSA.out.s.size
 have hBm:B≠mb:=by have:=(HS2.out.keep0 (updS HMB.out.1) hu3).m.lt.2.2.2.2.2;omega
 have HH:Hid (∀ z:World,Upd [mb] wA z->z.cell? ⟨cf,0,none⟩=some (.func (Fn.func fl) #[] caps)/\z.cell? ⟨cw,0,none⟩=some (.func (Fn.func 198) #[] #[.pointer (some ⟨ck,0,none⟩),.pointer (some ⟨ckk,0,none⟩),.pointer (some ⟨cf,0,none⟩),.pointer (some ⟨cw,0,none⟩)])/\z.cell? ⟨B,0,none⟩=some (.int .i64 vv)/\z.cell? ⟨B,1,none⟩=some (.int .u32 lo)/\z.cell? ⟨B,2,none⟩=some (.int .u32 hi)):=fun z u=>by
  have hM2:=HSA.out.m
  have e:∀ {k:Nat} {o:Obj},mb≠k->wA.heap[k]?=some o->z.heap[k]?=some o:=fun {k o} hn hk=>by rw [u.block k (heap_lt hk) (by simp;exact Ne.symm hn)];exact hk
  have hx:=e (Ne.symm hBm) hnb;exact ⟨cell_at (j:=0) (e hM2.dm.2.2.1 hM2.bf) rfl,cell_at (j:=0) (e hM2.dm.2.2.2 hM2.bw) rfl,cell_at (j:=0) hx rfl,cell_at (j:=1) hx rfl,cell_at (j:=2) hx rfl⟩
 have HL:Hid (∀ (z:World) (V:List Nat) (D:DM) (L:List (Value × TV)),FSt n0 wA z b ck ckk cf cw mb fl caps K T q G (fun z=>Upd [] wS z) V D L->Calls Tryz.prog 198 #[.int .u32 lo,.pointer (some ⟨ck,0,none⟩),.pointer (some ⟨ckk,0,none⟩),.pointer (some ⟨cf,0,none⟩),.pointer (some ⟨cw,0,none⟩)] z fun e w'=>∃ (V':List Nat) (D':DM) (g c:Nat),e=.returned (tabV (G lo) (hdT (G lo) g c))/\FSt n0 wA w' b ck ckk cf cw mb fl caps K T q G (fun z=>Upd [] wS z) V' D' ((hdT (G lo) g c,G lo)::L)/\Upd [mb] z w'):=fun z V D L hz=>by
  rw [<- HNE.out.1]
  refine (HIH.out p.lo V D z hz.rebase HP.out.2.2.2.2.1 HP.out.2.2.2.2.2.2.1.1).mono fun e w' hQ=>?_
  obtain ⟨V',D',g,c,he,hs⟩:=hQ.ex;exact ⟨V',D',g,c,he,hz.step hs,hs.up⟩
 have HR:Hid (∀ (z:World) (V:List Nat) (D:DM) (L:List (Value × TV)),FSt n0 wA z b ck ckk cf cw mb fl caps K T q G (fun z=>Upd [] wS z) V D L->Calls Tryz.prog 198 #[.int .u32 hi,.pointer (some ⟨ck,0,none⟩),.pointer (some ⟨ckk,0,none⟩),.pointer (some ⟨cf,0,none⟩),.pointer (some ⟨cw,0,none⟩)] z fun e w'=>∃ (V':List Nat) (D':DM) (g c:Nat),e=.returned (tabV (G hi) (hdT (G hi) g c))/\FSt n0 wA w' b ck ckk cf cw mb fl caps K T q G (fun z=>Upd [] wS z) V' D' ((hdT (G hi) g c,G hi)::L)/\Upd [mb] z w'):=fun z V D L hz=>by
  rw [<- HNE.out.2.1]
  refine (HIH.out p.hi V D z hz.rebase HP.out.2.2.2.2.2.1 HP.out.2.2.2.2.2.2.1.2).mono fun e w' hQ=>?_
  obtain ⟨V',D',g,c,he,hs⟩:=hQ.ex;exact ⟨V',D',g,c,he,hz.step hs,hs.up⟩
 have HF:Hid (∀ (z:World) (V:List Nat) (D:DM) (g1 c1 g2 c2:Nat),FSt n0 wA z b ck ckk cf cw mb fl caps K T q G (fun z=>Upd [] wS z) V D [(hdT (G hi) g2 c2,G hi),(hdT (G lo) g1 c1,G lo)]->Calls Tryz.prog fl (#[.agg #[.int .i64 vv,.int .u32 lo,.int .u32 hi],tabV (G lo) (hdT (G lo) g1 c1),tabV (G hi) (hdT (G hi) g2 c2)]++caps) z fun e w'=>∃ g c:Nat,e=.returned (tabV (G r) (hdT (G r) g c))/\FSt n0 wA w' b ck ckk cf cw mb fl caps K T q G (fun z=>Upd [] wS z) V D [(hdT (G r) g c,G r)]/\Upd [mb] z w'):=fun z V D g1 c1 g2 c2 hz=>by
  have t2:=hz.ts _ (List.mem_cons_self ..);have t1:=hz.ts _ (List.mem_cons_of_mem _ (List.mem_cons_self ..));have hc:=HCB.out.1 z r p (hdT (G lo) g1 c1) (hdT (G hi) g2 c2) hz.s HCB.out.2 HP.out.1 HP.out.2.1 (by rw [HNE.out.1];exact ⟨t1.ok,t1.row,by simp⟩) (by rw [HNE.out.2.1];exact ⟨t2.ok,t2.row,by simp⟩);rw [HNE.out.1,HNE.out.2.1,HNE.out.2.2] at hc
  refine hc.mono fun e w' hQ=>?_
  obtain ⟨cv,rfl,hT,hu⟩:=hQ.ex;obtain ⟨ta,tc,rfl,_⟩:=row_nil_len hT.row;have hl:=hT.ok.len;have hp:=wordsN_pos (G r).n;obtain ⟨g,rfl⟩:=row_some hT.row (by omega);have hk:=hz.keep0 (updS HMB.out.1) hu
  exact ⟨g,tc,rfl,⟨hk.kn,hk.c0,hk.c1,hk.m,hk.up,hk.s,fun y hy=>by
   simp at hy;subst hy;exact hT.tin (Z:=mb::List.range n0) (fun k hk=>by
    rcases List.mem_cons.1 hk with hk | hk
    ·subst hk;exact hz.m.lt.2.2.2.2.2
    ·have h1:=List.mem_range.1 hk;have h2:=hz.s.size;have h3:=HN0.out;omega)⟩,hu.mono (by simp)⟩
 have hen:=HEN.out;clear hnb hlo hhi hvv hwA hB hBm hu3 ck0 ckk2 hrun x0 x1 HIH HCB;go_upto_region 5 with fail;rw [HWA.out,HBE.out]
 go_cut [10] from 22 to 32 (fun s10 wc=>CutT n0 wS wA b ck ckk cf cw mb fl caps K T q G r s10 wc)
 case first =>
  have HS0:Hid (FSt n0 wA wA.drew b ck ckk cf cw mb fl caps K T q G (fun z=>Upd [] wS z) V D []):=HSA.out.rebase.keep0 (updS HMB.out.1) (Upd.refl _ _).drew;refine wp_region_until (fun z=>z.cell? ⟨cf,0,none⟩=some (.func (Fn.func fl) #[] caps)/\z.cell? ⟨cw,0,none⟩=some (.func (Fn.func 198) #[] #[.pointer (some ⟨ck,0,none⟩),.pointer (some ⟨ckk,0,none⟩),.pointer (some ⟨cf,0,none⟩),.pointer (some ⟨cw,0,none⟩)])/\z.cell? ⟨B,0,none⟩=some (.int .i64 vv)/\z.cell? ⟨B,1,none⟩=some (.int .u32 lo)/\z.cell? ⟨B,2,none⟩=some (.int .u32 hi)) (fun _=>True) [12] (by kernel_rfl) ?_;have hS:=HH.out _ HS0.out.up;have hE:True:=trivial;refine wpAnyU_takeS (i:=0) (v:=?v301) rfl (by kernel_rfl) (by kernel_rfl) (by kernel_rfl) (by kernel_rfl) (fun _ _ _ h=>h) (Or.inl ⟨by rfl,?hy301⟩) hS (fun _=>hE) ?rest301
  case hy301=>(intro x hSx;(try dsimp only at hSx);go_simp;try with_reducible rfl)
  (try simp only [Act.put,List.setIfInBounds_toArray])
  refine wpAnyU_takeS (i:=1) (v:=?v302) rfl (by kernel_rfl) (by kernel_rfl) (by kernel_rfl) (by kernel_rfl) (fun _ _ _ h=>h) (Or.inl ⟨by rfl,?hy302⟩) hS (fun _=>hE) ?rest302
  case hy302=>(intro x hSx;(try dsimp only at hSx);go_simp;try with_reducible rfl)
  (try simp only [Act.put])
  refine wpAnyU_takeS (i:=2) (v:=?v303) rfl (by kernel_rfl) (by kernel_rfl) (by kernel_rfl) (by kernel_rfl) (fun _ _ _ h=>h) (Or.inl ⟨by rfl,?hy303⟩) hS (fun _=>hE) ?rest303
  case hy303=>(intro x hSx;(try dsimp only at hSx);go_simp;try with_reducible rfl)
  (try simp only [Act.put])
  refine wpAnyU_takeS (i:=3) (v:=?v304) rfl (by kernel_rfl) (by kernel_rfl) (by kernel_rfl) (by kernel_rfl) (fun _ _ _ h=>h) (Or.inl ⟨by rfl,?hy304⟩) hS (fun _=>hE) ?rest304
  case hy304=>(intro x hSx;(try dsimp only at hSx);go_simp;try with_reducible rfl)
  (try simp only [Act.put])
  refine wpAnyU_takeS (i:=4) (v:=?v305) rfl (by kernel_rfl) (by kernel_rfl) (by kernel_rfl) (by kernel_rfl) (fun _ _ _ h=>h) (Or.inl ⟨by rfl,?hy305⟩) hS (fun _=>hE) ?rest305
  case hy305=>(intro x hSx;(try dsimp only at hSx);go_simp;try with_reducible rfl)
  (try simp only [Act.put])
  refine wpAnyU_takeS (i:=6) (v:=?v306) rfl (by kernel_rfl) (by kernel_rfl) (by kernel_rfl) (by kernel_rfl) (fun _ _ _ h=>h) (Or.inl ⟨by rfl,?hy306⟩) hS (fun _=>hE) ?rest306
  case hy306=>(intro x hSx;(try dsimp only at hSx);go_simp;try with_reducible rfl)
  (try simp only [Act.put])
  refine wpAnyU_takeS (i:=7) (v:=?v307) rfl (by kernel_rfl) (by kernel_rfl) (by kernel_rfl) (by kernel_rfl) (fun _ _ _ h=>h) (Or.inl ⟨by rfl,?hy307⟩) hS (fun _=>hE) ?rest307
  case hy307=>(intro x hSx;(try dsimp only at hSx);go_simp;try with_reducible rfl)
  (try simp only [Act.put])
  refine wpAnyU_takeS (i:=8) (v:=?v308) rfl (by kernel_rfl) (by kernel_rfl) (by kernel_rfl) (by kernel_rfl) (fun _ _ _ h=>h) (Or.inl ⟨by rfl,?hy308⟩) hS (fun _=>hE) ?rest308
  case hy308=>(intro x hSx;(try dsimp only at hSx);go_simp;try with_reducible rfl)
  (try simp only [Act.put])
  refine wpAnyU_ready (rs:=[5,11]) (by kernel_rfl) (by simp) ?_;refine AllReadyU.cons rfl (fun Kx hK=>?_) ?_
  ·
   go_simp
   refine (HL.out _ _ _ _ HS0.out).mono ?_;rintro e wc1 ⟨V1,D1,g1,c1,rfl,hst,hup⟩;have HC1:=Lib.hid hst;clear hst hup;go_wp2_with fail;refine hK.out _ _ ⟨(HH.out _ HC1.out.up),fun _=>trivial⟩ (fun hHeld=>?_);clear hK Kx;obtain ⟨hS,hE⟩:=hHeld;have hE:=hE (by kernel_rfl)
   (try simp only [Act.put,List.setIfInBounds_toArray,List.set_cons_zero,List.set_cons_succ])
   refine wpAnyU_ready (rs:=[9,11]) (by kernel_rfl) (by simp) ?_;refine AllReadyU.cons rfl (fun Kx hK=>?_) ?_
   ·
    go_simp
    refine (HR.out _ _ _ _ HC1.out).mono ?_;rintro e wc2 ⟨V2,D2,g2,c2,rfl,hst,hup⟩;have HC2:=Lib.hid hst;clear hst hup;go_wp2_with fail;refine hK.out _ _ ⟨(HH.out _ HC2.out.up),fun _=>trivial⟩ (fun hHeld=>?_);clear hK Kx;obtain ⟨hS,hE⟩:=hHeld;have hE:=hE (by kernel_rfl)
    (try simp only [Act.put,List.setIfInBounds_toArray,List.set_cons_zero,List.set_cons_succ])
    refine wpAnyU_ready (rs:=[10,11]) (by kernel_rfl) (by simp) ?_;refine AllReadyU.cons rfl (fun Kx hK=>?_) ?_
    ·
     go_simp
     refine (HF.out _ _ _ _ _ _ _ HC2.out).mono ?_;rintro e wc3 ⟨g3,c3,rfl,hst,hup⟩;have HC3:=Lib.hid hst;rw [show tabV (G r) (hdT (G r) g3 c3)=.agg #[.int .i64 (G r).n,.slice (some ⟨g3,0,none⟩) (G r).ws.length c3] from rfl];clear hst hup;go_wp2_with fail;refine hK.out _ _ ⟨(HH.out _ HC3.out.up),fun _=>trivial⟩ (fun hHeld=>?_);clear hK Kx;obtain ⟨hS,hE⟩:=hHeld;have hE:=hE (by kernel_rfl)
     (try simp only [Act.put,List.setIfInBounds_toArray,List.set_cons_zero,List.set_cons_succ])
     refine wpAnyU_ready (rs:=[11]) (by kernel_rfl) (by simp) ?_;refine AllReadyU.cons rfl (fun Kx hK=>?_) ?_
     rotate_left
     exact AllReadyU.nil
     go_simp
     refine hK.out _ _ ⟨(HH.out _ (HC3.out.keep0 (updS HMB.out.1) ((Upd.refl _ _).alloc _)).up),fun _=>trivial⟩ (fun hHeld=>?_);clear hK Kx;obtain ⟨hS,hE⟩:=hHeld;have hE:=hE (by kernel_rfl)
     (try simp only [Act.put,List.setIfInBounds_toArray,List.set_cons_zero,List.set_cons_succ])
     have HCA:=Lib.hid (HC3.out.keep0 (updS HMB.out.1) ((Upd.refl _ _).alloc (Obj.cells #[.int .i64 0,.slice none 0 0] 122 (0,0))));have HXA:Hid ((wc3.alloc (Obj.cells #[.int .i64 0,.slice none 0 0] 122 (0,0))).heap[wc3.heap.size]?=some (Obj.cells #[.int .i64 0,.slice none 0 0] 122 (0,0))):=heap_alloc_new _ _;have HXL:Hid (wA.heap.size<=wc3.heap.size):=HC3.out.up.size;have y0:=cell_at (j:=0) HXA.out rfl;have y1:=cell_at (j:=1) HXA.out rfl;have fy0:=frozen_at 0 HXA.out;have fy1:=frozen_at 1 HXA.out;refine wpAnyU_ready (rs:=[12]) (by kernel_rfl) (by simp) ?_;refine AllReadyU.cons rfl (fun Kx hK=>?_) ?_
     rotate_left
     exact AllReadyU.nil
     go_simp
     refine hK.out _ _ ⟨(HH.out _ (HC3.out.up.alloc _)),fun h=>noE (by kernel_rfl) h⟩ (fun hHeld=>?_);clear hK Kx;obtain ⟨hS,_⟩:=hHeld
     (try simp only [Act.put,List.setIfInBounds_toArray,List.set_cons_zero,List.set_cons_succ])
     refine wpAnyU_done (by kernel_rfl) ?_ _;clear hS hE y0 y1 fy0 fy1 hen;go_wp2_with fail;go_meet;exact CutT.ofA HC3.out HMB.out.1
    refine AllReadyU.cons rfl (fun Kx hK=>?_) ?_
    rotate_left
    exact AllReadyU.nil
    go_simp
    refine hK.out _ _ ⟨(HH.out _ (HC2.out.keep0 (updS HMB.out.1) ((Upd.refl _ _).alloc _)).up),fun _=>trivial⟩ (fun hHeld=>?_);clear hK Kx;obtain ⟨hS,hE⟩:=hHeld;have hE:=hE (by kernel_rfl)
    (try simp only [Act.put,List.setIfInBounds_toArray,List.set_cons_zero,List.set_cons_succ])
    have HCA:=Lib.hid (HC2.out.keep0 (updS HMB.out.1) ((Upd.refl _ _).alloc (Obj.cells #[.int .i64 0,.slice none 0 0] 122 (0,0))));have HXA:Hid ((wc2.alloc (Obj.cells #[.int .i64 0,.slice none 0 0] 122 (0,0))).heap[wc2.heap.size]?=some (Obj.cells #[.int .i64 0,.slice none 0 0] 122 (0,0))):=heap_alloc_new _ _;have HXL:Hid (wA.heap.size<=wc2.heap.size):=HC2.out.up.size;refine wpAnyU_ready (rs:=[10]) (by kernel_rfl) (by simp) ?_;refine AllReadyU.cons rfl (fun Kx hK=>?_) ?_
    rotate_left
    exact AllReadyU.nil
    go_simp
    refine (HF.out _ _ _ _ _ _ _ HCA.out).mono ?_;rintro e wc3 ⟨g3,c3,rfl,hst,hup⟩;have HC3:=Lib.hid hst;have HX3:Hid (wc3.heap[wc2.heap.size]?=some (Obj.cells #[.int .i64 0,.slice none 0 0] 122 (0,0))):=(hup.block _ (heap_lt HXA.out) (by have:=HLT.out.2.2.2.2.2;have:=HXL.out;simp;omega)).trans HXA.out;rw [show tabV (G r) (hdT (G r) g3 c3)=.agg #[.int .i64 (G r).n,.slice (some ⟨g3,0,none⟩) (G r).ws.length c3] from rfl];clear hst hup;go_wp2_with fail;refine hK.out _ _ ⟨(HH.out _ HC3.out.up),fun _=>trivial⟩ (fun hHeld=>?_);clear hK Kx;obtain ⟨hS,hE⟩:=hHeld;have hE:=hE (by kernel_rfl)
    (try simp only [Act.put,List.setIfInBounds_toArray,List.set_cons_zero,List.set_cons_succ])
    have y0:=cell_at (j:=0) HX3.out rfl;have y1:=cell_at (j:=1) HX3.out rfl;have fy0:=frozen_at 0 HX3.out;have fy1:=frozen_at 1 HX3.out;refine wpAnyU_ready (rs:=[12]) (by kernel_rfl) (by simp) ?_;refine AllReadyU.cons rfl (fun Kx hK=>?_) ?_
    rotate_left
    exact AllReadyU.nil
    go_simp
    refine hK.out _ _ ⟨(HH.out _ ((HC3.out.up.setCell (p:=⟨wc2.heap.size,0,none⟩) (.inr HXL.out) _).setCell (p:=⟨wc2.heap.size,1,none⟩) (.inr HXL.out) _)),fun h=>noE (by kernel_rfl) h⟩ (fun hHeld=>?_);clear hK Kx;obtain ⟨hS,_⟩:=hHeld
    (try simp only [Act.put,List.setIfInBounds_toArray,List.set_cons_zero,List.set_cons_succ])
    refine wpAnyU_done (by kernel_rfl) ?_ _;clear hS hE y0 y1 fy0 fy1 hen;go_wp2_with fail;go_meet;exact CutT.of HC3.out HWS.out HX3.out HXL.out HLT.out
   refine AllReadyU.cons rfl (fun Kx hK=>?_) ?_
   rotate_left
   exact AllReadyU.nil
   go_simp
   refine hK.out _ _ ⟨(HH.out _ (HC1.out.keep0 (updS HMB.out.1) ((Upd.refl _ _).alloc _)).up),fun _=>trivial⟩ (fun hHeld=>?_);clear hK Kx;obtain ⟨hS,hE⟩:=hHeld;have hE:=hE (by kernel_rfl)
   (try simp only [Act.put,List.setIfInBounds_toArray,List.set_cons_zero,List.set_cons_succ])
   have HCA:=Lib.hid (HC1.out.keep0 (updS HMB.out.1) ((Upd.refl _ _).alloc (Obj.cells #[.int .i64 0,.slice none 0 0] 122 (0,0))));have HXA:Hid ((wc1.alloc (Obj.cells #[.int .i64 0,.slice none 0 0] 122 (0,0))).heap[wc1.heap.size]?=some (Obj.cells #[.int .i64 0,.slice none 0 0] 122 (0,0))):=heap_alloc_new _ _;have HXL:Hid (wA.heap.size<=wc1.heap.size):=HC1.out.up.size;refine wpAnyU_ready (rs:=[9]) (by kernel_rfl) (by simp) ?_;refine AllReadyU.cons rfl (fun Kx hK=>?_) ?_
   rotate_left
   exact AllReadyU.nil
   go_simp
   refine (HR.out _ _ _ _ HCA.out).mono ?_;rintro e wc2 ⟨V2,D2,g2,c2,rfl,hst,hup⟩;have HC2:=Lib.hid hst;have HX2:Hid (wc2.heap[wc1.heap.size]?=some (Obj.cells #[.int .i64 0,.slice none 0 0] 122 (0,0))):=(hup.block _ (heap_lt HXA.out) (by have:=HLT.out.2.2.2.2.2;have:=HXL.out;simp;omega)).trans HXA.out;clear hst hup;go_wp2_with fail;refine hK.out _ _ ⟨(HH.out _ HC2.out.up),fun _=>trivial⟩ (fun hHeld=>?_);clear hK Kx;obtain ⟨hS,hE⟩:=hHeld;have hE:=hE (by kernel_rfl)
   (try simp only [Act.put,List.setIfInBounds_toArray,List.set_cons_zero,List.set_cons_succ])
   refine wpAnyU_ready (rs:=[10]) (by kernel_rfl) (by simp) ?_;refine AllReadyU.cons rfl (fun Kx hK=>?_) ?_
   rotate_left
   exact AllReadyU.nil
   go_simp
   refine (HF.out _ _ _ _ _ _ _ HC2.out).mono ?_;rintro e wc3 ⟨g3,c3,rfl,hst,hup⟩;have HC3:=Lib.hid hst;have HX3:Hid (wc3.heap[wc1.heap.size]?=some (Obj.cells #[.int .i64 0,.slice none 0 0] 122 (0,0))):=(hup.block _ (heap_lt HX2.out) (by have:=HLT.out.2.2.2.2.2;have:=HXL.out;simp;omega)).trans HX2.out;rw [show tabV (G r) (hdT (G r) g3 c3)=.agg #[.int .i64 (G r).n,.slice (some ⟨g3,0,none⟩) (G r).ws.length c3] from rfl];clear hst hup;go_wp2_with fail;refine hK.out _ _ ⟨(HH.out _ HC3.out.up),fun _=>trivial⟩ (fun hHeld=>?_);clear hK Kx;obtain ⟨hS,hE⟩:=hHeld;have hE:=hE (by kernel_rfl)
   (try simp only [Act.put,List.setIfInBounds_toArray,List.set_cons_zero,List.set_cons_succ])
   have y0:=cell_at (j:=0) HX3.out rfl;have y1:=cell_at (j:=1) HX3.out rfl;have fy0:=frozen_at 0 HX3.out;have fy1:=frozen_at 1 HX3.out;refine wpAnyU_ready (rs:=[12]) (by kernel_rfl) (by simp) ?_;refine AllReadyU.cons rfl (fun Kx hK=>?_) ?_
   rotate_left
   exact AllReadyU.nil
   go_simp
   refine hK.out _ _ ⟨(HH.out _ ((HC3.out.up.setCell (p:=⟨wc1.heap.size,0,none⟩) (.inr HXL.out) _).setCell (p:=⟨wc1.heap.size,1,none⟩) (.inr HXL.out) _)),fun h=>noE (by kernel_rfl) h⟩ (fun hHeld=>?_);clear hK Kx;obtain ⟨hS,_⟩:=hHeld
   (try simp only [Act.put,List.setIfInBounds_toArray,List.set_cons_zero,List.set_cons_succ])
   refine wpAnyU_done (by kernel_rfl) ?_ _;clear hS hE y0 y1 fy0 fy1 hen;go_wp2_with fail;go_meet;exact CutT.of HC3.out HWS.out HX3.out HXL.out HLT.out
  refine AllReadyU.cons rfl (fun Kx hK=>?_) ?_
  rotate_left
  exact AllReadyU.nil
  go_simp
  refine hK.out _ _ ⟨(HH.out _ (HS0.out.keep0 (updS HMB.out.1) ((Upd.refl _ _).alloc _)).up),fun _=>trivial⟩ (fun hHeld=>?_);clear hK Kx;obtain ⟨hS,hE⟩:=hHeld;have hE:=hE (by kernel_rfl)
  (try simp only [Act.put,List.setIfInBounds_toArray,List.set_cons_zero,List.set_cons_succ])
  have HCA:=Lib.hid (HS0.out.keep0 (updS HMB.out.1) ((Upd.refl _ _).alloc (Obj.cells #[.int .i64 0,.slice none 0 0] 122 (0,0))));have HXA:Hid ((wA.drew.alloc (Obj.cells #[.int .i64 0,.slice none 0 0] 122 (0,0))).heap[wA.heap.size]?=some (Obj.cells #[.int .i64 0,.slice none 0 0] 122 (0,0))):=heap_alloc_new _ _;have HXL:Hid (wA.heap.size<=wA.heap.size):=HS0.out.up.size;refine wpAnyU_ready (rs:=[5]) (by kernel_rfl) (by simp) ?_;refine AllReadyU.cons rfl (fun Kx hK=>?_) ?_
  rotate_left
  exact AllReadyU.nil
  go_simp
  refine (HL.out _ _ _ _ HCA.out).mono ?_;rintro e wc1 ⟨V1,D1,g1,c1,rfl,hst,hup⟩;have HC1:=Lib.hid hst;have HX1:Hid (wc1.heap[wA.heap.size]?=some (Obj.cells #[.int .i64 0,.slice none 0 0] 122 (0,0))):=(hup.block _ (heap_lt HXA.out) (by have:=HLT.out.2.2.2.2.2;have:=HXL.out;simp;omega)).trans HXA.out;clear hst hup;go_wp2_with fail;refine hK.out _ _ ⟨(HH.out _ HC1.out.up),fun _=>trivial⟩ (fun hHeld=>?_);clear hK Kx;obtain ⟨hS,hE⟩:=hHeld;have hE:=hE (by kernel_rfl)
  (try simp only [Act.put,List.setIfInBounds_toArray,List.set_cons_zero,List.set_cons_succ])
  refine wpAnyU_ready (rs:=[9]) (by kernel_rfl) (by simp) ?_;refine AllReadyU.cons rfl (fun Kx hK=>?_) ?_
  rotate_left
  exact AllReadyU.nil
  go_simp
  refine (HR.out _ _ _ _ HC1.out).mono ?_;rintro e wc2 ⟨V2,D2,g2,c2,rfl,hst,hup⟩;have HC2:=Lib.hid hst;have HX2:Hid (wc2.heap[wA.heap.size]?=some (Obj.cells #[.int .i64 0,.slice none 0 0] 122 (0,0))):=(hup.block _ (heap_lt HX1.out) (by have:=HLT.out.2.2.2.2.2;have:=HXL.out;simp;omega)).trans HX1.out;clear hst hup;go_wp2_with fail;refine hK.out _ _ ⟨(HH.out _ HC2.out.up),fun _=>trivial⟩ (fun hHeld=>?_);clear hK Kx;obtain ⟨hS,hE⟩:=hHeld;have hE:=hE (by kernel_rfl)
  (try simp only [Act.put,List.setIfInBounds_toArray,List.set_cons_zero,List.set_cons_succ])
  refine wpAnyU_ready (rs:=[10]) (by kernel_rfl) (by simp) ?_;refine AllReadyU.cons rfl (fun Kx hK=>?_) ?_
  rotate_left
  exact AllReadyU.nil
  go_simp
  refine (HF.out _ _ _ _ _ _ _ HC2.out).mono ?_;rintro e wc3 ⟨g3,c3,rfl,hst,hup⟩;have HC3:=Lib.hid hst;have HX3:Hid (wc3.heap[wA.heap.size]?=some (Obj.cells #[.int .i64 0,.slice none 0 0] 122 (0,0))):=(hup.block _ (heap_lt HX2.out) (by have:=HLT.out.2.2.2.2.2;have:=HXL.out;simp;omega)).trans HX2.out;rw [show tabV (G r) (hdT (G r) g3 c3)=.agg #[.int .i64 (G r).n,.slice (some ⟨g3,0,none⟩) (G r).ws.length c3] from rfl];clear hst hup;go_wp2_with fail;refine hK.out _ _ ⟨(HH.out _ HC3.out.up),fun _=>trivial⟩ (fun hHeld=>?_);clear hK Kx;obtain ⟨hS,hE⟩:=hHeld;have hE:=hE (by kernel_rfl)
  (try simp only [Act.put,List.setIfInBounds_toArray,List.set_cons_zero,List.set_cons_succ])
  have y0:=cell_at (j:=0) HX3.out rfl;have y1:=cell_at (j:=1) HX3.out rfl;have fy0:=frozen_at 0 HX3.out;have fy1:=frozen_at 1 HX3.out;refine wpAnyU_ready (rs:=[12]) (by kernel_rfl) (by simp) ?_;refine AllReadyU.cons rfl (fun Kx hK=>?_) ?_
  rotate_left
  exact AllReadyU.nil
  go_simp
  refine hK.out _ _ ⟨(HH.out _ ((HC3.out.up.setCell (p:=⟨wA.heap.size,0,none⟩) (.inr HXL.out) _).setCell (p:=⟨wA.heap.size,1,none⟩) (.inr HXL.out) _)),fun h=>noE (by kernel_rfl) h⟩ (fun hHeld=>?_);clear hK Kx;obtain ⟨hS,_⟩:=hHeld
  (try simp only [Act.put,List.setIfInBounds_toArray,List.set_cons_zero,List.set_cons_succ])
  refine wpAnyU_done (by kernel_rfl) ?_ _;clear hS hE y0 y1 fy0 fy1 hen;go_wp2_with fail;go_meet;exact CutT.of HC3.out HWS.out HX3.out HXL.out HLT.out
 case rest =>
  obtain ⟨Bx,V',D',g,c,rfl,y0,y1,hst,hBl⟩:=hcut.ex;obtain ⟨wz,hwz⟩ : ∃ wz,wc=wz:=⟨_,rfl⟩;rw [hwz] at y0 y1 hst ⊢;have hsz:=seenF_size hst.kn.seen (hst.m.map.canon refKeyed) (hst.m.map.tidy refKeyed);obtain ⟨w9,hrun9,hown,hturn⟩:=hst.m.map.store refKeyed Tryz.underlying268 hsz (keyOf_int_mk Tryz.underlying77 (wfR hr)) (tabElem_mk (G r) g c);have hu9:=upd_turned hturn
  have hbm:Bx≠mb:=by have:=HLT.out.2.2.2.2.2;omega
  have ck5:=cell_at (j:=0) hst.m.bk rfl
  have k9:∀ c t,TIn wz (mb::List.range n0) c t->TIn w9 (mb::List.range n0) c t:=fun c t ht=>ht.keep hu9 fun k hk=>.inl (List.mem_cons.2 (.inl (List.mem_singleton.1 hk)))
  have ht9:=k9 _ _ (hst.ts _ (List.mem_cons_self ..))
  have h9:FSt n0 w w9 b ck ckk cf cw mb fl caps K T q G (fun z=>Upd [] wS z) (V'++[r]) (D'.put (.int .u32 r) (encT (G r) g c)) [] :=
   ⟨(hst.kn.keep k9).put hrl ht9,List.mem_append.2 (.inl hst.c0),List.mem_append.2 (.inl hst.c1),hst.m.put hu9 (own_tight hown),HSA.out.up.trans (hst.up.trans hu9),updS HMB.out.1 _ _ hst.s hu9,by simp⟩
  have hbR:w9.heap[w.heap.size]?=some (Obj.cells #[.int .i64 0,.slice none 0 0] 122 (0,0)):=((hst.up.trans hu9).block _ (by have:=HUA.out.size;have:=heap_lt HR0.out.1;omega) (by have:=H0.out.m.lt.2.2.2.2.2;simp;omega)).trans ((HUA.out.block _ (heap_lt HR0.out.1) (by simp)).trans HR0.out.1);have uR:Upd [w.heap.size] w9 ((w9.setCell ⟨w.heap.size,0,none⟩ (.int .i64 (G r).n)).setCell ⟨w.heap.size,1,none⟩ (hdT (G r) g c)):=((Upd.refl [w.heap.size] _).setCell (p:=⟨w.heap.size,0,none⟩) (.inl (by simp)) _).setCell (p:=⟨w.heap.size,1,none⟩) (.inl (by simp)) _;have hF:=h9.box (updS HMB.out.2) hbR (Nat.le_refl _) H0.out.m.lt uR
  have htF:=ht9.foreign uR fun k hk=>by simp at hk;subst hk;exact ⟨_,_,_,hbR,by decide⟩
  have HQ:Hid (FoldQT n0 wS b ck ckk cf cw mb fl caps K T q G r w (.returned (.agg #[.int .i64 (G r).n,hdT (G r) g c])) ((w9.setCell ⟨w.heap.size,0,none⟩ (.int .i64 (G r).n)).setCell ⟨w.heap.size,1,none⟩ (hdT (G r) g c))) :=
   ⟨_,_,g,c,rfl,hF.kn,hF.c0,hF.c1,hF.m,hF.up,hF.s,fun y hy=>by simp at hy;subst hy;exact htF⟩
  have q0:=(hu9.cell (World.block_lt_of_cell? _ _ y0) (by simpa using hbm)).trans y0;have q1:=(hu9.cell (World.block_lt_of_cell? _ _ y1) (by simpa using hbm)).trans y1;have z0:w9.cell? ⟨w.heap.size,0,none⟩=some (.int .i64 0):=cell_at hbR rfl;have z1:w9.cell? ⟨w.heap.size,1,none⟩=some (.slice none 0 0):=cell_at hbR rfl;have f0:=frozen_at 0 hbR;have f1:=frozen_at 1 hbR;have HBR:=Lib.hid hbR;unfold tabV at hrun9;unfold hdT at hrun9 HQ q1 y1;generalize (G r).n=n at *;generalize (G r).ws.length=W at *;clear hwz hst hBl hsz hown hturn hu9 k9 ht9 h9 hbR uR hF htF hcut hbm hen;go_wp2_with fail;obtain ⟨c0,c1⟩:=box2 HBR.out (.int .i64 n) (.slice (some ⟨g,0,none⟩) W c);refine bodyPost_ret (v:=.agg #[.int .i64 n,.slice (some ⟨g,0,none⟩) W c]) (by simp [results,Tryz.results198,go_sem,c0,c1]) rfl ?_;exact HQ.out
end Go.Proofs.YtfkopmhpppeheaaGreat
namespace Go.Proofs.YtfkopmhpppeheaaGreat
open Go.RowKit Go.Maps Go.ChangeMaps Go.WideShapes
variable {n0:Nat}
theorem foldAtT (wS:World) (b ck ckk cf cw mb fl:Nat) (caps:Array Value) (K:KV) (T:List DM) (q:KPtr) (G:Nat->TV) (hmb:wS.heap.size<=mb) (hn0:n0<=wS.heap.size) (hen:Enters fl) (hCb:FoldCbT fl caps K G wS):∀ (n d:Nat),K.vars+1-d<=n->FoldHypT n0 wS b ck ckk cf cw mb fl caps K T q G d
 | n,d,hn=>by
  intro r V D w h ht hd
  have hok:=h.m.ker.ok;have hr:=hok.ref_lt ht
  by_cases hin:r∈V
  ·exact fold_knownT wS b ck ckk cf cw mb fl caps K T q G r V D w hmb h (by omega) hin
  ·have h2:2<=r:=by
    rcases Nat.lt_or_ge r 2 with h' | h'
    ·have:r=0\/r=1:=by omega
     rcases this with rfl | rfl
     ·exact absurd h.c0 hin
     ·exact absurd h.c1 hin
    ·exact h'
   have hl:=hok.wf.dep_lt hok.ord h2 ht
   match n,hn with
   | 0,hn=>omega
   | n+1,hn =>
    exact fold_newT wS b ck ckk cf cw mb fl caps K T q G r V D w hmb hn0 hen hCb h h2 ht hin (foldAtT wS b ck ckk cf cw mb fl caps K T q G hmb hn0 hen hCb n (K.dep r+1) (by omega))
theorem KnT.nil (w:World) (mb:Nat) (G:Nat->TV):KnT n0 w mb G [] (.map []):=⟨SeenF.nil,by simp⟩
theorem boxT6 (w:World) (o1 o2 o3 o4 o5 o6:Obj) {w6:World} (hw:(((((w.alloc o1).alloc o2).alloc o3).alloc o4).alloc o5).alloc o6=w6):w6.heap[w.heap.size]?=some o1/\w6.heap[w.heap.size+1]?=some o2/\w6.heap[w.heap.size+1+1]?=some o3/\w6.heap[w.heap.size+1+1+1]?=some o4 /\
  w6.heap[w.heap.size+1+1+1+1]?=some o5/\w6.heap[w.heap.size+1+1+1+1+1]?=some o6/\Upd [] w w6:=by
 subst hw;have n1:=heap_alloc_new w o1;have n2:=heap_alloc_new (w.alloc o1) o2;have n3:=heap_alloc_new ((w.alloc o1).alloc o2) o3;have n4:=heap_alloc_new (((w.alloc o1).alloc o2).alloc o3) o4;have n5:=heap_alloc_new ((((w.alloc o1).alloc o2).alloc o3).alloc o4) o5;have n6:=heap_alloc_new (((((w.alloc o1).alloc o2).alloc o3).alloc o4).alloc o5) o6
 have old:∀ (z:World) (o:Obj) {k:Nat} {x:Obj},z.heap[k]?=some x->(z.alloc o).heap[k]?=some x:=fun z o k x h=>(heap_alloc_old z o (heap_lt h)).trans h
 simp only [World.size_alloc] at n2 n3 n4 n5 n6
 exact ⟨old _ _ (old _ _ (old _ _ (old _ _ (old _ _ n1)))),old _ _ (old _ _ (old _ _ (old _ _ n2))),old _ _ (old _ _ (old _ _ n3)),old _ _ (old _ _ n4),old _ _ n5,n6,((((((Upd.refl [] w).alloc o1).alloc o2).alloc o3).alloc o4).alloc o5).alloc o6⟩
theorem foldT_spec (b fl r g0 c0 g1 c1:Nat) (caps:Array Value) (K:KV) (T:List DM) (q:KPtr) (G:Nat->TV) (w:World) (hk:KerIn w b K T q) (hen:Enters fl) (hCb:FoldCbT fl caps K G w) (hn0:n0<=w.heap.size) (t0:TIn w (List.range n0) (hdT (G 0) g0 c0) (G 0)) (t1:TIn w (List.range n0) (hdT (G 1) g1 c1) (G 1)) (ht:K.A.tk r=true) :
  Calls Tryz.prog 129 #[.pointer (some ⟨b,0,none⟩),.int .u32 r,tabV (G 0) (hdT (G 0) g0 c0),tabV (G 1) (hdT (G 1) g1 c1),.func (Fn.func fl) #[] caps] w fun e w'=>∃ g c:Nat,e=.returned (tabV (G r) (hdT (G r) g c))/\TIn w' (List.range n0) (hdT (G r) g c) (G r)/\Upd [] w w':=by
 have hmf:∀ (fn:Fn) (first cap:Array Value) (w:World),(Instr.makeFunc fn first cap).run Tryz.prog w=.ok (.func fn first cap) w:=fun _ _ _ _=>rfl
 have hmm:=@run_makeMap Tryz.prog
 have hsf:∀ (a:Addr) (m:Mode) (fn:Fn) (first cap:Array Value) (w:World),(store a (.func fn first cap) m).run Tryz.prog w=stored Tryz.prog w a (.func fn first cap) m:=fun a m fn first cap w=>run_store Tryz.prog w a _ m rfl
 obtain ⟨w6,hw6⟩ : ∃ w6,(((((w.alloc (.cells #[.pointer (some ⟨b,0,none⟩)] 40 (0,0))).alloc (.cells #[.int .i64 (G 0).n,hdT (G 0) g0 c0] 122 (0,0))).alloc (.cells #[.int .i64 (G 1).n,hdT (G 1) g1 c1] 122 (0,0))).alloc (.cells #[.func (Fn.func fl) #[] caps] 209 (0,0))).alloc (.cells #[.int .i64 0,.slice none 0 0] 122 (0,0))).alloc (.map #[] 0)=w6:=⟨_,rfl⟩;obtain ⟨b1,b2,b3,b4,b5,b6,hu6⟩:=boxT6 _ _ _ _ _ _ _ hw6;obtain ⟨w7,hrun7,hown7,hturn7⟩:=(own_emptyT b6).store refKeyed Tryz.underlying268 (by unfold maxLen;omega) (keyOf_int_mk Tryz.underlying77 (wfR (n:=0) (by omega))) (tabElem_mk (G 0) g0 c0);have hu7:=upd_turned hturn7;have own7:=own_tight hown7
 have k7:∀ c t,TIn w (List.range n0) c t->TIn w7 ((w.heap.size+1+1+1+1+1)::List.range n0) c t:=fun c t h=>((⟨h.ok,(h.keep0 hu6).row,fun k hk hm=>by
  have h1:=(h.row.lt k hk).2
  rcases List.mem_cons.1 hm with hm | hm
  ·omega
  ·exact h.fr k hk hm⟩ : TIn w6 ((w.heap.size+1+1+1+1+1)::List.range n0) c t)).keep hu7 fun k hk=>.inl (List.mem_cons.2 (.inl (List.mem_singleton.1 hk)))
 have K1:=(KnT.nil w7 (w.heap.size+1+1+1+1+1) G).put (r:=0) (by omega) (k7 _ _ t0);obtain ⟨w8,hrun8,hown8,hturn8⟩:=own7.store refKeyed Tryz.underlying268 (seenF_size K1.seen (own7.canon refKeyed) (own7.tidy refKeyed)) (keyOf_int_mk Tryz.underlying77 (wfR (n:=1) (by omega))) (tabElem_mk (G 1) g1 c1);have hu8:=upd_turned hturn8
 have k8:∀ c t,TIn w7 ((w.heap.size+1+1+1+1+1)::List.range n0) c t->TIn w8 ((w.heap.size+1+1+1+1+1)::List.range n0) c t:=fun c t h=>h.keep hu8 fun k hk=>.inl (List.mem_cons.2 (.inl (List.mem_singleton.1 hk)))
 have K2:=(K1.keep k8).put (r:=1) (by omega) (k8 _ _ (k7 _ _ t1));have hu68:Upd [w.heap.size+1+1+1+1+1] w6 w8:=hu7.trans hu8
 have hU8:Upd [] w w8:=hu6.then hu68 fun k hk=>.inr (by simp at hk;omega)
 have e8:∀ {k:Nat} {o:Obj},k<w.heap.size+1+1+1+1+1->w6.heap[k]?=some o->w8.heap[k]?=some o:=fun {k o} hn hk=>by rw [hu68.block k (heap_lt hk) (by simp;omega)];exact hk
 have d1:=e8 (by omega) b1;have d4:=e8 (by omega) b4;have d5:=e8 (by omega) b5;have a1:=heap_alloc_new (w8.alloc (Obj.cells #[.map (some (w.heap.size+1+1+1+1+1))] 268 (0,0))) (.cells #[.nilFunc] 269 (0,0));have a2:=heap_alloc_new w8 (Obj.cells #[.map (some (w.heap.size+1+1+1+1+1))] 268 (0,0));have a3:=heap_alloc_new (w8.alloc (Obj.cells #[.map (some (w.heap.size+1+1+1+1+1))] 268 (0,0))) (Obj.cells #[.func (Fn.func 198) #[] #[.pointer (some ⟨w8.heap.size,0,none⟩),.pointer (some ⟨w.heap.size,0,none⟩),.pointer (some ⟨w.heap.size+1+1+1,0,none⟩),.pointer (some ⟨w8.heap.size+1,0,none⟩)]] 269 (0,0));have hu10:Upd [] w8 ((w8.alloc (Obj.cells #[.map (some (w.heap.size+1+1+1+1+1))] 268 (0,0))).alloc (Obj.cells #[.func (Fn.func 198) #[] #[.pointer (some ⟨w8.heap.size,0,none⟩),.pointer (some ⟨w.heap.size,0,none⟩),.pointer (some ⟨w.heap.size+1+1+1,0,none⟩),.pointer (some ⟨w8.heap.size+1,0,none⟩)]] 269 (0,0))):=((Upd.refl [] w8).alloc _).alloc _;rw [World.size_alloc] at a1 a3;obtain ⟨w10,hw10⟩ : ∃ w10,(w8.alloc (Obj.cells #[.map (some (w.heap.size+1+1+1+1+1))] 268 (0,0))).alloc (Obj.cells #[.func (Fn.func 198) #[] #[.pointer (some ⟨w8.heap.size,0,none⟩),.pointer (some ⟨w.heap.size,0,none⟩),.pointer (some ⟨w.heap.size+1+1+1,0,none⟩),.pointer (some ⟨w8.heap.size+1,0,none⟩)]] 269 (0,0))=w10:=⟨_,rfl⟩
 have a2':w10.heap[w8.heap.size]?=some (Obj.cells #[.map (some (w.heap.size+1+1+1+1+1))] 268 (0,0)):=by rw [<- hw10];exact (heap_alloc_old _ _ (heap_lt a2)).trans a2
 rw [hw10] at a3 hu10
 have e10:∀ {k:Nat} {o:Obj},w8.heap[k]?=some o->w10.heap[k]?=some o:=fun {k o} hk=>by rw [hu10.block k (heap_lt hk) (by simp)];exact hk
 have hml:=(own_tight hown8).lt;have hq:=hk.mem.lt
 have hm:FoldMT w10 b w8.heap.size w.heap.size (w.heap.size+1+1+1) (w8.heap.size+1) (w.heap.size+1+1+1+1+1) fl caps K T q _ :=
  ⟨hk.upd (hU8.trans hu10) (by simp),a2',e10 d1,e10 d4,a3,own_keep (own_tight hown8) (hu10.block _ hml (by simp)),fun k hk=>by have:=hq k hk;omega,by omega,by omega,by omega,by omega⟩
 have hst:FSt n0 w10 w10 b w8.heap.size w.heap.size (w.heap.size+1+1+1) (w8.heap.size+1) (w.heap.size+1+1+1+1+1) fl caps K T q G (fun z=>Upd [] w z) _ _ [] :=
  ⟨K2.keep fun _ _ h=>h.keep0 hu10,by simp,by simp,hm,Upd.refl _ _,hU8.trans hu10,by simp⟩
 have HF:=Lib.hid (foldAtT w b w8.heap.size w.heap.size (w.heap.size+1+1+1) (w8.heap.size+1) (w.heap.size+1+1+1+1+1) fl caps K T q G (by omega) hn0 hen hCb (K.vars+1) 0 (by omega) r _ _ _ hst ht (Nat.zero_le _));have HD5:=Lib.hid (e10 d5);have cc:=cell_at (j:=0) a1 rfl;have ff:=frozen_at 0 a1;have z0c:((0:Nat):Int)=0:=rfl;have z1c:((1:Nat):Int)=1:=rfl;rw [z0c] at hrun7;rw [z1c] at hrun8;have y0:w6.cell? ⟨w.heap.size+1,0,none⟩=some (.int .i64 (G 0).n):=cell_at b2 rfl;have y1:w6.cell? ⟨w.heap.size+1,1,none⟩=some (hdT (G 0) g0 c0):=cell_at b2 rfl;have b3':w7.heap[w.heap.size+1+1]?=_:=(hu7.block _ (heap_lt b3) (by simp)).trans b3;have y2:w7.cell? ⟨w.heap.size+1+1,0,none⟩=some (.int .i64 (G 1).n):=cell_at b3' rfl;have y3:w7.cell? ⟨w.heap.size+1+1,1,none⟩=some (hdT (G 1) g1 c1):=cell_at b3' rfl;have HW6:=Lib.hid hw6;have HW10:=Lib.hid hw10;have hfld:=fldT;unfold tabV at hrun7 hrun8 ⊢;unfold hdT at hrun7 hrun8 HW6 y1 y3;clear z0c z1c b1 b2 b3 b3' b4 b5 b6 hu6 hown7 hturn7 hu7 own7 k7 K1 hown8 hturn8 hu8 k8 K2 hu68 hU8 e8 d1 d4 d5 a1 a2 a3 hu10 a2' e10 hml hq hm hst hk hen hCb hn0 t0 t1 ht hw6 hw10
 show Calls _ _ #[.pointer (some ⟨b,0,none⟩),.int .u32 r,.agg #[.int .i64 (G 0).n,.slice (some ⟨g0,0,none⟩) (G 0).ws.length c0],.agg #[.int .i64 (G 1).n,.slice (some ⟨g1,0,none⟩) (G 1).ws.length c1],.func (Fn.func fl) #[] caps] _ _
 go_enter Tryz.func129,Tryz.ntmps129
 go_upto_region 1 with fail
 go_wp2_with (rw [HW6.out])
 rw [HW10.out];go_wp2_with fail;refine HF.out.mono ?_;rintro e w11 hQ;obtain ⟨V',D',g,c,rfl,hst⟩:=hQ.ex;have hb5:=(hst.up.block _ (heap_lt HD5.out) (by simp)).trans HD5.out;have z0:w11.cell? ⟨w.heap.size+1+1+1+1,0,none⟩=some (.int .i64 0):=cell_at hb5 rfl;have z1:w11.cell? ⟨w.heap.size+1+1+1+1,1,none⟩=some (.slice none 0 0):=cell_at hb5 rfl;have f0:=frozen_at 0 hb5;have f1:=frozen_at 1 hb5;have ht:=hst.ts _ (List.mem_cons_self ..)
 have ht2:=ht.foreign (((Upd.refl [w.heap.size+1+1+1+1] _).setCell (p:=⟨w.heap.size+1+1+1+1,0,none⟩) (.inl (by simp)) (.int .i64 (G r).n)).setCell (p:=⟨w.heap.size+1+1+1+1,1,none⟩) (.inl (by simp)) (hdT (G r) g c)) fun k hk=>by simp at hk;subst hk;exact ⟨_,_,_,hb5,by decide⟩
 have HQ:Hid (∃ g' c':Nat,Ending.returned (.agg #[.int .i64 (G r).n,hdT (G r) g c])=.returned (tabV (G r) (hdT (G r) g' c'))/\TIn ((w11.setCell ⟨w.heap.size+1+1+1+1,0,none⟩ (.int .i64 (G r).n)).setCell ⟨w.heap.size+1+1+1+1,1,none⟩ (hdT (G r) g c)) (List.range n0) (hdT (G r) g' c') (G r)/\Upd [] w ((w11.setCell ⟨w.heap.size+1+1+1+1,0,none⟩ (.int .i64 (G r).n)).setCell ⟨w.heap.size+1+1+1+1,1,none⟩ (hdT (G r) g c))) :=
  ⟨g,c,rfl,⟨ht2.ok,ht2.row,fun k hk hm=>ht2.fr k hk (List.mem_cons.2 (.inr hm))⟩,(hst.s.setCell (p:=⟨w.heap.size+1+1+1+1,0,none⟩) (.inr (show w.heap.size<=w.heap.size+1+1+1+1 by omega)) _).setCell (p:=⟨w.heap.size+1+1+1+1,1,none⟩) (.inr (show w.heap.size<=w.heap.size+1+1+1+1 by omega)) _⟩
 have HB5:=Lib.hid hb5;unfold tabV;unfold tabV at HQ;unfold hdT at HQ ⊢;clear hQ hst hb5 ht ht2;go_wp2_with fail;obtain ⟨c0',c1'⟩:=box2 HB5.out (.int .i64 (G r).n) (.slice (some ⟨g,0,none⟩) (G r).ws.length c);refine bodyPost_ret (v:=.agg #[.int .i64 (G r).n,.slice (some ⟨g,0,none⟩) (G r).ws.length c]) (by simp [results,Tryz.results129,go_sem,c0',c1']) rfl ?_;exact HQ.out
end Go.Proofs.YtfkopmhpppeheaaGreat
