import Derived.Test.YtfkopmhpppeheaaGreatPY30
set_option maxRecDepth 100000
set_option maxHeartbeats 6400000
namespace Go.Proofs.YtfkopmhpppeheaaGreat
open Go.RowKit Go.Maps Go.ChangeMaps Go.WideShapes
theorem size_listA {K:KV} (hk:K.Ok) (hu:K.Uni) (hn:K.vars<=16) {rs N:List Nat} {ts:List TV} (hlen:rs.length=ts.length) (hnm:∀ (i r:Nat) (t:TV),rs[i]?=some r->ts[i]?=some t->Names K r t/\t.Ok/\t.n=K.vars) (a:WalkA K [] rs N) :
  (flatT ts K.order).length=N.length:=by
 have hnd:N.Nodup:=by simpa using a.nd
 have hok:∀ t,t∈ts->t.Ok/\t.n=K.vars:=fun t ht=>by
  obtain ⟨i,hi⟩:=List.getElem?_of_mem ht;have hil:=(List.getElem?_eq_some_iff.1 hi).1;exact (hnm i _ t (List.getElem?_eq_getElem (by omega)) hi).2
 have nd:(N.map K.tab).Nodup:=List.pairwise_map.2 (List.Pairwise.imp_of_mem (fun {x y} hx hy hne e=>hne (hk.tab_inj hu (a.two x hx).2 (a.two y hy).2 e)) hnd)
 have e:(N.map K.tab).length=(flatT ts K.order).length:=by
  refine Nat.le_antisymm (List.Nodup.length_le_of_subset nd fun u hm=>?_) (List.Nodup.length_le_of_subset (flatT_nodup hok fun x hx=>hk.ord.pm.mem_order hx) fun u hm=>?_)
  ·obtain ⟨x,hx,rfl⟩:=List.mem_map.1 hm
   obtain ⟨h2,ht⟩:=a.two x hx;obtain ⟨s,hs,hus⟩:=a.under x hx;obtain ⟨i,hi⟩:=List.getElem?_of_mem hs;have hil:=(List.getElem?_eq_some_iff.1 hi).1;have hti:ts[i]?=some ts[i]:=List.getElem?_eq_getElem (by omega);obtain ⟨hnt,_,_⟩:=hnm i s _ hi hti;obtain ⟨c,hc⟩:=hk.mix_under hnt.1 hus;exact KV.tab_flat hk hu hn hok h2 ht ⟨_,List.mem_of_getElem? hti,K.dep x,c,fun y=>by rw [hc,hnt.2]⟩
  ·obtain ⟨i,v,h1,a1,a2,⟨t,ht,c,he⟩,hh⟩:=(mem_flatT hok fun x hx=>hk.ord.pm.mem_order hx).1 hm
   obtain ⟨j,hj⟩:=List.getElem?_of_mem ht;have hjl:=(List.getElem?_eq_some_iff.1 hj).1;have hrj:rs[j]?=some rs[j]:=List.getElem?_eq_getElem (by omega);obtain ⟨hnt,_,_⟩:=hnm j _ t hrj hj;obtain ⟨x,tx,hux,hx⟩:=KV.sub_under hk i c _ _ (Nat.le_refl _) hnt.1
   have hd:∀ y,K.den x y=u.fn y:=fun y=>by rw [hx,hnt.2,he,hk.ord.pm.mixO]
   have h2:¬ x<2:=fun h2=>by
    obtain ⟨y,hy⟩:=hh;refine hy ?_;rw [<- hd,<- hd,K.den_const h2,K.den_const h2]
   rcases hux with h3 | h3
   ·exact absurd h3 h2
   ·exact List.mem_map.2 ⟨x,a.below (List.mem_of_getElem? hrj) h3,hk.tab_eq hn tx a1 a2 hd⟩
 rw [List.length_map] at e;omega
theorem flatU_at {l:List Int} {i:Nat} {x:Int} (h:l[i]?=some x):(flatU l)[i]?=some (.int .u64 x):=by simp [flatU,h]
theorem under_two {K:KV} {s x:Nat} (h:K.Under s x):2<=s:=by
 induction h with
 | refl h=>exact h
 | lo _ _ _ ih=>exact ih
 | hi _ _ _ ih=>exact ih
theorem WalkA.one {K:KV} {r:Nat} {N:List Nat} (h:WalkA K [] [r,1,r] N):WalkA K [] [r] N :=
 ⟨h.nd,fun s hs h2=>h.has s (by simp at hs;simp [hs]) h2,h.two,fun x hx=>by
  obtain ⟨s,hs,hu⟩:=h.under x hx;have h2:=under_two hu
  simp at hs
  exact ⟨s,by simp;omega,hu⟩,h.kids⟩
theorem tls_one {W:World} {n0 g:Nat} {Z:List Nat} {d0:Value} {t0:TV} (h:W.heap[g]?=some (.cells #[.int .i64 t0.n,d0] 122 (0,0))) (h0:TIn W Z d0 t0) (hg:n0<=g) (hZ:g∉Z):TLs W n0 Z (.slice (some ⟨g,0,none⟩) 1 1) [t0]:=by
 refine ⟨⟨[d0],rfl,⟨rfl,.inr ⟨g,1,_,rfl,hg,h,Nat.le_refl _,by unfold maxLen;omega,rfl,rfl⟩⟩,fun i t c ht hc=>?_⟩,fun k hk=>?_⟩
 ·match i,ht,hc with
  | 0,ht,hc=>simp at ht hc;subst ht hc;exact h0
  | i+1,ht,_=>simp at ht
 ·simp [Value.ownBlock] at hk;subst hk;exact hZ
theorem row_three (w:World) (f:Nat) (x y:Value):(w.alloc (.cells #[.int .u32 f,.int .u32 1,.int .u32 f,x,y] 77 (0,0))).ownsRow 0 77 1 (.slice (some ⟨w.heap.size,0,none⟩) 3 5) [f,1,f].length (flatRefs [f,1,f]) :=
 ⟨rfl,.inr ⟨w.heap.size,5,#[.int .u32 f,.int .u32 1,.int .u32 f,x,y],rfl,Nat.zero_le _,heap_alloc_new _ _,by simp,by unfold maxLen;omega,rfl,rfl⟩⟩
theorem countKeeps_walk (n room:Int) (la wa:Option Addr) (ln lc wn wk:Nat) (Ls Ws:List Int) (iI:Int) (w:World) (hL:RowOf w .i64 la ln Ls) (hW:RowOf w .u64 wa wn Ws) (hU:∀ x,x∈Ws->U64 x) :
  Calls Tryz.prog 12 #[.agg #[.int .i64 n,.int .i64 room,.slice la ln lc,.slice wa wn wk],.int .i64 iI] w fun e w'=>e=.returned (.bool true)/\Upd [] w w':=by
 have HLD:Hid (∀ x:World,Upd [] w x->Calls Tryz.prog 37 #[.agg #[.int .i64 n,.int .i64 room,.slice la ln lc,.slice wa wn wk]] x fun e w'=>LaidX n room ln Ws x e w'):=fun x u =>
  laid_specX n room la wa ln lc wn wk Ls Ws x (hL.keep0 u) (hW.keep0 u) hU
 have HU0:=Lib.hid ((Upd.refl [] w).alloc (.cells #[.int .i64 n,.int .i64 room,.slice la ln lc,.slice wa wn wk] 95 (0,0)));clear hL hW hU
 go_enter Tryz.func12,Tryz.ntmps12
 go_wp2_with fail;refine (HLD.out _ HU0.out).mono ?_;rintro e w1 hE;obtain ⟨b,m,_,_,K,F,M,p,refs,tabs,rfl,hm,hlg,hal,hlo,hu,hpl,hhd,hrl,hhl,hkt,hmt,hvr,hrf,hM⟩:=hE.ex;obtain ⟨xa,xc,rfl,_⟩:=row_nil_len hm.rr;obtain ⟨ya,yc,rfl,hya⟩:=hm.tt.form;have HYG:Hid (∃ g,ya=some ⟨g,0,none⟩):=hya (by obtain ⟨rest,hrest⟩:=hlg.t2;rw [hrest];simp);clear hya;have e0:worldV b m (.slice xa refs.length xc) (.slice ya tabs.length yc)=.agg #[.pointer (some ⟨b,0,none⟩),.pointer (some ⟨m,0,none⟩),.slice xa refs.length xc,.slice ya tabs.length yc]:=rfl;rw [e0];have hu2:Upd [] w1 (w1.alloc (.cells #[.pointer (some ⟨b,0,none⟩),.pointer (some ⟨m,0,none⟩),.slice xa refs.length xc,.slice ya tabs.length yc] 97 (0,0))):=(Upd.refl _ _).alloc _;have hwz:=HU0.out.size;have hsz1:=hu.size
 have hLI:LIn (w1.alloc (.cells #[.pointer (some ⟨b,0,none⟩),.pointer (some ⟨m,0,none⟩),.slice xa refs.length xc,.slice ya tabs.length yc] 97 (0,0))) w.heap.size w1.heap.size b m (.slice xa refs.length xc) (.slice ya tabs.length yc) K F M p refs tabs:=by
  refine ⟨heap_alloc_new _ _,hm.keep0 hu2,⟨fun hk=>by have:=hm.ker.lt _ hk;omega,fun hk=>by have:=hm.mod.lt _ hk;omega⟩,fun k hk=>?_,by rw [World.size_alloc];omega⟩
  rcases hk with h | h | h | h | h
  ·have:=hlo k (.inl h);omega
  ·have:=hlo k (.inr (.inl h));omega
  ·omega
  ·have:=hlo k (.inr (.inr (.inl h)));omega
  ·have:=hlo k (.inr (.inr (.inr h)));omega
 have HLI:=Lib.hid hLI;have HLG:=Lib.hid (And.intro hlg (And.intro hal (And.intro (KM.of hlg hkt hmt) (And.intro hmt (And.intro hkt hhl)))));have HUA:=Lib.hid ((HU0.out.trans hu).trans hu2);generalize hwA:w1.alloc (.cells #[.pointer (some ⟨b,0,none⟩),.pointer (some ⟨m,0,none⟩),.slice xa refs.length xc,.slice ya tabs.length yc] 97 (0,0))=wA at *;have HWA:=Lib.hid hwA;clear hE hm hlg hal hlo hu hpl hhd hhl hkt hmt hvr hrf hM e0 hu2 hwz hsz1 hwA HLD HU0 hLI;go_upto_region 2 with fail;rw [HWA.out];generalize w1.heap.size=a at *;go_wp2_with fail;refine (awake12_spec _).mono ?_;rintro e wB ⟨rfl,hu⟩;have HL:=Lib.hid (HLI.out.keep0 hu);have HUB:=Lib.hid (HUA.out.trans hu);clear hu HLI HUA;obtain ⟨N,hN⟩ : ∃ N,wB.heap.size=N:=⟨_,rfl⟩;obtain ⟨Z,hZ⟩ : ∃ Z,F++p.all m=Z:=⟨_,rfl⟩;have HNZ:=Lib.hid (And.intro hN hZ)
 have HZ:Hid (∀ k,k∈Z->k<N):=fun k hk=>by rw [<- HNZ.out.1];exact HL.out.mem.z k (by rw [HNZ.out.2];exact hk)
 have HSL:Hid (∀ (v:Int) (x:World),Upd [] wB x->Calls Tryz.prog 51 #[.agg #[.pointer (some ⟨b,0,none⟩),.pointer (some ⟨m,0,none⟩),.slice xa refs.length xc,.slice ya tabs.length yc],.int .i64 v] x fun e w'=>SlotQ Z M refs tabs x e w'):=fun v x u=>by
  rw [<- HNZ.out.2];exact slot_spec b m _ _ K F M p refs tabs v x (HL.out.mem.keep0 u) HLG.out.1
 clear hN hZ
 have HX:Hid (∀ z,Upd [] wB z->z.cell? ⟨a,0,none⟩=some (.pointer (some ⟨b,0,none⟩))/\z.cell? ⟨a,1,none⟩=some (.pointer (some ⟨m,0,none⟩))/\z.cell? ⟨a,2,none⟩=some (.slice xa refs.length xc)/\z.cell? ⟨a,3,none⟩=some (.slice ya tabs.length yc)):=fun z u=>by
  obtain ⟨c0,c1,c2,c3⟩:=HL.out.cells;exact ⟨u.cell0 c0,u.cell0 c1,u.cell0 c2,u.cell0 c3⟩
 obtain ⟨T,q,hk0,_⟩:=HL.out.mem.ker
 have hn8:K.vars<=8:=by rw [<- HLG.out.1.agr.same.n];exact HLG.out.1.fit.n6
 have hun:=hk0.ti.uni hk0.ok.wf;have HKK:=Lib.hid (And.intro hk0 (And.intro hn8 hun));have hvr:M.n=K.vars:=HLG.out.1.agr.same.n;have hor:M.order=K.order:=HLG.out.1.agr.same.od
 have HSZ:Hid (∀ (z:World) (r:Nat) (t:TV) (lv:Value),Upd [] wB z->Names K r t->t.Ok->t.n=K.vars->z.ownsRow 0 77 1 lv [r,1,r].length (flatRefs [r,1,r])->Calls Tryz.prog 54 #[.pointer (some ⟨b,0,none⟩),lv] z fun e w'=>e=.returned (.tuple #[.int .i64 ((flatT [t] M.order).length:Nat),.int .i64 0])/\Upd [] z w'):=fun z r t lv u hn ht htn hrow =>
  (size12_spec b lv [r,1,r] K T q z (hk0.upd u (by simp)) hrow (fun x hx=>by simp at hx;rcases hx with rfl | rfl | rfl;exact hn.1;exact hk0.ok.tk_const (by omega);exact hn.1) (by simp)).mono fun e w' hQ=>by
   obtain ⟨Nn,hN,rfl,_,hu⟩:=hQ.ex;refine ⟨?_,hu⟩
   rw [hor,size_listA hk0.ok hun (by omega) (rs:=[r]) (ts:=[t]) rfl (fun i r' t' h1 h2=>by
    cases i with
    | zero=>simp at h1 h2;subst h1 h2;exact ⟨hn,ht,htn⟩
    | succ i=>simp at h1) (hN.alls List.nodup_nil).one]
 have HDS:Hid (∀ (z:World) (t:TV) (ga:Option Addr) (gn gc:Nat) (g:Nat),Upd [] wB z->t.Ok->t.n=M.n->M.isLive t=true->TIn z Z (.slice ga gn gc) t->z.heap[g]?=some (.cells #[.int .i64 t.n,.slice ga gn gc] 122 (0,0))->N<=g->Calls Tryz.prog 55 #[.pointer (some ⟨m,0,none⟩),.slice (some ⟨g,0,none⟩) 1 1] z fun e w'=>e=.returned (.tuple #[.int .i64 ((flatT [t] M.order).length:Nat),.int .i64 0])/\Upd [] z w'):=fun z t ga gn gc g u ht htn hl hti hg hNg=>by
  have htl:TLs z 0 Z (.slice (some ⟨g,0,none⟩) 1 1) [t]:=tls_one hg hti (Nat.zero_le _) (fun hm=>by have:=HZ.out g hm;omega);rw [<- HNZ.out.2] at htl;exact docsize_spec m 0 M p (F++p.all m) _ [t] z (HL.out.mem.keep0 u).mod (HL.out.mem.keep0 u).z HLG.out.1.fit htl (fun x hx=>by simp at hx;subst hx;exact ⟨htn,hl⟩) (by simp)
 have HTB:Hid (∀ (z:World) (r:Nat) (t:TV),Upd [] wB z->Names K r t->t.Ok->t.n=K.vars->Calls Tryz.prog 56 #[.pointer (some ⟨b,0,none⟩),.int .u32 r] z fun e w'=>∃ (g c:Nat),e=.returned (.tuple #[.agg #[.int .i64 t.n,.slice (some ⟨g,0,none⟩) t.ws.length c],.int .i64 0])/\TIn w' (List.range z.heap.size) (.slice (some ⟨g,0,none⟩) t.ws.length c) t/\Upd [] z w'):=fun z r t u hn ht htn=>by
  have e:K.tab r=t:=hk0.ok.tab_eq (by omega) hn.1 ht htn hn.2;refine (ctable_spec b r K T q z (hk0.upd u (by simp)) hn.1 (by omega)).mono ?_;rintro e1 w1 ⟨c1,rfl,h1,u1⟩;rw [e] at h1 ⊢;obtain ⟨ca,cc,rfl,_⟩:=row_nil_len h1.row;have hl:=ht.len;have hp:=wordsN_pos t.n;obtain ⟨g,rfl⟩:=row_some h1.row (by omega);exact ⟨g,cc,rfl,h1,u1⟩
 obtain ⟨ti,hi0,hi1,hi2,hi3⟩:=info_parts Tryz.infoU64;have HI:=Lib.hid (And.intro hi0 (And.intro hi1 (And.intro hi2 hi3)))
 have HCZ:Hid (∀ u,u∈[Value.int .u64 5]->u.oneCell'=true):=by intro u hu;simp at hu;subst hu;rfl
 obtain ⟨d0,d1,d2,d3⟩:=HX.out _ (Upd.refl _ _);have HSV:=Lib.hid (HSL.out iI wB (Upd.refl _ _));clear hi0 hi1 hi2 hi3 hk0 hn8 hun;go_wp2_with fail;refine HSV.out.mono ?_;rintro e w2 hQ;obtain ⟨j,r,t,sa,sn,sc,rfl,hjr,hjt,hti,hu⟩:=hQ.ex;have htv:tabV t (.slice sa sn sc)=.agg #[.int .i64 t.n,.slice sa sn sc]:=rfl;rw [htv];have hbx:=heap_alloc_new w2 (.cells #[.int .i64 t.n,.slice sa sn sc] 122 (0,0));have hu3:Upd [] w2 (w2.alloc (.cells #[.int .i64 t.n,.slice sa sn sc] 122 (0,0))):=(Upd.refl _ _).alloc _;have HU3:=Lib.hid (hu.trans hu3);have hti3:=hti.keep0 hu3;obtain ⟨w3,hw3⟩ : ∃ w3,w2.alloc (.cells #[.int .i64 t.n,.slice sa sn sc] 122 (0,0))=w3:=⟨_,rfl⟩;rw [hw3] at hbx HU3 hti3;have HW3:=Lib.hid hw3
 by_cases hlv:M.isLive t=true
 ·rw [hlv]
  have hnm:=HLG.out.1.nm j r t hjr hjt hlv;have hok:=HLG.out.1.ok t (List.mem_of_getElem? hjt);have HT:=Lib.hid (And.intro hnm (And.intro hok.1 (And.intro hok.2 (And.intro hlv hti3))));obtain ⟨tn,htn⟩ : ∃ tn,t.n=tn:=⟨_,rfl⟩;obtain ⟨TW,hTW⟩ : ∃ TW,t.ws.length=TW:=⟨_,rfl⟩
  have htw:TW<=1024:=by rw [<- hTW];exact hok.1.len_le
  have HTN:=Lib.hid (And.intro htn hTW);rw [htn] at hbx HW3;rw [htn]
  have HBF:Hid (∀ z,Upd [] w3 z->z.cell? ⟨w2.heap.size,0,none⟩=some (.int .i64 tn)/\z.cell? ⟨w2.heap.size,1,none⟩=some (.slice sa sn sc)):=fun z u=>⟨u.cell0 (cell_at hbx rfl),u.cell0 (cell_at hbx rfl)⟩
  clear hQ hjr hjt hti hu htv hbx hu3 hw3 hti3 hlv htn hTW d0 d1 d2 d3 hnm hok;go_upto_region 7 with fail;rw [HW3.out];generalize w2.heap.size=B at *;obtain ⟨S,hSz⟩ : ∃ S,(flatT [t] M.order).length=S:=⟨_,rfl⟩;have HSS:=Lib.hid hSz;have hf:=heap_alloc_new w3 (.cells #[.int .u32 r,.int .u32 1,.int .u32 r,.int .u32 77,.int .u32 78] 77 (0,0));have hu4:Upd [] w3 (w3.alloc (.cells #[.int .u32 r,.int .u32 1,.int .u32 r,.int .u32 77,.int .u32 78] 77 (0,0))):=(Upd.refl _ _).alloc _;have hr3:=row_three w3 r (.int .u32 77) (.int .u32 78);obtain ⟨w4,hw4⟩ : ∃ w4,w3.alloc (.cells #[.int .u32 r,.int .u32 1,.int .u32 r,.int .u32 77,.int .u32 78] 77 (0,0))=w4:=⟨_,rfl⟩;rw [hw4] at hf hu4 hr3;have HW4:=Lib.hid hw4
  have HF4:Hid (∀ z,Upd [] w4 z->z.cell? ⟨w3.heap.size,0,none⟩=some (.int .u32 r)/\z.cell? ⟨w3.heap.size,1,none⟩=some (.int .u32 1)/\z.cell? ⟨w3.heap.size,2,none⟩=some (.int .u32 r)/\z.cell? ⟨w3.heap.size,3,none⟩=some (.int .u32 77)/\z.cell? ⟨w3.heap.size,4,none⟩=some (.int .u32 78)):=fun z u =>
   ⟨u.cell0 (cell_at hf rfl),u.cell0 (cell_at hf rfl),u.cell0 (cell_at hf rfl),u.cell0 (cell_at hf rfl),u.cell0 (cell_at hf rfl)⟩
  have HU4:=Lib.hid (HU3.out.trans hu4);have HUT:=Lib.hid hu4;have HS4:=Lib.hid (HSZ.out w4.drew r t _ HU4.out.drew HT.out.1 HT.out.2.1 HT.out.2.2.1 (row_drew hr3));rw [hSz] at HS4;clear hf hu4 hr3 hw4 hSz;go_upto_region 8 with fail;rw [HW4.out];generalize w3.heap.size=fb at *;have HE8:=Lib.hid (HX.out _ HU4.out.drew).1;refine wp_region_until (fun z=>z.cell? ⟨a,0,none⟩=some (.pointer (some ⟨b,0,none⟩))) (fun _=>True) [] (by kernel_rfl) ?_;have hS:=HE8.out;have hE:True:=trivial;refine wpAnyU_takeS (i:=0) (v:=?v301) rfl (by kernel_rfl) (by kernel_rfl) (by kernel_rfl) (by kernel_rfl) (fun _ _ _ h=>h) (Or.inl ⟨by rfl,?hy301⟩) hS (fun _=>hE) ?rest301
  case hy301=>(intro x hSx;(try dsimp only at hSx);go_simp;try with_reducible rfl)
  (try simp only [Act.put,List.setIfInBounds_toArray])
  refine wpAnyU_takeS (i:=1) (v:=?v302) rfl (by kernel_rfl) (by kernel_rfl) (by kernel_rfl) (by kernel_rfl) (fun _ _ _ h=>h) (Or.inl ⟨by rfl,?hy302⟩) hS (fun _=>hE) ?rest302
  case hy302=>(intro x hSx;(try dsimp only at hSx);go_simp;try with_reducible rfl)
  (try simp only [Act.put])
  refine wpAnyU_takeS (i:=2) (v:=?v303) rfl (by kernel_rfl) (by kernel_rfl) (by kernel_rfl) (by kernel_rfl) (fun _ _ _ h=>h) (Or.inl ⟨by rfl,?hy303⟩) hS (fun _=>hE) ?rest303
  case hy303=>(intro x hSx;(try dsimp only at hSx);go_simp;try with_reducible rfl)
  (try simp only [Act.put])
  refine wpAnyU_takeS (i:=3) (v:=?v304) rfl (by kernel_rfl) (by kernel_rfl) (by kernel_rfl) (by kernel_rfl) (fun _ _ _ h=>h) (Or.inl ⟨by rfl,?hy304⟩) hS (fun _=>hE) ?rest304
  case hy304=>(intro x hSx;(try dsimp only at hSx);go_simp;try with_reducible rfl)
  (try simp only [Act.put])
  refine wpAnyU_ready (rs:=[4]) (by kernel_rfl) (by simp) ?_;refine AllReadyU.cons rfl (fun Kx hK=>?_) ?_
  rotate_left
  exact AllReadyU.nil
  go_simp
  refine HS4.out.mono ?_;rintro e w5 ⟨rfl,hu⟩;have HU5:=Lib.hid (HU4.out.trans ((Upd.refl _ _).drew.trans hu));have HUF:=Lib.hid ((Upd.refl [] w4).drew.trans hu);clear hu;go_wp2_with fail;refine hK.out _ _ ⟨(HX.out _ HU5.out).1,fun _=>trivial⟩ (fun hHeld=>?_);clear hK Kx;obtain ⟨hS,hE⟩:=hHeld;have hE:=hE (by kernel_rfl)
  (try simp only [Act.put,List.setIfInBounds_toArray,List.set_cons_zero,List.set_cons_succ])
  refine wpAnyU_takeS (i:=5) (v:=?v305) rfl (by kernel_rfl) (by kernel_rfl) (by kernel_rfl) (by kernel_rfl) (fun _ _ _ h=>h) (Or.inl ⟨by rfl,?hy305⟩) hS (fun _=>hE) ?rest305
  case hy305=>(intro x hSx;(try dsimp only at hSx);go_simp;try with_reducible rfl)
  (try simp only [Act.put,List.setIfInBounds_toArray])
  refine wpAnyU_takeS (i:=6) (v:=?v306) rfl (by kernel_rfl) (by kernel_rfl) (by kernel_rfl) (by kernel_rfl) (fun _ _ _ h=>h) (Or.inl ⟨by rfl,?hy306⟩) hS (fun _=>hE) ?rest306
  case hy306=>(intro x hSx;(try dsimp only at hSx);go_simp;try with_reducible rfl)
  (try simp only [Act.put])
  refine wpAnyU_takeS (i:=7) (v:=?v307) rfl (by kernel_rfl) (by kernel_rfl) (by kernel_rfl) (by kernel_rfl) (fun _ _ _ h=>h) (Or.inl ⟨by rfl,?hy307⟩) hS (fun _=>hE) ?rest307
  case hy307=>(intro x hSx;(try dsimp only at hSx);go_simp;try with_reducible rfl)
  (try simp only [Act.put])
  refine wpAnyU_takeS (i:=8) (v:=?v308) rfl (by kernel_rfl) (by kernel_rfl) (by kernel_rfl) (by kernel_rfl) (fun _ _ _ h=>h) (Or.inl ⟨by rfl,?hy308⟩) hS (fun _=>hE) ?rest308
  case hy308=>(intro x hSx;(try dsimp only at hSx);go_simp;try with_reducible rfl)
  (try simp only [Act.put])
  refine wpAnyU_takeS (i:=9) (v:=?v309) rfl (by kernel_rfl) (by kernel_rfl) (by kernel_rfl) (by kernel_rfl) (fun _ _ _ h=>h) (Or.inl ⟨by rfl,?hy309⟩) hS (fun _=>hE) ?rest309
  case hy309=>(intro x hSx;(try dsimp only at hSx);go_simp;try with_reducible rfl)
  (try simp only [Act.put])
  refine wpAnyU_done (by kernel_rfl) ?_ _;clear hS hE;obtain ⟨_,d1,_,_⟩:=HX.out _ HU5.out;obtain ⟨y0,y1⟩:=HBF.out _ (HUT.out.trans HUF.out);go_upto_region 9 with fail;have hb6:=heap_alloc_new w5 (.cells #[.int .i64 tn,.slice sa sn sc] 122 (0,0));have hu6:Upd [] w5 (w5.alloc (.cells #[.int .i64 tn,.slice sa sn sc] 122 (0,0))):=(Upd.refl _ _).alloc _;obtain ⟨w6,hw6⟩ : ∃ w6,w5.alloc (.cells #[.int .i64 tn,.slice sa sn sc] 122 (0,0))=w6:=⟨_,rfl⟩;rw [hw6] at hb6 hu6;have HW6:=Lib.hid hw6;have HU6:=Lib.hid (HU5.out.trans hu6);have HT6:=Lib.hid ((HT.out.2.2.2.2.keep0 (HUT.out.trans HUF.out)).keep0 hu6)
  have HD6:Hid (Calls Tryz.prog 55 #[.pointer (some ⟨m,0,none⟩),.slice (some ⟨w5.heap.size,0,none⟩) 1 1] w6 fun e w'=>e=.returned (.tuple #[.int .i64 (S:Nat),.int .i64 0])/\Upd [] w6 w'):=by
   rw [<- HSS.out];exact HDS.out w6 t sa sn sc w5.heap.size HU6.out HT.out.2.1 (by rw [hvr];exact HT.out.2.2.1) HT.out.2.2.2.1 HT6.out (by rw [HTN.out.1];exact hb6) (by have:=HU5.out.size;have:=HNZ.out.1;omega)
  have HUG:=Lib.hid ((HUT.out.trans HUF.out).trans hu6);have HUFF:=Lib.hid (HUF.out.trans hu6);clear hb6 hu6 hw6
  go_wp2_with (rw [HW6.out])
  refine HD6.out.mono ?_;rintro e w7 ⟨rfl,hu⟩;have HU7:=Lib.hid (HU6.out.trans hu);have HUH:=Lib.hid (HUG.out.trans hu);obtain ⟨f0,f1,f2,f3,f4⟩:=HF4.out _ (HUFF.out.trans hu);obtain ⟨c0,_,_,_⟩:=HX.out _ HU7.out;obtain ⟨y0',y1'⟩:=HBF.out _ HUH.out
  have hss:((S:Int) != (S:Int))=false:=by simp
  have hrr:((r:Int) != (r:Int))=false:=by simp
  have HTA:=Lib.hid (HTB.out w7 r t HU7.out HT.out.1 HT.out.2.1 HT.out.2.2.1);clear hu d1 y0 y1;go_wp2_with fail;refine HTA.out.mono ?_;rintro e w8 ⟨ga,ca,rfl,hta,hu⟩;rw [HTN.out.1,HTN.out.2];rw [HTN.out.2] at hta;have HTA8:=Lib.hid hta;have hga:=hta.fr ga rfl
  have hga2:w7.heap.size<=ga:=by
   rcases Nat.lt_or_ge ga w7.heap.size with h | h
   ·exact absurd (List.mem_range.2 h) hga
   ·exact h
  have hgal:ga<w8.heap.size:=(hta.row.lt ga rfl).2;have hb8:=heap_alloc_new w8 (.cells #[.int .i64 tn,.slice (some ⟨ga,0,none⟩) TW ca] 122 (0,0));have hu8:Upd [] w8 (w8.alloc (.cells #[.int .i64 tn,.slice (some ⟨ga,0,none⟩) TW ca] 122 (0,0))):=(Upd.refl _ _).alloc _;obtain ⟨w9,hw9⟩ : ∃ w9,w8.alloc (.cells #[.int .i64 tn,.slice (some ⟨ga,0,none⟩) TW ca] 122 (0,0))=w9:=⟨_,rfl⟩;obtain ⟨A8,hA8⟩ : ∃ A8,w8.heap.size=A8:=⟨_,rfl⟩;rw [hw9] at hb8 hu8;rw [hA8] at hb8;have HW9:=Lib.hid hw9;have HA8:=Lib.hid hA8;have HB9:=Lib.hid hb8;have HU9:=Lib.hid ((HU7.out.trans hu).trans hu8);have HUI:=Lib.hid ((HUH.out.trans hu).trans hu8);have HGA:=Lib.hid (And.intro hga2 (And.intro hgal ((hu.trans hu8))));have HT9:=Lib.hid (hta.keep0 hu8);obtain ⟨c0',_,_,_⟩:=HX.out _ HU9.out;have HTC:=Lib.hid (HTB.out w9 r t HU9.out HT.out.1 HT.out.2.1 HT.out.2.2.1);clear hta hga hu hu8 hb8 f0 f1 f2 f3 f4 c0 y0' y1' hga2 hgal hw9 hA8;go_upto_region 13 with fail;rw [HW9.out,HA8.out];go_wp2_with fail;refine HTC.out.mono ?_;rintro e w10 ⟨gb,cb,rfl,htb,hu⟩;rw [HTN.out.1,HTN.out.2];rw [HTN.out.2] at htb;have hu10:Upd [] w10 (w10.alloc (.cells #[.int .i64 tn,.slice (some ⟨gb,0,none⟩) TW cb] 122 (0,0))):=(Upd.refl _ _).alloc _;have hb10:=heap_alloc_new w10 (.cells #[.int .i64 tn,.slice (some ⟨gb,0,none⟩) TW cb] 122 (0,0));obtain ⟨w11,hw11⟩ : ∃ w11,w10.alloc (.cells #[.int .i64 tn,.slice (some ⟨gb,0,none⟩) TW cb] 122 (0,0))=w11:=⟨_,rfl⟩;obtain ⟨A10,hA10⟩ : ∃ A10,w10.heap.size=A10:=⟨_,rfl⟩;rw [hw11] at hb10 hu10;rw [hA10] at hb10;have HW11:=Lib.hid hw11;have HA10:=Lib.hid hA10
  have hA810:A8<A10:=by rw [<- hA10,<- HA8.out];have h1:=heap_lt HB9.out;have h2:=hu.size;have h3:=HA8.out;omega
  have HB11:=Lib.hid hb10;have HUJ:=Lib.hid (hu.trans hu10);have HU11:=Lib.hid ((HU9.out.trans hu).trans hu10);have HUK:=Lib.hid ((HUI.out.trans hu).trans hu10);have HTB11:=Lib.hid (htb.keep0 hu10);have HTA11:=Lib.hid (HT9.out.keep0 (hu.trans hu10))
  have HSAME:Hid (∀ (z:World) (g1 c1:Nat) (Z1:List Nat),Upd [] w3 z->TIn z Z1 (.slice (some ⟨g1,0,none⟩) TW c1) t->Calls Tryz.prog 57 #[.agg #[.int .i64 tn,.slice (some ⟨g1,0,none⟩) TW c1],.agg #[.int .i64 tn,.slice sa sn sc]] z fun e w'=>e=.returned (.bool true)/\Upd [] z w'):=fun z g1 c1 Z1 u h1=>by
   have h2:=HT.out.2.2.2.2.keep0 u;have h3:=same_spec [] _ _ t t z ⟨h1.ok,h1.row,by simp⟩ ⟨h2.ok,h2.row,by simp⟩;unfold tabV at h3;rw [HTN.out.1] at h3
   exact h3.mono fun e w' ⟨x1,x2⟩=>⟨by rw [x1];simp,x2⟩
  have HSM1:=Lib.hid (HSAME.out w11 ga ca _ HUK.out HTA11.out)
  have HAC:Hid (∀ z,Upd [] w11 z->(z.cell? ⟨A8,0,none⟩=some (.int .i64 tn)/\z.cell? ⟨A8,1,none⟩=some (.slice (some ⟨ga,0,none⟩) TW ca))/\(z.cell? ⟨A10,0,none⟩=some (.int .i64 tn)/\z.cell? ⟨A10,1,none⟩=some (.slice (some ⟨gb,0,none⟩) TW cb))):=fun z u =>
   ⟨⟨u.cell0 (HUJ.out.cell0 (cell_at HB9.out rfl)),u.cell0 (HUJ.out.cell0 (cell_at HB9.out rfl))⟩,⟨u.cell0 (cell_at HB11.out rfl),u.cell0 (cell_at HB11.out rfl)⟩⟩
  obtain ⟨⟨p0,p1⟩,q0,q1⟩:=HAC.out _ (Upd.refl _ _);obtain ⟨s0,s1⟩:=HBF.out _ HUK.out;clear htb hu hu10 hb10 hw11 hA10 c0';go_upto_region 14 with fail;rw [HW11.out,HA10.out];go_wp2_with fail;refine HSM1.out.mono ?_;rintro e w12 ⟨rfl,hu⟩;have HU12:=Lib.hid hu;have HSM2:=Lib.hid (HSAME.out w12 gb cb _ (HUK.out.trans hu) (HTB11.out.keep0 hu));obtain ⟨⟨p0',p1'⟩,q0',q1'⟩:=HAC.out _ hu;obtain ⟨s0',s1'⟩:=HBF.out _ (HUK.out.trans hu);clear hu p0 p1 q0 q1 s0 s1;go_wp2_with fail;refine HSM2.out.mono ?_;rintro e w13 ⟨rfl,hu⟩;have HU13:=Lib.hid (HU12.out.trans hu);obtain ⟨⟨p0,p1⟩,q0,q1⟩:=HAC.out _ HU13.out;have HRA:=Lib.hid (HTA11.out.keep0 HU13.out).row
  have hgne:ga≠A8:=by have h1:=HGA.out.2.1;have h2:=HA8.out;omega
  have HNE8:=Lib.hid hgne;clear hu p0' p1' q0' q1' s0' s1' hgne;go_wp2_with fail
  go_loopg [135] TW (fun gg s135 wr=>∃ (i:Nat) (xs:List Int),TW-i=gg/\i<=TW/\s135=.int .i64 i/\xs.length=TW/\wr.ownsRow 0 90 1 (.slice (some ⟨ga,0,none⟩) TW ca) TW (flatU xs)/\Upd [ga] w13 wr)
  case atStart=>exact ⟨0,t.ws,by omega,by omega,rfl,HTN.out.2,by rw [<- HTN.out.2];rw [<- HTN.out.2] at HRA;exact HRA.out,Upd.refl _ _⟩
  case round =>
   obtain ⟨i,xs,rfl,hi,rfl,hxl,hR,hU⟩:=hrel;have hc0:wr.cell? ⟨A8,0,none⟩=some (.int .i64 tn):=(hU.cell (World.block_lt_of_cell? _ _ p0) (by simp;exact fun e=>HNE8.out e.symm)).trans p0;have hc1:wr.cell? ⟨A8,1,none⟩=some (.slice (some ⟨ga,0,none⟩) TW ca):=(hU.cell (World.block_lt_of_cell? _ _ p1) (by simp;exact fun e=>HNE8.out e.symm)).trans p1
   by_cases hlt:i<TW
   ·have hil:(i:Int)<(TW:Int):=by omega
    obtain ⟨x,hx⟩ : ∃ x,xs[i]?=some x:=⟨_,List.getElem?_eq_getElem (by omega)⟩;have cx:=row_cell hR (flatU_at hx);have fx:=row_frozen hR i;have HR:=Lib.hid (And.intro hR (And.intro hU hxl));clear hR hU hx hxl p0 p1 q0 q1;go_upto_region 19 with fail
    go_region
    go_wp2_with fail
    go_roundg (TW-(i+1))
    case measure=>omega
    case rel =>
     refine ⟨i+1,xs.set i (bits BinOp.xor IntKind.u64 IntKind.u64.max x),rfl,by omega,by simp,by rw [List.length_set];exact HR.out.2.2,?_,(HR.out.2.1.setCell (p:=⟨ga,i,none⟩) (.inl (by simp)) _).drew⟩;have h1:=row_set HR.out.1 (j:=i) (by omega) (.int .u64 (bits BinOp.xor IntKind.u64 IntKind.u64.max x))
     have h2:(flatU xs).set i (.int .u64 (bits BinOp.xor IntKind.u64 IntKind.u64.max x))=flatU (xs.set i (bits BinOp.xor IntKind.u64 IntKind.u64.max x)):=by simp [flatU,List.map_set]
     rw [h2] at h1;exact row_drew h1
   ·obtain rfl:i=TW:=by omega
    have hil:¬ ((i:Int)<(i:Int)):=by omega
    have HR:=Lib.hid (And.intro hR (And.intro hU hxl));have f8:wr.frozen? ⟨A8,1,none⟩=false:=frozen_at 1 ((hU.block _ (heap_lt ((HUJ.out.trans HU13.out).block _ (heap_lt HB9.out) (by simp) |>.trans HB9.out)) (by simp;exact fun e=>HNE8.out e.symm)).trans (((HUJ.out.trans HU13.out).block _ (heap_lt HB9.out) (by simp)).trans HB9.out));clear hR hU p0 p1 q0 q1
    go_wp2_with (at_builtin;go_must (refine wpList_append_lies _ rfl (.tmp 150) (.tmp 151) 68 rfl 0 90 ti _ 1 8 Tryz.underlying68 HI.out.1 HI.out.2.1 HI.out.2.2.1 HI.out.2.2.2 (by rfl) (by decide) _ i (flatU xs) rfl (HR.out.1.alloc _) ⟨wr.heap.size,0,none⟩ 1 1 [.int .u64 5] rfl rfl ?c1 HCZ.out (by omega) (by unfold maxLen;omega) (by omega) (Nat.zero_le _) _ rfl ?_))
    try case c1=>exact World.news_of_block (heap_alloc_new wr (.cells #[.int .u64 5] 90 (0,0)))
    intro g7 cap w14 hown hgr hat hlt5
    have hbk:wr.heap[A8]?=some (.cells #[.int .i64 tn,.slice (some ⟨ga,0,none⟩) i ca] 122 (0,0)):=(HR.out.2.1.block _ (heap_lt ((HUJ.out.trans HU13.out).block _ (heap_lt HB9.out) (by simp) |>.trans HB9.out)) (by simp;exact fun e=>HNE8.out e.symm)).trans (((HUJ.out.trans HU13.out).block _ (heap_lt HB9.out) (by simp)).trans HB9.out)
    have hu14:Upd [ga] w13 w14:=(HR.out.2.1.alloc (.cells #[.int .u64 5] 90 (0,0))).grown hgr fun k hk=>.inl (by simp [Value.ownBlock] at hk;simp [hk])
    have hu14r:Upd [ga] wr w14:=((Upd.refl [ga] wr).alloc (.cells #[.int .u64 5] 90 (0,0))).grown hgr fun k hk=>.inl (by simp [Value.ownBlock] at hk;simp [hk])
    have hb14:=(hu14r.block _ (heap_lt hbk) (by simp;exact fun e=>HNE8.out e.symm)).trans hbk;have h14c:=cell_at (j:=1) hb14 rfl;have h14f:=frozen_at 1 hb14;have hu15:Upd [ga,A8] w13 (w14.setCell ⟨A8,1,none⟩ (.slice (some ⟨g7,0,none⟩) (i+1) cap)):=(hu14.mono (by simp)).setCell (p:=⟨A8,1,none⟩) (.inl (by simp)) _;obtain ⟨w15,hw15⟩ : ∃ w15,w14.setCell ⟨A8,1,none⟩ (.slice (some ⟨g7,0,none⟩) (i+1) cap)=w15:=⟨_,rfl⟩;rw [hw15] at hu15;have HW15:=Lib.hid hw15;have hsB:wB.heap.size<=w7.heap.size:=HU7.out.size;have hs3:w3.heap.size<=w7.heap.size:=HUH.out.size
    have h78:w7.heap.size<=A8:=by rw [<- HA8.out];exact Nat.le_trans HGA.out.1 (Nat.le_of_lt HGA.out.2.1)
    have HU15:Hid (Upd [] wB w15):=(HU11.out.trans HU13.out).then hu15 fun k hk=>.inr (by simp at hk;have:=HGA.out.1;omega)
    have HUK15:Hid (Upd [] w3 w15):=(HUK.out.trans HU13.out).then hu15 fun k hk=>.inr (by simp at hk;have:=HGA.out.1;omega)
    have hA89:A8<w9.heap.size:=heap_lt HB9.out
    have HTB15:Hid (TIn w15 (List.range w9.heap.size) (.slice (some ⟨gb,0,none⟩) i cb) t):=(HTB11.out.keep0 HU13.out).keep hu15 fun k hk=>.inl (List.mem_range.2 (by
     simp at hk
     have h1:=HGA.out.2.1;have h2:=HA8.out
     omega))
    have hga10:ga<A10:=by have h1:=HGA.out.2.1;have h2:=HA8.out;omega
    have hq0:w15.cell? ⟨A10,0,none⟩=some (.int .i64 tn):=(hu15.cell (World.block_lt_of_cell? _ _ (HAC.out _ HU13.out).2.1) (by simp;omega)).trans (HAC.out _ HU13.out).2.1;have hq1:w15.cell? ⟨A10,1,none⟩=some (.slice (some ⟨gb,0,none⟩) i cb):=(hu15.cell (World.block_lt_of_cell? _ _ (HAC.out _ HU13.out).2.2) (by simp;omega)).trans (HAC.out _ HU13.out).2.2
    have HQ15:Hid (∀ z,Upd [] w15 z->z.cell? ⟨A10,0,none⟩=some (.int .i64 tn)/\z.cell? ⟨A10,1,none⟩=some (.slice (some ⟨gb,0,none⟩) i cb)):=fun z u=>⟨u.cell0 hq0,u.cell0 hq1⟩
    have HTD:=Lib.hid (HTB.out w15 r t HU15.out HT.out.1 HT.out.2.1 HT.out.2.2.1);obtain ⟨c0',_,_,_⟩:=HX.out _ HU15.out;clear hown hgr hat hlt5 hbk hu14 hu14r hb14 hu15 hw15 hq0 hq1 f8 hc0 hc1
    go_upto_region 22 with (rw [HW15.out])
    go_wp2_with fail;refine HTD.out.mono ?_;rintro e w16 ⟨gc,cc,rfl,htc,hu⟩;rw [HTN.out.1,HTN.out.2];rw [HTN.out.2] at htc;have hu16:Upd [] w16 (w16.alloc (.cells #[.int .i64 tn,.slice (some ⟨gc,0,none⟩) i cc] 122 (0,0))):=(Upd.refl _ _).alloc _;have hb16:=heap_alloc_new w16 (.cells #[.int .i64 tn,.slice (some ⟨gc,0,none⟩) i cc] 122 (0,0));obtain ⟨w17,hw17⟩ : ∃ w17,w16.alloc (.cells #[.int .i64 tn,.slice (some ⟨gc,0,none⟩) i cc] 122 (0,0))=w17:=⟨_,rfl⟩;rw [hw17] at hb16 hu16;have HW17:=Lib.hid hw17;have HUL:=Lib.hid (hu.trans hu16)
    have HB17:Hid (∀ z,Upd [] w17 z->z.cell? ⟨w16.heap.size,0,none⟩=some (.int .i64 tn)/\z.cell? ⟨w16.heap.size,1,none⟩=some (.slice (some ⟨gc,0,none⟩) i cc)):=fun z u=>⟨u.cell0 (cell_at hb16 rfl),u.cell0 (cell_at hb16 rfl)⟩
    have HTC17:=Lib.hid (htc.keep0 hu16);have HS17:=Lib.hid (HSAME.out w17 gb cb _ (HUK15.out.trans HUL.out) (HTB15.out.keep0 HUL.out));obtain ⟨q0,q1⟩:=HQ15.out _ HUL.out;obtain ⟨s0,s1⟩:=HBF.out _ (HUK15.out.trans HUL.out);clear htc hu hu16 hb16 hw17 c0';go_upto_region 23 with fail;rw [HW17.out];generalize w16.heap.size=A16 at *;go_wp2_with fail;refine HS17.out.mono ?_;rintro e w18 ⟨rfl,hu⟩;have HU18:=Lib.hid hu;have HS18:=Lib.hid (HSAME.out w18 gc cc _ (HUK15.out.trans (HUL.out.trans hu)) (HTC17.out.keep0 hu));obtain ⟨v0,v1⟩:=HB17.out _ hu;obtain ⟨s0',s1'⟩:=HBF.out _ (HUK15.out.trans (HUL.out.trans hu));clear hu q0 q1 s0 s1;go_wp2_with fail;refine HS18.out.mono ?_;rintro e w19 ⟨rfl,hu⟩;have HU19:=Lib.hid (HU18.out.trans hu);clear hu;go_wp2_with fail;go_ret;exact ⟨rfl,HUB.out.trans (HU15.out.trans (HUL.out.trans HU19.out))⟩
 ·rw [Bool.not_eq_true] at hlv
  rw [hlv];generalize t.n=tn at *;clear hQ hjr hjt hti hu htv hbx hu3 hw3 hti3 hlv d0 d1 d2 d3;go_wp2_with fail;rw [HW3.out];go_ret;exact ⟨rfl,HUB.out.trans HU3.out⟩
end Go.Proofs.YtfkopmhpppeheaaGreat
