import Derived.Test.YtpfafhmkbcahhaaGreatKA28
set_option maxRecDepth 100000
set_option maxHeartbeats 6400000
namespace Go.Proofs.YtpfafhmkbcahhaaGreat
open Go.RowKit Go.Maps Go.ChangeMaps Go.WideShapes
structure KpS (wS:World) (N:Nat) (Z:List Nat) (K:KV) (M:MV) (fv tv:Value) (fl:List Nat) (tl:List TV) (i:Nat) (w:World):Prop where
 pl:PL w N Z fv tv fl tl
 len:fl.length=tl.length
 le:fl.length<=8
 lt:fl.length<=i
 up:Upd [] wS w
 nm:∀ (i f:Nat) (t:TV),fl[i]?=some f->tl[i]?=some t->Names K f t
 tk:∀ t,t∈tl->t.n=K.vars/\M.isLive t=true
 ns:N=wS.heap.size
theorem KpS.start (wS:World) (Z:List Nat) (K:KV) (M:MV):KpS wS wS.heap.size Z K M (.slice none 0 0) (.slice none 0 0) [] [] 0 wS :=
 ⟨⟨World.ownsRow_nil _ _ _ _,TLs.nil _ _ _⟩,rfl,by simp,by simp,Upd.refl _ _,fun i f t h=>by simp at h,fun t h=>by simp at h,rfl⟩
theorem KpS.keep0 {wS w w':World} {N:Nat} {Z:List Nat} {K:KV} {M:MV} {fv tv:Value} {fl:List Nat} {tl:List TV} {i j:Nat} (h:KpS wS N Z K M fv tv fl tl i w) (u:Upd [] w w') (hij:i<=j):KpS wS N Z K M fv tv fl tl j w' :=
 ⟨h.pl.keep0 u,h.len,h.le,Nat.le_trans h.lt hij,h.up.trans u,h.nm,h.tk,h.ns⟩
theorem KpS.push {wS w w6:World} {N g1 cap1 g2 cap2 f:Nat} {Z:List Nat} {K:KV} {M:MV} {fv tv c:Value} {fl:List Nat} {tl:List TV} {t:TV} {i:Nat} {cs:List Value} (h:KpS wS N Z K M fv tv fl tl i w) (hZ:∀ k,k∈Z->k<N) (u:Upd (fv.ownBlock.toList++tv.ownBlock.toList) w w6)
  (e1:cs.length=tl.length) (e3:∀ (i:Nat) (t:TV) (c:Value),tl[i]?=some t->cs[i]?=some c->TIn w Z c t)
  (o1:w6.ownsRow N 54 1 (.slice (some ⟨g1,0,none⟩) (fl.length+1) cap1) (fl.length+1) (flatRefs fl++[.int .u32 f]))
  (o2:w6.ownsRow N 56 2 (.slice (some ⟨g2,0,none⟩) (tl.length+1) cap2) (tl.length+1) (flatTT tl cs++[.int .i64 t.n,c])) (ht:TIn w Z c t)
  (hn:Names K f t) (hl:t.n=K.vars/\M.isLive t=true) (hi:i<8) :
  KpS wS N Z K M (.slice (some ⟨g1,0,none⟩) (fl.length+1) cap1) (.slice (some ⟨g2,0,none⟩) (tl.length+1) cap2) (fl++[f]) (tl++[t]) (i+1) w6:=by
 have hlt:=h.lt;have hns:=h.ns;obtain ⟨xs,hxs⟩:=h.pl.tt.row;refine ⟨h.pl.push hZ u e1 e3 o1 o2 ht,by simp [h.len],by simp;omega,by simp;omega,h.up.then u fun k hk=>.inr ?_,fun j q u h1 h2=>?_,fun s hs=>?_,hns⟩
 ·rcases List.mem_append.1 hk with hk | hk
  ·have:=(h.pl.rr.lt k (by simpa using hk)).1;omega
  ·have:=(hxs.lt k (by simpa using hk)).1;omega
 ·by_cases hj:j<fl.length
  ·rw [List.getElem?_append_left hj] at h1
   rw [List.getElem?_append_left (by rw [<- h.len];exact hj)] at h2;exact h.nm j q u h1 h2
  ·rw [List.getElem?_append_right (by omega)] at h1
   rw [List.getElem?_append_right (by rw [<- h.len];omega),<- h.len] at h2
   cases h3:j-fl.length with
   | zero=>rw [h3] at h1 h2;simp at h1 h2;subst h1 h2;exact hn
   | succ j=>rw [h3] at h1;simp at h1
 ·rcases List.mem_append.1 hs with h1 | h1
  ·exact h.tk s h1
  ·simp at h1;subst h1;exact hl
theorem applyKeeps_walk (n room:Int) (or:Bool) (la wa va:Option Addr) (ln lc wn wk vn vc:Nat) (Ls Ws Vs:List Int) (w:World) (hL:RowOf w .i64 la ln Ls) (hW:RowOf w .u64 wa wn Ws) (hU:∀ x,x∈Ws->U64 x) (hV:RowOf w .i64 va vn Vs) :
  Calls Tryz.prog 5 #[.agg #[.int .i64 n,.int .i64 room,.slice la ln lc,.slice wa wn wk],.slice va vn vc,.bool or] w fun e w'=>e=.returned (.bool true)/\Upd [] w w':=by
 have HLD:Hid (∀ x:World,Upd [] w x->Calls Tryz.prog 15 #[.agg #[.int .i64 n,.int .i64 room,.slice la ln lc,.slice wa wn wk]] x fun e w'=>LaidX n room ln Ws x e w'):=fun x u =>
  laid_specX n room la wa ln lc wn wk Ls Ws x (hL.keep0 u) (hW.keep0 u) hU
 have HU0:=Lib.hid ((Upd.refl [] w).alloc (.cells #[.int .i64 n,.int .i64 room,.slice la ln lc,.slice wa wn wk] 25 (0,0)));have HV:=Lib.hid hV;have hvmx:=hV.mx;unfold maxLen at hvmx;clear hL hW hU hV
 go_enter Tryz.func5,Tryz.ntmps5
 go_wp2_with fail;refine (HLD.out _ HU0.out).mono ?_;rintro e w1 hE;obtain ⟨b,m,_,_,K,F,M,p,refs,tabs,rfl,hm,hlg,hal,hlo,hu,hpl,hhd,hrl,hhl,hkt,hmt,hvr,hrf,hM⟩:=hE.ex;obtain ⟨xa,xc,rfl,_⟩:=row_nil_len hm.rr;obtain ⟨ya,yc,rfl,hya⟩:=hm.tt.form;have HYG:Hid (∃ g,ya=some ⟨g,0,none⟩):=hya (by obtain ⟨rest,hrest⟩:=hlg.t2;rw [hrest];simp);clear hya;have e0:worldV b m (.slice xa refs.length xc) (.slice ya tabs.length yc)=.agg #[.pointer (some ⟨b,0,none⟩),.pointer (some ⟨m,0,none⟩),.slice xa refs.length xc,.slice ya tabs.length yc]:=rfl;rw [e0];have hu2:Upd [] w1 (w1.alloc (.cells #[.pointer (some ⟨b,0,none⟩),.pointer (some ⟨m,0,none⟩),.slice xa refs.length xc,.slice ya tabs.length yc] 31 (0,0))):=(Upd.refl _ _).alloc _;have hwz:=HU0.out.size;have hsz1:=hu.size
 have hLI:LIn (w1.alloc (.cells #[.pointer (some ⟨b,0,none⟩),.pointer (some ⟨m,0,none⟩),.slice xa refs.length xc,.slice ya tabs.length yc] 31 (0,0))) w.heap.size w1.heap.size b m (.slice xa refs.length xc) (.slice ya tabs.length yc) K F M p refs tabs:=by
  refine ⟨heap_alloc_new _ _,hm.keep0 hu2,⟨fun hk=>by have:=hm.ker.lt _ hk;omega,fun hk=>by have:=hm.mod.lt _ hk;omega⟩,fun k hk=>?_,by rw [World.size_alloc];omega⟩
  rcases hk with h | h | h | h | h
  ·have:=hlo k (.inl h);omega
  ·have:=hlo k (.inr (.inl h));omega
  ·omega
  ·have:=hlo k (.inr (.inr (.inl h)));omega
  ·have:=hlo k (.inr (.inr (.inr h)));omega
 have HLI:=Lib.hid hLI;have HLG:=Lib.hid (And.intro hlg (And.intro hal (And.intro (KM.of hlg hkt hmt) (And.intro hmt (And.intro hkt hhl)))));have HUA:=Lib.hid ((HU0.out.trans hu).trans hu2);generalize hwA:w1.alloc (.cells #[.pointer (some ⟨b,0,none⟩),.pointer (some ⟨m,0,none⟩),.slice xa refs.length xc,.slice ya tabs.length yc] 31 (0,0))=wA at *;have HWA:=Lib.hid hwA;clear hE hm hlg hal hlo hu hpl hhd hhl hkt hmt hvr hrf hM e0 hu2 hwz hsz1 hwA HLD HU0 hLI;go_upto_region 2 with fail;rw [HWA.out];generalize w1.heap.size=a at *;go_wp2_with fail;refine (awake10_spec _).mono ?_;rintro e wB ⟨rfl,hu⟩;have HL:=Lib.hid (HLI.out.keep0 hu);have HUB:=Lib.hid (HUA.out.trans hu);clear hu HLI HUA;obtain ⟨N,hN⟩ : ∃ N,wB.heap.size=N:=⟨_,rfl⟩;obtain ⟨Z,hZ⟩ : ∃ Z,F++p.all m=Z:=⟨_,rfl⟩;have HNZ:=Lib.hid (And.intro hN hZ)
 have HZ:Hid (∀ k,k∈Z->k<N):=fun k hk=>by rw [<- HNZ.out.1];exact HL.out.mem.z k (by rw [HNZ.out.2];exact hk)
 have HSL:Hid (∀ (v:Int) (x:World),Upd [] wB x->Calls Tryz.prog 26 #[.agg #[.pointer (some ⟨b,0,none⟩),.pointer (some ⟨m,0,none⟩),.slice xa refs.length xc,.slice ya tabs.length yc],.int .i64 v] x fun e w'=>SlotQ Z M refs tabs x e w'):=fun v x u=>by
  rw [<- HNZ.out.2];exact slot_spec b m _ _ K F M p refs tabs v x (HL.out.mem.keep0 u) HLG.out.1
 have HK0:Hid (KpS wB N Z K M (.slice none 0 0) (.slice none 0 0) [] [] 0 wB):=by rw [<- HNZ.out.1];exact KpS.start _ _ _ _
 clear hN hZ;go_upto_region 4 with fail;go_wp2_with fail
 go_loopg [9,10,37] vn (fun gg s9 s10 s37 wr=>∃ (i:Nat) (fl:List Nat) (tl:List TV) (fa:Option Addr) (fc:Nat) (ga:Option Addr) (gc:Nat),vn-i=gg/\i<=vn/\s9=.slice fa fl.length fc/\s10=.slice ga tl.length gc/\s37=.int .i64 i/\KpS wB N Z K M (.slice fa fl.length fc) (.slice ga tl.length gc) fl tl i wr)
 case atStart=>exact ⟨0,[],[],none,0,none,0,by omega,by omega,rfl,rfl,rfl,HK0.out⟩
 case round =>
  obtain ⟨i,fl,tl,fa,fc,ga,gc,rfl,hi,rfl,rfl,rfl,hS⟩:=hrel;have hup:=hS.up;have hle:=hS.le;have hlen:=hS.len
  by_cases hlt:i<vn
  ·have hil:(i:Int)<(vn:Int):=by omega
   obtain ⟨x,hx,hc⟩:=HV.out.at_ i hlt;subst hx;have hcr:=(HUB.out.trans hup).cell0 hc;generalize Vs.getD i 0=v at *;obtain ⟨c0,c1,c2,c3⟩:=HL.out.cells;have d0:=hup.cell0 c0;have d1:=hup.cell0 c1;have d2:=hup.cell0 c2;have d3:=hup.cell0 c3;have HQS:=Lib.hid hS;have HSV:=Lib.hid (HSL.out v wr hup)
   have hle2:tl.length<=8:=by omega
   clear hS hup hc c0 c1 c2 c3 hlen;go_wp2_with fail;refine HSV.out.mono ?_;rintro e w2 hQ;obtain ⟨j,r,t,sa,sn,sc,rfl,hjr,hjt,hti,hu⟩:=hQ.ex;have htv:tabV t (.slice sa sn sc)=.agg #[.int .i64 t.n,.slice sa sn sc]:=rfl;rw [htv];have hbx:=heap_alloc_new w2 (.cells #[.int .i64 t.n,.slice sa sn sc] 56 (0,0));have hu3:Upd [] w2 (w2.alloc (.cells #[.int .i64 t.n,.slice sa sn sc] 56 (0,0))):=(Upd.refl _ _).alloc _;have HK3:=Lib.hid (HQS.out.keep0 (hu.trans hu3) (Nat.le_refl i));have hti3:=hti.keep0 hu3;obtain ⟨w3,hw3⟩ : ∃ w3,w2.alloc (.cells #[.int .i64 t.n,.slice sa sn sc] 56 (0,0))=w3:=⟨_,rfl⟩;rw [hw3] at hbx HK3 hti3;have HW3:=Lib.hid hw3;have hok:=HLG.out.1.ok t (List.mem_of_getElem? hjt)
   by_cases hlv:M.isLive t=true
   ·rw [hlv]
    have hnm:=HLG.out.1.nm j r t hjr hjt hlv
    by_cases h8:i<8
    ·have hi8:(i:Int)<8:=by omega
     have HT:=Lib.hid (And.intro hti3 (And.intro hnm (And.intro hok.2 hlv)));obtain ⟨tn,htn⟩ : ∃ tn,t.n=tn:=⟨_,rfl⟩;have HTN:=Lib.hid htn;rw [htn] at hbx HW3;rw [htn];have HBB:=Lib.hid hbx
     have HBF:Hid (∀ k,(Value.slice fa fl.length fc).ownBlock=some k\/(Value.slice ga tl.length gc).ownBlock=some k->k<w2.heap.size):=fun k hk=>by
      obtain ⟨xs,hxs⟩:=HQS.out.pl.tt.row;have:=hu.size
      rcases hk with hk | hk
      ·have:=(HQS.out.pl.rr.lt k hk).2;omega
      ·have:=(hxs.lt k hk).2;omega
     clear hQ hjr hjt hti hu htv hbx hu3 hw3 hti3 hok hlv hnm htn d0 d1 d2 d3 hcr;go_upto_region 11 with fail;rw [HW3.out];generalize w2.heap.size=B at *;have HQ3:=HK3;have HP3:=Lib.hid HK3.out.pl
     have HN3:Hid (N<=w3.heap.size):=by have:=HK3.out.up.size;have:=HNZ.out.1;show N<=_;omega
     have HBX:Hid (w3.cell? ⟨B,0,none⟩=some (.int .i64 tn)/\w3.cell? ⟨B,1,none⟩=some (.slice sa sn sc)/\B∉((Value.slice fa fl.length fc).ownBlock.toList++(Value.slice ga tl.length gc).ownBlock.toList)):=by
      refine ⟨cell_at HBB.out rfl,cell_at HBB.out rfl,fun hm=>?_⟩;have:=HBF.out B (by simpa using hm);omega
     obtain ⟨cs,hcs1,hcs2,hcs3⟩:=HP3.out.tt.ex;obtain ⟨tr,hr0,hr1,hr2,hr3⟩:=info_parts Tryz.infoRefS;obtain ⟨tt,ht0,ht1,ht2,ht3⟩:=info_parts Tryz.infoTable;have HIR:=Lib.hid (And.intro hr0 (And.intro hr1 (And.intro hr2 hr3)));have HIT:=Lib.hid (And.intro ht0 (And.intro ht1 (And.intro ht2 ht3)));have HCS:=Lib.hid (And.intro hcs1 (And.intro hcs2 hcs3))
     have HRR:Hid (∀ x:World,Upd [] w3 x->x.ownsRow N 54 1 (.slice fa fl.length fc) fl.length (flatRefs fl)):=fun x u=>row_keep HP3.out.rr fun k hk=>u.block k (HP3.out.rr.lt k hk).2 (by simp)
     have HRT:Hid (∀ x:World,Upd (Value.slice fa fl.length fc).ownBlock.toList w3 x->x.ownsRow N 56 2 (.slice ga tl.length gc) tl.length (flatTT tl cs)):=fun x u=>row_keep HCS.out.2.1 fun k hk=>u.block k (HCS.out.2.1.lt k hk).2 fun hm=>ty_ne HCS.out.2.1 HP3.out.rr (by decide) hk (by simpa using hm)
     have HRL:Hid (∀ k,some k=(Value.slice fa fl.length fc).ownBlock->k<w3.heap.size):=fun k hk=>(HP3.out.rr.lt k hk.symm).2
     have HC1:Hid (∀ u,u∈[Value.int .u32 r]->u.oneCell'=true):=by intro u hu;simp at hu;subst hu;rfl
     have HC2:Hid (∀ u,u∈[Value.int .i64 tn,Value.slice sa sn sc]->u.oneCell'=true):=by intro u hu;simp at hu;rcases hu with rfl | rfl <;> rfl
     clear hr0 hr1 hr2 hr3 ht0 ht1 ht2 ht3 hcs1 hcs2 hcs3
     have HDONE:Hid (∀ (g1 cap1 g2 cap2:Nat) (w6:World),Upd ((Value.slice fa fl.length fc).ownBlock.toList++(Value.slice ga tl.length gc).ownBlock.toList) w3 w6->w6.ownsRow N 54 1 (.slice (some ⟨g1,0,none⟩) (fl.length+1) cap1) (fl.length+1) (flatRefs fl++[.int .u32 r]) ->
       w6.ownsRow N 56 2 (.slice (some ⟨g2,0,none⟩) (tl.length+1) cap2) (tl.length+1) (flatTT tl cs++[.int .i64 tn,.slice sa sn sc])->KpS wB N Z K M (.slice (some ⟨g1,0,none⟩) (fl.length+1) cap1) (.slice (some ⟨g2,0,none⟩) (tl.length+1) cap2) (fl++[r]) (tl++[t]) (i+1) w6):=fun g1 cap1 g2 cap2 w6 u o1 o2=>by
      rw [<- HTN.out] at o2;exact HQ3.out.push HZ.out u HCS.out.1 HCS.out.2.2 o1 o2 HT.out.1 HT.out.2.1 HT.out.2.2 (by omega)
     have HXB:Hid (((w3.alloc (.cells #[.int .u32 r] 54 (0,0))).alloc (.cells #[.int .i64 tn,.slice sa sn sc] 56 (0,0))).heap[w3.heap.size+1]?=some (.cells #[.int .i64 tn,.slice sa sn sc] 56 (0,0))):=by
      have h:=heap_alloc_new (w3.alloc (.cells #[.int .u32 r] 54 (0,0))) (.cells #[.int .i64 tn,.slice sa sn sc] 56 (0,0))
      rw [World.size_alloc] at h;exact h
     have HXC:Hid (((w3.alloc (.cells #[.int .i64 tn,.slice sa sn sc] 56 (0,0))).alloc (.cells #[.int .u32 r] 54 (0,0))).heap[w3.heap.size]?=some (.cells #[.int .i64 tn,.slice sa sn sc] 56 (0,0))):=(Below.heap_alloc _ _ _ (heap_lt (heap_alloc_new _ _))).trans (heap_alloc_new _ _)
     have HNX:Hid (∀ k,w3.heap.size<=k->some k≠(Value.slice fa fl.length fc).ownBlock):=fun k hk e=>by have:=HRL.out k e;omega
     have HX1A:Hid ((w3.alloc (.cells #[.int .u32 r] 54 (0,0))).heap[w3.heap.size]?=some (.cells #[.int .u32 r] 54 (0,0))):=heap_alloc_new _ _;have HX1B:Hid (((w3.alloc (.cells #[.int .u32 r] 54 (0,0))).alloc (.cells #[.int .i64 tn,.slice sa sn sc] 56 (0,0))).heap[w3.heap.size]?=some (.cells #[.int .u32 r] 54 (0,0))):=(Below.heap_alloc _ _ _ (heap_lt (heap_alloc_new _ _))).trans (heap_alloc_new _ _)
     have HX1C:Hid (((w3.alloc (.cells #[.int .i64 tn,.slice sa sn sc] 56 (0,0))).alloc (.cells #[.int .u32 r] 54 (0,0))).heap[w3.heap.size+1]?=some (.cells #[.int .u32 r] 54 (0,0))):=by
      have h:=heap_alloc_new (w3.alloc (.cells #[.int .i64 tn,.slice sa sn sc] 56 (0,0))) (.cells #[.int .u32 r] 54 (0,0))
      rw [World.size_alloc] at h;exact h
     have HS:Hid (∀ x:World,Upd ((Value.slice fa fl.length fc).ownBlock.toList++(Value.slice ga tl.length gc).ownBlock.toList) w3 x->x.cell? ⟨B,0,none⟩=some (.int .i64 tn)/\x.cell? ⟨B,1,none⟩=some (.slice sa sn sc)):=fun x u=>⟨(u.cell (World.block_lt_of_cell? _ _ HBX.out.1) HBX.out.2.2).trans HBX.out.1,(u.cell (World.block_lt_of_cell? _ _ HBX.out.2.1) HBX.out.2.2).trans HBX.out.2.1⟩
     refine wp_region_until (fun x=>x.cell? ⟨B,0,none⟩=some (.int .i64 tn)/\x.cell? ⟨B,1,none⟩=some (.slice sa sn sc)) (fun _=>True) [] (by kernel_rfl) ?_;have hS:=HS.out _ (Upd.refl _ _).drew;have hE:True:=trivial;refine wpAnyU_takeS (i:=0) (v:=?v1) rfl (by kernel_rfl) (by kernel_rfl) (by kernel_rfl) (by kernel_rfl) (fun _ _ _ h=>h) (Or.inl ⟨by rfl,?hy1⟩) hS (fun _=>hE) ?rest1
     case hy1=>(intro x hSx;(try dsimp only at hSx);go_simp;try with_reducible rfl)
     (try simp only [Act.put,List.setIfInBounds_toArray])
     refine wpAnyU_takeS (i:=1) (v:=?v2) rfl (by kernel_rfl) (by kernel_rfl) (by kernel_rfl) (by kernel_rfl) (fun _ _ _ h=>h) (Or.inl ⟨by rfl,?hy2⟩) hS (fun _=>hE) ?rest2
     case hy2=>(intro x hSx;(try dsimp only at hSx);go_simp;try with_reducible rfl)
     (try simp only [Act.put])
     refine wpAnyU_takeS (i:=4) (v:=?v3) rfl (by kernel_rfl) (by kernel_rfl) (by kernel_rfl) (by kernel_rfl) (fun _ _ _ h=>h) (Or.inl ⟨by rfl,?hy3⟩) hS (fun _=>hE) ?rest3
     case hy3=>(intro x hSx;(try dsimp only at hSx);go_simp;try with_reducible rfl)
     (try simp only [Act.put])
     refine wpAnyU_takeS (i:=5) (v:=?v4) rfl (by kernel_rfl) (by kernel_rfl) (by kernel_rfl) (by kernel_rfl) (fun _ _ _ h=>h) (Or.inl ⟨by rfl,?hy4⟩) hS (fun _=>hE) ?rest4
     case hy4=>(intro x hSx;(try dsimp only at hSx);go_simp;try with_reducible rfl)
     (try simp only [Act.put])
     refine wpAnyU_ready (rs:=[2,6]) (by kernel_rfl) (by simp) ?_;refine AllReadyU.cons rfl (fun K hK=>?_) ?_
     ·
      go_simp
      refine hK.out _ _ ⟨HS.out _ ((Upd.refl _ _).drew.alloc _),fun _=>trivial⟩ (fun hHeld=>?_);clear hK K;obtain ⟨hS,hE⟩:=hHeld;have hE:=hE (by kernel_rfl)
      (try simp only [Act.put,List.setIfInBounds_toArray,List.set_cons_zero,List.set_cons_succ])
      refine wpAnyU_ready (rs:=[3,6]) (by kernel_rfl) (by simp) ?_;refine AllReadyU.cons rfl (fun K hK=>?_) ?_
      ·
       refine step_append_lies _ (by rfl) (.tmp 54) (.tmp 56) 28 (by rfl) N 54 tr _ 1 4 Tryz.underlying28 HIR.out.1 HIR.out.2.1 HIR.out.2.2.1 HIR.out.2.2.2 (by rfl) (by decide) (.slice fa fl.length fc) fl.length (flatRefs fl) (by rfl) (HRR.out _ (by repeat (first | exact Upd.refl _ _ | refine Upd.drew ?_ | refine Upd.alloc ?_ _))) ⟨_,0,none⟩ 1 1 [.int .u32 r] (by rfl) (by rfl) (World.news_of_block (cs:=#[.int .u32 r]) (t:=54) (fr:=(0,0)) (by first | exact HX1A.out | exact HX1B.out | exact HX1C.out)) HC1.out (by omega) (by unfold maxLen;omega) (by omega) (Nat.le_trans HN3.out (Upd.size (S:=[]) (w:=w3) (by repeat (first | exact Upd.refl _ _ | refine Upd.drew ?_ | refine Upd.alloc ?_ _)))) _ (by rfl) ?_
       intro g1 cap1 w5 hown1 hgr1 hat1 hlt1
       have HG1:=Lib.hid (And.intro (Upd.grown (S:=((Value.slice fa fl.length fc).ownBlock.toList++(Value.slice ga tl.length gc).ownBlock.toList)) (w:=w3) (by repeat (first | exact Upd.refl _ _ | refine Upd.drew ?_ | refine Upd.alloc ?_ _)) hgr1 (fun k hk=>.inl (by simp [hk]))) (And.intro (Upd.grown (S:=(Value.slice fa fl.length fc).ownBlock.toList) (w:=w3) (by repeat (first | exact Upd.refl _ _ | refine Upd.drew ?_ | refine Upd.alloc ?_ _)) hgr1 (fun k hk=>.inl (by simp [hk]))) hown1));have HGR1:=Lib.hid hgr1;clear hown1 hgr1 hat1 hlt1;refine hK.out _ _ ⟨HS.out _ (HG1.out.1),fun _=>trivial⟩ (fun hHeld=>?_);clear hK K;obtain ⟨hS,hE⟩:=hHeld;have hE:=hE (by kernel_rfl)
       (try simp only [Act.put,List.setIfInBounds_toArray])
       refine wpAnyU_ready (rs:=[6]) (by kernel_rfl) (by simp) ?_;refine AllReadyU.cons rfl (fun K hK=>?_) ?_
       rotate_left
       exact AllReadyU.nil
       go_simp
       refine hK.out _ _ ⟨HS.out _ (HG1.out.1.alloc _),fun _=>trivial⟩ (fun hHeld=>?_);clear hK K;obtain ⟨hS,hE⟩:=hHeld;have hE:=hE (by kernel_rfl)
       (try simp only [Act.put,List.setIfInBounds_toArray,List.set_cons_zero,List.set_cons_succ])
       refine wpAnyU_ready (rs:=[7]) (by kernel_rfl) (by simp) ?_;refine AllReadyU.cons rfl (fun K hK=>?_) ?_
       rotate_left
       exact AllReadyU.nil;refine step_append_lies _ (by rfl) (.tmp 58) (.tmp 60) 29 (by rfl) N 56 tt _ 2 32 Tryz.underlying29 HIT.out.1 HIT.out.2.1 HIT.out.2.2.1 HIT.out.2.2.2 (by rfl) (by decide) (.slice ga tl.length gc) tl.length (flatTT tl cs) (by rfl) (HRT.out _ (by repeat (first | exact HG1.out.2.1 | refine Upd.drew ?_ | refine Upd.alloc ?_ _))) ⟨_,0,none⟩ 1 1 [.int .i64 tn,.slice sa sn sc] (by rfl) (by rfl) (World.news_of_block (cs:=#[.int .i64 tn,.slice sa sn sc]) (t:=56) (fr:=(0,0)) (by first | exact heap_alloc_new _ _ | exact (HGR1.out.block _ (heap_lt HXB.out) (HNX.out _ (by omega))).trans HXB.out | exact (HGR1.out.block _ (heap_lt HXC.out) (HNX.out _ (by omega))).trans HXC.out)) HC2.out (by omega) (by unfold maxLen;omega) (by omega) (Nat.le_trans HN3.out (Upd.size (S:=((Value.slice fa fl.length fc).ownBlock.toList++(Value.slice ga tl.length gc).ownBlock.toList)) (w:=w3) (by repeat (first | exact HG1.out.1 | refine Upd.drew ?_ | refine Upd.alloc ?_ _)))) _ (by rfl) ?_
       intro g2 cap2 w6 hown2 hgr2 hat2 hlt2
       have HG2:=Lib.hid (And.intro (Upd.grown (S:=((Value.slice fa fl.length fc).ownBlock.toList++(Value.slice ga tl.length gc).ownBlock.toList)) (w:=w3) (by repeat (first | exact HG1.out.1 | refine Upd.drew ?_ | refine Upd.alloc ?_ _)) hgr2 (fun k hk=>.inl (by simp [hk]))) (And.intro (row_grow (by repeat (first | exact Upd.refl _ _ | refine Upd.drew ?_ | refine Upd.alloc ?_ _)) hgr2 HG1.out.2.2 (fun k hk hq=>ty_ne HG1.out.2.2 (HRT.out _ HG1.out.2.1) (by decide) hk hq)) hown2));clear hown2 hgr2 hat2 hlt2 HGR1 HG1;refine hK.out _ _ ⟨HS.out _ (HG2.out.1),fun _=>trivial⟩ (fun hHeld=>?_);clear hK K;obtain ⟨hS,hE⟩:=hHeld;have hE:=hE (by kernel_rfl)
       (try simp only [Act.put,List.setIfInBounds_toArray])
       refine wpAnyU_takeS (i:=8) (v:=?v5) rfl (by kernel_rfl) (by kernel_rfl) (by kernel_rfl) (by kernel_rfl) (fun _ _ _ h=>h) (Or.inl ⟨by rfl,?hy5⟩) hS (fun _=>hE) ?rest5
       case hy5=>(intro x hSx;(try dsimp only at hSx);go_simp;try with_reducible rfl)
       (try simp only [Act.put])
       refine wpAnyU_takeS (i:=9) (v:=?v6) rfl (by kernel_rfl) (by kernel_rfl) (by kernel_rfl) (by kernel_rfl) (fun _ _ _ h=>h) (Or.inl ⟨by rfl,?hy6⟩) hS (fun _=>hE) ?rest6
       case hy6=>(intro x hSx;(try dsimp only at hSx);go_simp;try with_reducible rfl)
       (try simp only [Act.put])
       refine wpAnyU_done (by kernel_rfl) ?_ _;have HSN:=Lib.hid (HDONE.out _ _ _ _ _ HG2.out.1 HG2.out.2.1 HG2.out.2.2);clear hS hE HG2 HDONE HS HXB HXC HX1A HX1B HX1C HRR HRT;go_wp2_with fail
       go_roundg (vn-(i+1))
       case measure=>omega
       case rel=>exact ⟨i+1,fl++[r],tl++[t],some ⟨g1,0,none⟩,cap1,some ⟨g2,0,none⟩,cap2,rfl,by omega,by simp,by simp,by simp,by simpa using HSN.out⟩
      refine AllReadyU.cons rfl (fun K hK=>?_) ?_
      rotate_left
      exact AllReadyU.nil
      go_simp
      refine hK.out _ _ ⟨HS.out _ (((Upd.refl _ _).drew.alloc _).alloc _),fun _=>trivial⟩ (fun hHeld=>?_);clear hK K;obtain ⟨hS,hE⟩:=hHeld;have hE:=hE (by kernel_rfl)
      (try simp only [Act.put,List.setIfInBounds_toArray,List.set_cons_zero,List.set_cons_succ])
      refine wpAnyU_ready (rs:=[3]) (by kernel_rfl) (by simp) ?_;refine AllReadyU.cons rfl (fun K hK=>?_) ?_
      rotate_left
      exact AllReadyU.nil;refine step_append_lies _ (by rfl) (.tmp 54) (.tmp 56) 28 (by rfl) N 54 tr _ 1 4 Tryz.underlying28 HIR.out.1 HIR.out.2.1 HIR.out.2.2.1 HIR.out.2.2.2 (by rfl) (by decide) (.slice fa fl.length fc) fl.length (flatRefs fl) (by rfl) (HRR.out _ (by repeat (first | exact Upd.refl _ _ | refine Upd.drew ?_ | refine Upd.alloc ?_ _))) ⟨_,0,none⟩ 1 1 [.int .u32 r] (by rfl) (by rfl) (World.news_of_block (cs:=#[.int .u32 r]) (t:=54) (fr:=(0,0)) (by first | exact HX1A.out | exact HX1B.out | exact HX1C.out)) HC1.out (by omega) (by unfold maxLen;omega) (by omega) (Nat.le_trans HN3.out (Upd.size (S:=[]) (w:=w3) (by repeat (first | exact Upd.refl _ _ | refine Upd.drew ?_ | refine Upd.alloc ?_ _)))) _ (by rfl) ?_
      intro g1 cap1 w5 hown1 hgr1 hat1 hlt1
      have HG1:=Lib.hid (And.intro (Upd.grown (S:=((Value.slice fa fl.length fc).ownBlock.toList++(Value.slice ga tl.length gc).ownBlock.toList)) (w:=w3) (by repeat (first | exact Upd.refl _ _ | refine Upd.drew ?_ | refine Upd.alloc ?_ _)) hgr1 (fun k hk=>.inl (by simp [hk]))) (And.intro (Upd.grown (S:=(Value.slice fa fl.length fc).ownBlock.toList) (w:=w3) (by repeat (first | exact Upd.refl _ _ | refine Upd.drew ?_ | refine Upd.alloc ?_ _)) hgr1 (fun k hk=>.inl (by simp [hk]))) hown1));have HGR1:=Lib.hid hgr1;clear hown1 hgr1 hat1 hlt1;refine hK.out _ _ ⟨HS.out _ (HG1.out.1),fun _=>trivial⟩ (fun hHeld=>?_);clear hK K;obtain ⟨hS,hE⟩:=hHeld;have hE:=hE (by kernel_rfl)
      (try simp only [Act.put,List.setIfInBounds_toArray])
      refine wpAnyU_ready (rs:=[7]) (by kernel_rfl) (by simp) ?_;refine AllReadyU.cons rfl (fun K hK=>?_) ?_
      rotate_left
      exact AllReadyU.nil;refine step_append_lies _ (by rfl) (.tmp 58) (.tmp 60) 29 (by rfl) N 56 tt _ 2 32 Tryz.underlying29 HIT.out.1 HIT.out.2.1 HIT.out.2.2.1 HIT.out.2.2.2 (by rfl) (by decide) (.slice ga tl.length gc) tl.length (flatTT tl cs) (by rfl) (HRT.out _ (by repeat (first | exact HG1.out.2.1 | refine Upd.drew ?_ | refine Upd.alloc ?_ _))) ⟨_,0,none⟩ 1 1 [.int .i64 tn,.slice sa sn sc] (by rfl) (by rfl) (World.news_of_block (cs:=#[.int .i64 tn,.slice sa sn sc]) (t:=56) (fr:=(0,0)) (by first | exact heap_alloc_new _ _ | exact (HGR1.out.block _ (heap_lt HXB.out) (HNX.out _ (by omega))).trans HXB.out | exact (HGR1.out.block _ (heap_lt HXC.out) (HNX.out _ (by omega))).trans HXC.out)) HC2.out (by omega) (by unfold maxLen;omega) (by omega) (Nat.le_trans HN3.out (Upd.size (S:=((Value.slice fa fl.length fc).ownBlock.toList++(Value.slice ga tl.length gc).ownBlock.toList)) (w:=w3) (by repeat (first | exact HG1.out.1 | refine Upd.drew ?_ | refine Upd.alloc ?_ _)))) _ (by rfl) ?_
      intro g2 cap2 w6 hown2 hgr2 hat2 hlt2
      have HG2:=Lib.hid (And.intro (Upd.grown (S:=((Value.slice fa fl.length fc).ownBlock.toList++(Value.slice ga tl.length gc).ownBlock.toList)) (w:=w3) (by repeat (first | exact HG1.out.1 | refine Upd.drew ?_ | refine Upd.alloc ?_ _)) hgr2 (fun k hk=>.inl (by simp [hk]))) (And.intro (row_grow (by repeat (first | exact Upd.refl _ _ | refine Upd.drew ?_ | refine Upd.alloc ?_ _)) hgr2 HG1.out.2.2 (fun k hk hq=>ty_ne HG1.out.2.2 (HRT.out _ HG1.out.2.1) (by decide) hk hq)) hown2));clear hown2 hgr2 hat2 hlt2 HGR1 HG1;refine hK.out _ _ ⟨HS.out _ (HG2.out.1),fun _=>trivial⟩ (fun hHeld=>?_);clear hK K;obtain ⟨hS,hE⟩:=hHeld;have hE:=hE (by kernel_rfl)
      (try simp only [Act.put])
      refine wpAnyU_takeS (i:=8) (v:=?v7) rfl (by kernel_rfl) (by kernel_rfl) (by kernel_rfl) (by kernel_rfl) (fun _ _ _ h=>h) (Or.inl ⟨by rfl,?hy7⟩) hS (fun _=>hE) ?rest7
      case hy7=>(intro x hSx;(try dsimp only at hSx);go_simp;try with_reducible rfl)
      (try simp only [Act.put])
      refine wpAnyU_takeS (i:=9) (v:=?v8) rfl (by kernel_rfl) (by kernel_rfl) (by kernel_rfl) (by kernel_rfl) (fun _ _ _ h=>h) (Or.inl ⟨by rfl,?hy8⟩) hS (fun _=>hE) ?rest8
      case hy8=>(intro x hSx;(try dsimp only at hSx);go_simp;try with_reducible rfl)
      (try simp only [Act.put])
      refine wpAnyU_done (by kernel_rfl) ?_ _;have HSN:=Lib.hid (HDONE.out _ _ _ _ _ HG2.out.1 HG2.out.2.1 HG2.out.2.2);clear hS hE HG2 HDONE HS HXB HXC HX1A HX1B HX1C HRR HRT;go_wp2_with fail
      go_roundg (vn-(i+1))
      case measure=>omega
      case rel=>exact ⟨i+1,fl++[r],tl++[t],some ⟨g1,0,none⟩,cap1,some ⟨g2,0,none⟩,cap2,rfl,by omega,by simp,by simp,by simp,by simpa using HSN.out⟩
     refine AllReadyU.cons rfl (fun K hK=>?_) ?_
     rotate_left
     exact AllReadyU.nil
     go_simp
     refine hK.out _ _ ⟨HS.out _ ((Upd.refl _ _).drew.alloc _),fun _=>trivial⟩ (fun hHeld=>?_);clear hK K;obtain ⟨hS,hE⟩:=hHeld;have hE:=hE (by kernel_rfl)
     (try simp only [Act.put,List.setIfInBounds_toArray,List.set_cons_zero,List.set_cons_succ])
     refine wpAnyU_ready (rs:=[2]) (by kernel_rfl) (by simp) ?_;refine AllReadyU.cons rfl (fun K hK=>?_) ?_
     rotate_left
     exact AllReadyU.nil
     go_simp
     refine hK.out _ _ ⟨HS.out _ (((Upd.refl _ _).drew.alloc _).alloc _),fun _=>trivial⟩ (fun hHeld=>?_);clear hK K;obtain ⟨hS,hE⟩:=hHeld;have hE:=hE (by kernel_rfl)
     (try simp only [Act.put,List.setIfInBounds_toArray,List.set_cons_zero,List.set_cons_succ])
     refine wpAnyU_ready (rs:=[3]) (by kernel_rfl) (by simp) ?_;refine AllReadyU.cons rfl (fun K hK=>?_) ?_
     rotate_left
     exact AllReadyU.nil;refine step_append_lies _ (by rfl) (.tmp 54) (.tmp 56) 28 (by rfl) N 54 tr _ 1 4 Tryz.underlying28 HIR.out.1 HIR.out.2.1 HIR.out.2.2.1 HIR.out.2.2.2 (by rfl) (by decide) (.slice fa fl.length fc) fl.length (flatRefs fl) (by rfl) (HRR.out _ (by repeat (first | exact Upd.refl _ _ | refine Upd.drew ?_ | refine Upd.alloc ?_ _))) ⟨_,0,none⟩ 1 1 [.int .u32 r] (by rfl) (by rfl) (World.news_of_block (cs:=#[.int .u32 r]) (t:=54) (fr:=(0,0)) (by first | exact HX1A.out | exact HX1B.out | exact HX1C.out)) HC1.out (by omega) (by unfold maxLen;omega) (by omega) (Nat.le_trans HN3.out (Upd.size (S:=[]) (w:=w3) (by repeat (first | exact Upd.refl _ _ | refine Upd.drew ?_ | refine Upd.alloc ?_ _)))) _ (by rfl) ?_
     intro g1 cap1 w5 hown1 hgr1 hat1 hlt1
     have HG1:=Lib.hid (And.intro (Upd.grown (S:=((Value.slice fa fl.length fc).ownBlock.toList++(Value.slice ga tl.length gc).ownBlock.toList)) (w:=w3) (by repeat (first | exact Upd.refl _ _ | refine Upd.drew ?_ | refine Upd.alloc ?_ _)) hgr1 (fun k hk=>.inl (by simp [hk]))) (And.intro (Upd.grown (S:=(Value.slice fa fl.length fc).ownBlock.toList) (w:=w3) (by repeat (first | exact Upd.refl _ _ | refine Upd.drew ?_ | refine Upd.alloc ?_ _)) hgr1 (fun k hk=>.inl (by simp [hk]))) hown1));have HGR1:=Lib.hid hgr1;clear hown1 hgr1 hat1 hlt1;refine hK.out _ _ ⟨HS.out _ (HG1.out.1),fun _=>trivial⟩ (fun hHeld=>?_);clear hK K;obtain ⟨hS,hE⟩:=hHeld;have hE:=hE (by kernel_rfl)
     (try simp only [Act.put,List.setIfInBounds_toArray])
     refine wpAnyU_ready (rs:=[7]) (by kernel_rfl) (by simp) ?_;refine AllReadyU.cons rfl (fun K hK=>?_) ?_
     rotate_left
     exact AllReadyU.nil;refine step_append_lies _ (by rfl) (.tmp 58) (.tmp 60) 29 (by rfl) N 56 tt _ 2 32 Tryz.underlying29 HIT.out.1 HIT.out.2.1 HIT.out.2.2.1 HIT.out.2.2.2 (by rfl) (by decide) (.slice ga tl.length gc) tl.length (flatTT tl cs) (by rfl) (HRT.out _ (by repeat (first | exact HG1.out.2.1 | refine Upd.drew ?_ | refine Upd.alloc ?_ _))) ⟨_,0,none⟩ 1 1 [.int .i64 tn,.slice sa sn sc] (by rfl) (by rfl) (World.news_of_block (cs:=#[.int .i64 tn,.slice sa sn sc]) (t:=56) (fr:=(0,0)) (by first | exact heap_alloc_new _ _ | exact (HGR1.out.block _ (heap_lt HXB.out) (HNX.out _ (by omega))).trans HXB.out | exact (HGR1.out.block _ (heap_lt HXC.out) (HNX.out _ (by omega))).trans HXC.out)) HC2.out (by omega) (by unfold maxLen;omega) (by omega) (Nat.le_trans HN3.out (Upd.size (S:=((Value.slice fa fl.length fc).ownBlock.toList++(Value.slice ga tl.length gc).ownBlock.toList)) (w:=w3) (by repeat (first | exact HG1.out.1 | refine Upd.drew ?_ | refine Upd.alloc ?_ _)))) _ (by rfl) ?_
     intro g2 cap2 w6 hown2 hgr2 hat2 hlt2
     have HG2:=Lib.hid (And.intro (Upd.grown (S:=((Value.slice fa fl.length fc).ownBlock.toList++(Value.slice ga tl.length gc).ownBlock.toList)) (w:=w3) (by repeat (first | exact HG1.out.1 | refine Upd.drew ?_ | refine Upd.alloc ?_ _)) hgr2 (fun k hk=>.inl (by simp [hk]))) (And.intro (row_grow (by repeat (first | exact Upd.refl _ _ | refine Upd.drew ?_ | refine Upd.alloc ?_ _)) hgr2 HG1.out.2.2 (fun k hk hq=>ty_ne HG1.out.2.2 (HRT.out _ HG1.out.2.1) (by decide) hk hq)) hown2));clear hown2 hgr2 hat2 hlt2 HGR1 HG1;refine hK.out _ _ ⟨HS.out _ (HG2.out.1),fun _=>trivial⟩ (fun hHeld=>?_);clear hK K;obtain ⟨hS,hE⟩:=hHeld;have hE:=hE (by kernel_rfl)
     (try simp only [Act.put])
     refine wpAnyU_takeS (i:=8) (v:=?v9) rfl (by kernel_rfl) (by kernel_rfl) (by kernel_rfl) (by kernel_rfl) (fun _ _ _ h=>h) (Or.inl ⟨by rfl,?hy9⟩) hS (fun _=>hE) ?rest9
     case hy9=>(intro x hSx;(try dsimp only at hSx);go_simp;try with_reducible rfl)
     (try simp only [Act.put])
     refine wpAnyU_takeS (i:=9) (v:=?v10) rfl (by kernel_rfl) (by kernel_rfl) (by kernel_rfl) (by kernel_rfl) (fun _ _ _ h=>h) (Or.inl ⟨by rfl,?hy10⟩) hS (fun _=>hE) ?rest10
     case hy10=>(intro x hSx;(try dsimp only at hSx);go_simp;try with_reducible rfl)
     (try simp only [Act.put])
     refine wpAnyU_done (by kernel_rfl) ?_ _;have HSN:=Lib.hid (HDONE.out _ _ _ _ _ HG2.out.1 HG2.out.2.1 HG2.out.2.2);clear hS hE HG2 HDONE HS HXB HXC HX1A HX1B HX1C HRR HRT;go_wp2_with fail
     go_roundg (vn-(i+1))
     case measure=>omega
     case rel=>exact ⟨i+1,fl++[r],tl++[t],some ⟨g1,0,none⟩,cap1,some ⟨g2,0,none⟩,cap2,rfl,by omega,by simp,by simp,by simp,by simpa using HSN.out⟩
    ·have hi8:¬ (i:Int)<8:=by omega
     have hd8:decide ((i:Int)<8)=false:=decide_eq_false hi8;have HSN:=Lib.hid (HK3.out.keep0 (Upd.refl _ _) (Nat.le_succ i));rw [<- hw3] at HSN;clear hQ hjr hjt hti hu htv hbx hu3 hw3 hti3 hok hlv hnm d0 d1 d2 d3 hcr;go_wp2_with fail
     go_roundg (vn-(i+1))
     case measure=>omega
     case rel=>exact ⟨i+1,fl,tl,fa,fc,ga,gc,rfl,by omega,rfl,rfl,by simp,HSN.out⟩
   ·have hlv2:M.isLive t=false:=by simpa using hlv
    rw [hlv2];have HSN:=Lib.hid (HK3.out.keep0 (Upd.refl _ _) (Nat.le_succ i));rw [<- hw3] at HSN;clear hQ hjr hjt hti hu htv hbx hu3 hw3 hti3 hok hlv hlv2 d0 d1 d2 d3 hcr;go_wp2_with fail
    go_roundg (vn-(i+1))
    case measure=>omega
    case rel=>exact ⟨i+1,fl,tl,fa,fc,ga,gc,rfl,by omega,rfl,rfl,by simp,HSN.out⟩
  ·obtain rfl:i=vn:=by omega
   have hil:¬ (i:Int)<(i:Int):=by omega
   have HLEN:=Lib.hid hlen;have hR1:wr.ownsRow N 54 1 (.slice fa fl.length fc) fl.length (flatRefs fl):=hS.pl.rr;obtain ⟨tr,hr0,hr1,hr2,hr3⟩:=info_parts Tryz.infoRefS;have HIR:=Lib.hid (And.intro hr0 (And.intro hr1 (And.intro hr2 hr3)));have HR1:=Lib.hid hR1;have HS0:=Lib.hid hS
   have hNs:N<=wr.heap.size:=by rw [<- HNZ.out.1];exact hup.size
   have HUR:=Lib.hid hup
   have hbs:N<=(wr.alloc (.cells #[.int .u32 77,.int .u32 78] 54 (0,0))).heap.size:=by rw [World.size_alloc];omega
   have HC1:Hid (∀ u,u∈[Value.int .u32 77,Value.int .u32 78]->u.oneCell'=true):=by intro u hu;simp at hu;rcases hu with rfl | rfl <;> rfl
   clear hS hup hR1 hr0 hr1 hr2 hr3 hlen
   go_wp2_with (at_builtin;go_must (refine wpList_append_lies _ rfl (.tmp 65) (.tmp 66) 28 rfl N 54 tr _ 1 4 Tryz.underlying28 HIR.out.1 HIR.out.2.1 HIR.out.2.2.1 HIR.out.2.2.2 (by rfl) (by decide) _ fl.length (flatRefs fl) rfl (HR1.out.alloc _) ⟨wr.heap.size,0,none⟩ 2 2 [.int .u32 77,.int .u32 78] rfl rfl ?c1 HC1.out (by omega) (by unfold maxLen;omega) (by omega) hbs _ rfl ?_))
   try case c1=>exact World.news_of_block (heap_alloc_new wr (.cells #[.int .u32 77,.int .u32 78] 54 (0,0)))
   intro g1 cap1 w5 hown hgr hat hlt5
   have hu5:Upd (Value.slice fa fl.length fc).ownBlock.toList wr w5:=((Upd.refl _ wr).alloc _).grown hgr fun k hk=>.inl (by simp [hk])
   have hN1:N<=g1:=(hown.lt g1 rfl).1
   have HU5:Hid (Upd [] wB w5):=HUR.out.then hu5 fun k hk=>.inr (by rw [HNZ.out.1];exact (HR1.out.lt k (by simpa using hk)).1)
   have HT5:Hid (TLs w5 N Z (.slice ga tl.length gc) tl):=HS0.out.pl.tt.foreign hu5 fun k hk=>by
    obtain ⟨cs,fr,h1⟩:=row_type HR1.out (by simpa using hk);exact ⟨cs,_,fr,h1,by decide,by decide⟩
   have HF5:=Lib.hid hown
   have hN5:N<=w5.heap.size:=by rw [<- HNZ.out.1];exact HU5.out.size
   have HG5:Hid (g1<w5.heap.size):=hlt5;have HE5:Hid ((w5.alloc (.cells #[] 54 (0,0))).ownsRow N 54 1 (.slice (some ⟨w5.heap.size,0,none⟩) 0 0) 0 []):=⟨rfl,.inr ⟨w5.heap.size,0,#[],rfl,hN5,heap_alloc_new _ _,Nat.le_refl _,by unfold maxLen;omega,rfl,rfl⟩⟩
   have HC5:Hid (∀ u,u∈flatRefs fl++[Value.int .u32 77,Value.int .u32 78]->u.oneCell'=true):=by
    intro u hu
    rcases List.mem_append.1 hu with h | h
    ·unfold flatRefs at h
     obtain ⟨x,_,rfl⟩:=List.mem_map.1 h;rfl
    ·simp at h;rcases h with rfl | rfl <;> rfl
   have HL5:Hid ((flatRefs fl++[Value.int .u32 77,Value.int .u32 78]).length=(fl.length+2)*1):=by show _=_;rw [List.length_append];simp [flatRefs]
   have HCL5:Hid (∀ j u,(flatRefs fl++[Value.int .u32 77,Value.int .u32 78])[j]?=some u->(w5.alloc (.cells #[] 54 (0,0))).cell? ((⟨g1,0,none⟩ : Addr).add j)=some u):=fun j u hj=>by
    have:=row_cell (HF5.out.alloc (.cells #[] 54 (0,0))) hj
    have e:((⟨g1,0,none⟩ : Addr).add j)=⟨g1,j,none⟩:=by cases j <;> simp [Addr.add]
    rw [e];exact this
   have hbs5:N<=(w5.alloc (.cells #[] 54 (0,0))).heap.size:=by rw [World.size_alloc];omega
   clear hown hgr hat hlt5 hu5 hbs hNs
   go_wp2_with (at_builtin;go_must (refine wpList_append_lies _ rfl (.tmp 68) (.tmp 69) 28 rfl N 54 tr _ 1 4 Tryz.underlying28 HIR.out.1 HIR.out.2.1 HIR.out.2.2.1 HIR.out.2.2.2 (by rfl) (by decide) _ 0 [] rfl HE5.out ⟨g1,0,none⟩ (fl.length+2) cap1 (flatRefs fl++[.int .u32 77,.int .u32 78]) rfl HL5.out HCL5.out HC5.out (by omega) (by unfold maxLen;omega) (by omega) hbs5 _ rfl ?_))
   intro g2 cap2 w6 hown hgr hat hlt6
   have hu6:Upd [] w5 w6:=((Upd.refl [] w5).alloc _).grown hgr fun k hk=>.inr (by simp [Value.ownBlock] at hk;omega)
   have hne:g1≠g2:=by
    have:=HG5.out
    rcases hat with h | h
    ·simp [Value.ownBlock] at h;omega
    ·omega
   have HU6:=Lib.hid (HU5.out.trans hu6);have HT6:=Lib.hid (HT5.out.keep0 hu6)
   have HF6:Hid (w6.ownsRow N 54 1 (.slice (some ⟨g1,0,none⟩) (fl.length+2) cap1) (fl.length+2) (flatRefs fl++[.int .u32 77,.int .u32 78])):=row_keep HF5.out fun k hk=>hu6.block k (HF5.out.lt k hk).2 (by simp)
   have HW6:Hid (w6.ownsRow N 54 1 (.slice (some ⟨g2,0,none⟩) (fl.length+2) cap2) (fl.length+2) (flatRefs fl++[.int .u32 77,.int .u32 78])):=hown;have HNE:=Lib.hid hne;have hbo:=heap_alloc_new w6 (.cells #[.int .i64 9,.int .i64 0,.int .i64 0,.int .i64 0,.int .u8 0,.slice none 0 0,.bool false] 60 (0,0));have o0:=cell_at (j:=0) hbo rfl;have fo0:=frozen_at 0 hbo;clear hown hgr hat hu6 hbs5 hne hbo;go_upto_if 72 with fail
   go_cut [] from 73 to 73 (fun wx=>wx.heap[w6.heap.size]?=some (.cells #[.int .i64 (if or then 10 else 9),.int .i64 0,.int .i64 0,.int .i64 0,.int .u8 0,.slice none 0 0,.bool false] 60 (0,0))/\Upd [] w6 wx)
   case first =>
    cases or with
    | false =>
     go_wp2_with fail;go_meet;exact ⟨heap_alloc_new _ _,(Upd.refl _ _).alloc _⟩
    | true =>
     go_wp2_with fail;go_meet;exact ⟨heap_alloc_new _ _,(Upd.refl _ _).alloc _⟩
   case rest =>
    obtain ⟨hbo,hu7⟩:=hcut;obtain ⟨w7,hw7⟩ : ∃ w7,wc=w7:=⟨_,rfl⟩;rw [hw7] at hbo hu7 ⊢;clear hw7 o0 fo0
    have hzF:∀ k,k∈F++p.all m->k<N:=fun k hk=>HZ.out k (by rw [<- HNZ.out.2];exact hk)
    have hg1:N<=g1:=(HF6.out.lt g1 rfl).1;have hg2:N<=g2:=(HW6.out.lt g2 rfl).1
    have hO:N<=w6.heap.size:=by rw [<- HNZ.out.1];exact HU6.out.size
    have hg1s:g1<w6.heap.size:=(HF6.out.lt g1 rfl).2;have hg2s:g2<w6.heap.size:=(HW6.out.lt g2 rfl).2;have HU7:=Lib.hid (HU6.out.trans hu7);have HL7:=Lib.hid (HL.out.keep0 HU7.out);have HT7:=Lib.hid (HT6.out.keep0 hu7)
    have HF7:Hid (w7.ownsRow N 54 1 (.slice (some ⟨g1,0,none⟩) (fl.length+2) cap1) (fl.length+2) (flatRefs fl++[.int .u32 77,.int .u32 78])):=row_keep HF6.out fun k hk=>hu7.block k (HF6.out.lt k hk).2 (by simp)
    have HW7:Hid (w7.ownsRow N 54 1 (.slice (some ⟨g2,0,none⟩) (fl.length+2) cap2) (fl.length+2) (flatRefs fl++[.int .u32 77,.int .u32 78])):=row_keep HW6.out fun k hk=>hu7.block k (HW6.out.lt k hk).2 (by simp)
    have hcap:((fl.length:Nat):Int)<=(cap1:Int):=by
     obtain ⟨_,(⟨e,_⟩ | ⟨_,cp,_,e,_,_,h1,_⟩)⟩:=HF6.out
     ·simp at e
     ·simp at e;omega
    have hFC:w7.ownsRow N 54 1 (.slice (some ⟨g1,0,none⟩) fl.length cap1) fl.length (flatRefs fl):=by
     have h:=row_take HF7.out (m:=fl.length) (by omega)
     have e:(flatRefs fl++[Value.int .u32 77,Value.int .u32 78]).take (fl.length*1)=flatRefs fl:=by
      rw [Nat.mul_one,show fl.length=(flatRefs fl).length by simp [flatRefs]];exact List.take_left
     rw [e] at h;exact h
    have HFC:=Lib.hid hFC;have HHZ:=Lib.hid (And.intro hzF (And.intro hg1 (And.intro hg2 (And.intro hO (And.intro hg1s hg2s)))));have HS7:=Lib.hid (And.intro HS0.out.nm (And.intro HS0.out.tk HLEN.out));obtain ⟨kd,hkd⟩ : ∃ kd:Int,(if or then 10 else 9)=kd:=⟨_,rfl⟩;rw [hkd] at hbo;have HBO:=Lib.hid (And.intro hbo hu7)
    obtain ⟨op,s,hops⟩ : ∃ (op:Nat) (s:Bool),(kd=9/\op=8/\s=true)\/(kd=10/\op=14/\s=false):=by
     cases or
     ·exact ⟨8,true,.inl ⟨hkd.symm,rfl,rfl⟩⟩
     ·exact ⟨14,false,.inr ⟨hkd.symm,rfl,rfl⟩⟩
    have HOPS:=Lib.hid hops;have hvr:M.n=K.vars:=HLG.out.1.agr.same.n
    have HCALL:Hid (∀ z,Upd [] w7 z->Calls Tryz.prog 27 #[.pointer (some ⟨b,0,none⟩),.agg #[.int .i64 kd,.int .i64 0,.int .i64 0,.int .i64 0,.int .u8 0,.slice none 0 0,.bool false],.int .u32 0,.int .u32 0,.int .u32 0,.slice (some ⟨g1,0,none⟩) fl.length cap1] z fun e w'=>∃ (r:Nat) (c:Int),e=.returned (.tuple #[.int .u32 r,.int .i64 c])/\FoldR w7 b op K F M tl s r c w'):=fun z uz=>by
     have h5:=HLG.out.2.2.2.2.2
     rcases HOPS.out with ⟨rfl,rfl,rfl⟩ | ⟨rfl,rfl,rfl⟩
     ·refine call_all b 0 0 0 0 none 0 0 false 0 0 0 _ z _ fun y uy=>(all_km b N _ fl tl K F M y (HL7.out.mem.ker.upd (uz.trans uy) (by simp)) HLG.out.2.2.1 (row_keep HFC.out fun k hk=>(uz.trans uy).block k (HFC.out.lt k hk).2 (by simp)) (fun k hk hm=>?_) HS7.out.2.2 (by omega) HS7.out.1 (fun t ht=>(HS7.out.2.1 t ht).1) (by omega)).mono ?_
      ·simp [Value.ownBlock] at hk;subst hk;have:=HHZ.out.1 g1 (List.mem_append.2 (.inl hm));have:=HHZ.out.2.1;omega
      ·rintro e w' hP
       obtain ⟨r,c,rfl,hS⟩:=hP.ex;exact ⟨r,c,rfl,hS.sum.pre (uz.trans uy)⟩
     ·refine call_any b 0 0 0 0 none 0 0 false 0 0 0 _ z _ fun y uy=>(any_km b N _ fl tl K F M y (HL7.out.mem.ker.upd (uz.trans uy) (by simp)) HLG.out.2.2.1 (row_keep HFC.out fun k hk=>(uz.trans uy).block k (HFC.out.lt k hk).2 (by simp)) (fun k hk hm=>?_) HS7.out.2.2 (by omega) HS7.out.1 (fun t ht=>(HS7.out.2.1 t ht).1) (by omega)).mono ?_
      ·simp [Value.ownBlock] at hk;subst hk;have:=HHZ.out.1 g1 (List.mem_append.2 (.inl hm));have:=HHZ.out.2.1;omega
      ·rintro e w' hP
       obtain ⟨r,c,rfl,hS⟩:=hP.ex;exact ⟨r,c,rfl,hS.sum.pre (uz.trans uy)⟩
    obtain ⟨O,hO2⟩ : ∃ O,w6.heap.size=O:=⟨_,rfl⟩;rw [hO2] at HBO HHZ ⊢;have HO2:=Lib.hid hO2
    have HK19:Hid (∀ x,Upd F w7 x->x.cell? ⟨a,0,none⟩=some (.pointer (some ⟨b,0,none⟩))/\x.cell? ⟨O,0,none⟩=some (.int .i64 kd)/\x.cell? ⟨O,1,none⟩=some (.int .i64 0)/\x.cell? ⟨O,2,none⟩=some (.int .i64 0)/\x.cell? ⟨O,3,none⟩=some (.int .i64 0)/\x.cell? ⟨O,4,none⟩=some (.int .u8 0)/\x.cell? ⟨O,5,none⟩=some (.slice none 0 0)/\x.cell? ⟨O,6,none⟩=some (.bool false)):=fun x u=>by
     have hb:x.heap[O]?=_:=(u.block O (heap_lt HBO.out.1) fun hm=>by have:=HHZ.out.1 O (List.mem_append.2 (.inl hm));have:=HHZ.out.2.2.2.1;omega).trans HBO.out.1;obtain ⟨c0,_,_,_⟩:=HL7.out.cells;exact ⟨(u.cell (World.block_lt_of_cell? _ _ c0) HL7.out.na.1).trans c0,cell_at hb rfl,cell_at hb rfl,cell_at hb rfl,cell_at hb rfl,cell_at hb rfl,cell_at hb rfl,cell_at hb rfl⟩
    clear hbo hu7 hzF hg1 hg2 hO hg1s hg2s hFC hkd hops hvr hO2;go_upto_region 19 with fail
    go_cut [19,20] from 74 to 83 (fun s19 s20 wx=>∃ (r:Nat) (c:Int),s19=.int .u32 r/\s20=.int .i64 c/\FoldR w7 b op K F M tl s r c wx)
    case first =>
     go_region_held3 (fun x=>x.cell? ⟨a,0,none⟩=some (.pointer (some ⟨b,0,none⟩))/\x.cell? ⟨O,0,none⟩=some (.int .i64 kd)/\x.cell? ⟨O,1,none⟩=some (.int .i64 0)/\x.cell? ⟨O,2,none⟩=some (.int .i64 0)/\x.cell? ⟨O,3,none⟩=some (.int .i64 0)/\x.cell? ⟨O,4,none⟩=some (.int .u8 0)/\x.cell? ⟨O,5,none⟩=some (.slice none 0 0)/\x.cell? ⟨O,6,none⟩=some (.bool false)) (first | exact HK19.out _ (Upd.refl _ _).drew | exact HK19.out _ HO1.out) (first
      | (go_at_call 27;refine (HCALL.out _ (Upd.refl _ _).drew).mono ?_;rintro e w8 ⟨r,c,rfl,hP⟩;have HP8:=Lib.hid hP;have HO1:Hid (Upd F w7 w8):=(by obtain ⟨_,_,_,_,_,_,h,_⟩:=hP.ex;exact h);clear hP))
     all_goals go_wp2_with fail
     all_goals go_meet
     all_goals exact ⟨r,c,rfl,rfl,HP8.out⟩
    case rest =>
     obtain ⟨r,c,rfl,rfl,hR⟩:=hcut;obtain ⟨w8,hw8⟩ : ∃ w8,wc=w8:=⟨_,rfl⟩;rw [hw8] at hR ⊢;clear hw8;obtain ⟨K',F',r1,r2,r3,r4,r5,r6,r7,r8,r9⟩:=hR.ex;obtain ⟨hL8,hF8⟩:=HL7.out.kernel r1 r5 r6;have HL8:=Lib.hid hL8;have HF8:=Lib.hid hF8;have HSF:=Lib.hid r6;have HNM:=Lib.hid r9;have HLG8:=Lib.hid (HLG.out.1.of_km HLG.out.2.1 HL7.out.mem.ker.ok r4 r2);have HKM8:=Lib.hid (And.intro r2 (And.intro r3 (And.intro r1.ok (And.intro r1.uni r9))));have HEC:=Lib.hid r7;have hvr:M.n=K.vars:=HLG.out.1.agr.same.n;have hvr2:=r4.vr;have HVR:=Lib.hid (And.intro hvr hvr2);have HUP8:=Lib.hid r5
     have hT8:TLs w8 N (F'++p.all m) (.slice ga tl.length gc) tl:=by
      have h:=HT7.out;rw [<- HNZ.out.2] at h
      refine ((h.apart (Z':=F++(F'++p.all m)) fun k hk=>?_).keep r5 fun k hk=>.inl (List.mem_append.2 (.inl hk))).apart fun k hk=>.inl (List.mem_append.2 (.inr hk))
      rcases List.mem_append.1 hk with hk | hk
      ·exact .inl (List.mem_append.2 (.inl hk))
      ·rcases List.mem_append.1 hk with hk | hk
       ·exact (r6 k hk).imp (fun h=>List.mem_append.2 (.inl h)) id
       ·exact .inl (List.mem_append.2 (.inr hk))
     have HT8:=Lib.hid hT8;have HAC:=Lib.hid (HLG.out.2.2.1.ansC HL7.out.mem.ker.ok HL7.out.mem.ker.uni s);have HCN:=Lib.hid (HLG.out.2.2.1.cnt HL7.out.mem.ker.ok);have h5:=HLG.out.2.2.2.2.2
     have htl5:tl.length<=1000:=by rw [<- HLEN.out];omega
     obtain ⟨rest,hrest⟩:=HLG.out.1.t2
     have hyl:(0:Int)<(tabs.length:Int):=by rw [hrest];simp;omega
     obtain ⟨TL,hTL⟩ : ∃ TL,tabs.length=TL:=⟨_,rfl⟩;rw [hTL] at hyl
     have hyl2:0<TL:=by omega
     have ht0:tabs[0]?=some (constT K.vars false):=by rw [hrest];rfl
     clear hrest;obtain ⟨yg,rfl⟩:=HYG.out;obtain ⟨d0,hd0,hd1,hd2⟩:=HL8.out.mem.tt.at_ ht0;obtain ⟨da,dc,rfl,_⟩:=row_nil_len hd2.row;obtain ⟨tn0,htn0⟩ : ∃ tn0,(constT K.vars false).n=tn0:=⟨_,rfl⟩;obtain ⟨tl0,htl0⟩ : ∃ tl0,(constT K.vars false).ws.length=tl0:=⟨_,rfl⟩;rw [htn0] at hd0;rw [htl0] at hd1
     have HK20:Hid (∀ x,Upd (p.all m) w8 x->(x.cell? ⟨a,1,none⟩=some (.pointer (some ⟨m,0,none⟩))/\x.cell? ⟨a,3,none⟩=some (.slice (some ⟨yg,0,none⟩) TL yc)/\x.cell? ⟨yg,0,none⟩=some (.int .i64 tn0)/\x.cell? ⟨yg,1,none⟩=some (.slice da tl0 dc))/\x.cell? ⟨O,0,none⟩=some (.int .i64 kd)/\x.cell? ⟨O,1,none⟩=some (.int .i64 0)/\x.cell? ⟨O,2,none⟩=some (.int .i64 0)/\x.cell? ⟨O,3,none⟩=some (.int .i64 0)/\x.cell? ⟨O,4,none⟩=some (.int .u8 0)/\x.cell? ⟨O,5,none⟩=some (.slice none 0 0)/\x.cell? ⟨O,6,none⟩=some (.bool false)):=fun x u=>by
      obtain ⟨_,q0,q1,q2,q3,q4,q5,q6⟩:=HK19.out w8 HUP8.out
      have nO:O∉p.all m:=fun hm=>by have:=HHZ.out.1 O (List.mem_append.2 (.inr hm));have:=HHZ.out.2.2.2.1;omega
      have nY:yg∉p.all m:=fun hm=>HL8.out.mem.tt.fr yg rfl (List.mem_append.2 (.inr hm))
      obtain ⟨_,c1,_,c3⟩:=HL8.out.cells;rw [hTL] at c3
      have kp:∀ {k j:Nat} {v:Value},k∉p.all m->w8.cell? ⟨k,j,none⟩=some v->x.cell? ⟨k,j,none⟩=some v:=fun hk hv=>(u.cell (World.block_lt_of_cell? _ _ hv) hk).trans hv
      exact ⟨⟨kp HL8.out.na.2 c1,kp HL8.out.na.2 c3,kp nY hd0,kp nY hd1⟩,kp nO q0,kp nO q1,kp nO q2,kp nO q3,kp nO q4,kp nO q5,kp nO q6⟩
     have HPZ:Hid (∀ k,k∈p.all m->k<w8.heap.size):=fun k hk=>HL8.out.mem.z k (List.mem_append.2 (.inr hk))
     have HDOC:Hid (∀ z,Upd [] w8 z->Calls Tryz.prog 28 #[.pointer (some ⟨m,0,none⟩),.agg #[.int .i64 kd,.int .i64 0,.int .i64 0,.int .i64 0,.int .u8 0,.slice none 0 0,.bool false],.agg #[.int .i64 tn0,.slice da tl0 dc],.agg #[.int .i64 tn0,.slice da tl0 dc],.agg #[.int .i64 tn0,.slice da tl0 dc],.slice ga tl.length gc] z fun e w'=>RfdQ m op M p (F'++p.all m) (constT K.vars s) tl z e w'):=fun z uz=>by
      have hs:=HL8.out.mem
      rcases HOPS.out with ⟨rfl,rfl,rfl⟩ | ⟨rfl,rfl,rfl⟩
      ·have h0:=HAC.out
       rw [HVR.out.1] at h0
       refine doc_all m M p (F'++p.all m) _ tl 0 0 0 0 none 0 0 false _ _ _ _ _ _ _ _ _ _ _ _ _ z (fun k hk=>Nat.lt_of_lt_of_le (HPZ.out k hk) uz.size) fun y uy=>?_
       rw [<- HVR.out.1];exact rdall_spec m N M p (F'++p.all m) _ tl y (hs.mod.keep0 (uz.trans uy)) (fun k hk=>Nat.lt_of_lt_of_le (hs.z k hk) (uz.trans uy).size) HLG.out.1.fit HCN.out HAC.out.1 HAC.out.2 (HT8.out.keep0 (uz.trans uy)) htl5 (fun t ht=>(HS7.out.2.1 t ht).2) (fun t ht=>(HS7.out.2.1 t ht).1.trans HVR.out.1.symm) (by omega)
      ·refine doc_any m M p (F'++p.all m) _ tl 0 0 0 0 none 0 0 false _ _ _ _ _ _ _ _ _ _ _ _ _ z (fun k hk=>Nat.lt_of_lt_of_le (HPZ.out k hk) uz.size) fun y uy=>?_
       rw [<- HVR.out.1];exact rdany_spec m N M p (F'++p.all m) _ tl y (hs.mod.keep0 (uz.trans uy)) (fun k hk=>Nat.lt_of_lt_of_le (hs.z k hk) (uz.trans uy).size) HLG.out.1.fit HCN.out HAC.out.1 HAC.out.2 (HT8.out.keep0 (uz.trans uy)) htl5 (fun t ht=>(HS7.out.2.1 t ht).2) (fun t ht=>(HS7.out.2.1 t ht).1.trans HVR.out.1.symm) (by omega)
     clear hR r1 r2 r3 r4 r5 r6 r7 r8 r9 hL8 hF8 hvr hvr2 hT8 hd0 hd1 hd2 htn0 htl0 ht0 h5 htl5 hTL;obtain ⟨E,hE⟩ : ∃ E,(foldM op { M with trail:=[] } (constT K.vars s) tl).e=E:=⟨_,rfl⟩;have HEE:=Lib.hid hE;clear hE;go_upto_region 20 with fail
     go_cut [21,22] from 84 to 103 (fun s21 s22 wx=>∃ (B:Nat) (tn:Int) (ea:Option Addr) (en ec:Nat) (E:Int),s21=.pointer (some ⟨B,0,none⟩)/\s22=.int .i64 E/\wx.heap[B]?=some (.cells #[.int .i64 tn,.slice ea en ec] 56 (0,0))/\w8.heap.size<=B/\RfdQ m op M p (F'++p.all m) (constT K.vars s) tl w8 (.returned (.tuple #[.agg #[.int .i64 tn,.slice ea en ec],.int .i64 E])) wx)
     case first =>
      go_region_held3 (fun x=>(x.cell? ⟨a,1,none⟩=some (.pointer (some ⟨m,0,none⟩))/\x.cell? ⟨a,3,none⟩=some (.slice (some ⟨yg,0,none⟩) TL yc)/\x.cell? ⟨yg,0,none⟩=some (.int .i64 tn0)/\x.cell? ⟨yg,1,none⟩=some (.slice da tl0 dc))/\x.cell? ⟨O,0,none⟩=some (.int .i64 kd)/\x.cell? ⟨O,1,none⟩=some (.int .i64 0)/\x.cell? ⟨O,2,none⟩=some (.int .i64 0)/\x.cell? ⟨O,3,none⟩=some (.int .i64 0)/\x.cell? ⟨O,4,none⟩=some (.int .u8 0)/\x.cell? ⟨O,5,none⟩=some (.slice none 0 0)/\x.cell? ⟨O,6,none⟩=some (.bool false)) (first | exact HK20.out _ (Upd.refl _ _).drew | exact HK20.out _ ((Upd.refl _ _).drew.alloc _) | exact HK20.out _ HO1.out | exact HK20.out _ (HO1.out.alloc _) | exact HK20.out _ (HO1.out.setCell (.inr (Nat.le_refl _)) _) | exact HK20.out _ ((HO1.out.setCell (.inr (Nat.le_refl _)) _).setCell (.inr (Nat.le_refl _)) _) | exact HK20.out _ (((HO1.out.alloc _).setCell (.inr HO1.out.size) _).setCell (.inr HO1.out.size) _)) (first
       | (go_at_call 28;refine (HDOC.out _ ((Upd.refl _ _).drew.alloc (.cells #[.int .i64 0,.slice none 0 0] 56 (0,0)))).mono ?_;rintro e w9 hQ;have HO1:=Lib.hid (((Upd.refl (p.all m) w8).drew.alloc (.cells #[.int .i64 0,.slice none 0 0] 56 (0,0))).trans hQ.up);obtain ⟨tn,ea,en,ec,rfl⟩:=hQ.shape;obtain ⟨hb9,hfin⟩:=hQ.wrap (w:=w8) (B:=w8.heap.size) ((Upd.refl _ _).drew.alloc _) (heap_alloc_new _ _) (Nat.le_refl _) HPZ.out;rw [HEE.out] at hfin;rw [HEE.out];have z0:=cell_at (j:=0) hb9 rfl;have z1:=cell_at (j:=1) hb9 rfl;have fz0:=frozen_at 0 hb9;have fz1:=frozen_at 1 hb9;have HB9:=Lib.hid hb9;have HFA:=Lib.hid hfin;clear hQ hb9 hfin)
       | (go_at_call 28;refine (HDOC.out _ (Upd.refl _ _).drew).mono ?_;rintro e w9 hQ;have HO1:=Lib.hid ((Upd.refl (p.all m) w8).drew.trans hQ.up);obtain ⟨tn,ea,en,ec,rfl⟩:=hQ.shape;have hfin:=hQ.pre (w0:=w8) (Upd.refl _ _).drew;rw [HEE.out] at hfin;rw [HEE.out];have HFB:=Lib.hid hfin;clear hQ hfin))
      all_goals go_wp2_with fail
      all_goals go_meet
      all_goals (first
       | exact ⟨_,tn,ea,en,ec,E,rfl,rfl,(by rw [heap_set_eq (heap_set_eq HB9.out _) _];rfl),Nat.le_refl _,HFA.out _ (((Upd.refl _ _).setCell (.inl (by simp)) _).setCell (.inl (by simp)) _)⟩
       | exact ⟨_,tn,ea,en,ec,E,rfl,rfl,heap_alloc_new _ _,HO1.out.size,HFB.out.after ((Upd.refl _ _).alloc _)⟩
       | exact ⟨_,tn,ea,en,ec,E,rfl,rfl,(by rw [heap_set_eq (heap_set_eq (heap_alloc_new _ _) _) _];rfl),HO1.out.size,HFB.out.after ((((Upd.refl _ _).alloc _).setCell (.inr (Nat.le_refl _)) _).setCell (.inr (Nat.le_refl _)) _)⟩)
     case rest =>
      obtain ⟨B,tn,ea,en,ec,E2,rfl,rfl,hbB,hBs,hq⟩:=hcut;obtain ⟨w9,hw9⟩ : ∃ w9,wc=w9:=⟨_,rfl⟩;rw [hw9] at hbB hq ⊢;clear hw9
      have hk8:K'.trail=[]:=by rw [HKM8.out.1.tr];exact HKM8.out.2.1
      obtain ⟨hE2,hREF⟩:=HL8.out.docend hq hk8;have hEE:E2=E:=hE2.trans HEE.out;have hcE:c=E:=HEC.out.trans HEE.out;subst hEE hcE;have HECE:=Lib.hid HEC.out;have HREF:=Lib.hid hREF;have HBB:=Lib.hid (And.intro hbB hBs);clear hbB hBs hq hk8 hE2 hREF;go_wp2_with fail;refine HREF.out.mono ?_;rintro e w10 ⟨rfl,hD⟩;obtain ⟨q,hL10,hF10,hU10,hS10,hyes⟩:=hD.ex;have hst:=hD.st
      have gz:∀ g,N<=g->g<O->g∉F/\g∉p.all m:=fun g h1 h2=>⟨fun hm=>by have:=HHZ.out.1 g (List.mem_append.2 (.inl hm));omega,fun hm=>by have:=HHZ.out.1 g (List.mem_append.2 (.inr hm));omega⟩
      have HF10:Hid (w10.ownsRow N 54 1 (.slice (some ⟨g1,0,none⟩) (fl.length+2) cap1) (fl.length+2) (flatRefs fl++[.int .u32 77,.int .u32 78])):=row_keep HF7.out fun k hk=>by
       obtain ⟨e1,e2⟩:=gz k (HF7.out.lt k hk).1 (by simp [Value.ownBlock] at hk;subst hk;exact HHZ.out.2.2.2.2.1);have h7:=(HF7.out.lt k hk).2;exact (hU10.block k (Nat.lt_of_lt_of_le h7 HUP8.out.size) e2).trans (HUP8.out.block k h7 e1)
      have HW10:Hid (w10.ownsRow N 54 1 (.slice (some ⟨g2,0,none⟩) (fl.length+2) cap2) (fl.length+2) (flatRefs fl++[.int .u32 77,.int .u32 78])):=row_keep HW7.out fun k hk=>by
       obtain ⟨e1,e2⟩:=gz k (HW7.out.lt k hk).1 (by simp [Value.ownBlock] at hk;subst hk;exact HHZ.out.2.2.2.2.2);have h7:=(HW7.out.lt k hk).2;exact (hU10.block k (Nat.lt_of_lt_of_le h7 HUP8.out.size) e2).trans (HUP8.out.block k h7 e1)
      have HB10:Hid (w10.heap[B]?=some (.cells #[.int .i64 tn,.slice ea en ec] 56 (0,0))):=by
       refine (hst.block B (heap_lt HBB.out.1) fun hm=>?_).trans HBB.out.1
       simp at hm
       have:=HPZ.out m (MPtr.mem.2 (.inl rfl));have:=HBB.out.2;omega
      have h7:g1<w7.heap.size:=(HF7.out.lt g1 rfl).2;have hz1:=gz g1 HHZ.out.2.1 HHZ.out.2.2.2.2.1
      have hnew:∀ k,(k=a\/(Value.slice xa refs.length xc).ownBlock=some k\/(Value.slice (some ⟨yg,0,none⟩) tabs.length yc).ownBlock=some k)->k<N:=fun k hk=>by
       rw [<- HNZ.out.1];obtain ⟨ts,hts⟩:=HL.out.mem.tt.row
       rcases hk with rfl | hk | hk
       ·exact heap_lt HL.out.blk
       ·exact (HL.out.mem.rr.lt k hk).2
       ·exact (hts.lt k hk).2
      have HG10:Hid (∀ k,k∈[g1]->k∉F'/\k∉q.all m/\k≠a/\(Value.slice xa refs.length xc).ownBlock≠some k/\(Value.slice (some ⟨yg,0,none⟩) tabs.length yc).ownBlock≠some k/\∃ cs e fr,w10.heap[k]?=some (.cells cs e fr)/\96≠e):=fun k hk=>by
       simp at hk;subst hk
       have hN1:=HHZ.out.2.1;obtain ⟨cs,fr,hc⟩:=row_type HF10.out rfl;refine ⟨fun hm=>?_,fun hm=>?_,fun e=>?_,fun e=>?_,fun e=>?_,cs,_,fr,hc,by decide⟩
       ·rcases HSF.out k hm with h | h
        ·exact hz1.1 h
        ·omega
       ·rcases hS10 k hm with h | h
        ·exact hz1.2 h
        ·have:=HUP8.out.size;omega
       ·have:=hnew k (.inl e);omega
       ·have:=hnew k (.inr (.inl e));omega
       ·have:=hnew k (.inr (.inr e));omega
      have HL10:=Lib.hid hL10;have HFR:Hid (Fro w.heap.size w7 w10):=HF8.out.trans hF10;have HYES:=Lib.hid hyes
      have hNw:w.heap.size<=N:=by rw [<- HNZ.out.1];exact HUB.out.size
      have HNW:=Lib.hid (And.intro hNw HHZ.out.2.1);have HNE12:=HNE;obtain ⟨LL,hLL⟩ : ∃ LL,fl++[77,78]=LL:=⟨_,rfl⟩
      have hfr:flatRefs fl++[Value.int .u32 77,Value.int .u32 78]=flatRefs LL:=by rw [<- hLL];simp [flatRefs]
      have hll:LL.length=fl.length+2:=by rw [<- hLL];simp
      rw [hfr] at HF10 HW10;have HLLL:=Lib.hid hll
      have hfl8:fl.length<=8:=by have:=hle;omega
      clear hD hL10 hF10 hU10 hS10 hyes hst gz h7 hz1 hnew hLL hfr hll hNw;obtain ⟨n2,hn2⟩ : ∃ n2,fl.length+2=n2:=⟨_,rfl⟩
      have hn2':n2<=10:=by omega
      rw [hn2] at HF10 HW10 HLLL ⊢;clear hn2;go_wp2_with fail
      go_loopg [108] n2 (fun gg s108 wr=>∃ (i:Nat) (xs:List Value),n2-i=gg/\i<=n2/\s108=.int .i64 i/\wr.ownsRow N 54 1 (.slice (some ⟨g1,0,none⟩) n2 cap1) n2 xs/\(∀ j,i<=j->xs[j]?=(flatRefs LL)[j]?)/\Upd [g1] w10 wr)
      case atStart=>exact ⟨0,_,by omega,by omega,rfl,HF10.out,fun _ _=>rfl,Upd.refl _ _⟩
      case round =>
       obtain ⟨i,xs,rfl,hi,rfl,hX,hXE,hUX⟩:=hrel
       by_cases hlt:i<n2
       ·obtain ⟨z,hz⟩ : ∃ z,LL[i]?=some z:=⟨_,List.getElem?_eq_getElem (by rw [HLLL.out];exact hlt)⟩
        have hxz:=hXE i (Nat.le_refl i);rw [flatRefs_get hz] at hxz;have x1:=row_cell hX hxz;have f1:=row_frozen hX i;have x2:=row_cell (row_keep HW10.out fun k hk=>hUX.block k (HW10.out.lt k hk).2 (by simp [Value.ownBlock] at hk;subst hk;simp;exact fun e=>HNE12.out e.symm)) (flatRefs_get hz)
        have hil:(i:Int)<(n2:Int):=by omega
        have hp0:(0:Int)<=(i:Int):=by omega
        have HX:=Lib.hid (And.intro hX (And.intro hXE hUX));clear hX hXE hUX hxz hz;go_wp2_with fail
        go_quiet (fail)
        go_wp2_with fail
        go_roundg (n2-(i+1))
        case measure=>omega
        case rel =>
         refine ⟨i+1,_,rfl,by omega,by simp,row_set (w:=wr.drewN _) HX.out.1 (j:=i) (by omega) _,fun j hj=>?_,(HX.out.2.2.drewN _).setCell (p:=⟨g1,i,none⟩) (.inl (by simp)) _⟩;rw [List.getElem?_set_ne (by omega)];exact HX.out.2.1 j (by omega)
       ·obtain rfl:i=n2:=by omega
        have hil:¬ ((i:Int)<(i:Int)):=by omega
        have hLr:=HL10.out.foreign hUX HG10.out;have hFr:=HFR.out.trans (Fro.of (n0:=w.heap.size) hUX fun k hk=>by simp at hk;subst hk;exact Nat.le_trans HNW.out.1 HNW.out.2)
        have hBr:wr.heap[B]?=some (.cells #[.int .i64 tn,.slice ea en ec] 56 (0,0)):=(hUX.block B (heap_lt HB10.out) fun hm=>by
         simp at hm
         subst hm;have h1:=row_type HF10.out rfl;obtain ⟨cs,fr,h1⟩:=h1;rw [HB10.out] at h1
         simp at h1).trans HB10.out
        have b0:=cell_at (j:=0) hBr rfl;have b1:=cell_at (j:=1) hBr rfl;obtain ⟨c0,c1,c2,c3⟩:=hLr.cells;have HE:=Lib.hid (And.intro hLr hFr)
        have HADD:Hid (c=0->Calls Tryz.prog 30 #[.pointer (some ⟨a,0,none⟩),.int .u32 r,.agg #[.int .i64 tn,.slice ea en ec]] wr fun e w'=>AddQ w.heap.size a b m K' F' (foldM op { M with trail:=[] } (constT K.vars s) tl).M q refs tabs r (foldM op { M with trail:=[] } (constT K.vars s) tl).a wr e w'):=fun h0=>by
         obtain ⟨n1,n2',n3⟩:=HNM.out h0;obtain ⟨y1,y2⟩:=HYES.out (HECE.out.symm.trans h0)
         have ht:=y2.foreign hUX fun k hk=>(HG10.out k hk).2.2.2.2.2
         have hv:tabV (foldM op { M with trail:=[] } (constT K.vars s) tl).a (.slice ea en ec)=.agg #[.int .i64 tn,.slice ea en ec]:=by unfold tabV;rw [<- y1]
         rw [<- hv];exact addw_spec _ a b m r _ _ K' F' _ q refs tabs _ _ wr hLr HLG8.out.1 ht (by rw [n3];exact HVR.out.2.symm) n1 (by omega)
        have HSTN:Hid (∀ (rv tv:Value) (rs:List Nat) (ts:List TV) (x:World),LIn x w.heap.size a b m rv tv K' F' (foldM op { M with trail:=[] } (constT K.vars s) tl).M q rs ts->WLog K' (foldM op { M with trail:=[] } (constT K.vars s) tl).M rs ts->Calls Tryz.prog 19 #[.agg #[.pointer (some ⟨b,0,none⟩),.pointer (some ⟨m,0,none⟩),rv,tv]] x fun e w'=>e=.returned (.bool true)/\Upd [] x w'):=fun rv tv rs ts x hl hg =>
         stands_spec b m rv tv K' F' _ q rs ts x (WIn.of hl.mem hg) (by rw [HKM8.out.1.tr]) (by rw [HKM8.out.2.1];simp)
        have HWR:=Lib.hid ((HUB.out.trans HU7.out));clear hX hXE hUX hLr hFr hBr
        by_cases hc0:c=0
        ·have HA0:=Lib.hid (HADD.out hc0)
         have HN0:=Lib.hid (HNM.out hc0);subst hc0;clear HADD HNM HYES HECE HEC HEE;go_wp2_with fail;refine HA0.out.mono ?_;rintro e w11 hA;obtain ⟨rv2,tv2,rfl,hL11,hF11⟩:=hA.ex;obtain ⟨n1,n2',n3⟩:=HN0.out;have hlg11:=HLG8.out.1.more HKM8.out.2.2.1 (by have:=hrl;omega) n1 n2' (by rw [n3];exact HVR.out.2.symm);obtain ⟨d0,d1,d2,d3⟩:=hL11.cells;have hSt:=HSTN.out rv2 tv2 _ _ w11 hL11 hlg11;obtain ⟨ra2,rc2,rfl,_⟩:=row_nil_len hL11.mem.rr;obtain ⟨ta2,tc2,rfl,_⟩:=hL11.mem.tt.form;obtain ⟨l1,hl1⟩ : ∃ l1,(refs++[r]).length=l1:=⟨_,rfl⟩;obtain ⟨l2,hl2⟩ : ∃ l2,(tabs++[(foldM op { M with trail:=[] } (constT K.vars s) tl).a]).length=l2:=⟨_,rfl⟩;rw [hl1] at d2 hSt;rw [hl2] at d3 hSt;have HF11:=Lib.hid (HE.out.2.trans hF11);have HST11:=Lib.hid hSt;clear hA hL11 hF11 n1 n2' n3 hlg11 hSt b0 b1 c0 c1 c2 c3 hl1 hl2;go_wp2_with fail;refine HST11.out.mono ?_;rintro e w12 ⟨rfl,hu⟩;have HF12:=Lib.hid (HF11.out.trans (Fro.of0 hu));clear hu d0 d1 d2 d3;go_wp2_with fail;go_ret;exact ⟨rfl,HF12.out.upd HWR.out (Nat.le_refl _)⟩
        ·have he1:(c == 0)=false:=by simpa using hc0
         have he2:(c != 0)=true:=by simpa using hc0
         have hSt:=HSTN.out _ _ _ _ wr HE.out.1 HLG8.out.1;have HSTr:=Lib.hid hSt;clear hSt hc0 HADD HNM HYES HECE HEC HEE;go_wp2_with fail;refine HSTr.out.mono ?_;rintro e w12 ⟨rfl,hu⟩;have HF12:=Lib.hid (HE.out.2.trans (Fro.of0 hu));clear hu b0 b1 c0 c1 c2 c3;go_wp2_with fail;go_ret;exact ⟨rfl,HF12.out.upd HWR.out (Nat.le_refl _)⟩
end Go.Proofs.YtpfafhmkbcahhaaGreat
