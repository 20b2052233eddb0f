import Derived.Test.YtlkgkojidclncaaGreatTD26
set_option maxRecDepth 100000
set_option maxHeartbeats 6400000
namespace Go.Proofs.YtlkgkojidclncaaGreat
open Go.RowKit Go.Maps Go.ChangeMaps Go.WideShapes
theorem step_append_src {P:Program} {w:World} {ops:Array Oper} {o:Oper} {a:Act} {K:Act->World->Prop} {Q:Exit->Act->World->Prop} {E:Prop} (hgd:o.guard=none) (s x:Operand) (t:TypeId)
  (ho:o.op=.call { callee:=.builtin .append,args:=#[s,x],argTypes:=#[t,t] })
  (base:Nat) (e:TypeId) (i:TypeInfo) (z:Value) (size bytes:Nat) (ht:P.underlying t=some (.slice e)) (hi:P.info? e=some i) (hz:i.zero=some z)
  (hsize:i.size=size) (hby:i.bytes=bytes) (hzs:z.cells.size=size) (hsz:0<size)
  (v:Value) (n:Nat) (xs:List Value) (hs:a.eval s=v) (hown:w.ownsRow base e size v n xs)
  (A:Option Addr) (m c:Nat) (news:List Value) (hx:a.eval x=.slice A m c) (hA:A=none->m=0) (hl:news.length=m*size) (hnews:∀ ad,A=some ad->∀ j u,news[j]?=some u->w.cell? (ad.add j)=some u) (h1:∀ u∈news,u.oneCell'=true)
  (h63:n+m<=maxLen) (hbytes:(n+m)*bytes<=140737488355328) (hbase:base<=w.heap.size)
  (h:∀ v' w',w'.ownsRow base e size v' (n+m) (xs++news)->w.grownBy w' v.ownBlock->(v'.ownBlock=v.ownBlock\/v'.ownBlock=some w.heap.size)->K (a.put o.dst v') w') :
  if Region.wanted o (yielded ops a.tmps)=true then Oper.wp P o a w K Q else E:=by
 have hw:Region.wanted o (yielded ops a.tmps)=true:=by simp [Region.wanted,hgd]
 rw [if_pos hw];exact wp_append_src s x t ho base e i z size bytes ht hi hz hsize hby hzs hsz v n xs hs hown A m c news hx hA hl hnews h1 h63 hbytes hbase h
theorem row_news {w:World} {base:Nat} {e:TypeId} {a:Option Addr} {n n' c:Nat} {xs:List Value} (h:w.ownsRow base e 1 (.slice a n' c) n xs):∀ ad,a=some ad->∀ j u,xs[j]?=some u->w.cell? (ad.add j)=some u:=fun ad had j u hj=>by
 subst had
 obtain ⟨g,hg⟩ : ∃ g,ad=⟨g,0,none⟩:=by
  rcases h.2 with ⟨hv,_⟩ | ⟨g,cap,cur,hv,_⟩
  ·simp at hv
  ·simp at hv;exact ⟨g,hv.1⟩
 subst hg;exact h.cells (g:=g) rfl j u hj
theorem TLs.oks {w:World} {n0:Nat} {Z:List Nat} {v:Value} {L:List TV} (h:TLs w n0 Z v L):∀ t,t∈L->t.Ok:=fun t ht=>by
 obtain ⟨cs,h1,_,h3⟩:=h.ex;obtain ⟨i,hi⟩:=List.getElem?_of_mem ht;have hil:=(List.getElem?_eq_some_iff.1 hi).1;exact (h3 i t _ hi (List.getElem?_eq_getElem (by omega))).ok
theorem countSizes_walk (n room:Int) (la wa va:Option Addr) (ln lc wn wk vn vc:Nat) (Ls Ws Vs:List Int) (dead:Bool) (iI:Int) (w:World) (hL:RowOf w .i64 la ln Ls) (hW:RowOf w .u64 wa wn Ws) (hU:∀ x,x∈Ws->U64 x) (hV:RowOf w .i64 va vn Vs) :
  Calls Tryz.prog 9 #[.agg #[.int .i64 n,.int .i64 room,.slice la ln lc,.slice wa wn wk],.slice va vn vc,.bool dead,.int .i64 iI] w fun e w'=>e=.returned (.bool true)/\Upd [] w w':=by
 have HLD:Hid (∀ x:World,Upd [] w x->Calls Tryz.prog 33 #[.agg #[.int .i64 n,.int .i64 room,.slice la ln lc,.slice wa wn wk]] x fun e w'=>LaidX n room ln Ws x e w'):=fun x u =>
  laid_specX n room la wa ln lc wn wk Ls Ws x (hL.keep0 u) (hW.keep0 u) hU
 have HU0:=Lib.hid ((Upd.refl [] w).alloc (.cells #[.int .i64 n,.int .i64 room,.slice la ln lc,.slice wa wn wk] 80 (0,0)));have HV:=Lib.hid hV;have hvmx:=hV.mx;unfold maxLen at hvmx;clear hL hW hU hV
 go_enter Tryz.func9,Tryz.ntmps9
 go_wp2_with fail;refine (HLD.out _ HU0.out).mono ?_;rintro e w1 hE;obtain ⟨b,m,_,_,K,F,M,p,refs,tabs,rfl,hm,hlg,hal,hlo,hu,hpl,hhd,hrl,hhl,hkt,hmt,hvr,hrf,hM⟩:=hE.ex;obtain ⟨xa,xc,rfl,_⟩:=row_nil_len hm.rr;obtain ⟨ya,yc,rfl,hya⟩:=hm.tt.form;have HYG:Hid (∃ g,ya=some ⟨g,0,none⟩):=hya (by obtain ⟨rest,hrest⟩:=hlg.t2;rw [hrest];simp);clear hya;have e0:worldV b m (.slice xa refs.length xc) (.slice ya tabs.length yc)=.agg #[.pointer (some ⟨b,0,none⟩),.pointer (some ⟨m,0,none⟩),.slice xa refs.length xc,.slice ya tabs.length yc]:=rfl;rw [e0];have hu2:Upd [] w1 (w1.alloc (.cells #[.pointer (some ⟨b,0,none⟩),.pointer (some ⟨m,0,none⟩),.slice xa refs.length xc,.slice ya tabs.length yc] 82 (0,0))):=(Upd.refl _ _).alloc _;have hwz:=HU0.out.size;have hsz1:=hu.size
 have hLI:LIn (w1.alloc (.cells #[.pointer (some ⟨b,0,none⟩),.pointer (some ⟨m,0,none⟩),.slice xa refs.length xc,.slice ya tabs.length yc] 82 (0,0))) w.heap.size w1.heap.size b m (.slice xa refs.length xc) (.slice ya tabs.length yc) K F M p refs tabs:=by
  refine ⟨heap_alloc_new _ _,hm.keep0 hu2,⟨fun hk=>by have:=hm.ker.lt _ hk;omega,fun hk=>by have:=hm.mod.lt _ hk;omega⟩,fun k hk=>?_,by rw [World.size_alloc];omega⟩
  rcases hk with h | h | h | h | h
  ·have:=hlo k (.inl h);omega
  ·have:=hlo k (.inr (.inl h));omega
  ·omega
  ·have:=hlo k (.inr (.inr (.inl h)));omega
  ·have:=hlo k (.inr (.inr (.inr h)));omega
 have HLI:=Lib.hid hLI;have HLG:=Lib.hid (And.intro hlg (And.intro hal (And.intro (KM.of hlg hkt hmt) (And.intro hmt (And.intro hkt hhl)))));have HUA:=Lib.hid ((HU0.out.trans hu).trans hu2);generalize hwA:w1.alloc (.cells #[.pointer (some ⟨b,0,none⟩),.pointer (some ⟨m,0,none⟩),.slice xa refs.length xc,.slice ya tabs.length yc] 82 (0,0))=wA at *;have HWA:=Lib.hid hwA;clear hE hm hlg hal hlo hu hpl hhd hhl hkt hmt hvr hrf hM e0 hu2 hwz hsz1 hwA HLD HU0 hLI;go_upto_region 2 with fail;rw [HWA.out];generalize w1.heap.size=a at *;go_wp2_with fail;refine (awake12_spec _).mono ?_;rintro e wB ⟨rfl,hu⟩;have HL:=Lib.hid (HLI.out.keep0 hu);have HUB:=Lib.hid (HUA.out.trans hu);clear hu HLI HUA;obtain ⟨N,hN⟩ : ∃ N,wB.heap.size=N:=⟨_,rfl⟩;obtain ⟨Z,hZ⟩ : ∃ Z,F++p.all m=Z:=⟨_,rfl⟩;have HNZ:=Lib.hid (And.intro hN hZ)
 have HZ:Hid (∀ k,k∈Z->k<N):=fun k hk=>by rw [<- HNZ.out.1];exact HL.out.mem.z k (by rw [HNZ.out.2];exact hk)
 have HSL:Hid (∀ (v:Int) (x:World),Upd [] wB x->Calls Tryz.prog 50 #[.agg #[.pointer (some ⟨b,0,none⟩),.pointer (some ⟨m,0,none⟩),.slice xa refs.length xc,.slice ya tabs.length yc],.int .i64 v] x fun e w'=>SlotQ Z M refs tabs x e w'):=fun v x u=>by
  rw [<- HNZ.out.2];exact slot_spec b m _ _ K F M p refs tabs v x (HL.out.mem.keep0 u) HLG.out.1
 have HK0:Hid (KpB 12 wB N Z K M (.slice none 0 0) (.slice none 0 0) [] [] 0 wB):=by rw [<- HNZ.out.1];exact KpB.start 12 _ _ _ _
 clear hN hZ;go_upto_region 4 with fail;go_wp2_with fail
 go_loopg [11,12,39] vn (fun gg s9 s10 s37 wr=>∃ (i:Nat) (fl:List Nat) (tl:List TV) (fa:Option Addr) (fc:Nat) (ga:Option Addr) (gc:Nat),vn-i=gg/\i<=vn/\s9=.slice fa fl.length fc/\s10=.slice ga tl.length gc/\s37=.int .i64 i/\KpB 12 wB N Z K M (.slice fa fl.length fc) (.slice ga tl.length gc) fl tl i wr)
 case atStart=>exact ⟨0,[],[],none,0,none,0,by omega,by omega,rfl,rfl,rfl,HK0.out⟩
 case round =>
  obtain ⟨i,fl,tl,fa,fc,ga,gc,rfl,hi,rfl,rfl,rfl,hS⟩:=hrel;have hup:=hS.up;have hle:=hS.le;have hlen:=hS.len
  by_cases hlt:i<vn
  ·have hil:(i:Int)<(vn:Int):=by omega
   obtain ⟨x,hx,hc⟩:=HV.out.at_ i hlt;subst hx;have hcr:=(HUB.out.trans hup).cell0 hc;generalize Vs.getD i 0=v at *;obtain ⟨c0,c1,c2,c3⟩:=HL.out.cells;have d0:=hup.cell0 c0;have d1:=hup.cell0 c1;have d2:=hup.cell0 c2;have d3:=hup.cell0 c3;have HQS:=Lib.hid hS;have HSV:=Lib.hid (HSL.out v wr hup)
   have hle2:tl.length<=12:=by omega
   clear hS hup hc c0 c1 c2 c3 hlen;go_wp2_with fail;refine HSV.out.mono ?_;rintro e w2 hQ;obtain ⟨j,r,t,sa,sn,sc,rfl,hjr,hjt,hti,hu⟩:=hQ.ex;have htv:tabV t (.slice sa sn sc)=.agg #[.int .i64 t.n,.slice sa sn sc]:=rfl;rw [htv];have hbx:=heap_alloc_new w2 (.cells #[.int .i64 t.n,.slice sa sn sc] 110 (0,0));have hu3:Upd [] w2 (w2.alloc (.cells #[.int .i64 t.n,.slice sa sn sc] 110 (0,0))):=(Upd.refl _ _).alloc _;have HK3:=Lib.hid (HQS.out.keep0 (hu.trans hu3) (Nat.le_refl i));have hti3:=hti.keep0 hu3;obtain ⟨w3,hw3⟩ : ∃ w3,w2.alloc (.cells #[.int .i64 t.n,.slice sa sn sc] 110 (0,0))=w3:=⟨_,rfl⟩;rw [hw3] at hbx HK3 hti3;have HW3:=Lib.hid hw3;have hok:=HLG.out.1.ok t (List.mem_of_getElem? hjt)
   by_cases hlv:M.isLive t=true
   ·rw [hlv]
    have hnm:=HLG.out.1.nm j r t hjr hjt hlv
    by_cases h8:i<12
    ·have hi8:(i:Int)<12:=by omega
     have HT:=Lib.hid (And.intro hti3 (And.intro hnm (And.intro hok.2 hlv)));obtain ⟨tn,htn⟩ : ∃ tn,t.n=tn:=⟨_,rfl⟩;have HTN:=Lib.hid htn;rw [htn] at hbx HW3;rw [htn];have HBB:=Lib.hid hbx
     have HBF:Hid (∀ k,(Value.slice fa fl.length fc).ownBlock=some k\/(Value.slice ga tl.length gc).ownBlock=some k->k<w2.heap.size):=fun k hk=>by
      obtain ⟨xs,hxs⟩:=HQS.out.pl.tt.row;have:=hu.size
      rcases hk with hk | hk
      ·have:=(HQS.out.pl.rr.lt k hk).2;omega
      ·have:=(hxs.lt k hk).2;omega
     clear hQ hjr hjt hti hu htv hbx hu3 hw3 hti3 hok hlv hnm htn d0 d1 d2 d3 hcr;go_upto_region 11 with fail;rw [HW3.out];generalize w2.heap.size=B at *;have HQ3:=HK3;have HP3:=Lib.hid HK3.out.pl
     have HN3:Hid (N<=w3.heap.size):=by have:=HK3.out.up.size;have:=HNZ.out.1;show N<=_;omega
     have HBX:Hid (w3.cell? ⟨B,0,none⟩=some (.int .i64 tn)/\w3.cell? ⟨B,1,none⟩=some (.slice sa sn sc)/\B∉((Value.slice fa fl.length fc).ownBlock.toList++(Value.slice ga tl.length gc).ownBlock.toList)):=by
      refine ⟨cell_at HBB.out rfl,cell_at HBB.out rfl,fun hm=>?_⟩;have:=HBF.out B (by simpa using hm);omega
     obtain ⟨cs,hcs1,hcs2,hcs3⟩:=HP3.out.tt.ex;obtain ⟨tr,hr0,hr1,hr2,hr3⟩:=info_parts Tryz.infoRefS;obtain ⟨tt,ht0,ht1,ht2,ht3⟩:=info_parts Tryz.infoTable;have HIR:=Lib.hid (And.intro hr0 (And.intro hr1 (And.intro hr2 hr3)));have HIT:=Lib.hid (And.intro ht0 (And.intro ht1 (And.intro ht2 ht3)));have HCS:=Lib.hid (And.intro hcs1 (And.intro hcs2 hcs3))
     have HRR:Hid (∀ x:World,Upd [] w3 x->x.ownsRow N 62 1 (.slice fa fl.length fc) fl.length (flatRefs fl)):=fun x u=>row_keep HP3.out.rr fun k hk=>u.block k (HP3.out.rr.lt k hk).2 (by simp)
     have HRT:Hid (∀ x:World,Upd (Value.slice fa fl.length fc).ownBlock.toList w3 x->x.ownsRow N 110 2 (.slice ga tl.length gc) tl.length (flatTT tl cs)):=fun x u=>row_keep HCS.out.2.1 fun k hk=>u.block k (HCS.out.2.1.lt k hk).2 fun hm=>ty_ne HCS.out.2.1 HP3.out.rr (by decide) hk (by simpa using hm)
     have HRL:Hid (∀ k,some k=(Value.slice fa fl.length fc).ownBlock->k<w3.heap.size):=fun k hk=>(HP3.out.rr.lt k hk.symm).2
     have HC1:Hid (∀ u,u∈[Value.int .u32 r]->u.oneCell'=true):=by intro u hu;simp at hu;subst hu;rfl
     have HC2:Hid (∀ u,u∈[Value.int .i64 tn,Value.slice sa sn sc]->u.oneCell'=true):=by intro u hu;simp at hu;rcases hu with rfl | rfl <;> rfl
     clear hr0 hr1 hr2 hr3 ht0 ht1 ht2 ht3 hcs1 hcs2 hcs3
     have HDONE:Hid (∀ (g1 cap1 g2 cap2:Nat) (w6:World),Upd ((Value.slice fa fl.length fc).ownBlock.toList++(Value.slice ga tl.length gc).ownBlock.toList) w3 w6->w6.ownsRow N 62 1 (.slice (some ⟨g1,0,none⟩) (fl.length+1) cap1) (fl.length+1) (flatRefs fl++[.int .u32 r]) ->
       w6.ownsRow N 110 2 (.slice (some ⟨g2,0,none⟩) (tl.length+1) cap2) (tl.length+1) (flatTT tl cs++[.int .i64 tn,.slice sa sn sc])->KpB 12 wB N Z K M (.slice (some ⟨g1,0,none⟩) (fl.length+1) cap1) (.slice (some ⟨g2,0,none⟩) (tl.length+1) cap2) (fl++[r]) (tl++[t]) (i+1) w6):=fun g1 cap1 g2 cap2 w6 u o1 o2=>by
      rw [<- HTN.out] at o2;exact HQ3.out.push HZ.out u HCS.out.1 HCS.out.2.2 o1 o2 HT.out.1 HT.out.2.1 HT.out.2.2 (by omega)
     have HXB:Hid (((w3.alloc (.cells #[.int .u32 r] 62 (0,0))).alloc (.cells #[.int .i64 tn,.slice sa sn sc] 110 (0,0))).heap[w3.heap.size+1]?=some (.cells #[.int .i64 tn,.slice sa sn sc] 110 (0,0))):=by
      have h:=heap_alloc_new (w3.alloc (.cells #[.int .u32 r] 62 (0,0))) (.cells #[.int .i64 tn,.slice sa sn sc] 110 (0,0))
      rw [World.size_alloc] at h;exact h
     have HXC:Hid (((w3.alloc (.cells #[.int .i64 tn,.slice sa sn sc] 110 (0,0))).alloc (.cells #[.int .u32 r] 62 (0,0))).heap[w3.heap.size]?=some (.cells #[.int .i64 tn,.slice sa sn sc] 110 (0,0))):=(Below.heap_alloc _ _ _ (heap_lt (heap_alloc_new _ _))).trans (heap_alloc_new _ _)
     have HNX:Hid (∀ k,w3.heap.size<=k->some k≠(Value.slice fa fl.length fc).ownBlock):=fun k hk e=>by have:=HRL.out k e;omega
     have HX1A:Hid ((w3.alloc (.cells #[.int .u32 r] 62 (0,0))).heap[w3.heap.size]?=some (.cells #[.int .u32 r] 62 (0,0))):=heap_alloc_new _ _;have HX1B:Hid (((w3.alloc (.cells #[.int .u32 r] 62 (0,0))).alloc (.cells #[.int .i64 tn,.slice sa sn sc] 110 (0,0))).heap[w3.heap.size]?=some (.cells #[.int .u32 r] 62 (0,0))):=(Below.heap_alloc _ _ _ (heap_lt (heap_alloc_new _ _))).trans (heap_alloc_new _ _)
     have HX1C:Hid (((w3.alloc (.cells #[.int .i64 tn,.slice sa sn sc] 110 (0,0))).alloc (.cells #[.int .u32 r] 62 (0,0))).heap[w3.heap.size+1]?=some (.cells #[.int .u32 r] 62 (0,0))):=by
      have h:=heap_alloc_new (w3.alloc (.cells #[.int .i64 tn,.slice sa sn sc] 110 (0,0))) (.cells #[.int .u32 r] 62 (0,0))
      rw [World.size_alloc] at h;exact h
     have HS:Hid (∀ x:World,Upd ((Value.slice fa fl.length fc).ownBlock.toList++(Value.slice ga tl.length gc).ownBlock.toList) w3 x->x.cell? ⟨B,0,none⟩=some (.int .i64 tn)/\x.cell? ⟨B,1,none⟩=some (.slice sa sn sc)):=fun x u=>⟨(u.cell (World.block_lt_of_cell? _ _ HBX.out.1) HBX.out.2.2).trans HBX.out.1,(u.cell (World.block_lt_of_cell? _ _ HBX.out.2.1) HBX.out.2.2).trans HBX.out.2.1⟩
     refine wp_region_until (fun x=>x.cell? ⟨B,0,none⟩=some (.int .i64 tn)/\x.cell? ⟨B,1,none⟩=some (.slice sa sn sc)) (fun _=>True) [] (by kernel_rfl) ?_;have hS:=HS.out _ (Upd.refl _ _).drew;have hE:True:=trivial;refine wpAnyU_takeS (i:=0) (v:=?v1) rfl (by kernel_rfl) (by kernel_rfl) (by kernel_rfl) (by kernel_rfl) (fun _ _ _ h=>h) (Or.inl ⟨by rfl,?hy1⟩) hS (fun _=>hE) ?rest1
     case hy1=>(intro x hSx;(try dsimp only at hSx);go_simp;try with_reducible rfl)
     (try simp only [Act.put,List.setIfInBounds_toArray])
     refine wpAnyU_takeS (i:=1) (v:=?v2) rfl (by kernel_rfl) (by kernel_rfl) (by kernel_rfl) (by kernel_rfl) (fun _ _ _ h=>h) (Or.inl ⟨by rfl,?hy2⟩) hS (fun _=>hE) ?rest2
     case hy2=>(intro x hSx;(try dsimp only at hSx);go_simp;try with_reducible rfl)
     (try simp only [Act.put])
     refine wpAnyU_takeS (i:=4) (v:=?v3) rfl (by kernel_rfl) (by kernel_rfl) (by kernel_rfl) (by kernel_rfl) (fun _ _ _ h=>h) (Or.inl ⟨by rfl,?hy3⟩) hS (fun _=>hE) ?rest3
     case hy3=>(intro x hSx;(try dsimp only at hSx);go_simp;try with_reducible rfl)
     (try simp only [Act.put])
     refine wpAnyU_takeS (i:=5) (v:=?v4) rfl (by kernel_rfl) (by kernel_rfl) (by kernel_rfl) (by kernel_rfl) (fun _ _ _ h=>h) (Or.inl ⟨by rfl,?hy4⟩) hS (fun _=>hE) ?rest4
     case hy4=>(intro x hSx;(try dsimp only at hSx);go_simp;try with_reducible rfl)
     (try simp only [Act.put])
     refine wpAnyU_ready (rs:=[2,6]) (by kernel_rfl) (by simp) ?_;refine AllReadyU.cons rfl (fun K hK=>?_) ?_
     ·
      go_simp
      refine hK.out _ _ ⟨HS.out _ ((Upd.refl _ _).drew.alloc _),fun _=>trivial⟩ (fun hHeld=>?_);clear hK K;obtain ⟨hS,hE⟩:=hHeld;have hE:=hE (by kernel_rfl)
      (try simp only [Act.put,List.setIfInBounds_toArray,List.set_cons_zero,List.set_cons_succ])
      refine wpAnyU_ready (rs:=[3,6]) (by kernel_rfl) (by simp) ?_;refine AllReadyU.cons rfl (fun K hK=>?_) ?_
      ·
       refine step_append_lies _ (by rfl) (.tmp 56) (.tmp 58) 39 (by rfl) N 62 tr _ 1 4 Tryz.underlying39 HIR.out.1 HIR.out.2.1 HIR.out.2.2.1 HIR.out.2.2.2 (by rfl) (by decide) (.slice fa fl.length fc) fl.length (flatRefs fl) (by rfl) (HRR.out _ (by repeat (first | exact Upd.refl _ _ | refine Upd.drew ?_ | refine Upd.alloc ?_ _))) ⟨_,0,none⟩ 1 1 [.int .u32 r] (by rfl) (by rfl) (World.news_of_block (cs:=#[.int .u32 r]) (t:=62) (fr:=(0,0)) (by first | exact HX1A.out | exact HX1B.out | exact HX1C.out)) HC1.out (by omega) (by unfold maxLen;omega) (by omega) (Nat.le_trans HN3.out (Upd.size (S:=[]) (w:=w3) (by repeat (first | exact Upd.refl _ _ | refine Upd.drew ?_ | refine Upd.alloc ?_ _)))) _ (by rfl) ?_
       intro g1 cap1 w5 hown1 hgr1 hat1 hlt1
       have HG1:=Lib.hid (And.intro (Upd.grown (S:=((Value.slice fa fl.length fc).ownBlock.toList++(Value.slice ga tl.length gc).ownBlock.toList)) (w:=w3) (by repeat (first | exact Upd.refl _ _ | refine Upd.drew ?_ | refine Upd.alloc ?_ _)) hgr1 (fun k hk=>.inl (by simp [hk]))) (And.intro (Upd.grown (S:=(Value.slice fa fl.length fc).ownBlock.toList) (w:=w3) (by repeat (first | exact Upd.refl _ _ | refine Upd.drew ?_ | refine Upd.alloc ?_ _)) hgr1 (fun k hk=>.inl (by simp [hk]))) hown1));have HGR1:=Lib.hid hgr1;clear hown1 hgr1 hat1 hlt1;refine hK.out _ _ ⟨HS.out _ (HG1.out.1),fun _=>trivial⟩ (fun hHeld=>?_);clear hK K;obtain ⟨hS,hE⟩:=hHeld;have hE:=hE (by kernel_rfl)
       (try simp only [Act.put,List.setIfInBounds_toArray])
       refine wpAnyU_ready (rs:=[6]) (by kernel_rfl) (by simp) ?_;refine AllReadyU.cons rfl (fun K hK=>?_) ?_
       rotate_left
       exact AllReadyU.nil
       go_simp
       refine hK.out _ _ ⟨HS.out _ (HG1.out.1.alloc _),fun _=>trivial⟩ (fun hHeld=>?_);clear hK K;obtain ⟨hS,hE⟩:=hHeld;have hE:=hE (by kernel_rfl)
       (try simp only [Act.put,List.setIfInBounds_toArray,List.set_cons_zero,List.set_cons_succ])
       refine wpAnyU_ready (rs:=[7]) (by kernel_rfl) (by simp) ?_;refine AllReadyU.cons rfl (fun K hK=>?_) ?_
       rotate_left
       exact AllReadyU.nil;refine step_append_lies _ (by rfl) (.tmp 60) (.tmp 62) 22 (by rfl) N 110 tt _ 2 32 Tryz.underlying22 HIT.out.1 HIT.out.2.1 HIT.out.2.2.1 HIT.out.2.2.2 (by rfl) (by decide) (.slice ga tl.length gc) tl.length (flatTT tl cs) (by rfl) (HRT.out _ (by repeat (first | exact HG1.out.2.1 | refine Upd.drew ?_ | refine Upd.alloc ?_ _))) ⟨_,0,none⟩ 1 1 [.int .i64 tn,.slice sa sn sc] (by rfl) (by rfl) (World.news_of_block (cs:=#[.int .i64 tn,.slice sa sn sc]) (t:=110) (fr:=(0,0)) (by first | exact heap_alloc_new _ _ | exact (HGR1.out.block _ (heap_lt HXB.out) (HNX.out _ (by omega))).trans HXB.out | exact (HGR1.out.block _ (heap_lt HXC.out) (HNX.out _ (by omega))).trans HXC.out)) HC2.out (by omega) (by unfold maxLen;omega) (by omega) (Nat.le_trans HN3.out (Upd.size (S:=((Value.slice fa fl.length fc).ownBlock.toList++(Value.slice ga tl.length gc).ownBlock.toList)) (w:=w3) (by repeat (first | exact HG1.out.1 | refine Upd.drew ?_ | refine Upd.alloc ?_ _)))) _ (by rfl) ?_
       intro g2 cap2 w6 hown2 hgr2 hat2 hlt2
       have HG2:=Lib.hid (And.intro (Upd.grown (S:=((Value.slice fa fl.length fc).ownBlock.toList++(Value.slice ga tl.length gc).ownBlock.toList)) (w:=w3) (by repeat (first | exact HG1.out.1 | refine Upd.drew ?_ | refine Upd.alloc ?_ _)) hgr2 (fun k hk=>.inl (by simp [hk]))) (And.intro (row_grow (by repeat (first | exact Upd.refl _ _ | refine Upd.drew ?_ | refine Upd.alloc ?_ _)) hgr2 HG1.out.2.2 (fun k hk hq=>ty_ne HG1.out.2.2 (HRT.out _ HG1.out.2.1) (by decide) hk hq)) hown2));clear hown2 hgr2 hat2 hlt2 HGR1 HG1;refine hK.out _ _ ⟨HS.out _ (HG2.out.1),fun _=>trivial⟩ (fun hHeld=>?_);clear hK K;obtain ⟨hS,hE⟩:=hHeld;have hE:=hE (by kernel_rfl)
       (try simp only [Act.put,List.setIfInBounds_toArray])
       refine wpAnyU_takeS (i:=8) (v:=?v5) rfl (by kernel_rfl) (by kernel_rfl) (by kernel_rfl) (by kernel_rfl) (fun _ _ _ h=>h) (Or.inl ⟨by rfl,?hy5⟩) hS (fun _=>hE) ?rest5
       case hy5=>(intro x hSx;(try dsimp only at hSx);go_simp;try with_reducible rfl)
       (try simp only [Act.put])
       refine wpAnyU_takeS (i:=9) (v:=?v6) rfl (by kernel_rfl) (by kernel_rfl) (by kernel_rfl) (by kernel_rfl) (fun _ _ _ h=>h) (Or.inl ⟨by rfl,?hy6⟩) hS (fun _=>hE) ?rest6
       case hy6=>(intro x hSx;(try dsimp only at hSx);go_simp;try with_reducible rfl)
       (try simp only [Act.put])
       refine wpAnyU_done (by kernel_rfl) ?_ _;have HSN:=Lib.hid (HDONE.out _ _ _ _ _ HG2.out.1 HG2.out.2.1 HG2.out.2.2);clear hS hE HG2 HDONE HS HXB HXC HX1A HX1B HX1C HRR HRT;go_wp2_with fail
       go_roundg (vn-(i+1))
       case measure=>omega
       case rel=>exact ⟨i+1,fl++[r],tl++[t],some ⟨g1,0,none⟩,cap1,some ⟨g2,0,none⟩,cap2,rfl,by omega,by simp,by simp,by simp,by simpa using HSN.out⟩
      refine AllReadyU.cons rfl (fun K hK=>?_) ?_
      rotate_left
      exact AllReadyU.nil
      go_simp
      refine hK.out _ _ ⟨HS.out _ (((Upd.refl _ _).drew.alloc _).alloc _),fun _=>trivial⟩ (fun hHeld=>?_);clear hK K;obtain ⟨hS,hE⟩:=hHeld;have hE:=hE (by kernel_rfl)
      (try simp only [Act.put,List.setIfInBounds_toArray,List.set_cons_zero,List.set_cons_succ])
      refine wpAnyU_ready (rs:=[3]) (by kernel_rfl) (by simp) ?_;refine AllReadyU.cons rfl (fun K hK=>?_) ?_
      rotate_left
      exact AllReadyU.nil;refine step_append_lies _ (by rfl) (.tmp 56) (.tmp 58) 39 (by rfl) N 62 tr _ 1 4 Tryz.underlying39 HIR.out.1 HIR.out.2.1 HIR.out.2.2.1 HIR.out.2.2.2 (by rfl) (by decide) (.slice fa fl.length fc) fl.length (flatRefs fl) (by rfl) (HRR.out _ (by repeat (first | exact Upd.refl _ _ | refine Upd.drew ?_ | refine Upd.alloc ?_ _))) ⟨_,0,none⟩ 1 1 [.int .u32 r] (by rfl) (by rfl) (World.news_of_block (cs:=#[.int .u32 r]) (t:=62) (fr:=(0,0)) (by first | exact HX1A.out | exact HX1B.out | exact HX1C.out)) HC1.out (by omega) (by unfold maxLen;omega) (by omega) (Nat.le_trans HN3.out (Upd.size (S:=[]) (w:=w3) (by repeat (first | exact Upd.refl _ _ | refine Upd.drew ?_ | refine Upd.alloc ?_ _)))) _ (by rfl) ?_
      intro g1 cap1 w5 hown1 hgr1 hat1 hlt1
      have HG1:=Lib.hid (And.intro (Upd.grown (S:=((Value.slice fa fl.length fc).ownBlock.toList++(Value.slice ga tl.length gc).ownBlock.toList)) (w:=w3) (by repeat (first | exact Upd.refl _ _ | refine Upd.drew ?_ | refine Upd.alloc ?_ _)) hgr1 (fun k hk=>.inl (by simp [hk]))) (And.intro (Upd.grown (S:=(Value.slice fa fl.length fc).ownBlock.toList) (w:=w3) (by repeat (first | exact Upd.refl _ _ | refine Upd.drew ?_ | refine Upd.alloc ?_ _)) hgr1 (fun k hk=>.inl (by simp [hk]))) hown1));have HGR1:=Lib.hid hgr1;clear hown1 hgr1 hat1 hlt1;refine hK.out _ _ ⟨HS.out _ (HG1.out.1),fun _=>trivial⟩ (fun hHeld=>?_);clear hK K;obtain ⟨hS,hE⟩:=hHeld;have hE:=hE (by kernel_rfl)
      (try simp only [Act.put,List.setIfInBounds_toArray])
      refine wpAnyU_ready (rs:=[7]) (by kernel_rfl) (by simp) ?_;refine AllReadyU.cons rfl (fun K hK=>?_) ?_
      rotate_left
      exact AllReadyU.nil;refine step_append_lies _ (by rfl) (.tmp 60) (.tmp 62) 22 (by rfl) N 110 tt _ 2 32 Tryz.underlying22 HIT.out.1 HIT.out.2.1 HIT.out.2.2.1 HIT.out.2.2.2 (by rfl) (by decide) (.slice ga tl.length gc) tl.length (flatTT tl cs) (by rfl) (HRT.out _ (by repeat (first | exact HG1.out.2.1 | refine Upd.drew ?_ | refine Upd.alloc ?_ _))) ⟨_,0,none⟩ 1 1 [.int .i64 tn,.slice sa sn sc] (by rfl) (by rfl) (World.news_of_block (cs:=#[.int .i64 tn,.slice sa sn sc]) (t:=110) (fr:=(0,0)) (by first | exact heap_alloc_new _ _ | exact (HGR1.out.block _ (heap_lt HXB.out) (HNX.out _ (by omega))).trans HXB.out | exact (HGR1.out.block _ (heap_lt HXC.out) (HNX.out _ (by omega))).trans HXC.out)) HC2.out (by omega) (by unfold maxLen;omega) (by omega) (Nat.le_trans HN3.out (Upd.size (S:=((Value.slice fa fl.length fc).ownBlock.toList++(Value.slice ga tl.length gc).ownBlock.toList)) (w:=w3) (by repeat (first | exact HG1.out.1 | refine Upd.drew ?_ | refine Upd.alloc ?_ _)))) _ (by rfl) ?_
      intro g2 cap2 w6 hown2 hgr2 hat2 hlt2
      have HG2:=Lib.hid (And.intro (Upd.grown (S:=((Value.slice fa fl.length fc).ownBlock.toList++(Value.slice ga tl.length gc).ownBlock.toList)) (w:=w3) (by repeat (first | exact HG1.out.1 | refine Upd.drew ?_ | refine Upd.alloc ?_ _)) hgr2 (fun k hk=>.inl (by simp [hk]))) (And.intro (row_grow (by repeat (first | exact Upd.refl _ _ | refine Upd.drew ?_ | refine Upd.alloc ?_ _)) hgr2 HG1.out.2.2 (fun k hk hq=>ty_ne HG1.out.2.2 (HRT.out _ HG1.out.2.1) (by decide) hk hq)) hown2));clear hown2 hgr2 hat2 hlt2 HGR1 HG1;refine hK.out _ _ ⟨HS.out _ (HG2.out.1),fun _=>trivial⟩ (fun hHeld=>?_);clear hK K;obtain ⟨hS,hE⟩:=hHeld;have hE:=hE (by kernel_rfl)
      (try simp only [Act.put])
      refine wpAnyU_takeS (i:=8) (v:=?v7) rfl (by kernel_rfl) (by kernel_rfl) (by kernel_rfl) (by kernel_rfl) (fun _ _ _ h=>h) (Or.inl ⟨by rfl,?hy7⟩) hS (fun _=>hE) ?rest7
      case hy7=>(intro x hSx;(try dsimp only at hSx);go_simp;try with_reducible rfl)
      (try simp only [Act.put])
      refine wpAnyU_takeS (i:=9) (v:=?v8) rfl (by kernel_rfl) (by kernel_rfl) (by kernel_rfl) (by kernel_rfl) (fun _ _ _ h=>h) (Or.inl ⟨by rfl,?hy8⟩) hS (fun _=>hE) ?rest8
      case hy8=>(intro x hSx;(try dsimp only at hSx);go_simp;try with_reducible rfl)
      (try simp only [Act.put])
      refine wpAnyU_done (by kernel_rfl) ?_ _;have HSN:=Lib.hid (HDONE.out _ _ _ _ _ HG2.out.1 HG2.out.2.1 HG2.out.2.2);clear hS hE HG2 HDONE HS HXB HXC HX1A HX1B HX1C HRR HRT;go_wp2_with fail
      go_roundg (vn-(i+1))
      case measure=>omega
      case rel=>exact ⟨i+1,fl++[r],tl++[t],some ⟨g1,0,none⟩,cap1,some ⟨g2,0,none⟩,cap2,rfl,by omega,by simp,by simp,by simp,by simpa using HSN.out⟩
     refine AllReadyU.cons rfl (fun K hK=>?_) ?_
     rotate_left
     exact AllReadyU.nil
     go_simp
     refine hK.out _ _ ⟨HS.out _ ((Upd.refl _ _).drew.alloc _),fun _=>trivial⟩ (fun hHeld=>?_);clear hK K;obtain ⟨hS,hE⟩:=hHeld;have hE:=hE (by kernel_rfl)
     (try simp only [Act.put,List.setIfInBounds_toArray,List.set_cons_zero,List.set_cons_succ])
     refine wpAnyU_ready (rs:=[2]) (by kernel_rfl) (by simp) ?_;refine AllReadyU.cons rfl (fun K hK=>?_) ?_
     rotate_left
     exact AllReadyU.nil
     go_simp
     refine hK.out _ _ ⟨HS.out _ (((Upd.refl _ _).drew.alloc _).alloc _),fun _=>trivial⟩ (fun hHeld=>?_);clear hK K;obtain ⟨hS,hE⟩:=hHeld;have hE:=hE (by kernel_rfl)
     (try simp only [Act.put,List.setIfInBounds_toArray,List.set_cons_zero,List.set_cons_succ])
     refine wpAnyU_ready (rs:=[3]) (by kernel_rfl) (by simp) ?_;refine AllReadyU.cons rfl (fun K hK=>?_) ?_
     rotate_left
     exact AllReadyU.nil;refine step_append_lies _ (by rfl) (.tmp 56) (.tmp 58) 39 (by rfl) N 62 tr _ 1 4 Tryz.underlying39 HIR.out.1 HIR.out.2.1 HIR.out.2.2.1 HIR.out.2.2.2 (by rfl) (by decide) (.slice fa fl.length fc) fl.length (flatRefs fl) (by rfl) (HRR.out _ (by repeat (first | exact Upd.refl _ _ | refine Upd.drew ?_ | refine Upd.alloc ?_ _))) ⟨_,0,none⟩ 1 1 [.int .u32 r] (by rfl) (by rfl) (World.news_of_block (cs:=#[.int .u32 r]) (t:=62) (fr:=(0,0)) (by first | exact HX1A.out | exact HX1B.out | exact HX1C.out)) HC1.out (by omega) (by unfold maxLen;omega) (by omega) (Nat.le_trans HN3.out (Upd.size (S:=[]) (w:=w3) (by repeat (first | exact Upd.refl _ _ | refine Upd.drew ?_ | refine Upd.alloc ?_ _)))) _ (by rfl) ?_
     intro g1 cap1 w5 hown1 hgr1 hat1 hlt1
     have HG1:=Lib.hid (And.intro (Upd.grown (S:=((Value.slice fa fl.length fc).ownBlock.toList++(Value.slice ga tl.length gc).ownBlock.toList)) (w:=w3) (by repeat (first | exact Upd.refl _ _ | refine Upd.drew ?_ | refine Upd.alloc ?_ _)) hgr1 (fun k hk=>.inl (by simp [hk]))) (And.intro (Upd.grown (S:=(Value.slice fa fl.length fc).ownBlock.toList) (w:=w3) (by repeat (first | exact Upd.refl _ _ | refine Upd.drew ?_ | refine Upd.alloc ?_ _)) hgr1 (fun k hk=>.inl (by simp [hk]))) hown1));have HGR1:=Lib.hid hgr1;clear hown1 hgr1 hat1 hlt1;refine hK.out _ _ ⟨HS.out _ (HG1.out.1),fun _=>trivial⟩ (fun hHeld=>?_);clear hK K;obtain ⟨hS,hE⟩:=hHeld;have hE:=hE (by kernel_rfl)
     (try simp only [Act.put,List.setIfInBounds_toArray])
     refine wpAnyU_ready (rs:=[7]) (by kernel_rfl) (by simp) ?_;refine AllReadyU.cons rfl (fun K hK=>?_) ?_
     rotate_left
     exact AllReadyU.nil;refine step_append_lies _ (by rfl) (.tmp 60) (.tmp 62) 22 (by rfl) N 110 tt _ 2 32 Tryz.underlying22 HIT.out.1 HIT.out.2.1 HIT.out.2.2.1 HIT.out.2.2.2 (by rfl) (by decide) (.slice ga tl.length gc) tl.length (flatTT tl cs) (by rfl) (HRT.out _ (by repeat (first | exact HG1.out.2.1 | refine Upd.drew ?_ | refine Upd.alloc ?_ _))) ⟨_,0,none⟩ 1 1 [.int .i64 tn,.slice sa sn sc] (by rfl) (by rfl) (World.news_of_block (cs:=#[.int .i64 tn,.slice sa sn sc]) (t:=110) (fr:=(0,0)) (by first | exact heap_alloc_new _ _ | exact (HGR1.out.block _ (heap_lt HXB.out) (HNX.out _ (by omega))).trans HXB.out | exact (HGR1.out.block _ (heap_lt HXC.out) (HNX.out _ (by omega))).trans HXC.out)) HC2.out (by omega) (by unfold maxLen;omega) (by omega) (Nat.le_trans HN3.out (Upd.size (S:=((Value.slice fa fl.length fc).ownBlock.toList++(Value.slice ga tl.length gc).ownBlock.toList)) (w:=w3) (by repeat (first | exact HG1.out.1 | refine Upd.drew ?_ | refine Upd.alloc ?_ _)))) _ (by rfl) ?_
     intro g2 cap2 w6 hown2 hgr2 hat2 hlt2
     have HG2:=Lib.hid (And.intro (Upd.grown (S:=((Value.slice fa fl.length fc).ownBlock.toList++(Value.slice ga tl.length gc).ownBlock.toList)) (w:=w3) (by repeat (first | exact HG1.out.1 | refine Upd.drew ?_ | refine Upd.alloc ?_ _)) hgr2 (fun k hk=>.inl (by simp [hk]))) (And.intro (row_grow (by repeat (first | exact Upd.refl _ _ | refine Upd.drew ?_ | refine Upd.alloc ?_ _)) hgr2 HG1.out.2.2 (fun k hk hq=>ty_ne HG1.out.2.2 (HRT.out _ HG1.out.2.1) (by decide) hk hq)) hown2));clear hown2 hgr2 hat2 hlt2 HGR1 HG1;refine hK.out _ _ ⟨HS.out _ (HG2.out.1),fun _=>trivial⟩ (fun hHeld=>?_);clear hK K;obtain ⟨hS,hE⟩:=hHeld;have hE:=hE (by kernel_rfl)
     (try simp only [Act.put])
     refine wpAnyU_takeS (i:=8) (v:=?v9) rfl (by kernel_rfl) (by kernel_rfl) (by kernel_rfl) (by kernel_rfl) (fun _ _ _ h=>h) (Or.inl ⟨by rfl,?hy9⟩) hS (fun _=>hE) ?rest9
     case hy9=>(intro x hSx;(try dsimp only at hSx);go_simp;try with_reducible rfl)
     (try simp only [Act.put])
     refine wpAnyU_takeS (i:=9) (v:=?v10) rfl (by kernel_rfl) (by kernel_rfl) (by kernel_rfl) (by kernel_rfl) (fun _ _ _ h=>h) (Or.inl ⟨by rfl,?hy10⟩) hS (fun _=>hE) ?rest10
     case hy10=>(intro x hSx;(try dsimp only at hSx);go_simp;try with_reducible rfl)
     (try simp only [Act.put])
     refine wpAnyU_done (by kernel_rfl) ?_ _;have HSN:=Lib.hid (HDONE.out _ _ _ _ _ HG2.out.1 HG2.out.2.1 HG2.out.2.2);clear hS hE HG2 HDONE HS HXB HXC HX1A HX1B HX1C HRR HRT;go_wp2_with fail
     go_roundg (vn-(i+1))
     case measure=>omega
     case rel=>exact ⟨i+1,fl++[r],tl++[t],some ⟨g1,0,none⟩,cap1,some ⟨g2,0,none⟩,cap2,rfl,by omega,by simp,by simp,by simp,by simpa using HSN.out⟩
    ·have hi8:¬ (i:Int)<12:=by omega
     have hd8:decide ((i:Int)<12)=false:=decide_eq_false hi8;have HSN:=Lib.hid (HK3.out.keep0 (Upd.refl _ _) (Nat.le_succ i));rw [<- hw3] at HSN;clear hQ hjr hjt hti hu htv hbx hu3 hw3 hti3 hok hlv hnm d0 d1 d2 d3 hcr;go_wp2_with fail
     go_roundg (vn-(i+1))
     case measure=>omega
     case rel=>exact ⟨i+1,fl,tl,fa,fc,ga,gc,rfl,by omega,rfl,rfl,by simp,HSN.out⟩
   ·have hlv2:M.isLive t=false:=by simpa using hlv
    rw [hlv2];have HSN:=Lib.hid (HK3.out.keep0 (Upd.refl _ _) (Nat.le_succ i));rw [<- hw3] at HSN;clear hQ hjr hjt hti hu htv hbx hu3 hw3 hti3 hok hlv hlv2 d0 d1 d2 d3 hcr;go_wp2_with fail
    go_roundg (vn-(i+1))
    case measure=>omega
    case rel=>exact ⟨i+1,fl,tl,fa,fc,ga,gc,rfl,by omega,rfl,rfl,by simp,HSN.out⟩
  ·obtain rfl:i=vn:=by omega
   have hil:¬ (i:Int)<(i:Int):=by omega
   obtain ⟨tr,hr0,hr1,hr2,hr3⟩:=info_parts Tryz.infoRefS;have HIR:=Lib.hid (And.intro hr0 (And.intro hr1 (And.intro hr2 hr3)));have HSS:=Lib.hid hS;have HUR:=Lib.hid hup;obtain ⟨T,q,hk0,_⟩:=HL.out.mem.ker
   have HK:Hid (∀ z,Upd [] wB z->KerIn z b K T q):=fun z u=>hk0.upd u (by simp)
   have HRR:Hid (∀ z,Upd [] wr z->z.ownsRow N 62 1 (.slice fa fl.length fc) fl.length (flatRefs fl)):=fun z u=>row_keep hS.pl.rr fun k hk=>u.block k (hS.pl.rr.lt k hk).2 (by simp)
   have HCF:Hid (∀ u,u∈flatRefs fl->u.oneCell'=true):=fun u hu=>by
    unfold flatRefs at hu
    obtain ⟨x,_,rfl⟩:=List.mem_map.1 hu;rfl
   have HTK:Hid (∀ x,x∈fl->K.A.tk x=true):=fun x hx=>by
    obtain ⟨i,hi⟩:=List.getElem?_of_mem hx;have hil:=(List.getElem?_eq_some_iff.1 hi).1;exact (HSS.out.nm i x _ hi (List.getElem?_eq_getElem (by rw [<- HSS.out.len];exact hil))).1
   have hvr:M.n=K.vars:=HLG.out.1.agr.same.n;have hor:M.order=K.order:=HLG.out.1.agr.same.od
   have HSZ:Hid (∀ z lv,Upd [] wr z->z.ownsRow N 62 1 lv fl.length (flatRefs fl)->Calls Tryz.prog 40 #[.pointer (some ⟨b,0,none⟩),lv] z fun e w'=>e=.returned (.tuple #[.int .i64 ((flatT tl M.order).length:Nat),.int .i64 0])/\Upd [] z w'):=fun z lv u hrow =>
    (size12_spec b lv fl K T q z (HK.out z (HUR.out.trans u)) (row_base hrow (Nat.zero_le _)) HTK.out (by have:=HSS.out.le;omega)).mono fun e w' hQ=>by
     obtain ⟨Nn,hN,rfl,_,hu⟩:=hQ.ex;refine ⟨?_,hu⟩;rw [hor,size_list hk0.ok (hk0.ti.uni hk0.ok.wf) (by rw [<- hvr];have:=HLG.out.1.fit.n6;omega) HSS.out.len (fun i r t h1 h2=>⟨HSS.out.nm i r t h1 h2,HSS.out.pl.tt.oks t (List.mem_of_getElem? h2),(HSS.out.tk t (List.mem_of_getElem? h2)).1⟩) hN]
   have HDS:Hid (∀ z,Upd [] wr z->Calls Tryz.prog 51 #[.pointer (some ⟨m,0,none⟩),.slice ga tl.length gc] z fun e w'=>e=.returned (.tuple #[.int .i64 ((flatT tl M.order).length:Nat),.int .i64 0])/\Upd [] z w'):=fun z u =>
    docsize_spec m N M p (F++p.all m) _ tl z (HL.out.mem.keep0 (HUR.out.trans u)).mod (HL.out.mem.keep0 (HUR.out.trans u)).z HLG.out.1.fit (by rw [HNZ.out.2];exact HSS.out.pl.tt.keep0 u) (fun t ht=>by rw [hvr];exact HSS.out.tk t ht) (by have:=HSS.out.le;have:=HSS.out.len;omega)
   have HLS:Hid (∀ z rr,Upd [] wB z->K.A.tk rr=false->rr<=4294967295->∀ lv,z.ownsRow N 62 1 lv (fl.length+1) (flatRefs fl++[.int .u32 rr])->Calls Tryz.prog 40 #[.pointer (some ⟨b,0,none⟩),lv] z fun e w'=>e=.returned (.tuple #[.int .i64 0,.int .i64 3])/\Upd [] z w'):=fun z rr u h1 h2 lv h3 =>
    size_last b rr K T q lv fl z (HK.out z u) (row_base h3 (Nat.zero_le _)) HTK.out h1 h2 (by have:=HSS.out.le;omega)
   have HST:Hid (∀ z,Upd [] wB z->Calls Tryz.prog 53 #[.agg #[.pointer (some ⟨b,0,none⟩),.pointer (some ⟨m,0,none⟩),.slice xa refs.length xc,.slice ya tabs.length yc]] z fun e w'=>e=.returned (.bool true)/\Upd [] z w'):=fun z u =>
    stands_spec b m _ _ K F M p refs tabs z (WIn.of (HL.out.mem.keep0 u) HLG.out.1) (by rw [HLG.out.2.2.2.1,HLG.out.2.2.2.2.1]) (by rw [HLG.out.2.2.2.1];simp)
   have HX:Hid (∀ z,Upd [] wB z->z.cell? ⟨a,0,none⟩=some (.pointer (some ⟨b,0,none⟩))/\z.cell? ⟨a,1,none⟩=some (.pointer (some ⟨m,0,none⟩))/\z.cell? ⟨a,2,none⟩=some (.slice xa refs.length xc)/\z.cell? ⟨a,3,none⟩=some (.slice ya tabs.length yc)):=fun z u=>by
    obtain ⟨c0,c1,c2,c3⟩:=HL.out.cells;exact ⟨u.cell0 c0,u.cell0 c1,u.cell0 c2,u.cell0 c3⟩
   have HNR:Hid (N<=wr.heap.size):=by show N<=_;rw [<- HNZ.out.1];exact hup.size
   have HFB:Hid (∀ k,(Value.slice fa fl.length fc).ownBlock=some k->wB.heap.size<=k/\k<wr.heap.size):=fun k hk=>by rw [HNZ.out.1];exact hS.pl.rr.lt k hk
   have HROF:Hid (fa=none->fl.length=0):=fun e=>by
    rcases hS.pl.rr.2 with ⟨_,h0⟩ | ⟨g,cap,cur,hv,_⟩
    ·omega
    ·subst e;simp at hv
   have hfl12:=hS.le
   have HFLL:Hid ((flatRefs fl).length=fl.length*1):=by show _=_;simp [flatRefs]
   obtain ⟨S,hSz⟩ : ∃ S,(flatT tl M.order).length=S:=⟨_,rfl⟩;rw [hSz] at HSZ HDS;clear hS hup hr0 hr1 hr2 hr3 hlen hk0 hSz hvr hor;go_upto_region 13 with fail;refine wp_region_until (fun z=>z.cell? ⟨a,0,none⟩=some (.pointer (some ⟨b,0,none⟩))) (fun _=>True) [] (by kernel_rfl) ?_;have hS:=(HX.out _ (HUR.out.trans (Upd.refl _ _).drew)).1;have hE:True:=trivial;refine wpAnyU_takeS (i:=0) (v:=?v201) rfl (by kernel_rfl) (by kernel_rfl) (by kernel_rfl) (by kernel_rfl) (fun _ _ _ h=>h) (Or.inl ⟨by rfl,?hy201⟩) hS (fun _=>hE) ?rest201
   case hy201=>(intro x hSx;(try dsimp only at hSx);go_simp;try with_reducible rfl)
   (try simp only [Act.put,List.setIfInBounds_toArray])
   refine wpAnyU_takeS (i:=1) (v:=?v202) rfl (by kernel_rfl) (by kernel_rfl) (by kernel_rfl) (by kernel_rfl) (fun _ _ _ h=>h) (Or.inl ⟨by rfl,?hy202⟩) hS (fun _=>hE) ?rest202
   case hy202=>(intro x hSx;(try dsimp only at hSx);go_simp;try with_reducible rfl)
   (try simp only [Act.put])
   refine wpAnyU_takeS (i:=3) (v:=?v203) rfl (by kernel_rfl) (by kernel_rfl) (by kernel_rfl) (by kernel_rfl) (fun _ _ _ h=>h) (Or.inl ⟨by rfl,?hy203⟩) hS (fun _=>hE) ?rest203
   case hy203=>(intro x hSx;(try dsimp only at hSx);go_simp;try with_reducible rfl)
   (try simp only [Act.put])
   refine wpAnyU_ready (rs:=[2]) (by kernel_rfl) (by simp) ?_;refine AllReadyU.cons rfl (fun Kx hK=>?_) ?_
   rotate_left
   exact AllReadyU.nil
   go_simp
   refine hK.out _ _ ⟨(HX.out _ (HUR.out.trans ((Upd.refl _ _).drew.alloc _))).1,fun _=>trivial⟩ (fun hHeld=>?_);clear hK Kx;obtain ⟨hS,hE⟩:=hHeld;have hE:=hE (by kernel_rfl)
   (try simp only [Act.put,List.setIfInBounds_toArray,List.set_cons_zero,List.set_cons_succ])
   refine wpAnyU_ready (rs:=[4]) (by kernel_rfl) (by simp) ?_;refine AllReadyU.cons rfl (fun Kx hK=>?_) ?_
   rotate_left
   exact AllReadyU.nil;refine step_append_src (by rfl) (.tmp 68) (.tmp 69) 39 (by rfl) N 62 tr _ 1 4 Tryz.underlying39 HIR.out.1 HIR.out.2.1 HIR.out.2.2.1 HIR.out.2.2.2 (by rfl) (by decide) (.slice (some ⟨wr.heap.size,0,none⟩) 0 0) 0 [] (by rfl) ⟨rfl,.inr ⟨wr.heap.size,0,#[],rfl,HNR.out,heap_alloc_new _ _,Nat.le_refl _,by unfold maxLen;omega,rfl,rfl⟩⟩ fa fl.length fc (flatRefs fl) (by rfl) HROF.out HFLL.out (row_news (HRR.out _ ((Upd.refl _ _).drew.alloc _))) HCF.out (by unfold maxLen;omega) (by omega) (Nat.le_trans HNR.out (Upd.size (S:=[]) (w:=wr) (by repeat (first | exact Upd.refl _ _ | refine Upd.drew ?_ | refine Upd.alloc ?_ _)))) ?_
   intro lv w4 hown hgr hat
   have hu4:Upd [] wr w4:=((Upd.refl [] wr).drew.alloc (.cells #[] 62 (0,0))).grown hgr fun k hk=>.inr (by simp [Value.ownBlock] at hk;omega)
   have HG4:=Lib.hid (And.intro hown hu4);clear hown hgr hat hu4;refine hK.out _ _ ⟨(HX.out _ (HUR.out.trans HG4.out.2)).1,fun _=>trivial⟩ (fun hHeld=>?_);clear hK Kx;obtain ⟨hS,hE⟩:=hHeld;have hE:=hE (by kernel_rfl)
   (try simp only [Act.put,List.setIfInBounds_toArray])
   refine wpAnyU_ready (rs:=[5]) (by kernel_rfl) (by simp) ?_;refine AllReadyU.cons rfl (fun Kx hK=>?_) ?_
   rotate_left
   exact AllReadyU.nil
   go_simp
   refine (HSZ.out _ lv HG4.out.2 (by simpa using HG4.out.1)).mono ?_;rintro e w5 ⟨rfl,hu⟩;have HU5:=Lib.hid (HG4.out.2.trans hu);clear hu;go_wp2_with fail;refine hK.out _ _ ⟨(HX.out _ (HUR.out.trans HU5.out)).1,fun _=>trivial⟩ (fun hHeld=>?_);clear hK Kx;obtain ⟨hS,hE⟩:=hHeld;have hE:=hE (by kernel_rfl)
   (try simp only [Act.put,List.setIfInBounds_toArray,List.set_cons_zero,List.set_cons_succ])
   refine wpAnyU_takeS (i:=6) (v:=?v204) rfl (by kernel_rfl) (by kernel_rfl) (by kernel_rfl) (by kernel_rfl) (fun _ _ _ h=>h) (Or.inl ⟨by rfl,?hy204⟩) hS (fun _=>hE) ?rest204
   case hy204=>(intro x hSx;(try dsimp only at hSx);go_simp;try with_reducible rfl)
   (try simp only [Act.put,List.setIfInBounds_toArray])
   refine wpAnyU_takeS (i:=7) (v:=?v205) rfl (by kernel_rfl) (by kernel_rfl) (by kernel_rfl) (by kernel_rfl) (fun _ _ _ h=>h) (Or.inl ⟨by rfl,?hy205⟩) hS (fun _=>hE) ?rest205
   case hy205=>(intro x hSx;(try dsimp only at hSx);go_simp;try with_reducible rfl)
   (try simp only [Act.put])
   refine wpAnyU_takeS (i:=8) (v:=?v206) rfl (by kernel_rfl) (by kernel_rfl) (by kernel_rfl) (by kernel_rfl) (fun _ _ _ h=>h) (Or.inl ⟨by rfl,?hy206⟩) hS (fun _=>hE) ?rest206
   case hy206=>(intro x hSx;(try dsimp only at hSx);go_simp;try with_reducible rfl)
   (try simp only [Act.put])
   refine wpAnyU_takeS (i:=9) (v:=?v207) rfl (by kernel_rfl) (by kernel_rfl) (by kernel_rfl) (by kernel_rfl) (fun _ _ _ h=>h) (Or.inl ⟨by rfl,?hy207⟩) hS (fun _=>hE) ?rest207
   case hy207=>(intro x hSx;(try dsimp only at hSx);go_simp;try with_reducible rfl)
   (try simp only [Act.put])
   refine wpAnyU_takeS (i:=10) (v:=?v208) rfl (by kernel_rfl) (by kernel_rfl) (by kernel_rfl) (by kernel_rfl) (fun _ _ _ h=>h) (Or.inl ⟨by rfl,?hy208⟩) hS (fun _=>hE) ?rest208
   case hy208=>(intro x hSx;(try dsimp only at hSx);go_simp;try with_reducible rfl)
   (try simp only [Act.put])
   refine wpAnyU_done (by kernel_rfl) ?_ _;obtain ⟨_,d1,_,_⟩:=HX.out _ (HUR.out.trans HU5.out);clear hS hE;go_wp2_with fail;refine (HDS.out _ HU5.out).mono ?_;rintro e w6 ⟨rfl,hu⟩;have HU6:=Lib.hid (HU5.out.trans hu);obtain ⟨e0,e1,e2,e3⟩:=HX.out _ (HUR.out.trans HU6.out)
   have hss:((S:Int) != (S:Int))=false:=by simp
   clear hu d1;go_wp2_with fail;refine (dead_ref b iI K T q w6 (HK.out _ (HUR.out.trans HU6.out))).mono ?_;rintro e w7 hE;obtain ⟨rr,rfl,hd,hr32,hu⟩:=hE.ex;have HD:=Lib.hid (And.intro hd hr32);have HU7:=Lib.hid (HU6.out.trans hu);clear hE hd hr32 hu e0 e1 e2 e3
   cases dead with
   | false =>
    obtain ⟨e0,e1,e2,e3⟩:=HX.out _ (HUR.out.trans HU7.out);go_wp2_with fail;refine (HST.out _ (HUR.out.trans HU7.out)).mono ?_;rintro e w8 ⟨rfl,hu⟩;have HU8:=Lib.hid (HU7.out.trans hu);clear hu;go_wp2_with fail;go_ret;exact ⟨rfl,HUB.out.trans (HUR.out.trans HU8.out)⟩
   | true =>
    go_upto_region 19 with fail;refine wp_region_until (fun z=>z.cell? ⟨a,0,none⟩=some (.pointer (some ⟨b,0,none⟩))) (fun _=>True) [] (by kernel_rfl) ?_;have hS:=(HX.out _ (HUR.out.trans HU7.out.drew)).1;have hE:True:=trivial;refine wpAnyU_takeS (i:=0) (v:=?v209) rfl (by kernel_rfl) (by kernel_rfl) (by kernel_rfl) (by kernel_rfl) (fun _ _ _ h=>h) (Or.inl ⟨by rfl,?hy209⟩) hS (fun _=>hE) ?rest209
    case hy209=>(intro x hSx;(try dsimp only at hSx);go_simp;try with_reducible rfl)
    (try simp only [Act.put,List.setIfInBounds_toArray])
    refine wpAnyU_takeS (i:=1) (v:=?v210) rfl (by kernel_rfl) (by kernel_rfl) (by kernel_rfl) (by kernel_rfl) (fun _ _ _ h=>h) (Or.inl ⟨by rfl,?hy210⟩) hS (fun _=>hE) ?rest210
    case hy210=>(intro x hSx;(try dsimp only at hSx);go_simp;try with_reducible rfl)
    (try simp only [Act.put])
    refine wpAnyU_takeS (i:=2) (v:=?v211) rfl (by kernel_rfl) (by kernel_rfl) (by kernel_rfl) (by kernel_rfl) (fun _ _ _ h=>h) (Or.inl ⟨by rfl,?hy211⟩) hS (fun _=>hE) ?rest211
    case hy211=>(intro x hSx;(try dsimp only at hSx);go_simp;try with_reducible rfl)
    (try simp only [Act.put])
    refine wpAnyU_takeS (i:=3) (v:=?v212) rfl (by kernel_rfl) (by kernel_rfl) (by kernel_rfl) (by kernel_rfl) (fun _ _ _ h=>h) (Or.inl ⟨by rfl,?hy212⟩) hS (fun _=>hE) ?rest212
    case hy212=>(intro x hSx;(try dsimp only at hSx);go_simp;try with_reducible rfl)
    (try simp only [Act.put])
    refine wpAnyU_ready (rs:=[4]) (by kernel_rfl) (by simp) ?_;refine AllReadyU.cons rfl (fun Kx hK=>?_) ?_
    rotate_left
    exact AllReadyU.nil
    go_simp
    refine hK.out _ _ ⟨(HX.out _ (HUR.out.trans (HU7.out.drew.alloc _))).1,fun _=>trivial⟩ (fun hHeld=>?_);clear hK Kx;obtain ⟨hS,hE⟩:=hHeld;have hE:=hE (by kernel_rfl)
    (try simp only [Act.put,List.setIfInBounds_toArray,List.set_cons_zero,List.set_cons_succ])
    refine wpAnyU_ready (rs:=[5]) (by kernel_rfl) (by simp) ?_;refine AllReadyU.cons rfl (fun Kx hK=>?_) ?_
    rotate_left
    exact AllReadyU.nil;refine step_append_lies _ (by rfl) (.tmp 103) (.tmp 105) 39 (by rfl) N 62 tr _ 1 4 Tryz.underlying39 HIR.out.1 HIR.out.2.1 HIR.out.2.2.1 HIR.out.2.2.2 (by rfl) (by decide) (.slice fa fl.length fc) fl.length (flatRefs fl) (by rfl) (HRR.out _ (HU7.out.drew.alloc _)) ⟨_,0,none⟩ 1 1 [.int .u32 rr] (by rfl) (by rfl) (World.news_of_block (cs:=#[.int .u32 rr]) (t:=62) (fr:=(0,0)) (heap_alloc_new _ _)) (by intro u hu;simp at hu;subst hu;rfl) (by omega) (by unfold maxLen;omega) (by omega) (Nat.le_trans HNR.out (Upd.size (S:=[]) (HU7.out.drew.alloc _))) _ (by rfl) ?_
    intro g1 cap1 w8 hown hgr hat hlt8
    have hu8:Upd [] wB w8:=(HUR.out.trans (HU7.out.drew.alloc (.cells #[.int .u32 rr] 62 (0,0)))).grown hgr fun k hk=>.inr (by have:=(HFB.out k hk).1;omega)
    have HG8:=Lib.hid (And.intro hown hu8);clear hown hgr hat hlt8 hu8;refine hK.out _ _ ⟨(HX.out _ HG8.out.2).1,fun _=>trivial⟩ (fun hHeld=>?_);clear hK Kx;obtain ⟨hS,hE⟩:=hHeld;have hE:=hE (by kernel_rfl)
    (try simp only [Act.put,List.setIfInBounds_toArray])
    refine wpAnyU_ready (rs:=[6]) (by kernel_rfl) (by simp) ?_;refine AllReadyU.cons rfl (fun Kx hK=>?_) ?_
    rotate_left
    exact AllReadyU.nil
    go_simp
    refine (HLS.out _ rr HG8.out.2 HD.out.1 HD.out.2 _ HG8.out.1).mono ?_;rintro e w9 ⟨rfl,hu⟩;have HU9:=Lib.hid (HG8.out.2.trans hu);clear hu;go_wp2_with fail;refine hK.out _ _ ⟨(HX.out _ HU9.out).1,fun _=>trivial⟩ (fun hHeld=>?_);clear hK Kx;obtain ⟨hS,hE⟩:=hHeld;have hE:=hE (by kernel_rfl)
    (try simp only [Act.put,List.setIfInBounds_toArray,List.set_cons_zero,List.set_cons_succ])
    refine wpAnyU_takeS (i:=7) (v:=?v213) rfl (by kernel_rfl) (by kernel_rfl) (by kernel_rfl) (by kernel_rfl) (fun _ _ _ h=>h) (Or.inl ⟨by rfl,?hy213⟩) hS (fun _=>hE) ?rest213
    case hy213=>(intro x hSx;(try dsimp only at hSx);go_simp;try with_reducible rfl)
    (try simp only [Act.put,List.setIfInBounds_toArray])
    refine wpAnyU_takeS (i:=8) (v:=?v214) rfl (by kernel_rfl) (by kernel_rfl) (by kernel_rfl) (by kernel_rfl) (fun _ _ _ h=>h) (Or.inl ⟨by rfl,?hy214⟩) hS (fun _=>hE) ?rest214
    case hy214=>(intro x hSx;(try dsimp only at hSx);go_simp;try with_reducible rfl)
    (try simp only [Act.put])
    refine wpAnyU_takeS (i:=9) (v:=?v215) rfl (by kernel_rfl) (by kernel_rfl) (by kernel_rfl) (by kernel_rfl) (fun _ _ _ h=>h) (Or.inl ⟨by rfl,?hy215⟩) hS (fun _=>hE) ?rest215
    case hy215=>(intro x hSx;(try dsimp only at hSx);go_simp;try with_reducible rfl)
    (try simp only [Act.put])
    refine wpAnyU_takeS (i:=10) (v:=?v216) rfl (by kernel_rfl) (by kernel_rfl) (by kernel_rfl) (by kernel_rfl) (fun _ _ _ h=>h) (Or.inl ⟨by rfl,?hy216⟩) hS (fun _=>hE) ?rest216
    case hy216=>(intro x hSx;(try dsimp only at hSx);go_simp;try with_reducible rfl)
    (try simp only [Act.put])
    refine wpAnyU_takeS (i:=11) (v:=?v217) rfl (by kernel_rfl) (by kernel_rfl) (by kernel_rfl) (by kernel_rfl) (fun _ _ _ h=>h) (Or.inl ⟨by rfl,?hy217⟩) hS (fun _=>hE) ?rest217
    case hy217=>(intro x hSx;(try dsimp only at hSx);go_simp;try with_reducible rfl)
    (try simp only [Act.put])
    refine wpAnyU_done (by kernel_rfl) ?_ _;obtain ⟨e0,e1,e2,e3⟩:=HX.out _ HU9.out;clear hS hE;go_wp2_with fail;refine (HST.out _ HU9.out).mono ?_;rintro e w10 ⟨rfl,hu⟩;have HU10:=Lib.hid (HU9.out.trans hu);clear hu;go_wp2_with fail;go_ret;exact ⟨rfl,HUB.out.trans HU10.out⟩
end Go.Proofs.YtlkgkojidclncaaGreat
