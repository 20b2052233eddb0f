import Derived.Test.YtfkopmhpppeheaaGreatPY12
import Derived.Test.YtfkopmhpppeheaaGreatPY23
set_option maxRecDepth 100000
set_option maxHeartbeats 6400000
namespace Go.Proofs.YtfkopmhpppeheaaGreat
open Go.RowKit Go.Maps Go.ChangeMaps Go.WideShapes
theorem box_set {x:World} {B a j:Nat} {v0 v1:Value} (h:x.cell? ⟨B,0,none⟩=some v0/\x.cell? ⟨B,1,none⟩=some v1) (hne:B≠a) (u:Value):(x.setCell ⟨a,j,none⟩ u).cell? ⟨B,0,none⟩=some v0/\(x.setCell ⟨a,j,none⟩ u).cell? ⟨B,1,none⟩=some v1:=by
 have hb:(x.setCell ⟨a,j,none⟩ u).heap[B]?=x.heap[B]?:=heap_set_ne hne;exact ⟨(World.cell?_of_block (a:=⟨B,0,none⟩) hb).trans h.1,(World.cell?_of_block (a:=⟨B,1,none⟩) hb).trans h.2⟩
theorem wlay_spec (n0 a b m:Nat) (rv tv:Value) (K:KV) (F:List Nat) (M:MV) (p:MPtr) (refs:List Nat) (tabs:List TV) (c:Value) (t:TV) (w:World) (h:LIn w n0 a b m rv tv K F M p refs tabs) (l:WLog K M refs tabs) (al:WAll K refs tabs)
  (ht:TIn w (F++p.all m) c t) (htn:t.n=K.vars) (hta:∀ k,c.ownBlock=some k->k≠a) (hh:∀ x,K.hold x<=1000) (hml:M.held.length<=1000) (hrl:refs.length<=500) :
  Calls Tryz.prog 99 #[.pointer (some ⟨a,0,none⟩),tabV t c] w fun e w'=>LayW n0 a b m K M refs tabs t w e w':=by
 have hn6:K.vars<=8:=by rw [<- l.agr.same.n];exact l.fit.n6
 obtain ⟨ta,tc,rfl,_⟩:=row_nil_len ht.row;have HL:=Lib.hid h;have HLG:=Lib.hid (And.intro l al);have HT:=Lib.hid ht;have hz:=h.mem.z;have hvs:=h.mem.ker.ok.wf.vs;have HLAY:=Lib.hid (lay_spec m b M p l.fit K.vars K F (F++p.all m) (fun g=>K.SubN t.fn g) (.slice ta t.ws.length tc) t);have hok:=ht.ok;obtain ⟨c0,c1,c2,c3⟩:=h.cells;have hb:=boxT w (.int .i64 t.n) (.slice ta t.ws.length tc);have HU0:=Lib.hid ((Upd.refl [] w).alloc (.cells #[.int .i64 t.n,.slice ta t.ws.length tc] 122 (0,0)))
 have hFl:∀ k,k∈F->k<w.heap.size:=fun k hk=>hz k (List.mem_append.2 (.inl hk))
 have hal:=heap_lt h.blk
 have HLC:Hid (∀ x:World,Upd [] w x->Calls Tryz.prog 170 #[.pointer (some ⟨b,0,none⟩),.pointer (some ⟨m,0,none⟩),tabV t (.slice ta t.ws.length tc)] x fun e w'=>LayQ b K F (fun g=>K.SubN t.fn g) t x e w'):=fun x u =>
  HLAY.out x (h.mem.mod.keep0 u) (h.mem.ker.upd u (by simp)) (fun k hk=>Nat.lt_of_lt_of_le (hz k hk) u.size) (fun k hk=>List.mem_append.2 (.inl hk)) h.mem.dj l.agr.same (ht.keep0 u) (htn.trans l.agr.same.n.symm) (fun v hv hl=>by omega) (Nat.le_refl _) (fun x=>by have:=hh x;omega) (fun g hg=>hg)
 have HTN:=Lib.hid htn;have HOK:=Lib.hid hok;unfold tabV at HLC ⊢;generalize hW:t.ws.length=W at *;generalize hn:t.n=n at *;have HN:=Lib.hid (And.intro hW hn);obtain ⟨b0,b1⟩:=hb
 have HK:Hid (∀ x:World,Upd F (w.alloc (.cells #[.int .i64 n,.slice ta W tc] 122 (0,0))) x->(x.cell? ⟨a,0,none⟩=some (.pointer (some ⟨b,0,none⟩))/\x.cell? ⟨a,1,none⟩=some (.pointer (some ⟨m,0,none⟩)))/\x.cell? ⟨w.heap.size,0,none⟩=some (.int .i64 n)/\x.cell? ⟨w.heap.size,1,none⟩=some (.slice ta W tc)):=fun x u=>by
  have hs:w.heap.size∉F:=fun hm=>by have:=hFl _ hm;omega
  exact ⟨⟨(u.cell (a:=⟨a,0,none⟩) (by rw [World.size_alloc];show a<_;omega) h.na.1).trans (HU0.out.cell0 c0),(u.cell (a:=⟨a,1,none⟩) (by rw [World.size_alloc];show a<_;omega) h.na.1).trans (HU0.out.cell0 c1)⟩,
   (u.cell (a:=⟨w.heap.size,0,none⟩) (World.block_lt_of_cell? _ _ b0) hs).trans b0,(u.cell (a:=⟨w.heap.size,1,none⟩) (World.block_lt_of_cell? _ _ b1) hs).trans b1⟩
 clear h l al ht hz c0 c1 c2 c3 hok htn hW hn HLAY;obtain ⟨⟨c0,c1⟩,b0,b1⟩:=HK.out _ (Upd.refl _ _)
 go_enter Tryz.func99,Tryz.ntmps99
 go_wp2_with fail
 go_region_held3 (fun x=>(x.cell? ⟨a,0,none⟩=some (.pointer (some ⟨b,0,none⟩))/\x.cell? ⟨a,1,none⟩=some (.pointer (some ⟨m,0,none⟩)))/\x.cell? ⟨w.heap.size,0,none⟩=some (.int .i64 n)/\x.cell? ⟨w.heap.size,1,none⟩=some (.slice ta W tc)) (first | exact HK.out _ (Upd.refl _ _).drew | exact HK.out _ HO.out.2.2.1) (first | (go_at_call 170;refine (HLC.out _ HU0.out.drew).mono ?_;rintro e w1 hE;obtain ⟨r,code,K1,F1,rfl,hR,hK1,hu,hs⟩:=hE.ex;have HO:=Lib.hid (And.intro hR (And.intro hK1 (And.intro hu.of_drew hs)));clear hE hR hK1 hu hs))
 obtain ⟨⟨c0,c1⟩,b0,b1⟩:=HK.out _ HO.out.2.2.1;have HL1:=Lib.hid ((HL.out.keep0 HU0.out).kernel HO.out.2.1 HO.out.2.2.1 HO.out.2.2.2)
 have HT1:Hid (TIn w1 (F1++p.all m) (.slice ta W tc) t):=by
  refine ((((HT.out.keep0 HU0.out).apart (Z':=F++(F1++p.all m)) fun k hk=>?_).keep HO.out.2.2.1 fun k hk=>.inl (List.mem_append.2 (.inl hk)))).apart fun k hk=>.inl (List.mem_append.2 (.inr hk))
  rcases List.mem_append.1 hk with hk | hk
  ·exact .inl (List.mem_append.2 (.inl hk))
  ·rcases List.mem_append.1 hk with hk | hk
   ·exact (HO.out.2.2.2 k hk).imp (fun h=>List.mem_append.2 (.inl h)) id
   ·exact .inl (List.mem_append.2 (.inr hk))
 clear HLC
 have HFT:Hid (∀ (x:World) (B:Nat),Upd [] w1 x->x.heap[B]?=some (.cells #[.int .i64 n,.slice ta W tc] 122 (0,0))->w1.heap.size<=B->Calls Tryz.prog 138 #[.pointer (some ⟨m,0,none⟩),.slice (some ⟨B,0,none⟩) 1 1] x fun e w'=>e=.returned (.bool (M.fits [t]))/\Upd [] x w'):=fun x B u hB hs =>
  fits9_spec m 0 M p (F1++p.all m) _ [t] x (HL1.out.1.mem.mod.keep0 u) (fun k hk=>Nat.lt_of_lt_of_le (HL1.out.1.mem.z k hk) u.size) HLG.out.1.fit (TLs.one (by rw [HN.out.2];exact hB) (HT1.out.keep0 u) (Nat.zero_le _) fun hm=>by have:=HL1.out.1.mem.z B hm;omega) (fun s hs=>by simp at hs;subst hs;rw [HN.out.2,HTN.out];exact HLG.out.1.agr.same.n.symm) (by simp)
 have HKK:Hid (∀ x:World,Upd [] w1 x->(x.cell? ⟨a,1,none⟩=some (.pointer (some ⟨m,0,none⟩)))/\x.cell? ⟨w.heap.size,0,none⟩=some (.int .i64 n)/\x.cell? ⟨w.heap.size,1,none⟩=some (.slice ta W tc)):=fun x u=>⟨u.cell0 c1,u.cell0 b0,u.cell0 b1⟩
 have HBN:=Lib.hid (heap_alloc_new w1.drew (.cells #[.int .i64 n,.slice ta W tc] 122 (0,0)))
 rcases HO.out.1 with ⟨rfl,e1,t1,d1,hd1,n1⟩ | ⟨rfl,rfl,e1,b1',hd1,nf⟩
 ·have hnm:Names K1 r t:=⟨t1,d1⟩
  have htk:t.n=K.vars:=by rw [HN.out.2];exact HTN.out
  have hft:=HLG.out.1.agr.fits_yes HL.out.mem.ker.ok HO.out.2.1.ok HO.out.2.1.uni (by omega) HOK.out htk e1 hnm hd1
  have HFY:Hid (M.layT t=M.hold1 t):=by show M.layT t=_;unfold MV.layT;rw [if_pos hft]
  rw [hft] at HFT;have hyes:=HLG.out.1.yes HLG.out.2 HL.out.mem.ker.ok HL.out.mem.ker.uni HO.out.2.1.ok HO.out.2.1.uni (by omega) HOK.out htk e1 hnm hd1 (by omega) (by omega);have HYES:=Lib.hid hyes;have HX:=Lib.hid (And.intro e1 (And.intro hd1 hnm))
  have hmx:∀ u,u∈M.held->u.2<=65535:=fun u hu=>by
   obtain ⟨_,_,s,_,_,h5,_⟩:=HLG.out.1.agr.hl u.1 u.2 hu
   rw [<- h5];exact HL.out.mem.ker.ok.wf.hm s
  have HH1:Hid (∀ x:World,Upd [] w1 x->Calls Tryz.prog 139 #[.pointer (some ⟨m,0,none⟩),tabV t (.slice ta W tc)] x fun e w'=>Hold1Q m M p (F1++p.all m) t x e w'):=fun x u =>
   hold1_spec m M p (F1++p.all m) _ t x (HL1.out.1.mem.mod.keep0 u) (fun k hk=>Nat.lt_of_lt_of_le (HL1.out.1.mem.z k hk) u.size) (HT1.out.keep0 u) (by omega) hmx
  unfold tabV at HH1;rw [HN.out.2] at HH1;clear e1 t1 d1 hd1 n1 hft hyes hnm htk hmx;go_wp2_with fail
  go_region_held3 (fun x=>(x.cell? ⟨a,1,none⟩=some (.pointer (some ⟨m,0,none⟩)))/\x.cell? ⟨w.heap.size,0,none⟩=some (.int .i64 n)/\x.cell? ⟨w.heap.size,1,none⟩=some (.slice ta W tc)) (first | exact HKK.out _ (Upd.refl _ _).drew | exact HKK.out _ ((Upd.refl _ _).drew.alloc _) | exact HKK.out _ HO2.out) (first | (go_at_call 138;refine (HFT.out _ _ ((Upd.refl _ _).drew.alloc _) HBN.out (Nat.le_refl _)).mono ?_;rintro e w2 ⟨rfl,hu⟩;have HO2:=Lib.hid (((Upd.refl [] w1).drew.alloc (.cells #[.int .i64 n,.slice ta W tc] 122 (0,0))).trans hu);clear hu))
  obtain ⟨c1,b0,b1⟩:=HKK.out _ HO2.out;clear HFT HBN c0;go_wp2_with fail
  go_region_held3 (fun x=>(x.cell? ⟨a,1,none⟩=some (.pointer (some ⟨m,0,none⟩)))/\x.cell? ⟨w.heap.size,0,none⟩=some (.int .i64 n)/\x.cell? ⟨w.heap.size,1,none⟩=some (.slice ta W tc)) (first | exact HKK.out _ HO2.out.drew | exact HKW.out) (first | (go_at_call 139;refine (HH1.out _ HO2.out.drew).mono ?_;rintro e w3 hE;obtain ⟨rfl,hm3⟩:=hE.ex;rw [HYES.out.1];have HO3:=Lib.hid hm3;have HKW:Hid ((w3.cell? ⟨a,1,none⟩=some (.pointer (some ⟨m,0,none⟩)))/\w3.cell? ⟨w.heap.size,0,none⟩=some (.int .i64 n)/\w3.cell? ⟨w.heap.size,1,none⟩=some (.slice ta W tc)):=(by obtain ⟨p3,q1,q2,q3⟩:=hm3.ex;obtain ⟨x1,x2,x3⟩:=HKK.out _ HO2.out.drew;have hnp:∀ k,k∈p.all m->k<w.heap.size:=(fun k hk=>HL.out.mem.z k (List.mem_append.2 (.inr hk)));have hsp:w.heap.size∉p.all m:=(fun hm=>absurd (hnp _ hm) (Nat.lt_irrefl _));exact ⟨(q2.cell (a:=⟨a,1,none⟩) (World.block_lt_of_cell? _ _ x1) HL.out.na.2).trans x1,(q2.cell (a:=⟨w.heap.size,0,none⟩) (World.block_lt_of_cell? _ _ x2) hsp).trans x2,(q2.cell (a:=⟨w.heap.size,1,none⟩) (World.block_lt_of_cell? _ _ x3) hsp).trans x3⟩);clear hE hm3))
  have hl2:=(HL1.out.1.keep0 HO2.out).keep0 (Upd.refl [] w2).drew;obtain ⟨p3,hl3,hf3,hu3,hs3⟩:=hl2.model2 HO3.out;have HL3:=Lib.hid (And.intro hl3 ((Fro.of0 HU0.out).trans (HL1.out.2.trans ((Fro.of0 HO2.out).trans ((Fro.of0 (Upd.refl [] w2).drew).trans hf3)))))
  have HTW3:Hid (TIn w3 (F1++p3.all m) (.slice ta W tc) t):=by
   refine (((((HT1.out.keep0 HO2.out).keep0 (Upd.refl [] w2).drew).apart (Z':=(F1++p.all m)++p3.all m) fun k hk=>?_).keep hu3 fun k hk=>.inl (List.mem_append.2 (.inl (List.mem_append.2 (.inr hk)))))).apart fun k hk=>.inl ?_
   ·rcases List.mem_append.1 hk with hk | hk
    ·exact .inl hk
    ·exact (hs3 k hk).imp (fun h=>List.mem_append.2 (.inr h)) id
   ·rcases List.mem_append.1 hk with hk | hk
    ·exact List.mem_append.2 (.inl (List.mem_append.2 (.inl hk)))
    ·exact List.mem_append.2 (.inr hk)
  clear hu3 hs3
  have hB1:∀ k,(rv.ownBlock=some k\/tv.ownBlock=some k)->k<w.heap.size/\k≠a:=fun k hk=>by
   rcases hk with h | h
   ·refine ⟨(HL.out.mem.rr.lt k h).2,fun e=>?_⟩
    subst e;obtain ⟨c,f,h1⟩:=row_type HL.out.mem.rr h;rw [HL.out.blk] at h1
    injection h1 with h1;injection h1 with _ h1 _;exact absurd h1 (by decide)
   ·obtain ⟨xs,hr⟩:=HL.out.mem.tt.row
    refine ⟨(hr.lt k h).2,fun e=>?_⟩;subst e;obtain ⟨c,f,h1⟩:=row_type hr h;rw [HL.out.blk] at h1
    injection h1 with h1;injection h1 with _ h1 _;exact absurd h1 (by decide)
  have HB1:=Lib.hid hB1;obtain ⟨ra,rc,hrv,_⟩:=row_nil_len HL3.out.1.mem.rr;obtain ⟨xa,xc,htv,_⟩:=HL3.out.1.mem.tt.form;subst hrv htv;obtain ⟨c0,c1,c2,c3⟩:=HL3.out.1.cells;obtain ⟨_,b0,b1⟩:=HKW.out
  have HS:Hid (∀ x:World,Upd ((Value.slice ra refs.length rc).ownBlock.toList++(Value.slice xa tabs.length xc).ownBlock.toList) w3 x->x.cell? ⟨a,2,none⟩=some (.slice ra refs.length rc)/\x.cell? ⟨a,3,none⟩=some (.slice xa tabs.length xc)/\x.cell? ⟨w.heap.size,0,none⟩=some (.int .i64 n)/\x.cell? ⟨w.heap.size,1,none⟩=some (.slice ta W tc)):=fun x u=>by
   have no:∀ k,(k=a\/k=w.heap.size)->k∉(Value.slice ra refs.length rc).ownBlock.toList++(Value.slice xa tabs.length xc).ownBlock.toList:=fun k hk hm=>by
    have hm:(Value.slice ra refs.length rc).ownBlock=some k\/(Value.slice xa tabs.length xc).ownBlock=some k:=by simpa using hm
    have:=HB1.out k hm
    rcases hk with rfl | rfl
    ·exact this.2 rfl
    ·omega
   exact ⟨(u.cell (World.block_lt_of_cell? _ _ c2) (no a (.inl rfl))).trans c2,(u.cell (World.block_lt_of_cell? _ _ c3) (no a (.inl rfl))).trans c3,(u.cell (World.block_lt_of_cell? _ _ b0) (no _ (.inr rfl))).trans b0,(u.cell (World.block_lt_of_cell? _ _ b1) (no _ (.inr rfl))).trans b1⟩
  clear hB1 hta HKK HO2 HH1;go_wp2_with fail;obtain ⟨cs,hcs1,hcs2,hcs3⟩:=HL3.out.1.mem.tt.ex;obtain ⟨tr,hr0,hr1,hr2,hr3⟩:=info_parts Tryz.infoRefS;obtain ⟨tt,ht0,ht1,ht2,ht3⟩:=info_parts Tryz.infoTable;have HIR:=Lib.hid (And.intro hr0 (And.intro hr1 (And.intro hr2 hr3)));have HIT:=Lib.hid (And.intro ht0 (And.intro ht1 (And.intro ht2 ht3)));have HCS:=Lib.hid (And.intro hcs1 (And.intro hcs2 hcs3))
  have HRR:Hid (∀ x:World,Upd (Value.slice xa tabs.length xc).ownBlock.toList w3 x->x.ownsRow 0 77 1 (.slice ra refs.length rc) refs.length (flatRefs refs)):=fun x u=>row_keep HL3.out.1.mem.rr fun k hk=>u.block k (HL3.out.1.mem.rr.lt k hk).2 fun hm=>ty_ne HL3.out.1.mem.rr HCS.out.2.1 (by decide) hk (by simpa using hm)
  have HRT:Hid (∀ x:World,Upd (Value.slice ra refs.length rc).ownBlock.toList w3 x->x.ownsRow 0 122 2 (.slice xa tabs.length xc) tabs.length (flatTT tabs cs)):=fun x u=>row_keep HCS.out.2.1 fun k hk=>u.block k (HCS.out.2.1.lt k hk).2 fun hm=>ty_ne HCS.out.2.1 HL3.out.1.mem.rr (by decide) hk (by simpa using hm)
  have HFZ:Hid (∀ x:World,Upd ((Value.slice ra refs.length rc).ownBlock.toList++(Value.slice xa tabs.length xc).ownBlock.toList) w3 x->x.frozen? ⟨a,2,none⟩=false/\x.frozen? ⟨a,3,none⟩=false/\x.cell? ⟨a,2,none⟩=some (.slice ra refs.length rc)/\x.cell? ⟨a,3,none⟩=some (.slice xa tabs.length xc)):=fun x u=>by
   have no:a∉(Value.slice ra refs.length rc).ownBlock.toList++(Value.slice xa tabs.length xc).ownBlock.toList:=fun hm=>by
    rcases List.mem_append.1 hm with hm | hm
    ·exact blk_ne HL3.out.1.mem.rr HL3.out.1.blk (by decide) (by simpa using hm)
    ·exact blk_ne HCS.out.2.1 HL3.out.1.blk (by decide) (by simpa using hm)
   have hb:=(u.block a (heap_lt HL3.out.1.blk) no).trans HL3.out.1.blk;exact ⟨frozen_at 2 hb,frozen_at 3 hb,cell_at hb rfl,cell_at hb rfl⟩
  have HRL:Hid (∀ k,some k=(Value.slice ra refs.length rc).ownBlock->k<w3.heap.size):=fun k hk=>(HL3.out.1.mem.rr.lt k hk.symm).2
  have HC1:Hid (∀ u,u∈[Value.int .u32 r]->u.oneCell'=true):=by intro u hu;simp at hu;subst hu;rfl
  have HC2:Hid (∀ u,u∈[Value.int .i64 n,Value.slice ta W tc]->u.oneCell'=true):=by intro u hu;simp at hu;rcases hu with rfl | rfl <;> rfl
  have htl:tabs.length<=500:=by rw [<- HLG.out.1.lr];exact hrl
  clear hr0 hr1 hr2 hr3 ht0 ht1 ht2 ht3 hcs1 hcs2 hcs3
  have HDONE:Hid (∀ (g1 cap1 g2 cap2:Nat) (w6:World),Upd ((Value.slice ra refs.length rc).ownBlock.toList++(Value.slice xa tabs.length xc).ownBlock.toList) w3 w6->w6.ownsRow 0 77 1 (.slice (some ⟨g1,0,none⟩) (refs.length+1) cap1) (refs.length+1) (flatRefs refs++[.int .u32 r]) ->
    w6.ownsRow 0 122 2 (.slice (some ⟨g2,0,none⟩) (tabs.length+1) cap2) (tabs.length+1) (flatTT tabs cs++[.int .i64 n,.slice ta W tc])->(((Value.slice ra refs.length rc).ownBlock=some g1\/w3.heap.size<=g1)/\((Value.slice xa tabs.length xc).ownBlock=some g2\/w3.heap.size<=g2)) ->
    LayW n0 a b m K M refs tabs t w (.returned (.bool true)) ((w6.setCell ⟨a,2,none⟩ (.slice (some ⟨g1,0,none⟩) (refs.length+1) cap1)).setCell ⟨a,3,none⟩ (.slice (some ⟨g2,0,none⟩) (tabs.length+1) cap2))):=fun g1 cap1 g2 cap2 w6 u o1 o2 at_=>by
   have hT3:TIn w3 (F1++p3.all m) (.slice ta W tc) t:=HTW3.out;rw [<- HN.out.2] at o2;obtain ⟨hl,hf⟩:=HL3.out.1.push u HCS.out.1 HCS.out.2.2 o1 o2 at_.1 at_.2 hT3
   exact ⟨_,_,K1,F1,_,p3,_,_,rfl,hl,HYES.out.2.1,HYES.out.2.2,HL3.out.2.trans hf,fun x=>by rw [HX.out.2.1];split <;> omega,by simp,MV.hold1_len M t,MV.hold1_trail M t,HX.out.1,fun i r h=>by rw [List.getElem?_append_left (List.getElem?_eq_some_iff.1 h).1];exact h,by rw [HFY.out],fun x=>by rw [HX.out.2.1];omega,fun s hs=>by
    rcases List.mem_append.1 hs with h | h
    ·exact .inl h
    ·simp at h;subst h
     by_cases h2:2<=s
     ·right;right;rw [HX.out.2.1,if_pos ⟨rfl,h2⟩];omega
     ·right;left;omega⟩
  obtain ⟨y02,y03,y00,y01⟩:=HS.out (w3.alloc (.cells #[.int .u32 r] 77 (0,0))) ((Upd.refl _ _).alloc _);obtain ⟨y12,y13,y10,y11⟩:=HS.out (w3.alloc (.cells #[.int .i64 n,.slice ta W tc] 122 (0,0))) ((Upd.refl _ _).alloc _);obtain ⟨y22,y23,y20,y21⟩:=HS.out ((w3.alloc (.cells #[.int .u32 r] 77 (0,0))).alloc (.cells #[.int .i64 n,.slice ta W tc] 122 (0,0))) (((Upd.refl _ _).alloc _).alloc _);obtain ⟨y32,y33,y30,y31⟩:=HS.out ((w3.alloc (.cells #[.int .i64 n,.slice ta W tc] 122 (0,0))).alloc (.cells #[.int .u32 r] 77 (0,0))) (((Upd.refl _ _).alloc _).alloc _)
  have HXB:Hid (((w3.alloc (.cells #[.int .u32 r] 77 (0,0))).alloc (.cells #[.int .i64 n,.slice ta W tc] 122 (0,0))).heap[w3.heap.size+1]?=some (.cells #[.int .i64 n,.slice ta W tc] 122 (0,0))):=by
   have h:=heap_alloc_new (w3.alloc (.cells #[.int .u32 r] 77 (0,0))) (.cells #[.int .i64 n,.slice ta W tc] 122 (0,0))
   rw [World.size_alloc] at h;exact h
  have HXC:Hid (((w3.alloc (.cells #[.int .i64 n,.slice ta W tc] 122 (0,0))).alloc (.cells #[.int .u32 r] 77 (0,0))).heap[w3.heap.size]?=some (.cells #[.int .i64 n,.slice ta W tc] 122 (0,0))):=(Below.heap_alloc _ _ _ (heap_lt (heap_alloc_new _ _))).trans (heap_alloc_new _ _)
  have HNX:Hid (∀ k,w3.heap.size<=k->some k≠(Value.slice ra refs.length rc).ownBlock):=fun k hk e=>by have:=HRL.out k e;omega
  have HX1A:Hid ((w3.alloc (.cells #[.int .u32 r] 77 (0,0))).heap[w3.heap.size]?=some (.cells #[.int .u32 r] 77 (0,0))):=heap_alloc_new _ _;have HX1B:Hid (((w3.alloc (.cells #[.int .u32 r] 77 (0,0))).alloc (.cells #[.int .i64 n,.slice ta W tc] 122 (0,0))).heap[w3.heap.size]?=some (.cells #[.int .u32 r] 77 (0,0))):=(Below.heap_alloc _ _ _ (heap_lt (heap_alloc_new _ _))).trans (heap_alloc_new _ _)
  have HX1C:Hid (((w3.alloc (.cells #[.int .i64 n,.slice ta W tc] 122 (0,0))).alloc (.cells #[.int .u32 r] 77 (0,0))).heap[w3.heap.size+1]?=some (.cells #[.int .u32 r] 77 (0,0))):=by
   have h:=heap_alloc_new (w3.alloc (.cells #[.int .i64 n,.slice ta W tc] 122 (0,0))) (.cells #[.int .u32 r] 77 (0,0))
   rw [World.size_alloc] at h;exact h
  have HSB:Hid (∀ x:World,Upd ((Value.slice ra refs.length rc).ownBlock.toList++(Value.slice xa tabs.length xc).ownBlock.toList) w3 x->x.cell? ⟨w.heap.size,0,none⟩=some (.int .i64 n)/\x.cell? ⟨w.heap.size,1,none⟩=some (.slice ta W tc)):=fun x u=>⟨(HS.out x u).2.2.1,(HS.out x u).2.2.2⟩
  have hne:w.heap.size≠a:=by omega
  have HSE:Hid (∀ x:World,Upd ((Value.slice ra refs.length rc).ownBlock.toList++(Value.slice xa tabs.length xc).ownBlock.toList) w3 x->(x.cell? ⟨w.heap.size,0,none⟩=some (.int .i64 n)/\x.cell? ⟨w.heap.size,1,none⟩=some (.slice ta W tc))/\x.cell? ⟨a,2,none⟩=some (.slice ra refs.length rc)/\x.cell? ⟨a,3,none⟩=some (.slice xa tabs.length xc)):=fun x u=>⟨HSB.out x u,(HFZ.out x u).2.2.1,(HFZ.out x u).2.2.2⟩
  refine wp_region_until (fun x=>x.cell? ⟨w.heap.size,0,none⟩=some (.int .i64 n)/\x.cell? ⟨w.heap.size,1,none⟩=some (.slice ta W tc)) (fun x=>x.cell? ⟨a,2,none⟩=some (.slice ra refs.length rc)/\x.cell? ⟨a,3,none⟩=some (.slice xa tabs.length xc)) [18,21] (by kernel_rfl) ?_;have hS:=(HSE.out _ (Upd.refl _ _).drew).1;have hE:=(HSE.out _ (Upd.refl _ _).drew).2;refine wpAnyU_takeS (i:=0) (v:=?v1) rfl (by kernel_rfl) (by kernel_rfl) (by kernel_rfl) (by kernel_rfl) (fun _ _ _ h=>h) (Or.inl ⟨by rfl,?hy1⟩) hS (fun _=>hE) ?rest1
  case hy1=>(intro x hSx;(try dsimp only at hSx);go_simp;try with_reducible rfl)
  (try simp only [Act.put,List.setIfInBounds_toArray])
  refine wpAnyU_takeS (i:=1) (v:=?v901) rfl (by kernel_rfl) (by kernel_rfl) (by kernel_rfl) (by kernel_rfl) (fun _ _ _ h=>h) (Or.inl ⟨by rfl,?hy901⟩) hS (fun _=>hE) ?rest901
  case hy901=>(intro x hSx;(try dsimp only at hSx);go_simp;try with_reducible rfl)
  (try simp only [Act.put])
  refine wpAnyU_takeS (i:=2) (v:=?v2) rfl (by kernel_rfl) (by kernel_rfl) (by kernel_rfl) (by kernel_rfl) (fun _ _ _ h=>h) (Or.inl ⟨by rfl,?hy2⟩) hS (fun _=>hE) ?rest2
  case hy2=>(intro x hSx;(try dsimp only at hSx);go_simp;try with_reducible rfl)
  (try simp only [Act.put])
  refine wpAnyU_takeS (i:=3) (v:=?v3) rfl (by kernel_rfl) (by kernel_rfl) (by kernel_rfl) (by kernel_rfl) (fun _ _ _ h=>h) (Or.inl ⟨by rfl,?hy3⟩) hS (fun _=>hE) ?rest3
  case hy3=>(intro x hSx;(try dsimp only at hSx);go_simp;try with_reducible rfl)
  (try simp only [Act.put])
  refine wpAnyU_takeS (i:=4) (v:=?v4) rfl (by kernel_rfl) (by kernel_rfl) (by kernel_rfl) (by kernel_rfl) (fun _ _ _ h=>h) (Or.inl ⟨by rfl,?hy4⟩) hS (fun _=>hE) ?rest4
  case hy4=>(intro x hSx;(try dsimp only at hSx);go_simp;try with_reducible rfl)
  (try simp only [Act.put])
  refine wpAnyU_takeE (i:=5) (v:=?v5) rfl (by kernel_rfl) (by kernel_rfl) (by kernel_rfl) (by kernel_rfl) (by kernel_rfl) (by kernel_rfl) (fun _ _ _ h=>h) (Or.inl ⟨by rfl,?hy5⟩) hS (fun _=>hE) ?rest5
  case hy5=>(intro x hSx;(try dsimp only at hSx);go_simp;try with_reducible rfl)
  (try simp only [Act.put])
  refine wpAnyU_takeS (i:=6) (v:=?v6) rfl (by kernel_rfl) (by kernel_rfl) (by kernel_rfl) (by kernel_rfl) (fun _ _ _ h=>h) (Or.inl ⟨by rfl,?hy6⟩) hS (fun _=>hE) ?rest6
  case hy6=>(intro x hSx;(try dsimp only at hSx);go_simp;try with_reducible rfl)
  (try simp only [Act.put])
  refine wpAnyU_takeS (i:=9) (v:=?v7) rfl (by kernel_rfl) (by kernel_rfl) (by kernel_rfl) (by kernel_rfl) (fun _ _ _ h=>h) (Or.inl ⟨by rfl,?hy7⟩) hS (fun _=>hE) ?rest7
  case hy7=>(intro x hSx;(try dsimp only at hSx);go_simp;try with_reducible rfl)
  (try simp only [Act.put])
  refine wpAnyU_takeS (i:=10) (v:=?v8) rfl (by kernel_rfl) (by kernel_rfl) (by kernel_rfl) (by kernel_rfl) (fun _ _ _ h=>h) (Or.inl ⟨by rfl,?hy8⟩) hS (fun _=>hE) ?rest8
  case hy8=>(intro x hSx;(try dsimp only at hSx);go_simp;try with_reducible rfl)
  (try simp only [Act.put])
  refine wpAnyU_takeS (i:=11) (v:=?v9) rfl (by kernel_rfl) (by kernel_rfl) (by kernel_rfl) (by kernel_rfl) (fun _ _ _ h=>h) (Or.inl ⟨by rfl,?hy9⟩) hS (fun _=>hE) ?rest9
  case hy9=>(intro x hSx;(try dsimp only at hSx);go_simp;try with_reducible rfl)
  (try simp only [Act.put])
  refine wpAnyU_takeE (i:=12) (v:=?v10) rfl (by kernel_rfl) (by kernel_rfl) (by kernel_rfl) (by kernel_rfl) (by kernel_rfl) (by kernel_rfl) (fun _ _ _ h=>h) (Or.inl ⟨by rfl,?hy10⟩) hS (fun _=>hE) ?rest10
  case hy10=>(intro x hSx;(try dsimp only at hSx);go_simp;try with_reducible rfl)
  (try simp only [Act.put])
  refine wpAnyU_takeS (i:=13) (v:=?v11) rfl (by kernel_rfl) (by kernel_rfl) (by kernel_rfl) (by kernel_rfl) (fun _ _ _ h=>h) (Or.inl ⟨by rfl,?hy11⟩) hS (fun _=>hE) ?rest11
  case hy11=>(intro x hSx;(try dsimp only at hSx);go_simp;try with_reducible rfl)
  (try simp only [Act.put])
  refine wpAnyU_ready (rs:=[7,14]) (by kernel_rfl) (by simp) ?_;refine AllReadyU.cons rfl (fun K hK=>?_) ?_
  ·go_simp
   refine hK.out _ _ ⟨(HSE.out _ ((Upd.refl _ _).drew.alloc _)).1,fun _=>(HSE.out _ ((Upd.refl _ _).drew.alloc _)).2⟩ (fun hHeld=>?_);clear hK K;obtain ⟨hS,hE⟩:=hHeld;have hE:=hE (by kernel_rfl)
   (try simp only [Act.put,List.setIfInBounds_toArray,List.set_cons_zero,List.set_cons_succ])
   refine wpAnyU_ready (rs:=[8,14]) (by kernel_rfl) (by simp) ?_;refine AllReadyU.cons rfl (fun K hK=>?_) ?_
   ·
    (refine step_append_lies _ (by rfl) (.tmp 43) (.tmp 45) 42 (by rfl) 0 77 tr _ 1 4 Tryz.underlying42 HIR.out.1 HIR.out.2.1 HIR.out.2.2.1 HIR.out.2.2.2 (by rfl) (by decide) (.slice ra refs.length rc) refs.length (flatRefs refs) (by rfl) (HRR.out _ (by repeat (first | exact Upd.refl _ _ | refine Upd.drew ?_ | refine Upd.alloc ?_ _))) ⟨_,0,none⟩ 1 1 [.int .u32 r] (by rfl) (by rfl) (World.news_of_block (cs:=#[.int .u32 r]) (t:=77) (fr:=(0,0)) (by first | exact HX1A.out | exact HX1B.out | exact HX1C.out)) HC1.out (by omega) (by unfold maxLen;omega) (by omega) (Nat.zero_le _) _ (by rfl) ?_;intro g1 cap1 w5 hown1 hgr1 hat1 hlt1;have HG1:=Lib.hid (And.intro (Upd.grown (S:=(Value.slice ra refs.length rc).ownBlock.toList++(Value.slice xa tabs.length xc).ownBlock.toList) (w:=w3) (by repeat (first | exact Upd.refl _ _ | refine Upd.drew ?_ | refine Upd.alloc ?_ _)) hgr1 (fun k hk=>.inl (by simp [hk]))) (And.intro (Upd.grown (S:=(Value.slice ra refs.length rc).ownBlock.toList) (w:=w3) (by repeat (first | exact Upd.refl _ _ | refine Upd.drew ?_ | refine Upd.alloc ?_ _)) hgr1 (fun k hk=>.inl (by simp [hk]))) (And.intro hown1 (app_at (w:=w3) (S:=[]) (by repeat (first | exact Upd.refl _ _ | refine Upd.drew ?_ | refine Upd.alloc ?_ _)) hat1))));have HGR1:=Lib.hid hgr1;obtain ⟨q2,q3,q0,q1⟩:=HS.out w5 HG1.out.1;obtain ⟨p2,p3',p0,p1⟩:=HS.out (w5.alloc (.cells #[.int .i64 n,.slice ta W tc] 122 (0,0))) (HG1.out.1.alloc _);clear hown1 hgr1 hat1 hlt1)
    refine hK.out _ _ ⟨(HSE.out _ HG1.out.1).1,fun _=>(HSE.out _ HG1.out.1).2⟩ (fun hHeld=>?_);clear hK K;obtain ⟨hS,hE⟩:=hHeld;have hE:=hE (by kernel_rfl)
    (try simp only [Act.put,List.setIfInBounds_toArray])
    refine wpAnyU_ready (rs:=[14]) (by kernel_rfl) (by simp) ?_;refine AllReadyU.cons rfl (fun K hK=>?_) ?_
    rotate_left
    exact AllReadyU.nil
    go_simp
    refine hK.out _ _ ⟨(HSE.out _ (HG1.out.1.alloc _)).1,fun _=>(HSE.out _ (HG1.out.1.alloc _)).2⟩ (fun hHeld=>?_);clear hK K;obtain ⟨hS,hE⟩:=hHeld;have hE:=hE (by kernel_rfl)
    (try simp only [Act.put,List.setIfInBounds_toArray,List.set_cons_zero,List.set_cons_succ])
    refine wpAnyU_ready (rs:=[15]) (by kernel_rfl) (by simp) ?_;refine AllReadyU.cons rfl (fun K hK=>?_) ?_
    rotate_left
    exact AllReadyU.nil
    (refine step_append_lies _ (by rfl) (.tmp 50) (.tmp 52) 22 (by rfl) 0 122 tt _ 2 32 Tryz.underlying22 HIT.out.1 HIT.out.2.1 HIT.out.2.2.1 HIT.out.2.2.2 (by rfl) (by decide) (.slice xa tabs.length xc) tabs.length (flatTT tabs cs) (by rfl) (HRT.out _ (by repeat (first | exact HG1.out.2.1 | refine Upd.drew ?_ | refine Upd.alloc ?_ _))) ⟨_,0,none⟩ 1 1 [.int .i64 n,.slice ta W tc] (by rfl) (by rfl) (World.news_of_block (cs:=#[.int .i64 n,.slice ta W tc]) (t:=122) (fr:=(0,0)) (by first | exact heap_alloc_new _ _ | exact (HGR1.out.block _ (heap_lt HXB.out) (HNX.out _ (by omega))).trans HXB.out | exact (HGR1.out.block _ (heap_lt HXC.out) (HNX.out _ (by omega))).trans HXC.out)) HC2.out (by omega) (by unfold maxLen;omega) (by omega) (Nat.zero_le _) _ (by rfl) ?_;intro g2 cap2 w6 hown2 hgr2 hat2 hlt2;have HG2:=Lib.hid (And.intro (Upd.grown (S:=(Value.slice ra refs.length rc).ownBlock.toList++(Value.slice xa tabs.length xc).ownBlock.toList) (w:=w3) (by repeat (first | exact HG1.out.1 | refine Upd.drew ?_ | refine Upd.alloc ?_ _)) hgr2 (fun k hk=>.inl (by simp [hk]))) (And.intro (row_grow (by repeat (first | exact Upd.refl _ _ | refine Upd.drew ?_ | refine Upd.alloc ?_ _)) hgr2 HG1.out.2.2.1 (fun k hk hq=>ty_ne HG1.out.2.2.1 (HRT.out _ HG1.out.2.1) (by decide) hk hq)) (And.intro hown2 (And.intro HG1.out.2.2.2 (app_at (w:=w3) (S:=(Value.slice ra refs.length rc).ownBlock.toList++(Value.slice xa tabs.length xc).ownBlock.toList) (by repeat (first | exact HG1.out.1 | refine Upd.drew ?_ | refine Upd.alloc ?_ _)) hat2)))));obtain ⟨fz2,fz3,k2,k3⟩:=HFZ.out w6 HG2.out.1;clear hown2 hgr2 hat2 hlt2 HGR1 HG1)
    refine hK.out _ _ ⟨(HSE.out _ HG2.out.1).1,fun _=>(HSE.out _ HG2.out.1).2⟩ (fun hHeld=>?_);clear hK K;obtain ⟨hS,hE⟩:=hHeld;have hE:=hE (by kernel_rfl)
    (try simp only [Act.put,List.setIfInBounds_toArray])
    refine wpAnyU_takeS (i:=16) (v:=?v12) rfl (by kernel_rfl) (by kernel_rfl) (by kernel_rfl) (by kernel_rfl) (fun _ _ _ h=>h) (Or.inl ⟨by rfl,?hy12⟩) hS (fun _=>hE) ?rest12
    case hy12=>(intro x hSx;(try dsimp only at hSx);go_simp;try with_reducible rfl)
    (try simp only [Act.put])
    refine wpAnyU_takeS (i:=17) (v:=?v13) rfl (by kernel_rfl) (by kernel_rfl) (by kernel_rfl) (by kernel_rfl) (fun _ _ _ h=>h) (Or.inl ⟨by rfl,?hy13⟩) hS (fun _=>hE) ?rest13
    case hy13=>(intro x hSx;(try dsimp only at hSx);go_simp;try with_reducible rfl)
    (try simp only [Act.put])
    refine wpAnyU_ready (rs:=[18]) (by kernel_rfl) (by simp) ?_;refine AllReadyU.cons rfl (fun K hK=>?_) ?_
    rotate_left
    exact AllReadyU.nil
    go_simp
    refine hK.out _ _ ⟨(by refine box_set (HSB.out _ HG2.out.1) ?_ _;assumption),fun h=>noE (by kernel_rfl) h⟩ (fun hHeld=>?_);clear hK K;obtain ⟨hS,_⟩:=hHeld
    (try simp only [Act.put,List.setIfInBounds_toArray,List.set_cons_zero,List.set_cons_succ])
    refine wpAnyU_takeS (i:=19) (v:=?v15) rfl (by kernel_rfl) (by kernel_rfl) (by kernel_rfl) (by kernel_rfl) (fun _ _ _ h=>h) (Or.inl ⟨by rfl,?hy15⟩) hS (fun h=>noE (by kernel_rfl) h) ?rest15
    case hy15=>(intro x hSx;(try dsimp only at hSx);go_simp;try with_reducible rfl)
    (try simp only [Act.put,List.setIfInBounds_toArray])
    refine wpAnyU_takeS (i:=20) (v:=?v16) rfl (by kernel_rfl) (by kernel_rfl) (by kernel_rfl) (by kernel_rfl) (fun _ _ _ h=>h) (Or.inl ⟨by rfl,?hy16⟩) hS (fun h=>noE (by kernel_rfl) h) ?rest16
    case hy16=>(intro x hSx;(try dsimp only at hSx);go_simp;try with_reducible rfl)
    (try simp only [Act.put])
    refine wpAnyU_ready (rs:=[21]) (by kernel_rfl) (by simp) ?_;refine AllReadyU.cons rfl (fun K hK=>?_) ?_
    rotate_left
    exact AllReadyU.nil
    go_simp
    refine hK.out _ _ ⟨(by refine box_set (box_set (HSB.out _ HG2.out.1) ?_ _) ?_ _ <;> assumption),fun h=>noE (by kernel_rfl) h⟩ (fun hHeld=>?_);clear hK K;obtain ⟨hS,_⟩:=hHeld
    (try simp only [Act.put,List.setIfInBounds_toArray,List.set_cons_zero,List.set_cons_succ])
    refine wpAnyU_done (by kernel_rfl) ?_ _;go_wp2_with fail;go_ret;exact HDONE.out _ _ _ _ _ HG2.out.1 HG2.out.2.1 HG2.out.2.2.1 HG2.out.2.2.2
   refine AllReadyU.cons rfl (fun K hK=>?_) ?_
   rotate_left
   exact AllReadyU.nil
   go_simp
   refine hK.out _ _ ⟨(HSE.out _ (((Upd.refl _ _).drew.alloc _).alloc _)).1,fun _=>(HSE.out _ (((Upd.refl _ _).drew.alloc _).alloc _)).2⟩ (fun hHeld=>?_);clear hK K;obtain ⟨hS,hE⟩:=hHeld;have hE:=hE (by kernel_rfl)
   (try simp only [Act.put,List.setIfInBounds_toArray,List.set_cons_zero,List.set_cons_succ])
   refine wpAnyU_ready (rs:=[8]) (by kernel_rfl) (by simp) ?_;refine AllReadyU.cons rfl (fun K hK=>?_) ?_
   rotate_left
   exact AllReadyU.nil
   (refine step_append_lies _ (by rfl) (.tmp 43) (.tmp 45) 42 (by rfl) 0 77 tr _ 1 4 Tryz.underlying42 HIR.out.1 HIR.out.2.1 HIR.out.2.2.1 HIR.out.2.2.2 (by rfl) (by decide) (.slice ra refs.length rc) refs.length (flatRefs refs) (by rfl) (HRR.out _ (by repeat (first | exact Upd.refl _ _ | refine Upd.drew ?_ | refine Upd.alloc ?_ _))) ⟨_,0,none⟩ 1 1 [.int .u32 r] (by rfl) (by rfl) (World.news_of_block (cs:=#[.int .u32 r]) (t:=77) (fr:=(0,0)) (by first | exact HX1A.out | exact HX1B.out | exact HX1C.out)) HC1.out (by omega) (by unfold maxLen;omega) (by omega) (Nat.zero_le _) _ (by rfl) ?_;intro g1 cap1 w5 hown1 hgr1 hat1 hlt1;have HG1:=Lib.hid (And.intro (Upd.grown (S:=(Value.slice ra refs.length rc).ownBlock.toList++(Value.slice xa tabs.length xc).ownBlock.toList) (w:=w3) (by repeat (first | exact Upd.refl _ _ | refine Upd.drew ?_ | refine Upd.alloc ?_ _)) hgr1 (fun k hk=>.inl (by simp [hk]))) (And.intro (Upd.grown (S:=(Value.slice ra refs.length rc).ownBlock.toList) (w:=w3) (by repeat (first | exact Upd.refl _ _ | refine Upd.drew ?_ | refine Upd.alloc ?_ _)) hgr1 (fun k hk=>.inl (by simp [hk]))) (And.intro hown1 (app_at (w:=w3) (S:=[]) (by repeat (first | exact Upd.refl _ _ | refine Upd.drew ?_ | refine Upd.alloc ?_ _)) hat1))));have HGR1:=Lib.hid hgr1;obtain ⟨q2,q3,q0,q1⟩:=HS.out w5 HG1.out.1;obtain ⟨p2,p3',p0,p1⟩:=HS.out (w5.alloc (.cells #[.int .i64 n,.slice ta W tc] 122 (0,0))) (HG1.out.1.alloc _);clear hown1 hgr1 hat1 hlt1)
   refine hK.out _ _ ⟨(HSE.out _ HG1.out.1).1,fun _=>(HSE.out _ HG1.out.1).2⟩ (fun hHeld=>?_);clear hK K;obtain ⟨hS,hE⟩:=hHeld;have hE:=hE (by kernel_rfl)
   (try simp only [Act.put,List.setIfInBounds_toArray])
   refine wpAnyU_ready (rs:=[15]) (by kernel_rfl) (by simp) ?_;refine AllReadyU.cons rfl (fun K hK=>?_) ?_
   rotate_left
   exact AllReadyU.nil
   (refine step_append_lies _ (by rfl) (.tmp 50) (.tmp 52) 22 (by rfl) 0 122 tt _ 2 32 Tryz.underlying22 HIT.out.1 HIT.out.2.1 HIT.out.2.2.1 HIT.out.2.2.2 (by rfl) (by decide) (.slice xa tabs.length xc) tabs.length (flatTT tabs cs) (by rfl) (HRT.out _ (by repeat (first | exact HG1.out.2.1 | refine Upd.drew ?_ | refine Upd.alloc ?_ _))) ⟨_,0,none⟩ 1 1 [.int .i64 n,.slice ta W tc] (by rfl) (by rfl) (World.news_of_block (cs:=#[.int .i64 n,.slice ta W tc]) (t:=122) (fr:=(0,0)) (by first | exact heap_alloc_new _ _ | exact (HGR1.out.block _ (heap_lt HXB.out) (HNX.out _ (by omega))).trans HXB.out | exact (HGR1.out.block _ (heap_lt HXC.out) (HNX.out _ (by omega))).trans HXC.out)) HC2.out (by omega) (by unfold maxLen;omega) (by omega) (Nat.zero_le _) _ (by rfl) ?_;intro g2 cap2 w6 hown2 hgr2 hat2 hlt2;have HG2:=Lib.hid (And.intro (Upd.grown (S:=(Value.slice ra refs.length rc).ownBlock.toList++(Value.slice xa tabs.length xc).ownBlock.toList) (w:=w3) (by repeat (first | exact HG1.out.1 | refine Upd.drew ?_ | refine Upd.alloc ?_ _)) hgr2 (fun k hk=>.inl (by simp [hk]))) (And.intro (row_grow (by repeat (first | exact Upd.refl _ _ | refine Upd.drew ?_ | refine Upd.alloc ?_ _)) hgr2 HG1.out.2.2.1 (fun k hk hq=>ty_ne HG1.out.2.2.1 (HRT.out _ HG1.out.2.1) (by decide) hk hq)) (And.intro hown2 (And.intro HG1.out.2.2.2 (app_at (w:=w3) (S:=(Value.slice ra refs.length rc).ownBlock.toList++(Value.slice xa tabs.length xc).ownBlock.toList) (by repeat (first | exact HG1.out.1 | refine Upd.drew ?_ | refine Upd.alloc ?_ _)) hat2)))));obtain ⟨fz2,fz3,k2,k3⟩:=HFZ.out w6 HG2.out.1;clear hown2 hgr2 hat2 hlt2 HGR1 HG1)
   refine hK.out _ _ ⟨(HSE.out _ HG2.out.1).1,fun _=>(HSE.out _ HG2.out.1).2⟩ (fun hHeld=>?_);clear hK K;obtain ⟨hS,hE⟩:=hHeld;have hE:=hE (by kernel_rfl)
   (try simp only [Act.put])
   refine wpAnyU_takeS (i:=16) (v:=?v17) rfl (by kernel_rfl) (by kernel_rfl) (by kernel_rfl) (by kernel_rfl) (fun _ _ _ h=>h) (Or.inl ⟨by rfl,?hy17⟩) hS (fun _=>hE) ?rest17
   case hy17=>(intro x hSx;(try dsimp only at hSx);go_simp;try with_reducible rfl)
   (try simp only [Act.put])
   refine wpAnyU_takeS (i:=17) (v:=?v18) rfl (by kernel_rfl) (by kernel_rfl) (by kernel_rfl) (by kernel_rfl) (fun _ _ _ h=>h) (Or.inl ⟨by rfl,?hy18⟩) hS (fun _=>hE) ?rest18
   case hy18=>(intro x hSx;(try dsimp only at hSx);go_simp;try with_reducible rfl)
   (try simp only [Act.put])
   refine wpAnyU_ready (rs:=[18]) (by kernel_rfl) (by simp) ?_;refine AllReadyU.cons rfl (fun K hK=>?_) ?_
   rotate_left
   exact AllReadyU.nil
   go_simp
   refine hK.out _ _ ⟨(by refine box_set (HSB.out _ HG2.out.1) ?_ _;assumption),fun h=>noE (by kernel_rfl) h⟩ (fun hHeld=>?_);clear hK K;obtain ⟨hS,_⟩:=hHeld
   (try simp only [Act.put,List.setIfInBounds_toArray,List.set_cons_zero,List.set_cons_succ])
   refine wpAnyU_takeS (i:=19) (v:=?v20) rfl (by kernel_rfl) (by kernel_rfl) (by kernel_rfl) (by kernel_rfl) (fun _ _ _ h=>h) (Or.inl ⟨by rfl,?hy20⟩) hS (fun h=>noE (by kernel_rfl) h) ?rest20
   case hy20=>(intro x hSx;(try dsimp only at hSx);go_simp;try with_reducible rfl)
   (try simp only [Act.put,List.setIfInBounds_toArray])
   refine wpAnyU_takeS (i:=20) (v:=?v21) rfl (by kernel_rfl) (by kernel_rfl) (by kernel_rfl) (by kernel_rfl) (fun _ _ _ h=>h) (Or.inl ⟨by rfl,?hy21⟩) hS (fun h=>noE (by kernel_rfl) h) ?rest21
   case hy21=>(intro x hSx;(try dsimp only at hSx);go_simp;try with_reducible rfl)
   (try simp only [Act.put])
   refine wpAnyU_ready (rs:=[21]) (by kernel_rfl) (by simp) ?_;refine AllReadyU.cons rfl (fun K hK=>?_) ?_
   rotate_left
   exact AllReadyU.nil
   go_simp
   refine hK.out _ _ ⟨(by refine box_set (box_set (HSB.out _ HG2.out.1) ?_ _) ?_ _ <;> assumption),fun h=>noE (by kernel_rfl) h⟩ (fun hHeld=>?_);clear hK K;obtain ⟨hS,_⟩:=hHeld
   (try simp only [Act.put,List.setIfInBounds_toArray,List.set_cons_zero,List.set_cons_succ])
   refine wpAnyU_done (by kernel_rfl) ?_ _;go_wp2_with fail;go_ret;exact HDONE.out _ _ _ _ _ HG2.out.1 HG2.out.2.1 HG2.out.2.2.1 HG2.out.2.2.2
  refine AllReadyU.cons rfl (fun K hK=>?_) ?_
  rotate_left
  exact AllReadyU.nil
  go_simp
  refine hK.out _ _ ⟨(HSE.out _ ((Upd.refl _ _).drew.alloc _)).1,fun _=>(HSE.out _ ((Upd.refl _ _).drew.alloc _)).2⟩ (fun hHeld=>?_);clear hK K;obtain ⟨hS,hE⟩:=hHeld;have hE:=hE (by kernel_rfl)
  (try simp only [Act.put,List.setIfInBounds_toArray,List.set_cons_zero,List.set_cons_succ])
  refine wpAnyU_ready (rs:=[7]) (by kernel_rfl) (by simp) ?_;refine AllReadyU.cons rfl (fun K hK=>?_) ?_
  rotate_left
  exact AllReadyU.nil
  go_simp
  refine hK.out _ _ ⟨(HSE.out _ (((Upd.refl _ _).drew.alloc _).alloc _)).1,fun _=>(HSE.out _ (((Upd.refl _ _).drew.alloc _).alloc _)).2⟩ (fun hHeld=>?_);clear hK K;obtain ⟨hS,hE⟩:=hHeld;have hE:=hE (by kernel_rfl)
  (try simp only [Act.put,List.setIfInBounds_toArray,List.set_cons_zero,List.set_cons_succ])
  refine wpAnyU_ready (rs:=[8]) (by kernel_rfl) (by simp) ?_;refine AllReadyU.cons rfl (fun K hK=>?_) ?_
  rotate_left
  exact AllReadyU.nil
  (refine step_append_lies _ (by rfl) (.tmp 43) (.tmp 45) 42 (by rfl) 0 77 tr _ 1 4 Tryz.underlying42 HIR.out.1 HIR.out.2.1 HIR.out.2.2.1 HIR.out.2.2.2 (by rfl) (by decide) (.slice ra refs.length rc) refs.length (flatRefs refs) (by rfl) (HRR.out _ (by repeat (first | exact Upd.refl _ _ | refine Upd.drew ?_ | refine Upd.alloc ?_ _))) ⟨_,0,none⟩ 1 1 [.int .u32 r] (by rfl) (by rfl) (World.news_of_block (cs:=#[.int .u32 r]) (t:=77) (fr:=(0,0)) (by first | exact HX1A.out | exact HX1B.out | exact HX1C.out)) HC1.out (by omega) (by unfold maxLen;omega) (by omega) (Nat.zero_le _) _ (by rfl) ?_;intro g1 cap1 w5 hown1 hgr1 hat1 hlt1;have HG1:=Lib.hid (And.intro (Upd.grown (S:=(Value.slice ra refs.length rc).ownBlock.toList++(Value.slice xa tabs.length xc).ownBlock.toList) (w:=w3) (by repeat (first | exact Upd.refl _ _ | refine Upd.drew ?_ | refine Upd.alloc ?_ _)) hgr1 (fun k hk=>.inl (by simp [hk]))) (And.intro (Upd.grown (S:=(Value.slice ra refs.length rc).ownBlock.toList) (w:=w3) (by repeat (first | exact Upd.refl _ _ | refine Upd.drew ?_ | refine Upd.alloc ?_ _)) hgr1 (fun k hk=>.inl (by simp [hk]))) (And.intro hown1 (app_at (w:=w3) (S:=[]) (by repeat (first | exact Upd.refl _ _ | refine Upd.drew ?_ | refine Upd.alloc ?_ _)) hat1))));have HGR1:=Lib.hid hgr1;obtain ⟨q2,q3,q0,q1⟩:=HS.out w5 HG1.out.1;obtain ⟨p2,p3',p0,p1⟩:=HS.out (w5.alloc (.cells #[.int .i64 n,.slice ta W tc] 122 (0,0))) (HG1.out.1.alloc _);clear hown1 hgr1 hat1 hlt1)
  refine hK.out _ _ ⟨(HSE.out _ HG1.out.1).1,fun _=>(HSE.out _ HG1.out.1).2⟩ (fun hHeld=>?_);clear hK K;obtain ⟨hS,hE⟩:=hHeld;have hE:=hE (by kernel_rfl)
  (try simp only [Act.put,List.setIfInBounds_toArray])
  refine wpAnyU_ready (rs:=[15]) (by kernel_rfl) (by simp) ?_;refine AllReadyU.cons rfl (fun K hK=>?_) ?_
  rotate_left
  exact AllReadyU.nil
  (refine step_append_lies _ (by rfl) (.tmp 50) (.tmp 52) 22 (by rfl) 0 122 tt _ 2 32 Tryz.underlying22 HIT.out.1 HIT.out.2.1 HIT.out.2.2.1 HIT.out.2.2.2 (by rfl) (by decide) (.slice xa tabs.length xc) tabs.length (flatTT tabs cs) (by rfl) (HRT.out _ (by repeat (first | exact HG1.out.2.1 | refine Upd.drew ?_ | refine Upd.alloc ?_ _))) ⟨_,0,none⟩ 1 1 [.int .i64 n,.slice ta W tc] (by rfl) (by rfl) (World.news_of_block (cs:=#[.int .i64 n,.slice ta W tc]) (t:=122) (fr:=(0,0)) (by first | exact heap_alloc_new _ _ | exact (HGR1.out.block _ (heap_lt HXB.out) (HNX.out _ (by omega))).trans HXB.out | exact (HGR1.out.block _ (heap_lt HXC.out) (HNX.out _ (by omega))).trans HXC.out)) HC2.out (by omega) (by unfold maxLen;omega) (by omega) (Nat.zero_le _) _ (by rfl) ?_;intro g2 cap2 w6 hown2 hgr2 hat2 hlt2;have HG2:=Lib.hid (And.intro (Upd.grown (S:=(Value.slice ra refs.length rc).ownBlock.toList++(Value.slice xa tabs.length xc).ownBlock.toList) (w:=w3) (by repeat (first | exact HG1.out.1 | refine Upd.drew ?_ | refine Upd.alloc ?_ _)) hgr2 (fun k hk=>.inl (by simp [hk]))) (And.intro (row_grow (by repeat (first | exact Upd.refl _ _ | refine Upd.drew ?_ | refine Upd.alloc ?_ _)) hgr2 HG1.out.2.2.1 (fun k hk hq=>ty_ne HG1.out.2.2.1 (HRT.out _ HG1.out.2.1) (by decide) hk hq)) (And.intro hown2 (And.intro HG1.out.2.2.2 (app_at (w:=w3) (S:=(Value.slice ra refs.length rc).ownBlock.toList++(Value.slice xa tabs.length xc).ownBlock.toList) (by repeat (first | exact HG1.out.1 | refine Upd.drew ?_ | refine Upd.alloc ?_ _)) hat2)))));obtain ⟨fz2,fz3,k2,k3⟩:=HFZ.out w6 HG2.out.1;clear hown2 hgr2 hat2 hlt2 HGR1 HG1)
  refine hK.out _ _ ⟨(HSE.out _ HG2.out.1).1,fun _=>(HSE.out _ HG2.out.1).2⟩ (fun hHeld=>?_);clear hK K;obtain ⟨hS,hE⟩:=hHeld;have hE:=hE (by kernel_rfl)
  (try simp only [Act.put])
  refine wpAnyU_takeS (i:=16) (v:=?v22) rfl (by kernel_rfl) (by kernel_rfl) (by kernel_rfl) (by kernel_rfl) (fun _ _ _ h=>h) (Or.inl ⟨by rfl,?hy22⟩) hS (fun _=>hE) ?rest22
  case hy22=>(intro x hSx;(try dsimp only at hSx);go_simp;try with_reducible rfl)
  (try simp only [Act.put])
  refine wpAnyU_takeS (i:=17) (v:=?v23) rfl (by kernel_rfl) (by kernel_rfl) (by kernel_rfl) (by kernel_rfl) (fun _ _ _ h=>h) (Or.inl ⟨by rfl,?hy23⟩) hS (fun _=>hE) ?rest23
  case hy23=>(intro x hSx;(try dsimp only at hSx);go_simp;try with_reducible rfl)
  (try simp only [Act.put])
  refine wpAnyU_ready (rs:=[18]) (by kernel_rfl) (by simp) ?_;refine AllReadyU.cons rfl (fun K hK=>?_) ?_
  rotate_left
  exact AllReadyU.nil
  go_simp
  refine hK.out _ _ ⟨(by refine box_set (HSB.out _ HG2.out.1) ?_ _;assumption),fun h=>noE (by kernel_rfl) h⟩ (fun hHeld=>?_);clear hK K;obtain ⟨hS,_⟩:=hHeld
  (try simp only [Act.put,List.setIfInBounds_toArray,List.set_cons_zero,List.set_cons_succ])
  refine wpAnyU_takeS (i:=19) (v:=?v25) rfl (by kernel_rfl) (by kernel_rfl) (by kernel_rfl) (by kernel_rfl) (fun _ _ _ h=>h) (Or.inl ⟨by rfl,?hy25⟩) hS (fun h=>noE (by kernel_rfl) h) ?rest25
  case hy25=>(intro x hSx;(try dsimp only at hSx);go_simp;try with_reducible rfl)
  (try simp only [Act.put,List.setIfInBounds_toArray])
  refine wpAnyU_takeS (i:=20) (v:=?v26) rfl (by kernel_rfl) (by kernel_rfl) (by kernel_rfl) (by kernel_rfl) (fun _ _ _ h=>h) (Or.inl ⟨by rfl,?hy26⟩) hS (fun h=>noE (by kernel_rfl) h) ?rest26
  case hy26=>(intro x hSx;(try dsimp only at hSx);go_simp;try with_reducible rfl)
  (try simp only [Act.put])
  refine wpAnyU_ready (rs:=[21]) (by kernel_rfl) (by simp) ?_;refine AllReadyU.cons rfl (fun K hK=>?_) ?_
  rotate_left
  exact AllReadyU.nil
  go_simp
  refine hK.out _ _ ⟨(by refine box_set (box_set (HSB.out _ HG2.out.1) ?_ _) ?_ _ <;> assumption),fun h=>noE (by kernel_rfl) h⟩ (fun hHeld=>?_);clear hK K;obtain ⟨hS,_⟩:=hHeld
  (try simp only [Act.put,List.setIfInBounds_toArray,List.set_cons_zero,List.set_cons_succ])
  refine wpAnyU_done (by kernel_rfl) ?_ _;go_wp2_with fail;go_ret;exact HDONE.out _ _ _ _ _ HG2.out.1 HG2.out.2.1 HG2.out.2.2.1 HG2.out.2.2.2
 ·have hft:=HLG.out.1.agr.fits_no HL.out.mem.ker.ok (by omega) HOK.out (by rw [HN.out.2];exact HTN.out) nf
  rw [hft] at HFT;have HNO:=Lib.hid (HLG.out.1.no HL.out.mem.ker.ok e1 hd1)
  have HAL:Hid (WAll K1 refs tabs):=fun i q u h1 h2=>(HLG.out.2 i q u h1 h2).ext HL.out.mem.ker.ok e1
  have HX:=Lib.hid (And.intro e1 hd1)
  have HFN:Hid (M.layT t=M):=by show M.layT t=M;unfold MV.layT;rw [if_neg (by rw [hft];simp)]
  clear e1 b1' hd1 nf hft;go_wp2_with fail
  go_region_held3 (fun x=>(x.cell? ⟨a,1,none⟩=some (.pointer (some ⟨m,0,none⟩)))/\x.cell? ⟨w.heap.size,0,none⟩=some (.int .i64 n)/\x.cell? ⟨w.heap.size,1,none⟩=some (.slice ta W tc)) (first | exact HKK.out _ (Upd.refl _ _).drew | exact HKK.out _ ((Upd.refl _ _).drew.alloc _) | exact HKK.out _ HO2.out) (first | (go_at_call 138;refine (HFT.out _ _ ((Upd.refl _ _).drew.alloc _) HBN.out (Nat.le_refl _)).mono ?_;rintro e w2 ⟨rfl,hu⟩;have HO2:=Lib.hid (((Upd.refl [] w1).drew.alloc (.cells #[.int .i64 n,.slice ta W tc] 122 (0,0))).trans hu);clear hu))
  go_wp2_with fail;go_ret;exact ⟨rv,tv,K1,F1,M,p,refs,tabs,rfl,HL1.out.1.keep0 HO2.out,HNO.out,HAL.out,(Fro.of0 HU0.out).trans (HL1.out.2.trans (Fro.of0 HO2.out)),fun x=>by rw [HX.out.2];omega,by omega,by omega,rfl,HX.out.1,fun i r h=>h,HFN.out.symm,fun x=>by rw [HX.out.2];omega,fun s hs=>.inl hs⟩
end Go.Proofs.YtfkopmhpppeheaaGreat
