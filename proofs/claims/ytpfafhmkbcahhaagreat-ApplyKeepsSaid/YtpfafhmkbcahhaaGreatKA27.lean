import Derived.Test.YtpfafhmkbcahhaaGreatKA26
import Derived.BigQuiet
set_option maxRecDepth 100000
set_option maxHeartbeats 6400000
namespace Go.Proofs.YtpfafhmkbcahhaaGreat
open Go.RowKit Go.Maps Go.ChangeMaps Go.WideShapes
structure AddQ (n0 a b m:Nat) (K:KV) (F:List Nat) (M:MV) (p:MPtr) (refs:List Nat) (tabs:List TV) (r:Nat) (t:TV) (w:World) (e:Ending) (w':World):Prop where
 ex:∃ rv tv:Value,e=.returned (.bool true)/\LIn w' n0 a b m rv tv K F M p (refs++[r]) (tabs++[t])/\Fro n0 w w'
theorem addw_spec (n0 a b m r:Nat) (rv tv:Value) (K:KV) (F:List Nat) (M:MV) (p:MPtr) (refs:List Nat) (tabs:List TV) (c:Value) (t:TV) (w:World) (h:LIn w n0 a b m rv tv K F M p refs tabs) (l:WLog K M refs tabs)
  (ht:TIn w (F++p.all m) c t) (htn:t.n=K.vars) (hnm:Names K r t) (hrl:refs.length<=500) :
  Calls Tryz.prog 30 #[.pointer (some ⟨a,0,none⟩),.int .u32 r,tabV t c] w fun e w'=>AddQ n0 a b m K F M p refs tabs r t w e w':=by
 obtain ⟨ta,tc,rfl,_⟩:=row_nil_len ht.row
 have hB1:∀ k,(rv.ownBlock=some k\/tv.ownBlock=some k)->k<w.heap.size/\k≠a:=fun k hk=>by
  rcases hk with h1 | h1
  ·refine ⟨(h.mem.rr.lt k h1).2,fun e=>?_⟩
   subst e;exact blk_ne h.mem.rr h.blk (by decide) h1
  ·obtain ⟨xs,hr⟩:=h.mem.tt.row
   refine ⟨(hr.lt k h1).2,fun e=>?_⟩;subst e;exact blk_ne hr h.blk (by decide) h1
 obtain ⟨ra,rc,hrv,hra⟩:=row_nil_len h.mem.rr;obtain ⟨xa,xc,htv,hxa⟩:=h.mem.tt.form;subst hrv htv;have HLR:=Lib.hid l.lr
 have htl:tabs.length<=500:=by rw [<- HLR.out];exact hrl
 have hpos:0<refs.length:=by
  obtain ⟨rest,hr⟩:=l.t2
  rw [HLR.out,hr];simp
 obtain ⟨rg,rfl⟩:=row_some h.mem.rr hpos;obtain ⟨tg,rfl⟩:=hxa (by rw [<- HLR.out];exact hpos);have hfl:=l.fit.lev_leS;have HL:=Lib.hid (And.intro h (And.intro l (And.intro ht (And.intro htn hnm))));have HB1:=Lib.hid hB1;obtain ⟨rest,hrest⟩:=l.t2
 have HND:Hid (∀ x:World,Upd [] w x->Calls Tryz.prog 82 #[.agg #[.pointer (some ⟨b,0,none⟩),.pointer (some ⟨m,0,none⟩),.slice (some ⟨rg,0,none⟩) refs.length rc,.slice (some ⟨tg,0,none⟩) tabs.length xc]] x fun e w'=>TLQ (F++p.all m) (constT K.vars false::constT K.vars true::M.lev.flatten) x e w'):=fun x u =>
  lawnodes_spec b m 0 (.slice (some ⟨rg,0,none⟩) refs.length rc) (.slice (some ⟨tg,0,none⟩) tabs.length xc) M p _ _ _ rest x (h.mem.mod.keep0 u) (fun k hk=>Nat.lt_of_lt_of_le (h.mem.z k hk) u.size) l.fit (by rw [<- hrest];exact h.mem.tt.keep0 u) ⟨_,_,_,rfl⟩
 have HU0:=Lib.hid ((Upd.refl [] w).alloc (.cells #[.int .i64 t.n,.slice ta t.ws.length tc] 56 (0,0)));have hbx:=heap_alloc_new w (.cells #[.int .i64 t.n,.slice ta t.ws.length tc] 56 (0,0));have hal:=heap_lt h.blk;obtain ⟨k0,k1,k2,k3⟩:=h.cells;generalize hW:t.ws.length=W at *;generalize hn:t.n=n at *;have HN:=Lib.hid (And.intro hW hn)
 have HTV:Hid (tabV t (.slice ta W tc)=.agg #[.int .i64 n,.slice ta W tc]):=by show _=_;unfold tabV;rw [hn]
 rw [HTV.out];obtain ⟨w0,hw0⟩ : ∃ w0,w.alloc (.cells #[.int .i64 n,.slice ta W tc] 56 (0,0))=w0:=⟨_,rfl⟩;rw [hw0] at HU0 hbx;have HW0:=Lib.hid hw0
 have HK:Hid (∀ x:World,Upd [] w0 x->(x.cell? ⟨a,0,none⟩=some (.pointer (some ⟨b,0,none⟩))/\x.cell? ⟨a,1,none⟩=some (.pointer (some ⟨m,0,none⟩))/\x.cell? ⟨a,2,none⟩=some (.slice (some ⟨rg,0,none⟩) refs.length rc)/\x.cell? ⟨a,3,none⟩=some (.slice (some ⟨tg,0,none⟩) tabs.length xc))/\x.cell? ⟨w.heap.size,0,none⟩=some (.int .i64 n)/\x.cell? ⟨w.heap.size,1,none⟩=some (.slice ta W tc)):=fun x u =>
  ⟨⟨(HU0.out.trans u).cell0 k0,(HU0.out.trans u).cell0 k1,(HU0.out.trans u).cell0 k2,(HU0.out.trans u).cell0 k3⟩,u.cell0 (cell_at (j:=0) hbx rfl),u.cell0 (cell_at (j:=1) hbx rfl)⟩
 obtain ⟨⟨c0,c1,c2,c3⟩,b0,b1⟩:=HK.out w0 (Upd.refl _ _);obtain ⟨NL,hNL⟩ : ∃ NL,constT K.vars false::constT K.vars true::M.lev.flatten=NL:=⟨_,rfl⟩
 have hnl:NL.length=M.lev.flatten.length+2:=by rw [<- hNL];simp
 rw [hNL] at HND;have HNL:=Lib.hid hNL
 have hnl2:NL.length<=25344002:=by omega
 clear h l ht htn hnm hrest hW hn hw0 hbx k0 k1 k2 k3 hNL hnl hfl hB1
 go_enter Tryz.func30,Tryz.ntmps30
 go_upto_region 1 with fail;rw [HW0.out];go_wp2_with fail;refine (HND.out _ HU0.out).mono ?_;rintro e w5 hE;obtain ⟨nv,rfl,hN,hu⟩:=hE.ex;obtain ⟨na,nc,hnv,_⟩:=hN.form;subst hnv;have HN5:=Lib.hid (And.intro hN hu);obtain ⟨⟨c0,c1,c2,c3⟩,b0,b1⟩:=HK.out _ hu;clear hE hN hu HND;go_wp2_with fail
 go_loopg [18] refs.length (fun g s18 wr=>∃ i:Nat,refs.length-i=g/\i<=refs.length/\s18=.int .i64 i/\Upd [] w5 wr)
 case atStart=>exact ⟨0,by omega,by omega,rfl,Upd.refl _ _⟩
 case round =>
  obtain ⟨i,rfl,hi,rfl,hU⟩:=hrel;have HUR:=Lib.hid (HN5.out.2.trans hU);have HU6:=Lib.hid hU;clear hU;obtain ⟨⟨c0,c1,c2,c3⟩,b0,b1⟩:=HK.out _ HUR.out
  by_cases hlt:i<refs.length
  ·obtain ⟨s,hs⟩ : ∃ s,refs[i]?=some s:=⟨_,List.getElem?_eq_getElem hlt⟩
   obtain ⟨u,hu⟩ : ∃ u,tabs[i]?=some u:=⟨_,List.getElem?_eq_getElem (by rw [<- HLR.out];exact hlt)⟩
   have hil:(i:Int)<(refs.length:Int):=by omega
   have hil2:(i:Int)<(tabs.length:Int):=by rw [<- HLR.out];omega
   have HWr:=Lib.hid (HL.out.1.mem.keep0 (HU0.out.trans HUR.out));have x0:wr.cell? ⟨rg,i,none⟩=some (.int .u32 s):=row_cell HWr.out.rr (flatRefs_get hs);obtain ⟨cu,x1,x2,hti⟩:=HWr.out.tt.at_ hu;obtain ⟨ca,cc,hct,_⟩:=row_nil_len hti.row;subst hct;have htt:=HL.out.2.2.1.keep0 (HU0.out.trans HUR.out);have hok:=HL.out.2.1.ok u (List.mem_of_getElem? hu);have hnlv:=(WIn.of HL.out.1.mem HL.out.2.1).live_nodes hok.2;rw [HNL.out] at hnlv;have HKO:Hid (K.Ok/\K.Uni):=⟨HL.out.1.mem.ker.ok,HL.out.1.mem.ker.uni⟩
   have HNM:Hid (u∈NL->((s:Int) == (r:Int))=decide (u=t)):=fun hm=>by
    have h1:=HL.out.2.1.nm i s u hs hu (hnlv.1 hm);have h2:=HL.out.2.2.2.2
    by_cases e:s=r
    ·subst e
     have e2:u=t:=h1.teq h2 hok.1 HL.out.2.2.1.ok (hok.2.trans (HL.out.2.2.2.1.symm.trans HN.out.2.symm))
     rw [decide_eq_true e2];simp
    ·rw [decide_eq_false fun e2=>e (by subst e2;exact h1.eq HKO.out.1 HKO.out.2 h2)]
     simp;omega
   have HINC:Hid (∀ x,Upd [] wr x->Calls Tryz.prog 83 #[.slice na NL.length nc,tabV u (.slice ca u.ws.length cc)] x fun e w'=>e=.returned (.bool (decide (u∈NL)))/\Upd [] x w'):=fun x ux=>in_spec _ (F++p.all m) _ NL _ u x ((HN5.out.1.keep0 HU6.out).keep0 ux) (hti.keep0 ux) (by omega)
   have HSA:=Lib.hid (same_spec (F++p.all m) (.slice ca u.ws.length cc) (.slice ta W tc) u t);have HT:=Lib.hid (And.intro hti (And.intro htt hok));generalize hUW:u.ws.length=UW at *;generalize hUN:u.n=un at *
   have HUV:Hid (tabV u (.slice ca UW cc)=.agg #[.int .i64 un,.slice ca UW cc]):=by show _=_;unfold tabV;rw [hUN]
   rw [HUV.out] at HINC
   have HSAC:Hid (∀ x,Upd [] wr x->Calls Tryz.prog 125 #[.agg #[.int .i64 un,.slice ca UW cc],.agg #[.int .i64 n,.slice ta W tc]] x fun e w'=>e=.returned (.bool (decide (u=t)))/\Upd [] x w'):=fun x ux=>by
    rw [<- HUV.out,<- HTV.out];exact HSA.out x (HT.out.1.keep0 ux) (HT.out.2.1.keep0 ux)
   have HKK:Hid (∀ x:World,Upd [] wr x->(x.cell? ⟨a,2,none⟩=some (.slice (some ⟨rg,0,none⟩) refs.length rc)/\x.cell? ⟨a,3,none⟩=some (.slice (some ⟨tg,0,none⟩) tabs.length xc))/\(x.cell? ⟨w.heap.size,0,none⟩=some (.int .i64 n)/\x.cell? ⟨w.heap.size,1,none⟩=some (.slice ta W tc))/\x.cell? ⟨rg,i,none⟩=some (.int .u32 s)/\x.cell? ⟨tg,i*2,none⟩=some (.int .i64 un)/\x.cell? ⟨tg,i*2+1,none⟩=some (.slice ca UW cc)):=fun x ux =>
    ⟨⟨ux.cell0 c2,ux.cell0 c3⟩,⟨ux.cell0 b0,ux.cell0 b1⟩,ux.cell0 x0,ux.cell0 x1,ux.cell0 x2⟩
   clear hs hu hti htt hok hnlv hUW hUN HSA x0 x1 x2 c0 c1 c2 c3 b0 b1
   have q1:∀ y:Still wr,y.x.cell? ⟨a,2,none⟩=some (.slice (some ⟨rg,0,none⟩) refs.length rc):=fun y=>(HKK.out _ y.u).1.1
   have q2:∀ y:Still wr,y.x.cell? ⟨a,3,none⟩=some (.slice (some ⟨tg,0,none⟩) tabs.length xc):=fun y=>(HKK.out _ y.u).1.2
   have q3:∀ y:Still wr,y.x.cell? ⟨w.heap.size,0,none⟩=some (.int .i64 n):=fun y=>(HKK.out _ y.u).2.1.1
   have q4:∀ y:Still wr,y.x.cell? ⟨w.heap.size,1,none⟩=some (.slice ta W tc):=fun y=>(HKK.out _ y.u).2.1.2
   have q5:∀ y:Still wr,y.x.cell? ⟨rg,i,none⟩=some (.int .u32 s):=fun y=>(HKK.out _ y.u).2.2.1
   have q6:∀ y:Still wr,y.x.cell? ⟨tg,i*2,none⟩=some (.int .i64 un):=fun y=>(HKK.out _ y.u).2.2.2.1
   have q7:∀ y:Still wr,y.x.cell? ⟨tg,i*2+1,none⟩=some (.slice ca UW cc):=fun y=>(HKK.out _ y.u).2.2.2.2
   have HQ1:Hid (∀ y:Still wr,Calls Tryz.prog 83 #[.slice na NL.length nc,.agg #[.int .i64 un,.slice ca UW cc]] y.x fun e w'=>e=.returned (.bool (decide (u∈NL)))/\∃ z:Still wr,w'=z.x):=fun y =>
    (HINC.out _ y.u).mono fun _ _ ⟨a,v⟩=>⟨a,⟨_,y.u.trans v⟩,rfl⟩
   have HQ2:Hid (∀ y:Still wr,Calls Tryz.prog 125 #[.agg #[.int .i64 un,.slice ca UW cc],.agg #[.int .i64 n,.slice ta W tc]] y.x fun e w'=>e=.returned (.bool (decide (u=t)))/\∃ z:Still wr,w'=z.x):=fun y =>
    (HSAC.out _ y.u).mono fun _ _ ⟨a,v⟩=>⟨a,⟨_,y.u.trans v⟩,rfl⟩
   clear HINC HSAC HKK
   by_cases e:u∈NL
   ·rw [decide_eq_true e] at HQ1
    have hsr:=HNM.out e;obtain ⟨q,hq⟩ : ∃ q,decide (u=t)=q:=⟨_,rfl⟩;rw [hq] at HQ2 hsr
    have hqq:(q != q)=false:=by cases q <;> rfl
    clear e hq;go_upto_region 5 with fail;refine wp_region_still (by kernel_rfl) (by kernel_rfl) ?_
    repeat (go_big_quiet_step ((first | (go_at_call 83;exact HQ1.out _) | (go_at_call 125;exact HQ2.out _))))
    refine wpQuiet_nil ?_;rintro _ ⟨n2,rfl⟩;have HUE:=Lib.hid (HU6.out.trans n2.u);clear q1 q2 q3 q4 q5 q6 q7 HQ1 HQ2;go_wp2_with fail
    go_roundg (refs.length-(i+1))
    case measure=>omega
    case rel=>exact ⟨i+1,rfl,by omega,by simp,HUE.out⟩
   ·rw [decide_eq_false e] at HQ1
    clear e;go_upto_region 5 with fail;refine wp_region_still (by kernel_rfl) (by kernel_rfl) ?_
    repeat (go_big_quiet_step ((first | (go_at_call 83;exact HQ1.out _))))
    refine wpQuiet_nil ?_;rintro _ ⟨n2,rfl⟩;have HUE:=Lib.hid (HU6.out.trans n2.u);clear q1 q2 q3 q4 q5 q6 q7 HQ1 HQ2;go_wp2_with fail
    go_roundg (refs.length-(i+1))
    case measure=>omega
    case rel=>exact ⟨i+1,rfl,by omega,by simp,HUE.out⟩
  ·obtain rfl:i=refs.length:=by omega
   have hil:¬ ((refs.length:Int)<(refs.length:Int)):=by omega
   have hUw:=HU0.out.trans HUR.out;have HL3:=Lib.hid (And.intro (HL.out.1.keep0 hUw) (Fro.of0 (n0:=n0) hUw));have HTW3:=Lib.hid (HL.out.2.2.1.keep0 hUw);have hB1:=HB1.out;clear hUw;generalize wr=w3 at *;generalize hra2:(some ⟨rg,0,none⟩ : Option Addr)=ra at *;generalize hxa2:(some ⟨tg,0,none⟩ : Option Addr)=xa at *;obtain ⟨c0,c1,c2,c3⟩:=HL3.out.1.cells
   have HS:Hid (∀ x:World,Upd ((Value.slice ra refs.length rc).ownBlock.toList++(Value.slice xa tabs.length xc).ownBlock.toList) w3 x->x.cell? ⟨a,2,none⟩=some (.slice ra refs.length rc)/\x.cell? ⟨a,3,none⟩=some (.slice xa tabs.length xc)/\x.cell? ⟨w.heap.size,0,none⟩=some (.int .i64 n)/\x.cell? ⟨w.heap.size,1,none⟩=some (.slice ta W tc)):=fun x u=>by
    have no:∀ k,(k=a\/k=w.heap.size)->k∉(Value.slice ra refs.length rc).ownBlock.toList++(Value.slice xa tabs.length xc).ownBlock.toList:=fun k hk hm=>by
     have hm:(Value.slice ra refs.length rc).ownBlock=some k\/(Value.slice xa tabs.length xc).ownBlock=some k:=by simpa using hm
     have:=HB1.out k hm
     rcases hk with rfl | rfl
     ·exact this.2 rfl
     ·omega
    exact ⟨(u.cell (World.block_lt_of_cell? _ _ c2) (no a (.inl rfl))).trans c2,(u.cell (World.block_lt_of_cell? _ _ c3) (no a (.inl rfl))).trans c3,(u.cell (World.block_lt_of_cell? _ _ b0) (no _ (.inr rfl))).trans b0,(u.cell (World.block_lt_of_cell? _ _ b1) (no _ (.inr rfl))).trans b1⟩
   clear hB1;go_wp2_with fail;obtain ⟨cs,hcs1,hcs2,hcs3⟩:=HL3.out.1.mem.tt.ex;obtain ⟨tr,hr0,hr1,hr2,hr3⟩:=info_parts Tryz.infoRefS;obtain ⟨tt,ht0,ht1,ht2,ht3⟩:=info_parts Tryz.infoTable;have HIR:=Lib.hid (And.intro hr0 (And.intro hr1 (And.intro hr2 hr3)));have HIT:=Lib.hid (And.intro ht0 (And.intro ht1 (And.intro ht2 ht3)));have HCS:=Lib.hid (And.intro hcs1 (And.intro hcs2 hcs3))
   have HRR:Hid (∀ x:World,Upd (Value.slice xa tabs.length xc).ownBlock.toList w3 x->x.ownsRow 0 54 1 (.slice ra refs.length rc) refs.length (flatRefs refs)):=fun x u=>row_keep HL3.out.1.mem.rr fun k hk=>u.block k (HL3.out.1.mem.rr.lt k hk).2 fun hm=>ty_ne HL3.out.1.mem.rr HCS.out.2.1 (by decide) hk (by simpa using hm)
   have HRT:Hid (∀ x:World,Upd (Value.slice ra refs.length rc).ownBlock.toList w3 x->x.ownsRow 0 56 2 (.slice xa tabs.length xc) tabs.length (flatTT tabs cs)):=fun x u=>row_keep HCS.out.2.1 fun k hk=>u.block k (HCS.out.2.1.lt k hk).2 fun hm=>ty_ne HCS.out.2.1 HL3.out.1.mem.rr (by decide) hk (by simpa using hm)
   have HFZ:Hid (∀ x:World,Upd ((Value.slice ra refs.length rc).ownBlock.toList++(Value.slice xa tabs.length xc).ownBlock.toList) w3 x->x.frozen? ⟨a,2,none⟩=false/\x.frozen? ⟨a,3,none⟩=false/\x.cell? ⟨a,2,none⟩=some (.slice ra refs.length rc)/\x.cell? ⟨a,3,none⟩=some (.slice xa tabs.length xc)):=fun x u=>by
    have no:a∉(Value.slice ra refs.length rc).ownBlock.toList++(Value.slice xa tabs.length xc).ownBlock.toList:=fun hm=>by
     rcases List.mem_append.1 hm with hm | hm
     ·exact blk_ne HL3.out.1.mem.rr HL3.out.1.blk (by decide) (by simpa using hm)
     ·exact blk_ne HCS.out.2.1 HL3.out.1.blk (by decide) (by simpa using hm)
    have hb:=(u.block a (heap_lt HL3.out.1.blk) no).trans HL3.out.1.blk;exact ⟨frozen_at 2 hb,frozen_at 3 hb,cell_at hb rfl,cell_at hb rfl⟩
   have HRL:Hid (∀ k,some k=(Value.slice ra refs.length rc).ownBlock->k<w3.heap.size):=fun k hk=>(HL3.out.1.mem.rr.lt k hk.symm).2
   have HC1:Hid (∀ u,u∈[Value.int .u32 r]->u.oneCell'=true):=by intro u hu;simp at hu;subst hu;rfl
   have HC2:Hid (∀ u,u∈[Value.int .i64 n,Value.slice ta W tc]->u.oneCell'=true):=by intro u hu;simp at hu;rcases hu with rfl | rfl <;> rfl
   clear hr0 hr1 hr2 hr3 ht0 ht1 ht2 ht3 hcs1 hcs2 hcs3
   have HDONE:Hid (∀ (g1 cap1 g2 cap2:Nat) (w6:World),Upd ((Value.slice ra refs.length rc).ownBlock.toList++(Value.slice xa tabs.length xc).ownBlock.toList) w3 w6->w6.ownsRow 0 54 1 (.slice (some ⟨g1,0,none⟩) (refs.length+1) cap1) (refs.length+1) (flatRefs refs++[.int .u32 r]) ->
     w6.ownsRow 0 56 2 (.slice (some ⟨g2,0,none⟩) (tabs.length+1) cap2) (tabs.length+1) (flatTT tabs cs++[.int .i64 n,.slice ta W tc])->(((Value.slice ra refs.length rc).ownBlock=some g1\/w3.heap.size<=g1)/\((Value.slice xa tabs.length xc).ownBlock=some g2\/w3.heap.size<=g2)) ->
     AddQ n0 a b m K F M p refs tabs r t w (.returned (.bool true)) ((w6.setCell ⟨a,2,none⟩ (.slice (some ⟨g1,0,none⟩) (refs.length+1) cap1)).setCell ⟨a,3,none⟩ (.slice (some ⟨g2,0,none⟩) (tabs.length+1) cap2))):=fun g1 cap1 g2 cap2 w6 u o1 o2 at_=>by
    rw [<- HN.out.2] at o2;obtain ⟨hl,hf⟩:=HL3.out.1.push u HCS.out.1 HCS.out.2.2 o1 o2 at_.1 at_.2 HTW3.out;exact ⟨_,_,rfl,hl,HL3.out.2.trans hf⟩
   obtain ⟨y02,y03,y00,y01⟩:=HS.out (w3.alloc (.cells #[.int .u32 r] 54 (0,0))) ((Upd.refl _ _).alloc _);obtain ⟨y12,y13,y10,y11⟩:=HS.out (w3.alloc (.cells #[.int .i64 n,.slice ta W tc] 56 (0,0))) ((Upd.refl _ _).alloc _);obtain ⟨y22,y23,y20,y21⟩:=HS.out ((w3.alloc (.cells #[.int .u32 r] 54 (0,0))).alloc (.cells #[.int .i64 n,.slice ta W tc] 56 (0,0))) (((Upd.refl _ _).alloc _).alloc _);obtain ⟨y32,y33,y30,y31⟩:=HS.out ((w3.alloc (.cells #[.int .i64 n,.slice ta W tc] 56 (0,0))).alloc (.cells #[.int .u32 r] 54 (0,0))) (((Upd.refl _ _).alloc _).alloc _)
   have HXB:Hid (((w3.alloc (.cells #[.int .u32 r] 54 (0,0))).alloc (.cells #[.int .i64 n,.slice ta W tc] 56 (0,0))).heap[w3.heap.size+1]?=some (.cells #[.int .i64 n,.slice ta W tc] 56 (0,0))):=by
    have h:=heap_alloc_new (w3.alloc (.cells #[.int .u32 r] 54 (0,0))) (.cells #[.int .i64 n,.slice ta W tc] 56 (0,0))
    rw [World.size_alloc] at h;exact h
   have HXC:Hid (((w3.alloc (.cells #[.int .i64 n,.slice ta W tc] 56 (0,0))).alloc (.cells #[.int .u32 r] 54 (0,0))).heap[w3.heap.size]?=some (.cells #[.int .i64 n,.slice ta W tc] 56 (0,0))):=(Below.heap_alloc _ _ _ (heap_lt (heap_alloc_new _ _))).trans (heap_alloc_new _ _)
   have HNX:Hid (∀ k,w3.heap.size<=k->some k≠(Value.slice ra refs.length rc).ownBlock):=fun k hk e=>by have:=HRL.out k e;omega
   have HX1A:Hid ((w3.alloc (.cells #[.int .u32 r] 54 (0,0))).heap[w3.heap.size]?=some (.cells #[.int .u32 r] 54 (0,0))):=heap_alloc_new _ _;have HX1B:Hid (((w3.alloc (.cells #[.int .u32 r] 54 (0,0))).alloc (.cells #[.int .i64 n,.slice ta W tc] 56 (0,0))).heap[w3.heap.size]?=some (.cells #[.int .u32 r] 54 (0,0))):=(Below.heap_alloc _ _ _ (heap_lt (heap_alloc_new _ _))).trans (heap_alloc_new _ _)
   have HX1C:Hid (((w3.alloc (.cells #[.int .i64 n,.slice ta W tc] 56 (0,0))).alloc (.cells #[.int .u32 r] 54 (0,0))).heap[w3.heap.size+1]?=some (.cells #[.int .u32 r] 54 (0,0))):=by
    have h:=heap_alloc_new (w3.alloc (.cells #[.int .i64 n,.slice ta W tc] 56 (0,0))) (.cells #[.int .u32 r] 54 (0,0))
    rw [World.size_alloc] at h;exact h
   have HSB:Hid (∀ x:World,Upd ((Value.slice ra refs.length rc).ownBlock.toList++(Value.slice xa tabs.length xc).ownBlock.toList) w3 x->x.cell? ⟨w.heap.size,0,none⟩=some (.int .i64 n)/\x.cell? ⟨w.heap.size,1,none⟩=some (.slice ta W tc)):=fun x u=>⟨(HS.out x u).2.2.1,(HS.out x u).2.2.2⟩
   have hne:w.heap.size≠a:=by omega
   have HSE:Hid (∀ x:World,Upd ((Value.slice ra refs.length rc).ownBlock.toList++(Value.slice xa tabs.length xc).ownBlock.toList) w3 x->(x.cell? ⟨w.heap.size,0,none⟩=some (.int .i64 n)/\x.cell? ⟨w.heap.size,1,none⟩=some (.slice ta W tc))/\x.cell? ⟨a,2,none⟩=some (.slice ra refs.length rc)/\x.cell? ⟨a,3,none⟩=some (.slice xa tabs.length xc)):=fun x u=>⟨HSB.out x u,(HFZ.out x u).2.2.1,(HFZ.out x u).2.2.2⟩
   refine wp_region_until (fun x=>x.cell? ⟨w.heap.size,0,none⟩=some (.int .i64 n)/\x.cell? ⟨w.heap.size,1,none⟩=some (.slice ta W tc)) (fun x=>x.cell? ⟨a,2,none⟩=some (.slice ra refs.length rc)/\x.cell? ⟨a,3,none⟩=some (.slice xa tabs.length xc)) [18,21] (by kernel_rfl) ?_;have hS:=(HSE.out _ (Upd.refl _ _).drew).1;have hE:=(HSE.out _ (Upd.refl _ _).drew).2;refine wpAnyU_takeS (i:=0) (v:=?v1) rfl (by kernel_rfl) (by kernel_rfl) (by kernel_rfl) (by kernel_rfl) (fun _ _ _ h=>h) (Or.inl ⟨by rfl,?hy1⟩) hS (fun _=>hE) ?rest1
   case hy1=>(intro x hSx;(try dsimp only at hSx);go_simp;try with_reducible rfl)
   (try simp only [Act.put,List.setIfInBounds_toArray])
   refine wpAnyU_takeS (i:=1) (v:=?v901) rfl (by kernel_rfl) (by kernel_rfl) (by kernel_rfl) (by kernel_rfl) (fun _ _ _ h=>h) (Or.inl ⟨by rfl,?hy901⟩) hS (fun _=>hE) ?rest901
   case hy901=>(intro x hSx;(try dsimp only at hSx);go_simp;try with_reducible rfl)
   (try simp only [Act.put])
   refine wpAnyU_takeS (i:=2) (v:=?v2) rfl (by kernel_rfl) (by kernel_rfl) (by kernel_rfl) (by kernel_rfl) (fun _ _ _ h=>h) (Or.inl ⟨by rfl,?hy2⟩) hS (fun _=>hE) ?rest2
   case hy2=>(intro x hSx;(try dsimp only at hSx);go_simp;try with_reducible rfl)
   (try simp only [Act.put])
   refine wpAnyU_takeS (i:=3) (v:=?v3) rfl (by kernel_rfl) (by kernel_rfl) (by kernel_rfl) (by kernel_rfl) (fun _ _ _ h=>h) (Or.inl ⟨by rfl,?hy3⟩) hS (fun _=>hE) ?rest3
   case hy3=>(intro x hSx;(try dsimp only at hSx);go_simp;try with_reducible rfl)
   (try simp only [Act.put])
   refine wpAnyU_takeS (i:=4) (v:=?v4) rfl (by kernel_rfl) (by kernel_rfl) (by kernel_rfl) (by kernel_rfl) (fun _ _ _ h=>h) (Or.inl ⟨by rfl,?hy4⟩) hS (fun _=>hE) ?rest4
   case hy4=>(intro x hSx;(try dsimp only at hSx);go_simp;try with_reducible rfl)
   (try simp only [Act.put])
   refine wpAnyU_takeE (i:=5) (v:=?v5) rfl (by kernel_rfl) (by kernel_rfl) (by kernel_rfl) (by kernel_rfl) (by kernel_rfl) (by kernel_rfl) (fun _ _ _ h=>h) (Or.inl ⟨by rfl,?hy5⟩) hS (fun _=>hE) ?rest5
   case hy5=>(intro x hSx;(try dsimp only at hSx);go_simp;try with_reducible rfl)
   (try simp only [Act.put])
   refine wpAnyU_takeS (i:=6) (v:=?v6) rfl (by kernel_rfl) (by kernel_rfl) (by kernel_rfl) (by kernel_rfl) (fun _ _ _ h=>h) (Or.inl ⟨by rfl,?hy6⟩) hS (fun _=>hE) ?rest6
   case hy6=>(intro x hSx;(try dsimp only at hSx);go_simp;try with_reducible rfl)
   (try simp only [Act.put])
   refine wpAnyU_takeS (i:=9) (v:=?v7) rfl (by kernel_rfl) (by kernel_rfl) (by kernel_rfl) (by kernel_rfl) (fun _ _ _ h=>h) (Or.inl ⟨by rfl,?hy7⟩) hS (fun _=>hE) ?rest7
   case hy7=>(intro x hSx;(try dsimp only at hSx);go_simp;try with_reducible rfl)
   (try simp only [Act.put])
   refine wpAnyU_takeS (i:=10) (v:=?v8) rfl (by kernel_rfl) (by kernel_rfl) (by kernel_rfl) (by kernel_rfl) (fun _ _ _ h=>h) (Or.inl ⟨by rfl,?hy8⟩) hS (fun _=>hE) ?rest8
   case hy8=>(intro x hSx;(try dsimp only at hSx);go_simp;try with_reducible rfl)
   (try simp only [Act.put])
   refine wpAnyU_takeS (i:=11) (v:=?v9) rfl (by kernel_rfl) (by kernel_rfl) (by kernel_rfl) (by kernel_rfl) (fun _ _ _ h=>h) (Or.inl ⟨by rfl,?hy9⟩) hS (fun _=>hE) ?rest9
   case hy9=>(intro x hSx;(try dsimp only at hSx);go_simp;try with_reducible rfl)
   (try simp only [Act.put])
   refine wpAnyU_takeE (i:=12) (v:=?v10) rfl (by kernel_rfl) (by kernel_rfl) (by kernel_rfl) (by kernel_rfl) (by kernel_rfl) (by kernel_rfl) (fun _ _ _ h=>h) (Or.inl ⟨by rfl,?hy10⟩) hS (fun _=>hE) ?rest10
   case hy10=>(intro x hSx;(try dsimp only at hSx);go_simp;try with_reducible rfl)
   (try simp only [Act.put])
   refine wpAnyU_takeS (i:=13) (v:=?v11) rfl (by kernel_rfl) (by kernel_rfl) (by kernel_rfl) (by kernel_rfl) (fun _ _ _ h=>h) (Or.inl ⟨by rfl,?hy11⟩) hS (fun _=>hE) ?rest11
   case hy11=>(intro x hSx;(try dsimp only at hSx);go_simp;try with_reducible rfl)
   (try simp only [Act.put])
   refine wpAnyU_ready (rs:=[7,14]) (by kernel_rfl) (by simp) ?_;refine AllReadyU.cons rfl (fun K hK=>?_) ?_
   ·go_simp
    refine hK.out _ _ ⟨(HSE.out _ ((Upd.refl _ _).drew.alloc _)).1,fun _=>(HSE.out _ ((Upd.refl _ _).drew.alloc _)).2⟩ (fun hHeld=>?_);clear hK K;obtain ⟨hS,hE⟩:=hHeld;have hE:=hE (by kernel_rfl)
    (try simp only [Act.put,List.setIfInBounds_toArray,List.set_cons_zero,List.set_cons_succ])
    refine wpAnyU_ready (rs:=[8,14]) (by kernel_rfl) (by simp) ?_;refine AllReadyU.cons rfl (fun K hK=>?_) ?_
    ·
     (refine step_append_lies _ (by rfl) (.tmp 57) (.tmp 59) 28 (by rfl) 0 54 tr _ 1 4 Tryz.underlying28 HIR.out.1 HIR.out.2.1 HIR.out.2.2.1 HIR.out.2.2.2 (by rfl) (by decide) (.slice ra refs.length rc) refs.length (flatRefs refs) (by rfl) (HRR.out _ (by repeat (first | exact Upd.refl _ _ | refine Upd.drew ?_ | refine Upd.alloc ?_ _))) ⟨_,0,none⟩ 1 1 [.int .u32 r] (by rfl) (by rfl) (World.news_of_block (cs:=#[.int .u32 r]) (t:=54) (fr:=(0,0)) (by first | exact HX1A.out | exact HX1B.out | exact HX1C.out)) HC1.out (by omega) (by unfold maxLen;omega) (by omega) (Nat.zero_le _) _ (by rfl) ?_;intro g1 cap1 w5 hown1 hgr1 hat1 hlt1;have HG1:=Lib.hid (And.intro (Upd.grown (S:=(Value.slice ra refs.length rc).ownBlock.toList++(Value.slice xa tabs.length xc).ownBlock.toList) (w:=w3) (by repeat (first | exact Upd.refl _ _ | refine Upd.drew ?_ | refine Upd.alloc ?_ _)) hgr1 (fun k hk=>.inl (by simp [hk]))) (And.intro (Upd.grown (S:=(Value.slice ra refs.length rc).ownBlock.toList) (w:=w3) (by repeat (first | exact Upd.refl _ _ | refine Upd.drew ?_ | refine Upd.alloc ?_ _)) hgr1 (fun k hk=>.inl (by simp [hk]))) (And.intro hown1 (app_at (w:=w3) (S:=[]) (by repeat (first | exact Upd.refl _ _ | refine Upd.drew ?_ | refine Upd.alloc ?_ _)) hat1))));have HGR1:=Lib.hid hgr1;obtain ⟨q2,q3,q0,q1⟩:=HS.out w5 HG1.out.1;obtain ⟨p2,p3',p0,p1⟩:=HS.out (w5.alloc (.cells #[.int .i64 n,.slice ta W tc] 56 (0,0))) (HG1.out.1.alloc _);clear hown1 hgr1 hat1 hlt1)
     refine hK.out _ _ ⟨(HSE.out _ HG1.out.1).1,fun _=>(HSE.out _ HG1.out.1).2⟩ (fun hHeld=>?_);clear hK K;obtain ⟨hS,hE⟩:=hHeld;have hE:=hE (by kernel_rfl)
     (try simp only [Act.put,List.setIfInBounds_toArray])
     refine wpAnyU_ready (rs:=[14]) (by kernel_rfl) (by simp) ?_;refine AllReadyU.cons rfl (fun K hK=>?_) ?_
     rotate_left
     exact AllReadyU.nil
     go_simp
     refine hK.out _ _ ⟨(HSE.out _ (HG1.out.1.alloc _)).1,fun _=>(HSE.out _ (HG1.out.1.alloc _)).2⟩ (fun hHeld=>?_);clear hK K;obtain ⟨hS,hE⟩:=hHeld;have hE:=hE (by kernel_rfl)
     (try simp only [Act.put,List.setIfInBounds_toArray,List.set_cons_zero,List.set_cons_succ])
     refine wpAnyU_ready (rs:=[15]) (by kernel_rfl) (by simp) ?_;refine AllReadyU.cons rfl (fun K hK=>?_) ?_
     rotate_left
     exact AllReadyU.nil
     (refine step_append_lies _ (by rfl) (.tmp 64) (.tmp 66) 29 (by rfl) 0 56 tt _ 2 32 Tryz.underlying29 HIT.out.1 HIT.out.2.1 HIT.out.2.2.1 HIT.out.2.2.2 (by rfl) (by decide) (.slice xa tabs.length xc) tabs.length (flatTT tabs cs) (by rfl) (HRT.out _ (by repeat (first | exact HG1.out.2.1 | refine Upd.drew ?_ | refine Upd.alloc ?_ _))) ⟨_,0,none⟩ 1 1 [.int .i64 n,.slice ta W tc] (by rfl) (by rfl) (World.news_of_block (cs:=#[.int .i64 n,.slice ta W tc]) (t:=56) (fr:=(0,0)) (by first | exact heap_alloc_new _ _ | exact (HGR1.out.block _ (heap_lt HXB.out) (HNX.out _ (by omega))).trans HXB.out | exact (HGR1.out.block _ (heap_lt HXC.out) (HNX.out _ (by omega))).trans HXC.out)) HC2.out (by omega) (by unfold maxLen;omega) (by omega) (Nat.zero_le _) _ (by rfl) ?_;intro g2 cap2 w6 hown2 hgr2 hat2 hlt2;have HG2:=Lib.hid (And.intro (Upd.grown (S:=(Value.slice ra refs.length rc).ownBlock.toList++(Value.slice xa tabs.length xc).ownBlock.toList) (w:=w3) (by repeat (first | exact HG1.out.1 | refine Upd.drew ?_ | refine Upd.alloc ?_ _)) hgr2 (fun k hk=>.inl (by simp [hk]))) (And.intro (row_grow (by repeat (first | exact Upd.refl _ _ | refine Upd.drew ?_ | refine Upd.alloc ?_ _)) hgr2 HG1.out.2.2.1 (fun k hk hq=>ty_ne HG1.out.2.2.1 (HRT.out _ HG1.out.2.1) (by decide) hk hq)) (And.intro hown2 (And.intro HG1.out.2.2.2 (app_at (w:=w3) (S:=(Value.slice ra refs.length rc).ownBlock.toList++(Value.slice xa tabs.length xc).ownBlock.toList) (by repeat (first | exact HG1.out.1 | refine Upd.drew ?_ | refine Upd.alloc ?_ _)) hat2)))));obtain ⟨fz2,fz3,k2,k3⟩:=HFZ.out w6 HG2.out.1;clear hown2 hgr2 hat2 hlt2 HGR1 HG1)
     refine hK.out _ _ ⟨(HSE.out _ HG2.out.1).1,fun _=>(HSE.out _ HG2.out.1).2⟩ (fun hHeld=>?_);clear hK K;obtain ⟨hS,hE⟩:=hHeld;have hE:=hE (by kernel_rfl)
     (try simp only [Act.put,List.setIfInBounds_toArray])
     refine wpAnyU_takeS (i:=16) (v:=?v12) rfl (by kernel_rfl) (by kernel_rfl) (by kernel_rfl) (by kernel_rfl) (fun _ _ _ h=>h) (Or.inl ⟨by rfl,?hy12⟩) hS (fun _=>hE) ?rest12
     case hy12=>(intro x hSx;(try dsimp only at hSx);go_simp;try with_reducible rfl)
     (try simp only [Act.put])
     refine wpAnyU_takeS (i:=17) (v:=?v13) rfl (by kernel_rfl) (by kernel_rfl) (by kernel_rfl) (by kernel_rfl) (fun _ _ _ h=>h) (Or.inl ⟨by rfl,?hy13⟩) hS (fun _=>hE) ?rest13
     case hy13=>(intro x hSx;(try dsimp only at hSx);go_simp;try with_reducible rfl)
     (try simp only [Act.put])
     refine wpAnyU_ready (rs:=[18]) (by kernel_rfl) (by simp) ?_;refine AllReadyU.cons rfl (fun K hK=>?_) ?_
     rotate_left
     exact AllReadyU.nil
     go_simp
     refine hK.out _ _ ⟨(by refine box_set (HSB.out _ HG2.out.1) ?_ _;assumption),fun h=>noE (by kernel_rfl) h⟩ (fun hHeld=>?_);clear hK K;obtain ⟨hS,_⟩:=hHeld
     (try simp only [Act.put,List.setIfInBounds_toArray,List.set_cons_zero,List.set_cons_succ])
     refine wpAnyU_takeS (i:=19) (v:=?v15) rfl (by kernel_rfl) (by kernel_rfl) (by kernel_rfl) (by kernel_rfl) (fun _ _ _ h=>h) (Or.inl ⟨by rfl,?hy15⟩) hS (fun h=>noE (by kernel_rfl) h) ?rest15
     case hy15=>(intro x hSx;(try dsimp only at hSx);go_simp;try with_reducible rfl)
     (try simp only [Act.put,List.setIfInBounds_toArray])
     refine wpAnyU_takeS (i:=20) (v:=?v16) rfl (by kernel_rfl) (by kernel_rfl) (by kernel_rfl) (by kernel_rfl) (fun _ _ _ h=>h) (Or.inl ⟨by rfl,?hy16⟩) hS (fun h=>noE (by kernel_rfl) h) ?rest16
     case hy16=>(intro x hSx;(try dsimp only at hSx);go_simp;try with_reducible rfl)
     (try simp only [Act.put])
     refine wpAnyU_ready (rs:=[21]) (by kernel_rfl) (by simp) ?_;refine AllReadyU.cons rfl (fun K hK=>?_) ?_
     rotate_left
     exact AllReadyU.nil
     go_simp
     refine hK.out _ _ ⟨(by refine box_set (box_set (HSB.out _ HG2.out.1) ?_ _) ?_ _ <;> assumption),fun h=>noE (by kernel_rfl) h⟩ (fun hHeld=>?_);clear hK K;obtain ⟨hS,_⟩:=hHeld
     (try simp only [Act.put,List.setIfInBounds_toArray,List.set_cons_zero,List.set_cons_succ])
     refine wpAnyU_done (by kernel_rfl) ?_ _;go_wp2_with fail;go_ret;exact HDONE.out _ _ _ _ _ HG2.out.1 HG2.out.2.1 HG2.out.2.2.1 HG2.out.2.2.2
    refine AllReadyU.cons rfl (fun K hK=>?_) ?_
    rotate_left
    exact AllReadyU.nil
    go_simp
    refine hK.out _ _ ⟨(HSE.out _ (((Upd.refl _ _).drew.alloc _).alloc _)).1,fun _=>(HSE.out _ (((Upd.refl _ _).drew.alloc _).alloc _)).2⟩ (fun hHeld=>?_);clear hK K;obtain ⟨hS,hE⟩:=hHeld;have hE:=hE (by kernel_rfl)
    (try simp only [Act.put,List.setIfInBounds_toArray,List.set_cons_zero,List.set_cons_succ])
    refine wpAnyU_ready (rs:=[8]) (by kernel_rfl) (by simp) ?_;refine AllReadyU.cons rfl (fun K hK=>?_) ?_
    rotate_left
    exact AllReadyU.nil
    (refine step_append_lies _ (by rfl) (.tmp 57) (.tmp 59) 28 (by rfl) 0 54 tr _ 1 4 Tryz.underlying28 HIR.out.1 HIR.out.2.1 HIR.out.2.2.1 HIR.out.2.2.2 (by rfl) (by decide) (.slice ra refs.length rc) refs.length (flatRefs refs) (by rfl) (HRR.out _ (by repeat (first | exact Upd.refl _ _ | refine Upd.drew ?_ | refine Upd.alloc ?_ _))) ⟨_,0,none⟩ 1 1 [.int .u32 r] (by rfl) (by rfl) (World.news_of_block (cs:=#[.int .u32 r]) (t:=54) (fr:=(0,0)) (by first | exact HX1A.out | exact HX1B.out | exact HX1C.out)) HC1.out (by omega) (by unfold maxLen;omega) (by omega) (Nat.zero_le _) _ (by rfl) ?_;intro g1 cap1 w5 hown1 hgr1 hat1 hlt1;have HG1:=Lib.hid (And.intro (Upd.grown (S:=(Value.slice ra refs.length rc).ownBlock.toList++(Value.slice xa tabs.length xc).ownBlock.toList) (w:=w3) (by repeat (first | exact Upd.refl _ _ | refine Upd.drew ?_ | refine Upd.alloc ?_ _)) hgr1 (fun k hk=>.inl (by simp [hk]))) (And.intro (Upd.grown (S:=(Value.slice ra refs.length rc).ownBlock.toList) (w:=w3) (by repeat (first | exact Upd.refl _ _ | refine Upd.drew ?_ | refine Upd.alloc ?_ _)) hgr1 (fun k hk=>.inl (by simp [hk]))) (And.intro hown1 (app_at (w:=w3) (S:=[]) (by repeat (first | exact Upd.refl _ _ | refine Upd.drew ?_ | refine Upd.alloc ?_ _)) hat1))));have HGR1:=Lib.hid hgr1;obtain ⟨q2,q3,q0,q1⟩:=HS.out w5 HG1.out.1;obtain ⟨p2,p3',p0,p1⟩:=HS.out (w5.alloc (.cells #[.int .i64 n,.slice ta W tc] 56 (0,0))) (HG1.out.1.alloc _);clear hown1 hgr1 hat1 hlt1)
    refine hK.out _ _ ⟨(HSE.out _ HG1.out.1).1,fun _=>(HSE.out _ HG1.out.1).2⟩ (fun hHeld=>?_);clear hK K;obtain ⟨hS,hE⟩:=hHeld;have hE:=hE (by kernel_rfl)
    (try simp only [Act.put,List.setIfInBounds_toArray])
    refine wpAnyU_ready (rs:=[15]) (by kernel_rfl) (by simp) ?_;refine AllReadyU.cons rfl (fun K hK=>?_) ?_
    rotate_left
    exact AllReadyU.nil
    (refine step_append_lies _ (by rfl) (.tmp 64) (.tmp 66) 29 (by rfl) 0 56 tt _ 2 32 Tryz.underlying29 HIT.out.1 HIT.out.2.1 HIT.out.2.2.1 HIT.out.2.2.2 (by rfl) (by decide) (.slice xa tabs.length xc) tabs.length (flatTT tabs cs) (by rfl) (HRT.out _ (by repeat (first | exact HG1.out.2.1 | refine Upd.drew ?_ | refine Upd.alloc ?_ _))) ⟨_,0,none⟩ 1 1 [.int .i64 n,.slice ta W tc] (by rfl) (by rfl) (World.news_of_block (cs:=#[.int .i64 n,.slice ta W tc]) (t:=56) (fr:=(0,0)) (by first | exact heap_alloc_new _ _ | exact (HGR1.out.block _ (heap_lt HXB.out) (HNX.out _ (by omega))).trans HXB.out | exact (HGR1.out.block _ (heap_lt HXC.out) (HNX.out _ (by omega))).trans HXC.out)) HC2.out (by omega) (by unfold maxLen;omega) (by omega) (Nat.zero_le _) _ (by rfl) ?_;intro g2 cap2 w6 hown2 hgr2 hat2 hlt2;have HG2:=Lib.hid (And.intro (Upd.grown (S:=(Value.slice ra refs.length rc).ownBlock.toList++(Value.slice xa tabs.length xc).ownBlock.toList) (w:=w3) (by repeat (first | exact HG1.out.1 | refine Upd.drew ?_ | refine Upd.alloc ?_ _)) hgr2 (fun k hk=>.inl (by simp [hk]))) (And.intro (row_grow (by repeat (first | exact Upd.refl _ _ | refine Upd.drew ?_ | refine Upd.alloc ?_ _)) hgr2 HG1.out.2.2.1 (fun k hk hq=>ty_ne HG1.out.2.2.1 (HRT.out _ HG1.out.2.1) (by decide) hk hq)) (And.intro hown2 (And.intro HG1.out.2.2.2 (app_at (w:=w3) (S:=(Value.slice ra refs.length rc).ownBlock.toList++(Value.slice xa tabs.length xc).ownBlock.toList) (by repeat (first | exact HG1.out.1 | refine Upd.drew ?_ | refine Upd.alloc ?_ _)) hat2)))));obtain ⟨fz2,fz3,k2,k3⟩:=HFZ.out w6 HG2.out.1;clear hown2 hgr2 hat2 hlt2 HGR1 HG1)
    refine hK.out _ _ ⟨(HSE.out _ HG2.out.1).1,fun _=>(HSE.out _ HG2.out.1).2⟩ (fun hHeld=>?_);clear hK K;obtain ⟨hS,hE⟩:=hHeld;have hE:=hE (by kernel_rfl)
    (try simp only [Act.put])
    refine wpAnyU_takeS (i:=16) (v:=?v17) rfl (by kernel_rfl) (by kernel_rfl) (by kernel_rfl) (by kernel_rfl) (fun _ _ _ h=>h) (Or.inl ⟨by rfl,?hy17⟩) hS (fun _=>hE) ?rest17
    case hy17=>(intro x hSx;(try dsimp only at hSx);go_simp;try with_reducible rfl)
    (try simp only [Act.put])
    refine wpAnyU_takeS (i:=17) (v:=?v18) rfl (by kernel_rfl) (by kernel_rfl) (by kernel_rfl) (by kernel_rfl) (fun _ _ _ h=>h) (Or.inl ⟨by rfl,?hy18⟩) hS (fun _=>hE) ?rest18
    case hy18=>(intro x hSx;(try dsimp only at hSx);go_simp;try with_reducible rfl)
    (try simp only [Act.put])
    refine wpAnyU_ready (rs:=[18]) (by kernel_rfl) (by simp) ?_;refine AllReadyU.cons rfl (fun K hK=>?_) ?_
    rotate_left
    exact AllReadyU.nil
    go_simp
    refine hK.out _ _ ⟨(by refine box_set (HSB.out _ HG2.out.1) ?_ _;assumption),fun h=>noE (by kernel_rfl) h⟩ (fun hHeld=>?_);clear hK K;obtain ⟨hS,_⟩:=hHeld
    (try simp only [Act.put,List.setIfInBounds_toArray,List.set_cons_zero,List.set_cons_succ])
    refine wpAnyU_takeS (i:=19) (v:=?v20) rfl (by kernel_rfl) (by kernel_rfl) (by kernel_rfl) (by kernel_rfl) (fun _ _ _ h=>h) (Or.inl ⟨by rfl,?hy20⟩) hS (fun h=>noE (by kernel_rfl) h) ?rest20
    case hy20=>(intro x hSx;(try dsimp only at hSx);go_simp;try with_reducible rfl)
    (try simp only [Act.put,List.setIfInBounds_toArray])
    refine wpAnyU_takeS (i:=20) (v:=?v21) rfl (by kernel_rfl) (by kernel_rfl) (by kernel_rfl) (by kernel_rfl) (fun _ _ _ h=>h) (Or.inl ⟨by rfl,?hy21⟩) hS (fun h=>noE (by kernel_rfl) h) ?rest21
    case hy21=>(intro x hSx;(try dsimp only at hSx);go_simp;try with_reducible rfl)
    (try simp only [Act.put])
    refine wpAnyU_ready (rs:=[21]) (by kernel_rfl) (by simp) ?_;refine AllReadyU.cons rfl (fun K hK=>?_) ?_
    rotate_left
    exact AllReadyU.nil
    go_simp
    refine hK.out _ _ ⟨(by refine box_set (box_set (HSB.out _ HG2.out.1) ?_ _) ?_ _ <;> assumption),fun h=>noE (by kernel_rfl) h⟩ (fun hHeld=>?_);clear hK K;obtain ⟨hS,_⟩:=hHeld
    (try simp only [Act.put,List.setIfInBounds_toArray,List.set_cons_zero,List.set_cons_succ])
    refine wpAnyU_done (by kernel_rfl) ?_ _;go_wp2_with fail;go_ret;exact HDONE.out _ _ _ _ _ HG2.out.1 HG2.out.2.1 HG2.out.2.2.1 HG2.out.2.2.2
   refine AllReadyU.cons rfl (fun K hK=>?_) ?_
   rotate_left
   exact AllReadyU.nil
   go_simp
   refine hK.out _ _ ⟨(HSE.out _ ((Upd.refl _ _).drew.alloc _)).1,fun _=>(HSE.out _ ((Upd.refl _ _).drew.alloc _)).2⟩ (fun hHeld=>?_);clear hK K;obtain ⟨hS,hE⟩:=hHeld;have hE:=hE (by kernel_rfl)
   (try simp only [Act.put,List.setIfInBounds_toArray,List.set_cons_zero,List.set_cons_succ])
   refine wpAnyU_ready (rs:=[7]) (by kernel_rfl) (by simp) ?_;refine AllReadyU.cons rfl (fun K hK=>?_) ?_
   rotate_left
   exact AllReadyU.nil
   go_simp
   refine hK.out _ _ ⟨(HSE.out _ (((Upd.refl _ _).drew.alloc _).alloc _)).1,fun _=>(HSE.out _ (((Upd.refl _ _).drew.alloc _).alloc _)).2⟩ (fun hHeld=>?_);clear hK K;obtain ⟨hS,hE⟩:=hHeld;have hE:=hE (by kernel_rfl)
   (try simp only [Act.put,List.setIfInBounds_toArray,List.set_cons_zero,List.set_cons_succ])
   refine wpAnyU_ready (rs:=[8]) (by kernel_rfl) (by simp) ?_;refine AllReadyU.cons rfl (fun K hK=>?_) ?_
   rotate_left
   exact AllReadyU.nil
   (refine step_append_lies _ (by rfl) (.tmp 57) (.tmp 59) 28 (by rfl) 0 54 tr _ 1 4 Tryz.underlying28 HIR.out.1 HIR.out.2.1 HIR.out.2.2.1 HIR.out.2.2.2 (by rfl) (by decide) (.slice ra refs.length rc) refs.length (flatRefs refs) (by rfl) (HRR.out _ (by repeat (first | exact Upd.refl _ _ | refine Upd.drew ?_ | refine Upd.alloc ?_ _))) ⟨_,0,none⟩ 1 1 [.int .u32 r] (by rfl) (by rfl) (World.news_of_block (cs:=#[.int .u32 r]) (t:=54) (fr:=(0,0)) (by first | exact HX1A.out | exact HX1B.out | exact HX1C.out)) HC1.out (by omega) (by unfold maxLen;omega) (by omega) (Nat.zero_le _) _ (by rfl) ?_;intro g1 cap1 w5 hown1 hgr1 hat1 hlt1;have HG1:=Lib.hid (And.intro (Upd.grown (S:=(Value.slice ra refs.length rc).ownBlock.toList++(Value.slice xa tabs.length xc).ownBlock.toList) (w:=w3) (by repeat (first | exact Upd.refl _ _ | refine Upd.drew ?_ | refine Upd.alloc ?_ _)) hgr1 (fun k hk=>.inl (by simp [hk]))) (And.intro (Upd.grown (S:=(Value.slice ra refs.length rc).ownBlock.toList) (w:=w3) (by repeat (first | exact Upd.refl _ _ | refine Upd.drew ?_ | refine Upd.alloc ?_ _)) hgr1 (fun k hk=>.inl (by simp [hk]))) (And.intro hown1 (app_at (w:=w3) (S:=[]) (by repeat (first | exact Upd.refl _ _ | refine Upd.drew ?_ | refine Upd.alloc ?_ _)) hat1))));have HGR1:=Lib.hid hgr1;obtain ⟨q2,q3,q0,q1⟩:=HS.out w5 HG1.out.1;obtain ⟨p2,p3',p0,p1⟩:=HS.out (w5.alloc (.cells #[.int .i64 n,.slice ta W tc] 56 (0,0))) (HG1.out.1.alloc _);clear hown1 hgr1 hat1 hlt1)
   refine hK.out _ _ ⟨(HSE.out _ HG1.out.1).1,fun _=>(HSE.out _ HG1.out.1).2⟩ (fun hHeld=>?_);clear hK K;obtain ⟨hS,hE⟩:=hHeld;have hE:=hE (by kernel_rfl)
   (try simp only [Act.put,List.setIfInBounds_toArray])
   refine wpAnyU_ready (rs:=[15]) (by kernel_rfl) (by simp) ?_;refine AllReadyU.cons rfl (fun K hK=>?_) ?_
   rotate_left
   exact AllReadyU.nil
   (refine step_append_lies _ (by rfl) (.tmp 64) (.tmp 66) 29 (by rfl) 0 56 tt _ 2 32 Tryz.underlying29 HIT.out.1 HIT.out.2.1 HIT.out.2.2.1 HIT.out.2.2.2 (by rfl) (by decide) (.slice xa tabs.length xc) tabs.length (flatTT tabs cs) (by rfl) (HRT.out _ (by repeat (first | exact HG1.out.2.1 | refine Upd.drew ?_ | refine Upd.alloc ?_ _))) ⟨_,0,none⟩ 1 1 [.int .i64 n,.slice ta W tc] (by rfl) (by rfl) (World.news_of_block (cs:=#[.int .i64 n,.slice ta W tc]) (t:=56) (fr:=(0,0)) (by first | exact heap_alloc_new _ _ | exact (HGR1.out.block _ (heap_lt HXB.out) (HNX.out _ (by omega))).trans HXB.out | exact (HGR1.out.block _ (heap_lt HXC.out) (HNX.out _ (by omega))).trans HXC.out)) HC2.out (by omega) (by unfold maxLen;omega) (by omega) (Nat.zero_le _) _ (by rfl) ?_;intro g2 cap2 w6 hown2 hgr2 hat2 hlt2;have HG2:=Lib.hid (And.intro (Upd.grown (S:=(Value.slice ra refs.length rc).ownBlock.toList++(Value.slice xa tabs.length xc).ownBlock.toList) (w:=w3) (by repeat (first | exact HG1.out.1 | refine Upd.drew ?_ | refine Upd.alloc ?_ _)) hgr2 (fun k hk=>.inl (by simp [hk]))) (And.intro (row_grow (by repeat (first | exact Upd.refl _ _ | refine Upd.drew ?_ | refine Upd.alloc ?_ _)) hgr2 HG1.out.2.2.1 (fun k hk hq=>ty_ne HG1.out.2.2.1 (HRT.out _ HG1.out.2.1) (by decide) hk hq)) (And.intro hown2 (And.intro HG1.out.2.2.2 (app_at (w:=w3) (S:=(Value.slice ra refs.length rc).ownBlock.toList++(Value.slice xa tabs.length xc).ownBlock.toList) (by repeat (first | exact HG1.out.1 | refine Upd.drew ?_ | refine Upd.alloc ?_ _)) hat2)))));obtain ⟨fz2,fz3,k2,k3⟩:=HFZ.out w6 HG2.out.1;clear hown2 hgr2 hat2 hlt2 HGR1 HG1)
   refine hK.out _ _ ⟨(HSE.out _ HG2.out.1).1,fun _=>(HSE.out _ HG2.out.1).2⟩ (fun hHeld=>?_);clear hK K;obtain ⟨hS,hE⟩:=hHeld;have hE:=hE (by kernel_rfl)
   (try simp only [Act.put])
   refine wpAnyU_takeS (i:=16) (v:=?v22) rfl (by kernel_rfl) (by kernel_rfl) (by kernel_rfl) (by kernel_rfl) (fun _ _ _ h=>h) (Or.inl ⟨by rfl,?hy22⟩) hS (fun _=>hE) ?rest22
   case hy22=>(intro x hSx;(try dsimp only at hSx);go_simp;try with_reducible rfl)
   (try simp only [Act.put])
   refine wpAnyU_takeS (i:=17) (v:=?v23) rfl (by kernel_rfl) (by kernel_rfl) (by kernel_rfl) (by kernel_rfl) (fun _ _ _ h=>h) (Or.inl ⟨by rfl,?hy23⟩) hS (fun _=>hE) ?rest23
   case hy23=>(intro x hSx;(try dsimp only at hSx);go_simp;try with_reducible rfl)
   (try simp only [Act.put])
   refine wpAnyU_ready (rs:=[18]) (by kernel_rfl) (by simp) ?_;refine AllReadyU.cons rfl (fun K hK=>?_) ?_
   rotate_left
   exact AllReadyU.nil
   go_simp
   refine hK.out _ _ ⟨(by refine box_set (HSB.out _ HG2.out.1) ?_ _;assumption),fun h=>noE (by kernel_rfl) h⟩ (fun hHeld=>?_);clear hK K;obtain ⟨hS,_⟩:=hHeld
   (try simp only [Act.put,List.setIfInBounds_toArray,List.set_cons_zero,List.set_cons_succ])
   refine wpAnyU_takeS (i:=19) (v:=?v25) rfl (by kernel_rfl) (by kernel_rfl) (by kernel_rfl) (by kernel_rfl) (fun _ _ _ h=>h) (Or.inl ⟨by rfl,?hy25⟩) hS (fun h=>noE (by kernel_rfl) h) ?rest25
   case hy25=>(intro x hSx;(try dsimp only at hSx);go_simp;try with_reducible rfl)
   (try simp only [Act.put,List.setIfInBounds_toArray])
   refine wpAnyU_takeS (i:=20) (v:=?v26) rfl (by kernel_rfl) (by kernel_rfl) (by kernel_rfl) (by kernel_rfl) (fun _ _ _ h=>h) (Or.inl ⟨by rfl,?hy26⟩) hS (fun h=>noE (by kernel_rfl) h) ?rest26
   case hy26=>(intro x hSx;(try dsimp only at hSx);go_simp;try with_reducible rfl)
   (try simp only [Act.put])
   refine wpAnyU_ready (rs:=[21]) (by kernel_rfl) (by simp) ?_;refine AllReadyU.cons rfl (fun K hK=>?_) ?_
   rotate_left
   exact AllReadyU.nil
   go_simp
   refine hK.out _ _ ⟨(by refine box_set (box_set (HSB.out _ HG2.out.1) ?_ _) ?_ _ <;> assumption),fun h=>noE (by kernel_rfl) h⟩ (fun hHeld=>?_);clear hK K;obtain ⟨hS,_⟩:=hHeld
   (try simp only [Act.put,List.setIfInBounds_toArray,List.set_cons_zero,List.set_cons_succ])
   refine wpAnyU_done (by kernel_rfl) ?_ _;go_wp2_with fail;go_ret;exact HDONE.out _ _ _ _ _ HG2.out.1 HG2.out.2.1 HG2.out.2.2.1 HG2.out.2.2.2
theorem refused_yes (a b m:Nat) (code:Int) (hc:code=9\/code=8) (K:KV) (F:List Nat) (w:World) (hk:KerAt w b K F) (ht:K.trail=[]) (c0:w.cell? ⟨a,0,none⟩=some (.pointer (some ⟨b,0,none⟩))) (c1:w.cell? ⟨a,1,none⟩=some (.pointer (some ⟨m,0,none⟩)))
  (v:Value) (c4:w.cell? ⟨m,4,none⟩=some v) (f4:w.frozen? ⟨m,4,none⟩=false) :
  Calls Tryz.prog 29 #[.pointer (some ⟨a,0,none⟩),.int .i64 code] w fun e w'=>e=.returned (.tuple #[])/\w'=w.setCell ⟨m,4,none⟩ (.slice none 0 0):=by
 have HT:=Lib.hid (trail_at b K F w hk)
 have e0:((K.trail.length:Nat):Int)=0:=by rw [ht];rfl
 rw [e0] at HT;clear hk ht e0
 rcases hc with rfl | rfl
 ·go_enter Tryz.func29,Tryz.ntmps29
  go_wp2_with fail;refine HT.out.mono ?_;rintro e w2 ⟨rfl,rfl⟩;go_wp2_with fail;go_end0;exact ⟨rfl,rfl⟩
 ·go_enter Tryz.func29,Tryz.ntmps29
  go_wp2_with fail;refine HT.out.mono ?_;rintro e w2 ⟨rfl,rfl⟩;go_wp2_with fail;go_end0;exact ⟨rfl,rfl⟩
theorem refused_no (a:Nat) (code:Int) (h9:¬ code=9) (h8:¬ code=8) (w:World) :
  Calls Tryz.prog 29 #[.pointer (some ⟨a,0,none⟩),.int .i64 code] w fun e w'=>e=.returned (.tuple #[])/\w'=w:=by
 have e9:(code == 9)=false:=by simpa using h9
 have e8:(code == 8)=false:=by simpa using h8
 go_enter Tryz.func29,Tryz.ntmps29
 go_wp2_with fail;go_end0;exact ⟨rfl,rfl⟩
theorem opCell0 (w:World) (k a b c o:Int) (l:Value) (d:Bool):(w.alloc (.cells #[.int .i64 k,.int .i64 a,.int .i64 b,.int .i64 c,.int .u8 o,l,.bool d] 60 (0,0))).cell? ⟨w.heap.size,0,none⟩=some (.int .i64 k):=cell_at (heap_alloc_new w _) rfl
theorem call_all (b:Nat) (x1 x2 x3 x4:Int) (la:Option Addr) (ln lc:Nat) (d:Bool) (f g h:Int) (lv:Value) (w:World) (P:Nat->Int->World->Prop)
  (hA:∀ z,Upd [] w z->Calls Tryz.prog 113 #[.pointer (some ⟨b,0,none⟩),lv] z fun e w'=>∃ (r:Nat) (c:Int),e=.returned (.tuple #[.int .u32 r,.int .i64 c])/\P r c w') :
  Calls Tryz.prog 27 #[.pointer (some ⟨b,0,none⟩),.agg #[.int .i64 9,.int .i64 x1,.int .i64 x2,.int .i64 x3,.int .u8 x4,.slice la ln lc,.bool d],.int .u32 f,.int .u32 g,.int .u32 h,lv] w fun e w'=>∃ (r:Nat) (c:Int),e=.returned (.tuple #[.int .u32 r,.int .i64 c])/\P r c w':=by
 have x0:=opCell0 w 9 x1 x2 x3 x4 (.slice la ln lc) d;have HA:=Lib.hid (hA _ ((Upd.refl [] w).alloc (.cells #[.int .i64 9,.int .i64 x1,.int .i64 x2,.int .i64 x3,.int .u8 x4,.slice la ln lc,.bool d] 60 (0,0))));clear hA
 go_enter Tryz.func27,Tryz.ntmps27
 go_wp2_with fail;refine HA.out.mono ?_;rintro e w1 ⟨r,c,rfl,hp⟩;have HP:=Lib.hid hp;clear hp x0;go_wp2_with fail;go_ret2;exact ⟨r,c,rfl,HP.out⟩
theorem call_any (b:Nat) (x1 x2 x3 x4:Int) (la:Option Addr) (ln lc:Nat) (d:Bool) (f g h:Int) (lv:Value) (w:World) (P:Nat->Int->World->Prop)
  (hA:∀ z,Upd [] w z->Calls Tryz.prog 114 #[.pointer (some ⟨b,0,none⟩),lv] z fun e w'=>∃ (r:Nat) (c:Int),e=.returned (.tuple #[.int .u32 r,.int .i64 c])/\P r c w') :
  Calls Tryz.prog 27 #[.pointer (some ⟨b,0,none⟩),.agg #[.int .i64 10,.int .i64 x1,.int .i64 x2,.int .i64 x3,.int .u8 x4,.slice la ln lc,.bool d],.int .u32 f,.int .u32 g,.int .u32 h,lv] w fun e w'=>∃ (r:Nat) (c:Int),e=.returned (.tuple #[.int .u32 r,.int .i64 c])/\P r c w':=by
 have x0:=opCell0 w 10 x1 x2 x3 x4 (.slice la ln lc) d;have HA:=Lib.hid (hA _ ((Upd.refl [] w).alloc (.cells #[.int .i64 10,.int .i64 x1,.int .i64 x2,.int .i64 x3,.int .u8 x4,.slice la ln lc,.bool d] 60 (0,0))));clear hA
 go_enter Tryz.func27,Tryz.ntmps27
 go_wp2_with fail;refine HA.out.mono ?_;rintro e w1 ⟨r,c,rfl,hp⟩;have HP:=Lib.hid hp;clear hp x0;go_wp2_with fail;go_ret2;exact ⟨r,c,rfl,HP.out⟩
theorem RfdQ.shape {m op:Nat} {M:MV} {p:MPtr} {Z:List Nat} {a0:TV} {tabs:List TV} {w w':World} {e:Ending} (h:RfdQ m op M p Z a0 tabs w e w') :
  ∃ (n:Int) (xa:Option Addr) (xn xc:Nat),e=.returned (.tuple #[.agg #[.int .i64 n,.slice xa xn xc],.int .i64 (foldM op { M with trail:=[] } a0 tabs).e]):=by
 by_cases he:(foldM op { M with trail:=[] } a0 tabs).e=0
 ·obtain ⟨c,q,h1,h2,h3,_⟩:=h.yes he
  obtain ⟨xa,xc,rfl,_⟩:=row_nil_len h3.row;exact ⟨_,_,_,_,by rw [h1,he];rfl⟩
 ·exact ⟨0,none,0,0,(h.no he).1⟩
theorem RfdQ.wrap {m op B:Nat} {M:MV} {p:MPtr} {Z:List Nat} {a0:TV} {tabs:List TV} {w w2 w3:World} {e:Ending} {C:Array Value} {fr:Nat × Nat} (h:RfdQ m op M p Z a0 tabs w2 e w3) (u0:Upd [] w w2) (hb2:w2.heap[B]?=some (.cells C 56 fr)) (hB:w.heap.size<=B)
  (hp:∀ k,k∈p.all m->k<w.heap.size):w3.heap[B]?=some (.cells C 56 fr)/\∀ z,Upd [B] w3 z->RfdQ m op M p Z a0 tabs w e z:=by
 have hnB:B∉p.all m:=fun hk=>by have:=hp _ hk;omega
 have hup:Upd (p.all m) w2 w3:=by
  by_cases he:(foldM op { M with trail:=[] } a0 tabs).e=0
  ·obtain ⟨c,q,_,_,_,h4,_⟩:=h.yes he;exact h4
  ·exact (h.no he).2.2
 have hb3:=(hup.block B (heap_lt hb2) hnB).trans hb2;refine ⟨hb3,fun z u=>⟨fun he=>?_,fun he=>?_⟩⟩
 ·obtain ⟨c,q,h1,h2,h3,h4,h5⟩:=h.yes he
  refine ⟨c,q,h1,h2.box hb3 u,h3.box hb3 u,((u0.mono (by simp)).trans h4).then u fun k hk=>.inr (by simp at hk;omega),fun k hk=>?_⟩
  rcases h5 k hk with h | h
  ·exact .inl h
  ·right;have:=u0.size;omega
 ·obtain ⟨h1,h2,h3⟩:=h.no he
  have hmw:B≠m:=fun e=>hnB (by rw [e];exact MPtr.mem.2 (.inl rfl))
  refine ⟨h1,⟨fun y uy=>?_,?_⟩,((u0.mono (by simp)).trans h3).then u fun k hk=>.inr (by simp at hk;omega)⟩
  ·have g1:=ModE.pre u0 (h2.md _ (Upd.refl _ _))
   have g2:=g1.box (w2:=z.setCell ⟨m,4,none⟩ (.slice none 0 0)) (by rw [heap_set_ne hmw];exact hb3) (u.setBoth hmw) hB;exact g2.keep uy
  ·obtain ⟨v,cs,g1,g2⟩:=h2.tv
   exact ⟨v,cs,(u.block m (heap_lt g1) (by simp;exact fun e=>hmw e.symm)).trans g1,g2⟩
theorem doc_all (m:Nat) (M:MV) (p:MPtr) (Z:List Nat) (a0:TV) (tabs:List TV) (x1 x2 x3 x4:Int) (la:Option Addr) (ln lc:Nat) (d:Bool) (n1 n2 n3:Int) (a1 a2 a3:Option Addr) (l1 l2 l3 k1 k2 k3:Nat) (lv:Value) (w:World) (hp:∀ k,k∈p.all m->k<w.heap.size)
  (hA:∀ z,Upd [] w z->Calls Tryz.prog 123 #[.pointer (some ⟨m,0,none⟩),lv] z fun e w'=>RfdQ m 8 M p Z a0 tabs z e w') :
  Calls Tryz.prog 28 #[.pointer (some ⟨m,0,none⟩),.agg #[.int .i64 9,.int .i64 x1,.int .i64 x2,.int .i64 x3,.int .u8 x4,.slice la ln lc,.bool d],.agg #[.int .i64 n1,.slice a1 l1 k1],.agg #[.int .i64 n2,.slice a2 l2 k2],.agg #[.int .i64 n3,.slice a3 l3 k3],lv] w fun e w'=>RfdQ m 8 M p Z a0 tabs w e w':=by
 have y0:=opCell0 w 9 x1 x2 x3 x4 (.slice la ln lc) d;obtain ⟨w1,hw1⟩ : ∃ w1,w.alloc (.cells #[.int .i64 9,.int .i64 x1,.int .i64 x2,.int .i64 x3,.int .u8 x4,.slice la ln lc,.bool d] 60 (0,0))=w1:=⟨_,rfl⟩
 have hu1:Upd [] w w1:=by rw [<- hw1];exact (Upd.refl _ _).alloc _
 have hs1:w1.heap.size=w.heap.size+1:=by rw [<- hw1,World.size_alloc]
 rw [hw1] at y0;obtain ⟨w2,hw2⟩ : ∃ w2,(((w1.alloc (.cells #[.int .i64 n1,.slice a1 l1 k1] 56 (0,0))).alloc (.cells #[.int .i64 n2,.slice a2 l2 k2] 56 (0,0))).alloc (.cells #[.int .i64 n3,.slice a3 l3 k3] 56 (0,0)))=w2:=⟨_,rfl⟩
 have hu2:Upd [] w1 w2:=by rw [<- hw2];exact ((((Upd.refl _ _).alloc _).alloc _).alloc _)
 have hs2:w2.heap.size=w.heap.size+4:=by rw [<- hw2,World.size_alloc,World.size_alloc,World.size_alloc,hs1]
 obtain ⟨w3,hw3⟩ : ∃ w3,w2.alloc (.cells #[.int .i64 0,.slice none 0 0] 56 (0,0))=w3:=⟨_,rfl⟩
 have hu3:Upd [] w2 w3:=by rw [<- hw3];exact (Upd.refl _ _).alloc _
 have hb3:w3.heap[w.heap.size+4]?=some (.cells #[.int .i64 0,.slice none 0 0] 56 (0,0)):=by
  have:=heap_alloc_new w2 (.cells #[.int .i64 0,.slice none 0 0] 56 (0,0))
  rw [hw3,hs2] at this;exact this
 have y0':=hu3.cell0 (hu2.cell0 y0);have HU:=Lib.hid ((hu1.trans hu2).trans hu3);have HB:=Lib.hid hb3;have HA:=Lib.hid (hA _ HU.out);have HP:=Lib.hid hp
 have HW:Hid (((((w.alloc (.cells #[.int .i64 9,.int .i64 x1,.int .i64 x2,.int .i64 x3,.int .u8 x4,.slice la ln lc,.bool d] 60 (0,0))).alloc (.cells #[.int .i64 n1,.slice a1 l1 k1] 56 (0,0))).alloc (.cells #[.int .i64 n2,.slice a2 l2 k2] 56 (0,0))).alloc (.cells #[.int .i64 n3,.slice a3 l3 k3] 56 (0,0))).alloc (.cells #[.int .i64 0,.slice none 0 0] 56 (0,0))=w3):=by show _=_;rw [hw1,hw2,hw3]
 clear hA hp y0 hw1 hw2 hw3 hu1 hu2 hu3 hs1 hs2 hb3
 go_enter Tryz.func28,Tryz.ntmps28
 go_upto_region 1 with fail;rw [HW.out];clear HW;go_wp2_with fail;refine HA.out.mono ?_;rintro e w4 hQ;obtain ⟨n,xa,xn,xc,rfl⟩:=hQ.shape;obtain ⟨hb4,hfin⟩:=hQ.wrap HU.out HB.out (by omega) HP.out;have HF:=Lib.hid hfin;have HB4:=Lib.hid hb4;have z0:=cell_at (j:=0) hb4 rfl;have z1:=cell_at (j:=1) hb4 rfl;have f0:=frozen_at 0 hb4;have f1:=frozen_at 1 hb4
 have HR3:Hid (∀ z:World,z.heap[w.heap.size+4]?=some (.cells #[.int .i64 0,.slice none 0 0] 56 (0,0))->((z.setCell ⟨w.heap.size+4,0,none⟩ (.int .i64 n)).setCell ⟨w.heap.size+4,1,none⟩ (.slice xa xn xc)).heap[w.heap.size+4]?=some (.cells #[.int .i64 n,.slice xa xn xc] 56 (0,0))):=fun z hz=>by
  rw [heap_set_eq (heap_set_eq hz _) _];rfl
 generalize (foldM 8 { M with trail:=[] } a0 tabs).e=E at *;clear hQ hb4 hfin y0';generalize hB4:w.heap.size+4=B4 at *;go_wp2_with fail;exact bodyPost_ret (ret_rep rfl _ _ B4 #[.int .i64 n,.slice xa xn xc] (.int .i64 E) _ rfl rfl (HR3.out _ HB4.out) Tryz.underlying56 rfl Tryz.infoTabS) rfl (HF.out _ (((Upd.refl _ _).setCell (.inl (by simp)) _).setCell (.inl (by simp)) _))
end Go.Proofs.YtpfafhmkbcahhaaGreat
