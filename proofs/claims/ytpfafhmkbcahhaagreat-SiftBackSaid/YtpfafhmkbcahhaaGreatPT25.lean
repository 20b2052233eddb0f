import Derived.Test.YtpfafhmkbcahhaaGreatPT24
set_option maxRecDepth 100000
set_option maxHeartbeats 6400000
namespace Go.Proofs.YtpfafhmkbcahhaaGreat
open Go.RowKit Go.Maps Go.ChangeMaps Go.WideShapes
structure WIn (w:World) (b m:Nat) (rv tv:Value) (K:KV) (F:List Nat) (M:MV) (p:MPtr) (refs:List Nat) (tabs:List TV):Prop where
 ker:KerAt w b K F
 mod:ModIn w m M p (F++p.all m)
 dj:∀ k,k∈F->k∉p.all m
 rr:w.ownsRow 0 54 1 rv refs.length (flatRefs refs)
 rf:∀ k,rv.ownBlock=some k->k∉F/\k∉p.all m
 tt:TLs w 0 (F++p.all m) tv tabs
 agr:Agr K M
 fit:M.Fit
 lr:refs.length=tabs.length
 rb:refs.length<=1000
 t2:∃ rest,tabs=constT K.vars false::constT K.vars true::rest
 ok:∀ t,t∈tabs->t.Ok/\t.n=K.vars
 nm:∀ (i r:Nat) (t:TV),refs[i]?=some r->tabs[i]?=some t->M.isLive t=true->Names K r t
 r32:∀ r,r∈refs->r<=4294967295
theorem WIn.z {w:World} {b m:Nat} {rv tv:Value} {K:KV} {F:List Nat} {M:MV} {p:MPtr} {refs:List Nat} {tabs:List TV} (h:WIn w b m rv tv K F M p refs tabs):∀ k,k∈F++p.all m->k<w.heap.size:=fun k hk=>by
 rcases List.mem_append.1 hk with hk | hk
 ·exact h.ker.lt k hk
 ·rcases MPtr.mem.1 hk with rfl | h1 | h1 | h1
  ·exact heap_lt h.mod.blk
  ·exact (h.mod.os.lt k h1).2
  ·obtain ⟨xs,hr⟩:=h.mod.hs.row;exact (hr.lt k h1).2
  ·exact (h.mod.ts.lt k h1).2
theorem WIn.keep0 {w w':World} {b m:Nat} {rv tv:Value} {K:KV} {F:List Nat} {M:MV} {p:MPtr} {refs:List Nat} {tabs:List TV} (h:WIn w b m rv tv K F M p refs tabs) (u:Upd [] w w'):WIn w' b m rv tv K F M p refs tabs :=
 ⟨h.ker.upd u (by simp),h.mod.keep0 u,h.dj,row_keep h.rr fun k hk=>u.block k (h.rr.lt k hk).2 (by simp),h.rf,h.tt.keep0 u,h.agr,h.fit,h.lr,h.rb,h.t2,h.ok,h.nm,h.r32⟩
theorem WIn.n6 {w:World} {b m:Nat} {rv tv:Value} {K:KV} {F:List Nat} {M:MV} {p:MPtr} {refs:List Nat} {tabs:List TV} (h:WIn w b m rv tv K F M p refs tabs):K.vars<=6:=by rw [<- h.agr.same.n];exact h.fit.n6
theorem WIn.live_nodes {w:World} {b m:Nat} {rv tv:Value} {K:KV} {F:List Nat} {M:MV} {p:MPtr} {refs:List Nat} {tabs:List TV} (_h:WIn w b m rv tv K F M p refs tabs) {t:TV} (ht:t.n=K.vars) :
  t∈constT K.vars false::constT K.vars true::M.lev.flatten↔M.isLive t=true:=by
 unfold MV.isLive;rw [Bool.or_eq_true,TV.isC_iff,ht]
 have hfl:(M.lev.any fun l=>decide (t∈l))=true↔t∈M.lev.flatten:=by
  rw [List.any_eq_true,List.mem_flatten];simp only [decide_eq_true_eq]
 rw [hfl,List.mem_cons,List.mem_cons];constructor
 ·rintro (h | h | h)
  ·exact .inl ⟨false,h⟩
  ·exact .inl ⟨true,h⟩
  ·exact .inr h
 ·rintro (⟨b,h⟩ | h)
  ·cases b
   ·exact .inl h
   ·exact .inr (.inl h)
  ·exact .inr (.inr h)
theorem flatRefs_get {l:List Nat} {i r:Nat} (h:l[i]?=some r):(flatRefs l)[i]?=some (.int .u32 r):=by rw [flatRefs,List.getElem?_map,h];rfl
theorem stands_spec (b m:Nat) (rv tv:Value) (K:KV) (F:List Nat) (M:MV) (p:MPtr) (refs:List Nat) (tabs:List TV) (w:World) (h:WIn w b m rv tv K F M p refs tabs) (htr:K.trail.length=M.trail.length) (_htl:M.trail.length<=1000000) :
  Calls Tryz.prog 19 #[worldV b m rv tv] w fun e w'=>e=.returned (.bool true)/\Upd [] w w':=by
 have hn6:=h.n6;obtain ⟨oa,oc,hov,_⟩:=row_nil_len h.mod.os;obtain ⟨xa,xc,hxv,_⟩:=row_nil_len h.mod.ts;obtain ⟨ya,yc,hyv,_⟩:=h.mod.hs.form;obtain ⟨_,_,c2,c3,c4⟩:=h.mod.cells;rw [hov] at c2;rw [hxv] at c4;rw [hyv] at c3;have hos:=h.mod.os;rw [hov] at hos;obtain ⟨ra,rc,hrv,hra⟩:=row_nil_len h.rr;obtain ⟨ta,tc,htv,hta⟩:=h.tt.form;subst hrv htv;have HW:=Lib.hid h
 have HZ:Hid (∀ x:World,Upd [] w x->∀ k,k∈F++p.all m->k<x.heap.size):=fun x u k hk=>Nat.lt_of_lt_of_le (h.z k hk) u.size
 have hol:=h.fit.ol;have hhl:=h.fit.hl;have HOD:=Lib.hid h.agr.same.od
 have HOR:Hid (∀ x:World,Upd [] w x->Calls Tryz.prog 38 #[.pointer (some ⟨b,0,none⟩)] x fun e w'=>∃ (g cap:Nat),e=.returned (.slice (some ⟨g,0,none⟩) M.order.length cap)/\w'.ownsRow x.heap.size 3 1 (.slice (some ⟨g,0,none⟩) M.order.length cap) M.order.length (flatN M.order)/\Upd [] x w'):=fun x u=>by
  have:=order_at_spec b K F x (h.ker.upd u (by simp))
  rw [<- h.agr.same.od] at this;exact this
 have HOS:Hid (∀ x:World,Upd [] w x->x.ownsRow 0 3 1 (.slice oa M.order.length oc) M.order.length (flatN M.order)):=fun x u=>row_keep hos fun k hk=>u.block k (hos.lt k hk).2 (by simp)
 have HTR:Hid (∀ x:World,Upd [] w x->Calls Tryz.prog 40 #[.pointer (some ⟨b,0,none⟩)] x fun e w'=>e=.returned (.int .i64 (M.trail.length:Nat))/\w'=x):=fun x u=>by
  have:=trail_at b K F x (h.ker.upd u (by simp))
  rw [htr] at this;exact this
 have HRT:Hid (∀ x:World,Upd [] w x->Calls Tryz.prog 51 #[.pointer (some ⟨b,0,none⟩)] x fun e w'=>∃ (a:Option Addr) (c:Nat),e=.returned (.slice a M.held.length c)/\Upd [] x w'):=fun x u=>by
  refine (roots_at b K F x (h.ker.upd u (by simp))).mono ?_;rintro e w' ⟨v,rfl,hr,hu⟩;obtain ⟨a,c,rfl,_⟩:=row_nil_len hr;rw [h.agr.roots_len h.ker.ok h.ker.uni (by omega)];exact ⟨a,c,rfl,hu⟩
 have hfl:=h.fit.lev_leS;have hus:=h.agr.used h.ker.ok h.ker.uni (by omega)
 have HLI:Hid (∀ x:World,Upd [] w x->Calls Tryz.prog 39 #[.pointer (some ⟨b,0,none⟩)] x fun e w'=>e=.returned (.int .i64 (M.lev.flatten.length:Nat))/\w'=x):=fun x u=>by
  have:=live_at b K F x (h.ker.upd u (by simp));rw [hus] at this;rw [show ((M.lev.flatten.length:Nat):Int)=(((M.lev.flatten.length+2:Nat):Int)-2) by omega];exact this
 obtain ⟨rest,hrest⟩:=h.t2
 have HND:Hid (∀ x:World,Upd [] w x->Calls Tryz.prog 82 #[worldV b m (.slice ra refs.length rc) (.slice ta tabs.length tc)] x fun e w'=>TLQ (F++p.all m) (constT K.vars false::constT K.vars true::M.lev.flatten) x e w'):=fun x u =>
  lawnodes_spec b m 0 _ _ M p _ _ _ rest x (h.mod.keep0 u) (HZ.out x u) h.fit (by rw [<- hrest];exact h.tt.keep0 u) ⟨_,_,_,rfl⟩
 have HBX:=Lib.hid (boxW w (.pointer (some ⟨b,0,none⟩)) (.pointer (some ⟨m,0,none⟩)) (.slice ra refs.length rc) (.slice ta tabs.length tc));have HU0:=Lib.hid ((Upd.refl [] w).alloc (.cells #[.pointer (some ⟨b,0,none⟩),.pointer (some ⟨m,0,none⟩),.slice ra refs.length rc,.slice ta tabs.length tc] 31 (0,0)));unfold worldV at HND ⊢;have HLR:=Lib.hid h.lr;have hrb:=h.rb
 have HK:Hid (∀ x:World,Upd [] (w.alloc (.cells #[.pointer (some ⟨b,0,none⟩),.pointer (some ⟨m,0,none⟩),.slice ra refs.length rc,.slice ta tabs.length tc] 31 (0,0))) x->(x.cell? ⟨w.heap.size,0,none⟩=some (.pointer (some ⟨b,0,none⟩))/\x.cell? ⟨w.heap.size,1,none⟩=some (.pointer (some ⟨m,0,none⟩))/\x.cell? ⟨w.heap.size,2,none⟩=some (.slice ra refs.length rc)/\x.cell? ⟨w.heap.size,3,none⟩=some (.slice ta tabs.length tc)) /\
   x.cell? ⟨m,2,none⟩=some (.slice oa M.order.length oc)/\x.cell? ⟨m,3,none⟩=some (.slice ya M.held.length yc)/\x.cell? ⟨m,4,none⟩=some (.slice xa M.trail.length xc)):=fun x u =>
  ⟨⟨u.cell0 HBX.out.1,u.cell0 HBX.out.2.1,u.cell0 HBX.out.2.2.1,u.cell0 HBX.out.2.2.2⟩,(HU0.out.trans u).cell0 c2,(HU0.out.trans u).cell0 c3,(HU0.out.trans u).cell0 c4⟩
 clear h hov hxv hyv hos htr c2 c3 c4 hus hrest;obtain ⟨⟨b0,b1,b2,b3⟩,k2,k3,k4⟩:=HK.out _ (Upd.refl _ _)
 go_enter Tryz.func19,Tryz.ntmps19
 go_wp2_with fail
 first | (go_region_held3  (fun x=>(x.cell? ⟨w.heap.size,0,none⟩=some (.pointer (some ⟨b,0,none⟩))/\x.cell? ⟨w.heap.size,1,none⟩=some (.pointer (some ⟨m,0,none⟩))/\x.cell? ⟨w.heap.size,2,none⟩=some (.slice ra refs.length rc)/\x.cell? ⟨w.heap.size,3,none⟩=some (.slice ta tabs.length tc)) /\
   x.cell? ⟨m,2,none⟩=some (.slice oa M.order.length oc)/\x.cell? ⟨m,3,none⟩=some (.slice ya M.held.length yc)/\x.cell? ⟨m,4,none⟩=some (.slice xa M.trail.length xc)) (first | exact HK.out _ (Upd.refl _ _).drew | exact HK.out _ HO1.out.2 | exact HK.out _ HO2.out | exact HK.out _ HO3.out) (first
   | (go_at_call 38;refine (HOR.out _ HU0.out.drew).mono ?_;rintro e w1 ⟨g,cap,rfl,ho,hu⟩;have HO1:=Lib.hid (And.intro ho hu.of_drew);clear ho hu)
   | (go_at_call 81;refine (orders_spec _ 0 _ _ M.order _ HO1.out.1 (HOS.out _ (HU0.out.trans HO1.out.2)) (by omega)).mono ?_;rintro e w2 ⟨rfl,hu⟩;have HO2:=Lib.hid (HO1.out.2.trans hu);clear hu)
   | (go_at_call 40;refine (HTR.out _ (HU0.out.trans HO2.out)).mono ?_;rintro e w3 ⟨rfl,rfl⟩)
   | (go_at_call 51;refine (HRT.out _ (HU0.out.trans HO2.out)).mono ?_;rintro e w4 ⟨ga,gc,rfl,hu⟩;have HO3:=Lib.hid (HO2.out.trans hu);clear hu)))
 have HU4:=Lib.hid (HU0.out.trans HO3.out);obtain ⟨⟨b0,b1,b2,b3⟩,k2,k3,k4⟩:=HK.out _ HO3.out;have HO4:=Lib.hid HO3.out;clear HO1 HO2 HO3 HOR HOS HTR HRT;go_wp2_with fail;refine (HND.out _ HU4.out).mono ?_;rintro e w5 hE;obtain ⟨nv,rfl,hN,hu⟩:=hE.ex;obtain ⟨na,nc,hnv,_⟩:=hN.form;obtain ⟨NL,hNL⟩ : ∃ NL,constT K.vars false::constT K.vars true::M.lev.flatten=NL:=⟨_,rfl⟩;have HNL:=Lib.hid hNL
 have hnl:NL.length=M.lev.flatten.length+2:=by rw [<- hNL];simp
 rw [hNL] at hN hnv;subst hnv;have HN5:=Lib.hid (And.intro hN (And.intro (HU4.out.trans hu) (HO4.out.trans hu)));obtain ⟨⟨b0,b1,b2,b3⟩,k2,k3,k4⟩:=HK.out _ (HO4.out.trans hu);have HLI5:=Lib.hid (HLI.out w5 (HU4.out.trans hu));generalize M.lev.flatten.length=FL at *
 have hsub:IntKind.i64.wrap ((NL.length:Int)-2)=(FL:Int):=by rw [IntWalk.i64_in _ (by omega)];omega
 have hnl2:NL.length<=25344002:=by omega
 clear hE hN hu hNL hnl HND HLI;go_wp2_with fail;refine HLI5.out.mono ?_;rintro e w6 ⟨rfl,rfl⟩;clear HLI5;go_wp2_with fail
 go_loopg [53] refs.length (fun g s53 wr=>∃ i:Nat,refs.length-i=g/\i<=refs.length/\s53=.int .i64 i/\Upd [] w6 wr)
 case atStart=>exact ⟨0,by omega,by omega,rfl,Upd.refl _ _⟩
 case round =>
  obtain ⟨i,rfl,hi,rfl,hU⟩:=hrel
  by_cases hlt:i<refs.length
  ·obtain ⟨r,hr⟩ : ∃ r,refs[i]?=some r:=⟨_,List.getElem?_eq_getElem hlt⟩
   obtain ⟨t,ht⟩ : ∃ t,tabs[i]?=some t:=⟨_,List.getElem?_eq_getElem (by rw [<- HLR.out];exact hlt)⟩;have hUw:=HN5.out.2.1.trans hU;obtain ⟨rg,rfl⟩:=row_some HW.out.rr (by omega);obtain ⟨tg,rfl⟩:=hta (by rw [<- HLR.out];omega)
   have hil:(i:Int)<(refs.length:Int):=by omega
   have hil2:(i:Int)<(tabs.length:Int):=by rw [<- HLR.out];omega
   have HWr:=Lib.hid (HW.out.keep0 hUw);have x0:wr.cell? ⟨rg,i,none⟩=some (.int .u32 r):=row_cell HWr.out.rr (flatRefs_get hr);obtain ⟨ct,x1,x2,hti⟩:=HWr.out.tt.at_ ht;obtain ⟨ca,cc,hct,_⟩:=row_nil_len hti.row;subst hct;obtain ⟨⟨b0,b1,b2,b3⟩,k2,k3,k4⟩:=HK.out _ (HN5.out.2.2.trans hU);have hok:=HW.out.ok t (List.mem_of_getElem? ht);have hnlv:=HW.out.live_nodes hok.2;rw [HNL.out] at hnlv
   have HNM:Hid (t∈NL->Names K r t):=fun hm=>HW.out.nm i r t hr ht (hnlv.1 hm)
   have HIN:=Lib.hid (in_spec _ (F++p.all m) _ NL _ t wr (HN5.out.1.keep0 hU) hti (by omega));have HT:=Lib.hid (And.intro hti (And.intro hok hUw));have HU6:=Lib.hid hU;unfold tabV at HIN;generalize hTW:t.ws.length=TW at *;generalize hTN:t.n=tn at *;have HTN:=Lib.hid (And.intro hTW hTN);clear hr ht hU hUw hti hok hnlv hTW hTN;go_wp2_with fail;refine HIN.out.mono ?_;rintro e w7 ⟨rfl,hu⟩;have HU7:=Lib.hid (HU6.out.trans hu);have HUr7:=Lib.hid hu;have HU7w:=Lib.hid (HT.out.2.2.trans hu);have y1:=hu.cell0 x1;have y2:=hu.cell0 x2;obtain ⟨⟨b0,b1,b2,b3⟩,k2,k3,k4⟩:=HK.out _ (HN5.out.2.2.trans HU7.out);clear hu HIN x0 x1 x2
   by_cases e:t∈NL
   ·rw [decide_eq_true e]
    have hnm:=HNM.out e;clear e;have hr32:=HW.out.ker.ok.ref_lt hnm.1
    have HHD:Hid (∀ x:World,Upd [] w x->Calls Tryz.prog 84 #[.pointer (some ⟨b,0,none⟩),.int .u32 r] x fun e w'=>e=.returned (.int .i64 (K.hold r))/\w'=x):=fun x u=>held_at b r K F x (HW.out.ker.upd u (by simp)) (by omega)
    have HHO:Hid (∀ x:World,Upd [] w x->Upd [] wr x->Calls Tryz.prog 85 #[.pointer (some ⟨m,0,none⟩),.agg #[.int .i64 tn,.slice ca TW cc]] x fun e w'=>e=.returned (.int .i64 (K.hold r))/\Upd [] x w'):=fun x u ur=>by
     have:=holds_spec m M p (F++p.all m) (.slice ca TW cc) t x (HW.out.mod.keep0 u) (HT.out.1.keep0 ur) (by omega);rw [HW.out.agr.holds HW.out.ker.ok HW.out.ker.uni (by have:=HT.out.2.1.1;exact this) (by rw [HTN.out.2];exact HT.out.2.1.2) hnm] at this;unfold tabV at this;rw [HTN.out.2] at this;exact this
    have HUL:Hid (∀ x:World,Upd [] w x->Upd [] wr x->Calls Tryz.prog 86 #[.pointer (some ⟨b,0,none⟩),.int .u32 r,.agg #[.int .i64 tn,.slice ca TW cc]] x fun e w'=>e=.returned (.int .i64 0)/\Upd [] x w'):=fun x u ur=>by
     have:=unlike_zero b r (F++p.all m) (.slice ca TW cc) t K F x (HW.out.ker.upd u (by simp)) hnm (HT.out.1.keep0 ur) (by rw [HTN.out.2];exact HT.out.2.1.2) (by rw [HTN.out.2,HT.out.2.1.2];exact hn6);unfold tabV at this;rw [HTN.out.2] at this;exact this
    have HKK:Hid (∀ x:World,Upd [] w7 x->(x.cell? ⟨w.heap.size,0,none⟩=some (.pointer (some ⟨b,0,none⟩))/\x.cell? ⟨w.heap.size,1,none⟩=some (.pointer (some ⟨m,0,none⟩))/\x.cell? ⟨w.heap.size,3,none⟩=some (.slice (some ⟨tg,0,none⟩) tabs.length tc))/\x.cell? ⟨tg,i*2,none⟩=some (.int .i64 tn)/\x.cell? ⟨tg,i*2+1,none⟩=some (.slice ca TW cc)):=fun x u=>⟨⟨u.cell0 b0,u.cell0 b1,u.cell0 b3⟩,u.cell0 y1,u.cell0 y2⟩
    have hww:=Lib.hid HUr7.out;generalize K.hold r=kh at *;clear hr32 hnm;go_wp2_with fail
    first | (go_region_held3 (fun x=>(x.cell? ⟨w.heap.size,0,none⟩=some (.pointer (some ⟨b,0,none⟩))/\x.cell? ⟨w.heap.size,1,none⟩=some (.pointer (some ⟨m,0,none⟩))/\x.cell? ⟨w.heap.size,3,none⟩=some (.slice (some ⟨tg,0,none⟩) tabs.length tc))/\x.cell? ⟨tg,i*2,none⟩=some (.int .i64 tn)/\x.cell? ⟨tg,i*2+1,none⟩=some (.slice ca TW cc)) (first | exact HKK.out _ (Upd.refl _ _).drew | exact HKK.out _ HO1.out | exact HKK.out _ HO2.out) (first
     | (go_at_call 84;refine (HHD.out _ HU7w.out.drew).mono ?_;rintro e w8 ⟨rfl,rfl⟩)
     | (go_at_call 85;refine (HHO.out _ HU7w.out.drew hww.out.drew).mono ?_;rintro e w9 ⟨rfl,hu⟩;have HO1:=Lib.hid hu.of_drew;clear hu)
     | (go_at_call 86;refine (HUL.out _ (HU7w.out.trans HO1.out) (hww.out.trans HO1.out)).mono ?_;rintro e w10 ⟨rfl,hu⟩;have HO2:=Lib.hid (HO1.out.trans hu);clear hu)))
    go_wp2_with fail
    go_roundg (refs.length-(i+1))
    case measure=>omega
    case rel=>exact ⟨i+1,rfl,by omega,by simp,HU7.out.trans HO2.out⟩
   ·rw [decide_eq_false e]
    clear e;go_wp2_with fail
    go_roundg (refs.length-(i+1))
    case measure=>omega
    case rel=>exact ⟨i+1,rfl,by omega,by simp,HU7.out⟩
  ·obtain rfl:i=refs.length:=by omega
   have hil:¬ ((refs.length:Int)<(refs.length:Int)):=by omega
   have HU:=Lib.hid (HN5.out.2.1.trans hU);clear hU;go_wp2_with fail;go_ret;exact ⟨rfl,HU.out⟩
theorem Tryz.infoRefS:(Tryz.prog.info? 54).map (fun i=>(i.zero,i.size,i.bytes))=some (some (.int .u32 0),1,4):=by kernel_rfl
structure WMem (w:World) (b m:Nat) (rv tv:Value) (K:KV) (F:List Nat) (M:MV) (p:MPtr) (refs:List Nat) (tabs:List TV):Prop where
 ker:KerAt w b K F
 mod:ModIn w m M p (F++p.all m)
 dj:∀ k,k∈F->k∉p.all m
 rr:w.ownsRow 0 54 1 rv refs.length (flatRefs refs)
 rf:∀ k,rv.ownBlock=some k->k∉F/\k∉p.all m
 tt:TLs w 0 (F++p.all m) tv tabs
structure WLog (K:KV) (M:MV) (refs:List Nat) (tabs:List TV):Prop where
 agr:Agr K M
 fit:M.Fit
 lr:refs.length=tabs.length
 rb:refs.length<=1000
 t2:∃ rest,tabs=constT K.vars false::constT K.vars true::rest
 ok:∀ t,t∈tabs->t.Ok/\t.n=K.vars
 nm:∀ (i r:Nat) (t:TV),refs[i]?=some r->tabs[i]?=some t->M.isLive t=true->Names K r t
 r32:∀ r,r∈refs->r<=4294967295
theorem WIn.of {w:World} {b m:Nat} {rv tv:Value} {K:KV} {F:List Nat} {M:MV} {p:MPtr} {refs:List Nat} {tabs:List TV} (h:WMem w b m rv tv K F M p refs tabs) (l:WLog K M refs tabs):WIn w b m rv tv K F M p refs tabs :=
 ⟨h.ker,h.mod,h.dj,h.rr,h.rf,h.tt,l.agr,l.fit,l.lr,l.rb,l.t2,l.ok,l.nm,l.r32⟩
theorem WMem.z {w:World} {b m:Nat} {rv tv:Value} {K:KV} {F:List Nat} {M:MV} {p:MPtr} {refs:List Nat} {tabs:List TV} (h:WMem w b m rv tv K F M p refs tabs):∀ k,k∈F++p.all m->k<w.heap.size:=fun k hk=>by
 rcases List.mem_append.1 hk with hk | hk
 ·exact h.ker.lt k hk
 ·rcases MPtr.mem.1 hk with rfl | h1 | h1 | h1
  ·exact heap_lt h.mod.blk
  ·exact (h.mod.os.lt k h1).2
  ·obtain ⟨xs,hr⟩:=h.mod.hs.row;exact (hr.lt k h1).2
  ·exact (h.mod.ts.lt k h1).2
theorem WMem.keep0 {w w':World} {b m:Nat} {rv tv:Value} {K:KV} {F:List Nat} {M:MV} {p:MPtr} {refs:List Nat} {tabs:List TV} (h:WMem w b m rv tv K F M p refs tabs) (u:Upd [] w w'):WMem w' b m rv tv K F M p refs tabs :=
 ⟨h.ker.upd u (by simp),h.mod.keep0 u,h.dj,row_keep h.rr fun k hk=>u.block k (h.rr.lt k hk).2 (by simp),h.rf,h.tt.keep0 u⟩
theorem WMem.kernel {w w1:World} {b m:Nat} {rv tv:Value} {K K1:KV} {F F1:List Nat} {M:MV} {p:MPtr} {refs:List Nat} {tabs:List TV} (h:WMem w b m rv tv K F M p refs tabs) (hk:KerAt w1 b K1 F1) (u:Upd F w w1) (s:Sub F w F1):WMem w1 b m rv tv K1 F1 M p refs tabs:=by
 have hz:=h.z
 have hs:Sub (F++p.all m) w (F1++p.all m):=fun k hk=>by
  rcases List.mem_append.1 hk with hk | hk
  ·exact (s k hk).imp (fun h=>List.mem_append.2 (.inl h)) id
  ·exact .inl (List.mem_append.2 (.inr hk))
 have hS:∀ k,k∈F->k∈F1++p.all m\/w.heap.size<=k\/k∈F++p.all m:=fun k hk=>.inr (.inr (List.mem_append.2 (.inl hk)))
 refine ⟨hk,?_,fun k hk hm=>?_,row_keep h.rr fun k hk=>u.block k (h.rr.lt k hk).2 (h.rf k hk).1,fun k hk=>⟨fun hm=>?_,(h.rf k hk).2⟩,?_⟩
 ·have h1:=h.mod.keep u (fun k hk=>.inl (List.mem_append.2 (.inl hk))) (fun k hk hm=>h.dj k hm hk)
  refine ⟨h1.blk,h1.os,?_,h1.ts,h1.ne,fun k hk=>List.mem_append.2 (.inr hk)⟩;have h2:=h.mod.hs.apart hs
  refine (h.mod.hs.apart (Z':=F++(F1++p.all m)) fun k hk=>?_).keep u (fun k hk=>.inl (List.mem_append.2 (.inl hk))) (fun k hk hm=>h.dj k hm (MPtr.mem.2 (.inr (.inr (.inl hk))))) |>.apart fun k hk=>.inl (List.mem_append.2 (.inr hk))
  rcases List.mem_append.1 hk with hk | hk
  ·exact .inl (List.mem_append.2 (.inl hk))
  ·exact hs k hk
 ·rcases s k hk with h1 | h1
  ·exact h.dj k h1 hm
  ·have:=hz k (List.mem_append.2 (.inr hm));omega
 ·rcases s k hm with h1 | h1
  ·exact (h.rf k hk).1 h1
  ·have:=(h.rr.lt k hk).2;omega
 ·refine ((h.tt.apart (Z':=F++(F1++p.all m)) fun k hk=>?_).keep u fun k hk=>.inl (List.mem_append.2 (.inl hk))).apart fun k hk=>.inl (List.mem_append.2 (.inr hk))
  rcases List.mem_append.1 hk with hk | hk
  ·exact .inl (List.mem_append.2 (.inl hk))
  ·exact hs k hk
theorem WMem.model {w w1:World} {b m:Nat} {rv tv:Value} {K:KV} {F:List Nat} {M M':MV} {p:MPtr} {refs:List Nat} {tabs:List TV} (h:WMem w b m rv tv K F M p refs tabs) (e:ModE m p (F++p.all m) M' w w1):∃ p',WMem w1 b m rv tv K F M' p' refs tabs/\Upd (p.all m) w w1/\Sub (p.all m) w (p'.all m):=by
 obtain ⟨p',hm,u,s⟩:=e.ex;have hz:=h.z;refine ⟨p',⟨h.ker.upd u h.dj,⟨hm.blk,hm.os,hm.hs.apart fun k hk=>.inl ?_,hm.ts,hm.ne,fun k hk=>List.mem_append.2 (.inr hk)⟩,fun k hk hm=>?_,row_keep h.rr fun k hk=>u.block k (h.rr.lt k hk).2 (h.rf k hk).2,fun k hk=>⟨(h.rf k hk).1,fun hm=>?_⟩,?_⟩,u,s⟩
 ·rcases List.mem_append.1 hk with hk | hk
  ·exact List.mem_append.2 (.inl (List.mem_append.2 (.inl hk)))
  ·exact List.mem_append.2 (.inr hk)
 ·rcases s k hm with h1 | h1
  ·exact h.dj k hk h1
  ·have:=hz k (List.mem_append.2 (.inl hk));omega
 ·rcases s k hm with h1 | h1
  ·exact (h.rf k hk).2 h1
  ·have:=(h.rr.lt k hk).2;omega
 ·refine ((h.tt.apart (Z':=(F++p.all m)++p'.all m) fun k hk=>?_).keep u fun k hk=>.inl (List.mem_append.2 (.inl (List.mem_append.2 (.inr hk))))).apart fun k hk=>.inl ?_
  ·rcases List.mem_append.1 hk with hk | hk
   ·exact .inl hk
   ·exact (s k hk).imp (fun h=>List.mem_append.2 (.inr h)) id
  ·rcases List.mem_append.1 hk with hk | hk
   ·exact List.mem_append.2 (.inl (List.mem_append.2 (.inl hk)))
   ·exact List.mem_append.2 (.inr hk)
structure Fro (n0:Nat) (w w':World):Prop where
 os:w'.os=w.os
 tape:w'.tape=w.tape
 output:w'.output=w.output
 size:w.heap.size<=w'.heap.size
 block:∀ k,k<n0->k<w.heap.size->w'.heap[k]?=w.heap[k]?
theorem Fro.refl (n0:Nat) (w:World):Fro n0 w w:=⟨rfl,rfl,rfl,Nat.le_refl _,fun _ _ _=>rfl⟩
theorem Fro.trans {n0:Nat} {w w1 w2:World} (h:Fro n0 w w1) (k:Fro n0 w1 w2):Fro n0 w w2 :=
 ⟨k.os.trans h.os,k.tape.trans h.tape,k.output.trans h.output,Nat.le_trans h.size k.size,fun x hx hl=>(k.block x hx (Nat.lt_of_lt_of_le hl h.size)).trans (h.block x hx hl)⟩
theorem Fro.of {n0:Nat} {S:List Nat} {w w1:World} (u:Upd S w w1) (h:∀ k,k∈S->n0<=k):Fro n0 w w1 :=
 ⟨u.os,u.tape,u.output,u.size,fun x hx hl=>u.block x hl fun hm=>by have:=h x hm;omega⟩
theorem Fro.of0 {n0:Nat} {w w1:World} (u:Upd [] w w1):Fro n0 w w1:=Fro.of u (by simp)
theorem Fro.upd {n0:Nat} {w0 w w1:World} (u:Upd [] w0 w) (h:w0.heap.size<=n0) (f:Fro n0 w w1):Upd [] w0 w1 :=
 ⟨f.os.trans u.os,f.tape.trans u.tape,f.output.trans u.output,Nat.le_trans u.size f.size,fun x hx _=>(f.block x (by omega) (Nat.lt_of_lt_of_le hx u.size)).trans (u.block x hx (by simp))⟩
structure LIn (w:World) (n0 a b m:Nat) (rv tv:Value) (K:KV) (F:List Nat) (M:MV) (p:MPtr) (refs:List Nat) (tabs:List TV):Prop where
 blk:w.heap[a]?=some (.cells #[.pointer (some ⟨b,0,none⟩),.pointer (some ⟨m,0,none⟩),rv,tv] 31 (0,0))
 mem:WMem w b m rv tv K F M p refs tabs
 na:a∉F/\a∉p.all m
 lo:∀ k,(k∈F\/k∈p.all m\/k=a\/rv.ownBlock=some k\/tv.ownBlock=some k)->n0<=k
 bl:n0<=w.heap.size
theorem LIn.keep0 {w w':World} {n0 a b m:Nat} {rv tv:Value} {K:KV} {F:List Nat} {M:MV} {p:MPtr} {refs:List Nat} {tabs:List TV} (h:LIn w n0 a b m rv tv K F M p refs tabs) (u:Upd [] w w'):LIn w' n0 a b m rv tv K F M p refs tabs :=
 ⟨by rw [u.block a (heap_lt h.blk) (by simp)];exact h.blk,h.mem.keep0 u,h.na,h.lo,Nat.le_trans h.bl u.size⟩
theorem LIn.kernel {w w1:World} {n0 a b m:Nat} {rv tv:Value} {K K1:KV} {F F1:List Nat} {M:MV} {p:MPtr} {refs:List Nat} {tabs:List TV} (h:LIn w n0 a b m rv tv K F M p refs tabs) (hk:KerAt w1 b K1 F1) (u:Upd F w w1) (s:Sub F w F1):LIn w1 n0 a b m rv tv K1 F1 M p refs tabs/\Fro n0 w w1:=by
 have hbl:=h.bl;refine ⟨⟨by rw [u.block a (heap_lt h.blk) h.na.1];exact h.blk,h.mem.kernel hk u s,⟨fun hm=>?_,h.na.2⟩,fun k hk=>?_,Nat.le_trans h.bl u.size⟩,Fro.of u fun k hk=>h.lo k (.inl hk)⟩
 ·rcases s a hm with h1 | h1
  ·exact h.na.1 h1
  ·have:=heap_lt h.blk;omega
 ·rcases hk with hk | hk
  ·rcases s k hk with h1 | h1
   ·exact h.lo k (.inl h1)
   ·omega
  ·exact h.lo k (.inr hk)
theorem LIn.model {w w1:World} {n0 a b m:Nat} {rv tv:Value} {K:KV} {F:List Nat} {M M':MV} {p:MPtr} {refs:List Nat} {tabs:List TV} (h:LIn w n0 a b m rv tv K F M p refs tabs) (e:ModE m p (F++p.all m) M' w w1):∃ p',LIn w1 n0 a b m rv tv K F M' p' refs tabs/\Fro n0 w w1:=by
 have hbl:=h.bl;obtain ⟨p',hm,u,s⟩:=h.mem.model e;refine ⟨p',⟨by rw [u.block a (heap_lt h.blk) h.na.2];exact h.blk,hm,⟨h.na.1,fun hm=>?_⟩,fun k hk=>?_,Nat.le_trans h.bl u.size⟩,Fro.of u fun k hk=>h.lo k (.inr (.inl hk))⟩
 ·rcases s a hm with h1 | h1
  ·exact h.na.2 h1
  ·have:=heap_lt h.blk;omega
 ·rcases hk with hk | hk | hk
  ·exact h.lo k (.inl hk)
  ·rcases s k hk with h1 | h1
   ·exact h.lo k (.inr (.inl h1))
   ·omega
  ·exact h.lo k (.inr (.inr hk))
theorem LIn.cells {w:World} {n0 a b m:Nat} {rv tv:Value} {K:KV} {F:List Nat} {M:MV} {p:MPtr} {refs:List Nat} {tabs:List TV} (h:LIn w n0 a b m rv tv K F M p refs tabs) :
  w.cell? ⟨a,0,none⟩=some (.pointer (some ⟨b,0,none⟩))/\w.cell? ⟨a,1,none⟩=some (.pointer (some ⟨m,0,none⟩))/\w.cell? ⟨a,2,none⟩=some rv/\w.cell? ⟨a,3,none⟩=some tv :=
 ⟨cell_at h.blk rfl,cell_at h.blk rfl,cell_at h.blk rfl,cell_at h.blk rfl⟩
def WAll (K:KV) (refs:List Nat) (tabs:List TV):Prop:=∀ (i r:Nat) (t:TV),refs[i]?=some r->tabs[i]?=some t->Names K r t
theorem MV.Fit.hold1 {M:MV} (h:M.Fit) (hl:M.held.length+1<=65536) {t:TV} (ht:t.Ok) (hn:t.n=M.n):(M.hold1 t).Fit:=by
 unfold MV.hold1;split
 ·exact h
 ·split
  ·exact h
  ·refine ⟨?_,h.n6,h.ol,h.on,fun u hu=>?_,h.cb⟩
   ·have:=incL_len M.held t
    show (incL M.held t).length<=_
    omega
   ·have hk:=incL_keys M.held t
    have hu':u∈(incL M.held t).map (·.1):=hu;rw [hk] at hu'
    split at hu'
    ·exact h.tn u hu'
    ·rcases List.mem_append.1 hu' with h1 | h1
     ·exact h.tn u h1
     ·simp at h1;subst h1;exact ⟨ht,hn⟩
theorem WLog.no {K K1:KV} {M:MV} {refs:List Nat} {tabs:List TV} (l:WLog K M refs tabs) (hk:K.Ok) (e:K.Ext K1) (hd:∀ x,K1.hold x=K.hold x):WLog K1 M refs tabs :=
 ⟨l.agr.same_kernel hk e hd,l.fit,l.lr,l.rb,by rw [e.vr];exact l.t2,fun t ht=>by rw [e.vr];exact l.ok t ht,fun i r t h1 h2 h3=>(l.nm i r t h1 h2 h3).ext hk e,l.r32⟩
theorem WLog.yes {K K1:KV} {M:MV} {refs:List Nat} {tabs:List TV} (l:WLog K M refs tabs) (al:WAll K refs tabs) (hk:K.Ok) (hu:K.Uni) (hk1:K1.Ok) (hu1:K1.Uni) (hn:K.vars<=16) {t:TV} (ht:t.Ok) (htn:t.n=K.vars) (e:K.Ext K1) {r:Nat} (hr:Names K1 r t)
  (hd:∀ x,K1.hold x=K.hold x+if x=r/\2<=r then 1 else 0) (hl:M.held.length+1<=65536) (hb:refs.length+1<=1000):M.hold1E t=0/\WLog K1 (M.hold1 t) (refs++[r]) (tabs++[t])/\WAll K1 (refs++[r]) (tabs++[t]):=by
 have hs:=l.agr.step hk hu hk1 hu1 hn ht htn e hr hd
 have ha:WAll K1 (refs++[r]) (tabs++[t]):=fun i q u h1 h2=>by
  by_cases hi:i<refs.length
  ·rw [List.getElem?_append_left hi] at h1
   rw [List.getElem?_append_left (by rw [<- l.lr];exact hi)] at h2;exact (al i q u h1 h2).ext hk e
  ·rw [List.getElem?_append_right (by omega)] at h1
   rw [List.getElem?_append_right (by rw [<- l.lr];omega),<- l.lr] at h2
   cases h3:i-refs.length with
   | zero=>rw [h3] at h1 h2;simp at h1 h2;subst h1 h2;exact hr
   | succ j=>rw [h3] at h1;simp at h1
 obtain ⟨rest,hrest⟩:=l.t2;refine ⟨hs.1,⟨hs.2,l.fit.hold1 hl ht (htn.trans l.agr.same.n.symm),by simp [l.lr],by simpa using hb,⟨rest++[t],by rw [hrest,e.vr];rfl⟩,fun u hu'=>?_,fun i q u h1 h2 _=>ha i q u h1 h2,fun q hq=>?_⟩,ha⟩
 ·rw [e.vr]
  rcases List.mem_append.1 hu' with h | h
  ·exact l.ok u h
  ·simp at h;subst h;exact ⟨ht,htn⟩
 ·rcases List.mem_append.1 hq with h | h
  ·exact l.r32 q h
  ·simp at h;subst h;have:=hk1.ref_lt hr.1;omega
theorem MV.hold1_len (M:MV) (t:TV):(M.hold1 t).held.length<=M.held.length+1:=by
 unfold MV.hold1;split
 ·omega
 ·split
  ·omega
  ·exact incL_len _ _
theorem MV.hold1_trail (M:MV) (t:TV):(M.hold1 t).trail=M.trail:=by
 unfold MV.hold1;split
 ·rfl
 ·split <;> rfl
theorem ty_ne {w:World} {b1 b2:Nat} {e1 e2:TypeId} {z1 z2 n1 n2:Nat} {v1 v2:Value} {xs ys:List Value} (h1:w.ownsRow b1 e1 z1 v1 n1 xs) (h2:w.ownsRow b2 e2 z2 v2 n2 ys) (hne:e1≠e2) {k:Nat} (k1:v1.ownBlock=some k) (k2:v2.ownBlock=some k):False:=by
 obtain ⟨c1,f1,a1⟩:=row_type h1 k1;obtain ⟨c2,f2,a2⟩:=row_type h2 k2;rw [a1] at a2
 injection a2 with a2;injection a2 with _ a2 _;exact hne a2
theorem blk_ne {w:World} {b1:Nat} {e1 e2:TypeId} {z1 n1 k:Nat} {v1:Value} {xs:List Value} {cs:Array Value} {fr:Nat × Nat} (h1:w.ownsRow b1 e1 z1 v1 n1 xs) (h2:w.heap[k]?=some (.cells cs e2 fr)) (hne:e1≠e2):v1.ownBlock≠some k:=fun k1=>by
 obtain ⟨c1,f1,a1⟩:=row_type h1 k1;rw [a1] at h2
 injection h2 with a2;injection a2 with _ a2 _;exact hne a2
theorem row_grow {w5 y w6:World} {o:Option Nat} {b:Nat} {e:TypeId} {sz n:Nat} {v:Value} {xs:List Value} (u:Upd [] w5 y) (g:y.grownBy w6 o) (h:w5.ownsRow b e sz v n xs) (hne:∀ k,v.ownBlock=some k->o=some k->False):w6.ownsRow b e sz v n xs :=
 row_keep h fun k hk=>(g.block k (Nat.lt_of_lt_of_le (h.lt k hk).2 u.size) (fun e=>hne k hk e.symm)).trans (u.block k (h.lt k hk).2 (by simp))
theorem app_at {w y:World} {S:List Nat} {o:Option Nat} {g:Nat} (u:Upd S w y) (h:o=some g\/g=y.heap.size):o=some g\/w.heap.size<=g:=h.imp id fun e=>by rw [e];exact u.size
theorem LIn.push {w w6:World} {n0 a b m g1 cap1 g2 cap2 r:Nat} {rv tv c:Value} {K:KV} {F:List Nat} {M:MV} {p:MPtr} {refs:List Nat} {tabs:List TV} {t:TV} {cs:List Value} (h:LIn w n0 a b m rv tv K F M p refs tabs)
  (u:Upd (rv.ownBlock.toList++tv.ownBlock.toList) w w6) (e1:cs.length=tabs.length) (e3:∀ (i:Nat) (t:TV) (c:Value),tabs[i]?=some t->cs[i]?=some c->TIn w (F++p.all m) c t)
  (o1:w6.ownsRow 0 54 1 (.slice (some ⟨g1,0,none⟩) (refs.length+1) cap1) (refs.length+1) (flatRefs refs++[.int .u32 r]))
  (o2:w6.ownsRow 0 56 2 (.slice (some ⟨g2,0,none⟩) (tabs.length+1) cap2) (tabs.length+1) (flatTT tabs cs++[.int .i64 t.n,c]))
  (at1:rv.ownBlock=some g1\/w.heap.size<=g1) (at2:tv.ownBlock=some g2\/w.heap.size<=g2) (ht:TIn w (F++p.all m) c t) :
  LIn ((w6.setCell ⟨a,2,none⟩ (.slice (some ⟨g1,0,none⟩) (refs.length+1) cap1)).setCell ⟨a,3,none⟩ (.slice (some ⟨g2,0,none⟩) (tabs.length+1) cap2)) n0 a b m (.slice (some ⟨g1,0,none⟩) (refs.length+1) cap1) (.slice (some ⟨g2,0,none⟩) (tabs.length+1) cap2) K F M p (refs++[r]) (tabs++[t]) /\
  Fro n0 w ((w6.setCell ⟨a,2,none⟩ (.slice (some ⟨g1,0,none⟩) (refs.length+1) cap1)).setCell ⟨a,3,none⟩ (.slice (some ⟨g2,0,none⟩) (tabs.length+1) cap2)):=by
 have hz:=h.mem.z;have hal:=heap_lt h.blk;obtain ⟨xs,hxs⟩:=h.mem.tt.row;have na1:=blk_ne h.mem.rr h.blk (by decide);have na2:=blk_ne hxs h.blk (by decide)
 have hblk6:w6.heap[a]?=_:=(u.block a hal fun hm=>by
  rcases List.mem_append.1 hm with hm | hm
  ·exact na1 (by simpa using hm)
  ·exact na2 (by simpa using hm)).trans h.blk
 have u2:Upd (a::(rv.ownBlock.toList++tv.ownBlock.toList)) w ((w6.setCell ⟨a,2,none⟩ (.slice (some ⟨g1,0,none⟩) (refs.length+1) cap1)).setCell ⟨a,3,none⟩ (.slice (some ⟨g2,0,none⟩) (tabs.length+1) cap2)) :=
  ((u.mono (fun k hk=>List.mem_cons_of_mem _ hk)).setCell (p:=⟨a,2,none⟩) (.inl (by simp)) _).setCell (p:=⟨a,3,none⟩) (.inl (by simp)) _
 have hS:∀ k,k∈a::(rv.ownBlock.toList++tv.ownBlock.toList)->k=a\/rv.ownBlock=some k\/tv.ownBlock=some k:=fun k hk=>by
  rcases List.mem_cons.1 hk with h | h
  ·exact .inl h
  ·rcases List.mem_append.1 h with h | h
   ·exact .inr (.inl (by simpa using h))
   ·exact .inr (.inr (by simpa using h))
 have hSF:∀ k,k∈F++p.all m->k∉a::(rv.ownBlock.toList++tv.ownBlock.toList):=fun k hk hm=>by
  rcases hS k hm with rfl | h1 | h1
  ·rcases List.mem_append.1 hk with h2 | h2
   ·exact h.na.1 h2
   ·exact h.na.2 h2
  ·rcases List.mem_append.1 hk with h2 | h2
   ·exact (h.mem.rf k h1).1 h2
   ·exact (h.mem.rf k h1).2 h2
  ·exact h.mem.tt.fr k h1 hk
 have far:∀ k,w.heap.size<=k->k∉F++p.all m:=fun k hk hm=>by have:=hz k hm;omega
 have g1n:∀ k,g1=k->k∉F++p.all m:=fun k e hm=>by
  subst e
  rcases at1 with h1 | h1
  ·exact hSF g1 hm (by simp [h1])
  ·exact far g1 h1 hm
 have g2n:∀ k,g2=k->k∉F++p.all m:=fun k e hm=>by
  subst e
  rcases at2 with h1 | h1
  ·exact hSF g2 hm (by simp [h1])
  ·exact far g2 h1 hm
 have own:∀ {g k n c:Nat},(Value.slice (some ⟨g,0,none⟩) n c).ownBlock=some k->g=k:=fun {g k n c} h=>by simpa [Value.ownBlock] using h
 have keepT:∀ {d:Value} {s:TV},TIn w (F++p.all m) d s->TIn ((w6.setCell ⟨a,2,none⟩ (.slice (some ⟨g1,0,none⟩) (refs.length+1) cap1)).setCell ⟨a,3,none⟩ (.slice (some ⟨g2,0,none⟩) (tabs.length+1) cap2)) (F++p.all m) d s:=fun {d s} hd =>
  ⟨hd.ok,row_keep hd.row fun k hk=>u2.block k (hd.row.lt k hk).2 fun hm=>by
   rcases hS k hm with rfl | h1 | h1
   ·exact blk_ne hd.row h.blk (by decide) hk
   ·exact ty_ne hd.row h.mem.rr (by decide) hk h1
   ·exact ty_ne hd.row hxs (by decide) hk h1,hd.fr⟩
 have b1:=heap_set_eq (j:=3) (heap_set_eq (j:=2) hblk6 (.slice (some ⟨g1,0,none⟩) (refs.length+1) cap1)) (.slice (some ⟨g2,0,none⟩) (tabs.length+1) cap2);have q1:=blk_ne o1 hblk6 (by decide);have q2:=blk_ne o2 hblk6 (by decide);have h0:=h.lo;have hbl:=h.bl
 have hmod:ModIn ((w6.setCell ⟨a,2,none⟩ (.slice (some ⟨g1,0,none⟩) (refs.length+1) cap1)).setCell ⟨a,3,none⟩ (.slice (some ⟨g2,0,none⟩) (tabs.length+1) cap2)) m M p (F++p.all m):=by
  obtain ⟨ds,d1,d2,d3⟩:=h.mem.mod.hs.ex
  have np:∀ k,k∈p.all m->k∉a::(rv.ownBlock.toList++tv.ownBlock.toList):=fun k hk=>hSF k (List.mem_append.2 (.inr hk))
  exact ⟨by rw [u2.block m (heap_lt h.mem.mod.blk) (np m (MPtr.mem.2 (.inl rfl)))];exact h.mem.mod.blk,row_keep h.mem.mod.os fun k hk=>u2.block k (h.mem.mod.os.lt k hk).2 (np k (MPtr.mem.2 (.inr (.inl hk)))),
   ⟨ds,d1,row_keep d2 fun k hk=>u2.block k (d2.lt k hk).2 (np k (MPtr.mem.2 (.inr (.inr (.inl hk))))),fun i t c hi hc=>keepT (d3 i t c hi hc)⟩,
   row_keep h.mem.mod.ts fun k hk=>u2.block k (h.mem.mod.ts.lt k hk).2 (np k (MPtr.mem.2 (.inr (.inr (.inr hk))))),h.mem.mod.ne,h.mem.mod.sz⟩
 refine ⟨⟨b1,⟨h.mem.ker.upd u2 fun k hk=>hSF k (List.mem_append.2 (.inl hk)),hmod,h.mem.dj,?_,fun k hk=>?_,⟨⟨cs++[c],by simp [e1],?_,fun i s d hs hd=>?_⟩,fun k hk=>g2n k (own hk)⟩⟩,h.na,fun k hk=>?_,Nat.le_trans hbl u2.size⟩,?_⟩
 ·have:=row_ne (row_ne o1 (a:=⟨a,2,none⟩) (fun e=>q1 e.symm) (.slice (some ⟨g1,0,none⟩) (refs.length+1) cap1)) (a:=⟨a,3,none⟩) (fun e=>q1 e.symm) (.slice (some ⟨g2,0,none⟩) (tabs.length+1) cap2)
  rw [List.length_append,List.length_singleton];unfold flatRefs at this ⊢;rw [List.map_append];exact this
 ·have:=g1n k (own hk)
  exact ⟨fun h=>this (List.mem_append.2 (.inl h)),fun h=>this (List.mem_append.2 (.inr h))⟩
 ·rw [flatTT_snoc e1,List.length_append,List.length_singleton]
  exact row_ne (row_ne o2 (a:=⟨a,2,none⟩) (fun e=>q2 e.symm) (.slice (some ⟨g1,0,none⟩) (refs.length+1) cap1)) (a:=⟨a,3,none⟩) (fun e=>q2 e.symm) (.slice (some ⟨g2,0,none⟩) (tabs.length+1) cap2)
 ·by_cases hi:i<tabs.length
  ·rw [List.getElem?_append_left hi] at hs
   rw [List.getElem?_append_left (by omega)] at hd;exact keepT (e3 i s d hs hd)
  ·rw [List.getElem?_append_right (by omega)] at hs
   rw [List.getElem?_append_right (by omega),e1] at hd
   cases h3:i-tabs.length with
   | zero=>rw [h3] at hs hd;simp at hs hd;subst hs hd;exact keepT ht
   | succ j=>rw [h3] at hs;simp at hs
 ·rcases hk with hk | hk | hk | hk | hk
  ·exact h0 k (.inl hk)
  ·exact h0 k (.inr (.inl hk))
  ·exact h0 k (.inr (.inr (.inl hk)))
  ·rw [<- own hk]
   rcases at1 with h1 | h1
   ·exact h0 g1 (.inr (.inr (.inr (.inl h1))))
   ·omega
  ·rw [<- own hk]
   rcases at2 with h1 | h1
   ·exact h0 g2 (.inr (.inr (.inr (.inr h1))))
   ·omega
 ·refine Fro.of u2 fun k hk=>?_
  rcases hS k hk with rfl | h1 | h1
  ·exact h0 k (.inr (.inr (.inl rfl)))
  ·exact h0 k (.inr (.inr (.inr (.inl h1))))
  ·exact h0 k (.inr (.inr (.inr (.inr h1))))
def MV.layT (M:MV) (t:TV):MV:=if M.fits [t]=true then M.hold1 t else M
structure LayW (n0 a b m:Nat) (K:KV) (M:MV) (refs:List Nat) (tabs:List TV) (t:TV) (w:World) (e:Ending) (w':World):Prop where
 ex:∃ (rv tv:Value) (K':KV) (F':List Nat) (M':MV) (p':MPtr) (refs':List Nat) (tabs':List TV),e=.returned (.bool true)/\LIn w' n0 a b m rv tv K' F' M' p' refs' tabs'/\WLog K' M' refs' tabs'/\WAll K' refs' tabs'/\Fro n0 w w' /\
  (∀ x,K'.hold x<=K.hold x+1)/\refs'.length<=refs.length+1/\M'.held.length<=M.held.length+1/\M'.trail=M.trail/\K.Ext K'/\(∀ i r:Nat,refs[i]?=some r->refs'[i]?=some r)/\M'=M.layT t/\(∀ x,K.hold x<=K'.hold x)/\∀ r,r∈refs'->r∈refs\/r<2\/0<K'.hold r
theorem TLs.one {W:World} {n0 g:Nat} {Z:List Nat} {d0:Value} {t0:TV} (h:W.heap[g]?=some (.cells #[.int .i64 t0.n,d0] 56 (0,0))) (h0:TIn W Z d0 t0) (hg:n0<=g) (hZ:g∉Z) :
  TLs W n0 Z (.slice (some ⟨g,0,none⟩) 1 1) [t0]:=by
 refine ⟨⟨[d0],rfl,⟨rfl,.inr ⟨g,1,_,rfl,hg,h,Nat.le_refl _,by unfold maxLen;omega,rfl,rfl⟩⟩,fun i t c ht hc=>?_⟩,fun k hk=>?_⟩
 ·match i,ht,hc with
  | 0,ht,hc=>simp at ht hc;subst ht hc;exact h0
  | i+1,ht,_=>simp at ht
 ·simp [Value.ownBlock] at hk;subst hk;exact hZ
theorem LIn.model2 {w w1:World} {n0 a b m:Nat} {rv tv:Value} {K:KV} {F:List Nat} {M M':MV} {p:MPtr} {refs:List Nat} {tabs:List TV} (h:LIn w n0 a b m rv tv K F M p refs tabs) (e:ModE m p (F++p.all m) M' w w1):∃ p',LIn w1 n0 a b m rv tv K F M' p' refs tabs/\Fro n0 w w1/\Upd (p.all m) w w1/\Sub (p.all m) w (p'.all m):=by
 have hbl:=h.bl;obtain ⟨p',hm,u,s⟩:=h.mem.model e;refine ⟨p',⟨by rw [u.block a (heap_lt h.blk) h.na.2];exact h.blk,hm,⟨h.na.1,fun hm=>?_⟩,fun k hk=>?_,Nat.le_trans h.bl u.size⟩,Fro.of u fun k hk=>h.lo k (.inr (.inl hk)),u,s⟩
 ·rcases s a hm with h1 | h1
  ·exact h.na.2 h1
  ·have:=heap_lt h.blk;omega
 ·rcases hk with hk | hk | hk
  ·exact h.lo k (.inl hk)
  ·rcases s k hk with h1 | h1
   ·exact h.lo k (.inr (.inl h1))
   ·omega
  ·exact h.lo k (.inr (.inr hk))
theorem u64_wrap_nonneg (n:Int):0<=IntKind.u64.wrap n/\IntKind.u64.wrap n<18446744073709551616:=by
 simp [IntKind.wrap,IntKind.bits,IntKind.signed]
 omega
def varsN (n:Int):Nat:=((IntKind.u64.wrap n).tmod 6).toNat+1
theorem lvars_spec (n:Int) (w:World):Calls Tryz.prog 62 #[.int .i64 n] w fun e w'=>(∃ v:Nat,v=varsN n/\e=.returned (.int .i64 v)/\1<=v/\v<=6)/\w'=w:=by
 obtain ⟨m,hm,hlt⟩ : ∃ m:Nat,(IntKind.u64.wrap n).tmod 6=m/\m<6:=by
  have h0:=(u64_wrap_nonneg n).1;rw [Int.tmod_eq_emod_of_nonneg h0];exact ⟨((IntKind.u64.wrap n) % 6).toNat,by omega,by omega⟩
 have HM:=Lib.hid hm;clear hm
 go_enter Tryz.func62,Tryz.ntmps62
 go_wp2_with fail;go_ret;refine ⟨⟨m+1,by unfold varsN;rw [HM.out];rfl,?_,by omega,by omega⟩,rfl⟩;rw [HM.out]
 have e1:wrap64 (m:Int)=m:=by unfold wrap64;omega
 rw [e1]
 have e2:wrap64 (1+(m:Int))=((m+1:Nat):Int):=by unfold wrap64;omega
 rw [e2];rfl
theorem u64_row1 {w:World} {x:Int}:(w.alloc (.cells #[.int .u64 x] 96 (0,0))).ownsRow w.heap.size 96 1 (.slice (some ⟨w.heap.size,0,none⟩) 1 1) 1 (flatU [x]) :=
 ⟨rfl,.inr ⟨w.heap.size,1,_,rfl,Nat.le_refl _,heap_alloc_new _ _,Nat.le_refl _,by unfold maxLen;omega,rfl,rfl⟩⟩
def wordT (n:Nat) (x:Int):TV:=⟨n,[if n<6 then x % 2 ^ 2 ^ n else x]⟩
structure WordQ (n:Nat) (x:Int) (w:World) (e:Ending) (w':World):Prop where
 ex:∃ (t:TV) (a:Option Addr) (m c:Nat),t=wordT n x/\e=.returned (.agg #[.int .i64 n,.slice a m c])/\TNew w w' (.slice a m c) t/\Upd [] w w'
theorem word_end (n:Nat) (z y x:Int) (w:World) (h6:n<=6) (hy:U64 y) (hlow:n<6->y<2 ^ 2 ^ n) (hz:z=n) (hx:(if n<6 then x % 2 ^ 2 ^ n else x)=y) :
  WordQ n x w (.returned (.agg #[.int .i64 z,.slice (some ⟨w.heap.size+1,0,none⟩) 1 1])) ((w.alloc (.cells #[.int .i64 z,.slice (some ⟨w.heap.size+1,0,none⟩) 1 1] 56 (0,0))).alloc (.cells #[.int .u64 y] 96 (0,0))):=by
 subst hz
 have ok:(TV.mk n [y]).Ok:=by
  refine ⟨by show n<=16;omega,?_,fun x hx=>?_,fun h x hx i hi=>?_⟩
  ·show 1=wordsN n;unfold wordsN;rw [if_pos h6]
  ·simp at hx;subst hx;exact hy
  ·simp at hx;subst hx
   have h1:=hlow h;obtain ⟨m,rfl⟩ : ∃ m:Nat,x=(m:Int):=⟨x.toNat,by have:=hy.1;omega⟩;rw [nb_cast];refine Nat.testBit_lt_two_pow (Nat.lt_of_lt_of_le ?_ (Nat.pow_le_pow_right (by omega) hi))
   exact_mod_cast h1
 have hr:=u64_row1 (w:=w.alloc (.cells #[.int .i64 n,.slice (some ⟨w.heap.size+1,0,none⟩) 1 1] 56 (0,0))) (x:=y);rw [World.size_alloc] at hr;exact ⟨⟨n,[y]⟩,_,_,_,by unfold wordT;rw [hx],rfl,⟨ok,row_base hr (by omega)⟩,((Upd.refl _ _).alloc _).alloc _⟩
theorem word_spec (n:Nat) (x:Int) (w:World) (h1:1<=n) (h6:n<=6) (hx:U64 x):Calls Tryz.prog 68 #[.int .i64 n,.int .u64 x] w fun e w'=>WordQ n x w e w':=by
 have hz:(w.alloc (.cells #[.int .i64 0,.slice none 0 0] 56 (0,0))).heap[w.heap.size]?=some (.cells #[.int .i64 0,.slice none 0 0] 56 (0,0)):=heap_alloc_new _ _;obtain ⟨hx0,hx1⟩:=hx
 obtain rfl | rfl | rfl | rfl | rfl | rfl:n=1\/n=2\/n=3\/n=4\/n=5\/n=6:=by omega
 ·have HE:=Lib.hid (word_end 1 1 (x % 4) x w (by omega) (by unfold U64;omega) (fun _=>by omega) rfl (by simp))
  clear hz
  go_enter Tryz.func68,Tryz.ntmps68
  go_wp2_with fail;refine bodyPost_ret (v:=.agg #[.int .i64 1,.slice (some ⟨w.heap.size+1,0,none⟩) 1 1]) (by simp [results,Tryz.results68,go_sem]) rfl ?_;exact HE.out
 ·have HE:=Lib.hid (word_end 2 2 (x % 16) x w (by omega) (by unfold U64;omega) (fun _=>by omega) rfl (by simp))
  clear hz
  go_enter Tryz.func68,Tryz.ntmps68
  go_wp2_with fail;refine bodyPost_ret (v:=.agg #[.int .i64 2,.slice (some ⟨w.heap.size+1,0,none⟩) 1 1]) (by simp [results,Tryz.results68,go_sem]) rfl ?_;exact HE.out
 ·have HE:=Lib.hid (word_end 3 3 (x % 256) x w (by omega) (by unfold U64;omega) (fun _=>by omega) rfl (by simp))
  clear hz
  go_enter Tryz.func68,Tryz.ntmps68
  go_wp2_with fail;refine bodyPost_ret (v:=.agg #[.int .i64 3,.slice (some ⟨w.heap.size+1,0,none⟩) 1 1]) (by simp [results,Tryz.results68,go_sem]) rfl ?_;exact HE.out
 ·have HE:=Lib.hid (word_end 4 4 (x % 65536) x w (by omega) (by unfold U64;omega) (fun _=>by omega) rfl (by simp))
  clear hz
  go_enter Tryz.func68,Tryz.ntmps68
  go_wp2_with fail;refine bodyPost_ret (v:=.agg #[.int .i64 4,.slice (some ⟨w.heap.size+1,0,none⟩) 1 1]) (by simp [results,Tryz.results68,go_sem]) rfl ?_;exact HE.out
 ·have HE:=Lib.hid (word_end 5 5 (x % 4294967296) x w (by omega) (by unfold U64;omega) (fun _=>by omega) rfl (by simp))
  clear hz
  go_enter Tryz.func68,Tryz.ntmps68
  go_wp2_with fail;refine bodyPost_ret (v:=.agg #[.int .i64 5,.slice (some ⟨w.heap.size+1,0,none⟩) 1 1]) (by simp [results,Tryz.results68,go_sem]) rfl ?_;exact HE.out
 ·have HE:=Lib.hid (word_end 6 6 x x w (by omega) ⟨hx0,hx1⟩ (fun h=>by omega) rfl (by simp))
  clear hz
  go_enter Tryz.func68,Tryz.ntmps68
  go_wp2_with fail;refine bodyPost_ret (v:=.agg #[.int .i64 6,.slice (some ⟨w.heap.size+1,0,none⟩) 1 1]) (by simp [results,Tryz.results68,go_sem]) rfl ?_;exact HE.out
theorem MV.Fit.new {n c:Nat} (hn:n<=6) (hc:c<=1048576):(MV.new n c).Fit :=
 ⟨by simp [MV.new],hn,by simp [MV.new];exact hn,fun x hx=>by simpa [MV.new] using hx,fun t ht=>by simp [MV.new,MV.tabs] at ht,hc⟩
structure Ph1 (n R:Nat) (K:KV) (M:MV) (i:Nat):Prop where
 agr:Agr K M
 fit:M.Fit
 hb:M.held=[]
 us:K.A.used=2
 vr:K.vars=n
 pl:K.A.places=R
 tr:K.trail=M.trail
 tl:M.trail.length<=i
 h0:∀ x,K.hold x=0
 od:M.order.length=M.n
theorem Ph1.new {n R:Nat} (h1:1<=n) (hn:n<=6) (h2:2<=R) (hR:R<=1048576):Ph1 n R (KV.new n R) (MV.new n R) 0:=by
 have hp:=plain_new h1 (by omega) h2 hR;exact ⟨Agr.new h1 (by omega) h2 hR,.new hn hR,rfl,rfl,rfl,rfl,rfl,by simp [MV.new],fun x=>by simp [KV.new,KV.hold],by simp [MV.new]⟩
theorem Ph1.step {n R i:Nat} {K:KV} {M:MV} (h:Ph1 n R K M i) (hk:K.Ok) (l:Int) :
  (M.exchE l=if l<0\/(K.vars:Int)-2<l then 1 else 0)/\((l<0\/(K.vars:Int)-2<l)->M.exch l=M)/\(¬ (l<0\/(K.vars:Int)-2<l)->Ph1 n R (K.exchK l.toNat) (M.exch l) (i+1)):=by
 have hp:=hk.wf.ok.lp;have hu:=hk.wf.ok.us
 have h2:2<=K.A.places:=by have:=h.us;omega
 obtain ⟨e1,e2,e3,e4,e5,e6⟩:=h.agr.exch_bare h.hb h2 l;refine ⟨e1,e4,fun hl=>?_⟩
 have em:M.exch l={ M with order:=turnL M.order l.toNat,trail:=M.trail++[l.toNat] }:=by unfold MV.exch;rw [e1,if_neg hl,if_pos rfl]
 refine ⟨e3 hl,⟨?_,?_,?_,fun x hx=>?_,fun t ht=>?_,?_⟩,e2,h.us,h.vr,h.pl,e6 h.tr hl,by have:=h.tl;omega,h.h0,?_⟩
 ·rw [e2];simp
 ·rw [em];exact h.fit.n6
 ·rw [em];show (turnL M.order _).length<=6;rw [turnL_len];exact h.fit.ol
 ·rw [em] at hx ⊢
  refine h.fit.on x (mem_turnL ?_ hx);have h3:=h.od;have h4:=h.agr.same.n;omega
 ·unfold MV.tabs at ht;rw [e2] at ht;simp at ht
 ·rw [em];exact h.fit.cb
 ·rw [em];show (turnL M.order _).length=M.n;rw [turnL_len];exact h.od
theorem Ph1.mono {n R i j:Nat} {K:KV} {M:MV} (h:Ph1 n R K M i) (hij:i<=j):Ph1 n R K M j:=⟨h.agr,h.fit,h.hb,h.us,h.vr,h.pl,h.tr,Nat.le_trans h.tl hij,h.h0,h.od⟩
theorem Ph1.log {n R i:Nat} {K:KV} {M:MV} (h:Ph1 n R K M i) (hk:K.Ok) (hn:n<=6):WLog K M [0,1] [constT n false,constT n true]/\WAll K [0,1] [constT n false,constT n true]:=by
 have ha:WAll K [0,1] [constT n false,constT n true]:=fun i r t h1 h2=>by
  have key:(r=0/\t=constT n false)\/(r=1/\t=constT n true):=by
   generalize constT n false=c0 at *;generalize constT n true=c1 at *
   cases i with
   | zero=>simp at h1 h2;exact .inl ⟨h1.symm,h2.symm⟩
   | succ i =>
    cases i with
    | zero=>simp at h1 h2;exact .inr ⟨h1.symm,h2.symm⟩
    | succ i=>simp at h1
  rcases key with ⟨e1,e2⟩ | ⟨e1,e2⟩
  ·rw [e1,e2];exact const_names hk false
  ·rw [e1,e2];exact const_names hk true
 refine ⟨⟨h.agr,h.fit,rfl,by simp,⟨[],by rw [h.vr]⟩,fun t ht=>?_,fun i r t h1 h2 _=>ha i r t h1 h2,fun r hr=>?_⟩,ha⟩
 ·rw [h.vr]
  rw [List.mem_cons,List.mem_singleton] at ht
  rcases ht with h1 | h1
  ·rw [h1];exact ⟨mkT_ok _ (by omega),rfl⟩
  ·rw [h1];exact ⟨mkT_ok _ (by omega),rfl⟩
 ·simp at hr;omega
theorem WLog.keepK {K:KV} {M:MV} {refs:List Nat} {tabs:List TV} (l:WLog K M refs tabs) (al:WAll K refs tabs) (hk:K.Ok):WLog (K.keepK 1) M refs tabs/\WAll (K.keepK 1) refs tabs/\K.Ext (K.keepK 1)/\(∀ x,(K.keepK 1).hold x=K.hold x):=by
 have he:K.Ext (K.keepK 1):=⟨fun r p h1 h2=>h1,rfl,rfl,rfl,rfl⟩
 have hd:∀ x,(K.keepK 1).hold x=K.hold x:=fun x=>rfl
 exact ⟨l.no hk he hd,fun i r t h1 h2=>(al i r t h1 h2).ext hk he,he,hd⟩
theorem Agr.clear {K:KV} {M:MV} (h:Agr K M):Agr K { M with trail:=[] }:=⟨⟨h.same.od,h.same.n⟩,h.c,h.nd,h.hl,h.lh⟩
theorem MV.Fit.clear {M:MV} (h:M.Fit):MV.Fit { M with trail:=[] }:=⟨h.hl,h.n6,h.ol,h.on,h.tn,h.cb⟩
theorem WLog.clear {K:KV} {M:MV} {refs:List Nat} {tabs:List TV} (l:WLog K M refs tabs):WLog K { M with trail:=[] } refs tabs :=
 ⟨l.agr.clear,l.fit.clear,l.lr,l.rb,l.t2,l.ok,l.nm,l.r32⟩
theorem ModE.clear {w:World} {m:Nat} {M:MV} {p:MPtr} {Z:List Nat} (h:ModIn w m M p Z) (hz:∀ k,k∈p.all m->k∈Z):ModE m p Z { M with trail:=[] } w (w.setCell ⟨m,4,none⟩ (.slice none 0 0)):=by
 have hu:Upd (p.all m) w (w.setCell ⟨m,4,none⟩ (.slice none 0 0)):=(Upd.refl _ w).setCell (p:=⟨m,4,none⟩) (.inl (MPtr.mem.2 (.inl rfl))) _
 have hs:Sub (p.all m) w (MPtr.all ⟨p.ov,p.hv,.slice none 0 0⟩ m):=fun k hk=>by
  rcases MPtr.mem.1 hk with h | h | h | h
  ·exact .inl (MPtr.mem.2 (.inl h))
  ·exact .inl (MPtr.mem.2 (.inr (.inl h)))
  ·exact .inl (MPtr.mem.2 (.inr (.inr (.inl h))))
  ·simp [Value.ownBlock] at h
 have ne:∀ {v:Value} {e:TypeId} {n sz b:Nat} {xs:List Value},w.ownsRow b e sz v n xs->e≠90->v.ownBlock≠some m:=fun {v e n sz b xs} hr he hv=>by
  obtain ⟨c,f,h1⟩:=row_type hr hv;rw [h.blk] at h1
  injection h1 with h1
  injection h1 with _ h1 _
  exact he h1.symm
 have no:=ne h.os (by decide);obtain ⟨xs,hxs⟩:=h.hs.row;have nh:=ne hxs (by decide);have u1:Upd [m] w (w.setCell ⟨m,4,none⟩ (.slice none 0 0)):=(Upd.refl _ w).setCell (p:=⟨m,4,none⟩) (.inl (by simp)) _;refine ⟨⟨p.ov,p.hv,.slice none 0 0⟩,⟨heap_set_eq (j:=4) h.blk (.slice none 0 0),row_ne h.os (a:=⟨m,4,none⟩) (fun e=>no e.symm) _,?_,World.ownsRow_nil _ _ _ _,fun k _ e=>by simp [Value.ownBlock] at e,fun k hk=>List.mem_append.2 (.inr hk)⟩,hu,hs⟩
 refine (h.hs.keep u1 (fun k hk=>.inl (hz k (by simp at hk;subst hk;exact MPtr.mem.2 (.inl rfl)))) fun k hk hm=>nh (by simp at hm;rw [<- hm];exact hk)).apart fun k hk=>.inl ?_
 rcases List.mem_append.1 hk with hk | hk
 ·exact hk
 ·rcases MPtr.mem.1 hk with h1 | h1 | h1 | h1
  ·exact hz k (MPtr.mem.2 (.inl h1))
  ·exact hz k (MPtr.mem.2 (.inr (.inl h1)))
  ·exact hz k (MPtr.mem.2 (.inr (.inr (.inl h1))))
  ·simp [Value.ownBlock] at h1
structure RowOf (w:World) (k:IntKind) (a:Option Addr) (n:Nat) (zs:List Int):Prop where
 len:zs.length=n
 mx:n<=maxLen
 at_:∀ i,i<n->∃ x,a=some x/\w.cell? (x.add i)=some (.int k (zs.getD i 0))
theorem RowOf.keep0 {w w':World} {k:IntKind} {a:Option Addr} {n:Nat} {zs:List Int} (h:RowOf w k a n zs) (u:Upd [] w w'):RowOf w' k a n zs :=
 ⟨h.len,h.mx,fun i hi=>by obtain ⟨x,e,hc⟩:=h.at_ i hi;exact ⟨x,e,u.cell0 hc⟩⟩
def roomN (r:Int):Nat:=if r<2\/1048576<r then 200 else r.toNat
theorem roomN_lo (r:Int):2<=roomN r/\roomN r<=1048576:=by unfold roomN;split <;> omega
def laysT (v:Nat) (M:MV) (l:List Int):MV:=l.foldl (fun M u=>M.layT (wordT v u)) M
structure LaidX (n room:Int) (ln:Nat) (Ws:List Int) (w:World) (e:Ending) (w':World):Prop where
 ex:∃ (b m:Nat) (rv tv:Value) (K:KV) (F:List Nat) (M:MV) (p:MPtr) (refs:List Nat) (tabs:List TV),e=.returned (.tuple #[worldV b m rv tv,.bool true])/\WMem w' b m rv tv K F M p refs tabs/\WLog K M refs tabs/\WAll K refs tabs /\
  (∀ k,(k∈F\/k∈p.all m\/rv.ownBlock=some k\/tv.ownBlock=some k)->w.heap.size<=k)/\Upd [] w w'/\K.A.places=roomN room/\(∀ x,K.hold x<=8)/\refs.length<=10/\M.held.length<=8/\K.trail=[]/\M.trail=[] /\
  K.vars=varsN n/\(∀ r,r∈refs->r<2\/0<K.hold r)/\(ln=0->M={ laysT (varsN n) (MV.new (varsN n) (roomN room)) (Ws.take 8) with trail:=[] })
theorem exch_at (b:Nat) (l:Int) (K:KV) (F:List Nat) (w:World) (h:KerAt w b K F) (hb:K.A.used=2) (ht:K.trail.length<=1000000) :
  Calls Tryz.prog 49 #[.pointer (some ⟨b,0,none⟩),.int .i64 l] w fun e w' =>
   ∃ (K':KV) (F':List Nat),e=.returned (.int .i64 (if l<0\/(K.vars:Int)-2<l then 1 else 0))/\(((l<0\/(K.vars:Int)-2<l)/\K'=K)\/(¬ (l<0\/(K.vars:Int)-2<l)/\K'=K.exchK l.toNat))/\KerAt w' b K' F'/\Upd F w w'/\Sub F w F':=by
 obtain ⟨T,q,hk,rfl⟩:=h;refine (exchange_bare b l K T q w hk hb ht).mono ?_;rintro e w' hE;obtain ⟨code,K',T',q',rfl,hc,hk',hu,hs⟩:=hE.ex
 rcases hc with ⟨rfl,h1,h2⟩ | ⟨rfl,h1,h2,h3⟩
 ·exact ⟨K',_,by rw [if_pos h1],.inl ⟨h1,h2⟩,⟨T',q',hk',rfl⟩,hu,hs⟩
 ·exact ⟨K',_,by rw [if_neg (by omega)],.inr ⟨by omega,h3⟩,⟨T',q',hk',rfl⟩,hu,hs⟩
theorem keep1_at (b:Nat) (K:KV) (F:List Nat) (w:World) (h:KerAt w b K F) (hh:K.hold 1<65535) :
  Calls Tryz.prog 69 #[.pointer (some ⟨b,0,none⟩),.int .u32 (1:Nat)] w fun e w'=>∃ F':List Nat,e=.returned (.int .i64 0)/\KerAt w' b (K.keepK 1) F'/\Upd F w w'/\Sub F w F':=by
 obtain ⟨T,q,hk,rfl⟩:=h;refine (keep_any b 1 K T q w hk (by omega) (hk.ok.tk_const (by omega))).mono ?_;rintro e w' ⟨code,K',q',rfl,hc,hk',hu,hs⟩
 rcases hc with ⟨rfl,h1,_⟩ | ⟨rfl,_,rfl⟩
 ·omega
 ·exact ⟨_,rfl,⟨T,q',hk',rfl⟩,hu,fun k hk=>.inl (hs k hk)⟩
theorem Fro.cell {n0:Nat} {w w':World} (f:Fro n0 w w') {a:Addr} {v:Value} (h:w.cell? a=some v) (ha:a.block<n0):w'.cell? a=some v :=
 (World.cell?_of_block (f.block _ ha (World.block_lt_of_cell? _ _ h))).trans h
theorem LIn.exch {w1 w2:World} {n0 a b m n R i:Nat} {rv tv:Value} {K K':KV} {F':List Nat} {M:MV} {p:MPtr} {refs:List Nat} {tabs:List TV} {l:Int} (ph:Ph1 n R K M i) (hk:K.Ok)
  (hc:((l<0\/(K.vars:Int)-2<l)/\K'=K)\/(¬ (l<0\/(K.vars:Int)-2<l)/\K'=K.exchK l.toNat)) (h:LIn w1 n0 a b m rv tv K' F' M p refs tabs) (e:ModE m p (F'++p.all m) (M.exch l) w1 w2) :
  ∃ p',LIn w2 n0 a b m rv tv K' F' (M.exch l) p' refs tabs/\Ph1 n R K' (M.exch l) (i+1)/\Fro n0 w1 w2:=by
 obtain ⟨p',h1,h2⟩:=h.model e;obtain ⟨e1,e2,e3⟩:=ph.step hk l;refine ⟨p',h1,?_,h2⟩
 rcases hc with ⟨hb,rfl⟩ | ⟨hb,rfl⟩
 ·rw [e2 hb];exact ph.mono (by omega)
 ·exact e3 hb
end Go.Proofs.YtpfafhmkbcahhaaGreat
