import Derived.Test.YtfkopmhpppeheaaGreatPY29
import Derived.Test.YtfkopmhpppeheaaGreatPY27
set_option maxRecDepth 100000
set_option maxHeartbeats 6400000
namespace Go.Proofs.YtfkopmhpppeheaaGreat
open Go.RowKit Go.Maps Go.ChangeMaps Go.WideShapes
theorem RowC.u64 {w:World} {a:Option Addr} {n c:Nat} {zs:List Int} (h:RowC w .u64 a n c zs):∀ z,z∈zs->U64 z:=fun z hz=>by
 have:=wf_u64 (h.wf z hz);exact this
theorem RowOf.none {w:World} {k:IntKind} {a:Option Addr} {n:Nat} {zs:List Int} (h:RowOf w k a n zs):a=none->n=0:=fun e=>by
 by_cases hn:n=0
 ·exact hn
 ·obtain ⟨x,hx,_⟩:=h.at_ 0 (by omega)
  rw [e] at hx;cases hx
theorem RowOf.news {w:World} {a:Option Addr} {n:Nat} {zs:List Int} (h:RowOf w .u64 a n zs):∀ ad,a=some ad->∀ j u,(flatU zs)[j]?=some u->w.cell? (ad.add j)=some u:=fun ad had j u hj=>by
 have hjl:=(List.getElem?_eq_some_iff.1 hj).1
 have hjn:j<n:=by simpa [flatU,h.len] using hjl
 obtain ⟨x,hx,hc⟩:=h.at_ j hjn
 rw [had] at hx;cases hx
 rw [hc]
 simp only [flatU,List.getElem?_map] at hj
 rw [List.getD_eq_getElem?_getD]
 cases e:zs[j]? with
 | none=>rw [e] at hj;cases hj
 | some z=>rw [e] at hj;simpa using hj
theorem flatU_snoc0 (l:List Int):flatU l++[Value.int .u64 0]=flatU (l++[0]):=by simp [flatU]
theorem countAsks_walk (n room:Int) (la wa va:Option Addr) (ln lc wn wk vn vc:Nat) (Ls Ws Vs:List Int) (w:World) (hL:RowOf w .i64 la ln Ls) (hW:RowOf w .u64 wa wn Ws) (hU:∀ x,x∈Ws->U64 x) (hV:RowC w .u64 va vn vc Vs) (hvn:vn<=1048576) :
  Calls Tryz.prog 11 #[.agg #[.int .i64 n,.int .i64 room,.slice la ln lc,.slice wa wn wk],.slice va vn vc] w fun e w'=>e=.returned (.bool true)/\Upd [] w w':=by
 have HLD:Hid (∀ x:World,Upd [] w x->Calls Tryz.prog 37 #[.agg #[.int .i64 n,.int .i64 room,.slice la ln lc,.slice wa wn wk]] x fun e w'=>LaidX n room ln Ws x e w'):=fun x u =>
  laid_specX n room la wa ln lc wn wk Ls Ws x (hL.keep0 u) (hW.keep0 u) hU
 have HU0:=Lib.hid ((Upd.refl [] w).alloc (.cells #[.int .i64 n,.int .i64 room,.slice la ln lc,.slice wa wn wk] 95 (0,0)));have HV:=Lib.hid hV;obtain rfl:Vs.length=vn:=hV.row.len;have HVN:=Lib.hid hvn;clear hL hW hU hV hvn
 go_enter Tryz.func11,Tryz.ntmps11
 go_wp2_with fail;refine (HLD.out _ HU0.out).mono ?_;rintro e w1 hE;obtain ⟨b,m,_,_,K,F,M,p,refs,tabs,rfl,hm,hlg,hal,hlo,hu,hpl,hhd,hrl,hhl,hkt,hmt,hvr,hrf,hM⟩:=hE.ex;obtain ⟨xa,xc,rfl,_⟩:=row_nil_len hm.rr;obtain ⟨ya,yc,rfl,hya⟩:=hm.tt.form;have HYG:Hid (∃ g,ya=some ⟨g,0,none⟩):=hya (by obtain ⟨rest,hrest⟩:=hlg.t2;rw [hrest];simp);clear hya;have e0:worldV b m (.slice xa refs.length xc) (.slice ya tabs.length yc)=.agg #[.pointer (some ⟨b,0,none⟩),.pointer (some ⟨m,0,none⟩),.slice xa refs.length xc,.slice ya tabs.length yc]:=rfl;rw [e0];have hu2:Upd [] w1 (w1.alloc (.cells #[.pointer (some ⟨b,0,none⟩),.pointer (some ⟨m,0,none⟩),.slice xa refs.length xc,.slice ya tabs.length yc] 97 (0,0))):=(Upd.refl _ _).alloc _;have hwz:=HU0.out.size;have hsz1:=hu.size
 have hLI:LIn (w1.alloc (.cells #[.pointer (some ⟨b,0,none⟩),.pointer (some ⟨m,0,none⟩),.slice xa refs.length xc,.slice ya tabs.length yc] 97 (0,0))) w.heap.size w1.heap.size b m (.slice xa refs.length xc) (.slice ya tabs.length yc) K F M p refs tabs:=by
  refine ⟨heap_alloc_new _ _,hm.keep0 hu2,⟨fun hk=>by have:=hm.ker.lt _ hk;omega,fun hk=>by have:=hm.mod.lt _ hk;omega⟩,fun k hk=>?_,by rw [World.size_alloc];omega⟩
  rcases hk with h | h | h | h | h
  ·have:=hlo k (.inl h);omega
  ·have:=hlo k (.inr (.inl h));omega
  ·omega
  ·have:=hlo k (.inr (.inr (.inl h)));omega
  ·have:=hlo k (.inr (.inr (.inr h)));omega
 have HLI:=Lib.hid hLI;have HLG:=Lib.hid (And.intro hlg (And.intro hal (And.intro (KM.of hlg hkt hmt) (And.intro hmt (And.intro hkt hhl)))));have HUA:=Lib.hid ((HU0.out.trans hu).trans hu2);generalize hwA:w1.alloc (.cells #[.pointer (some ⟨b,0,none⟩),.pointer (some ⟨m,0,none⟩),.slice xa refs.length xc,.slice ya tabs.length yc] 97 (0,0))=wA at *;have HWA:=Lib.hid hwA;clear hE hm hlg hal hlo hu hpl hhd hhl hkt hmt hvr hrf hM e0 hu2 hwz hsz1 hwA HLD HU0 hLI;go_upto_region 2 with fail;rw [HWA.out];generalize w1.heap.size=a at *;go_wp2_with fail;refine (awake12_spec _).mono ?_;rintro e wB ⟨rfl,hu⟩;have HL:=Lib.hid (HLI.out.keep0 hu);have HUB:=Lib.hid (HUA.out.trans hu);clear hu HLI HUA;obtain ⟨N,hN⟩ : ∃ N,wB.heap.size=N:=⟨_,rfl⟩;obtain ⟨Z,hZ⟩ : ∃ Z,F++p.all m=Z:=⟨_,rfl⟩;have HNZ:=Lib.hid (And.intro hN hZ)
 have HZ:Hid (∀ k,k∈Z->k<N):=fun k hk=>by rw [<- HNZ.out.1];exact HL.out.mem.z k (by rw [HNZ.out.2];exact hk)
 have HSL:Hid (∀ (v:Int) (x:World),Upd [] wB x->Calls Tryz.prog 51 #[.agg #[.pointer (some ⟨b,0,none⟩),.pointer (some ⟨m,0,none⟩),.slice xa refs.length xc,.slice ya tabs.length yc],.int .i64 v] x fun e w'=>SlotQ Z M refs tabs x e w'):=fun v x u=>by
  rw [<- HNZ.out.2];exact slot_spec b m _ _ K F M p refs tabs v x (HL.out.mem.keep0 u) HLG.out.1
 clear hN hZ
 have HST:Hid (∀ z,Upd [] wB z->Calls Tryz.prog 53 #[.agg #[.pointer (some ⟨b,0,none⟩),.pointer (some ⟨m,0,none⟩),.slice xa refs.length xc,.slice ya tabs.length yc]] z fun e w'=>e=.returned (.bool true)/\Upd [] z w'):=fun z u =>
  stands_spec b m _ _ K F M p refs tabs z (WIn.of (HL.out.mem.keep0 u) HLG.out.1) (by rw [HLG.out.2.2.2.1,HLG.out.2.2.2.2.1]) (by rw [HLG.out.2.2.2.1];simp)
 have HX:Hid (∀ z,Upd [] wB z->z.cell? ⟨a,0,none⟩=some (.pointer (some ⟨b,0,none⟩))/\z.cell? ⟨a,1,none⟩=some (.pointer (some ⟨m,0,none⟩))/\z.cell? ⟨a,2,none⟩=some (.slice xa refs.length xc)/\z.cell? ⟨a,3,none⟩=some (.slice ya tabs.length yc)):=fun z u=>by
  obtain ⟨c0,c1,c2,c3⟩:=HL.out.cells;exact ⟨u.cell0 c0,u.cell0 c1,u.cell0 c2,u.cell0 c3⟩
 obtain ⟨T,q,hk0,_⟩:=HL.out.mem.ker
 have hn8:K.vars<=8:=by rw [<- HLG.out.1.agr.same.n];exact HLG.out.1.fit.n6
 have HONE:Hid (∀ (z:World) (j r:Nat) (t:TV) (sa:Option Addr) (sn sc:Nat) (X:Int),Upd [] wB z->refs[j]?=some r->tabs[j]?=some t->TIn z Z (.slice sa sn sc) t->M.isLive t=true->U64 X->Calls Tryz.prog 52 #[.agg #[.pointer (some ⟨b,0,none⟩),.pointer (some ⟨m,0,none⟩),.slice xa refs.length xc,.slice ya tabs.length yc],.int .u32 r,.agg #[.int .i64 t.n,.slice sa sn sc],.int .u64 X] z fun e w'=>e=.returned (.bool true)/\Upd [] z w'):=fun z j r t sa sn sc X u h1 h2 h3 h4 h5=>by
  rw [<- HNZ.out.2] at h3;exact ask_spec b m r xa ya sa _ xc _ yc sn sc X K T q M p (F++p.all m) t z (hk0.upd u (by simp)) (HL.out.mem.keep0 u).mod (HL.out.mem.keep0 u).z HLG.out.1.fit HLG.out.1.agr.same hn8 h3 h4 (HLG.out.1.ok t (List.mem_of_getElem? h2)).2 (HLG.out.1.nm j r t h1 h2 h4) h5
 have HRL:Hid (refs.length<=1000/\refs.length=tabs.length):=⟨HLG.out.1.rb,HLG.out.1.lr⟩;obtain ⟨ti,hi0,hi1,hi2,hi3⟩:=info_parts Tryz.infoU64;have HI:=Lib.hid (And.intro hi0 (And.intro hi1 (And.intro hi2 hi3)))
 have HVR:Hid (∀ z,Upd [] wB z->RowOf z .u64 va Vs.length Vs):=fun z u=>HV.out.row.keep0 (HUB.out.trans u)
 have HVU:Hid (∀ x,x∈Vs->U64 x):=HV.out.u64
 have HCV:Hid (∀ u,u∈flatU Vs->u.oneCell'=true):=fun u hu=>by
  unfold flatU at hu
  obtain ⟨x,_,rfl⟩:=List.mem_map.1 hu;rfl
 have HCZ:Hid (∀ u,u∈[Value.int .u64 0]->u.oneCell'=true):=by intro u hu;simp at hu;subst hu;rfl
 clear hi0 hi1 hi2 hi3 hk0 hn8;go_upto_region 4 with fail;have HN0:=Lib.hid (HVR.out _ (Upd.refl _ _)).none;have HNW:=Lib.hid ((HVR.out _ ((Upd.refl [] wB).alloc (.cells #[] 90 (0,0)))).news);have hvn:=HVN.out
 have HLF:Hid ((flatU Vs).length=Vs.length*1):=by show _=_;simp [flatU]
 have HO1:Hid ((wB.alloc (.cells #[] 90 (0,0))).ownsRow 0 90 1 (.slice (some ⟨wB.heap.size,0,none⟩) 0 0) 0 []):=⟨rfl,.inr ⟨wB.heap.size,0,#[],rfl,Nat.zero_le _,heap_alloc_new _ _,Nat.le_refl _,by unfold maxLen;omega,rfl,rfl⟩⟩
 go_wp2_with (at_builtin;go_must (refine wpList_append_src rfl (.tmp 24) (.tmp 25) 68 rfl 0 90 ti _ 1 8 Tryz.underlying68 HI.out.1 HI.out.2.1 HI.out.2.2.1 HI.out.2.2.2 (by rfl) (by decide) (.slice (some ⟨wB.heap.size,0,none⟩) 0 0) 0 [] rfl HO1.out va Vs.length vc (flatU Vs) rfl HN0.out HLF.out HNW.out HCV.out (by unfold maxLen;omega) (by omega) (Nat.zero_le _) ?_))
 intro v1 w1' hown hgr hat
 have hu1:Upd [] wB w1':=((Upd.refl [] wB).alloc (.cells #[] 90 (0,0))).grown hgr fun k hk=>.inr (by simp [Value.ownBlock] at hk;omega)
 have hb1:∀ k,v1.ownBlock=some k->wB.heap.size<=k:=fun k hk=>by rcases hat with h | h <;> rw [h] at hk <;> simp [Value.ownBlock] at hk <;> omega
 have HO2:=Lib.hid (And.intro hown (And.intro hu1 hb1));clear hown hgr hat hu1 hb1
 go_wp2_with (at_builtin;go_must (refine wpList_append_lies _ rfl (.tmp 26) (.tmp 27) 68 rfl 0 90 ti _ 1 8 Tryz.underlying68 HI.out.1 HI.out.2.1 HI.out.2.2.1 HI.out.2.2.2 (by rfl) (by decide) v1 Vs.length (flatU Vs) rfl (row_keep HO2.out.1 fun k hk=>((Upd.refl [] w1').alloc _).block k (HO2.out.1.lt k hk).2 (by simp)) ⟨w1'.heap.size,0,none⟩ 1 1 [.int .u64 0] rfl rfl ?c1 HCZ.out (by omega) (by unfold maxLen;omega) (by omega) (Nat.zero_le _) _ rfl ?_))
 try case c1=>exact World.news_of_block (heap_alloc_new w1' (.cells #[.int .u64 0] 90 (0,0)))
 intro g cc wc hown2 hgr2 hat2 hlt2
 have huC:Upd [] wB wc:=(HO2.out.2.1.alloc (.cells #[.int .u64 0] 90 (0,0))).grown hgr2 fun k hk=>.inr (HO2.out.2.2 k hk)
 have hrow:wc.ownsRow 0 90 1 (.slice (some ⟨g,0,none⟩) (Vs.length+1) cc) (Vs.length+1) (flatU (Vs++[0])):=by
  rw [flatU_snoc0] at hown2;exact hown2
 clear hown2 hgr2 hat2 hlt2;have HROW:=Lib.hid hrow;have HUC:=Lib.hid huC;clear hrow huC;have hnl:refs.length<=1000:=HRL.out.1;obtain ⟨c0,c1,c2,c3⟩:=HX.out _ HUC.out
 have HRW:Hid (∀ z,Upd [] wc z->∀ j x,(Vs++[0])[j]?=some x->z.cell? ⟨g,j,none⟩=some (.int .u64 x)):=fun z u j x hj=>by
  have hr:=row_keep HROW.out fun k hk=>u.block k (HROW.out.lt k hk).2 (by simp)
  exact row_cell hr (by simp only [flatU,List.getElem?_map,hj];rfl)
 have HUP:Hid (∀ x,x∈Vs++[0]->U64 x):=fun x hx=>by
  rcases List.mem_append.1 hx with h | h
  ·exact HVU.out x h
  ·simp at h;subst h;exact ⟨by omega,by omega⟩
 generalize hRL:refs.length=RL at *;generalize hVL:Vs.length=VL at *;have HVLL:=Lib.hid hVL;clear hRL hVL;go_wp2_with fail
 go_loopg [32] RL (fun gg s32 wr=>∃ i:Nat,RL-i=gg/\i<=RL/\s32=.int .i64 i/\Upd [] wc wr)
 case atStart=>exact ⟨0,by omega,by omega,rfl,Upd.refl _ _⟩
 case round =>
  obtain ⟨i,rfl,hi,rfl,hU⟩:=hrel
  by_cases hlt:i<RL
  ·have hil:(i:Int)<(RL:Int):=by omega
   obtain ⟨d0,d1,d2,d3⟩:=HX.out _ (HUC.out.trans hU);have HSV:=Lib.hid (HSL.out (i:Int) wr (HUC.out.trans hU));have HU:=Lib.hid hU;clear hU c0 c1 c2 c3;go_wp2_with fail;refine HSV.out.mono ?_;rintro e w2 hQ;obtain ⟨j,r,t,sa,sn,sc,rfl,hjr,hjt,hti,hu⟩:=hQ.ex;have htv:tabV t (.slice sa sn sc)=.agg #[.int .i64 t.n,.slice sa sn sc]:=rfl;rw [htv];have hbx:=heap_alloc_new w2 (.cells #[.int .i64 t.n,.slice sa sn sc] 122 (0,0));have hu3:Upd [] w2 (w2.alloc (.cells #[.int .i64 t.n,.slice sa sn sc] 122 (0,0))):=(Upd.refl _ _).alloc _;have HU3:=Lib.hid ((HU.out.trans hu).trans hu3);have hti3:=hti.keep0 hu3;obtain ⟨w3,hw3⟩ : ∃ w3,w2.alloc (.cells #[.int .i64 t.n,.slice sa sn sc] 122 (0,0))=w3:=⟨_,rfl⟩;rw [hw3] at hbx HU3 hti3;have HW3:=Lib.hid hw3
   by_cases hlv:M.isLive t=true
   ·rw [hlv]
    have HON:Hid (∀ z X,Upd [] w3 z->U64 X->Calls Tryz.prog 52 #[.agg #[.pointer (some ⟨b,0,none⟩),.pointer (some ⟨m,0,none⟩),.slice xa RL xc,.slice ya tabs.length yc],.int .u32 r,.agg #[.int .i64 t.n,.slice sa sn sc],.int .u64 X] z fun e w'=>e=.returned (.bool true)/\Upd [] z w'):=fun z X u h =>
     HONE.out z j r t sa sn sc X (HUC.out.trans (HU3.out.trans u)) hjr hjt (hti3.keep0 u) hlv h
    obtain ⟨tn,htn⟩ : ∃ tn,t.n=tn:=⟨_,rfl⟩;rw [htn] at hbx HW3 HON;rw [htn]
    have HBF:Hid (∀ z,Upd [] w3 z->z.cell? ⟨w2.heap.size,0,none⟩=some (.int .i64 tn)/\z.cell? ⟨w2.heap.size,1,none⟩=some (.slice sa sn sc)):=fun z u=>⟨u.cell0 (cell_at hbx rfl),u.cell0 (cell_at hbx rfl)⟩
    clear hQ hjr hjt hti hu htv hbx hu3 hw3 hti3 hlv htn d0 d1 d2 d3;go_upto_region 10 with fail;rw [HW3.out];generalize w2.heap.size=B at *;go_wp2_with fail
    go_loopg [46] (VL+1) (fun gg s46 wy=>∃ j:Nat,VL+1-j=gg/\j<=VL+1/\s46=.int .i64 j/\Upd [] w3 wy)
    case atStart=>exact ⟨0,by omega,by omega,rfl,Upd.refl _ _⟩
    case round =>
     obtain ⟨j,rfl,hj,rfl,hU⟩:=hrel
     by_cases hjl:j<VL+1
     ·have hjil:(j:Int)<(VL:Int)+1:=by omega
      obtain ⟨x,hx⟩ : ∃ x,(Vs++[0])[j]?=some x:=⟨_,List.getElem?_eq_getElem (by simp [HVLL.out];omega)⟩;have hc:=HRW.out _ (HU3.out.trans hU) j x hx;have hx64:=HUP.out x (List.mem_of_getElem? hx)
      by_cases h8:j<8
      ·have hj8:(j:Int)<8:=by omega
       obtain ⟨d0,d1,d2,d3⟩:=HX.out _ (HUC.out.trans (HU3.out.trans hU));obtain ⟨y0,y1⟩:=HBF.out _ hU;have HOO:=Lib.hid (HON.out _ x hU hx64);have HUY:=Lib.hid hU;clear hU hx hx64;go_wp2_with fail;refine HOO.out.mono ?_;rintro e wz ⟨rfl,hu⟩;have HUZ:=Lib.hid (HUY.out.trans hu);clear hu;go_wp2_with fail
       go_roundg (VL+1-(j+1))
       case measure=>omega
       case rel=>exact ⟨j+1,rfl,by omega,by simp,HUZ.out⟩
      ·have hj8:¬ (j:Int)<8:=by omega
       have HUY:=Lib.hid hU;clear hU hx hx64;go_wp2_with fail
       go_roundg (VL+1-(j+1))
       case measure=>omega
       case rel=>exact ⟨j+1,rfl,by omega,by simp,HUY.out⟩
     ·obtain rfl:j=VL+1:=by omega
      have hjil:¬ ((VL:Int)+1<(VL:Int)+1):=by omega
      have HUY:=Lib.hid hU;clear hU;go_wp2_with fail
      go_roundg (RL-(i+1))
      case measure=>omega
      case rel=>exact ⟨i+1,rfl,by omega,by simp,HU3.out.trans HUY.out⟩
   ·rw [Bool.not_eq_true] at hlv
    rw [hlv];generalize t.n=tn at *;clear hQ hjr hjt hti hu htv hbx hu3 hw3 hti3 hlv d0 d1 d2 d3;go_wp2_with fail;rw [HW3.out]
    go_roundg (RL-(i+1))
    case measure=>omega
    case rel=>exact ⟨i+1,rfl,by omega,by simp,HU3.out⟩
  ·obtain rfl:i=RL:=by omega
   have hil:¬ ((i:Int)<(i:Int)):=by omega
   obtain ⟨d0,d1,d2,d3⟩:=HX.out _ (HUC.out.trans hU);have HSD:=Lib.hid (HST.out _ (HUC.out.trans hU));have HU:=Lib.hid hU;clear hU c0 c1 c2 c3;go_wp2_with fail;refine HSD.out.mono ?_;rintro e w9 ⟨rfl,hu⟩;have HU9:=Lib.hid (HU.out.trans hu);clear hu;go_wp2_with fail;go_ret;exact ⟨rfl,HUB.out.trans (HUC.out.trans HU9.out)⟩
end Go.Proofs.YtfkopmhpppeheaaGreat
