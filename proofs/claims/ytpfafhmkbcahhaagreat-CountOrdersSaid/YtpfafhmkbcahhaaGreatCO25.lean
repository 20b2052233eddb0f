import Derived.Test.YtpfafhmkbcahhaaGreatCO24
set_option maxRecDepth 100000
set_option maxHeartbeats 6400000
namespace Go.Proofs.YtpfafhmkbcahhaaGreat
open Go.RowKit Go.Maps Go.ChangeMaps Go.WideShapes
def flatB (l:List Bool):List Value:=l.map fun b=>.bool b
theorem sup_same {K K':KV} {r:Nat} {s s':Int} {f:(Nat->Bool)->Bool} (hk:K.Ok) (hu:K.Uni) (ht:K.A.tk r=true) (hd:∀ y,K.den r y=f y) (hs:SupIs K r s) (hk':K'.Ok) (hu':K'.Uni) (ht':K'.A.tk r=true) (hd':∀ y,K'.den r y=f y) (hs':SupIs K' r s'):s'=s:=by
 obtain ⟨h1,h2⟩:=hs.bits hk hu ht;obtain ⟨h3,h4⟩:=hs'.bits hk' hu' ht'
 refine nb_ext h3 h1 fun i _=>?_
 have e:K.den r=K'.den r:=funext fun y=>(hd y).trans (hd' y).symm
 rw [Bool.eq_iff_iff,h4,h2,e]
theorem roots_size {K:KV} {N:List Nat} (hk:K.Ok) (h:WalkL K [] K.roots N):((N.length:Nat):Int)=(K.A.used:Int)-2:=by
 have a:=h.alls List.nodup_nil
 have hnd:N.Nodup:=by simpa using a.nd
 have hin:∀ x,K.Reach x->2<=x->x∈N:=fun x hx=>by
  induction hx with
  | root hh=>intro h2;simpa using a.has _ (KV.mem_roots.2 hh) h2
  | @lo q p hq hq2 hp _ ih =>
   intro h2
   rcases (a.kids q p (ih hq2) hp).1 with h | h
   ·omega
   ·simpa using h
  | @hi q p hq hq2 hp _ ih =>
   intro h2
   rcases (a.kids q p (ih hq2) hp).2 with h | h
   ·omega
   ·simpa using h
 have h1:N.length<=K.nodes.length:=List.Nodup.length_le_of_subset hnd fun x hx=>KV.mem_nodes.2 (a.two x hx)
 have h2:K.nodes.length<=N.length:=List.Nodup.length_le_of_subset K.nodes_nodup fun x hx=>by
  obtain ⟨g2,gt⟩:=KV.mem_nodes.1 hx;exact hin x (KV.live_reach hk.wf hk.pos hk.ord _ x g2 gt (Nat.le_refl _)) g2
 have:=hk.nodes_len;omega
theorem countOrders_walk (nI room iI:Int) (la sa pa va:Option Addr) (ln lc sn sc pn pc vn vc:Nat) (Ls Ps Vs:List Int) (Os:List OpV) (w:World) (hL:RowC w .i64 la ln lc Ls) (hS:OpsOf w sa sn sc Os) (hP:RowC w .u64 pa pn pc Ps) (hV:RowC w .i64 va vn vc Vs) :
  Calls Tryz.prog 12 #[.agg #[.int .i64 nI,.int .i64 room,.slice la ln lc,.slice sa sn sc,.slice pa pn pc],.int .i64 iI,.slice va vn vc] w fun e w'=>e=.returned (.bool true)/\Upd [] w w':=by
 have HPT:=Lib.hid hP;have HVT:=Lib.hid hV;have hpnc:=hP.nc;have hpcm:=hP.cm;have hvnc:=hV.nc;have hvcm:=hV.cm;have hlnc:=hL.nc;have hlcm:=hL.cm;have hsnc:=hS.nc;have hscm:=hS.cm;unfold maxLen at hpcm hvcm hlcm hscm;have hbx:=heap_alloc_new w (.cells #[.int .i64 nI,.int .i64 room,.slice la ln lc,.slice sa sn sc,.slice pa pn pc] 93 (0,0));have HU0:=Lib.hid ((Upd.refl [] w).alloc (.cells #[.int .i64 nI,.int .i64 room,.slice la ln lc,.slice sa sn sc,.slice pa pn pc] 93 (0,0)));have HLA:=Lib.hid (laid12_spec nI room la sa pa ln lc sn sc pn pc Ls Os _ (hL.keep0 HU0.out) (hS.keep0 HU0.out));obtain ⟨wA,hwA⟩ : ∃ wA,w.alloc (.cells #[.int .i64 nI,.int .i64 room,.slice la ln lc,.slice sa sn sc,.slice pa pn pc] 93 (0,0))=wA:=⟨_,rfl⟩;rw [hwA] at hbx HU0 HLA;have HBX:=Lib.hid hbx;have HWA:=Lib.hid hwA;have b4:=cell_at (j:=4) hbx rfl;have b0:=cell_at (j:=0) hbx rfl;have b1:=cell_at (j:=1) hbx rfl;have b2:=cell_at (j:=2) hbx rfl;have b3:=cell_at (j:=3) hbx rfl;clear hL hS hP hV hbx hwA
 go_enter Tryz.func12,Tryz.ntmps12
 go_upto_region 1 with fail;rw [HWA.out];go_wp2_with fail;refine HLA.out.mono ?_;rintro e w1 hE;obtain ⟨b,g,cap,L,rfl,hL2,hL18,hgg,hM,hR,hU⟩:=hE.ex;have hz0:=HU0.out.size;have h1:=Lib.hid (And.intro hM (And.intro hR hU));clear hE hM hR hU b0 b1 b2 b3 b4;go_wp2_with fail;refine (awake12_spec _).mono ?_;rintro e w2 ⟨rfl,hu⟩;have hM2:=h1.out.1.keep0 hu
 have hR2:=row_keep h1.out.2.1 fun k hk=>hu.block k (h1.out.2.1.lt k hk).2 (by simp)
 have HUA:=Lib.hid (h1.out.2.2.trans hu);have hb2:wA.cell? ⟨w.heap.size,4,none⟩=some (.slice pa pn pc):=cell_at (j:=4) HBX.out rfl;obtain ⟨nl,hnl⟩ : ∃ nl,L.length=nl:=⟨_,rfl⟩;obtain ⟨j1,hj1,hj1',hj1l⟩:=idx_at nl iI (by omega) (by omega);obtain ⟨⟨r,f⟩,hf1⟩ : ∃ p,L[j1]?=some p:=⟨_,List.getElem?_eq_getElem (by omega)⟩;have x1:=row_cell hR2 (flatRefs_get (i:=j1) (r:=r) (by rw [List.getElem?_map,hf1];rfl))
 have hl1:(j1:Int)<(nl:Int):=by omega
 have hl0:¬ ((nl:Int)=0):=by omega
 have hnl2:2<=nl:=by omega
 have hnl18:nl<=18:=by omega
 obtain ⟨K,F,hk,hX,hXl,hn,hSH,htl⟩:=hM2;obtain ⟨htk,hden⟩:=hSH.g.nm r f (List.mem_of_getElem? hf1);have HK:=Lib.hid (And.intro hX (And.intro hXl (And.intro hn (And.intro hSH (And.intro htl (And.intro htk (And.intro hden (List.mem_of_getElem? hf1))))))));have HNL:=Lib.hid hnl;obtain ⟨T,q,hk,hFq⟩:=hk;have HFQ:=Lib.hid hFq;have HKI:=Lib.hid hk
 have HSAE:Hid (u64m (satL K.order (K.den r))=u64m (satL (List.range (wideN nI)) f)):=by
  show _=_
  rw [satL_congr _ HK.out.2.2.2.2.2.2.1,HKI.out.ok.sat_range,HK.out.2.2.1]
 clear hu hR2 hnl hf1 hX hXl hn hSH htl htk hden hk hFq h1;rw [HNL.out];go_wp2_with fail;refine (support_spec b r K T q w2 HKI.out HK.out.2.2.2.2.2.1).mono ?_;rintro e w3 hQ;obtain ⟨N1,hN1,rfl,hk3,hu3⟩:=hQ.ex;obtain ⟨s1,hs1⟩ : ∃ s1,N1.foldl (fun s x=>supStep s (K.vof x)) 0=s1:=⟨_,rfl⟩;rw [hs1];have HS1:Hid (SupIs K r s1):=⟨N1,hN1,hs1.symm⟩;have HK3:=Lib.hid (And.intro hk3 hu3);clear hQ hN1 hs1 hk3 hu3 x1 hj1 hj1' hj1l hl1 hl0;go_wp2_with fail;refine (sats_spec b r K T q w3 HK3.out.1 HK.out.2.2.2.2.2.1).mono ?_;rintro e w4 hQ;obtain ⟨rfl,hk4,hu4⟩:=hQ;rw [HSAE.out];obtain ⟨c1,hc1⟩ : ∃ c1,u64m (satL (List.range (wideN nI)) f)=c1:=⟨_,rfl⟩;rw [hc1];have HC1:=Lib.hid hc1;have HU4:=Lib.hid (HUA.out.trans (HK3.out.2.trans hu4));have HU24:=Lib.hid (HK3.out.2.trans hu4);have HK4:=Lib.hid hk4;have b4:=HU4.out.cell0 hb2;obtain ⟨pm,hpm⟩ : ∃ pm,min pn 8=pm:=⟨_,rfl⟩;obtain ⟨vm,hvm⟩ : ∃ vm,min vn 40=vm:=⟨_,rfl⟩
 have hpm1:pm<=pn:=by omega
 have hpm2:pm<=8:=by omega
 have hvm1:vm<=vn:=by omega
 have hvm2:vm<=40:=by omega
 have hmin1:min (pn:Int) 8=(pm:Int):=by omega
 have hmin2:min (vn:Int) 40=(vm:Int):=by omega
 obtain ⟨tb,hr0,hr1,hr2,hr3⟩:=info_parts Tryz.infoBoolR;have HIB:=Lib.hid (And.intro hr0 (And.intro hr1 (And.intro hr2 hr3)));clear hc1 hk4 hu4 hpm hvm hb2 hr0 hr1 hr2 hr3;go_wp2_with fail
 go_loopg [14,75] pm (fun gg s14 s75 wr=>∃ (i:Nat) (ba:Option Addr) (bc:Nat),pm-i=gg/\i<=pm/\s14=.slice ba i bc/\s75=.int .i64 i/\wr.ownsRow w4.heap.size 4 1 (.slice ba i bc) i (flatB ((Ps.take i).map fun x=>f fun v=>nb x v))/\Upd [] w4 wr)
 case atStart=>exact ⟨0,none,0,by omega,by omega,rfl,rfl,World.ownsRow_nil _ _ _ _,Upd.refl _ _⟩
 case round =>
  obtain ⟨i,ba,bc,rfl,hi,rfl,rfl,hB,hU⟩:=hrel
  by_cases hlt:i<pm
  ·have hil:(i:Int)<(pm:Int):=by omega
   obtain ⟨x,hx,hc⟩:=HPT.out.row.at_ i (by omega);subst hx;have hcr:=((HU0.out.trans HU4.out).trans hU).cell0 hc;have hlen:=HPT.out.row.len
   have hpz:Ps[i]?=some (Ps.getD i 0):=by
    rw [List.getD_eq_getElem?_getD,List.getElem?_eq_getElem (by omega)];rfl
   have hx64:U64 (Ps.getD i 0):=wf_u64 (HPT.out.wf _ (List.mem_of_getElem? hpz))
   have HTK:Hid ((Ps.take (i+1)).map (fun x=>f fun v=>nb x v)=(Ps.take i).map (fun x=>f fun v=>nb x v)++[f fun v=>nb (Ps.getD i 0) v]):=by
    show _=_
    rw [List.take_add_one,hpz,List.map_append];rfl
   generalize Ps.getD i 0=z at *;have HEV:=Lib.hid (eval_spec b r z K T q wr (HK4.out.upd hU (by simp)) HK.out.2.2.2.2.2.1 hx64);rw [HK.out.2.2.2.2.2.2.1] at HEV;generalize (f fun v=>nb z v)=fz at *;have HB:=Lib.hid (And.intro hB hU);clear hB hU hc hlen hpz hx64 b4;go_wp2_with fail;refine HEV.out.mono ?_;rintro e w5 hQ;obtain ⟨rfl,_,hu5⟩:=hQ
   have HB5:Hid (w5.ownsRow w4.heap.size 4 1 (.slice ba i bc) i (flatB ((Ps.take i).map fun x=>f fun v=>nb x v))):=row_keep HB.out.1 fun k hk=>hu5.block k (HB.out.1.lt k hk).2 (by simp)
   have HU5:=Lib.hid (HB.out.2.trans hu5)
   have HCB:Hid (∀ u,u∈[Value.bool fz]->u.oneCell'=true):=by intro u hu;simp at hu;subst hu;rfl
   have hbs:w4.heap.size<=(w5.alloc (.cells #[.bool fz] 4 (0,0))).heap.size:=by rw [World.size_alloc];have:=HU5.out.size;omega
   clear hu5 hcr HEV
   go_wp2_with (at_builtin;go_must (refine wpList_append_lies _ rfl (.tmp 86) (.tmp 88) 99 rfl w4.heap.size 4 tb _ 1 1 Tryz.underlying99 HIB.out.1 HIB.out.2.1 HIB.out.2.2.1 HIB.out.2.2.2 (by rfl) (by decide) _ i (flatB ((Ps.take i).map fun x=>f fun v=>nb x v)) rfl (HB5.out.alloc _) ⟨w5.heap.size,0,none⟩ 1 1 [.bool fz] rfl rfl ?c1 HCB.out (by omega) (by unfold maxLen;omega) (by omega) hbs _ rfl ?_))
   try case c1=>exact World.news_of_block (heap_alloc_new w5 (.cells #[.bool fz] 4 (0,0)))
   intro g2 cap2 w6 hown hgr hat hlt6
   have hu6:Upd [] w4 w6:=(HU5.out.alloc (.cells #[.bool fz] 4 (0,0))).grown hgr fun k hk=>.inr (HB5.out.lt k hk).1
   have HREL:Hid (w6.ownsRow w4.heap.size 4 1 (.slice (some ⟨g2,0,none⟩) (i+1) cap2) (i+1) (flatB ((Ps.take (i+1)).map fun x=>f fun v=>nb x v))/\Upd [] w4 w6):=by
    refine ⟨?_,hu6⟩;rw [HTK.out];unfold flatB at hown ⊢;rw [<- List.map_take] at hown;rw [List.map_append];exact hown
   clear hown hgr hat hlt6 hu6 hbs;go_wp2_with fail
   go_roundg (pm-(i+1))
   case measure=>omega
   case rel=>exact ⟨i+1,some ⟨g2,0,none⟩,cap2,rfl,by omega,by simp,by simp,HREL.out.1,HREL.out.2⟩
  ·obtain rfl:i=pm:=by omega
   have hil:¬ ((i:Int)<(i:Int)):=by omega
   obtain ⟨w7,hw7⟩ : ∃ w7,wr=w7:=⟨_,rfl⟩;rw [hw7] at hB hU ⊢;clear hw7
   have hM7:SesM w7 b (fun k=>(k<wA.heap.size\/k=g)\/(Value.slice ba i bc).ownBlock=some k) (wideN nI) L (L.length-2) (40+0):=by
    have h0:SesM w4 b (fun k=>k<wA.heap.size\/k=g) (wideN nI) L (L.length-2) 40:=⟨K,F,⟨T,q,HK4.out,HFQ.out⟩,HK.out.1,fun k hk=>Nat.lt_of_lt_of_le (HK.out.2.1 k hk) HU24.out.size,HK.out.2.2.1,HK.out.2.2.2.1,HK.out.2.2.2.2.1⟩
    exact h0.then hU (by simp) fun k hk=>by
     have hz:=hU.size
     rcases hk with h | h
     ·refine ⟨.inl h,?_⟩
      have:=HK.out.2.1 k h;have:=HU24.out.size;omega
     ·exact ⟨.inr (hB.lt k h).1,(hB.lt k h).2⟩
   have HM7:=Lib.hid hM7;have HB7:=Lib.hid hB;have HU7:=Lib.hid ((HU0.out.trans HU4.out).trans hU);clear hM7 hB hU b4 hlt;go_wp2_with fail
   go_loopg [97] vm (fun gg s97 wx=>∃ j:Nat,vm-j=gg/\j<=vm/\s97=.int .i64 j/\SesM wx b (fun k=>(k<wA.heap.size\/k=g)\/(Value.slice ba i bc).ownBlock=some k) (wideN nI) L (L.length-2) (40+j)/\Prot (fun k=>(k<wA.heap.size\/k=g)\/(Value.slice ba i bc).ownBlock=some k) w7 wx)
   case atStart=>exact ⟨0,by omega,by omega,rfl,HM7.out,Prot.refl _ _⟩
   case round =>
    obtain ⟨j,rfl,hj,rfl,hM,hPr⟩:=hrel
    by_cases hlt2:j<vm
    ·have hjl:(j:Int)<(vm:Int):=by omega
     obtain ⟨x,hx,hc⟩:=HVT.out.row.at_ j (by omega);subst hx;have hcr:=hPr.cell (show _ from .inl (.inl (by have:=World.block_lt_of_cell? _ _ hc;omega))) (HU7.out.cell0 hc);generalize Vs.getD j 0=z at *;have HX:=Lib.hid (exch_sesM (l:=z) hM (by omega));have HP2:=Lib.hid hPr;clear hM hPr hc;go_wp2_with fail;refine HX.out.mono ?_;rintro e w8 hE;obtain ⟨code,rfl,hcode,hM,hPr⟩:=hE.ex;have H2:=Lib.hid (And.intro hM (HP2.out.trans hPr));clear hE hM hPr HX hcr
     rcases hcode with rfl | rfl | rfl
     all_goals
      go_wp2_with fail
      go_roundg (vm-(j+1))
      case measure=>omega
      case rel=>exact ⟨j+1,rfl,by omega,by simp,H2.out.1,H2.out.2⟩
    ·obtain rfl:j=vm:=by omega
     have hjl:¬ ((j:Int)<(j:Int)):=by omega
     obtain ⟨w9,hw9⟩ : ∃ w9,wr=w9:=⟨_,rfl⟩;rw [hw9] at hM hPr ⊢;clear hw9;obtain ⟨K2,F2,⟨T2,q2,hk2,hF2⟩,hX2,hXl2,hn2,hSH2,htl2⟩:=hM;obtain ⟨htk2,hden2⟩:=hSH2.g.nm r f HK.out.2.2.2.2.2.2.2;have HK2:=Lib.hid (And.intro hn2 (And.intro htk2 hden2));have HKI2:=Lib.hid hk2
     have hB9:=hPr.row HB7.out fun k hk=>.inr hk
     have hU9:Upd [] w w9:=Upd.prot HU7.out (hPr.weak (Y:=fun k=>k<w.heap.size) fun k hk=>.inl (.inl (show k<wA.heap.size by omega))) (Nat.le_refl _);have HB9:=Lib.hid (And.intro hB9 hU9)
     have HSAE2:Hid (u64m (satL K2.order (K2.den r))=u64m (satL (List.range (wideN nI)) f)):=by
      show _=_
      rw [satL_congr _ HK2.out.2.2,HKI2.out.ok.sat_range,HK2.out.1]
     clear hk2 hF2 hX2 hXl2 hn2 hSH2 htl2 htk2 hden2 hB9 hU9 hPr hlt2;go_wp2_with fail;refine (support_spec b r K2 T2 q2 w9 HKI2.out HK2.out.2.1).mono ?_;rintro e w10 hQ;obtain ⟨N2,hN2,rfl,hk10,hu10⟩:=hQ.ex;have hs2:N2.foldl (fun s x=>supStep s (K2.vof x)) 0=s1:=sup_same HKI.out.ok (HKI.out.ti.uni HKI.out.ok.wf) HK.out.2.2.2.2.2.1 HK.out.2.2.2.2.2.2.1 HS1.out HKI2.out.ok (HKI2.out.ti.uni HKI2.out.ok.wf) HK2.out.2.1 HK2.out.2.2 ⟨N2,hN2,rfl⟩;rw [hs2];have HK10:=Lib.hid (And.intro hk10 hu10);clear hQ hN2 hs2 hk10 hu10;go_wp2_with fail;refine (sats_spec b r K2 T2 q2 w10 HK10.out.1 HK2.out.2.1).mono ?_;rintro e w11 hQ;obtain ⟨rfl,hk11,hu11⟩:=hQ;rw [HSAE2.out,HC1.out];have hu9:=HK10.out.2.trans hu11;have HB11:Hid (w11.ownsRow w4.heap.size 4 1 (.slice ba i bc) i (flatB ((Ps.take i).map fun x=>f fun v=>nb x v))/\Upd [] w w11/\KerIn w11 b K2 T2 q2):=⟨row_keep HB9.out.1 fun k hk=>hu9.block k (HB9.out.1.lt k hk).2 (by simp),HB9.out.2.trans hu9,hk11⟩;clear hk11 hu11 hu9
     have hss:(s1 != s1)=false:=by simp
     have hcc:(c1 != c1)=false:=by simp
     go_wp2_with fail
     go_loopg [153] i (fun gg s153 wx=>∃ m:Nat,i-m=gg/\m<=i/\s153=.int .i64 m/\Upd [] w11 wx)
     case atStart=>exact ⟨0,by omega,by omega,rfl,Upd.refl _ _⟩
     case round =>
      obtain ⟨m,rfl,hm,rfl,hUm⟩:=hrel
      by_cases hlt3:m<i
      ·have hml:(m:Int)<(i:Int):=by omega
       obtain ⟨x,hx,hc⟩:=HPT.out.row.at_ m (by omega);subst hx;have hcr:=(HB11.out.2.1.trans hUm).cell0 hc;have hlen:=HPT.out.row.len
       have hpz:Ps[m]?=some (Ps.getD m 0):=by
        rw [List.getD_eq_getElem?_getD,List.getElem?_eq_getElem (by omega)];rfl
       have hx64:U64 (Ps.getD m 0):=wf_u64 (HPT.out.wf _ (List.mem_of_getElem? hpz));obtain ⟨gb,rfl⟩:=row_some HB11.out.1 (by omega)
       have hcb:w11.cell? ⟨gb,m,none⟩=some (.bool (f fun v=>nb (Ps.getD m 0) v)):=row_cell HB11.out.1 (by
        unfold flatB
        rw [List.getElem?_map,List.getElem?_map,List.getElem?_take_of_lt hlt3,hpz];rfl)
       generalize Ps.getD m 0=z at *;have HEV:=Lib.hid (eval_spec b r z K2 T2 q2 wr (HB11.out.2.2.upd hUm (by simp)) HK2.out.2.1 hx64);rw [HK2.out.2.2] at HEV;generalize (f fun v=>nb z v)=fz at *;have hcb0:=hUm.cell0 hcb;have HUM:=Lib.hid hUm;clear hUm hc hlen hpz hx64 hcb;go_wp2_with fail;refine HEV.out.mono ?_;rintro e w12 hQ;obtain ⟨rfl,_,hu12⟩:=hQ;have hcb2:=hu12.cell0 hcb0;have HUE:=Lib.hid (HUM.out.trans hu12)
       have hff:(fz != fz)=false:=by simp
       clear hu12 hcr HEV hcb0;go_wp2_with fail
       go_roundg (i-(m+1))
       case measure=>omega
       case rel=>exact ⟨m+1,rfl,by omega,by simp,HUE.out⟩
      ·obtain rfl:m=i:=by omega
       have hml:¬ ((m:Int)<(m:Int)):=by omega
       have HKE:=Lib.hid (HB11.out.2.2.upd hUm (by simp));have HUE:=Lib.hid (HB11.out.2.1.trans hUm);clear hUm hlt3;go_wp2_with fail;refine (roots_at b K2 _ _ ⟨T2,q2,HKE.out,rfl⟩).mono ?_;rintro e w13 ⟨rv,rfl,hrow,hu13⟩;obtain ⟨ra,rc,rfl,_⟩:=row_nil_len hrow
       have hrl:K2.roots.length<=1048576:=by
        have h1:K2.roots.length<=K2.holds.length:=by
         unfold KV.roots KV.rootsI;exact Nat.le_trans (List.length_filter_le _ _) (by simp)
        have h2:=HKE.out.ok.wf.len;have h3:=HKE.out.ok.wf.ul;have h4:=HKE.out.ok.wf.ok.lp;have h5:=HKE.out.ok.wf.ok.pm;omega
       have HSZ:=Lib.hid (size12_spec b _ K2.roots K2 T2 q2 w13 (HKE.out.upd hu13 (by simp)) (row_base hrow (Nat.zero_le _)) (fun x hx=>(HKE.out.ok.wf.ht x (KV.mem_roots.1 hx)).2) (by omega));have HU13:=Lib.hid (HUE.out.trans hu13);generalize K2.roots.length=rl at *;clear hrow hu13;go_wp2_with fail;refine HSZ.out.mono ?_;rintro e w14 hQ;obtain ⟨N,hN,rfl,hk14,hu14⟩:=hQ.ex;rw [roots_size hk14.ok hN];have HLV:=Lib.hid (live_at b K2 _ w14 ⟨T2,q2,hk14,rfl⟩);have HU14:=Lib.hid (HU13.out.trans hu14);have hus:=hk14.ok.wf.ok.us;have hup:=hk14.ok.wf.ok.lp;have hpp:=hk14.ok.wf.ok.pm;obtain ⟨ul,hul⟩ : ∃ ul,(K2.A.used:Int)-2=ul:=⟨_,rfl⟩;rw [hul] at HLV ⊢;clear hQ hN hk14 hu14 HSZ hul hus hup hpp;go_wp2_with fail;refine HLV.out.mono ?_;rintro e w15 ⟨rfl,rfl⟩
       have huu:(ul == ul)=true:=by simp
       go_wp2_with fail;go_ret;exact ⟨rfl,HU14.out⟩
end Go.Proofs.YtpfafhmkbcahhaaGreat
