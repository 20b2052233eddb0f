import Derived.Test.YtdackeldhdchaaaGreatPQ232
set_option maxRecDepth 100000
set_option maxHeartbeats 12800000
namespace Go.Proofs.YtdackeldhdchaaaGreat
open Go.RowKit Go.Maps Go.ChangeMaps Go.WideShapes
theorem aCR (n room:Int) (ta la:Option Addr) (tn tc ln lc:Nat) (Ts:List amX) (Ls:List Int) (l:Int) (va:Option Addr) (vn vc:Nat) (Vs:List Int) (w:World) (h:aCP w ta la tn tc ln lc Ts Ls) (hV:ar5 w .i64 va vn vc Vs) :
  Calls Tryz.prog 6 #[.agg #[.int .i64 n,.int .i64 room,.slice ta tn tc,.slice la ln lc],.int .i64 l,.slice va vn vc] w fun e w'=>e=.returned (.bool true)/\Upd [] w w':=by
 have HS:=Lib.hid h;have hlm:ln<=maxLen:=Nat.le_trans h.ls.nc h.ls.cm
 have HFT:Hid (∀ z,Upd [] w z->Calls Tryz.prog 12 #[.agg #[.int .i64 n,.int .i64 room,.slice ta tn tc,.slice la ln lc]] z fun e w'=>aQk n room tn ln Ts z e w'):=fun z u=>aK9 n room ta la tn tc ln lc Ts z (h.ts.keep0 u) hlm
 have hb0:=heap_alloc_new w (.cells #[.int .i64 n,.int .i64 room,.slice ta tn tc,.slice la ln lc] 25 (0,0));have hu0:Upd [] w (w.alloc (.cells #[.int .i64 n,.int .i64 room,.slice ta tn tc,.slice la ln lc] 25 (0,0))):=(Upd.refl _ _).alloc _;obtain ⟨w0,hw0⟩ : ∃ w0,w.alloc (.cells #[.int .i64 n,.int .i64 room,.slice ta tn tc,.slice la ln lc] 25 (0,0))=w0:=⟨_,rfl⟩;rw [hw0] at hb0 hu0;have HW0:=Lib.hid hw0;have HU0:=Lib.hid hu0
 have HC:Hid (∀ z,Upd [] w0 z->z.cell? ⟨w.heap.size,0,none⟩=some (.int .i64 n)/\z.cell? ⟨w.heap.size,1,none⟩=some (.int .i64 room)/\z.cell? ⟨w.heap.size,2,none⟩=some (.slice ta tn tc)/\z.cell? ⟨w.heap.size,3,none⟩=some (.slice la ln lc)):=fun z u=>⟨u.cell0 (aac hb0 rfl),u.cell0 (aac hb0 rfl),u.cell0 (aac hb0 rfl),u.cell0 (aac hb0 rfl)⟩
 have HV:=Lib.hid hV;clear h hlm hb0 hu0 hw0 hV
 go_enter Tryz.func6,Tryz.ntmps6
 go_wp2_with fail;rw [HW0.out];refine (aCQ w0).mono ?_;rintro e wa ⟨rfl,hu⟩;have HUA:=Lib.hid hu;clear hu;go_wp2_with fail;refine (aIi l wa).mono ?_;rintro e wb ⟨rfl,hu⟩;have HUB:=Lib.hid (HUA.out.trans hu);clear hu;go_wp2_with fail;refine (aLb l wb).mono ?_;rintro e wc ⟨rfl,hu⟩;have HUC:Hid (Upd [] w0 (wc.alloc (.cells #[.int .i64 0,.int .i64 0,.int .i64 0] 46 (0,0)))):=(HUB.out.trans hu).alloc _;obtain ⟨wd,hwd⟩ : ∃ wd,wc.alloc (.cells #[.int .i64 0,.int .i64 0,.int .i64 0] 46 (0,0))=wd:=⟨_,rfl⟩;rw [hwd] at HUC;have HWD:=Lib.hid hwd;clear hu hwd;go_upto_region 5 with fail;rw [HWD.out];go_wp2_with fail;refine (aIj l wd).mono ?_;rintro e we ⟨rfl,rfl⟩;go_wp2_with fail;refine (aIk (.slice va vn vc) we).mono ?_;rintro e wf ⟨rfl,rfl⟩;obtain ⟨x0,x1,x2,x3⟩:=HC.out wf HUC.out;go_wp2_with fail;refine (HFT.out wf (HU0.out.trans HUC.out)).mono ?_;rintro e w2 hE;obtain ⟨B,rfl,hu,hB⟩:=hE.ex;have HB:=Lib.hid hB;have HU2:=Lib.hid (HUC.out.trans hu);obtain ⟨x0,x1,x2,x3⟩:=HC.out w2 HU2.out;clear hE hu hB
 cases B with
 | false =>
  go_wp2_with fail;go_ret;exact ⟨rfl,HU0.out.trans HU2.out⟩
 | true =>
  by_cases hv100:100<vn
  ·have hd:decide ((100:Int)<(vn:Int))=true:=by simp;omega
   have hd2:(100:Int)<(vn:Int):=by omega
   have hd3:decide (100<vn)=true:=by simpa using hv100
   go_wp2_with fail;go_ret;exact ⟨rfl,HU0.out.trans HU2.out⟩
  ·have hd:decide ((100:Int)<(vn:Int))=false:=by simp;omega
   have hd2:¬ ((100:Int)<(vn:Int)):=by omega
   have hd3:decide (100<vn)=false:=by simpa using hv100
   have hf:=HB.out rfl;obtain ⟨N,hN⟩ : ∃ N:Nat,n=(N:Int):=⟨n.toNat,by have:=hf.n1;omega⟩;obtain ⟨R,hR⟩ : ∃ R:Nat,room=(R:Int):=⟨room.toNat,by have:=hf.room;omega⟩;subst hN hR
   have hn8:1<=N/\N<=8:=by have:=hf.n1;omega
   have hr8:2<=R/\R<=1048576:=by have:=hf.room;omega
   have HBG:=Lib.hid (ay6 N R (.slice ta tn tc) (Ts.map amX.tv) la ln lc Ls w2 hn8 hr8 (aq8.of_scene (HS.out.ts.keep0 (HU0.out.trans HU2.out)) hf.ok) (by rw [List.length_map,HS.out.ts.len];exact hf.tn) (fun t ht=>by
    obtain ⟨r,hr,rfl⟩:=List.mem_map.1 ht;obtain ⟨h1,h2⟩:=hf.ok r hr
    exact ⟨h2,by show r.n.toNat=N;omega⟩) (HS.out.ls.row.keep0 (HU0.out.trans HU2.out)) hf.ln)
   obtain ⟨hN1,hN8⟩:=hn8;clear hf hr8;go_wp2_with fail;refine HBG.out.mono ?_;rintro e w3 hE;obtain ⟨a,b,m,rv,tv,K,F,p,refs,rfl,hP,hL,hPC,hvr,_,htl,hu⟩:=hE.ex;generalize (aqQ N R (Ts.map amX.tv)).1.exchs Ls=M at *;generalize (aqQ N R (Ts.map amX.tv)).2=tabs at *
   have hls:Ls.length<=200:=by have h1:=HS.out.ls.row.len;have h2:=(HB.out (by simp)).ln;omega
   have HP:=Lib.hid (And.intro hP (And.intro hL (And.intro hPC (And.intro hvr (Nat.le_trans htl hls)))));have HU3:=Lib.hid (HU0.out.trans (HU2.out.trans hu));have HN0:Hid (w2.heap.size+1<=w3.heap.size/\w.heap.size<=w2.heap.size):=⟨hP.bl,(HU0.out.trans HU2.out).size⟩;clear hE hP hL hPC hvr htl hls hu x0 x1 x2 x3 HBG HFT hd hd2 hd3;obtain ⟨ti,hi0,hi1,hi2,hi3⟩:=info_parts Tryz.infoIntM;have HI:=Lib.hid (And.intro hi0 (And.intro hi1 (And.intro hi2 hi3)))
   have HVR:Hid (∀ z,Upd [] w3 z->alg z .i64 va vn Vs):=fun z u=>HV.out.row.keep0 (HU3.out.trans u)
   have HCV:Hid (∀ u,u∈ahU Vs->u.oneCell'=true):=fun u hu=>by
    unfold ahU at hu
    obtain ⟨x,_,rfl⟩:=List.mem_map.1 hu;rfl
   have HCZ:Hid (∀ u,u∈[Value.int .i64 61,Value.int .i64 62]->u.oneCell'=true):=by intro u hu;simp at hu;rcases hu with rfl | rfl <;> rfl
   have HN:=Lib.hid ((HVR.out _ (Upd.refl _ _)).noneI);have HNW:=Lib.hid ((HVR.out _ ((Upd.refl [] w3).alloc (.cells #[] 3 (0,0)))).newsI);have HVL:Hid (Vs.length=vn):=HV.out.row.len
   have HLF:Hid ((ahU Vs).length=vn*1):=by show _=_;simp [ahU,HVL.out]
   have HO1:Hid ((w3.alloc (.cells #[] 3 (0,0))).ownsRow 0 3 1 (.slice (some ⟨w3.heap.size,0,none⟩) 0 0) 0 []):=⟨rfl,.inr ⟨w3.heap.size,0,#[],rfl,Nat.zero_le _,heap_alloc_new _ _,Nat.le_refl _,by unfold maxLen;omega,rfl,rfl⟩⟩;clear hi0 hi1 hi2 hi3
   go_wp2_with (at_builtin;go_must (refine agu rfl (.tmp 89) (.tmp 90) 23 rfl 0 3 ti _ 1 8 Tryz.underlying23 HI.out.1 HI.out.2.1 HI.out.2.2.1 HI.out.2.2.2 (by rfl) (by decide) (.slice (some ⟨w3.heap.size,0,none⟩) 0 0) 0 [] rfl HO1.out va vn vc (ahU Vs) rfl HN.out HLF.out HNW.out HCV.out (by unfold maxLen;omega) (by omega) (Nat.zero_le _) ?_))
   intro v1 w4 ab3 hgr hat
   have hu4:Upd [] w3 w4:=((Upd.refl [] w3).alloc (.cells #[] 3 (0,0))).grown hgr fun k hk=>.inr (by simp [Value.ownBlock] at hk;omega)
   have hb4:∀ k,v1.ownBlock=some k->w3.heap.size<=k:=fun k hk=>by rcases hat with h | h <;> rw [h] at hk <;> simp [Value.ownBlock] at hk <;> omega
   have ab3:w4.ownsRow 0 3 1 v1 vn (ahU Vs):=by simpa using ab3
   have HO2:=Lib.hid (And.intro ab3 (And.intro hu4 hb4));clear ab3 hgr hat hu4 hb4
   go_wp2_with (at_builtin;go_must (refine wpList_append_lies _ rfl (.tmp 91) (.tmp 92) 23 rfl 0 3 ti _ 1 8 Tryz.underlying23 HI.out.1 HI.out.2.1 HI.out.2.2.1 HI.out.2.2.2 (by rfl) (by decide) v1 vn (ahU Vs) rfl (aaX HO2.out.1 fun k hk=>((Upd.refl [] w4).alloc _).block k (HO2.out.1.lt k hk).2 (by simp)) ⟨w4.heap.size,0,none⟩ 2 2 [.int .i64 61,.int .i64 62] rfl rfl ?c1 HCZ.out (by omega) (by unfold maxLen;omega) (by omega) (Nat.zero_le _) _ rfl ?_))
   try case c1=>exact World.news_of_block (heap_alloc_new w4 (.cells #[.int .i64 61,.int .i64 62] 3 (0,0)))
   intro g gc w5 ab3 hgr hat ajb
   have hu5:Upd [] w3 w5:=(HO2.out.2.1.alloc (.cells #[.int .i64 61,.int .i64 62] 3 (0,0))).grown hgr fun k hk=>.inr (HO2.out.2.2 k hk)
   have hg3:w3.heap.size<=g:=by
    rcases hat with h | h
    ·exact HO2.out.2.2 g h
    ·have:=HO2.out.2.1.size
     have h:g=w4.heap.size+1:=by first | exact h | (rw [World.size_alloc] at h;exact h)
     omega
   have hfl:ahU Vs++[.int .i64 61,.int .i64 62]=ahU (Vs++[61,62]):=by simp [ahU]
   rw [hfl] at ab3
   have aXA:vn<=gc:=by
    obtain ⟨_,(⟨e1,_⟩ | ⟨g',c',cur,e1,_,_,hle,_⟩)⟩:=ab3
    ·simp at e1
    ·simp at e1;omega
   have hP5:=HP.out.1.keep0 hu5
   have HX5:Hid (auL 0 3 1 (.slice (some ⟨g,0,none⟩) (vn+2) gc) (vn+2) (ahU (Vs++[61,62])) F p m w5):=⟨ab3,fun k hk=>by
    have hk':g=k:=by simpa [Value.ownBlock] using hk
    subst hk'
    exact ⟨fun hm=>by have:=HP.out.1.mem.ker.lt _ hm;omega,fun hm=>by have:=HP.out.1.mem.z _ (List.mem_append.2 (.inr hm));omega,ajb⟩⟩
   have HP5:=Lib.hid hP5;have HU5:=Lib.hid (HU3.out.trans hu5);have HUS:=Lib.hid hu5;obtain ⟨a0,a1,_,_⟩:=hP5.cells
   have a0q:(vn:Int)<=(gc:Int):=by omega
   have a3A:(0:Int)<=(vn:Int):=by omega
   have HG3:=Lib.hid hg3;clear ab3 hgr hat ajb hu5 hfl hP5;have HRV:=Lib.hid (alg.of_own HX5.out.row HVL.out (by unfold maxLen;omega))
   have HPL:=Lib.hid (avV b (some ⟨g,0,none⟩) vn gc Vs K F M w5 HP5.out.mem.ker HP.out.2.1.km (by have:=HP.out.2.2.2.2;omega) HRV.out (by omega) (fun x hx hm=>by
    injection hx with hx
    subst hx
    exact (HX5.out.out g rfl).nf hm))
   clear hg3 aXA;go_wp2_with fail;refine HPL.out.mono ?_;rintro e w6 hE;obtain ⟨av,K6,F6,rfl,hra,hna,hK6,hm6,hs6,ht6⟩:=hE.ex;obtain ⟨hP6,hF6⟩:=HP5.out.kernel hK6 ht6.up ht6.sub
   have hXa:auL 0 46 3 av (M.playV Vs).1.length (adF (M.playV Vs).1) F6 p m w6:=⟨aet hra (Nat.zero_le _),fun k hk=>⟨hna k hk,fun hm=>by
    have h1:=HP5.out.mem.z _ (List.mem_append.2 (.inr hm));have h2:=(hra.lt k hk).1;omega,(hra.lt k hk).2⟩⟩
   have HP6:=Lib.hid (And.intro hP6 (And.intro hF6 (And.intro hm6 (And.intro hs6 (And.intro hXa (HX5.out.ker ht6))))))
   have HU6:Hid (∀ z,Upd [] w6 z->Upd [] w z):=fun z u=>(HU5.out.then ht6.up fun k hk=>.inr (by have h1:=HP5.out.lo k (.inl hk);have h2:=HN0.out;omega)).trans u
   have hE1:=MV.playV_trail Vs M
   have HA5:Hid (∀ k,av.ownBlock=some k->w3.heap.size<=k):=fun k hk=>Nat.le_trans HUS.out.size (hra.lt k hk).1
   obtain ⟨aa,ac,rfl,_⟩:=abI hra;obtain ⟨_,c1,_,_⟩:=hP6.cells
   have HDP:=Lib.hid (auJ m va vn vc Vs M p _ w6 hP6.mem.mod hP6.mem.z HP.out.2.1.km.fit (HP.out.2.1.km.len HP.out.1.mem.ker.ok) (by have:=HP.out.2.2.2.2;omega) (HV.out.row.keep0 (HU6.out w6 (Upd.refl _ _))) (by omega) (fun hp x hx hm=>by
    have h1:=hP6.lo _ (.inr (.inl hm));obtain ⟨y,hy,hc⟩:=HV.out.row.at_ 0 hp;rw [hx] at hy
    injection hy with hy
    subst hy;have h3:=World.block_lt_of_cell? _ _ hc;rw [aod] at h3;have h4:=HN0.out
    omega))
   clear hE hra hna hK6 hm6 hs6 ht6 hP6 hF6 hXa HPL a0 a1;generalize (M.playV Vs).2.1=ecode1 at *;go_wp2_with fail;refine HDP.out.mono ?_;rintro e w7 hE;obtain ⟨wv,rfl,hrw,hmE⟩:=hE.ex;obtain ⟨p7,hP7,hF7,hu7,aQq⟩:=HP6.out.1.model2 hmE;obtain ⟨hl7,hc7⟩:=HP.out.2.1.stay HP.out.2.2.1 hP7.mem.ker.ok HP6.out.2.2.2.1 HP6.out.2.2.1
   have hXw:auL 0 129 3 wv (M.playV Vs).1.length (adF (M.playV Vs).1) F6 p7 m w7:=⟨aet hrw (Nat.zero_le _),fun k hk=>⟨fun hm=>by
    have h1:=HP6.out.1.mem.ker.lt _ hm;have h2:=(hrw.lt k hk).1;omega,by
    obtain ⟨c1',f1',e1'⟩:=acE hrw hk
    exact hP7.mem.mod.not_ty e1' (by decide) (by decide) (by decide),(hrw.lt k hk).2⟩⟩
   obtain ⟨wa',wc',hwv,_⟩:=abI hrw;subst hwv;have HP7:=Lib.hid (And.intro hP7 (And.intro hF7 (And.intro hl7 (And.intro hc7 (And.intro hXw (And.intro (HP6.out.2.2.2.2.1.mod hu7 aQq) (HP6.out.2.2.2.2.2.mod hu7 aQq)))))))
   have HU7:Hid (Upd [] w w7):=(HU6.out w6 (Upd.refl _ _)).then hu7 fun k hk=>.inr (by have h1:=HP6.out.1.lo k (.inr (.inl hk));have h2:=HN0.out;omega)
   generalize aKt:(M.playV Vs).1=cs1 at *;generalize hM1:(M.playV Vs).2.2=M1 at *;have HM1:=Lib.hid (And.intro aKt (And.intro hM1 hE1));clear hE hrw hmE hP7 hF7 hu7 aQq hl7 hc7 hXw HDP c1 aKt hM1 hE1;go_wp2_with fail
   go_loopg [118] vn (fun gg s118 wr=>∃ i:Nat,vn-i=gg/\i<=vn/\s118=.int .i64 i/\Upd [] w7 wr)
   case atStart=>exact ⟨0,by omega,by omega,rfl,Upd.refl _ _⟩
   case round =>
    obtain ⟨i,rfl,hi,rfl,hU⟩:=hrel;have HU:=Lib.hid hU;clear hU
    by_cases hlt:i<vn
    ·have hil:(i:Int)<(vn:Int):=by omega
     have a3E:(i:Int)<((vn+2:Nat):Int):=by omega
     obtain ⟨y,hy,hc⟩:=(HV.out.row.keep0 (HU7.out.trans HU.out)).at_ i hlt;subst hy
     have hc2:wr.cell? ⟨g,i,none⟩=some (.int .i64 (Vs.getD i 0)):=abf (HP7.out.2.2.2.2.2.2.keep0 HU.out).row (by
      rw [ahU,List.getElem?_map,List.getElem?_append_left (by rw [HVL.out];exact hlt),List.getElem?_eq_getElem (by rw [HVL.out];exact hlt),List.getD_eq_getElem?_getD,List.getElem?_eq_getElem (by rw [HVL.out];exact hlt)];rfl)
     generalize Vs.getD i 0=vx at *
     have hne:(vx != vx)=false:=by simp
     go_wp2_with fail
     go_roundg (vn-(i+1))
     case measure=>omega
     case rel=>exact ⟨i+1,rfl,by omega,by simp,HU.out⟩
    ·obtain rfl:i=vn:=by omega
     have hil:¬ ((i:Int)<(i:Int)):=by omega
     generalize wr=w8 at *;have HP8:=Lib.hid (HP7.out.1.keep0 HU.out);obtain ⟨a0,a1,_,_⟩:=HP8.out.cells;have HF8:=Lib.hid ((HP7.out.2.2.2.2.2.2).keep0 HU.out)
     have a3F:M1.trail.length<=1000:=by have h1:=HM1.out.2.2.1;have h2:=HP.out.2.2.2.2;have h3:=HVL.out;omega
     have HRV:=Lib.hid (alg.of_own HF8.out.row HVL.out (by unfold maxLen;omega))
     have HPL:=Lib.hid (avV b (some ⟨g,0,none⟩) i gc Vs K6 F6 M1 w8 HP8.out.mem.ker HP7.out.2.2.1.km (by omega) HRV.out (by omega) (fun x hx hm=>by
      injection hx with hx
      subst hx
      exact (HF8.out.out g rfl).nf hm))
     go_wp2_with fail;refine HPL.out.mono ?_;rintro e w9 hE;obtain ⟨bv,K9,F9,rfl,hra,hna,hK9,hm9,hs9,ht9⟩:=hE.ex;obtain ⟨hP9,hF9⟩:=HP8.out.kernel hK9 ht9.up ht9.sub
     have hXb:auL 0 46 3 bv (M1.playV Vs).1.length (adF (M1.playV Vs).1) F9 p7 m w9:=⟨aet hra (Nat.zero_le _),fun k hk=>⟨hna k hk,fun hm=>by
      have h1:=HP8.out.mem.z _ (List.mem_append.2 (.inr hm));have h2:=(hra.lt k hk).1;omega,(hra.lt k hk).2⟩⟩
     have HP9:=Lib.hid (And.intro hP9 (And.intro hm9 (And.intro hs9 (And.intro hXb (And.intro (HF8.out.ker ht9) (And.intro ((HP7.out.2.2.2.2.1.keep0 HU.out).ker ht9) ((HP7.out.2.2.2.2.2.1.keep0 HU.out).ker ht9)))))))
     have HU9:Hid (Upd [] w w9):=(HU7.out.trans HU.out).then ht9.up fun k hk=>.inr (by have h1:=HP8.out.lo k (.inl hk);have h2:=HN0.out;omega)
     have hE1:=MV.playV_trail Vs M1
     have HB8:Hid (∀ k,bv.ownBlock=some k->w8.heap.size<=k):=fun k hk=>(hra.lt k hk).1
     have HA8:Hid (∀ k,(Value.slice aa cs1.length ac).ownBlock=some k->k<w8.heap.size):=fun k hk=>((HP7.out.2.2.2.2.2.1.keep0 HU.out).row.lt k hk).2
     have aXE:Hid (w3.heap.size<=w8.heap.size):=by have h1:=HP7.out.1.bl;have h2:=(HU7.out.trans HU.out).size;have h3:=HUS.out.size;have h4:=HP6.out.2.1;exact Nat.le_trans HUS.out.size (Nat.le_trans (Nat.le_trans HP6.out.2.1.size HP7.out.2.1.size) HU.out.size)
     obtain ⟨ba,bc,rfl,_⟩:=abI hra;obtain ⟨_,c1,_,_⟩:=hP9.cells
     have HDP:=Lib.hid (auJ m va i vc Vs M1 p7 _ w9 hP9.mem.mod hP9.mem.z HP7.out.2.2.1.km.fit (HP7.out.2.2.1.km.len HP7.out.1.mem.ker.ok) (by omega) (HV.out.row.keep0 HU9.out) (by omega) (fun hp x hx hm=>by
      have h1:=hP9.lo _ (.inr (.inl hm));obtain ⟨y,hy,hc⟩:=HV.out.row.at_ 0 hp;rw [hx] at hy
      injection hy with hy
      subst hy;have h3:=World.block_lt_of_cell? _ _ hc;rw [aod] at h3;have h4:=HN0.out
      omega))
     clear hE hra hna hK9 hm9 hs9 ht9 hP9 hF9 hXb HPL a0 a1;generalize (M1.playV Vs).2.1=ecode2 at *;go_wp2_with fail;refine HDP.out.mono ?_;rintro e w10 hE;obtain ⟨mv,rfl,hrw,hmE⟩:=hE.ex;obtain ⟨p10,aNl,aXF,aBY,aBT⟩:=HP9.out.1.model2 hmE;obtain ⟨aTA,aTB⟩:=HP7.out.2.2.1.stay HP7.out.2.2.2.1 aNl.mem.ker.ok HP9.out.2.2.1 HP9.out.2.1
     have hXm:auL 0 129 3 mv (M1.playV Vs).1.length (adF (M1.playV Vs).1) F9 p10 m w10:=⟨aet hrw (Nat.zero_le _),fun k hk=>⟨fun hm=>by
      have h1:=HP9.out.1.mem.ker.lt _ hm;have h2:=(hrw.lt k hk).1;omega,by
      obtain ⟨c1',f1',e1'⟩:=acE hrw hk
      exact aNl.mem.mod.not_ty e1' (by decide) (by decide) (by decide),(hrw.lt k hk).2⟩⟩
     have aXG:=Lib.hid aTB;have hrb:=HP9.out.2.2.2.1.mod aBY aBT
     have aQs:∀ k,(Value.slice aa cs1.length ac).ownBlock=some k->k<w9.heap.size:=fun k hk=>(HP9.out.2.2.2.2.2.2.row.lt k hk).2
     obtain ⟨ma,mc,hmv,_⟩:=abI hrw;subst hmv;have azf:=Lib.hid (And.intro aNl (And.intro aTA (And.intro hXm (And.intro (HP9.out.2.2.2.1.mod aBY aBT) (And.intro (HP9.out.2.2.2.2.1.mod aBY aBT) (And.intro (HP9.out.2.2.2.2.2.1.mod aBY aBT) (HP9.out.2.2.2.2.2.2.mod aBY aBT)))))))
     have aXH:Hid (Upd [] w w10):=HU9.out.then aBY fun k hk=>.inr (by have h1:=HP9.out.1.lo k (.inr (.inl hk));have h2:=HN0.out;omega)
     generalize aM5:(M1.playV Vs).1=cs2 at *;generalize hM2:(M1.playV Vs).2.2=M2 at *;have HM2:=Lib.hid hE1;clear hE hrw hmE aNl aXF aBY aBT aTA aTB hXm HDP c1 aM5 hM2 hrb aQs hE1;go_wp2_with fail
     have hl1:cs1.length<=1000:=by have h1:=HM1.out.2.2.2;have h2:=HVL.out;omega
     have hl2:cs2.length<=1000:=by have h1:=HM2.out.2;have h2:=HVL.out;omega
     have aTC:=Lib.hid (apB 0 0 _ _ cs1 w10 azf.out.2.2.2.2.2.2.row azf.out.2.2.2.2.2.1.row hl1);refine aTC.out.mono ?_;rintro e w11 ⟨rfl,hu⟩;have aXI:=Lib.hid hu;have aTD:=Lib.hid (apB 0 0 _ _ cs2 w11 (azf.out.2.2.2.1.keep0 hu).row (azf.out.2.2.1.keep0 hu).row hl2);clear hu aTC;go_wp2_with fail;refine aTD.out.mono ?_;rintro e w12 ⟨rfl,hu⟩;have aGg:=Lib.hid (aXI.out.trans hu);clear hu aTD;have hrf:=(azf.out.2.2.2.2.1.keep0 aGg.out).row
     have hlv:(ahU Vs).length=i:=by simp [ahU,HVL.out]
     have k0:w12.cell? ⟨g,i,none⟩=some (.int .i64 61):=abf hrf (by
      rw [show ahU (Vs++[61,62])=ahU Vs++[.int .i64 61,.int .i64 62] by simp [ahU],List.getElem?_append_right (by omega),hlv];simp)
     have k1:w12.cell? ⟨g,i+1,none⟩=some (.int .i64 62):=abf hrf (by
      rw [show ahU (Vs++[61,62])=ahU Vs++[.int .i64 61,.int .i64 62] by simp [ahU],List.getElem?_append_right (by omega),hlv];simp)
     have hq0:(i:Int)<((i+2:Nat):Int):=by omega
     obtain ⟨i1,hi1⟩ : ∃ i1,i+1=i1:=⟨_,rfl⟩
     have hq1:(i1:Int)<((i+2:Nat):Int):=by omega
     have hq2:i1<i+2:=by omega
     have hw1:IntKind.i64.wrap ((i:Int)+1)=(i1:Int):=by rw [IntWalk.i64_in _ (by omega)];omega
     have aXK:wrap64 ((i:Int)+1)=(i1:Int):=by rw [IntWalk.wrap64_in _ (by omega)];omega
     rw [hi1] at k1;clear hrf hlv hi1;go_wp2_with fail;have am2:=Lib.hid (And.intro (azf.out.2.2.2.2.1.keep0 aGg.out) (And.intro (azf.out.2.2.2.2.2.2.keep0 aGg.out) (And.intro (azf.out.2.2.2.1.keep0 aGg.out) (azf.out.2.2.1.keep0 aGg.out))));have HPI:=Lib.hid (azf.out.1.keep0 aGg.out);have HUW:=Lib.hid (aXH.out.trans aGg.out);clear k0 k1 hq0 hq1 hq2 hw1 aXK;generalize w12=wz at *
     go_loopg [177] i (fun gg s177 wr=>∃ (j:Nat) (xs:List Value),i-j=gg/\j<=i/\s177=.int .i64 j/\wr.ownsRow 0 3 1 (.slice (some ⟨g,0,none⟩) (i+2) gc) (i+2) xs/\Upd [g] wz wr)
     case atStart=>exact ⟨0,_,by omega,by omega,rfl,am2.out.1.row,Upd.refl _ _⟩
     case round =>
      obtain ⟨j,xs,rfl,hj,rfl,hR,hU⟩:=hrel
      by_cases hjt:j<i
      ·have hjl:(j:Int)<(i:Int):=by omega
       obtain ⟨x,hx⟩ : ∃ x,xs[j]?=some x:=by
        have:=hR.1;exact ⟨_,List.getElem?_eq_getElem (by omega)⟩
       have cx:=abf hR hx;have fx:=aci hR j;have HR:=Lib.hid (And.intro hR hU);clear hR hU hx;go_wp2_with fail
       go_roundg (i-(j+1))
       case measure=>omega
       case rel=>exact ⟨j+1,_,rfl,by omega,by simp,ae1 HR.out.1 (j:=j) (by omega) _,HR.out.2.setCell (p:=⟨g,j,none⟩) (.inl (by simp)) _⟩
      ·obtain rfl:j=i:=by omega
       have hjl:¬ ((j:Int)<(j:Int)):=by omega
       have HUg:=Lib.hid hU;clear hR hU;obtain ⟨n1,hn1⟩ : ∃ n1,cs1.length=n1:=⟨_,rfl⟩
       have HRA:Hid (wr.ownsRow 0 46 3 (.slice aa n1 ac) n1 (adF cs1)):=by
        rw [<- hn1]
        refine aaX am2.out.2.1.row fun k hk=>HUg.out.block k (am2.out.2.1.row.lt k hk).2 fun hm=>?_
        simp at hm
        subst hm;exact asA am2.out.2.1.row am2.out.1.row (by decide) hk rfl
       have HN1:=Lib.hid hn1;rw [hn1] at hl1
       have HA1:Hid (∀ k,(Value.slice aa n1 ac).ownBlock=some k->k<w8.heap.size/\w3.heap.size<=k/\k∉F9/\k∉p10.all m):=fun k hk=>by
        rw [<- hn1] at hk;have h1:=am2.out.2.1.out k hk;exact ⟨HA8.out k hk,HA5.out k hk,h1.nf,h1.np⟩
       go_wp2_with fail;generalize wr=wg at *
       go_loopg [186] n1 (fun gg s186 wr=>∃ (j3:Nat) (xs:List Value),n1-j3=gg/\j3<=n1/\s186=.int .i64 j3/\wr.ownsRow 0 46 3 (.slice aa n1 ac) n1 xs/\Upd (Value.slice aa n1 ac).ownBlock.toList wg wr)
       case atStart=>exact ⟨0,_,by omega,by omega,rfl,HRA.out,Upd.refl _ _⟩
       case round =>
        obtain ⟨j3,xs,rfl,hj3,rfl,hR,hU⟩:=hrel
        by_cases hjt3:j3<n1
        ·have aXM:(j3:Int)<(n1:Int):=by omega
         obtain ⟨ga,rfl⟩:=aeP hR (by omega)
         obtain ⟨x,hx⟩ : ∃ x,xs[j3*3]?=some x:=by
          have:=hR.1;exact ⟨_,List.getElem?_eq_getElem (by omega)⟩
         have cx:=abf hR hx;have fx:=aci hR (j3*3);have HR:=Lib.hid (And.intro hR hU);clear hR hU hx;go_wp2_with fail
         go_roundg (n1-(j3+1))
         case measure=>omega
         case rel=>exact ⟨j3+1,_,rfl,by omega,by first | rfl | simp,ae1 HR.out.1 (j:=j3*3) (by omega) _,HR.out.2.setCell (p:=⟨ga,j3*3,none⟩) (.inl (by simp [Value.ownBlock])) _⟩
        ·obtain rfl:j3=n1:=by omega
         have aXM:¬ ((j3:Int)<(j3:Int)):=by omega
         have HRB:=Lib.hid (And.intro hR hU);obtain ⟨tc',hc0,hc1,hc2,hc3⟩:=info_parts Tryz.infoChangeS;have HIC:=Lib.hid (And.intro hc0 (And.intro hc1 (And.intro hc2 hc3)))
         have HC7:Hid (∀ u,u∈[Value.int .i64 7,Value.int .i64 0,Value.int .i64 0]->u.oneCell'=true):=by intro u hu;simp at hu;rcases hu with rfl | rfl <;> rfl
         have HC8:Hid (∀ u,u∈[Value.int .i64 8,Value.int .i64 0,Value.int .i64 0]->u.oneCell'=true):=by intro u hu;simp at hu;rcases hu with rfl | rfl <;> rfl
         clear hR hU hc0 hc1 hc2 hc3
         go_wp2_with (at_builtin;go_must (refine wpList_append_lies _ rfl (.tmp 194) (.tmp 196) 59 rfl 0 46 tc' _ 3 24 Tryz.underlying59 HIC.out.1 HIC.out.2.1 HIC.out.2.2.1 HIC.out.2.2.2 (by rfl) (by decide) (.slice aa j3 ac) j3 xs rfl (HRB.out.1.alloc _) ⟨wr.heap.size,0,none⟩ 1 1 [.int .i64 7,.int .i64 0,.int .i64 0] rfl rfl ?c1 HC7.out (by omega) (by unfold maxLen;omega) (by omega) (Nat.zero_le _) _ rfl ?_))
         try case c1=>exact World.news_of_block (heap_alloc_new wr (.cells #[.int .i64 7,.int .i64 0,.int .i64 0] 46 (0,0)))
         intro g7 aXN w15 aEd aQt aTF aTG
         have aTH:Upd (Value.slice aa j3 ac).ownBlock.toList wr w15:=Upd.grown ((Upd.refl _ wr).alloc _) aQt (fun k hk=>.inl (by simp [hk]))
         have aQu:∀ k,k∈g::(Value.slice aa j3 ac).ownBlock.toList->k=g\/(Value.slice aa j3 ac).ownBlock=some k:=fun k hk=>by
          rcases List.mem_cons.1 hk with h | h
          ·exact .inl h
          ·exact .inr (by simpa using h)
         have huz:Upd (g::(Value.slice aa j3 ac).ownBlock.toList) wz w15:=((HUg.out.mono (fun k hk=>by simp at hk;subst hk;simp)).trans (HRB.out.2.mono (fun k hk=>List.mem_cons_of_mem _ hk))).trans (aTH.mono (fun k hk=>List.mem_cons_of_mem _ hk));obtain ⟨n2,hn2⟩ : ∃ n2,cs2.length=n2:=⟨_,rfl⟩;have HN2:=Lib.hid hn2
         have hbn:∀ k,(Value.slice ba cs2.length bc).ownBlock=some k->k∉g::(Value.slice aa j3 ac).ownBlock.toList:=fun k hk hm=>by
          rcases aQu k hm with rfl | h
          ·exact asA am2.out.2.2.1.row am2.out.1.row (by decide) hk rfl
          ·have h1:=HA1.out k h;have h2:=HB8.out k hk;omega
         have aOD:w15.ownsRow 0 46 3 (.slice ba n2 bc) n2 (adF cs2):=by
          rw [<- hn2]
          exact aaX am2.out.2.2.1.row fun k hk=>huz.block k (am2.out.2.2.1.row.lt k hk).2 (hbn k hk)
         have aOE:w15.ownsRow 0 129 3 (.slice ma n2 mc) n2 (adF cs2):=by
          rw [<- hn2]
          exact aaX am2.out.2.2.2.row fun k hk=>huz.block k (am2.out.2.2.2.row.lt k hk).2 fun hm=>by
           rcases aQu k hm with rfl | h
           ·exact asA am2.out.2.2.2.row am2.out.1.row (by decide) hk rfl
           ·rw [<- HN1.out] at h
            exact asA am2.out.2.2.2.row am2.out.2.1.row (by decide) hk h
         have H15:=Lib.hid (And.intro aEd (And.intro huz (And.intro aTF (And.intro aTG (And.intro aOD aOE)))));rw [hn2] at hl2
         have HSB:Hid (wr.heap.size<w15.heap.size):=by have:=aQt.size;rw [World.size_alloc] at this;exact this
         clear aEd aQt aTF aTG aTH huz hbn aOD aOE hn2 aQu
         go_wp2_with (at_builtin;go_must (refine wpList_append_lies _ rfl (.tmp 198) (.tmp 200) 59 rfl 0 46 tc' _ 3 24 Tryz.underlying59 HIC.out.1 HIC.out.2.1 HIC.out.2.2.1 HIC.out.2.2.2 (by rfl) (by decide) (.slice ba n2 bc) n2 (adF cs2) (by rw [<- HN2.out];rfl) (H15.out.2.2.2.2.1.alloc _) ⟨w15.heap.size,0,none⟩ 1 1 [.int .i64 8,.int .i64 0,.int .i64 0] rfl rfl ?c2 HC8.out (by omega) (by unfold maxLen;omega) (by omega) (Nat.zero_le _) _ rfl ?_))
         try case c2=>exact World.news_of_block (heap_alloc_new w15 (.cells #[.int .i64 8,.int .i64 0,.int .i64 0] 46 (0,0)))
         intro g8 aNn w16 aLd aTI aXO aXP
         have aNo:Upd (Value.slice ba n2 bc).ownBlock.toList w15 w16:=Upd.grown ((Upd.refl _ w15).alloc _) aTI (fun k hk=>.inl (by simp [hk]))
         have aTJ:(Value.slice ba n2 bc).ownBlock≠some g7:=fun hk=>by
          have h0:=HB8.out g7 (by rw [HN2.out];exact hk);have h1:=(H15.out.2.2.2.2.1.lt g7 hk).2
          rcases H15.out.2.2.1 with h | h
          ·have h2:=HA1.out g7 h;omega
          ·have h3:g7=wr.heap.size+1:=by first | exact h | (rw [World.size_alloc] at h;exact h)
           have h4:=(am2.out.2.2.1.row.lt g7 (by rw [HN2.out];exact hk)).2;have h5:=HUg.out.size;have h6:=HRB.out.2.size;omega
         have aOG:w16.ownsRow 0 46 3 (.slice (some ⟨g7,0,none⟩) (j3+1) aXN) (j3+1) (xs++[.int .i64 7,.int .i64 0,.int .i64 0]):=aaX H15.out.1 fun k hk=>aNo.block k (H15.out.1.lt k hk).2 fun hm=>by
          have hk':g7=k:=by simpa [Value.ownBlock] using hk
          subst hk';exact aTJ (by simpa using hm)
         have aGY:w16.ownsRow 0 129 3 (.slice ma n2 mc) n2 (adF cs2):=aaX H15.out.2.2.2.2.2 fun k hk=>aNo.block k (H15.out.2.2.2.2.2.lt k hk).2 fun hm=>asA H15.out.2.2.2.2.2 H15.out.2.2.2.2.1 (by decide) hk (by simpa using hm)
         have hxl:xs.length=j3*3:=HRB.out.1.1;have c7:w16.cell? ⟨g7,j3*3,none⟩=some (.int .i64 7):=abf aOG (by rw [List.getElem?_append_right (by omega),hxl];simp);have aTK:(adF cs2).length=n2*3:=H15.out.2.2.2.2.1.1;have aNp:=aGf aLd aTK
         have a0F:n2<=aNn:=by
          obtain ⟨_,(⟨e1,_⟩ | ⟨g',c',cur,e1,_,_,hle,_⟩)⟩:=aLd
          ·simp at e1
          ·simp at e1;omega
         have aOH:Hid (Upd (g::((Value.slice aa j3 ac).ownBlock.toList++(Value.slice ba n2 bc).ownBlock.toList)) wz w16):=(H15.out.2.1.mono (fun k hk=>by
          rcases List.mem_cons.1 hk with h | h
          ·exact List.mem_cons.2 (.inl h)
          ·exact List.mem_cons.2 (.inr (List.mem_append.2 (.inl h))))).trans (aNo.mono (fun k hk=>List.mem_cons.2 (.inr (List.mem_append.2 (.inr hk)))))
         have HRX:=Lib.hid (And.intro aNp aGY);have aLe:cs2.length=n2:=HN2.out
         have aXQ:Hid (∀ z,Upd [] w16 z->Calls Tryz.prog 24 #[.slice (some ⟨g8,0,none⟩) n2 aNn,.slice ma n2 mc] z fun e w'=>e=.returned (.bool true)/\Upd [] z w'):=fun z u=>by
          have h1:=aaX aNp fun k hk=>u.block k (aNp.lt k hk).2 (by simp)
          have h2:=aaX aGY fun k hk=>u.block k (aGY.lt k hk).2 (by simp)
          have h3:=apB 0 0 (.slice (some ⟨g8,0,none⟩) n2 aNn) (.slice ma n2 mc) cs2 z (by rw [aLe];exact h1) (by rw [aLe];exact h2) (by omega);exact h3
         have aGZ:∀ k,k∈g::((Value.slice aa j3 ac).ownBlock.toList++(Value.slice ba n2 bc).ownBlock.toList)->w3.heap.size<=k/\Out k F9 p10 m wz/\∃ cs e fr,wz.heap[k]?=some (.cells cs e fr)/\90≠e/\44≠e/\77≠e/\121≠e:=fun k hk=>by
          rcases List.mem_cons.1 hk with rfl | hk
          ·obtain ⟨c1',f1',e1'⟩:=acE am2.out.1.row rfl
           exact ⟨HG3.out,am2.out.1.out _ rfl,c1',_,f1',e1',by decide,by decide,by decide,by decide⟩
          ·rcases List.mem_append.1 hk with hk | hk
           ·have hk':(Value.slice aa j3 ac).ownBlock=some k:=by simpa using hk
            have hk2:(Value.slice aa cs1.length ac).ownBlock=some k:=by rw [HN1.out];exact hk'
            obtain ⟨c1',f1',e1'⟩:=acE am2.out.2.1.row hk2;exact ⟨(HA1.out k hk').2.1,am2.out.2.1.out _ hk2,c1',_,f1',e1',by decide,by decide,by decide,by decide⟩
           ·have hk':(Value.slice ba n2 bc).ownBlock=some k:=by simpa using hk
            have hk2:(Value.slice ba cs2.length bc).ownBlock=some k:=by rw [HN2.out];exact hk'
            obtain ⟨c1',f1',e1'⟩:=acE am2.out.2.2.1.row hk2;exact ⟨Nat.le_trans aXE.out (HB8.out k hk2),am2.out.2.2.1.out _ hk2,c1',_,f1',e1',by decide,by decide,by decide,by decide⟩
         have aXR:Hid (∀ k,k∈g::((Value.slice aa j3 ac).ownBlock.toList++(Value.slice ba n2 bc).ownBlock.toList)->w.heap.size<=k):=fun k hk=>Nat.le_trans HU3.out.size (aGZ k hk).1
         have HPF:Hid (PS w16 (w2.heap.size+1) a b m N rv tv M2 refs tabs):=by
          have hty:∀ {k:Nat} {e e':TypeId},(∃ cs fr,wz.heap[k]?=some (.cells cs e fr))->(∃ cs fr,wz.heap[k]?=some (.cells cs e' fr))->e=e':=fun {k e e'} h1 h2=>by
           obtain ⟨c1',f1',e1'⟩:=h1;obtain ⟨c2',f2',e2'⟩:=h2;rw [e1'] at e2'
           injection e2' with e2'
           injection e2' with _ e2' _
          obtain ⟨ys,hys⟩:=HPI.out.mem.tt.row;refine ⟨K9,F9,p10,HPI.out.foreign aOH.out (fun k hk=>?_) (fun k hk=>?_),azf.out.2.1,aXG.out,HP9.out.2.2.1.vr.trans (HP6.out.2.2.2.1.vr.trans HP.out.2.2.2.1)⟩
          ·obtain ⟨_,ho,c1',e',f1',e1',t1,t2,t3,t4⟩:=aGZ k hk
           refine ⟨ho.nf,ho.np,fun e=>?_,fun e=>?_,fun e=>?_,c1',e',f1',e1',t1⟩
           ·subst e
            exact t2 (hty ⟨_,_,HPI.out.blk⟩ ⟨_,_,e1'⟩)
           ·exact t3 (hty (acE HPI.out.mem.rr e) ⟨_,_,e1'⟩)
           ·exact t4 (hty (acE hys e) ⟨_,_,e1'⟩)
          ·have h1:=(aGZ k hk).1
           have h2:=HP.out.1.mem.ker.lt b HP.out.1.mem.ker.bF;omega
         clear aGZ aLd aTI aXO aXP aNo aTJ aOG aGY hxl aTK aNp aLe HRX H15 HRB HIC HC7 HC8 HRA HUg;generalize hq3:j3+1=q3 at *;generalize hq4:n2+1=q4 at *
         have hwa:IntKind.i64.wrap ((q3:Int)-1)=(j3:Int):=by rw [IntWalk.i64_in _ (by omega)];omega
         have a3J:wrap64 ((q3:Int)-1)=(j3:Int):=by rw [IntWalk.wrap64_in _ (by omega)];omega
         have hwb:IntKind.i64.wrap ((q4:Int)-1)=(n2:Int):=by rw [IntWalk.i64_in _ (by omega)];omega
         have a3K:wrap64 ((q4:Int)-1)=(n2:Int):=by rw [IntWalk.wrap64_in _ (by omega)];omega
         have hq1:(j3:Int)<(q3:Int):=by omega
         have a3L:j3<q3:=by omega
         have hq2:(n2:Int)<=(aNn:Int):=by omega
         have a3M:(0:Int)<=(j3:Int):=by omega
         have a3N:(0:Int)<=(n2:Int):=by omega
         have a3O:=Lib.hid (And.intro hq3 hq4);clear hq3 hq4;go_upto_region 40 with fail;rw [HN2.out];go_wp2_with fail;refine (aXQ.out w16 (Upd.refl _ _)).mono ?_;rintro e w17 ⟨rfl,hu⟩;have aTM:=Lib.hid hu;clear hu;go_wp2_with fail;refine ((HPF.out.keep0 aTM.out).stands).mono ?_;rintro e w18 ⟨rfl,hu⟩;have aXT:=Lib.hid (aTM.out.trans hu);clear hu;go_wp2_with fail;go_ret;exact ⟨rfl,(HUW.out.then aOH.out (fun k hk=>.inr (aXR.out k hk))).trans aXT.out⟩
end Go.Proofs.YtdackeldhdchaaaGreat
