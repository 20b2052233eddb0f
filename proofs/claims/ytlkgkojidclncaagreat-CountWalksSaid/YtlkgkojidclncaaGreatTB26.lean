import Derived.Test.YtlkgkojidclncaaGreatTB25
import Derived.Test.YtlkgkojidclncaaGreatTB24
import Derived.Test.YtlkgkojidclncaaGreatTB12
import Derived.Test.YtlkgkojidclncaaGreatTB14
import Derived.Test.YtlkgkojidclncaaGreatTB11
import Derived.Test.YtlkgkojidclncaaGreatTB13
import Derived.Test.YtlkgkojidclncaaGreatTB17
import Derived.Test.YtlkgkojidclncaaGreatTB16
import Derived.Deep.CutBlock
import Derived.Laws.ResultCell
import Derived.Laws.Rows
import Derived.Deep.DeepCutAuto
set_option maxRecDepth 100000
set_option maxHeartbeats 6400000
namespace Go.Proofs.YtlkgkojidclncaaGreat
open Go.RowKit Go.Maps Go.ChangeMaps Go.WideShapes
def wideN (n:Int):Nat:=((IntKind.u64.wrap n).tmod 64).toNat+1
theorem wideN_at (n:Int):∃ v:Nat,v=wideN n/\wrap64 (1+wrap64 ((IntKind.u64.wrap n).tmod 64))=(v:Int)/\1<=v/\v<=64:=by
 have h0:=(u64_wrap_nonneg n).1;have e:(IntKind.u64.wrap n).tmod 64=(IntKind.u64.wrap n) % 64:=Int.tmod_eq_emod_of_nonneg h0;refine ⟨_,rfl,?_,by unfold wideN;omega,by unfold wideN;rw [e];omega⟩;unfold wideN;have e1:wrap64 ((IntKind.u64.wrap n) % 64)=(IntKind.u64.wrap n) % 64:=IntWalk.wrap64_in _ (by omega);rw [e,e1,IntWalk.wrap64_in _ (by omega)];omega
theorem Upd.prot {w w1 w2:World} {n:Nat} (u:Upd [] w w1) (h:Prot (fun k=>k<n) w1 w2) (hn:w.heap.size<=n):Upd [] w w2 :=
 ⟨h.os.trans u.os,h.tape.trans u.tape,h.output.trans u.output,Nat.le_trans u.size h.size,fun k hk _=>(h.block k (show k<n by omega) (Nat.lt_of_lt_of_le hk u.size)).trans (u.block k hk (by simp))⟩
theorem idx_at (n:Nat) (i:Int) (h:0<n) (hn:n<=1000000):∃ j:Nat,wrap64 ((IntKind.u64.wrap i).tmod (n:Int))=j/\IntKind.i64.wrap ((IntKind.u64.wrap i).tmod (n:Int))=j/\j<n:=by
 have h0:=(u64_wrap_nonneg i).1;rw [Int.tmod_eq_emod_of_nonneg h0];have h1:0<=(IntKind.u64.wrap i) % (n:Int):=Int.emod_nonneg _ (by omega);have h2:(IntKind.u64.wrap i) % (n:Int)<n:=Int.emod_lt_of_pos _ (by omega);refine ⟨((IntKind.u64.wrap i) % (n:Int)).toNat,?_,?_,by omega⟩
 ·unfold wrap64;omega
 ·rw [IntWalk.i64_in _ (by omega)];omega
structure Laid12 (nI:Int) (w:World) (e:Ending) (w':World):Prop where
 ex:∃ (b g cap:Nat) (L:List (Nat × ((Nat->Bool)->Bool))),e=.returned (.tuple #[.pointer (some ⟨b,0,none⟩),.slice (some ⟨g,0,none⟩) L.length cap])/\2<=L.length/\L.length<=18/\w.heap.size<=g /\
  SesM w' b (fun k=>k<w.heap.size\/k=g) (wideN nI) L (L.length-2) 40/\w'.ownsRow w.heap.size 62 1 (.slice (some ⟨g,0,none⟩) L.length cap) L.length (flatRefs (L.map (·.1)))/\Upd [] w w'
structure CallQ (b:Nat) (X:Nat->Prop) (n:Nat) (L:List (Nat × ((Nat->Bool)->Bool))) (c:Nat) (r:Nat) (code:Int) (w w':World):Prop where
 cs:(code=0/\∃ t,SesM w' b X n (L++[(r,t)]) (c+1) 40)\/(code=9/\SesM w' b X n L c 40)
 pr:Prot X w w'
theorem SesMQ.call {b n c:Nat} {X:Nat->Prop} {L:List (Nat × ((Nat->Bool)->Bool))} {t:(Nat->Bool)->Bool} {w w':World} {e:Ending} (h:SesMQ b X n L c 40 t w e w'):∃ (r:Nat) (code:Int),e=.returned (.tuple #[.int .u32 r,.int .i64 code])/\CallQ b X n L c r code w w':=by
 obtain ⟨r,code,rfl,_,h1,h2⟩:=h.ex;refine ⟨r,code,rfl,?_,h2⟩
 rcases h1 with ⟨h1,h3⟩ | ⟨h1,_,h3⟩
 ·exact .inl ⟨h1,t,h3⟩
 ·exact .inr ⟨h1,h3⟩
theorem laid12_spec (nI room:Int) (la sa pa:Option Addr) (ln lc sn sc pn pc:Nat) (Ls:List Int) (Os:List OpV) (w:World) (hL:RowC w .i64 la ln lc Ls) (hS:OpsOf w sa sn sc Os) :
  Calls Tryz.prog 36 #[.agg #[.int .i64 nI,.int .i64 room,.slice la ln lc,.slice sa sn sc,.slice pa pn pc]] w fun e w'=>Laid12 nI w e w':=by
 obtain ⟨v,hv,hvw,hv1,hv64⟩:=wideN_at nI;have HV:=Lib.hid hv;have HVW:=Lib.hid hvw;have HL:=Lib.hid hL;have HS:=Lib.hid hS;have hnc:=hL.nc;have hcm:=hL.cm;have hsnc:=hS.nc;have hscm:=hS.cm;unfold maxLen at hcm hscm;have hbx:=heap_alloc_new w (.cells #[.int .i64 nI,.int .i64 room,.slice la ln lc,.slice sa sn sc,.slice pa pn pc] 55 (0,0));have HU0:=Lib.hid ((Upd.refl [] w).alloc (.cells #[.int .i64 nI,.int .i64 room,.slice la ln lc,.slice sa sn sc,.slice pa pn pc] 55 (0,0)));have HBX:=Lib.hid hbx;clear hv hvw hL hS hbx
 go_enter Tryz.func36,Tryz.ntmps36
 go_wp2_with fail;rw [HVW.out];refine (knew_spec v 4096 _ hv1 hv64 (by omega) (by omega)).mono ?_;rintro e w1 ⟨b,T,q,rfl,hk,hu,hs⟩;have HU1:=Lib.hid (HU0.out.trans hu);have hb1:=(hu.block _ (heap_lt HBX.out) (by simp)).trans HBX.out;have c2:=cell_at (j:=2) hb1 rfl;have c3:=cell_at (j:=3) hb1 rfl;have HBX1:=Lib.hid hb1
 have hM0:SesM w1 b (fun k=>k<w.heap.size+1) v [(0,fun _=>false),(1,fun _=>true)] 0 0 :=
  ⟨KV.new v 4096,q.all b,⟨T,q,hk,rfl⟩,fun k hm hx=>by
   rcases hs k hm with h | h
   ·simp at h
   ·rw [World.size_alloc] at h;omega,fun k hk=>by
   have:=hu.size
   rw [World.size_alloc] at this;omega,rfl,SesH.new hv1 hv64 (by omega) (by omega),by simp [KV.new],rfl⟩
 have HM0:=Lib.hid hM0;obtain ⟨lm,hlm⟩ : ∃ lm,min ln 40=lm:=⟨_,rfl⟩;obtain ⟨sm,hsm⟩ : ∃ sm,min sn 16=sm:=⟨_,rfl⟩
 have hlm1:lm<=ln:=by omega
 have hlm2:lm<=40:=by omega
 have hsm1:sm<=sn:=by omega
 have hsm2:sm<=16:=by omega
 have hmin1:min (ln:Int) 40=(lm:Int):=by omega
 have hmin2:min (sn:Int) 16=(sm:Int):=by omega
 clear hu hs hk hb1 hM0 hlm hsm;go_upto_region 5 with fail;go_wp2_with fail
 go_loopg [42] lm (fun gg s42 wr=>∃ i:Nat,lm-i=gg/\i<=lm/\s42=.int .i64 i/\SesM wr b (fun k=>k<w.heap.size+1) v [(0,fun _=>false),(1,fun _=>true)] 0 i/\Prot (fun k=>k<w.heap.size+1) w1 wr)
 case atStart=>exact ⟨0,by omega,by omega,rfl,HM0.out,Prot.refl _ _⟩
 case round =>
  obtain ⟨i,rfl,hi,rfl,hM,hP⟩:=hrel
  by_cases hlt:i<lm
  ·have hil:(i:Int)<(lm:Int):=by omega
   obtain ⟨x,hx,hc⟩:=HL.out.row.at_ i (by omega);subst hx;have hcr:=hP.cell (by have:=World.block_lt_of_cell? _ _ hc;show _<_;omega) (HU1.out.cell0 hc);generalize Ls.getD i 0=z at *;have HX:=Lib.hid (exch_sesM (l:=z) hM (by omega));have HP:=Lib.hid hP;clear hM hP hc c2 c3;go_wp2_with fail;refine HX.out.mono ?_;rintro e w2 hE;obtain ⟨code,rfl,_,hM,hP⟩:=hE.ex;have H2:=Lib.hid (And.intro hM (HP.out.trans hP));clear hE hM hP HX;go_wp2_with fail
   go_roundg (lm-(i+1))
   case measure=>omega
   case rel=>exact ⟨i+1,rfl,by omega,by simp,H2.out.1,H2.out.2⟩
  ·obtain rfl:i=lm:=by omega
   have hil:¬ ((i:Int)<(i:Int)):=by omega
   have hb2:wr.heap[w.heap.size]?=_:=(hP.block _ (show _<_ by omega) (heap_lt HBX1.out)).trans HBX1.out;have c3r:=((Upd.refl [] wr).alloc (.cells #[.int .u32 0,.int .u32 1] 62 (0,0))).cell0 (cell_at (j:=3) hb2 rfl)
   have hM2:SesM (wr.alloc (.cells #[.int .u32 0,.int .u32 1] 62 (0,0))) b (fun k=>k<w.heap.size+1\/k=wr.heap.size) v [(0,fun _=>false),(1,fun _=>true)] 0 40:=by
    have h1:=hM.then (Y:=fun k=>k<w.heap.size+1\/k=wr.heap.size) ((Upd.refl [] wr).alloc (.cells #[.int .u32 0,.int .u32 1] 62 (0,0))) (by simp) fun k hk=>by
     rw [World.size_alloc]
     rcases hk with h | h
     ·have:=heap_lt hb2;exact ⟨.inl h,by omega⟩
     ·exact ⟨.inr (by omega),by omega⟩
    obtain ⟨K,F,h2,h3,h4,h5,h6,h7⟩:=h1;exact ⟨K,F,h2,h3,h4,h5,h6,by have:=h7.1;omega,h7.2⟩
   have hR0:(wr.alloc (.cells #[.int .u32 0,.int .u32 1] 62 (0,0))).ownsRow w.heap.size 62 1 (.slice (some ⟨wr.heap.size,0,none⟩) 2 2) 2 (flatRefs [0,1]) :=
    World.ownsRow_lit (base:=w.heap.size) (e:=62) (size:=1) wr #[.int .u32 0,.int .u32 1] 2 (by have:=heap_lt hb2;omega) (by unfold maxLen;omega) rfl
   have hP2:Prot (fun k=>k<w.heap.size+1) w1 (wr.alloc (.cells #[.int .u32 0,.int .u32 1] 62 (0,0))):=hP.trans (Prot.of0 ((Upd.refl [] wr).alloc _));have HH:=Lib.hid (And.intro hM2 (And.intro hR0 hP2));have hgl:w.heap.size+1<=wr.heap.size:=heap_lt hb2;clear hM hP hb2 hM2 hR0 hP2 c2 c3;go_wp2_with fail
   go_loopg [9,59] sm (fun gg s9 s59 wx=>∃ (i g cap:Nat) (L:List (Nat × ((Nat->Bool)->Bool))),sm-i=gg/\i<=sm/\s9=.slice (some ⟨g,0,none⟩) L.length cap/\s59=.int .i64 i/\2<=L.length/\L.length<=i+2/\w.heap.size+1<=g/\SesM wx b (fun k=>k<w.heap.size+1\/k=g) v L (L.length-2) 40/\wx.ownsRow w.heap.size 62 1 (.slice (some ⟨g,0,none⟩) L.length cap) L.length (flatRefs (L.map (·.1)))/\Prot (fun k=>k<w.heap.size+1) w1 wx)
   case atStart=>exact ⟨0,wr.heap.size,2,_,by omega,by omega,rfl,rfl,by simp,by simp,hgl,HH.out.1,HH.out.2.1,HH.out.2.2⟩
   case round =>
    obtain ⟨j,g,cap,L,rfl,hj,rfl,rfl,hL2,hLj,hgg,hM,hR,hP⟩:=hrel
    by_cases hlt2:j<sm
    ·have hjl:(j:Int)<(sm:Int):=by omega
     obtain ⟨x,o,B,O,hx,ho,hxa,hBl,hcs,hrow,hw8⟩:=HS.out.op (i:=j) (by omega);subst hx
     have hcell:∀ k v,o.cells[k]?=some v->wr.cell? ⟨B,O+k,none⟩=some v:=fun k v hk =>
      hP.cell (show _<_ by simp;omega) (HU1.out.cell0 (hcs k v hk))
     have e0:wr.cell? ⟨B,O,none⟩=some (.int .i64 o.k):=hcell 0 _ rfl;have e1:wr.cell? ⟨B,O+1,none⟩=some (.int .i64 o.a):=hcell 1 _ rfl;have e2:wr.cell? ⟨B,O+2,none⟩=some (.int .i64 o.b):=hcell 2 _ rfl;have e3:wr.cell? ⟨B,O+3,none⟩=some (.int .i64 o.c):=hcell 3 _ rfl;have e4:wr.cell? ⟨B,O+4,none⟩=some (.int .u8 o.o):=hcell 4 _ rfl;have e5:wr.cell? ⟨B,O+5,none⟩=some (.slice o.lo o.ln o.lc):=hcell 5 _ rfl;have e6:wr.cell? ⟨B,O+6,none⟩=some (.bool o.d):=hcell 6 _ rfl;generalize o.k=ok at *;generalize o.a=oa at *;generalize o.b=ob at *;generalize o.c=oc at *;generalize o.o=oo at *;generalize o.lo=olo at *;generalize o.ln=oln at *;generalize o.lc=olc at *;generalize o.d=od at *;have HH2:=Lib.hid (And.intro hM (And.intro hR hP));have hbo:=heap_alloc_new wr (.cells #[.int .i64 ok,.int .i64 oa,.int .i64 ob,.int .i64 oc,.int .u8 oo,.slice olo oln olc,.bool od] 67 (0,0))
     have hLn:L.length<=18:=by omega
     obtain ⟨nl,hnl⟩ : ∃ nl,L.length=nl:=⟨_,rfl⟩
     have hnl2:2<=nl:=by omega
     have hnl18:nl<=18:=by omega
     have hnl0:¬ ((nl:Int)=0):=by omega
     have HNL:=Lib.hid hnl
     have hnlj:nl<=j+2:=by omega
     obtain ⟨j1,hj1,hj1',hj1l⟩:=idx_at nl oa (by omega) (by omega);obtain ⟨j2,hj2,hj2',hj2l⟩:=idx_at nl ob (by omega) (by omega);obtain ⟨j3,hj3,hj3',hj3l⟩:=idx_at nl oc (by omega) (by omega);obtain ⟨⟨r1,f1⟩,hf1⟩ : ∃ p,L[j1]?=some p:=⟨_,List.getElem?_eq_getElem (by omega)⟩;obtain ⟨⟨r2,f2⟩,hf2⟩ : ∃ p,L[j2]?=some p:=⟨_,List.getElem?_eq_getElem (by omega)⟩;obtain ⟨⟨r3,f3⟩,hf3⟩ : ∃ p,L[j3]?=some p:=⟨_,List.getElem?_eq_getElem (by omega)⟩;have hua:Upd [] wr (wr.alloc (.cells #[.int .i64 ok,.int .i64 oa,.int .i64 ob,.int .i64 oc,.int .u8 oo,.slice olo oln olc,.bool od] 67 (0,0))):=(Upd.refl _ _).alloc _;have x1:=hua.cell0 (row_cell hR (flatRefs_get (i:=j1) (r:=r1) (by rw [List.getElem?_map,hf1];rfl)));have x2:=hua.cell0 (row_cell hR (flatRefs_get (i:=j2) (r:=r2) (by rw [List.getElem?_map,hf2];rfl)));have x3:=hua.cell0 (row_cell hR (flatRefs_get (i:=j3) (r:=r3) (by rw [List.getElem?_map,hf3];rfl)))
     have hl1:(j1:Int)<(nl:Int):=by omega
     have hl2:(j2:Int)<(nl:Int):=by omega
     have hl3:(j3:Int)<(nl:Int):=by omega
     have HLM:=Lib.hid (And.intro (List.mem_of_getElem? hf1) (And.intro (List.mem_of_getElem? hf2) (List.mem_of_getElem? hf3)));have HUA:=Lib.hid hua;clear hM hR hP hcell hcs hrow ho hw8 hf1 hf2 hf3 hua;go_upto_region 14 with fail;rw [hnl];have c0:=cell_at (j:=0) hbo rfl;have c1:=cell_at (j:=1) hbo rfl;have c2:=cell_at (j:=2) hbo rfl;have c3:=cell_at (j:=3) hbo rfl;have HBO:=Lib.hid hbo;obtain ⟨wA,hwA⟩ : ∃ wA,wr.alloc (.cells #[.int .i64 ok,.int .i64 oa,.int .i64 ob,.int .i64 oc,.int .u8 oo,.slice olo oln olc,.bool od] 67 (0,0))=wA:=⟨_,rfl⟩
     have HWS:Hid (wr.heap.size<wA.heap.size):=by show _<_;rw [<- hwA,World.size_alloc];omega
     rw [hwA] at c0 c1 c2 c3 x1 x2 x3 HUA HBO ⊢;generalize wr.heap.size=A at *;clear hwA hbo hnl hLn e0 e1 e2 e3 e4 e5 e6 hxa
     go_quiet (fail)
     have HUD:=Lib.hid (HUA.out.drewN nq);have k0:(wA.drewN nq).cell? ⟨A,0,none⟩=some (.int .i64 ok):=c0;have k1:(wA.drewN nq).cell? ⟨A,1,none⟩=some (.int .i64 oa):=c1;generalize wA.drewN nq=wD at *;obtain ⟨jv,hjv,hjv',hjvl⟩:=idx_at v oa (by omega) (by omega)
     have hv0:¬ ((v:Int)=0):=by omega
     have hMD:SesM wD b (fun k=>k<w.heap.size+1\/k=g) v L (L.length-2) 40:=HH2.out.1.keep0 HUD.out
     have hLc:L.length-2<60:=by have:=HNL.out;omega
     have HSP:=Lib.hid (And.intro (var_sesM (v:=jv) hMD hLc (by omega)) (And.intro (not_sesM hMD hLc HLM.out.1) (And.intro (and_sesM hMD hLc HLM.out.1 HLM.out.2.1) (And.intro (or_sesM hMD hLc HLM.out.1 HLM.out.2.1) (And.intro (xor_sesM hMD hLc HLM.out.1 HLM.out.2.1) (ite_sesM hMD hLc HLM.out.1 HLM.out.2.1 HLM.out.2.2))))));clear hMD hLc c0 c1 c2 c3 x1 x2 x3 hj1 hj1' hj2 hj2' hj3 hj3' hl1 hl2 hl3 hj1l hj2l hj3l
     by_cases hkn:ok=2\/ok=3\/ok=4\/ok=5\/ok=6\/ok=8
     ·go_upto_block 4 with fail
      go_cut [15,16] from 97 to 156 (fun s15 s16 wx=>∃ (r:Nat) (code:Int),s15=.int .u32 r/\s16=.int .i64 code/\CallQ b (fun k=>k<w.heap.size+1\/k=g) v L (L.length-2) r code wD wx)
      case first =>
       rcases hkn with rfl | rfl | rfl | rfl | rfl | rfl
       ·go_wp2_with fail
        refine HSP.out.1.mono ?_;rintro e w2 hE;obtain ⟨r,code,rfl,hq⟩:=hE.call;have HQ:=Lib.hid hq;clear hE hq;go_wp2_with fail;go_meet;exact ⟨r,code,rfl,rfl,HQ.out⟩
       ·go_wp2_with fail
        refine HSP.out.2.1.mono ?_;rintro e w2 hE;obtain ⟨r,code,rfl,hq⟩:=hE.call;have HQ:=Lib.hid hq;clear hE hq;go_wp2_with fail;go_meet;exact ⟨r,code,rfl,rfl,HQ.out⟩
       ·go_wp2_with fail
        refine HSP.out.2.2.1.mono ?_;rintro e w2 hE;obtain ⟨r,code,rfl,hq⟩:=hE.call;have HQ:=Lib.hid hq;clear hE hq;go_wp2_with fail;go_meet;exact ⟨r,code,rfl,rfl,HQ.out⟩
       ·go_wp2_with fail
        refine HSP.out.2.2.2.1.mono ?_;rintro e w2 hE;obtain ⟨r,code,rfl,hq⟩:=hE.call;have HQ:=Lib.hid hq;clear hE hq;go_wp2_with fail;go_meet;exact ⟨r,code,rfl,rfl,HQ.out⟩
       ·go_wp2_with fail
        refine HSP.out.2.2.2.2.1.mono ?_;rintro e w2 hE;obtain ⟨r,code,rfl,hq⟩:=hE.call;have HQ:=Lib.hid hq;clear hE hq;go_wp2_with fail;go_meet;exact ⟨r,code,rfl,rfl,HQ.out⟩
       ·go_wp2_with fail
        refine HSP.out.2.2.2.2.2.mono ?_;rintro e w2 hE;obtain ⟨r,code,rfl,hq⟩:=hE.call;have HQ:=Lib.hid hq;clear hE hq;go_wp2_with fail;go_meet;exact ⟨r,code,rfl,rfl,HQ.out⟩
      case rest =>
       obtain ⟨r,code,rfl,rfl,hq⟩:=hcut;obtain ⟨w2,hw2⟩ : ∃ w2,wc=w2:=⟨_,rfl⟩;rw [hw2] at hq ⊢;have hP2:Prot (fun k=>k<w.heap.size+1) w1 w2:=(HH2.out.2.2.trans (Prot.of0 HUD.out)).trans (hq.pr.weak fun k hk=>.inl hk)
       have hR2:=hq.pr.row (row_keep HH2.out.2.1 fun k hk=>HUD.out.block k (HH2.out.2.1.lt k hk).2 (by simp)) fun k hk=>.inr (by simpa [Value.ownBlock] using hk.symm)
       rw [HNL.out] at hR2;clear hw2 k0 k1 HSP
       rcases hq.cs with ⟨rfl,t,hS⟩ | ⟨rfl,hS⟩
       ·obtain ⟨tr,hr0,hr1,hr2,hr3⟩:=info_parts Tryz.infoRefS
        have HIR:=Lib.hid (And.intro hr0 (And.intro hr1 (And.intro hr2 hr3)));have HR2:=Lib.hid hR2;have H2:=Lib.hid (And.intro hS hP2)
        have HC1:Hid (∀ u,u∈[Value.int .u32 r]->u.oneCell'=true):=by intro u hu;simp at hu;subst hu;rfl
        have hbs:w.heap.size<=(w2.alloc (.cells #[.int .u32 r] 62 (0,0))).heap.size:=by rw [World.size_alloc];have:=HU1.out.size;have:=hP2.size;omega
        clear hq hR2 hS hP2 hr0 hr1 hr2 hr3
        go_wp2_with (at_builtin;go_must (refine wpList_append_lies _ rfl (.tmp 159) (.tmp 161) 39 rfl w.heap.size 62 tr _ 1 4 Tryz.underlying39 HIR.out.1 HIR.out.2.1 HIR.out.2.2.1 HIR.out.2.2.2 (by rfl) (by decide) _ nl (flatRefs (L.map (·.1))) rfl (HR2.out.alloc _) ⟨w2.heap.size,0,none⟩ 1 1 [.int .u32 r] rfl rfl ?c1 HC1.out (by omega) (by unfold maxLen;omega) (by omega) hbs _ rfl ?_))
        try case c1=>exact World.news_of_block (heap_alloc_new w2 (.cells #[.int .u32 r] 62 (0,0)))
        intro g2 cap2 w5 hown hgr hat hlt5
        have hu5:Upd [g] w2 w5:=((Upd.refl [g] w2).alloc (.cells #[.int .u32 r] 62 (0,0))).grown hgr fun k hk=>.inl (by simpa [Value.ownBlock] using hk.symm)
        have HREL:Hid (SesM w5 b (fun k=>k<w.heap.size+1\/k=g2) v (L++[(r,t)]) ((L++[(r,t)]).length-2) 40/\w5.ownsRow w.heap.size 62 1 (.slice (some ⟨g2,0,none⟩) (L++[(r,t)]).length cap2) (L++[(r,t)]).length (flatRefs ((L++[(r,t)]).map (·.1)))/\Prot (fun k=>k<w.heap.size+1) w1 w5/\w.heap.size+1<=g2):=by
         have hz2:=H2.out.2.size;have hz1:=HU1.out.size
         have hgs:w.heap.size+1<=w2.heap.size:=by
          have h1:=(HR2.out.lt g rfl).2;omega
         have hg2:w.heap.size+1<=g2:=by
          rcases hat with h | h
          ·simp [Value.ownBlock] at h;omega
          ·omega
         refine ⟨?_,?_,H2.out.2.trans (Prot.of hu5 fun k hk hx=>by simp at hk;omega),hg2⟩
         ·have h1:=H2.out.1.then (Y:=fun k=>k<w.heap.size+1\/k=g2) hu5 (fun k hk=>.inr (by simpa using hk)) fun k hk=>by
           have:=hu5.size
           rcases hk with h | h
           ·exact ⟨.inl (.inl h),by omega⟩
           ·subst h
            refine ⟨?_,hlt5⟩
            rcases hat with h | h
            ·simp [Value.ownBlock] at h;exact .inl (.inr h.symm)
            ·exact .inr (by omega)
          have e1:(L++[(r,t)]).length-2=L.length-2+1:=by rw [List.length_append,List.length_singleton,HNL.out];omega
          rw [e1];exact h1
         ·rw [List.length_append,List.length_singleton,HNL.out,List.map_append]
          unfold flatRefs at hown ⊢;rw [List.map_append];exact hown
        have HLL:Hid ((L++[(r,t)]).length=nl+1):=by show _=_;rw [List.length_append,List.length_singleton,HNL.out]
        clear hown hgr hat hlt5 hu5 hbs;go_wp2_with fail
        go_roundg (sm-(j+1))
        case measure=>omega
        case rel=>exact ⟨j+1,g2,cap2,L++[(r,t)],rfl,by omega,by rw [HLL.out],by simp,by rw [HLL.out];omega,by rw [HLL.out];omega,HREL.out.2.2.2,HREL.out.1,HREL.out.2.1,HREL.out.2.2.1⟩
       ·have H2:=Lib.hid (And.intro hS (And.intro hR2 hP2))
        clear hq hR2 hS hP2;go_wp2_with fail
        go_roundg (sm-(j+1))
        case measure=>omega
        case rel=>exact ⟨j+1,g,cap,L,rfl,by omega,by rw [HNL.out],by simp,hL2,by omega,hgg,H2.out.1,by rw [HNL.out];exact H2.out.2.1,H2.out.2.2⟩
     ·have q2:(ok == 2)=false:=by simp;omega
      have q3:(ok == 3)=false:=by simp;omega
      have q4:(ok == 4)=false:=by simp;omega
      have q5:(ok == 5)=false:=by simp;omega
      have q6:(ok == 6)=false:=by simp;omega
      have q8:(ok == 8)=false:=by simp;omega
      have hP2:Prot (fun k=>k<w.heap.size+1) w1 wD:=HH2.out.2.2.trans (Prot.of0 HUD.out)
      have hR2:=row_keep HH2.out.2.1 fun k hk=>HUD.out.block k (HH2.out.2.1.lt k hk).2 (by simp)
      have H2:=Lib.hid (And.intro (HH2.out.1.keep0 HUD.out) (And.intro hR2 hP2));clear hkn hP2 hR2 HSP k1;go_wp2_with fail
      go_roundg (sm-(j+1))
      case measure=>omega
      case rel=>exact ⟨j+1,g,cap,L,rfl,by omega,by rw [HNL.out],by simp,hL2,by omega,hgg,H2.out.1,H2.out.2.1,H2.out.2.2⟩
    ·obtain rfl:j=sm:=by omega
     have hjl:¬ ((j:Int)<(j:Int)):=by omega
     have hwu:Upd [] w wr:=Upd.prot HU1.out hP (by omega);obtain ⟨K,F,a1,a2,a3,a4,a5,a6⟩:=hM
     have HE:Hid (SesM wr b (fun k=>k<w.heap.size\/k=g) (wideN nI) L (L.length-2) 40/\wr.ownsRow w.heap.size 62 1 (.slice (some ⟨g,0,none⟩) L.length cap) L.length (flatRefs (L.map (·.1)))/\Upd [] w wr) :=
      ⟨⟨K,F,a1,fun k hk hx=>a2 k hk (hx.imp_left fun h=>by omega),fun k hx=>a3 k (hx.imp_left fun h=>by omega),a4.trans HV.out,a5,a6⟩,hR,hwu⟩
     clear hP hR hwu a1 a2 a3 a4 a5 a6;go_wp2_with fail;go_ret2;exact ⟨b,g,cap,L,rfl,hL2,by omega,by omega,HE.out.1,HE.out.2.1,HE.out.2.2⟩
def binT (op:Nat) (f g:TV):TV:=mkT f.n fun x=>opB op (f.bit x) (g.bit x)
theorem binT_ok {op:Nat} {f g:TV} (hf:f.n<=16):(binT op f g).Ok/\(binT op f g).n=f.n:=⟨mkT_ok _ hf,rfl⟩
theorem binT_fn {op:Nat} {f g:TV} (h:g.n=f.n) (y:Nat->Bool):(binT op f g).fn y=opB op (f.fn y) (g.fn y):=by
 unfold binT;rw [mkT_fn];unfold TV.fn;rw [h]
structure ExS (K:KV) (n m:Nat) (Q:List TV) (c:Nat):Prop where
 ok:K.Ok
 uni:K.Uni
 vr:K.vars=n
 pl:K.A.places=m
 od:K.order=List.range n
 rt:RootsT K Q
 hh:∀ x,K.hold x<=c
theorem ExS.new {n m:Nat} (h1:1<=n) (hn:n<=64) (h2:2<=m) (hm:m<=1048576):ExS (KV.new n m) n m [] 0 :=
 ⟨KV.new_ok h1 hn h2 hm,(TInv.new n m).uni (KV.new_ok h1 hn h2 hm).wf,rfl,rfl,rfl,⟨fun r h=>by simp [KV.hold,KV.new] at h,by simp,by simp⟩,fun x=>by simp [KV.hold,KV.new]⟩
theorem varT_ok {n v:Nat} (hn:n<=16):(varT n v).Ok/\(varT n v).n=n:=⟨mkT_ok _ hn,rfl⟩
theorem ExS.grow {K K':KV} {n m c r:Nat} {Q:List TV} {t:TV} (h:ExS K n m Q c) (k':K'.Ok) (u':K'.Uni) (e:K.Ext K') (ht:K'.A.tk r=true) (hd:∀ y,K'.den r y=t.fn y) (hok:t.Ok) (htn:t.n=n) (hh:∀ x,K'.hold x=K.hold x+if x=r/\2<=r then 1 else 0):ExS K' n m (Q++[t]) (c+1):=by
 refine ⟨k',u',by rw [e.vr];exact h.vr,by rw [e.pl];exact h.pl,by rw [e.od];exact h.od,⟨fun x hx=>?_,fun u hu=>?_,fun u hu=>?_⟩,fun x=>?_⟩
 ·by_cases ex:x=r
  ·subst ex;exact ⟨t,by simp,hd⟩
  ·rw [hh,if_neg (fun k=>ex k.1)] at hx
   obtain ⟨u,hm,hd'⟩:=h.rt.rt x (by omega);exact ⟨u,by simp [hm],fun y=>by rw [e.den h.ok.wf y (h.ok.wf.ht x (by omega)).2];exact hd' y⟩
 ·rcases List.mem_append.1 hu with hm | hm
  ·obtain ⟨x,a1,a2⟩:=h.rt.lr u hm
   exact ⟨x,e.tk a1,fun y=>by rw [e.den h.ok.wf y a1];exact a2 y⟩
  ·simp at hm;subst hm;exact ⟨r,ht,hd⟩
 ·rw [e.vr]
  rcases List.mem_append.1 hu with hm | hm
  ·exact h.rt.ok u hm
  ·simp at hm;subst hm;exact ⟨hok,htn.trans h.vr.symm⟩
 ·have:=h.hh x
  rw [hh];split <;> omega
theorem ExS.op {K K':KV} {n m c r:Nat} {Q:List TV} {u:TV} {code:Int} {t:(Nat->Bool)->Bool} (h:ExS K n m Q c) (hn:n<=16) (hc:c<60) (k':K'.Ok) (u':K'.Uni) (O:OpR K t r code K') (hu:u.Ok/\u.n=n) (ht:∀ y,t y=u.fn y) (hf:(flatT (Q++[u]) (List.range n)).length+2<=m) :
  code=0/\K.Ext K'/\K'.A.tk r=true/\(∀ y,K'.den r y=u.fn y)/\ExS K' n m (Q++[u]) (c+1):=by
 have e:t=u.fn:=funext ht;subst e
 rcases O with ⟨rfl,O⟩ | ⟨_,_,_,s,_,_,hs⟩ | ⟨_,_,_,hno⟩
 ·exact ⟨rfl,O.ext,O.tk,O.den,h.grow k' u' O.ext O.tk O.den hu.1 hu.2 O.hd⟩
 ·have:=h.hh s;omega
 ·exfalso
  have h1:=h.rt.nofit h.ok (by rw [h.vr];exact hn) hu.1 (hu.2.trans h.vr.symm) hno.weak;rw [h.pl,h.od] at h1;omega
theorem ExS.var {K K':KV} {n m c r v:Nat} {Q:List TV} {code:Int} (h:ExS K n m Q c) (hn:n<=16) (hc:c<60) (k':K'.Ok) (u':K'.Uni) (hv:v<n) (M:MakeR K (v:Int) 0 1 r code K') (hf:(flatT Q (List.range n)).length+2<m) :
  code=0/\K.Ext K'/\K'.A.tk r=true/\(∀ y,K'.den r y=y v)/\ExS K' n m (Q++[varT n v]) (c+1):=by
 have hk:=h.ok
 have hvv:v<K.vars:=by rw [h.vr];exact hv
 have hfe:K.fitsE (v:Int) 0 1=0:=KV.fits_ok (by omega) (hk.tk_const (by omega)) (hk.tk_const (by omega)) fun _=>by
  have:=(hk.ord.pm.lo v hvv).1;rw [hk.wf.dep_const (by omega),hk.wf.dep_const (by omega)];omega
 have key:∀ (K1:KV),K1.Ok->∀ s,K1.At s v 0 1->K1.A.tk s=true/\∀ y,K1.den s y=y v:=fun K1 k1 s hs=>by
  obtain ⟨h2,p,hp,hpt,e1,e2,e3⟩:=hs;refine ⟨ArenaV.tk_iff.2 ⟨p,hp,hpt⟩,fun y=>?_⟩;rw [KV.den_node k1.wf k1.ord h2 hp hpt,e2,e3,K1.den_const (by omega),K1.den_const (by omega),show p.var.toNat=v by omega]
  cases y v <;> rfl
 cases M with
 | bad h0=>exact absurd hfe h0
 | full h0 hs hm=>exact absurd (hm ▸ h.hh _) (by omega)
 | old h0 hs hm =>
  have hs':K.At r v 0 1:=by
   rcases hs with ⟨e,_⟩ | ⟨_,hs⟩
   ·omega
   ·simpa using hs
  obtain ⟨t1,t2⟩:=key K hk r hs';have X:=(hk.kept t1 hm).2
  have hd:∀ y,(K.keepK r).den r y=y v:=fun y=>by rw [X.ext.den hk.wf y t1,t2]
  exact ⟨rfl,X.ext,X.ext.tk t1,hd,h.grow k' u' X.ext (X.ext.tk t1) (fun y=>by rw [hd,varT_fn hv]) (varT_ok hn).1 rfl fun x=>by rw [X.hd];split <;> rfl⟩
 | nodes h0 hne hno hu =>
  exfalso
  have:=h.rt.used hk h.uni (by rw [h.vr];exact hn);rw [h.od] at this;rw [h.pl] at hu;omega
 | new h0 hne hno hm =>
  have hm':K.Made v 0 1 r K':=by simpa using hm
  have hat:K'.At r v 0 1:=hm'.at_iff.2 (.inl ⟨rfl,rfl,rfl,rfl⟩);obtain ⟨t1,t2⟩:=key K' k' r hat
  have h0:K.hold r=0:=by
   by_cases hp:0<K.hold r
   ·have:=(hk.wf.ht r hp).2
    rw [hm'.no] at this;cases this
   ·omega
  refine ⟨rfl,hm'.ext,t1,t2,h.grow k' u' hm'.ext t1 (fun y=>by rw [t2,varT_fn hv]) (varT_ok hn).1 rfl fun x=>?_⟩;have:=hm'.two;rw [hm'.hd]
  by_cases e:x=r
  ·subst e;rw [if_pos rfl,if_pos ⟨rfl,this⟩,h0]
  ·rw [if_neg e,if_neg (fun k=>e k.1)];rfl
theorem ExS.lev {K:KV} {n m c:Nat} {Q:List TV} (h:ExS K n m Q c) {v:Nat} (hv:v<n):K.lev v=v:=by
 have h1:=h.ok.ord.pm.order_at (v:=v) (by rw [h.vr];exact hv);have h2:=(h.ok.ord.pm.lo v (by rw [h.vr];exact hv)).1;rw [h.od,List.getElem?_range (by rw [h.vr] at h2;exact h2)] at h1;exact Option.some.inj h1
theorem Hangs.or {t:(Nat->Bool)->Bool} {a b:Nat} (h:∀ y,t y=(y a||y b)) (v:Nat):Hangs t v↔v=a\/v=b:=by
 constructor
 ·rintro ⟨y,hy⟩
  rw [h,h] at hy
  by_cases e:v=a\/v=b
  ·exact e
  ·simp [upd,show ¬ a=v by omega,show ¬ b=v by omega] at hy
 ·intro e
  refine ⟨fun _=>false,?_⟩;rw [h,h]
  rcases e with rfl | rfl <;> simp [upd]
theorem sup_or {K:KV} {r a b:Nat} {s:Int} (hk:K.Ok) (hu:K.Uni) (ht:K.A.tk r=true) (hs:SupIs K r s) (h:∀ y,K.den r y=(y a||y b)) (ha:a<64) (hb:b<64):s=bits BinOp.or IntKind.u64 (IntKind.u64.wrap (2 ^ a)) (IntKind.u64.wrap (2 ^ b)):=by
 obtain ⟨h1,h2⟩:=hs.bits hk hu ht
 refine nb_ext h1 (bits_u64 _ _ _) fun i _=>?_
 rw [nb_or (wrap_u64 _) (wrap_u64 _),nb_pow ha,nb_pow hb,Bool.eq_iff_iff,h2,Hangs.or h,Bool.or_eq_true,decide_eq_true_eq,decide_eq_true_eq,eq_comm (a:=i),eq_comm (a:=i)]
structure OrNodes (K:KV) (f l:Nat):Prop where
 ex:∃ p s:PlaceV,2<=f/\2<=l/\f≠l/\K.A.list[f]?=some p/\p.taken=true/\p.lo=l/\p.hi=1/\K.A.list[l]?=some s/\s.taken=true/\s.lo=0/\s.hi=1
theorem or_nodes {K:KV} {f a b:Nat} (hk:K.Ok) (hu:K.Uni) (ht:K.A.tk f=true) (h:∀ y,K.den f y=(y a||y b)) (hab:a≠b) (hav:a<K.vars) (hl:K.lev a<K.lev b):∃ l,OrNodes K f l:=by
 have c0:∀ y,K.den 0 y=false:=fun y=>K.den_const (by omega) y
 have c1:∀ y,K.den 1 y=true:=fun y=>K.den_const (by omega) y
 have can:∀ {c d:Nat},K.A.tk c=true->K.A.tk d=true->(∀ y,K.den c y=K.den d y)->c=d:=fun ha hb h=>KV.canon hk.wf hk.ord hu _ _ _ ha hb (Nat.le_refl _) h
 have f2:2<=f:=by
  rcases Nat.lt_or_ge f 2 with h2 | h2
  ·have e1:=h fun _=>true
   have e2:=h fun _=>false
   rw [K.den_const h2] at e1 e2
   simp at e1 e2;omega
  ·exact h2
 obtain ⟨p,v,hp,hpt,hv,hvl,t0,t1,hd⟩:=hk.wf.node_at f2 ht;obtain ⟨v',hvl',hd',hh,hno⟩:=hk.node_hangs hu f2 ht;obtain rfl:v=v':=hk.ord.pm.inj hvl hvl' (by omega)
 have hva:v=a:=by
  rcases (Hangs.or h v).1 hh with e | e
  ·exact e
  ·subst e
   exact absurd ((Hangs.or h a).2 (.inl rfl)) (hno a hav hl)
 subst hva
 have ev:p.var.toNat=v:=by omega
 have dlo:∀ y,K.den p.lo y=y b:=fun y=>by
  rw [<- KV.den_lo hk.wf hk.ord f2 hp hpt y,ev,h,upd_self,upd_ne _ _ (Ne.symm hab)];rfl
 have dhi:∀ y,K.den p.hi y=true:=fun y=>by
  rw [<- KV.den_hi hk.wf hk.ord f2 hp hpt y,ev,h,upd_self];rfl
 have e1:p.hi=1:=can t1 (hk.tk_const (by omega)) fun y=>by rw [dhi,c1]
 have l2:2<=p.lo:=by
  rcases Nat.lt_or_ge p.lo 2 with h2 | h2
  ·have e1:=dlo fun _=>true
   have e2:=dlo fun _=>false
   rw [K.den_const h2] at e1 e2
   simp at e1 e2;omega
  ·exact h2
 obtain ⟨s,u,hs,hst,hsv,hul,s0,s1,hsd⟩:=hk.wf.node_at l2 t0;have hhs:=hk.hangs_of hu t0 (.refl l2) hs;have eu:s.var.toNat=b:=(Hangs.var dlo _).1 hhs
 have d0:∀ y,K.den s.lo y=false:=fun y=>by
  rw [<- KV.den_lo hk.wf hk.ord l2 hs hst y,eu,dlo,upd_self]
 have d1:∀ y,K.den s.hi y=true:=fun y=>by
  rw [<- KV.den_hi hk.wf hk.ord l2 hs hst y,eu,dlo,upd_self]
 refine ⟨p.lo,p,s,f2,l2,fun e=>?_,hp,hpt,rfl,e1,hs,hst,can s0 (hk.tk_const (by omega)) fun y=>by rw [d0,c0],can s1 (hk.tk_const (by omega)) fun y=>by rw [d1,c1]⟩;have e3:=h (fun x=>x == v);have e4:=dlo (fun x=>x == v);rw [<- e,e3] at e4
 simp at e4;omega
theorem OrNodes.way {K:KV} {f l:Nat} (hk:K.Ok) (h:OrNodes K f l):K.way f=2:=by
 obtain ⟨p,s,f2,l2,_,hp,hpt,e1,e2,hs,hst,e3,e4⟩:=h.ex;rw [KV.way_node hk.wf hk.ord f2 hp hpt,e1,e2,KV.way_node hk.wf hk.ord l2 hs hst,e3,e4,K.way_const (by omega),K.way_const (by omega)]
theorem OrNodes.size {K:KV} {f l:Nat} {N:List Nat} (h:OrNodes K f l) (hN:WalkL K [] [f,f] N):N.length=2:=by
 obtain ⟨p,s,f2,l2,hne,hp,hpt,e1,e2,hs,hst,e3,e4⟩:=h.ex;have a:=hN.alls List.nodup_nil
 have hnd:N.Nodup:=by simpa using a.nd
 have hf:f∈N:=by simpa using a.has f (by simp) f2
 have hl:l∈N:=by
  have:=(a.kids f p hf hp).1;rw [e1] at this
  rcases this with h | h
  ·omega
  ·simpa using h
 have hu:∀ x,K.Under f x->x=f\/x=l:=fun x hx=>by
  induction hx with
  | refl _=>exact .inl rfl
  | @lo x c _ hc h2 ih =>
   rcases ih with rfl | rfl
   ·rw [hp] at hc;cases hc;exact .inr e1
   ·rw [hs] at hc;cases hc;omega
  | @hi x c _ hc h2 ih =>
   rcases ih with rfl | rfl
   ·rw [hp] at hc;cases hc;omega
   ·rw [hs] at hc;cases hc;omega
 have h1:N.length<=[f,l].length:=List.Nodup.length_le_of_subset hnd fun x hx=>by
  obtain ⟨r,hr,hx⟩:=a.under x hx
  have:r=f:=by simpa using hr
  subst this
  rcases hu x hx with h | h <;> simp [h]
 have h2:[f,l].length<=N.length:=List.Nodup.length_le_of_subset (by simp;exact hne) fun x hx=>by
  simp at hx
  rcases hx with rfl | rfl
  ·exact hf
  ·exact hl
 simp at h1 h2
 omega
theorem or_sat:satL [0,1,2] (fun y=>y 0||y 2)=6:=by decide +kernel
theorem or_flat:(flatT [varT 3 0,varT 3 2,binT 14 (varT 3 0) (varT 3 2)] (List.range 3)).length+2<=20:=by decide +kernel
theorem or_flat2:(flatT [varT 3 0] (List.range 3)).length+2<20:=by decide +kernel
theorem or_flat1:(flatT [] (List.range 3)).length+2<20:=by decide +kernel
theorem row_two (w:World) (f g:Nat):(w.alloc (.cells #[.int .u32 f,.int .u32 g] 62 (0,0))).ownsRow 0 62 1 (.slice (some ⟨w.heap.size,0,none⟩) 2 2) [f,g].length (flatRefs [f,g]) :=
 World.ownsRow_lit (base:=0) (e:=62) (size:=1) w #[.int .u32 f,.int .u32 g] 2 (Nat.zero_le _) (by unfold maxLen;omega) rfl
theorem awake12_spec (w:World):Calls Tryz.prog 37 #[] w fun e w'=>e=.returned (.bool true)/\Upd [] w w':=by
 go_enter Tryz.func37,Tryz.ntmps37
 go_wp2_with fail;refine (knew_spec 3 20 w (by omega) (by omega) (by omega) (by omega)).mono ?_;rintro e w1 ⟨b,T,q,rfl,hk,hu,hs⟩;have X0:=ExS.new (n:=3) (m:=20) (by omega) (by omega) (by omega) (by omega);have H1:=Lib.hid (And.intro hk (And.intro hu (And.intro hs X0)));clear hk hu hs X0;go_wp2_with fail;refine (var_live b 0 _ T q w1 H1.out.1).mono ?_;rintro e w2 hE;obtain ⟨r1,c1,K1,T1,q1,rfl,M1,hk,hu,hs⟩:=hE.ex;obtain ⟨rfl,x1,t1,d1,X1⟩:=H1.out.2.2.2.var (v:=0) (by omega) (by omega) hk.ok (hk.ti.uni hk.ok.wf) (by omega) M1 or_flat1;have H2:=Lib.hid (And.intro hk (And.intro (H1.out.2.1.then hu fun x hx=>(H1.out.2.2.1 x hx)) (And.intro (sub_trans H1.out.2.2.1 hs H1.out.2.1.size) (And.intro X1 (And.intro t1 d1)))));clear hE M1 hk hu hs x1 t1 d1 X1;go_wp2_with fail;refine (var_live b 2 _ T1 q1 w2 H2.out.1).mono ?_;rintro e w3 hE;obtain ⟨r2,c2,K2,T2,q2,rfl,M2,hk,hu,hs⟩:=hE.ex;obtain ⟨rfl,x1,t1,d1,X1⟩:=H2.out.2.2.2.1.var (v:=2) (by omega) (by omega) hk.ok (hk.ti.uni hk.ok.wf) (by omega) M2 or_flat2;have ta:=x1.tk H2.out.2.2.2.2.1
 have da:∀ y,K2.den r1 y=y 0:=fun y=>by rw [x1.den H2.out.1.ok.wf y H2.out.2.2.2.2.1];exact H2.out.2.2.2.2.2 y
 have H3:=Lib.hid (And.intro hk (And.intro (H2.out.2.1.then hu fun x hx=>(H2.out.2.2.1 x hx)) (And.intro (sub_trans H2.out.2.2.1 hs H2.out.2.1.size) (And.intro X1 (And.intro t1 (And.intro d1 (And.intro ta da)))))));clear hE M2 hk hu hs x1 t1 d1 X1 ta da;go_wp2_with fail;refine (or_live b r1 r2 K2 T2 q2 w3 H3.out.1 H3.out.2.2.2.2.2.2.1 H3.out.2.2.2.2.1).mono ?_;rintro e w4 hE;obtain ⟨f,c3,K3,T3,q3,rfl,O3,hk,hu,hs⟩:=hE.ex
 obtain ⟨rfl,x1,t1,d1,X1⟩:=H3.out.2.2.2.1.op (u:=binT 14 (varT 3 0) (varT 3 2)) (by omega) (by omega) hk.ok (hk.ti.uni hk.ok.wf) O3 (binT_ok (by decide)) (fun y=>by
  rw [binT_fn (f:=varT 3 0) (g:=varT 3 2) rfl,varT_fn (by omega),varT_fn (by omega)]
  show opB 14 (K2.den r1 y) (K2.den r2 y)=_
  rw [H3.out.2.2.2.2.2.2.2,H3.out.2.2.2.2.2.1]) or_flat
 have df:∀ y,K3.den f y=(y 0||y 2):=fun y=>by rw [d1,binT_fn (f:=varT 3 0) (g:=varT 3 2) rfl,varT_fn (by omega),varT_fn (by omega),opB_or]
 have hor:=or_nodes hk.ok X1.uni t1 df (by omega) (by rw [X1.vr];omega) (by rw [X1.lev (by omega),X1.lev (by omega)];omega);obtain ⟨l,hor⟩:=hor;have H4:=Lib.hid (And.intro hk (And.intro (H3.out.2.1.then hu fun x hx=>(H3.out.2.2.1 x hx)) (And.intro X1 (And.intro t1 (And.intro df hor)))));clear hE O3 hk hu hs x1 t1 d1 X1 df hor;have HEV:=Lib.hid (eval_spec b f 4 K3 T3 q3 w4 H4.out.1 H4.out.2.2.2.1 (by unfold U64;omega));rw [H4.out.2.2.2.2.1,show (nb 4 0||nb 4 2)=true by decide] at HEV;go_wp2_with fail;refine HEV.out.mono ?_;rintro e w5 hQ;obtain ⟨rfl,hk,hu⟩:=hQ;have H5:=Lib.hid (And.intro hk (H4.out.2.1.trans hu));have HSA:=Lib.hid (sats_spec b f K3 T3 q3 w5 hk H4.out.2.2.2.1);rw [H4.out.2.2.1.od,show List.range 3=[0,1,2] from rfl,satL_congr _ H4.out.2.2.2.2.1,or_sat,show u64m 6=6 from rfl] at HSA;clear hk hu HEV;go_wp2_with fail;refine HSA.out.mono ?_;rintro e w6 hQ;obtain ⟨rfl,hk,hu⟩:=hQ;have H6:=Lib.hid (And.intro hk (H5.out.2.trans hu));have HPA:=Lib.hid (paths_spec b f K3 T3 q3 w6 hk H4.out.2.2.2.1);rw [H4.out.2.2.2.2.2.way hk.ok,show u64m 2=2 from rfl] at HPA;clear hk hu HSA;go_wp2_with fail;refine HPA.out.mono ?_;rintro e w7 hQ;obtain ⟨rfl,hk,hu⟩:=hQ;have H7:=Lib.hid (And.intro hk (H6.out.2.trans hu))
 have HSZ:=Lib.hid (size12_spec b _ [f,f] K3 T3 q3 _ (hk.upd ((Upd.refl [] w7).alloc (.cells #[.int .u32 f,.int .u32 f] 62 (0,0))) (by simp)) (row_two w7 f f) (fun r hr=>by
  have:r=f:=by simpa using hr
  subst this;exact H4.out.2.2.2.1) (by simp))
 clear hk hu HPA;go_wp2_with fail;refine HSZ.out.mono ?_;rintro e w8 hQ;obtain ⟨N,hN,rfl,hk,hu⟩:=hQ.ex;rw [H4.out.2.2.2.2.2.size hN];have H8:=Lib.hid (And.intro hk ((H7.out.2.alloc _).trans hu));have HSU:=Lib.hid (support_spec b f K3 T3 q3 w8 hk H4.out.2.2.2.1);clear hQ hN hk hu HSZ;go_wp2_with fail;refine HSU.out.mono ?_;rintro e w9 hQ;obtain ⟨N2,hN,rfl,hk,hu⟩:=hQ.ex;have hsup:=sup_or (s:=N2.foldl (fun s x=>supStep s (K3.vof x)) 0) hk.ok H4.out.2.2.1.uni H4.out.2.2.2.1 ⟨N2,hN,rfl⟩ H4.out.2.2.2.2.1 (by omega) (by omega);rw [hsup,show bits BinOp.or IntKind.u64 (IntKind.u64.wrap (2 ^ 0)) (IntKind.u64.wrap (2 ^ 2))=5 by decide +kernel];have H9:=Lib.hid (H8.out.2.trans hu);clear hQ hN hk hu HSU hsup;go_wp2_with fail;go_ret;exact ⟨rfl,H9.out⟩
theorem countWalks_walk (nI room iI:Int) (la sa pa:Option Addr) (ln lc sn sc pn pc:Nat) (Ls Ps:List Int) (Os:List OpV) (w:World) (hL:RowC w .i64 la ln lc Ls) (hS:OpsOf w sa sn sc Os) (hP:RowC w .u64 pa pn pc Ps) :
  Calls Tryz.prog 7 #[.agg #[.int .i64 nI,.int .i64 room,.slice la ln lc,.slice sa sn sc,.slice pa pn pc],.int .i64 iI] w fun e w'=>e=.returned (.bool true)/\Upd [] w w':=by
 have HPT:=Lib.hid hP;have hpnc:=hP.nc;have hpcm:=hP.cm;have hlnc:=hL.nc;have hlcm:=hL.cm;have hsnc:=hS.nc;have hscm:=hS.cm;unfold maxLen at hlcm hscm hpcm;have hbx:=heap_alloc_new w (.cells #[.int .i64 nI,.int .i64 room,.slice la ln lc,.slice sa sn sc,.slice pa pn pc] 55 (0,0));have HU0:=Lib.hid ((Upd.refl [] w).alloc (.cells #[.int .i64 nI,.int .i64 room,.slice la ln lc,.slice sa sn sc,.slice pa pn pc] 55 (0,0)));have HLA:=Lib.hid (laid12_spec nI room la sa pa ln lc sn sc pn pc Ls Os _ (hL.keep0 HU0.out) (hS.keep0 HU0.out));obtain ⟨wA,hwA⟩ : ∃ wA,w.alloc (.cells #[.int .i64 nI,.int .i64 room,.slice la ln lc,.slice sa sn sc,.slice pa pn pc] 55 (0,0))=wA:=⟨_,rfl⟩;rw [hwA] at hbx HU0 HLA;have HBX:=Lib.hid hbx;have HWA:=Lib.hid hwA;have b4:=cell_at (j:=4) hbx rfl;have b0:=cell_at (j:=0) hbx rfl;have b1:=cell_at (j:=1) hbx rfl;have b2:=cell_at (j:=2) hbx rfl;have b3:=cell_at (j:=3) hbx rfl;clear hL hS hP hbx hwA
 go_enter Tryz.func7,Tryz.ntmps7
 go_upto_region 1 with fail;rw [HWA.out];go_wp2_with fail;refine HLA.out.mono ?_;rintro e w1 hE;obtain ⟨b,g,cap,L,rfl,hL2,hL18,hgg,hM,hR,hU⟩:=hE.ex;have h1:=Lib.hid (And.intro hM (And.intro hR hU));clear hE hM hR hU b0 b1 b2 b3 b4;go_wp2_with fail;refine (awake12_spec _).mono ?_;rintro e w2 ⟨rfl,hu⟩;have hM2:=h1.out.1.keep0 hu
 have hR2:=row_keep h1.out.2.1 fun k hk=>hu.block k (h1.out.2.1.lt k hk).2 (by simp)
 have HUA:=Lib.hid (HU0.out.trans (h1.out.2.2.trans hu));obtain ⟨nl,hnl⟩ : ∃ nl,L.length=nl:=⟨_,rfl⟩;obtain ⟨j1,hj1,hj1',hj1l⟩:=idx_at nl iI (by omega) (by omega);obtain ⟨⟨r,f⟩,hf1⟩ : ∃ p,L[j1]?=some p:=⟨_,List.getElem?_eq_getElem (by omega)⟩;have x1:=row_cell hR2 (flatRefs_get (i:=j1) (r:=r) (by rw [List.getElem?_map,hf1];rfl))
 have hl1:(j1:Int)<(nl:Int):=by omega
 have hl0:¬ ((nl:Int)=0):=by omega
 have hnl2:2<=nl:=by omega
 have hnl18:nl<=18:=by omega
 have hb2:w2.cell? ⟨w.heap.size,4,none⟩=some (.slice pa pn pc):=(h1.out.2.2.trans hu).cell0 (cell_at (j:=4) HBX.out rfl);obtain ⟨K,F,⟨T,q,hk,hFq⟩,hX,hXl,hn,hSH,htl,hpl⟩:=hM2;obtain ⟨htk,hden⟩:=hSH.g.nm r f (List.mem_of_getElem? hf1);have HK:=Lib.hid (And.intro htk hden);have HKI:=Lib.hid hk;have HNN:=Lib.hid hn
 have HPL:Hid (K.A.places<=4096):=by show _<=_;omega
 have HB2:=Lib.hid hb2;have hrl:=hk.ok.ref_lt htk;clear hu hR2 hf1 hX hXl hn hSH htl htk hden hk hFq h1 hL2 hL18 hpl hb2;go_upto_region 6 with fail;have htb:=heap_alloc_new w2 (.cells #[.slice none 0 0,.slice none 0 0,.slice none 0 0] 92 (0,0));have hu3:Upd [] w2 (w2.alloc (.cells #[.slice none 0 0,.slice none 0 0,.slice none 0 0] 92 (0,0))):=(Upd.refl _ _).alloc _;obtain ⟨w3,hw3⟩ : ∃ w3,w2.alloc (.cells #[.slice none 0 0,.slice none 0 0,.slice none 0 0] 92 (0,0))=w3:=⟨_,rfl⟩;rw [hw3] at htb hu3 ⊢;have hz2:∀ k,k∈q.all b->k<w2.heap.size:=HKI.out.mem.lt;have hNI:NetIn w3 w2.heap.size K [] (.slice none 0 0) (.slice none 0 0) (.slice none 0 0):=⟨htb,World.ownsRow_nil _ _ _ _,World.ownsRow_nil _ _ _ _,World.ownsRow_nil _ _ _ _⟩
 have HTK:=Lib.hid (ntake_spec w2.heap.size b r K T q _ _ _ w3 HPL.out (HKI.out.upd hu3 (by simp)) hNI (fun k hk hm=>by
  have:=hz2 k hk
  simp [netS,Value.ownBlock] at hm;omega) HK.out.1)
 have HU3:=Lib.hid (HUA.out.trans hu3);have HB3:=Lib.hid (hu3.cell0 HB2.out);have HQ2:=Lib.hid hz2;have hsz2:w.heap.size<=w2.heap.size:=HUA.out.size;have hszl:w.heap.size<w2.heap.size:=World.block_lt_of_cell? _ _ HB2.out;have HK3:=Lib.hid (HKI.out.upd hu3 (by simp));generalize w2.heap.size=tb at *;clear htb hu3 hw3 hz2 hNI x1 hj1 hj1' hj1l hl1 hl0;go_wp2_with fail;refine HTK.out.mono ?_;rintro e w4 hE;obtain ⟨N,rv,nv,wv,rfl,hA,hN4,hu4,hs4⟩:=hE.ex;have hof:=hA.of;rw [List.nil_append] at hN4
 have hS0:∀ k,k∈netS tb (.slice none 0 0) (.slice none 0 0) (.slice none 0 0)->k=tb:=fun k hm=>by simpa [netS,Value.ownBlock] using hm
 have hk4:KerIn w4 b K T q:=HK3.out.upd hu4 fun k hk hm=>by
  have:=HQ2.out k hk
  have:=hS0 k hm;omega
 have hUw:Upd [] w w4:=HU3.out.then hu4 fun k hm=>.inr (by rw [hS0 k hm];exact hsz2)
 have htl:=hA.net.len_places hk4.ok;rw [List.nil_append] at htl
 have hNl:N.length<=4094:=by have:=HPL.out;omega
 obtain ⟨na,nc,hnv,hna⟩:=row_nil_len hN4.nn;have HOF:=Lib.hid (And.intro hof (And.intro hN4 (And.intro hk4 hUw)))
 have c1:w4.cell? ⟨tb,1,none⟩=some (.slice na N.length nc):=by rw [<- hnv];exact cell_at hN4.blk rfl
 have hzt:tb<w4.heap.size:=heap_lt hN4.blk
 have hb4:w4.cell? ⟨w.heap.size,4,none⟩=some (.slice pa pn pc):=(hu4.cell (World.block_lt_of_cell? _ _ HB3.out) fun hm=>by
  have h2:w.heap.size=tb:=hS0 _ hm
  omega).trans HB3.out
 have HB4:=Lib.hid hb4;have HNV:=Lib.hid hnv
 have HVF:Hid (∀ x,x∈N->K.vof x<64):=fun x hx=>by
  have hu:=(hof.mem x).1 hx;have h2:=hu.node hk4.ok.wf HK.out.1;have:=hk4.ok.wf.vof_lt h2.1 h2.2;have:=hk4.ok.wf.vs;omega
 clear hE hA hN4 hu4 hs4 hof hS0 hk4 hUw htl hna HTK hb4 hnv;go_wp2_with fail
 go_loopg [9,52] N.length (fun gg s9 s52 wr=>∃ i:Nat,N.length-i=gg/\i<=N.length/\s52=.int .i64 i/\s9=.int .u64 ((N.take i).foldl (fun s x=>supStep s (K.vof x)) 0)/\Upd [] w4 wr)
 case atStart=>exact ⟨0,by omega,by omega,rfl,rfl,Upd.refl _ _⟩
 case round =>
  obtain ⟨i,rfl,hi,rfl,rfl,hU⟩:=hrel
  by_cases hlt:i<N.length
  ·have hil:(i:Int)<(N.length:Int):=by omega
   obtain ⟨x,hx⟩ : ∃ x,N[i]?=some x:=⟨_,List.getElem?_eq_getElem hlt⟩;have hvx:=HVF.out x (List.mem_of_getElem? hx);have hnr:=HOF.out.2.1.nn;rw [HNV.out] at hnr;obtain ⟨gr,rfl⟩:=row_some hnr (by omega)
   have hr:=row_keep hnr fun k hk=>hU.block k (hnr.lt k hk).2 (by simp)
   have hun:=(HOF.out.1.mem x).1 (List.mem_of_getElem? hx);have htx:=hun.node HOF.out.2.2.1.ok.wf HK.out.1;obtain ⟨p,vn,hp,hpt,hpv,_⟩:=HOF.out.2.2.1.ok.wf.node_at htx.1 htx.2
   have hpi:(N.map K.pl)[i]?=some p:=by rw [List.getElem?_map,hx];show some (K.pl x)=_;rw [KV.pl_at hp]
   have d0:wr.cell? ⟨gr,i*3,none⟩=some (.int .i64 p.var):=row_cell hr (by have:=flatNodes_get (N.map K.pl) i 0 (by omega);rw [Nat.add_zero] at this;rw [this,hpi];rfl);have d1:wr.cell? ⟨gr,i*3+1,none⟩=some (.int .u32 p.lo):=row_cell hr (by rw [flatNodes_get (N.map K.pl) i 1 (by omega),hpi];rfl);have d2:wr.cell? ⟨gr,i*3+2,none⟩=some (.int .u32 p.hi):=row_cell hr (by rw [flatNodes_get (N.map K.pl) i 2 (by omega),hpi];rfl)
   have hvo:K.vof x=vn:=by unfold KV.vof;rw [hp];show p.var.toNat=vn;omega
   rw [hvo] at hvx
   have hvi:(vn:Int)<64:=by omega
   have HST:Hid ((N.take (i+1)).foldl (fun s x=>supStep s (K.vof x)) 0=supStep ((N.take i).foldl (fun s x=>supStep s (K.vof x)) 0) vn):=by
    show _=_
    rw [List.take_add_one,hx,List.foldl_append]
    show supStep _ (K.vof x)=_
    rw [hvo]
   rw [hpv] at d0;obtain ⟨S,hS⟩ : ∃ S,(N.take i).foldl (fun s x=>supStep s (K.vof x)) 0=S:=⟨_,rfl⟩;rw [hS] at HST ⊢;have HU:=Lib.hid hU;have hbx:=heap_alloc_new wr (.cells #[.int .i64 (vn:Int),.int .u32 p.lo,.int .u32 p.hi] 95 (0,0));have b0:(wr.alloc (.cells #[.int .i64 (vn:Int),.int .u32 p.lo,.int .u32 p.hi] 95 (0,0))).cell? ⟨wr.heap.size,0,none⟩=some (.int .i64 vn):=cell_at hbx rfl;clear hU hnr hr hun htx hp hpt hpv hpi hvo hS hbx hx;go_wp2_with fail
   go_roundg (N.length-(i+1))
   case measure=>omega
   case rel=>exact ⟨i+1,rfl,by omega,by simp,by rw [HST.out];rfl,HU.out.alloc _⟩
  ·obtain rfl:i=N.length:=by omega
   have hil:¬ ((N.length:Int)<(N.length:Int)):=by omega
   rw [List.take_length];have hkr:KerIn wr b K T q:=HOF.out.2.2.1.upd hU (by simp);have HU:=Lib.hid hU;obtain ⟨S,hS⟩ : ∃ S,N.foldl (fun s x=>supStep s (K.vof x)) 0=S:=⟨_,rfl⟩;rw [hS];have HSE:=Lib.hid hS;obtain ⟨pm,hpm⟩ : ∃ pm,min pn 10=pm:=⟨_,rfl⟩
   have hpm1:pm<=pn:=by omega
   have hpm2:pm<=10:=by omega
   have hmin1:min (pn:Int) 10=(pm:Int):=by omega
   have HSP:=Lib.hid (support_spec b r K T q wr hkr HK.out.1);clear hU hkr hS hpm hlt;go_wp2_with fail;refine HSP.out.mono ?_;rintro e w5 hQ;obtain ⟨N1,hN1,rfl,hk5,hu5⟩:=hQ.ex;rw [hN1.one.of.sup_eq hk5.ok HK.out.1 HOF.out.1,HSE.out]
   have hrow:(w5.alloc (.cells #[.int .u32 r,.int .u32 r,.int .u32 1] 62 (0,0))).ownsRow 0 62 1 (.slice (some ⟨w5.heap.size,0,none⟩) 3 3) [r,r,1].length (flatRefs [r,r,1]) :=
    World.ownsRow_lit (base:=0) (e:=62) (size:=1) w5 #[.int .u32 r,.int .u32 r,.int .u32 1] 3 (Nat.zero_le _) (by unfold maxLen;omega) rfl
   have HSZ:=Lib.hid (size12_spec b _ [r,r,1] K T q _ (hk5.upd ((Upd.refl [] w5).alloc (.cells #[.int .u32 r,.int .u32 r,.int .u32 1] 62 (0,0))) (by simp)) hrow (fun s hs=>by
    simp at hs
    rcases hs with rfl | rfl
    ·exact HK.out.1
    ·exact hk5.ok.tk_const (by omega)) (by simp))
   have HU5:=Lib.hid (HU.out.trans hu5);clear hQ hN1 hk5 hu5 hrow HSP HU;go_wp2_with fail;refine HSZ.out.mono ?_;rintro e w6 hQ;obtain ⟨N3,hN3,rfl,hk6,hu6⟩:=hQ.ex;rw [hN3.of3.len_eq HOF.out.1];have HU6:=Lib.hid ((HU5.out.alloc _).trans hu6);have HPS:=Lib.hid (paths_spec b r K T q w6 hk6 HK.out.1);clear hQ hN3 hk6 hu6 HSZ HU5;go_wp2_with fail;refine HPS.out.mono ?_;rintro e w7 hQ;obtain ⟨rfl,hk7,hu7⟩:=hQ;have hU7:=HU6.out.trans hu7
   have hin:r<2\/r∈N:=by
    rcases Nat.lt_or_ge r 2 with h | h
    ·exact .inl h
    ·exact .inr ((HOF.out.1.mem r).2 (.refl h))
   have HCT:=Lib.hid (ncount_spec tb r K N rv nv wv w7 (HOF.out.2.1.keep0 hU7) (by omega) hin);have HK7:=Lib.hid (And.intro hk7 hU7);have d1:=hU7.cell0 c1;obtain ⟨P,hPe⟩ : ∃ P,u64m (K.way r)=P:=⟨_,rfl⟩;rw [hPe] at HCT
   simp only [hPe]
   have q1:(S != S)=false:=by simp
   have q2:((N.length:Int) != (N.length:Int))=false:=by simp
   have q3:(P != P)=false:=by simp
   clear hk7 hU7 hu7 hin hPe HPS HU6 c1;go_wp2_with fail;refine HCT.out.mono ?_;rintro e w8 ⟨rfl,hu8⟩;have HK8:=Lib.hid (And.intro (HK7.out.1.upd hu8 (by simp)) (HK7.out.2.trans hu8));have d4:=(HK7.out.2.trans hu8).cell0 HB4.out;clear hu8 HCT d1;go_wp2_with fail
   go_loopg [118] pm (fun gg s118 wx=>∃ m:Nat,pm-m=gg/\m<=pm/\s118=.int .i64 m/\Upd [] w8 wx)
   case atStart=>exact ⟨0,by omega,by omega,rfl,Upd.refl _ _⟩
   case round =>
    obtain ⟨m,rfl,hm,rfl,hUm⟩:=hrel
    by_cases hlt3:m<pm
    ·have hml:(m:Int)<(pm:Int):=by omega
     obtain ⟨x,hx,hc⟩:=HPT.out.row.at_ m (by omega);subst hx;have hcr:=((HOF.out.2.2.2.trans HK8.out.2).trans hUm).cell0 hc;have hlen:=HPT.out.row.len
     have hpz:Ps[m]?=some (Ps.getD m 0):=by
      rw [List.getD_eq_getElem?_getD,List.getElem?_eq_getElem (by omega)];rfl
     have hx64:U64 (Ps.getD m 0):=wf_u64 (HPT.out.wf _ (List.mem_of_getElem? hpz));generalize Ps.getD m 0=z at *;have HEV:=Lib.hid (eval_spec b r z K T q wr (HK8.out.1.upd hUm (by simp)) HK.out.1 hx64);have HVL:=Lib.hid (fun y (u:Upd [] wr y)=>value_spec b r z K _ y ⟨T,q,HK8.out.1.upd (hUm.trans u) (by simp),rfl⟩ HK.out.1 hx64);obtain ⟨fz,hfz⟩ : ∃ fz,(K.den r fun v=>nb z v)=fz:=⟨_,rfl⟩;rw [hfz] at HEV
     simp only [hfz] at HVL
     have hff:(fz != fz)=false:=by simp
     have HUM:=Lib.hid hUm;clear hUm hc hlen hpz hx64 hfz;go_wp2_with fail;refine HEV.out.mono ?_;rintro e w12 hQ;obtain ⟨rfl,_,hu12⟩:=hQ;have HVL2:=Lib.hid (HVL.out _ hu12);clear hcr HEV HVL;go_wp2_with fail;refine HVL2.out.mono ?_;rintro e w13 ⟨rfl,hu13⟩;have HUE:=Lib.hid ((HUM.out.trans hu12).trans hu13);clear hu12 hu13 HVL2;go_wp2_with fail
     go_roundg (pm-(m+1))
     case measure=>omega
     case rel=>exact ⟨m+1,rfl,by omega,by simp,HUE.out⟩
    ·obtain rfl:m=pm:=by omega
     have hml:¬ ((m:Int)<(m:Int)):=by omega
     have HUE:=Lib.hid ((HOF.out.2.2.2.trans HK8.out.2).trans hUm);clear hUm hlt3;go_wp2_with fail;go_ret;exact ⟨rfl,HUE.out⟩
end Go.Proofs.YtlkgkojidclncaaGreat
