import Derived.Test.YtpfafhmkbcahhaaGreatPS32
import Derived.Test.YtpfafhmkbcahhaaGreatPS38
namespace Go.Proofs.YtpfafhmkbcahhaaGreat
open Go.RowKit Go.Maps Go.ChangeMaps Go.WideShapes
theorem MV.one_trail (M:MV) (hn:M.n≤6) (hl:M.order.length≤6) (v g:Int):(M.one v g).trail.length≤M.trail.length + 64:=by
  unfold MV.one;split
  · have hp:M.lvl v.toNat≤6:=Nat.le_trans List.idxOf_le_length hl
    generalize M.lvl v.toNat=p at *
    have hd:∀ d,distD M.n p d≤6:=fun d=>by unfold distD; split <;> omega
    unfold MV.oneD;obtain ⟨dn,hdn⟩ : ∃ dn,decide (M.n - 1 - p≤p)=dn:=⟨_,rfl⟩
    simp only [hdn]
    have f1:=M.runD_f p dn g.toNat (distD M.n p dn) 0 M.live 0;have f2:=M.runD_f p (!dn) g.toNat (distD M.n p (!dn)) 0 (M.runD p dn g.toNat (distD M.n p dn) 0 M.live 0).2.1 0;have h1:=hd dn;have h2:=hd (!dn);have a1:=f1.hi;have a2:=f2.hi;have a3:=f1.bj (Nat.le_refl _);have a4:=f2.bj (Nat.le_refl _);split
    · have:=M.goS_trail p (!dn) (M.runD p (!dn) g.toNat (distD M.n p (!dn)) 0 (M.runD p dn g.toNat (distD M.n p dn) 0 M.live 0).2.1 0).2.2
      show (M.goS p (!dn) _).trail.length≤_
      omega
    · have:=M.goS_trail p dn (M.runD p dn g.toNat (distD M.n p dn) 0 M.live 0).2.2
      show (M.goS p dn _).trail.length≤_
      omega
  · omega
set_option maxRecDepth 100000 in
set_option maxHeartbeats 6400000 in
theorem siftOnes_walk (n room g:Int) (la wa va:Option Addr) (ln lc wn wk vn vc:Nat) (Ls Ws Vs:List Int) (w:World) (hL:RowOf w .i64 la ln Ls) (hW:RowOf w .u64 wa wn Ws) (hU:∀ x,x∈Ws→U64 x) (hV:RowOf w .i64 va vn Vs) :
    Calls Tryz.prog 3 #[.agg #[.int .i64 n,.int .i64 room,.slice la ln lc,.slice wa wn wk],.slice va vn vc,.int .i64 g] w fun e w'=>e=.returned (.bool true)∧Upd [] w w':=by
  have HLD:Hid (∀ x:World,Upd [] w x→Calls Tryz.prog 15 #[.agg #[.int .i64 n,.int .i64 room,.slice la ln lc,.slice wa wn wk]] x fun e w'=>LaidX n room ln Ws x e w'):=fun x u =>
    laid_specX n room la wa ln lc wn wk Ls Ws x (hL.keep0 u) (hW.keep0 u) hU
  have HU0:=Lib.hid ((Upd.refl [] w).alloc (.cells #[.int .i64 n,.int .i64 room,.slice la ln lc,.slice wa wn wk] 25 (0,0)));have HV:=Lib.hid hV;clear hL hW hU hV
  go_enter Tryz.func3,Tryz.ntmps3
  go_wp2_with fail;refine (HLD.out _ HU0.out).mono ?_;rintro e w1 hE;obtain ⟨b,m,_,_,K,F,M,p,refs,tabs,rfl,hm,hlg,hal,hlo,hu,hpl,hhd,hrl,hhl,hkt,hmt,hvr,hrf,hM⟩:=hE.ex;obtain ⟨xa,xc,rfl,_⟩:=row_nil_len hm.rr;obtain ⟨ya,yc,rfl,_⟩:=hm.tt.form;have e0:worldV b m (.slice xa refs.length xc) (.slice ya tabs.length yc)=.agg #[.pointer (some ⟨b,0,none⟩),.pointer (some ⟨m,0,none⟩),.slice xa refs.length xc,.slice ya tabs.length yc]:=rfl;rw [e0];have hu2:Upd [] w1 (w1.alloc (.cells #[.pointer (some ⟨b,0,none⟩),.pointer (some ⟨m,0,none⟩),.slice xa refs.length xc,.slice ya tabs.length yc] 31 (0,0))):=(Upd.refl _ _).alloc _;have hwz:=HU0.out.size;have hsz1:=hu.size
  have HI:Hid (SftI w w.heap.size w1.heap.size b m (.slice xa refs.length xc) (.slice ya tabs.length yc) refs tabs 0 (w1.alloc (.cells #[.pointer (some ⟨b,0,none⟩),.pointer (some ⟨m,0,none⟩),.slice xa refs.length xc,.slice ya tabs.length yc] 31 (0,0)))):=by
    refine ⟨⟨K,F,M,p,⟨heap_alloc_new _ _,hm.keep0 hu2,⟨fun hk=>by have:=hm.ker.lt _ hk; omega,fun hk=>by have:=hm.mod.lt _ hk; omega⟩,fun k hk=>?_,by rw [World.size_alloc]; omega⟩,KM.of hlg hkt hmt,hlg,hal,hrf,by rw [hmt]; simp⟩,(HU0.out.trans hu).trans hu2⟩
    rcases hk with h | h | h | h | h
    · have:=hlo k (.inl h); omega
    · have:=hlo k (.inr (.inl h)); omega
    · omega
    · have:=hlo k (.inr (.inr (.inl h))); omega
    · have:=hlo k (.inr (.inr (.inr h))); omega
  generalize hwA:w1.alloc (.cells #[.pointer (some ⟨b,0,none⟩),.pointer (some ⟨m,0,none⟩),.slice xa refs.length xc,.slice ya tabs.length yc] 31 (0,0))=wA at *;have HWA:=Lib.hid hwA;clear hE hm hlg hal hlo hu hpl hhd hrl hhl hkt hmt hvr hrf hM e0 hu2 hwz hsz1 hwA HLD HU0;go_upto_region 2 with fail;rw [HWA.out];generalize w1.heap.size=a at *;go_wp2_with fail;refine (awake17_spec _).mono ?_;rintro e wB ⟨rfl,hu⟩;have HUB:=Lib.hid hu;clear hu;have hup:=HI.out.up
  have HIB:Hid (SftI w w.heap.size a b m (.slice xa refs.length xc) (.slice ya tabs.length yc) refs tabs 0 wB):=by
    obtain ⟨K1,F1,M1,p1,q1,q2,q3,q4,q5,q6⟩:=HI.out.ex;exact ⟨⟨K1,F1,M1,p1,q1.keep0 HUB.out,q2,q3,q4,q5,q6⟩,hup.trans HUB.out⟩
  clear hup;go_upto_region 4 with fail;go_wp2_with fail
  go_loopg [28] vn (fun gg s28 wr=>∃ i:Nat,vn - i=gg∧i≤vn∧i≤6∧s28=.int .i64 i∧SftI w w.heap.size a b m (.slice xa refs.length xc) (.slice ya tabs.length yc) refs tabs (64 * i) wr)
  case atStart=>exact ⟨0,by omega,by omega,by omega,rfl,HIB.out⟩
  case round =>
    obtain ⟨i,rfl,hi,hi6,rfl,hS⟩:=hrel;have hup:=hS.up
    by_cases hlt:i < vn
    · have hil:(i:Int) < (vn:Int):=by omega
      obtain ⟨x,hx,hc⟩:=HV.out.at_ i hlt;subst hx;have hcr:=hup.cell0 hc;generalize Vs.getD i 0=v at *
      by_cases h6:i=6
      · have hd6:(6:Int)≤(i:Int):=by omega
        have HUP:=Lib.hid hup;clear h6;clear hS hup hc;go_wp2_with fail;go_ret;exact ⟨rfl,HUP.out⟩
      · have hd6:¬ (6:Int)≤(i:Int):=by omega
        obtain ⟨K,F,M,p,hLI,hKM,hLG,hAL,hRF,hTL⟩:=hS.ex;obtain ⟨k0,k1,k2,k3⟩:=hLI.cells;have HONE:=Lib.hid (one_spec b v g K F M wr hLI.mem.ker hKM (by omega));have HX:=Lib.hid (And.intro hLI (And.intro hKM (And.intro hLG (And.intro hAL (And.intro hRF (And.intro hTL hup))))));clear hS hLI hKM hLG hAL hRF hTL hc;go_wp2_with fail;refine HONE.out.mono ?_;rintro e w2 hP;obtain rfl:=hP.en;obtain ⟨r1,r2,r3,hRR⟩:=oneR_cells M v g;obtain ⟨E,hE⟩ : ∃ E,M.oneE v g=E:=⟨_,rfl⟩;obtain ⟨K',F',q1,q2,q3,q4,q5⟩:=hP.mv.ex;obtain ⟨hLI2,hfro⟩:=HX.out.1.kernel q1 q4 q5;have hup2:=Fro.upd HX.out.2.2.2.2.2.2 (Nat.le_refl _) hfro;have hRX:=hLI2.keep0 ((Upd.refl [] w2).alloc (.cells #[.int .i64 r1,.int .i64 r2,.int .i64 r3,.bool false] 36 (0,0)));have hok:=HX.out.1.mem.ker.ok;have hdoc:=doc_spec m v g M p (F' ++ p.all m) _ hRX.mem.mod hRX.mem.z (HX.out.2.1.good hok) (HX.out.2.1.all hok) (by have:=HX.out.2.2.2.2.2.1; omega);have HS2:=Lib.hid (HX.out.2.2.1.stay HX.out.2.2.2.1 q3 q1.ok q2 HX.out.2.2.2.2.1);have HKM2:=Lib.hid q2;have hn6:(M.one v g).trail.length≤M.trail.length + 64:=M.one_trail HX.out.2.2.1.fit.n6 HX.out.2.2.1.fit.ol v g;have hTL:=HX.out.2.2.2.2.2.1;have hb1:=heap_alloc_new w2 (.cells #[.int .i64 r1,.int .i64 r2,.int .i64 r3,.bool false] 36 (0,0))
        have hplt:∀ k,k∈p.all m→k < w2.heap.size:=fun k hk=>hLI2.mem.z k (List.mem_append.2 (.inr hk))
        have hup3:=hup2.alloc (.cells #[.int .i64 r1,.int .i64 r2,.int .i64 r3,.bool false] 36 (0,0));obtain ⟨_,k1',_,_⟩:=hRX.cells;rw [hRR,hE];generalize hw2:w2.alloc (.cells #[.int .i64 r1,.int .i64 r2,.int .i64 r3,.bool false] 36 (0,0))=wC at *;have HWC:=Lib.hid hw2;have HRX:=Lib.hid (And.intro hRX (And.intro hb1 (And.intro hplt hup3)));have HDOC:=Lib.hid hdoc;have HRE:=Lib.hid (And.intro hRR hE);clear hP q1 q2 q3 q4 q5 hLI2 hfro hup2 hRX hok hdoc hb1 hplt hup3 hw2 hRR hE k0 k1 k2 k3 hcr HONE;go_upto_region 9 with fail;rw [HWC.out];go_wp2_with fail;refine HDOC.out.mono ?_;rintro e w3 hQ;obtain rfl:=hQ.en;rw [HRE.out.1,HRE.out.2];obtain ⟨p',hLI3,hfro,um,sm⟩:=HRX.out.1.model2 hQ.md;have hup4:=Fro.upd HRX.out.2.2.2 (Nat.le_refl _) hfro;have hb3:=(um.block w2.heap.size (heap_lt HRX.out.2.1) (fun hk=>Nat.lt_irrefl _ (HRX.out.2.2.1 _ hk))).trans HRX.out.2.1;have hu4:Upd [] w3 (w3.alloc (.cells #[.int .i64 r1,.int .i64 r2,.int .i64 r3,.bool false] 36 (0,0))):=(Upd.refl [] w3).alloc _;have hLI4:=hLI3.keep0 hu4;have hb4:=(hu4.block _ (heap_lt hb3) (by simp)).trans hb3;have hb5:=heap_alloc_new w3 (.cells #[.int .i64 r1,.int .i64 r2,.int .i64 r3,.bool false] 36 (0,0));have hlo3:=HS2.out.1
        have htrE:K'.trail.length=(M.one v g).trail.length:=by rw [HKM2.out.tr]
        have HST:Hid (∀ z,Upd [] (w3.alloc (.cells #[.int .i64 r1,.int .i64 r2,.int .i64 r3,.bool false] 36 (0,0))) z→Calls Tryz.prog 19 #[.agg #[.pointer (some ⟨b,0,none⟩),.pointer (some ⟨m,0,none⟩),.slice xa refs.length xc,.slice ya tabs.length yc]] z fun e w'=>e=.returned (.bool true)∧Upd [] z w'):=fun z u =>
          stands_spec b m _ _ K' F' _ p' refs tabs z (WIn.of (hLI4.keep0 u).mem hlo3) htrE (by omega)
        have HNX:Hid (∀ z,Upd [] (w3.alloc (.cells #[.int .i64 r1,.int .i64 r2,.int .i64 r3,.bool false] 36 (0,0))) z→SftI w w.heap.size a b m (.slice xa refs.length xc) (.slice ya tabs.length yc) refs tabs (64 * (i + 1)) z):=fun z u =>
          ⟨⟨K',F',_,p',hLI4.keep0 u,HKM2.out,HS2.out.1,HS2.out.2.1,HS2.out.2.2,by omega⟩,(hup4.trans hu4).trans u⟩
        obtain ⟨j0,j1,j2,j3⟩:=hLI4.cells;have x0:=cell_at (j:=0) hb4 rfl;have x1:=cell_at (j:=1) hb4 rfl;have x2:=cell_at (j:=2) hb4 rfl;have x3:=cell_at (j:=3) hb4 rfl;have y0:=cell_at (j:=0) hb5 rfl;have y1:=cell_at (j:=1) hb5 rfl;have y2:=cell_at (j:=2) hb5 rfl;have y3:=cell_at (j:=3) hb5 rfl;clear hQ hLI3 hfro um sm hup4 hb3 hu4 hLI4 hb4 hb5 hlo3 htrE k1';go_wp2_with fail;refine (HST.out _ (Upd.refl _ _)).mono ?_;rintro e w5 ⟨rfl,hu⟩;have HN5:=Lib.hid (HNX.out _ hu);clear hu HST HNX x0 x1 x2 x3 y0 y1 y2 y3 j0 j1 j2 j3;go_wp2_with fail
        go_roundg (vn - (i + 1))
        case measure=>omega
        case rel=>exact ⟨i + 1,rfl,by omega,by omega,by simp,HN5.out⟩
    · obtain rfl:i=vn:=by omega
      have hil:¬ (i:Int) < (i:Int):=by omega
      have HUP:=Lib.hid hup;clear hS hup;go_wp2_with fail;go_ret;exact ⟨rfl,HUP.out⟩
end Go.Proofs.YtpfafhmkbcahhaaGreat
