import Derived.Test.YtpfafhmkbcahhaaGreatPT48
import Derived.Test.YtpfafhmkbcahhaaGreatPT49
set_option maxRecDepth 100000
set_option maxHeartbeats 6400000
namespace Go.Proofs.YtpfafhmkbcahhaaGreat
open Go.RowKit Go.Maps Go.ChangeMaps Go.WideShapes
def AllRel (M:MV) (g:Int) (a b c:Nat) (E:Int) (M':MV):Prop :=
 (growE g=1/\a=0/\b=0/\c=0/\E=1/\M'=M)\/(growE g=0/\E=0/\∃ Q,QSort M M.n Q/\a=M.live/\b=(M.allF g Q).M.live/\c=(M.allF g Q).sw/\M'=(M.allF g Q).M)
theorem AllRel.one {M M1 M2:MV} {g E1 E2:Int} {a1 b1 c1 a2 b2 c2:Nat} (h:AllRel M g a1 b1 c1 E1 M1) (k:AllRel M g a2 b2 c2 E2 M2):a1=a2/\b1=b2/\c1=c2/\E1=E2/\M1=M2:=by
 rcases h with ⟨h0,rfl,rfl,rfl,rfl,rfl⟩ | ⟨h0,rfl,Q,hQ,rfl,rfl,rfl,rfl⟩ <;> rcases k with ⟨k0,rfl,rfl,rfl,rfl,rfl⟩ | ⟨k0,rfl,Q',kQ,rfl,rfl,rfl,rfl⟩
 ·exact ⟨rfl,rfl,rfl,rfl,rfl⟩
 ·rw [h0] at k0;exact absurd k0 (by decide)
 ·rw [h0] at k0;exact absurd k0 (by decide)
 ·obtain rfl:=hQ.one kQ
  exact ⟨rfl,rfl,rfl,rfl,rfl⟩
theorem AllRel.tr {M M':MV} {g E:Int} {a b c:Nat} (h:AllRel M g a b c E M') (hn:M.n<=6) (hl:M.order.length=M.n):M'.trail.length<=M.trail.length+36:=by
 rcases h with ⟨_,_,_,_,_,rfl⟩ | ⟨_,_,Q,hQ,_,_,_,rfl⟩
 ·omega
 ·have:=(MV.allF_ok hn hl g Q).tr
  have:=hQ.len;omega
theorem growE_or (g:Int):(growE g=1/\(g<100\/1000<g))\/(growE g=0/\∃ k:Nat,g=(k:Int)/\100<=k/\k<=1000):=by
 unfold growE
 by_cases h:g<100\/1000<g
 ·rw [if_pos h];exact .inl ⟨rfl,h⟩
 ·rw [if_neg h];exact .inr ⟨rfl,g.toNat,by omega,by omega,by omega⟩
structure AllXP (b:Nat) (K:KV) (F:List Nat) (M:MV) (g:Int) (w:World) (e:Ending) (w':World):Prop where
 ex:∃ (r1 r2 r3:Nat) (E:Int) (M':MV),AllRel M g r1 r2 r3 E M'/\e=.returned (.tuple #[.agg #[.int .i64 r1,.int .i64 r2,.int .i64 r3,.bool false],.int .i64 E])/\KMove b K F M' w w'
theorem allx_spec (b:Nat) (g:Int) (K:KV) (F:List Nat) (M:MV) (w:World) (h:KerAt w b K F) (hm:KM K M) (ht:M.trail.length<=800000) :
  Calls Tryz.prog 36 #[.pointer (some ⟨b,0,none⟩),.int .i64 g] w fun e w'=>AllXP b K F M g w e w':=by
 rcases growE_or g with ⟨h1,_⟩ | ⟨h0,k,rfl,k1,k2⟩
 ·refine (sall_bad b g w h1).mono ?_
  rintro e w' ⟨rfl,u⟩;exact ⟨0,0,0,1,M,.inl ⟨h1,rfl,rfl,rfl,rfl,rfl⟩,rfl,KMove.same h hm u⟩
 ·refine (all_spec b k K F M w h hm ht k1 k2).mono ?_
  rintro e w' hP;obtain ⟨Q,hQ,rfl,hv⟩:=hP.ex;exact ⟨_,_,_,0,_,.inr ⟨h0,rfl,Q,hQ,rfl,rfl,rfl,rfl⟩,rfl,hv⟩
structure DalXP (m:Nat) (M:MV) (p0:MPtr) (Z:List Nat) (g:Int) (w:World) (e:Ending) (w':World):Prop where
 ex:∃ (r1 r2 r3:Nat) (E:Int) (M':MV),AllRel M g r1 r2 r3 E M'/\e=.returned (.tuple #[.agg #[.int .i64 r1,.int .i64 r2,.int .i64 r3,.bool false],.int .i64 E])/\ModE m p0 Z M' w w'
theorem dall_bad (m:Nat) (g:Int) (M:MV) (p0:MPtr) (Z:List Nat) (w:World) (h:ModIn w m M p0 Z) (hg:g<100\/1000<g):Calls Tryz.prog 37 #[.pointer (some ⟨m,0,none⟩),.int .i64 g] w fun e w'=>e=.returned (.tuple #[.agg #[.int .i64 0,.int .i64 0,.int .i64 0,.bool false],.int .i64 1])/\Upd [] w w':=by
 have HRI:Hid ((Tryz.prog.info? 36).map (·.size)=some 4):=by show _=_;kernel_rfl
 have HB:=Lib.hid (heap_alloc_new w (.cells #[.int .i64 0,.int .i64 0,.int .i64 0,.bool false] 36 (0,0)))
 have hE:M.oneE 0 g=1:=by unfold MV.oneE;rw [if_pos hg]
 have HCK:=Lib.hid (fun z (u:Upd [] w z)=>rcheck_spec m 0 g M p0 Z z (h.keep0 u));rw [hE] at HCK;clear h hg hE
 go_enter Tryz.func37,Tryz.ntmps37
 go_wp2_with fail;refine (HCK.out _ ((Upd.refl _ _).alloc _)).mono ?_;rintro e w1 ⟨rfl,rfl⟩;go_wp2_with fail;exact bodyPost_ret (ret_rep rfl _ _ w.heap.size #[.int .i64 0,.int .i64 0,.int .i64 0,.bool false] (.int .i64 1) _ rfl rfl HB.out Tryz.underlying36 rfl HRI.out) rfl ⟨rfl,(Upd.refl _ _).alloc _⟩
theorem dallx_spec (m:Nat) (g:Int) (M:MV) (p0:MPtr) (Z:List Nat) (w:World) (h:ModIn w m M p0 Z) (hZ:∀ k,k∈Z->k<w.heap.size) (hG:M.Good) (hn1:1<=M.n) (ht:M.trail.length<=700000) :
  Calls Tryz.prog 37 #[.pointer (some ⟨m,0,none⟩),.int .i64 g] w fun e w'=>DalXP m M p0 Z g w e w':=by
 rcases growE_or g with ⟨h1,hg⟩ | ⟨h0,k,rfl,k1,k2⟩
 ·refine (dall_bad m g M p0 Z w h hg).mono ?_
  rintro e w' ⟨rfl,u⟩;exact ⟨0,0,0,1,M,.inl ⟨h1,rfl,rfl,rfl,rfl,rfl⟩,rfl,ModE.same h u⟩
 ·refine (dall_spec m k M p0 Z w h hZ hG hn1 ht k1 k2).mono ?_
  rintro e w' hP;obtain ⟨Q,hQ,rfl,hv⟩:=hP.ex;exact ⟨_,_,_,0,_,.inr ⟨h0,rfl,Q,hQ,rfl,rfl,rfl,rfl⟩,rfl,hv⟩
theorem siftAlls_walk (n room g:Int) (la wa:Option Addr) (ln lc wn wk:Nat) (Ls Ws:List Int) (w:World) (hL:RowOf w .i64 la ln Ls) (hW:RowOf w .u64 wa wn Ws) (hU:∀ x,x∈Ws->U64 x) :
  Calls Tryz.prog 8 #[.agg #[.int .i64 n,.int .i64 room,.slice la ln lc,.slice wa wn wk],.int .i64 g] w fun e w'=>e=.returned (.bool true)/\Upd [] w w':=by
 have HLD:Hid (∀ x:World,Upd [] w x->Calls Tryz.prog 15 #[.agg #[.int .i64 n,.int .i64 room,.slice la ln lc,.slice wa wn wk]] x fun e w'=>LaidX n room ln Ws x e w'):=fun x u =>
  laid_specX n room la wa ln lc wn wk Ls Ws x (hL.keep0 u) (hW.keep0 u) hU
 have HU0:=Lib.hid ((Upd.refl [] w).alloc (.cells #[.int .i64 n,.int .i64 room,.slice la ln lc,.slice wa wn wk] 25 (0,0)));clear hL hW hU
 go_enter Tryz.func8,Tryz.ntmps8
 go_wp2_with fail;refine (HLD.out _ HU0.out).mono ?_;rintro e w1 hE;obtain ⟨b,m,_,_,K,F,M,p,refs,tabs,rfl,hm,hlg,hal,hlo,hu,hpl,hhd,hrl,hhl,hkt,hmt,hvr,hrf,hM⟩:=hE.ex;obtain ⟨xa,xc,rfl,_⟩:=row_nil_len hm.rr;obtain ⟨ya,yc,rfl,_⟩:=hm.tt.form;have e0:worldV b m (.slice xa refs.length xc) (.slice ya tabs.length yc)=.agg #[.pointer (some ⟨b,0,none⟩),.pointer (some ⟨m,0,none⟩),.slice xa refs.length xc,.slice ya tabs.length yc]:=rfl;rw [e0];have hu2:Upd [] w1 (w1.alloc (.cells #[.pointer (some ⟨b,0,none⟩),.pointer (some ⟨m,0,none⟩),.slice xa refs.length xc,.slice ya tabs.length yc] 31 (0,0))):=(Upd.refl _ _).alloc _;have hwz:=HU0.out.size;have hsz1:=hu.size
 have HI:Hid (SftI w w.heap.size w1.heap.size b m (.slice xa refs.length xc) (.slice ya tabs.length yc) refs tabs 0 (w1.alloc (.cells #[.pointer (some ⟨b,0,none⟩),.pointer (some ⟨m,0,none⟩),.slice xa refs.length xc,.slice ya tabs.length yc] 31 (0,0)))):=by
  refine ⟨⟨K,F,M,p,⟨heap_alloc_new _ _,hm.keep0 hu2,⟨fun hk=>by have:=hm.ker.lt _ hk;omega,fun hk=>by have:=hm.mod.lt _ hk;omega⟩,fun k hk=>?_,by rw [World.size_alloc];omega⟩,KM.of hlg hkt hmt,hlg,hal,hrf,by rw [hmt];simp⟩,(HU0.out.trans hu).trans hu2⟩
  rcases hk with h | h | h | h | h
  ·have:=hlo k (.inl h);omega
  ·have:=hlo k (.inr (.inl h));omega
  ·omega
  ·have:=hlo k (.inr (.inr (.inl h)));omega
  ·have:=hlo k (.inr (.inr (.inr h)));omega
 generalize hwA:w1.alloc (.cells #[.pointer (some ⟨b,0,none⟩),.pointer (some ⟨m,0,none⟩),.slice xa refs.length xc,.slice ya tabs.length yc] 31 (0,0))=wA at *;have HWA:=Lib.hid hwA;clear hE hm hlg hal hlo hu hpl hhd hrl hhl hkt hmt hvr hrf hM e0 hu2 hwz hsz1 hwA HLD HU0;go_upto_region 2 with fail;rw [HWA.out];generalize w1.heap.size=a at *;go_wp2_with fail;refine (awake17_spec _).mono ?_;rintro e wB ⟨rfl,hu⟩;have HUB:=Lib.hid hu;clear hu;have hup:=HI.out.up;obtain ⟨K,F,M,p,q1A,hKM,hLG,hAL,hRF,hTL⟩:=HI.out.ex;have hLI:=q1A.keep0 HUB.out;obtain ⟨k0,k1,k2,k3⟩:=hLI.cells;have HALL:=Lib.hid (allx_spec b g K F M wB hLI.mem.ker hKM (by omega));have HX:=Lib.hid (And.intro hLI (And.intro hKM (And.intro hLG (And.intro hAL (And.intro hRF (And.intro hTL (hup.trans HUB.out)))))));clear hup q1A hLI hKM hLG hAL hRF hTL HI HUB;go_upto_region 4 with fail;go_wp2_with fail;refine HALL.out.mono ?_;rintro e w2 hP;obtain ⟨r1,r2,r3,E,M',hrel,rfl,hmv⟩:=hP.ex;obtain ⟨K',F',q1,q2,q3,q4,q5⟩:=hmv.ex;obtain ⟨hLI2,hfro⟩:=HX.out.1.kernel q1 q4 q5;have hup2:=Fro.upd HX.out.2.2.2.2.2.2 (Nat.le_refl _) hfro;have hRX:=hLI2.keep0 ((Upd.refl [] w2).alloc (.cells #[.int .i64 r1,.int .i64 r2,.int .i64 r3,.bool false] 36 (0,0)));have hok:=HX.out.1.mem.ker.ok;have hgood:=HX.out.2.1.good hok
 have hn1:1<=M.n:=by rw [HX.out.2.1.agr.same.n];exact hok.wf.vs.1
 have hTL:=HX.out.2.2.2.2.2.1;have hdoc:=dallx_spec m g M p (F'++p.all m) _ hRX.mem.mod hRX.mem.z hgood hn1 (by omega);have HS2:=Lib.hid (HX.out.2.2.1.stay HX.out.2.2.2.1 q3 q1.ok q2 HX.out.2.2.2.2.1);have HKM2:=Lib.hid q2;have hn6:=hrel.tr hgood.fit.n6 hgood.len;have hb1:=heap_alloc_new w2 (.cells #[.int .i64 r1,.int .i64 r2,.int .i64 r3,.bool false] 36 (0,0))
 have hplt:∀ k,k∈p.all m->k<w2.heap.size:=fun k hk=>hLI2.mem.z k (List.mem_append.2 (.inr hk))
 have hup3:=hup2.alloc (.cells #[.int .i64 r1,.int .i64 r2,.int .i64 r3,.bool false] 36 (0,0));obtain ⟨_,k1',_,_⟩:=hRX.cells;generalize hw2:w2.alloc (.cells #[.int .i64 r1,.int .i64 r2,.int .i64 r3,.bool false] 36 (0,0))=wC at *;have HWC:=Lib.hid hw2;have HRX:=Lib.hid (And.intro hRX (And.intro hb1 (And.intro hplt hup3)));have HDOC:=Lib.hid hdoc;have HRE:=Lib.hid hrel;clear hP hmv q1 q2 q3 q4 q5 hLI2 hfro hup2 hRX hok hdoc hb1 hplt hup3 hw2 hrel k0 k1 k2 k3 HALL hgood hn1 hTL;go_upto_region 5 with fail;rw [HWC.out];go_wp2_with fail;refine HDOC.out.mono ?_;rintro e w3 hQ;obtain ⟨s1,s2,s3,E',M'',hrel,rfl,hmd⟩:=hQ.ex;obtain ⟨rfl,rfl,rfl,rfl,rfl⟩:=HRE.out.one hrel;obtain ⟨p',hLI3,hfro,um,sm⟩:=HRX.out.1.model2 hmd;have hup4:=Fro.upd HRX.out.2.2.2 (Nat.le_refl _) hfro;have hb3:=(um.block w2.heap.size (heap_lt HRX.out.2.1) (fun hk=>Nat.lt_irrefl _ (HRX.out.2.2.1 _ hk))).trans HRX.out.2.1;have hu4:Upd [] w3 (w3.alloc (.cells #[.int .i64 r1,.int .i64 r2,.int .i64 r3,.bool false] 36 (0,0))):=(Upd.refl [] w3).alloc _;have hLI4:=hLI3.keep0 hu4;have hb4:=(hu4.block _ (heap_lt hb3) (by simp)).trans hb3;have hb5:=heap_alloc_new w3 (.cells #[.int .i64 r1,.int .i64 r2,.int .i64 r3,.bool false] 36 (0,0));have hlo3:=HS2.out.1
 have htrE:K'.trail.length=M'.trail.length:=by rw [HKM2.out.tr]
 have hTL:=HX.out.2.2.2.2.2.1
 have HST:Hid (∀ z,Upd [] (w3.alloc (.cells #[.int .i64 r1,.int .i64 r2,.int .i64 r3,.bool false] 36 (0,0))) z->Calls Tryz.prog 19 #[.agg #[.pointer (some ⟨b,0,none⟩),.pointer (some ⟨m,0,none⟩),.slice xa refs.length xc,.slice ya tabs.length yc]] z fun e w'=>e=.returned (.bool true)/\Upd [] z w'):=fun z u =>
  stands_spec b m _ _ K' F' _ p' refs tabs z (WIn.of (hLI4.keep0 u).mem hlo3) htrE (by omega)
 have HUP:Hid (Upd [] w (w3.alloc (.cells #[.int .i64 r1,.int .i64 r2,.int .i64 r3,.bool false] 36 (0,0)))):=hup4.trans hu4;obtain ⟨j0,j1,j2,j3⟩:=hLI4.cells;have x0:=cell_at (j:=0) hb4 rfl;have x1:=cell_at (j:=1) hb4 rfl;have x2:=cell_at (j:=2) hb4 rfl;have x3:=cell_at (j:=3) hb4 rfl;have y0:=cell_at (j:=0) hb5 rfl;have y1:=cell_at (j:=1) hb5 rfl;have y2:=cell_at (j:=2) hb5 rfl;have y3:=cell_at (j:=3) hb5 rfl;clear hQ hLI3 hfro um sm hup4 hb3 hu4 hLI4 hb4 hb5 hlo3 htrE k1' hrel hmd hTL;go_wp2_with fail;refine (HST.out _ (Upd.refl _ _)).mono ?_;rintro e w5 ⟨rfl,hu⟩;have HU5:=Lib.hid (HUP.out.trans hu);clear hu HST HUP x0 x1 x2 x3 y0 y1 y2 y3 j0 j1 j2 j3;go_wp2_with fail;go_ret;exact ⟨rfl,HU5.out⟩
end Go.Proofs.YtpfafhmkbcahhaaGreat
