import Derived.Test.YtpfafhmkbcahhaaGreatPS32
import Derived.Test.YtpfafhmkbcahhaaGreatPS43
namespace Go.Proofs.YtpfafhmkbcahhaaGreat
open Go.RowKit Go.Maps Go.ChangeMaps Go.WideShapes
theorem WMem.otherR {w w':World} {b m B:Nat} {rv tv:Value} {K:KV} {F:List Nat} {M:MV} {p:MPtr} {refs:List Nat} {tabs:List TV} {cs:Array Value} {fr:Nat × Nat} (h:WMem w b m rv tv K F M p refs tabs) (hb:w.heap[B]?=some (.cells cs 36 fr)) (u:Upd [B] w w') (hF:B∉F):WMem w' b m rv tv K F M p refs tabs:=by
  have nb:∀ {k:Nat},k∈[B]→k=B:=fun {k} hk=>by simpa using hk
  have keepT:∀ {Z:List Nat} {d:Value} {s:TV},TIn w Z d s→TIn w' Z d s:=fun {Z d s} hd =>
    ⟨hd.ok,row_keep hd.row fun k hk=>u.block k (hd.row.lt k hk).2 fun hm=>blk_ne hd.row hb (by decide) (by rw [← nb hm]; exact hk),hd.fr⟩
  obtain ⟨ds,d1,d2,d3⟩:=h.mod.hs.ex;obtain ⟨es,e1,e2,e3⟩:=h.tt.ex
  refine ⟨h.ker.upd u fun k hk hm=>hF (by rw [← nb hm]; exact hk),⟨?_,row_keep h.mod.os fun k hk=>u.block k (h.mod.os.lt k hk).2 fun hm=>blk_ne h.mod.os hb (by decide) (by rw [← nb hm]; exact hk),
    ⟨ds,d1,row_keep d2 fun k hk=>u.block k (d2.lt k hk).2 fun hm=>blk_ne d2 hb (by decide) (by rw [← nb hm]; exact hk),fun i t c hi hc=>keepT (d3 i t c hi hc)⟩,
    row_keep h.mod.ts fun k hk=>u.block k (h.mod.ts.lt k hk).2 fun hm=>blk_ne h.mod.ts hb (by decide) (by rw [← nb hm]; exact hk),h.mod.ne,h.mod.sz⟩,h.dj,
    row_keep h.rr fun k hk=>u.block k (h.rr.lt k hk).2 fun hm=>blk_ne h.rr hb (by decide) (by rw [← nb hm]; exact hk),h.rf,
    ⟨es,e1,row_keep e2 fun k hk=>u.block k (e2.lt k hk).2 fun hm=>blk_ne e2 hb (by decide) (by rw [← nb hm]; exact hk),fun i t c hi hc=>keepT (e3 i t c hi hc)⟩,h.tt.fr⟩
  rw [u.block m (heap_lt h.mod.blk) fun hm=>?_]
  · exact h.mod.blk
  · have:=nb hm
    subst this;have h1:=h.mod.blk;rw [hb] at h1
    injection h1 with h1; injection h1 with _ h1 _; exact absurd h1 (by decide)
theorem LIn.otherR {w w':World} {n0 a b m B:Nat} {rv tv:Value} {K:KV} {F:List Nat} {M:MV} {p:MPtr} {refs:List Nat} {tabs:List TV} {cs:Array Value} (h:LIn w n0 a b m rv tv K F M p refs tabs) (hb:w.heap[B]?=some (.cells cs 36 (0,0))) (u:Upd [B] w w') (hF:B∉F):LIn w' n0 a b m rv tv K F M p refs tabs:=by
  have hne:a≠B:=by
    rintro rfl;have e:=h.blk;rw [hb] at e
    injection e with e
    injection e with _ e _
    exact absurd e (by decide)
  exact ⟨(u.block a (heap_lt h.blk) (by simpa using hne)).trans h.blk,h.mem.otherR hb u hF,h.na,h.lo,Nat.le_trans h.bl u.size⟩
def put0 (z:World) (B:Nat):World:=(((z.setCell ⟨B,0,none⟩ (.int .i64 0)).setCell ⟨B,1,none⟩ (.int .i64 0)).setCell ⟨B,2,none⟩ (.int .i64 0)).setCell ⟨B,3,none⟩ (.bool false)
theorem put0_spec {w z:World} {n0 a b m B:Nat} {rv tv:Value} {K:KV} {F:List Nat} {M:MV} {p:MPtr} {refs:List Nat} {tabs:List TV} (h:LIn z n0 a b m rv tv K F M p refs tabs) (u:Upd [] w z) (hb:z.heap[B]?=some (.cells #[.int .i64 0,.int .i64 0,.int .i64 0,.bool false] 36 (0,0))) (hF:B∉F) (hw:w.heap.size≤B) :
    LIn (put0 z B) n0 a b m rv tv K F M p refs tabs∧Upd [] w (put0 z B)∧(put0 z B).heap[B]?=some (.cells #[.int .i64 0,.int .i64 0,.int .i64 0,.bool false] 36 (0,0))∧∀ C,C≠B→(put0 z B).heap[C]?=z.heap[C]?:=by
  refine ⟨h.otherR hb (((((Upd.refl _ z).setCell (p:=⟨B,0,none⟩) (.inl (by simp)) _).setCell (p:=⟨B,1,none⟩) (.inl (by simp)) _).setCell (p:=⟨B,2,none⟩) (.inl (by simp)) _).setCell (p:=⟨B,3,none⟩) (.inl (by simp)) _) hF,
    ((((u.setCell (p:=⟨B,0,none⟩) (.inr hw) _).setCell (p:=⟨B,1,none⟩) (.inr hw) _).setCell (p:=⟨B,2,none⟩) (.inr hw) _).setCell (p:=⟨B,3,none⟩) (.inr hw) _),box4 hb _ _ _ _,fun C hC=>?_⟩
  unfold put0;rw [heap_set_ne hC,heap_set_ne hC,heap_set_ne hC,heap_set_ne hC]
set_option maxRecDepth 100000 in
set_option maxHeartbeats 6400000 in
theorem siftRefused_walk (n room v g:Int) (la wa:Option Addr) (ln lc wn wk:Nat) (Ls Ws:List Int) (w:World) (hL:RowOf w .i64 la ln Ls) (hW:RowOf w .u64 wa wn Ws) (hU:∀ x,x∈Ws→U64 x) :
    Calls Tryz.prog 11 #[.agg #[.int .i64 n,.int .i64 room,.slice la ln lc,.slice wa wn wk],.int .i64 v,.int .i64 g] w fun e w'=>e=.returned (.bool true)∧Upd [] w w':=by
  have HLD:Hid (∀ x:World,Upd [] w x→Calls Tryz.prog 15 #[.agg #[.int .i64 n,.int .i64 room,.slice la ln lc,.slice wa wn wk]] x fun e w'=>LaidX n room ln Ws x e w'):=fun x u =>
    laid_specX n room la wa ln lc wn wk Ls Ws x (hL.keep0 u) (hW.keep0 u) hU
  have HU0:=Lib.hid ((Upd.refl [] w).alloc (.cells #[.int .i64 n,.int .i64 room,.slice la ln lc,.slice wa wn wk] 25 (0,0)));clear hL hW hU
  go_enter Tryz.func11,Tryz.ntmps11
  go_wp2_with fail;refine (HLD.out _ HU0.out).mono ?_;rintro e w1 hE;obtain ⟨b,m,_,_,K,F,M,p,refs,tabs,rfl,hm,hlg,hal,hlo,hu,hpl,hhd,hrl,hhl,hkt,hmt,hvr,hrf,hM⟩:=hE.ex;obtain ⟨xa,xc,rfl,_⟩:=row_nil_len hm.rr;obtain ⟨ya,yc,rfl,_⟩:=hm.tt.form;have e0:worldV b m (.slice xa refs.length xc) (.slice ya tabs.length yc)=.agg #[.pointer (some ⟨b,0,none⟩),.pointer (some ⟨m,0,none⟩),.slice xa refs.length xc,.slice ya tabs.length yc]:=rfl;rw [e0];have hu2:Upd [] w1 (w1.alloc (.cells #[.pointer (some ⟨b,0,none⟩),.pointer (some ⟨m,0,none⟩),.slice xa refs.length xc,.slice ya tabs.length yc] 31 (0,0))):=(Upd.refl _ _).alloc _;have hwz:=HU0.out.size;have hsz1:=hu.size
  have HI:Hid (SftI w w.heap.size w1.heap.size b m (.slice xa refs.length xc) (.slice ya tabs.length yc) refs tabs 0 (w1.alloc (.cells #[.pointer (some ⟨b,0,none⟩),.pointer (some ⟨m,0,none⟩),.slice xa refs.length xc,.slice ya tabs.length yc] 31 (0,0)))):=by
    refine ⟨⟨K,F,M,p,⟨heap_alloc_new _ _,hm.keep0 hu2,⟨fun hk=>by have:=hm.ker.lt _ hk; omega,fun hk=>by have:=hm.mod.lt _ hk; omega⟩,fun k hk=>?_,by rw [World.size_alloc]; omega⟩,KM.of hlg hkt hmt,hlg,hal,hrf,by rw [hmt]; simp⟩,(HU0.out.trans hu).trans hu2⟩
    rcases hk with h | h | h | h | h
    · have:=hlo k (.inl h); omega
    · have:=hlo k (.inr (.inl h)); omega
    · omega
    · have:=hlo k (.inr (.inr (.inl h))); omega
    · have:=hlo k (.inr (.inr (.inr h))); omega
  generalize hwA:w1.alloc (.cells #[.pointer (some ⟨b,0,none⟩),.pointer (some ⟨m,0,none⟩),.slice xa refs.length xc,.slice ya tabs.length yc] 31 (0,0))=wA at *;have HWA:=Lib.hid hwA;clear hE hm hlg hal hlo hu hpl hhd hrl hhl hkt hmt hvr hrf hM e0 hu2 hwz hsz1 hwA HLD HU0;go_upto_region 2 with fail;rw [HWA.out];generalize w1.heap.size=a at *;go_wp2_with fail;refine (awake17_spec _).mono ?_;rintro e wB ⟨rfl,hu⟩;have HUB:=Lib.hid hu;clear hu;have hup:=HI.out.up
  have HIB:Hid (∀ z,Upd [] wB z→SftI w w.heap.size a b m (.slice xa refs.length xc) (.slice ya tabs.length yc) refs tabs 0 z):=fun z u=>by
    obtain ⟨K1,F1,M1,p1,q1,q2,q3,q4,q5,q6⟩:=HI.out.ex;exact ⟨⟨K1,F1,M1,p1,q1.keep0 (HUB.out.trans u),q2,q3,q4,q5,q6⟩,(hup.trans HUB.out).trans u⟩
  clear hup;go_upto_region 4 with fail;go_wp2_with fail;refine (one_nil v g _).mono ?_;rintro e w2 ⟨rfl,hu⟩;have HU2:=Lib.hid hu;clear hu;go_wp2_with fail;refine (sall_nil g _).mono ?_;rintro e w3 ⟨rfl,hu⟩;have HU3:=Lib.hid hu;clear hu;go_wp2_with fail;refine (settle_nil g _).mono ?_;rintro e w4 ⟨rfl,hu⟩;have HU4:=Lib.hid hu;clear hu;obtain ⟨W5,hW5⟩ : ∃ W5,w4.alloc (.cells #[.int .i64 0,.int .i64 0,.int .i64 0,.bool false] 36 (0,0))=W5:=⟨_,rfl⟩
  have hu5:Upd [] w4 W5:=by rw [← hW5]; exact (Upd.refl _ _).alloc _
  have HU5:Hid (Upd [] wB W5):=((((HU2.out.alloc _).trans HU3.out).alloc _).trans HU4.out).trans hu5;have r1:=(((HU3.out.alloc (.cells #[.int .i64 0,.int .i64 0,.int .i64 0,.bool false] 36 (0,0))).trans HU4.out).trans hu5).block w2.heap.size (by rw [World.size_alloc]; omega) (by simp);rw [heap_alloc_new] at r1;have r2:=(HU4.out.trans hu5).block w3.heap.size (by rw [World.size_alloc]; omega) (by simp);rw [heap_alloc_new] at r2
  have r3:W5.heap[w4.heap.size]?=some (.cells #[.int .i64 0,.int .i64 0,.int .i64 0,.bool false] 36 (0,0)):=by rw [← hW5]; exact heap_alloc_new _ _
  have hn12:w2.heap.size < w3.heap.size:=by have:=HU3.out.size; rw [World.size_alloc] at this; omega
  have hn23:w3.heap.size < w4.heap.size:=by have:=HU4.out.size; rw [World.size_alloc] at this; omega
  have HWB:=Lib.hid (show wB.heap.size≤w2.heap.size from HU2.out.size);have HW5:=Lib.hid hW5;obtain ⟨K1,F1,M1,p1,q1A,q2,q3,q4,q5,q6⟩:=HI.out.ex;have q1:=q1A.keep0 (HUB.out.trans HU5.out)
  have HBF:Hid (w2.heap.size∉F1∧w3.heap.size∉F1∧w4.heap.size∉F1):=by
    have h0:=HUB.out.size;have h1:=HU2.out.size;exact ⟨fun hk=>by have:=q1A.mem.ker.lt _ hk; omega,fun hk=>by have:=q1A.mem.ker.lt _ hk; omega,fun hk=>by have:=q1A.mem.ker.lt _ hk; omega⟩
  have HLO:Hid (w.heap.size≤w2.heap.size):=by have h0:=HUB.out.size; have h1:=HU2.out.size; have h2:=HI.out.up.size; show _≤_; omega
  have HUP:=Lib.hid (HIB.out W5 HU5.out).up;have HR:=Lib.hid (And.intro r1 (And.intro r2 r3));have HQ:=Lib.hid (And.intro q1 (And.intro q2 (And.intro q3 (And.intro q4 (And.intro q5 q6)))));have x0:=cell_at (j:=0) r1 rfl;have x1:=cell_at (j:=1) r1 rfl;have x2:=cell_at (j:=2) r1 rfl;have x3:=cell_at (j:=3) r1 rfl;have y0:=cell_at (j:=0) r2 rfl;have y1:=cell_at (j:=1) r2 rfl;have y2:=cell_at (j:=2) r2 rfl;have y3:=cell_at (j:=3) r2 rfl;have z0:=cell_at (j:=0) r3 rfl;have z1:=cell_at (j:=1) r3 rfl;have z2:=cell_at (j:=2) r3 rfl;have z3:=cell_at (j:=3) r3 rfl;obtain ⟨j0,j1,j2,j3⟩:=q1.cells;obtain ⟨d0,_⟩:=q1.mem.mod.cells;have HN12:=Lib.hid (And.intro hn12 hn23);clear r1 r2 r3 q1A q1 q2 q3 q4 q5 q6 hW5 hu5 hn12 hn23;generalize hb1:w2.heap.size=b1 at *;generalize hb2:w3.heap.size=b2 at *;generalize hb3:w4.heap.size=b3 at *;go_upto_region 7 with fail;rw [HW5.out];go_wp2_with fail;refine (queue_nil _).mono ?_;rintro e w5 ⟨rfl,rfl⟩;clear hb1 hb2 hb3;go_upto_region 10 with fail;have hn1:=HQ.out.2.2.1.agr.same.n;obtain ⟨q,hq⟩ : ∃ q,(!decide (0≤v∧v < (M1.n:Int)))=q:=⟨_,rfl⟩;obtain ⟨E,hE⟩ : ∃ E,M1.oneE v g=E:=⟨_,rfl⟩;obtain ⟨G,hG⟩ : ∃ G,growE g=G:=⟨_,rfl⟩;have HE:=Lib.hid hE;have HG:=Lib.hid hG;clear hE hG hn1
  go_cut [90] from 80 to 90 (fun s90 wx=>s90=.bool q∧wx=w5)
  case first =>
    by_cases h1:v < 0
    · have hd:decide (v < 0)=true:=decide_eq_true h1
      obtain rfl:q=true:=by rw [← hq,decide_eq_false (by omega)]; rfl
      clear hq;go_wp2_with fail;go_meet;exact ⟨rfl,rfl⟩
    · have hd:decide (v < 0)=false:=decide_eq_false h1
      by_cases h2:(M1.n:Int)≤v
      · have hd2:decide ((M1.n:Int)≤v)=true:=decide_eq_true h2
        obtain rfl:q=true:=by rw [← hq,decide_eq_false (by omega)]; rfl
        clear hq;go_wp2_with fail;go_meet;exact ⟨rfl,rfl⟩
      · have hd2:decide ((M1.n:Int)≤v)=false:=decide_eq_false h2
        obtain rfl:q=false:=by rw [← hq,decide_eq_true (by omega)]; rfl
        clear hq;go_wp2_with fail;go_meet;exact ⟨rfl,rfl⟩
  case rest =>
    obtain ⟨rfl,rfl⟩:=hcut;have HQQ:=Lib.hid hq;clear hq;go_upto_if 90 with fail;obtain ⟨V6,hV6⟩ : ∃ V6:Int,(if q then 2 else 0)=V6:=⟨_,rfl⟩;have HV6:=Lib.hid hV6;clear hV6
    go_cut [16] from 16 to 16 (fun s16 wx=>s16=.int .i64 V6∧wx=wc)
    case first =>
      cases q with
      | true=>go_wp2_with fail; go_meet; exact ⟨by rw [← HV6.out]; rfl,rfl⟩
      | false=>go_wp2_with fail; go_meet; exact ⟨by rw [← HV6.out]; rfl,rfl⟩
    case rest =>
      obtain ⟨rfl,rfl⟩:=hcut;obtain ⟨gq,hgq⟩ : ∃ gq,decide (g < 100∨1000 < g)=gq:=⟨_,rfl⟩;go_upto_region 12 with fail
      go_cut [96] from 91 to 96 (fun s96 wx=>s96=.bool gq∧wx=wc)
      case first =>
        by_cases h1:g < 100
        · have hd:decide (g < 100)=true:=decide_eq_true h1
          obtain rfl:gq=true:=by rw [← hgq]; exact decide_eq_true (.inl h1)
          clear hgq;go_wp2_with fail;go_meet;exact ⟨rfl,rfl⟩
        · have hd:decide (g < 100)=false:=decide_eq_false h1
          by_cases h2:1000 < g
          · have hd2:decide (1000 < g)=true:=decide_eq_true h2
            obtain rfl:gq=true:=by rw [← hgq]; exact decide_eq_true (.inr h2)
            clear hgq;go_wp2_with fail;go_meet;exact ⟨rfl,rfl⟩
          · have hd2:decide (1000 < g)=false:=decide_eq_false h2
            obtain rfl:gq=false:=by rw [← hgq]; exact decide_eq_false (by omega)
            clear hgq;go_wp2_with fail;go_meet;exact ⟨rfl,rfl⟩
      case rest =>
        obtain ⟨rfl,rfl⟩:=hcut;have HGQ:=Lib.hid hgq
        have hGE:G=if gq then 1 else 0:=by
          rw [← HG.out,← HGQ.out]; unfold growE
          by_cases h:g < 100∨1000 < g
          · rw [if_pos h,decide_eq_true h]; rfl
          · rw [if_neg h,decide_eq_false h]; rfl
        have hEE:E=if gq then 1 else V6:=by
          rw [← HV6.out,← HE.out,← HGQ.out,← HQQ.out]; unfold MV.oneE
          by_cases h:g < 100∨1000 < g
          · rw [if_pos h,decide_eq_true h]; rfl
          · rw [if_neg h,decide_eq_false h]
            by_cases h2:0≤v∧v < M1.n
            · rw [if_pos h2,decide_eq_true h2]; rfl
            · rw [if_neg h2,decide_eq_false h2]; rfl
        clear hgq;go_upto_if 96 with fail
        go_cut [16,17] from 16 to 17 (fun s16 s17 wx=>s16=.int .i64 E∧s17=.int .i64 G∧wx=wc)
        case first =>
          have HEG:=Lib.hid (And.intro hEE hGE);clear hEE hGE
          cases gq with
          | true=>go_wp2_with fail; go_meet; exact ⟨by rw [HEG.out.1]; rfl,by rw [HEG.out.2]; rfl,rfl⟩
          | false=>go_wp2_with fail; go_meet; exact ⟨by rw [HEG.out.1]; rfl,by rw [HEG.out.2]; rfl,rfl⟩
        case rest =>
          obtain ⟨rfl,rfl,rfl⟩:=hcut
          by_cases hE0:E=0
          · have hG0:G=0:=by
              rw [hGE]; cases gq
              · rfl
              · rw [hEE] at hE0; simp at hE0
            subst hE0;subst hG0;clear hEE hGE;go_wp2_with fail;go_ret;exact ⟨rfl,HUP.out⟩
          · have hE1:(E == 0)=false:=by simpa using hE0
            have hRR:M1.oneR v g=#[.int .i64 0,.int .i64 0,.int .i64 0,.bool false]:=by unfold MV.oneR; rw [if_neg (by rw [HE.out]; exact hE0)]
            have hMM:M1.one v g=M1:=by unfold MV.one; rw [if_neg (by rw [HE.out]; exact hE0)]
            have HONE:=Lib.hid (one_spec b v g K1 F1 M1 wc HQ.out.1.mem.ker HQ.out.2.1 (by have:=HQ.out.2.2.2.2.2; omega));have HRM:=Lib.hid (And.intro hRR hMM);clear hEE hRR hMM d0;go_wp2_with fail;refine HONE.out.mono ?_;rintro e w7 hP;obtain rfl:=hP.en;rw [HRM.out.1,HE.out];obtain ⟨K7,F7,k1,k2,k3,k4,k5⟩:=hP.mv.ex;rw [HRM.out.2] at k2;obtain ⟨hLI7,hfro⟩:=HQ.out.1.kernel k1 k4 k5;have hup7:=Fro.upd HUP.out (Nat.le_refl _) hfro;obtain ⟨t1,t2,t3⟩:=HR.out
            have nF:∀ B,B∉F1→B < wc.heap.size→B∉F7:=fun B h1 h2 hk=>by
              rcases k5 B hk with h | h
              · exact h1 h
              · omega
            have HNF:=Lib.hid (And.intro (nF _ HBF.out.1 (heap_lt t1)) (And.intro (nF _ HBF.out.2.1 (heap_lt t2)) (nF _ HBF.out.2.2 (heap_lt t3))));have s1:=(k4.block b1 (heap_lt t1) HBF.out.1).trans t1;have s2:=(k4.block b2 (heap_lt t2) HBF.out.2.1).trans t2;have s3:=(k4.block b3 (heap_lt t3) HBF.out.2.2).trans t3;have HLG7:=Lib.hid (HQ.out.2.2.1.stay HQ.out.2.2.2.1 k3 k1.ok k2 HQ.out.2.2.2.2.1);have HS7:=Lib.hid (And.intro hLI7 (And.intro hup7 (And.intro s1 (And.intro s2 s3))));have HKM7:=Lib.hid k2;clear hP k1 k2 k3 k4 k5 hfro hup7 t1 t2 t3 nF x0 x1 x2 x3 y0 y1 y2 y3 z0 z1 z2 z3 j0 j1 j2 j3 HONE;have x0:=cell_at (j:=0) s1 rfl;have x1:=cell_at (j:=1) s1 rfl;have x2:=cell_at (j:=2) s1 rfl;have x3:=cell_at (j:=3) s1 rfl;have f0:=frozen_at 0 s1;have f1:=frozen_at 1 s1;have f2:=frozen_at 2 s1;have f3:=frozen_at 3 s1
            have HST:Hid (∀ z,LIn z w.heap.size a b m (.slice xa refs.length xc) (.slice ya tabs.length yc) K7 F7 M1 p1 refs tabs→Calls Tryz.prog 19 #[.agg #[.pointer (some ⟨b,0,none⟩),.pointer (some ⟨m,0,none⟩),.slice xa refs.length xc,.slice ya tabs.length yc]] z fun e w'=>e=.returned (.bool true)∧Upd [] z w'):=fun z hz =>
              stands_spec b m _ _ K7 F7 _ p1 refs tabs z (WIn.of hz.mem HLG7.out.1) (by rw [HKM7.out.tr]) (by have:=HQ.out.2.2.2.2.2; omega)
            have HW8:Hid (LIn ((((w7.setCell ⟨b1,0,none⟩ (.int .i64 0)).setCell ⟨b1,1,none⟩ (.int .i64 0)).setCell ⟨b1,2,none⟩ (.int .i64 0)).setCell ⟨b1,3,none⟩ (.bool false)) w.heap.size a b m (.slice xa refs.length xc) (.slice ya tabs.length yc) K7 F7 M1 p1 refs tabs) :=
              hLI7.otherR s1 (((((Upd.refl _ w7).setCell (p:=⟨b1,0,none⟩) (.inl (by simp)) _).setCell (p:=⟨b1,1,none⟩) (.inl (by simp)) _).setCell (p:=⟨b1,2,none⟩) (.inl (by simp)) _).setCell (p:=⟨b1,3,none⟩) (.inl (by simp)) _) HNF.out.1
            have HU8:Hid (Upd [] w ((((w7.setCell ⟨b1,0,none⟩ (.int .i64 0)).setCell ⟨b1,1,none⟩ (.int .i64 0)).setCell ⟨b1,2,none⟩ (.int .i64 0)).setCell ⟨b1,3,none⟩ (.bool false))) :=
              ((((HS7.out.2.1.setCell (p:=⟨b1,0,none⟩) (.inr HLO.out) _).setCell (p:=⟨b1,1,none⟩) (.inr HLO.out) _).setCell (p:=⟨b1,2,none⟩) (.inr HLO.out) _).setCell (p:=⟨b1,3,none⟩) (.inr HLO.out) _)
            obtain ⟨j0,j1,j2,j3⟩:=HW8.out.cells;have hE3:¬ E=0:=hE0
            have hEself:(E != E)=false:=by simp
            by_cases hG0:G=0
            · subst hG0
              clear hGE s1 s2 s3 hLI7;go_wp2_with fail;refine (HST.out _ HW8.out).mono ?_;rintro e w9 ⟨rfl,hu⟩;have HU9:=Lib.hid (HU8.out.trans hu);clear hu;go_wp2_with fail;go_ret;exact ⟨rfl,HU9.out⟩
            · have hG1:G=1:=by
                rw [hGE] at hG0 ⊢;cases gq
                · simp at hG0
                · rfl
              subst hG1;obtain ⟨W8,hW8⟩ : ∃ W8,put0 w7 b1=W8:=⟨_,rfl⟩;obtain ⟨o1,o2,o3,o4⟩:=put0_spec hLI7 HS7.out.2.1 s1 HNF.out.1 HLO.out;rw [hW8] at o1 o2 o3 o4;have e2:=(o4 b2 (by have:=HN12.out; omega)).trans s2;have e3:=(o4 b3 (by have:=HN12.out; omega)).trans s3;have HO8:=Lib.hid (And.intro o1 (And.intro o2 (And.intro o3 (And.intro e2 e3))));have HW8e:Hid ((((w7.setCell ⟨b1,0,none⟩ (.int .i64 0)).setCell ⟨b1,1,none⟩ (.int .i64 0)).setCell ⟨b1,2,none⟩ (.int .i64 0)).setCell ⟨b1,3,none⟩ (.bool false)=W8):=hW8;have HGG:=Lib.hid HG.out;clear hGE s1 s2 s3 hLI7 hW8 o2 o4 e2 e3 o3 hG0 HW8 HU8 j0 j1 j2 j3;obtain ⟨j0,j1,j2,j3⟩:=o1.cells;clear o1;go_upto_region 19 with fail;rw [HW8e.out];go_wp2_with fail;refine (sall_bad b g _ HGG.out).mono ?_;rintro e w9 ⟨rfl,hu⟩;have v1:=HO8.out.1.keep0 hu;have v2:=HO8.out.2.1.trans hu;have v3:=(hu.block b2 (heap_lt HO8.out.2.2.2.1) (by simp)).trans HO8.out.2.2.2.1;have v4:=(hu.block b3 (heap_lt HO8.out.2.2.2.2) (by simp)).trans HO8.out.2.2.2.2;obtain ⟨W9,hW9⟩ : ∃ W9,put0 w9 b2=W9:=⟨_,rfl⟩;obtain ⟨o1,o2,o3,o4⟩:=put0_spec v1 v2 v3 HNF.out.2.1 (by have:=HLO.out; have:=HN12.out; omega);rw [hW9] at o1 o2 o3 o4;have e3:=(o4 b3 (by have:=HN12.out; omega)).trans v4;have HO9:=Lib.hid (And.intro o1 (And.intro o2 (And.intro o3 e3)));have HW9e:Hid ((((w9.setCell ⟨b2,0,none⟩ (.int .i64 0)).setCell ⟨b2,1,none⟩ (.int .i64 0)).setCell ⟨b2,2,none⟩ (.int .i64 0)).setCell ⟨b2,3,none⟩ (.bool false)=W9):=hW9;clear x0 x1 x2 x3 f0 f1 f2 f3 j0 j1 j2 j3;obtain ⟨j0,j1,j2,j3⟩:=o1.cells;have x0:=cell_at (j:=0) v3 rfl;have x1:=cell_at (j:=1) v3 rfl;have x2:=cell_at (j:=2) v3 rfl;have x3:=cell_at (j:=3) v3 rfl;have f0:=frozen_at 0 v3;have f1:=frozen_at 1 v3;have f2:=frozen_at 2 v3;have f3:=frozen_at 3 v3;clear hu v1 v2 v3 v4 hW9 o1 o2 o3 o4 e3;go_upto_region 20 with fail;rw [HW9e.out];go_wp2_with fail;refine (settle_bad b g _ HGG.out).mono ?_;rintro e w10 ⟨rfl,hu⟩;have v1:=HO9.out.1.keep0 hu;have v2:=HO9.out.2.1.trans hu;have v3:=(hu.block b2 (heap_lt HO9.out.2.2.1) (by simp)).trans HO9.out.2.2.1;have v4:=(hu.block b3 (heap_lt HO9.out.2.2.2) (by simp)).trans HO9.out.2.2.2;obtain ⟨W10,hW10⟩ : ∃ W10,put0 w10 b3=W10:=⟨_,rfl⟩;obtain ⟨o1,o2,o3,o4⟩:=put0_spec v1 v2 v4 HNF.out.2.2 (by have:=HLO.out; have:=HN12.out; omega);rw [hW10] at o1 o2 o3 o4;have e2:=(o4 b2 (by have:=HN12.out; omega)).trans v3;have HO10:=Lib.hid (And.intro o1 o2);have HW10e:Hid ((((w10.setCell ⟨b3,0,none⟩ (.int .i64 0)).setCell ⟨b3,1,none⟩ (.int .i64 0)).setCell ⟨b3,2,none⟩ (.int .i64 0)).setCell ⟨b3,3,none⟩ (.bool false)=W10):=hW10;clear x0 x1 x2 x3 f0 f1 f2 f3 j0 j1 j2 j3;obtain ⟨j0,j1,j2,j3⟩:=o1.cells;have x0:=cell_at (j:=0) v4 rfl;have x1:=cell_at (j:=1) v4 rfl;have x2:=cell_at (j:=2) v4 rfl;have x3:=cell_at (j:=3) v4 rfl;have f0:=frozen_at 0 v4;have f1:=frozen_at 1 v4;have f2:=frozen_at 2 v4;have f3:=frozen_at 3 v4;have y0:=cell_at (j:=0) e2 rfl;have y1:=cell_at (j:=1) e2 rfl;have y2:=cell_at (j:=2) e2 rfl;have y3:=cell_at (j:=3) e2 rfl;have z0:=cell_at (j:=0) o3 rfl;have z1:=cell_at (j:=1) o3 rfl;have z2:=cell_at (j:=2) o3 rfl;have z3:=cell_at (j:=3) o3 rfl;clear hu v1 v2 v3 v4 hW10 o1 o2 o3 o4 e2;go_upto_region 21 with fail;rw [HW10e.out];go_wp2_with fail;refine (HST.out _ HO10.out.1).mono ?_;rintro e w11 ⟨rfl,hu⟩;have HU11:=Lib.hid (HO10.out.2.trans hu);clear hu;go_wp2_with fail;go_ret;exact ⟨rfl,HU11.out⟩
end Go.Proofs.YtpfafhmkbcahhaaGreat
