import Derived.Test.YtlkgkojidclncaaGreatTD23
import Derived.Test.YtlkgkojidclncaaGreatTD24
import Derived.Test.YtlkgkojidclncaaGreatTD11
import Derived.Test.YtlkgkojidclncaaGreatTD13
import Derived.Test.YtlkgkojidclncaaGreatTD22
import Derived.Test.YtlkgkojidclncaaGreatTD21
import Derived.Deep.DeepCutAuto
import Derived.Laws.ResultCell
import Derived.Laws.Rows
set_option maxRecDepth 100000
set_option maxHeartbeats 6400000
namespace Go.Proofs.YtlkgkojidclncaaGreat
open Go.RowKit Go.Maps Go.ChangeMaps Go.WideShapes
theorem set4 {x:World} {a B j:Nat} {v0 v1 v2 v3:Value} (h:x.cell? ⟨a,0,none⟩=some v0/\x.cell? ⟨a,1,none⟩=some v1/\x.cell? ⟨a,2,none⟩=some v2/\x.cell? ⟨a,3,none⟩=some v3) (hne:a≠B) (u:Value) :
  (x.setCell ⟨B,j,none⟩ u).cell? ⟨a,0,none⟩=some v0/\(x.setCell ⟨B,j,none⟩ u).cell? ⟨a,1,none⟩=some v1/\(x.setCell ⟨B,j,none⟩ u).cell? ⟨a,2,none⟩=some v2/\(x.setCell ⟨B,j,none⟩ u).cell? ⟨a,3,none⟩=some v3:=by
 have hb:(x.setCell ⟨B,j,none⟩ u).heap[a]?=x.heap[a]?:=heap_set_ne hne;exact ⟨(World.cell?_of_block (a:=⟨a,0,none⟩) hb).trans h.1,(World.cell?_of_block (a:=⟨a,1,none⟩) hb).trans h.2.1,(World.cell?_of_block (a:=⟨a,2,none⟩) hb).trans h.2.2.1,(World.cell?_of_block (a:=⟨a,3,none⟩) hb).trans h.2.2.2⟩
theorem box4 {x:World} {B:Nat} {t:TypeId} {y0 y1 y2 y3:Value} (h:x.heap[B]?=some (.cells #[y0,y1,y2,y3] t (0,0))) (v0 v1 v2 v3:Value) :
  ((((x.setCell ⟨B,0,none⟩ v0).setCell ⟨B,1,none⟩ v1).setCell ⟨B,2,none⟩ v2).setCell ⟨B,3,none⟩ v3).heap[B]?=some (.cells #[v0,v1,v2,v3] t (0,0)) :=
 heap_set_eq (j:=3) (heap_set_eq (j:=2) (heap_set_eq (j:=1) (heap_set_eq (j:=0) h v0) v1) v2) v3
theorem WMem.other {w w':World} {b m B:Nat} {rv tv:Value} {K:KV} {F:List Nat} {M:MV} {p:MPtr} {refs:List Nat} {tabs:List TV} {cs:Array Value} {fr:Nat × Nat} (h:WMem w b m rv tv K F M p refs tabs) (hb:w.heap[B]?=some (.cells cs 82 fr)) (u:Upd [B] w w') (hF:B∉F):WMem w' b m rv tv K F M p refs tabs:=by
 have nb:∀ {k:Nat},k∈[B]->k=B:=fun {k} hk=>by simpa using hk
 have keepT:∀ {Z:List Nat} {d:Value} {s:TV},TIn w Z d s->TIn w' Z d s:=fun {Z d s} hd =>
  ⟨hd.ok,row_keep hd.row fun k hk=>u.block k (hd.row.lt k hk).2 fun hm=>blk_ne hd.row hb (by decide) (by rw [<- nb hm];exact hk),hd.fr⟩
 obtain ⟨ds,d1,d2,d3⟩:=h.mod.hs.ex;obtain ⟨es,e1,e2,e3⟩:=h.tt.ex
 refine ⟨h.ker.upd u fun k hk hm=>hF (by rw [<- nb hm];exact hk),⟨?_,row_keep h.mod.os fun k hk=>u.block k (h.mod.os.lt k hk).2 fun hm=>blk_ne h.mod.os hb (by decide) (by rw [<- nb hm];exact hk),
  ⟨ds,d1,row_keep d2 fun k hk=>u.block k (d2.lt k hk).2 fun hm=>blk_ne d2 hb (by decide) (by rw [<- nb hm];exact hk),fun i t c hi hc=>keepT (d3 i t c hi hc)⟩,
  row_keep h.mod.ts fun k hk=>u.block k (h.mod.ts.lt k hk).2 fun hm=>blk_ne h.mod.ts hb (by decide) (by rw [<- nb hm];exact hk),h.mod.ne,h.mod.sz⟩,h.dj,
  row_keep h.rr fun k hk=>u.block k (h.rr.lt k hk).2 fun hm=>blk_ne h.rr hb (by decide) (by rw [<- nb hm];exact hk),h.rf,
  ⟨es,e1,row_keep e2 fun k hk=>u.block k (e2.lt k hk).2 fun hm=>blk_ne e2 hb (by decide) (by rw [<- nb hm];exact hk),fun i t c hi hc=>keepT (e3 i t c hi hc)⟩,h.tt.fr⟩
 rw [u.block m (heap_lt h.mod.blk) fun hm=>?_]
 ·exact h.mod.blk
 ·have:=nb hm
  subst this;have h1:=h.mod.blk;rw [hb] at h1
  injection h1 with h1;injection h1 with _ h1 _;exact absurd h1 (by decide)
theorem ModIn.lt {w:World} {m:Nat} {M:MV} {p:MPtr} {Z:List Nat} (h:ModIn w m M p Z):∀ k,k∈p.all m->k<w.heap.size:=fun k hk=>by
 rcases MPtr.mem.1 hk with rfl | h1 | h1 | h1
 ·exact heap_lt h.blk
 ·exact (h.os.lt k h1).2
 ·obtain ⟨xs,hr⟩:=h.hs.row;exact (hr.lt k h1).2
 ·exact (h.ts.lt k h1).2
theorem LIn.start {w9:World} {n0 s1 s2 a b m g1 g2 n R:Nat} {T:List DM} {q:KPtr} {p:MPtr} {c0 c1:Value} (hk:KerIn w9 b (KV.new n R) T q) (hm:ModIn w9 m (MV.new n R) p (p.all m))
  (hr:w9.heap[g1]?=some (.cells #[.int .u32 (0:Nat),.int .u32 (1:Nat)] 62 (0,0))) (h0:TIn w9 [] c0 (constT n false)) (h1:TIn w9 [] c1 (constT n true)) (z0:∀ k,c0.ownBlock=some k->s2<=k) (z1:∀ k,c1.ownBlock=some k->s2<=k)
  (ht:w9.heap[g2]?=some (.cells #[.int .i64 n,c0,.int .i64 n,c1] 110 (0,0)))
  (ha:w9.heap[a]?=some (.cells #[.pointer (some ⟨b,0,none⟩),.pointer (some ⟨m,0,none⟩),.slice (some ⟨g1,0,none⟩) 2 2,.slice (some ⟨g2,0,none⟩) 2 2] 82 (0,0)))
  (k1:∀ k,k∈q.all b->n0<=k/\k<s1) (k2:∀ k,k∈p.all m->s1<=k/\k<s2) (e1:s2<=g1) (e2:s2<=g2) (e3:s2<=a) (hn:n0<=s1) :
  LIn w9 n0 a b m (.slice (some ⟨g1,0,none⟩) 2 2) (.slice (some ⟨g2,0,none⟩) 2 2) (KV.new n R) (q.all b) (MV.new n R) p [0,1] [constT n false,constT n true]:=by
 have hm0:=k2 m (MPtr.mem.2 (.inl rfl))
 have zlt:∀ k,k∈q.all b++p.all m->k<s2:=fun k hk=>by
  rcases List.mem_append.1 hk with h | h
  ·have:=k1 k h;omega
  ·exact (k2 k h).2
 have nz:∀ {k:Nat},s2<=k->k∉q.all b++p.all m:=fun {k} hk hm=>by have:=zlt k hm;omega
 have nz1:∀ {k:Nat},s2<=k->k∉q.all b/\k∉p.all m:=fun {k} hk=>⟨fun h=>nz hk (List.mem_append.2 (.inl h)),fun h=>nz hk (List.mem_append.2 (.inr h))⟩
 have own:∀ {g k:Nat},(Value.slice (some ⟨g,0,none⟩) 2 2).ownBlock=some k->k=g:=fun {g k} h=>by simp [Value.ownBlock] at h;exact h.symm
 refine ⟨ha,⟨⟨T,q,hk,rfl⟩,⟨hm.blk,hm.os,?_,hm.ts,hm.ne,fun k hk=>List.mem_append.2 (.inr hk)⟩,fun k h1 h2=>?_,⟨rfl,.inr ⟨g1,2,_,rfl,Nat.zero_le _,hr,Nat.le_refl _,by unfold maxLen;omega,rfl,rfl⟩⟩,fun k hk=>?_,?_⟩,nz1 e3,fun k hk=>?_,?_⟩
 ·obtain ⟨cs,q1,q2,_⟩:=hm.hs.ex
  exact ⟨cs,q1,q2,fun i t c h=>by simp [MV.new] at h⟩
 ·have:=k1 k h1;have:=k2 k h2;omega
 ·rw [own hk];exact nz1 e1
 ·exact TLs.two (t0:=constT n false) (t1:=constT n true) ht ⟨h0.ok,h0.row,fun k hk=>nz (z0 k hk)⟩ ⟨h1.ok,h1.row,fun k hk=>nz (z1 k hk)⟩ (Nat.zero_le _) (nz e2)
 ·rcases hk with h | h | h | h | h
  ·exact (k1 k h).1
  ·have:=k2 k h;omega
  ·omega
  ·rw [own h];omega
  ·rw [own h];omega
 ·have:=heap_lt ha;omega
theorem getD_atI {l:List Int} {j:Nat} (h:j<l.length):l[j]?=some (l.getD j 0):=by
 rw [List.getD_eq_getElem?_getD,List.getElem?_eq_getElem h];rfl
theorem laid_specX (n room:Int) (la wa:Option Addr) (ln lc wn wk:Nat) (Ls Ws:List Int) (w:World) (hL:RowOf w .i64 la ln Ls) (hW:RowOf w .u64 wa wn Ws) (hU:∀ x,x∈Ws->U64 x) :
  Calls Tryz.prog 33 #[.agg #[.int .i64 n,.int .i64 room,.slice la ln lc,.slice wa wn wk]] w fun e w'=>LaidX n room ln Ws w e w':=by
 have HL:=Lib.hid hL;have HW:=Lib.hid hW;have HUW:=Lib.hid hU;obtain ⟨w0,hw0⟩ : ∃ w0,(w.alloc (.cells #[.int .i64 n,.int .i64 room,.slice la ln lc,.slice wa wn wk] 80 (0,0))).alloc (.cells #[.pointer none,.pointer none,.slice none 0 0,.slice none 0 0] 82 (0,0))=w0:=⟨_,rfl⟩
 have hsz:w0.heap.size=w.heap.size+2:=by rw [<- hw0,World.size_alloc,World.size_alloc]
 have hbx:w0.heap[w.heap.size]?=some (.cells #[.int .i64 n,.int .i64 room,.slice la ln lc,.slice wa wn wk] 80 (0,0)):=by rw [<- hw0];exact (Below.heap_alloc _ _ _ (heap_lt (heap_alloc_new _ _))).trans (heap_alloc_new _ _)
 have hrs:w0.heap[w.heap.size+1]?=some (.cells #[.pointer none,.pointer none,.slice none 0 0,.slice none 0 0] 82 (0,0)):=by
  rw [<- hw0];have h:=heap_alloc_new (w.alloc (.cells #[.int .i64 n,.int .i64 room,.slice la ln lc,.slice wa wn wk] 80 (0,0))) (.cells #[.pointer none,.pointer none,.slice none 0 0,.slice none 0 0] 82 (0,0))
  rw [World.size_alloc] at h;exact h
 have hu0:Upd [] w w0:=by rw [<- hw0];exact ((Upd.refl _ _).alloc _).alloc _
 have HBX:=Lib.hid (And.intro hbx (And.intro hrs (And.intro hu0 hsz)));have HW0:=Lib.hid hw0;have hroom:=roomN_lo room;have b0:w0.cell? ⟨w.heap.size,0,none⟩=some (.int .i64 n):=cell_at hbx rfl;have b1:w0.cell? ⟨w.heap.size,1,none⟩=some (.int .i64 room):=cell_at hbx rfl;clear hL hW hU hw0 hbx hrs hu0 hsz
 go_enter Tryz.func33,Tryz.ntmps33
 go_wp2_with fail;rw [HW0.out]
 go_region_held3 (fun x=>x.cell? ⟨w.heap.size,0,none⟩=some (.int .i64 n)/\x.cell? ⟨w.heap.size,1,none⟩=some (.int .i64 room)) (first | exact ⟨b0,b1⟩) (first | (go_at_call 104;refine (lvars_spec _ _).mono ?_;rintro e w1 ⟨⟨v,hvn,rfl,h1,h6⟩,rfl⟩;have HVN:=Lib.hid hvn;clear hvn))
 go_upto_region 2 with fail
 go_cut [23] from 18 to 22 (fun s23 wx=>s23=.bool (decide (room<2)||decide (1048576<room))/\Upd [] w0 wx)
 case first =>
  clear b0 b1
  cases hd:decide (room<2) with
  | true =>
   go_wp2_with fail;go_meet;exact ⟨by simp [hd],(Upd.refl _ _).drew⟩
  | false =>
   go_wp2_with fail;go_meet;exact ⟨by simp [hd],(Upd.refl _ _).drew⟩
 case rest =>
  obtain ⟨rfl,hux⟩:=hcut;have HUX:=Lib.hid hux;clear b0 b1 hux;obtain ⟨bb,hbb⟩ : ∃ bb,(decide (room<2)||decide (1048576<room))=bb:=⟨_,rfl⟩;have HBB:=Lib.hid hbb;rw [hbb];clear hbb;go_upto_if 23 with fail
  go_cut [5] from 24 to 24 (fun s5 wx=>s5=.int .i64 (roomN room:Nat)/\Upd [] w0 wx)
  case first =>
   cases bb with
   | true =>
    have hR:roomN room=200:=by unfold roomN;rw [if_pos (by simpa using HBB.out)]
    go_wp2_with fail;go_meet;exact ⟨by rw [hR];rfl,HUX.out⟩
   | false =>
    have hR:((roomN room:Nat):Int)=room:=by
     have:¬ (room<2\/1048576<room):=fun h=>by
      have:(decide (room<2)||decide (1048576<room))=true:=by simpa using h
      rw [HBB.out] at this;cases this
     unfold roomN;rw [if_neg this];omega
    go_wp2_with fail;go_meet;exact ⟨by rw [hR],HUX.out⟩
  case rest =>
  obtain ⟨rfl,hux⟩:=hcut;obtain ⟨R,hR⟩ : ∃ R,roomN room=R:=⟨_,rfl⟩;rw [hR] at hroom;rw [hR];clear HUX;have HUX:=Lib.hid (And.intro hux hR);have HN:=Lib.hid (And.intro h1 h6);have HRM:=Lib.hid hroom;clear hux hR;go_wp2_with fail;refine (knew_spec v R _ HN.out.1 (by omega) HRM.out.1 HRM.out.2).mono ?_;rintro e w1 ⟨b,T,q,rfl,hK,hu,hs⟩;have HK1:=Lib.hid (And.intro hK (And.intro hu hs));clear hK hu hs;go_wp2_with fail;refine (newmodel_spec v R _ (by omega) HRM.out.2).mono ?_;rintro e w2 hE;obtain ⟨m,p,rfl,hml,hM,hu,hs⟩:=hE.ex;have HM2:=Lib.hid (And.intro hM (And.intro hu (And.intro hs hml)));clear hE hM hu hs hml;go_wp2_with fail;refine (tconst_spec v false _ (by omega)).mono ?_;rintro e w3 hE;obtain ⟨c0,rfl,hT,hu⟩:=hE.ex;have HC0:=Lib.hid (And.intro hT hu);obtain ⟨xa,xc,hxv,_⟩:=row_nil_len hT.row;generalize hXW:(constT v false).ws.length=XW at hxv;subst hxv;clear hE hT hu;have e0:tabV (constT v false) (.slice xa XW xc)=.agg #[.int .i64 v,.slice xa XW xc]:=rfl;rw [e0];go_wp2_with fail;refine (tconst_spec v true _ (by omega)).mono ?_;rintro e w4 hE;obtain ⟨c1,rfl,hT,hu⟩:=hE.ex;have HC1:=Lib.hid (And.intro hT hu);obtain ⟨ya,yc,hyv,_⟩:=row_nil_len hT.row;generalize hYW:(constT v true).ws.length=YW at hyv;subst hyv;clear hE hT hu;have e1:tabV (constT v true) (.slice ya YW yc)=.agg #[.int .i64 v,.slice ya YW yc]:=rfl;rw [e1];clear e0 e1;go_upto_region 8 with fail;obtain ⟨wS,hwS⟩ : ∃ wS,(w4.alloc (.cells #[.int .i64 v,.slice xa XW xc,.int .i64 v,.slice ya YW yc] 110 (0,0))).alloc (.cells #[.pointer (some ⟨b,0,none⟩),.pointer (some ⟨m,0,none⟩),.slice (some ⟨w2.heap.size,0,none⟩) 2 2,.slice (some ⟨w4.heap.size,0,none⟩) 2 2] 82 (0,0))=wS:=⟨_,rfl⟩
  have hst:LIn wS w0.heap.size (w4.heap.size+1) b m (.slice (some ⟨w2.heap.size,0,none⟩) 2 2) (.slice (some ⟨w4.heap.size,0,none⟩) 2 2) (KV.new v R) (q.all b) (MV.new v R) p [0,1] [constT v false,constT v true]/\Upd [] w0 wS:=by
   have u0:=HUX.out.1;have u1:=HK1.out.2.1;have u2:=HM2.out.2.1;have u3:=HC0.out.2;have u4:=HC1.out.2;have z0:=u0.size;have z1:=u1.size;have z2:=u2.size;have z3:=u3.size;have z4:=u4.size;rw [World.size_alloc] at z3
   have u5:Upd [] w4 wS:=by rw [<- hwS];exact ((Upd.refl _ _).alloc _).alloc _
   have u24:Upd [] w2 wS:=(((Upd.refl [] w2).alloc _).trans (u3.trans u4)).trans u5
   refine ⟨LIn.start (s1:=w1.heap.size) (s2:=w2.heap.size) (HK1.out.1.upd (u2.trans u24) (by simp)) (HM2.out.1.keep0 u24) ?_ (((HC0.out.1.tin (Z:=[]) (by simp)).keep0 u4).keep0 u5) ((HC1.out.1.tin (Z:=[]) (by simp)).keep0 u5)
    (fun k hk=>?_) (fun k hk=>?_) ?_ ?_ (fun k hk=>⟨?_,HK1.out.1.mem.lt k hk⟩) (fun k hk=>⟨?_,?_⟩) (Nat.le_refl _) (by omega) (by omega) (by omega),((u0.trans u1).trans u2).trans u24⟩
   ·rw [((u3.trans u4).trans u5).block _ (heap_lt (heap_alloc_new _ _)) (by simp)];exact heap_alloc_new _ _
   ·have:=(HC0.out.1.row.lt k hk).1;rw [World.size_alloc] at this;omega
   ·have:=(HC1.out.1.row.lt k hk).1;omega
   ·rw [<- hwS];exact (Below.heap_alloc _ _ _ (heap_lt (heap_alloc_new _ _))).trans (heap_alloc_new _ _)
   ·have h:=heap_alloc_new (w4.alloc (.cells #[.int .i64 v,.slice xa XW xc,.int .i64 v,.slice ya YW yc] 110 (0,0))) (.cells #[.pointer (some ⟨b,0,none⟩),.pointer (some ⟨m,0,none⟩),.slice (some ⟨w2.heap.size,0,none⟩) 2 2,.slice (some ⟨w4.heap.size,0,none⟩) 2 2] 82 (0,0))
    rw [World.size_alloc] at h;rw [<- hwS];exact h
   ·rcases HK1.out.2.2 k hk with h | h
    ·cases h
    ·omega
   ·rcases HM2.out.2.2.1 k hk with h | h
    ·cases h
    ·exact h
   ·exact HM2.out.1.lt k hk
  have HST:=Lib.hid hst;rw [hwS];obtain ⟨a,ha⟩ : ∃ a,w4.heap.size+1=a:=⟨_,rfl⟩;rw [ha] at HST ⊢;have HA:=Lib.hid ha;have HMX:ln<=maxLen:=HL.out.mx;have HMW:wn<=maxLen:=HW.out.mx;unfold maxLen at HMX HMW;generalize hg1:Value.slice (some ⟨w2.heap.size,0,none⟩) 2 2=rv0 at HST;generalize hg2:Value.slice (some ⟨w4.heap.size,0,none⟩) 2 2=tv0 at HST
  have HLL:Hid (∀ x:World,Fro w0.heap.size wS x->(x.cell? ⟨w.heap.size,2,none⟩=some (.slice la ln lc)/\x.cell? ⟨w.heap.size,3,none⟩=some (.slice wa wn wk))/\Upd [] w x):=fun x f=>by
   have hb:wS.heap[w.heap.size]?=_:=(HST.out.2.block _ (by rw [HBX.out.2.2.2];omega) (by simp)).trans HBX.out.1;have h1:wS.cell? ⟨w.heap.size,2,none⟩=some (.slice la ln lc):=cell_at hb rfl;have h2:wS.cell? ⟨w.heap.size,3,none⟩=some (.slice wa wn wk):=cell_at hb rfl;exact ⟨⟨f.cell h1 (by rw [HBX.out.2.2.2];show w.heap.size<_;omega),f.cell h2 (by rw [HBX.out.2.2.2];show w.heap.size<_;omega)⟩,f.upd (HBX.out.2.2.1.trans HST.out.2) (by rw [HBX.out.2.2.2];omega)⟩
  have HRC:Hid (rv0=.slice (some ⟨w2.heap.size,0,none⟩) 2 2/\tv0=.slice (some ⟨w4.heap.size,0,none⟩) 2 2):=⟨hg1.symm,hg2.symm⟩;obtain ⟨⟨z2,z3⟩,_⟩:=HLL.out wS (Fro.refl _ _);have HPN:=Lib.hid (Ph1.new (n:=v) (R:=R) HN.out.1 HN.out.2 HRM.out.1 HRM.out.2);clear HK1 HM2 HC0 HC1 hst hwS hXW hYW ha hg1 hg2;go_wp2_with fail
  go_loopg [51] ln (fun g s51 wr=>∃ (i:Nat) (K:KV) (F:List Nat) (M:MV) (p:MPtr),ln-i=g/\i<=ln/\s51=.int .i64 i/\LIn wr w0.heap.size a b m rv0 tv0 K F M p [0,1] [constT v false,constT v true]/\Ph1 v R K M (min i 40)/\Fro w0.heap.size wS wr/\(i=0->M=MV.new v R))
  case atStart=>exact ⟨0,_,_,_,_,by omega,by omega,rfl,HST.out.1,by simpa using HPN.out,Fro.refl _ _,fun _=>rfl⟩
  case round =>
   obtain ⟨i,K,F,M,p,rfl,hi,rfl,hLI,hPH,hF,hMN⟩:=hrel;have HMN:=Lib.hid hMN;clear hMN;obtain ⟨⟨z2,z3⟩,huw⟩:=HLL.out _ hF
   by_cases hlt:i<ln
   ·obtain ⟨x,hx,hc⟩:=HL.out.at_ i hlt
    subst hx;have hcr:=huw.cell0 hc;generalize Ls.getD i 0=l at *
    have hil:(i:Int)<(ln:Int):=by omega
    obtain ⟨_,k1,_,_⟩:=hLI.cells
    by_cases h40:i<40
    ·have hd:decide ((i:Int)<40)=true:=by simp;omega
     have hm1:min i 40=i:=by omega
     have hm2:min (i+1) 40=i+1:=by omega
     rw [hm1] at hPH;obtain ⟨he,_,_⟩:=hPH.step hLI.mem.ker.ok l
     have htr:K.trail.length<=1000000:=by rw [hPH.tr];have:=hPH.tl;omega
     have HEX:=Lib.hid (exch_at b l K F wr.drew (hLI.mem.ker.upd (Upd.refl [] wr).drew (by simp)) hPH.us htr);rw [<- he] at HEX;have HX:=Lib.hid (And.intro hLI (And.intro hPH (And.intro hF (And.intro hm1 hm2))));have HEE0:∃ E,M.exchE l=E:=⟨_,rfl⟩;obtain ⟨E,hEE⟩:=HEE0;rw [hEE] at HEX;have HEE:=Lib.hid hEE;clear hEE hLI hPH hF he htr huw hm1 hm2
     have hzz:∀ x y:Int,(x == x)=true:=fun x _=>by simp
     go_wp2_with fail
     go_region_held3 (fun x=>x.cell? ⟨a,1,none⟩=some (.pointer (some ⟨m,0,none⟩))) (first | exact k1 | exact HQ.out.2.2 | (obtain ⟨_,hcc,_⟩:=HQ2.out;exact hcc.cells.2.1)) (first
      | (go_at_call 25;refine HEX.out.mono ?_;rintro e w5 ⟨K',F',rfl,hc,hK',hu,hs⟩;obtain ⟨hL5,hF5⟩:=(HX.out.1.keep0 (Upd.refl [] wr).drew).kernel hK' hu hs;have HQ:=Lib.hid (And.intro hL5 (And.intro (And.intro hc ((Fro.of0 (Upd.refl [] wr).drew).trans hF5)) hL5.cells.2.1));clear hc hK' hu hs hL5 hF5)
      | (go_at_call 77;refine (exch9_spec m M p (F'++p.all m) l _ HQ.out.1.mem.mod HQ.out.1.mem.z HX.out.2.1.fit HX.out.2.1.od (by have:=HX.out.2.1.tl;omega)).mono ?_;rintro e w6 hE;obtain ⟨rfl,hm⟩:=hE.ex;rw [HEE.out];have HQ2:=Lib.hid (LIn.exch HX.out.2.1 HX.out.1.mem.ker.ok HQ.out.2.1.1 HQ.out.1 hm);clear hE hm))
     go_wp2_with fail;obtain ⟨p',hL6,hP6,hF6⟩:=HQ2.out
     go_roundg (ln-(i+1))
     case measure=>omega
     case rel=>exact ⟨i+1,K',F',_,p',rfl,by omega,by simp,hL6,by rw [HX.out.2.2.2.2];exact hP6,HX.out.2.2.1.trans (HQ.out.2.1.2.trans hF6),fun h=>by omega⟩
    ·have hd:decide ((i:Int)<40)=false:=by simp;omega
     have HX:=Lib.hid (And.intro hLI (And.intro hPH hF));clear hLI hPH hF huw;go_wp2_with fail
     go_quiet (fail)
     go_wp2_with fail
     go_roundg (ln-(i+1))
     case measure=>omega
     case rel=>exact ⟨i+1,K,F,M,p,rfl,by omega,by simp,HX.out.1.keep0 ((Upd.refl _ _).drewN _),by have:=HX.out.2.1;rw [show min (i+1) 40=min i 40 by omega];exact this,HX.out.2.2.trans (Fro.of0 ((Upd.refl _ _).drewN _)),fun h=>by omega⟩
   ·obtain rfl:i=ln:=by omega
    have hil:¬ ((i:Int)<(i:Int)):=by omega
    obtain ⟨hlog,hall⟩:=hPH.log hLI.mem.ker.ok HN.out.2;have HX:=Lib.hid (And.intro hLI (And.intro hPH (And.intro hF (And.intro hlog hall))));clear hLI hPH hF huw hlog hall;go_wp2_with fail;obtain ⟨wB,hwB⟩ : ∃ wB,wr=wB:=⟨_,rfl⟩;subst hwB;obtain ⟨MA,hMA⟩ : ∃ MA,M=MA:=⟨_,rfl⟩;rw [hMA] at HMN;have HMA:=Lib.hid hMA;clear hMA
    go_loopg [73] wn (fun g s73 wx=>∃ (i c:Nat) (rv tv:Value) (K:KV) (F:List Nat) (M:MV) (p:MPtr) (refs:List Nat) (tabs:List TV),wn-i=g/\i<=wn/\s73=.int .i64 i/\LIn wx w0.heap.size a b m rv tv K F M p refs tabs/\WLog K M refs tabs/\WAll K refs tabs/\Fro w0.heap.size wS wx /\
     c<=i/\c<=8/\K.vars=v/\K.A.places=R/\(∀ x,K.hold x<=c)/\refs.length<=c+2/\M.held.length<=c/\Hid (M=laysT v MA (Ws.take (min i 8))/\∀ r,r∈refs->r<2\/0<K.hold r))
    case atStart=>exact ⟨0,0,_,_,_,_,_,_,_,_,by omega,by omega,rfl,HX.out.1,HX.out.2.2.2.1,HX.out.2.2.2.2,HX.out.2.2.1,by omega,by omega,HX.out.2.1.vr,HX.out.2.1.pl,fun x=>by rw [HX.out.2.1.h0];omega,by simp,by rw [HX.out.2.1.hb];simp,HMA.out,fun r hr=>.inl (by simp at hr;omega)⟩
    case round =>
     obtain ⟨j,c,rv,tv,K2,F2,M2,p2,refs,tabs,rfl,hj,rfl,hLI,hlog,hall,hF,hcj,hc8,hvr,hpl,hhd,hrl,hhl,HLX⟩:=hrel;obtain ⟨⟨z2,z3⟩,huw⟩:=HLL.out _ hF
     by_cases hjt:j<wn
     ·obtain ⟨y,hy,hc⟩:=HW.out.at_ j hjt
      subst hy;have hcr:=huw.cell0 hc;have hyu:U64 (Ws.getD j 0):=HUW.out _ (by rw [List.getD_eq_getElem?_getD,List.getElem?_eq_getElem (by rw [HW.out.len];exact hjt)];exact List.getElem_mem _)
      have HTK:Hid (j<8->Ws.take (min (j+1) 8)=Ws.take (min j 8)++[Ws.getD j 0]):=fun h8=>by
       rw [show min (j+1) 8=j+1 by omega,show min j 8=j by omega,List.take_add_one,getD_atI (by rw [HW.out.len];exact hjt)];rfl
      generalize Ws.getD j 0=u at *
      have hjl:(j:Int)<(wn:Int):=by omega
      have HX2:=Lib.hid (And.intro hLI (And.intro hlog (And.intro hall (And.intro hF (And.intro hvr (And.intro hpl hhd))))))
      by_cases h8:j<8
      ·have hd:decide ((j:Int)<8)=true:=by simp;omega
       have hd2:(j:Int)<8:=by omega
       clear hLI hlog hall hF huw hc hvr hpl hhd;go_wp2_with fail;refine (word_spec v u _ HN.out.1 HN.out.2 hyu).mono ?_;rintro e w5 hE;obtain ⟨t,ta,tn,tc,htn,rfl,hT,hu⟩:=hE.ex;have HT:=Lib.hid (And.intro hT (And.intro hu (show t.n=v by rw [htn];rfl)));have HTW:=Lib.hid htn;clear hE hT hu htn;have HLAY:=wlay_spec w0.heap.size a b m rv tv K2 F2 M2 p2 refs tabs (.slice ta tn tc) t w5 (HX2.out.1.keep0 HT.out.2.1) HX2.out.2.1 HX2.out.2.2.1 (HT.out.1.tin HX2.out.1.mem.z) (by rw [HT.out.2.2,HX2.out.2.2.2.2.1]) (fun k hk=>by have h1:=(HT.out.1.row.lt k hk).1;have h2:=heap_lt HX2.out.1.blk;omega) (fun x=>by have:=HX2.out.2.2.2.2.2.2 x;omega) (by omega) (by omega);unfold tabV at HLAY;rw [HT.out.2.2] at HLAY;have HLAY:=Lib.hid HLAY;go_wp2_with fail;refine HLAY.out.mono ?_;rintro e w6 hE;obtain ⟨rv',tv',K',F',M',p',refs',tabs',rfl,q1,q2,q3,q4,q5,q6,q7,q8,q9,q10⟩:=hE.ex;have HQ:=Lib.hid (And.intro q1 (And.intro q2 (And.intro q3 (And.intro q4 (And.intro q5 (And.intro q9 q8))))));have HQ2:=Lib.hid q10.2;clear hE q1 q2 q3 q4 q5 q8 q9 q10;go_wp2_with fail
       go_roundg (wn-(j+1))
       case measure=>omega
       case rel=>exact ⟨j+1,c+1,rv',tv',K',F',M',p',refs',tabs',rfl,by omega,by simp,HQ.out.1,HQ.out.2.1,HQ.out.2.2.1,(HX2.out.2.2.2.1.trans (Fro.of0 HT.out.2.1)).trans HQ.out.2.2.2.1,by omega,by omega,by rw [HQ.out.2.2.2.2.2.1.vr];exact HX2.out.2.2.2.2.1,by rw [HQ.out.2.2.2.2.2.1.pl];exact HX2.out.2.2.2.2.2.1,fun x=>by have:=HQ.out.2.2.2.2.1 x;have:=HX2.out.2.2.2.2.2.2 x;omega,by omega,by omega,by rw [HTK.out h8,HQ2.out.1,HTW.out];unfold laysT;rw [List.foldl_append,HLX.out.1];rfl,fun r hr=>by
        rcases HQ2.out.2.2 r hr with h | h
        ·exact (HLX.out.2 r h).imp id fun h=>Nat.lt_of_lt_of_le h (HQ2.out.2.1 r)
        ·exact h⟩
      ·have hd:decide ((j:Int)<8)=false:=by simp;omega
       have hd2:¬ (j:Int)<8:=by omega
       clear hLI hlog hall hF huw hc hvr hpl hhd;go_wp2_with fail
       go_roundg (wn-(j+1))
       case measure=>omega
       case rel=>exact ⟨j+1,c,rv,tv,K2,F2,M2,p2,refs,tabs,rfl,by omega,by simp,HX2.out.1,HX2.out.2.1,HX2.out.2.2.1,HX2.out.2.2.2.1,by omega,hc8,HX2.out.2.2.2.2.1,HX2.out.2.2.2.2.2.1,HX2.out.2.2.2.2.2.2,hrl,hhl,by rw [show min (j+1) 8=min j 8 by omega];exact HLX.out⟩
     ·obtain rfl:j=wn:=by omega
      have hjl:¬ ((j:Int)<(j:Int)):=by omega
      obtain ⟨ra,rc,hrv,_⟩:=row_nil_len hLI.mem.rr;obtain ⟨qa,qc,htv,_⟩:=hLI.mem.tt.form;subst hrv htv;have HX2:=Lib.hid (And.intro hLI (And.intro hlog (And.intro hall (And.intro hF (And.intro hvr (And.intro hpl hhd))))));clear hLI hlog hall hF huw hvr hpl hhd
      have hk1:K2.hold 1<65535:=by have:=HX2.out.2.2.2.2.2.2 1;omega
      go_wp2_with fail;refine (keep1_at b K2 F2 _ HX2.out.1.mem.ker hk1).mono ?_;rintro e w6 ⟨F',rfl,hK,hu,hs⟩;obtain ⟨hL6,hF6⟩:=HX2.out.1.kernel hK hu hs;obtain ⟨hlg,hal,hex,hhd⟩:=HX2.out.2.1.keepK HX2.out.2.2.1 HX2.out.1.mem.ker.ok;obtain ⟨k0,k1,_,_⟩:=hL6.cells;have km:=cell_at (j:=4) hL6.mem.mod.blk rfl;have kf:=frozen_at 4 hL6.mem.mod.blk;obtain ⟨p7,hL7,hF7⟩:=hL6.model (ModE.clear hL6.mem.mod hL6.mem.mod.sz);have hlg7:=hlg.clear;have HY:=Lib.hid (And.intro hL7 (And.intro hlg7 (And.intro hal (And.intro (HX2.out.2.2.2.1.trans (hF6.trans hF7)) (And.intro hex hhd)))));have HST7:=Lib.hid (stands_spec b m _ _ (K2.keepK 1) F' { M2 with trail:=[] } p7 refs tabs _ (WIn.of (hL7.keep0 (Upd.refl _ _).drew).mem hlg7) rfl (by simp));obtain ⟨y0,y1,y2,y3⟩:=hL7.cells;clear hK hu hs hL6 hF6 hL7 hF7 hlg hal hex hhd hlg7;obtain ⟨w7,hw7⟩ : ∃ w7,w6.setCell ⟨m,4,none⟩ (.slice none 0 0)=w7:=⟨_,rfl⟩;rw [hw7] at HY HST7 y0 y1 y2 y3;go_upto_region 22 with fail
      have HR7:Hid (∀ x:World,Upd [] w7 x->(x.cell? ⟨a,0,none⟩=some (.pointer (some ⟨b,0,none⟩))/\x.cell? ⟨a,1,none⟩=some (.pointer (some ⟨m,0,none⟩))/\x.cell? ⟨a,2,none⟩=some (.slice ra refs.length rc)/\x.cell? ⟨a,3,none⟩=some (.slice qa tabs.length qc))/\x.heap[w.heap.size+1]?=some (.cells #[.pointer none,.pointer none,.slice none 0 0,.slice none 0 0] 82 (0,0))):=fun x u=>by
       refine ⟨⟨u.cell0 y0,u.cell0 y1,u.cell0 y2,u.cell0 y3⟩,?_⟩
       have hl:w.heap.size+1<w0.heap.size:=by rw [HBX.out.2.2.2];omega
       have h1:=HY.out.2.2.2.1;rw [u.block _ (Nat.lt_of_lt_of_le hl (Nat.le_trans HST.out.2.size h1.size)) (by simp),h1.block _ hl (Nat.lt_of_lt_of_le hl HST.out.2.size),HST.out.2.block _ hl (by simp)];exact HBX.out.2.1
      unfold worldV at HST7
      have hna:a≠w.heap.size+1:=by
       have h2:=HST.out.1.lo a (.inr (.inr (.inl rfl)))
       rw [HBX.out.2.2.2] at h2;omega
      go_region_held3 (fun x=>x.cell? ⟨a,0,none⟩=some (.pointer (some ⟨b,0,none⟩))/\x.cell? ⟨a,1,none⟩=some (.pointer (some ⟨m,0,none⟩))/\x.cell? ⟨a,2,none⟩=some (.slice ra refs.length rc)/\x.cell? ⟨a,3,none⟩=some (.slice qa tabs.length qc)) (first | exact (HR7.out _ (Upd.refl _ _).drew).1 | exact (HR7.out _ HU8.out).1 | exact set4 (set4 (set4 (set4 (HR7.out _ HU8.out).1 hna _) hna _) hna _) hna _) (first
       | (go_at_call 53;refine (HST7.out).mono ?_;rintro e w8 ⟨rfl,hu⟩;have HU8:=Lib.hid hu.of_drew;clear hu;have hb8:=(HR7.out _ HU8.out).2;have f0:=frozen_at 0 hb8;have f1:=frozen_at 1 hb8;have f2:=frozen_at 2 hb8;have f3:=frozen_at 3 hb8;have g0:=cell_at (j:=0) hb8 rfl;have g1:=cell_at (j:=1) hb8 rfl;have g2:=cell_at (j:=2) hb8 rfl;have g3:=cell_at (j:=3) hb8 rfl;have HB8:=Lib.hid hb8;clear hb8))
      have hb9:=box4 HB8.out (.pointer (some ⟨b,0,none⟩)) (.pointer (some ⟨m,0,none⟩)) (.slice ra refs.length rc) (.slice qa tabs.length qc);have x0:=cell_at (j:=0) hb9 rfl;have x1:=cell_at (j:=1) hb9 rfl;have x2:=cell_at (j:=2) hb9 rfl;have x3:=cell_at (j:=3) hb9 rfl;clear hb9;go_wp2_with fail;refine bodyPost_ret (v:=.tuple #[worldV b m (.slice ra refs.length rc) (.slice qa tabs.length qc),.bool true]) (by simp [results,Tryz.results33,go_sem,x0,x1,x2,x3,worldV]) rfl ?_
      have hu9:Upd [w.heap.size+1] w8 ((((w8.setCell ⟨w.heap.size+1,0,none⟩ (.pointer (some ⟨b,0,none⟩))).setCell ⟨w.heap.size+1,1,none⟩ (.pointer (some ⟨m,0,none⟩))).setCell ⟨w.heap.size+1,2,none⟩ (.slice ra refs.length rc)).setCell ⟨w.heap.size+1,3,none⟩ (.slice qa tabs.length qc)) :=
       ((((Upd.refl _ w8).setCell (p:=⟨w.heap.size+1,0,none⟩) (.inl (by simp)) _).setCell (p:=⟨w.heap.size+1,1,none⟩) (.inl (by simp)) _).setCell (p:=⟨w.heap.size+1,2,none⟩) (.inl (by simp)) _).setCell (p:=⟨w.heap.size+1,3,none⟩) (.inl (by simp)) _
      have hlo:=HY.out.1.lo;rw [HBX.out.2.2.2] at hlo
      exact ⟨b,m,_,_,K2.keepK 1,F',_,p7,refs,tabs,rfl,(HY.out.1.keep0 HU8.out).mem.other HB8.out hu9 (fun hm=>by have:=hlo _ (.inl hm);omega),HY.out.2.1,HY.out.2.2.1,
       fun k hk=>by have:=hlo k (hk.imp id (·.imp id fun h=>.inr h));omega,
       ((HLL.out w7 HY.out.2.2.2.1).2.trans HU8.out).then hu9 (fun k hk=>.inr (by simp at hk;omega)),
       by rw [HY.out.2.2.2.2.1.pl,HX2.out.2.2.2.2.2.1,HUX.out.2],fun x=>by rw [HY.out.2.2.2.2.2];have:=HX2.out.2.2.2.2.2.2 x;omega,by omega,by show M2.held.length<=8;omega,rfl,rfl,by rw [HY.out.2.2.2.2.1.vr,HX2.out.2.2.2.2.1,HVN.out],fun r hr=>by rw [HY.out.2.2.2.2.2];exact HLX.out.2 r hr,fun h0=>by
        rw [HLX.out.1,HMN.out h0,HUX.out.2,<- HVN.out,show Ws.take (min j 8)=Ws.take 8 by rw [List.take_eq_take_iff,HW.out.len];omega]⟩
theorem MV.TrFit.nil {M:MV} (h:M.trail=[]):M.TrFit:=by
 unfold MV.TrFit;rw [h];exact trivial
theorem KM.of {K:KV} {M:MV} {refs:List Nat} {tabs:List TV} (l:WLog K M refs tabs) (h1:K.trail=[]) (h2:M.trail=[]):KM K M:=⟨l.agr,l.fit,by rw [h1,h2],MV.TrFit.nil h2⟩
def binT (op:Nat) (f g:TV):TV:=mkT f.n fun x=>opB op (f.bit x) (g.bit x)
theorem binT_ok {op:Nat} {f g:TV} (hf:f.n<=16):(binT op f g).Ok/\(binT op f g).n=f.n:=⟨mkT_ok _ hf,rfl⟩
theorem binT_fn {op:Nat} {f g:TV} (h:g.n=f.n) (y:Nat->Bool):(binT op f g).fn y=opB op (f.fn y) (g.fn y):=by
 unfold binT;rw [mkT_fn];unfold TV.fn;rw [h]
structure ExS (K:KV) (n m:Nat) (Q:List TV) (c:Nat):Prop where
 ok:K.Ok
 uni:K.Uni
 vr:K.vars=n
 pl:K.A.places=m
 od:K.order=List.range n
 rt:RootsT K Q
 hh:∀ x,K.hold x<=c
theorem ExS.new {n m:Nat} (h1:1<=n) (hn:n<=64) (h2:2<=m) (hm:m<=1048576):ExS (KV.new n m) n m [] 0 :=
 ⟨KV.new_ok h1 hn h2 hm,(TInv.new n m).uni (KV.new_ok h1 hn h2 hm).wf,rfl,rfl,rfl,⟨fun r h=>by simp [KV.hold,KV.new] at h,by simp,by simp⟩,fun x=>by simp [KV.hold,KV.new]⟩
theorem varT_ok {n v:Nat} (hn:n<=16):(varT n v).Ok/\(varT n v).n=n:=⟨mkT_ok _ hn,rfl⟩
theorem ExS.grow {K K':KV} {n m c r:Nat} {Q:List TV} {t:TV} (h:ExS K n m Q c) (k':K'.Ok) (u':K'.Uni) (e:K.Ext K') (ht:K'.A.tk r=true) (hd:∀ y,K'.den r y=t.fn y) (hok:t.Ok) (htn:t.n=n) (hh:∀ x,K'.hold x=K.hold x+if x=r/\2<=r then 1 else 0):ExS K' n m (Q++[t]) (c+1):=by
 refine ⟨k',u',by rw [e.vr];exact h.vr,by rw [e.pl];exact h.pl,by rw [e.od];exact h.od,⟨fun x hx=>?_,fun u hu=>?_,fun u hu=>?_⟩,fun x=>?_⟩
 ·by_cases ex:x=r
  ·subst ex;exact ⟨t,by simp,hd⟩
  ·rw [hh,if_neg (fun k=>ex k.1)] at hx
   obtain ⟨u,hm,hd'⟩:=h.rt.rt x (by omega);exact ⟨u,by simp [hm],fun y=>by rw [e.den h.ok.wf y (h.ok.wf.ht x (by omega)).2];exact hd' y⟩
 ·rcases List.mem_append.1 hu with hm | hm
  ·obtain ⟨x,a1,a2⟩:=h.rt.lr u hm
   exact ⟨x,e.tk a1,fun y=>by rw [e.den h.ok.wf y a1];exact a2 y⟩
  ·simp at hm;subst hm;exact ⟨r,ht,hd⟩
 ·rw [e.vr]
  rcases List.mem_append.1 hu with hm | hm
  ·exact h.rt.ok u hm
  ·simp at hm;subst hm;exact ⟨hok,htn.trans h.vr.symm⟩
 ·have:=h.hh x
  rw [hh];split <;> omega
theorem ExS.op {K K':KV} {n m c r:Nat} {Q:List TV} {u:TV} {code:Int} {t:(Nat->Bool)->Bool} (h:ExS K n m Q c) (hn:n<=16) (hc:c<60) (k':K'.Ok) (u':K'.Uni) (O:OpR K t r code K') (hu:u.Ok/\u.n=n) (ht:∀ y,t y=u.fn y) (hf:(flatT (Q++[u]) (List.range n)).length+2<=m) :
  code=0/\K.Ext K'/\K'.A.tk r=true/\(∀ y,K'.den r y=u.fn y)/\ExS K' n m (Q++[u]) (c+1):=by
 have e:t=u.fn:=funext ht;subst e
 rcases O with ⟨rfl,O⟩ | ⟨_,_,_,s,_,_,hs⟩ | ⟨_,_,_,hno⟩
 ·exact ⟨rfl,O.ext,O.tk,O.den,h.grow k' u' O.ext O.tk O.den hu.1 hu.2 O.hd⟩
 ·have:=h.hh s;omega
 ·exfalso
  have h1:=h.rt.nofit h.ok (by rw [h.vr];exact hn) hu.1 (hu.2.trans h.vr.symm) hno.weak;rw [h.pl,h.od] at h1;omega
theorem ExS.var {K K':KV} {n m c r v:Nat} {Q:List TV} {code:Int} (h:ExS K n m Q c) (hn:n<=16) (hc:c<60) (k':K'.Ok) (u':K'.Uni) (hv:v<n) (M:MakeR K (v:Int) 0 1 r code K') (hf:(flatT Q (List.range n)).length+2<m) :
  code=0/\K.Ext K'/\K'.A.tk r=true/\(∀ y,K'.den r y=y v)/\ExS K' n m (Q++[varT n v]) (c+1):=by
 have hk:=h.ok
 have hvv:v<K.vars:=by rw [h.vr];exact hv
 have hfe:K.fitsE (v:Int) 0 1=0:=KV.fits_ok (by omega) (hk.tk_const (by omega)) (hk.tk_const (by omega)) fun _=>by
  have:=(hk.ord.pm.lo v hvv).1;rw [hk.wf.dep_const (by omega),hk.wf.dep_const (by omega)];omega
 have key:∀ (K1:KV),K1.Ok->∀ s,K1.At s v 0 1->K1.A.tk s=true/\∀ y,K1.den s y=y v:=fun K1 k1 s hs=>by
  obtain ⟨h2,p,hp,hpt,e1,e2,e3⟩:=hs;refine ⟨ArenaV.tk_iff.2 ⟨p,hp,hpt⟩,fun y=>?_⟩;rw [KV.den_node k1.wf k1.ord h2 hp hpt,e2,e3,K1.den_const (by omega),K1.den_const (by omega),show p.var.toNat=v by omega]
  cases y v <;> rfl
 cases M with
 | bad h0=>exact absurd hfe h0
 | full h0 hs hm=>exact absurd (hm ▸ h.hh _) (by omega)
 | old h0 hs hm =>
  have hs':K.At r v 0 1:=by
   rcases hs with ⟨e,_⟩ | ⟨_,hs⟩
   ·omega
   ·simpa using hs
  obtain ⟨t1,t2⟩:=key K hk r hs';have X:=(hk.kept t1 hm).2
  have hd:∀ y,(K.keepK r).den r y=y v:=fun y=>by rw [X.ext.den hk.wf y t1,t2]
  exact ⟨rfl,X.ext,X.ext.tk t1,hd,h.grow k' u' X.ext (X.ext.tk t1) (fun y=>by rw [hd,varT_fn hv]) (varT_ok hn).1 rfl fun x=>by rw [X.hd];split <;> rfl⟩
 | nodes h0 hne hno hu =>
  exfalso
  have:=h.rt.used hk h.uni (by rw [h.vr];exact hn);rw [h.od] at this;rw [h.pl] at hu;omega
 | new h0 hne hno hm =>
  have hm':K.Made v 0 1 r K':=by simpa using hm
  have hat:K'.At r v 0 1:=hm'.at_iff.2 (.inl ⟨rfl,rfl,rfl,rfl⟩);obtain ⟨t1,t2⟩:=key K' k' r hat
  have h0:K.hold r=0:=by
   by_cases hp:0<K.hold r
   ·have:=(hk.wf.ht r hp).2
    rw [hm'.no] at this;cases this
   ·omega
  refine ⟨rfl,hm'.ext,t1,t2,h.grow k' u' hm'.ext t1 (fun y=>by rw [t2,varT_fn hv]) (varT_ok hn).1 rfl fun x=>?_⟩;have:=hm'.two;rw [hm'.hd]
  by_cases e:x=r
  ·subst e;rw [if_pos rfl,if_pos ⟨rfl,this⟩,h0]
  ·rw [if_neg e,if_neg (fun k=>e k.1)];rfl
theorem ExS.lev {K:KV} {n m c:Nat} {Q:List TV} (h:ExS K n m Q c) {v:Nat} (hv:v<n):K.lev v=v:=by
 have h1:=h.ok.ord.pm.order_at (v:=v) (by rw [h.vr];exact hv);have h2:=(h.ok.ord.pm.lo v (by rw [h.vr];exact hv)).1;rw [h.od,List.getElem?_range (by rw [h.vr] at h2;exact h2)] at h1;exact Option.some.inj h1
theorem Hangs.or {t:(Nat->Bool)->Bool} {a b:Nat} (h:∀ y,t y=(y a||y b)) (v:Nat):Hangs t v↔v=a\/v=b:=by
 constructor
 ·rintro ⟨y,hy⟩
  rw [h,h] at hy
  by_cases e:v=a\/v=b
  ·exact e
  ·simp [upd,show ¬ a=v by omega,show ¬ b=v by omega] at hy
 ·intro e
  refine ⟨fun _=>false,?_⟩;rw [h,h]
  rcases e with rfl | rfl <;> simp [upd]
theorem sup_or {K:KV} {r a b:Nat} {s:Int} (hk:K.Ok) (hu:K.Uni) (ht:K.A.tk r=true) (hs:SupIs K r s) (h:∀ y,K.den r y=(y a||y b)) (ha:a<64) (hb:b<64):s=bits BinOp.or IntKind.u64 (IntKind.u64.wrap (2 ^ a)) (IntKind.u64.wrap (2 ^ b)):=by
 obtain ⟨h1,h2⟩:=hs.bits hk hu ht
 refine nb_ext h1 (bits_u64 _ _ _) fun i _=>?_
 rw [nb_or (wrap_u64 _) (wrap_u64 _),nb_pow ha,nb_pow hb,Bool.eq_iff_iff,h2,Hangs.or h,Bool.or_eq_true,decide_eq_true_eq,decide_eq_true_eq,eq_comm (a:=i),eq_comm (a:=i)]
structure OrNodes (K:KV) (f l:Nat):Prop where
 ex:∃ p s:PlaceV,2<=f/\2<=l/\f≠l/\K.A.list[f]?=some p/\p.taken=true/\p.lo=l/\p.hi=1/\K.A.list[l]?=some s/\s.taken=true/\s.lo=0/\s.hi=1
theorem or_nodes {K:KV} {f a b:Nat} (hk:K.Ok) (hu:K.Uni) (ht:K.A.tk f=true) (h:∀ y,K.den f y=(y a||y b)) (hab:a≠b) (hav:a<K.vars) (hl:K.lev a<K.lev b):∃ l,OrNodes K f l:=by
 have c0:∀ y,K.den 0 y=false:=fun y=>K.den_const (by omega) y
 have c1:∀ y,K.den 1 y=true:=fun y=>K.den_const (by omega) y
 have can:∀ {c d:Nat},K.A.tk c=true->K.A.tk d=true->(∀ y,K.den c y=K.den d y)->c=d:=fun ha hb h=>KV.canon hk.wf hk.ord hu _ _ _ ha hb (Nat.le_refl _) h
 have f2:2<=f:=by
  rcases Nat.lt_or_ge f 2 with h2 | h2
  ·have e1:=h fun _=>true
   have e2:=h fun _=>false
   rw [K.den_const h2] at e1 e2
   simp at e1 e2;omega
  ·exact h2
 obtain ⟨p,v,hp,hpt,hv,hvl,t0,t1,hd⟩:=hk.wf.node_at f2 ht;obtain ⟨v',hvl',hd',hh,hno⟩:=hk.node_hangs hu f2 ht;obtain rfl:v=v':=hk.ord.pm.inj hvl hvl' (by omega)
 have hva:v=a:=by
  rcases (Hangs.or h v).1 hh with e | e
  ·exact e
  ·subst e
   exact absurd ((Hangs.or h a).2 (.inl rfl)) (hno a hav hl)
 subst hva
 have ev:p.var.toNat=v:=by omega
 have dlo:∀ y,K.den p.lo y=y b:=fun y=>by
  rw [<- KV.den_lo hk.wf hk.ord f2 hp hpt y,ev,h,upd_self,upd_ne _ _ (Ne.symm hab)];rfl
 have dhi:∀ y,K.den p.hi y=true:=fun y=>by
  rw [<- KV.den_hi hk.wf hk.ord f2 hp hpt y,ev,h,upd_self];rfl
 have e1:p.hi=1:=can t1 (hk.tk_const (by omega)) fun y=>by rw [dhi,c1]
 have l2:2<=p.lo:=by
  rcases Nat.lt_or_ge p.lo 2 with h2 | h2
  ·have e1:=dlo fun _=>true
   have e2:=dlo fun _=>false
   rw [K.den_const h2] at e1 e2
   simp at e1 e2;omega
  ·exact h2
 obtain ⟨s,u,hs,hst,hsv,hul,s0,s1,hsd⟩:=hk.wf.node_at l2 t0;have hhs:=hk.hangs_of hu t0 (.refl l2) hs;have eu:s.var.toNat=b:=(Hangs.var dlo _).1 hhs
 have d0:∀ y,K.den s.lo y=false:=fun y=>by
  rw [<- KV.den_lo hk.wf hk.ord l2 hs hst y,eu,dlo,upd_self]
 have d1:∀ y,K.den s.hi y=true:=fun y=>by
  rw [<- KV.den_hi hk.wf hk.ord l2 hs hst y,eu,dlo,upd_self]
 refine ⟨p.lo,p,s,f2,l2,fun e=>?_,hp,hpt,rfl,e1,hs,hst,can s0 (hk.tk_const (by omega)) fun y=>by rw [d0,c0],can s1 (hk.tk_const (by omega)) fun y=>by rw [d1,c1]⟩;have e3:=h (fun x=>x == v);have e4:=dlo (fun x=>x == v);rw [<- e,e3] at e4
 simp at e4;omega
theorem OrNodes.way {K:KV} {f l:Nat} (hk:K.Ok) (h:OrNodes K f l):K.way f=2:=by
 obtain ⟨p,s,f2,l2,_,hp,hpt,e1,e2,hs,hst,e3,e4⟩:=h.ex;rw [KV.way_node hk.wf hk.ord f2 hp hpt,e1,e2,KV.way_node hk.wf hk.ord l2 hs hst,e3,e4,K.way_const (by omega),K.way_const (by omega)]
theorem OrNodes.size {K:KV} {f l:Nat} {N:List Nat} (h:OrNodes K f l) (hN:WalkL K [] [f,f] N):N.length=2:=by
 obtain ⟨p,s,f2,l2,hne,hp,hpt,e1,e2,hs,hst,e3,e4⟩:=h.ex;have a:=hN.alls List.nodup_nil
 have hnd:N.Nodup:=by simpa using a.nd
 have hf:f∈N:=by simpa using a.has f (by simp) f2
 have hl:l∈N:=by
  have:=(a.kids f p hf hp).1;rw [e1] at this
  rcases this with h | h
  ·omega
  ·simpa using h
 have hu:∀ x,K.Under f x->x=f\/x=l:=fun x hx=>by
  induction hx with
  | refl _=>exact .inl rfl
  | @lo x c _ hc h2 ih =>
   rcases ih with rfl | rfl
   ·rw [hp] at hc;cases hc;exact .inr e1
   ·rw [hs] at hc;cases hc;omega
  | @hi x c _ hc h2 ih =>
   rcases ih with rfl | rfl
   ·rw [hp] at hc;cases hc;omega
   ·rw [hs] at hc;cases hc;omega
 have h1:N.length<=[f,l].length:=List.Nodup.length_le_of_subset hnd fun x hx=>by
  obtain ⟨r,hr,hx⟩:=a.under x hx
  have:r=f:=by simpa using hr
  subst this
  rcases hu x hx with h | h <;> simp [h]
 have h2:[f,l].length<=N.length:=List.Nodup.length_le_of_subset (by simp;exact hne) fun x hx=>by
  simp at hx
  rcases hx with rfl | rfl
  ·exact hf
  ·exact hl
 simp at h1 h2
 omega
theorem or_sat:satL [0,1,2] (fun y=>y 0||y 2)=6:=by decide +kernel
theorem or_flat:(flatT [varT 3 0,varT 3 2,binT 14 (varT 3 0) (varT 3 2)] (List.range 3)).length+2<=20:=by decide +kernel
theorem or_flat2:(flatT [varT 3 0] (List.range 3)).length+2<20:=by decide +kernel
theorem or_flat1:(flatT [] (List.range 3)).length+2<20:=by decide +kernel
theorem row_two (w:World) (f g:Nat):(w.alloc (.cells #[.int .u32 f,.int .u32 g] 62 (0,0))).ownsRow 0 62 1 (.slice (some ⟨w.heap.size,0,none⟩) 2 2) [f,g].length (flatRefs [f,g]) :=
 World.ownsRow_lit (base:=0) (e:=62) (size:=1) w #[.int .u32 f,.int .u32 g] 2 (Nat.zero_le _) (by unfold maxLen;omega) rfl
theorem awake12_spec (w:World):Calls Tryz.prog 37 #[] w fun e w'=>e=.returned (.bool true)/\Upd [] w w':=by
 go_enter Tryz.func37,Tryz.ntmps37
 go_wp2_with fail;refine (knew_spec 3 20 w (by omega) (by omega) (by omega) (by omega)).mono ?_;rintro e w1 ⟨b,T,q,rfl,hk,hu,hs⟩;have X0:=ExS.new (n:=3) (m:=20) (by omega) (by omega) (by omega) (by omega);have H1:=Lib.hid (And.intro hk (And.intro hu (And.intro hs X0)));clear hk hu hs X0;go_wp2_with fail;refine (var_live b 0 _ T q w1 H1.out.1).mono ?_;rintro e w2 hE;obtain ⟨r1,c1,K1,T1,q1,rfl,M1,hk,hu,hs⟩:=hE.ex;obtain ⟨rfl,x1,t1,d1,X1⟩:=H1.out.2.2.2.var (v:=0) (by omega) (by omega) hk.ok (hk.ti.uni hk.ok.wf) (by omega) M1 or_flat1;have H2:=Lib.hid (And.intro hk (And.intro (H1.out.2.1.then hu fun x hx=>(H1.out.2.2.1 x hx)) (And.intro (sub_trans H1.out.2.2.1 hs H1.out.2.1.size) (And.intro X1 (And.intro t1 d1)))));clear hE M1 hk hu hs x1 t1 d1 X1;go_wp2_with fail;refine (var_live b 2 _ T1 q1 w2 H2.out.1).mono ?_;rintro e w3 hE;obtain ⟨r2,c2,K2,T2,q2,rfl,M2,hk,hu,hs⟩:=hE.ex;obtain ⟨rfl,x1,t1,d1,X1⟩:=H2.out.2.2.2.1.var (v:=2) (by omega) (by omega) hk.ok (hk.ti.uni hk.ok.wf) (by omega) M2 or_flat2;have ta:=x1.tk H2.out.2.2.2.2.1
 have da:∀ y,K2.den r1 y=y 0:=fun y=>by rw [x1.den H2.out.1.ok.wf y H2.out.2.2.2.2.1];exact H2.out.2.2.2.2.2 y
 have H3:=Lib.hid (And.intro hk (And.intro (H2.out.2.1.then hu fun x hx=>(H2.out.2.2.1 x hx)) (And.intro (sub_trans H2.out.2.2.1 hs H2.out.2.1.size) (And.intro X1 (And.intro t1 (And.intro d1 (And.intro ta da)))))));clear hE M2 hk hu hs x1 t1 d1 X1 ta da;go_wp2_with fail;refine (or_live b r1 r2 K2 T2 q2 w3 H3.out.1 H3.out.2.2.2.2.2.2.1 H3.out.2.2.2.2.1).mono ?_;rintro e w4 hE;obtain ⟨f,c3,K3,T3,q3,rfl,O3,hk,hu,hs⟩:=hE.ex
 obtain ⟨rfl,x1,t1,d1,X1⟩:=H3.out.2.2.2.1.op (u:=binT 14 (varT 3 0) (varT 3 2)) (by omega) (by omega) hk.ok (hk.ti.uni hk.ok.wf) O3 (binT_ok (by decide)) (fun y=>by
  rw [binT_fn (f:=varT 3 0) (g:=varT 3 2) rfl,varT_fn (by omega),varT_fn (by omega)]
  show opB 14 (K2.den r1 y) (K2.den r2 y)=_
  rw [H3.out.2.2.2.2.2.2.2,H3.out.2.2.2.2.2.1]) or_flat
 have df:∀ y,K3.den f y=(y 0||y 2):=fun y=>by rw [d1,binT_fn (f:=varT 3 0) (g:=varT 3 2) rfl,varT_fn (by omega),varT_fn (by omega),opB_or]
 have hor:=or_nodes hk.ok X1.uni t1 df (by omega) (by rw [X1.vr];omega) (by rw [X1.lev (by omega),X1.lev (by omega)];omega);obtain ⟨l,hor⟩:=hor;have H4:=Lib.hid (And.intro hk (And.intro (H3.out.2.1.then hu fun x hx=>(H3.out.2.2.1 x hx)) (And.intro X1 (And.intro t1 (And.intro df hor)))));clear hE O3 hk hu hs x1 t1 d1 X1 df hor;have HEV:=Lib.hid (eval_spec b f 4 K3 T3 q3 w4 H4.out.1 H4.out.2.2.2.1 (by unfold U64;omega));rw [H4.out.2.2.2.2.1,show (nb 4 0||nb 4 2)=true by decide] at HEV;go_wp2_with fail;refine HEV.out.mono ?_;rintro e w5 hQ;obtain ⟨rfl,hk,hu⟩:=hQ;have H5:=Lib.hid (And.intro hk (H4.out.2.1.trans hu));have HSA:=Lib.hid (sats_spec b f K3 T3 q3 w5 hk H4.out.2.2.2.1);rw [H4.out.2.2.1.od,show List.range 3=[0,1,2] from rfl,satL_congr _ H4.out.2.2.2.2.1,or_sat,show u64m 6=6 from rfl] at HSA;clear hk hu HEV;go_wp2_with fail;refine HSA.out.mono ?_;rintro e w6 hQ;obtain ⟨rfl,hk,hu⟩:=hQ;have H6:=Lib.hid (And.intro hk (H5.out.2.trans hu));have HPA:=Lib.hid (paths_spec b f K3 T3 q3 w6 hk H4.out.2.2.2.1);rw [H4.out.2.2.2.2.2.way hk.ok,show u64m 2=2 from rfl] at HPA;clear hk hu HSA;go_wp2_with fail;refine HPA.out.mono ?_;rintro e w7 hQ;obtain ⟨rfl,hk,hu⟩:=hQ;have H7:=Lib.hid (And.intro hk (H6.out.2.trans hu))
 have HSZ:=Lib.hid (size12_spec b _ [f,f] K3 T3 q3 _ (hk.upd ((Upd.refl [] w7).alloc (.cells #[.int .u32 f,.int .u32 f] 62 (0,0))) (by simp)) (row_two w7 f f) (fun r hr=>by
  have:r=f:=by simpa using hr
  subst this;exact H4.out.2.2.2.1) (by simp))
 clear hk hu HPA;go_wp2_with fail;refine HSZ.out.mono ?_;rintro e w8 hQ;obtain ⟨N,hN,rfl,hk,hu⟩:=hQ.ex;rw [H4.out.2.2.2.2.2.size hN];have H8:=Lib.hid (And.intro hk ((H7.out.2.alloc _).trans hu));have HSU:=Lib.hid (support_spec b f K3 T3 q3 w8 hk H4.out.2.2.2.1);clear hQ hN hk hu HSZ;go_wp2_with fail;refine HSU.out.mono ?_;rintro e w9 hQ;obtain ⟨N2,hN,rfl,hk,hu⟩:=hQ.ex;have hsup:=sup_or (s:=N2.foldl (fun s x=>supStep s (K3.vof x)) 0) hk.ok H4.out.2.2.1.uni H4.out.2.2.2.1 ⟨N2,hN,rfl⟩ H4.out.2.2.2.2.1 (by omega) (by omega);rw [hsup,show bits BinOp.or IntKind.u64 (IntKind.u64.wrap (2 ^ 0)) (IntKind.u64.wrap (2 ^ 2))=5 by decide +kernel];have H9:=Lib.hid (H8.out.2.trans hu);clear hQ hN hk hu HSU hsup;go_wp2_with fail;go_ret;exact ⟨rfl,H9.out⟩
end Go.Proofs.YtlkgkojidclncaaGreat
namespace Go.Proofs.YtlkgkojidclncaaGreat
open Go.RowKit
theorem KV.Under.two {K:KV} {r x:Nat} (h:K.Under r x):2<=r:=by
 induction h with
 | refl h=>exact h
 | lo _ _ _ ih=>exact ih
 | hi _ _ _ ih=>exact ih
theorem KV.sub_under {K:KV} (hk:K.Ok) (l:Nat) (a:Nat->Bool):∀ (n r:Nat),K.vars-K.dep r<=n->K.A.tk r=true->∃ x,K.A.tk x=true/\(x<2\/K.Under r x)/\∀ y,K.den x y=K.den r (K.mix l a y)
 | n,r,hn,ht=>by
  by_cases h2:2<=r
  ·by_cases hl:l<=K.dep r
   ·refine ⟨r,ht,.inr (.refl h2),fun y=>KV.den_same hk.wf hk.ord _ r _ _ ht (Nat.le_refl _) fun v hv hd=>?_⟩
    simp only [KV.mix]
    rw [if_neg (by omega)]
   ·obtain ⟨p,v,hp,hpt,hv,hvl,h3,h4,hd⟩:=hk.wf.node_at h2 ht
    have hb:=hk.ord.below hk.wf h2 hp hpt;have hdl:=hk.wf.dep_lt hk.ord h2 ht;have hlo:=hk.wf.dep_le hk.ord h3;have hhi:=hk.wf.dep_le hk.ord h4
    match n,hn with
    | 0,hn=>omega
    | n+1,hn =>
     have em:∀ y,K.mix l a y v=a v:=fun y=>by simp only [KV.mix];rw [if_pos ⟨hvl,by omega⟩]
     have e:∀ y,K.den r (K.mix l a y)=if a v then K.den p.hi (K.mix l a y) else K.den p.lo (K.mix l a y):=fun y=>by
      rw [KV.den_node hk.wf hk.ord h2 hp hpt,show p.var.toNat=v by omega,em]
     cases ha:a v with
     | true =>
      obtain ⟨x,tx,hux,hx⟩:=KV.sub_under hk l a n p.hi (by omega) h4;exact ⟨x,tx,hux.imp_right fun h=>(KV.Under.hi (.refl h2) hp h.two).trans h,fun y=>by rw [hx,e,ha];simp⟩
     | false =>
      obtain ⟨x,tx,hux,hx⟩:=KV.sub_under hk l a n p.lo (by omega) h3;exact ⟨x,tx,hux.imp_right fun h=>(KV.Under.lo (.refl h2) hp h.two).trans h,fun y=>by rw [hx,e,ha];simp⟩
  ·exact ⟨r,ht,.inl (by omega),fun y=>by rw [K.den_const (by omega),K.den_const (by omega)]⟩
theorem WalkA.below {K:KV} {rs N:List Nat} {s x:Nat} (a:WalkA K [] rs N) (hs:s∈rs) (hu:K.Under s x):x∈N:=by
 induction hu with
 | refl h2=>simpa using a.has s hs h2
 | lo _ hp h2 ih =>
  rcases (a.kids _ _ ih hp).1 with h3 | h3
  ·omega
  ·simpa using h3
 | hi _ hp h2 ih =>
  rcases (a.kids _ _ ih hp).2 with h3 | h3
  ·omega
  ·simpa using h3
theorem size_list {K:KV} (hk:K.Ok) (hu:K.Uni) (hn:K.vars<=16) {rs N:List Nat} {ts:List TV} (hlen:rs.length=ts.length) (hnm:∀ (i r:Nat) (t:TV),rs[i]?=some r->ts[i]?=some t->Names K r t/\t.Ok/\t.n=K.vars) (h:WalkL K [] rs N) :
  (flatT ts K.order).length=N.length:=by
 have a:=h.alls List.nodup_nil
 have hnd:N.Nodup:=by simpa using a.nd
 have hok:∀ t,t∈ts->t.Ok/\t.n=K.vars:=fun t ht=>by
  obtain ⟨i,hi⟩:=List.getElem?_of_mem ht;have hil:=(List.getElem?_eq_some_iff.1 hi).1;exact (hnm i _ t (List.getElem?_eq_getElem (by omega)) hi).2
 have nd:(N.map K.tab).Nodup:=List.pairwise_map.2 (List.Pairwise.imp_of_mem (fun {x y} hx hy hne e=>hne (hk.tab_inj hu (a.two x hx).2 (a.two y hy).2 e)) hnd)
 have e:(N.map K.tab).length=(flatT ts K.order).length:=by
  refine Nat.le_antisymm (List.Nodup.length_le_of_subset nd fun u hm=>?_) (List.Nodup.length_le_of_subset (flatT_nodup hok fun x hx=>hk.ord.pm.mem_order hx) fun u hm=>?_)
  ·obtain ⟨x,hx,rfl⟩:=List.mem_map.1 hm
   obtain ⟨h2,ht⟩:=a.two x hx;obtain ⟨s,hs,hus⟩:=a.under x hx;obtain ⟨i,hi⟩:=List.getElem?_of_mem hs;have hil:=(List.getElem?_eq_some_iff.1 hi).1;have hti:ts[i]?=some ts[i]:=List.getElem?_eq_getElem (by omega);obtain ⟨hnt,_,_⟩:=hnm i s _ hi hti;obtain ⟨c,hc⟩:=hk.mix_under hnt.1 hus;exact KV.tab_flat hk hu hn hok h2 ht ⟨_,List.mem_of_getElem? hti,K.dep x,c,fun y=>by rw [hc,hnt.2]⟩
  ·obtain ⟨i,v,h1,a1,a2,⟨t,ht,c,he⟩,hh⟩:=(mem_flatT hok fun x hx=>hk.ord.pm.mem_order hx).1 hm
   obtain ⟨j,hj⟩:=List.getElem?_of_mem ht;have hjl:=(List.getElem?_eq_some_iff.1 hj).1;have hrj:rs[j]?=some rs[j]:=List.getElem?_eq_getElem (by omega);obtain ⟨hnt,_,_⟩:=hnm j _ t hrj hj;obtain ⟨x,tx,hux,hx⟩:=KV.sub_under hk i c _ _ (Nat.le_refl _) hnt.1
   have hd:∀ y,K.den x y=u.fn y:=fun y=>by rw [hx,hnt.2,he,hk.ord.pm.mixO]
   have h2:¬ x<2:=fun h2=>by
    obtain ⟨y,hy⟩:=hh;refine hy ?_;rw [<- hd,<- hd,K.den_const h2,K.den_const h2]
   rcases hux with h3 | h3
   ·exact absurd h3 h2
   ·exact List.mem_map.2 ⟨x,a.below (List.mem_of_getElem? hrj) h3,hk.tab_eq hn tx a1 a2 hd⟩
 rw [List.length_map] at e;omega
end Go.Proofs.YtlkgkojidclncaaGreat
