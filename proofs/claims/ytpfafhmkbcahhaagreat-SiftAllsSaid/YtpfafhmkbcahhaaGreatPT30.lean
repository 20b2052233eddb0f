import Derived.Test.YtpfafhmkbcahhaaGreatPT25
import Derived.Test.YtpfafhmkbcahhaaGreatPT29
import Derived.Test.YtpfafhmkbcahhaaGreatPT28
import Derived.Test.YtpfafhmkbcahhaaGreatPT27
import Derived.Deep.DeepCutAuto
set_option maxRecDepth 100000
set_option maxHeartbeats 6400000
namespace Go.Proofs.YtpfafhmkbcahhaaGreat
open Go.RowKit Go.Maps Go.ChangeMaps Go.WideShapes
theorem set4 {x:World} {a B j:Nat} {v0 v1 v2 v3:Value} (h:x.cell? ⟨a,0,none⟩=some v0/\x.cell? ⟨a,1,none⟩=some v1/\x.cell? ⟨a,2,none⟩=some v2/\x.cell? ⟨a,3,none⟩=some v3) (hne:a≠B) (u:Value) :
  (x.setCell ⟨B,j,none⟩ u).cell? ⟨a,0,none⟩=some v0/\(x.setCell ⟨B,j,none⟩ u).cell? ⟨a,1,none⟩=some v1/\(x.setCell ⟨B,j,none⟩ u).cell? ⟨a,2,none⟩=some v2/\(x.setCell ⟨B,j,none⟩ u).cell? ⟨a,3,none⟩=some v3:=by
 have hb:(x.setCell ⟨B,j,none⟩ u).heap[a]?=x.heap[a]?:=heap_set_ne hne;exact ⟨(World.cell?_of_block (a:=⟨a,0,none⟩) hb).trans h.1,(World.cell?_of_block (a:=⟨a,1,none⟩) hb).trans h.2.1,(World.cell?_of_block (a:=⟨a,2,none⟩) hb).trans h.2.2.1,(World.cell?_of_block (a:=⟨a,3,none⟩) hb).trans h.2.2.2⟩
theorem box4 {x:World} {B:Nat} {t:TypeId} {y0 y1 y2 y3:Value} (h:x.heap[B]?=some (.cells #[y0,y1,y2,y3] t (0,0))) (v0 v1 v2 v3:Value) :
  ((((x.setCell ⟨B,0,none⟩ v0).setCell ⟨B,1,none⟩ v1).setCell ⟨B,2,none⟩ v2).setCell ⟨B,3,none⟩ v3).heap[B]?=some (.cells #[v0,v1,v2,v3] t (0,0)) :=
 heap_set_eq (j:=3) (heap_set_eq (j:=2) (heap_set_eq (j:=1) (heap_set_eq (j:=0) h v0) v1) v2) v3
theorem WMem.other {w w':World} {b m B:Nat} {rv tv:Value} {K:KV} {F:List Nat} {M:MV} {p:MPtr} {refs:List Nat} {tabs:List TV} {cs:Array Value} {fr:Nat × Nat} (h:WMem w b m rv tv K F M p refs tabs) (hb:w.heap[B]?=some (.cells cs 31 fr)) (u:Upd [B] w w') (hF:B∉F):WMem w' b m rv tv K F M p refs tabs:=by
 have nb:∀ {k:Nat},k∈[B]->k=B:=fun {k} hk=>by simpa using hk
 have keepT:∀ {Z:List Nat} {d:Value} {s:TV},TIn w Z d s->TIn w' Z d s:=fun {Z d s} hd =>
  ⟨hd.ok,row_keep hd.row fun k hk=>u.block k (hd.row.lt k hk).2 fun hm=>blk_ne hd.row hb (by decide) (by rw [<- nb hm];exact hk),hd.fr⟩
 obtain ⟨ds,d1,d2,d3⟩:=h.mod.hs.ex;obtain ⟨es,e1,e2,e3⟩:=h.tt.ex
 refine ⟨h.ker.upd u fun k hk hm=>hF (by rw [<- nb hm];exact hk),⟨?_,row_keep h.mod.os fun k hk=>u.block k (h.mod.os.lt k hk).2 fun hm=>blk_ne h.mod.os hb (by decide) (by rw [<- nb hm];exact hk),
  ⟨ds,d1,row_keep d2 fun k hk=>u.block k (d2.lt k hk).2 fun hm=>blk_ne d2 hb (by decide) (by rw [<- nb hm];exact hk),fun i t c hi hc=>keepT (d3 i t c hi hc)⟩,
  row_keep h.mod.ts fun k hk=>u.block k (h.mod.ts.lt k hk).2 fun hm=>blk_ne h.mod.ts hb (by decide) (by rw [<- nb hm];exact hk),h.mod.ne,h.mod.sz⟩,h.dj,
  row_keep h.rr fun k hk=>u.block k (h.rr.lt k hk).2 fun hm=>blk_ne h.rr hb (by decide) (by rw [<- nb hm];exact hk),h.rf,
  ⟨es,e1,row_keep e2 fun k hk=>u.block k (e2.lt k hk).2 fun hm=>blk_ne e2 hb (by decide) (by rw [<- nb hm];exact hk),fun i t c hi hc=>keepT (e3 i t c hi hc)⟩,h.tt.fr⟩
 rw [u.block m (heap_lt h.mod.blk) fun hm=>?_]
 ·exact h.mod.blk
 ·have:=nb hm
  subst this;have h1:=h.mod.blk;rw [hb] at h1
  injection h1 with h1;injection h1 with _ h1 _;exact absurd h1 (by decide)
theorem ModIn.lt {w:World} {m:Nat} {M:MV} {p:MPtr} {Z:List Nat} (h:ModIn w m M p Z):∀ k,k∈p.all m->k<w.heap.size:=fun k hk=>by
 rcases MPtr.mem.1 hk with rfl | h1 | h1 | h1
 ·exact heap_lt h.blk
 ·exact (h.os.lt k h1).2
 ·obtain ⟨xs,hr⟩:=h.hs.row;exact (hr.lt k h1).2
 ·exact (h.ts.lt k h1).2
theorem LIn.start {w9:World} {n0 s1 s2 a b m g1 g2 n R:Nat} {T:List DM} {q:KPtr} {p:MPtr} {c0 c1:Value} (hk:KerIn w9 b (KV.new n R) T q) (hm:ModIn w9 m (MV.new n R) p (p.all m))
  (hr:w9.heap[g1]?=some (.cells #[.int .u32 (0:Nat),.int .u32 (1:Nat)] 54 (0,0))) (h0:TIn w9 [] c0 (constT n false)) (h1:TIn w9 [] c1 (constT n true)) (z0:∀ k,c0.ownBlock=some k->s2<=k) (z1:∀ k,c1.ownBlock=some k->s2<=k)
  (ht:w9.heap[g2]?=some (.cells #[.int .i64 n,c0,.int .i64 n,c1] 56 (0,0)))
  (ha:w9.heap[a]?=some (.cells #[.pointer (some ⟨b,0,none⟩),.pointer (some ⟨m,0,none⟩),.slice (some ⟨g1,0,none⟩) 2 2,.slice (some ⟨g2,0,none⟩) 2 2] 31 (0,0)))
  (k1:∀ k,k∈q.all b->n0<=k/\k<s1) (k2:∀ k,k∈p.all m->s1<=k/\k<s2) (e1:s2<=g1) (e2:s2<=g2) (e3:s2<=a) (hn:n0<=s1) :
  LIn w9 n0 a b m (.slice (some ⟨g1,0,none⟩) 2 2) (.slice (some ⟨g2,0,none⟩) 2 2) (KV.new n R) (q.all b) (MV.new n R) p [0,1] [constT n false,constT n true]:=by
 have hm0:=k2 m (MPtr.mem.2 (.inl rfl))
 have zlt:∀ k,k∈q.all b++p.all m->k<s2:=fun k hk=>by
  rcases List.mem_append.1 hk with h | h
  ·have:=k1 k h;omega
  ·exact (k2 k h).2
 have nz:∀ {k:Nat},s2<=k->k∉q.all b++p.all m:=fun {k} hk hm=>by have:=zlt k hm;omega
 have nz1:∀ {k:Nat},s2<=k->k∉q.all b/\k∉p.all m:=fun {k} hk=>⟨fun h=>nz hk (List.mem_append.2 (.inl h)),fun h=>nz hk (List.mem_append.2 (.inr h))⟩
 have own:∀ {g k:Nat},(Value.slice (some ⟨g,0,none⟩) 2 2).ownBlock=some k->k=g:=fun {g k} h=>by simp [Value.ownBlock] at h;exact h.symm
 refine ⟨ha,⟨⟨T,q,hk,rfl⟩,⟨hm.blk,hm.os,?_,hm.ts,hm.ne,fun k hk=>List.mem_append.2 (.inr hk)⟩,fun k h1 h2=>?_,⟨rfl,.inr ⟨g1,2,_,rfl,Nat.zero_le _,hr,Nat.le_refl _,by unfold maxLen;omega,rfl,rfl⟩⟩,fun k hk=>?_,?_⟩,nz1 e3,fun k hk=>?_,?_⟩
 ·obtain ⟨cs,q1,q2,_⟩:=hm.hs.ex
  exact ⟨cs,q1,q2,fun i t c h=>by simp [MV.new] at h⟩
 ·have:=k1 k h1;have:=k2 k h2;omega
 ·rw [own hk];exact nz1 e1
 ·exact TLs.two (t0:=constT n false) (t1:=constT n true) ht ⟨h0.ok,h0.row,fun k hk=>nz (z0 k hk)⟩ ⟨h1.ok,h1.row,fun k hk=>nz (z1 k hk)⟩ (Nat.zero_le _) (nz e2)
 ·rcases hk with h | h | h | h | h
  ·exact (k1 k h).1
  ·have:=k2 k h;omega
  ·omega
  ·rw [own h];omega
  ·rw [own h];omega
 ·have:=heap_lt ha;omega
theorem getD_atI {l:List Int} {j:Nat} (h:j<l.length):l[j]?=some (l.getD j 0):=by
 rw [List.getD_eq_getElem?_getD,List.getElem?_eq_getElem h];rfl
theorem laid_specX (n room:Int) (la wa:Option Addr) (ln lc wn wk:Nat) (Ls Ws:List Int) (w:World) (hL:RowOf w .i64 la ln Ls) (hW:RowOf w .u64 wa wn Ws) (hU:∀ x,x∈Ws->U64 x) :
  Calls Tryz.prog 15 #[.agg #[.int .i64 n,.int .i64 room,.slice la ln lc,.slice wa wn wk]] w fun e w'=>LaidX n room ln Ws w e w':=by
 have HL:=Lib.hid hL;have HW:=Lib.hid hW;have HUW:=Lib.hid hU;obtain ⟨w0,hw0⟩ : ∃ w0,(w.alloc (.cells #[.int .i64 n,.int .i64 room,.slice la ln lc,.slice wa wn wk] 25 (0,0))).alloc (.cells #[.pointer none,.pointer none,.slice none 0 0,.slice none 0 0] 31 (0,0))=w0:=⟨_,rfl⟩
 have hsz:w0.heap.size=w.heap.size+2:=by rw [<- hw0,World.size_alloc,World.size_alloc]
 have hbx:w0.heap[w.heap.size]?=some (.cells #[.int .i64 n,.int .i64 room,.slice la ln lc,.slice wa wn wk] 25 (0,0)):=by rw [<- hw0];exact (Below.heap_alloc _ _ _ (heap_lt (heap_alloc_new _ _))).trans (heap_alloc_new _ _)
 have hrs:w0.heap[w.heap.size+1]?=some (.cells #[.pointer none,.pointer none,.slice none 0 0,.slice none 0 0] 31 (0,0)):=by
  rw [<- hw0];have h:=heap_alloc_new (w.alloc (.cells #[.int .i64 n,.int .i64 room,.slice la ln lc,.slice wa wn wk] 25 (0,0))) (.cells #[.pointer none,.pointer none,.slice none 0 0,.slice none 0 0] 31 (0,0))
  rw [World.size_alloc] at h;exact h
 have hu0:Upd [] w w0:=by rw [<- hw0];exact ((Upd.refl _ _).alloc _).alloc _
 have HBX:=Lib.hid (And.intro hbx (And.intro hrs (And.intro hu0 hsz)));have HW0:=Lib.hid hw0;have hroom:=roomN_lo room;have b0:w0.cell? ⟨w.heap.size,0,none⟩=some (.int .i64 n):=cell_at hbx rfl;have b1:w0.cell? ⟨w.heap.size,1,none⟩=some (.int .i64 room):=cell_at hbx rfl;clear hL hW hU hw0 hbx hrs hu0 hsz
 go_enter Tryz.func15,Tryz.ntmps15
 go_wp2_with fail;rw [HW0.out]
 go_region_held3 (fun x=>x.cell? ⟨w.heap.size,0,none⟩=some (.int .i64 n)/\x.cell? ⟨w.heap.size,1,none⟩=some (.int .i64 room)) (first | exact ⟨b0,b1⟩) (first | (go_at_call 62;refine (lvars_spec _ _).mono ?_;rintro e w1 ⟨⟨v,hvn,rfl,h1,h6⟩,rfl⟩;have HVN:=Lib.hid hvn;clear hvn))
 go_upto_region 2 with fail
 go_cut [23] from 18 to 22 (fun s23 wx=>s23=.bool (decide (room<2)||decide (1048576<room))/\Upd [] w0 wx)
 case first =>
  clear b0 b1
  cases hd:decide (room<2) with
  | true =>
   go_wp2_with fail;go_meet;exact ⟨by simp [hd],(Upd.refl _ _).drew⟩
  | false =>
   go_wp2_with fail;go_meet;exact ⟨by simp [hd],(Upd.refl _ _).drew⟩
 case rest =>
  obtain ⟨rfl,hux⟩:=hcut;have HUX:=Lib.hid hux;clear b0 b1 hux;obtain ⟨bb,hbb⟩ : ∃ bb,(decide (room<2)||decide (1048576<room))=bb:=⟨_,rfl⟩;have HBB:=Lib.hid hbb;rw [hbb];clear hbb;go_upto_if 23 with fail
  go_cut [5] from 24 to 24 (fun s5 wx=>s5=.int .i64 (roomN room:Nat)/\Upd [] w0 wx)
  case first =>
   cases bb with
   | true =>
    have hR:roomN room=200:=by unfold roomN;rw [if_pos (by simpa using HBB.out)]
    go_wp2_with fail;go_meet;exact ⟨by rw [hR];rfl,HUX.out⟩
   | false =>
    have hR:((roomN room:Nat):Int)=room:=by
     have:¬ (room<2\/1048576<room):=fun h=>by
      have:(decide (room<2)||decide (1048576<room))=true:=by simpa using h
      rw [HBB.out] at this;cases this
     unfold roomN;rw [if_neg this];omega
    go_wp2_with fail;go_meet;exact ⟨by rw [hR],HUX.out⟩
  case rest =>
  obtain ⟨rfl,hux⟩:=hcut;obtain ⟨R,hR⟩ : ∃ R,roomN room=R:=⟨_,rfl⟩;rw [hR] at hroom;rw [hR];clear HUX;have HUX:=Lib.hid (And.intro hux hR);have HN:=Lib.hid (And.intro h1 h6);have HRM:=Lib.hid hroom;clear hux hR;go_wp2_with fail;refine (knew_spec v R _ HN.out.1 (by omega) HRM.out.1 HRM.out.2).mono ?_;rintro e w1 ⟨b,T,q,rfl,hK,hu,hs⟩;have HK1:=Lib.hid (And.intro hK (And.intro hu hs));clear hK hu hs;go_wp2_with fail;refine (newmodel_spec v R _ (by omega) HRM.out.2).mono ?_;rintro e w2 hE;obtain ⟨m,p,rfl,hml,hM,hu,hs⟩:=hE.ex;have HM2:=Lib.hid (And.intro hM (And.intro hu (And.intro hs hml)));clear hE hM hu hs hml;go_wp2_with fail;refine (tconst_spec v false _ (by omega)).mono ?_;rintro e w3 hE;obtain ⟨c0,rfl,hT,hu⟩:=hE.ex;have HC0:=Lib.hid (And.intro hT hu);obtain ⟨xa,xc,hxv,_⟩:=row_nil_len hT.row;generalize hXW:(constT v false).ws.length=XW at hxv;subst hxv;clear hE hT hu;have e0:tabV (constT v false) (.slice xa XW xc)=.agg #[.int .i64 v,.slice xa XW xc]:=rfl;rw [e0];go_wp2_with fail;refine (tconst_spec v true _ (by omega)).mono ?_;rintro e w4 hE;obtain ⟨c1,rfl,hT,hu⟩:=hE.ex;have HC1:=Lib.hid (And.intro hT hu);obtain ⟨ya,yc,hyv,_⟩:=row_nil_len hT.row;generalize hYW:(constT v true).ws.length=YW at hyv;subst hyv;clear hE hT hu;have e1:tabV (constT v true) (.slice ya YW yc)=.agg #[.int .i64 v,.slice ya YW yc]:=rfl;rw [e1];clear e0 e1;go_upto_region 8 with fail;obtain ⟨wS,hwS⟩ : ∃ wS,(w4.alloc (.cells #[.int .i64 v,.slice xa XW xc,.int .i64 v,.slice ya YW yc] 56 (0,0))).alloc (.cells #[.pointer (some ⟨b,0,none⟩),.pointer (some ⟨m,0,none⟩),.slice (some ⟨w2.heap.size,0,none⟩) 2 2,.slice (some ⟨w4.heap.size,0,none⟩) 2 2] 31 (0,0))=wS:=⟨_,rfl⟩
  have hst:LIn wS w0.heap.size (w4.heap.size+1) b m (.slice (some ⟨w2.heap.size,0,none⟩) 2 2) (.slice (some ⟨w4.heap.size,0,none⟩) 2 2) (KV.new v R) (q.all b) (MV.new v R) p [0,1] [constT v false,constT v true]/\Upd [] w0 wS:=by
   have u0:=HUX.out.1;have u1:=HK1.out.2.1;have u2:=HM2.out.2.1;have u3:=HC0.out.2;have u4:=HC1.out.2;have z0:=u0.size;have z1:=u1.size;have z2:=u2.size;have z3:=u3.size;have z4:=u4.size;rw [World.size_alloc] at z3
   have u5:Upd [] w4 wS:=by rw [<- hwS];exact ((Upd.refl _ _).alloc _).alloc _
   have u24:Upd [] w2 wS:=(((Upd.refl [] w2).alloc _).trans (u3.trans u4)).trans u5
   refine ⟨LIn.start (s1:=w1.heap.size) (s2:=w2.heap.size) (HK1.out.1.upd (u2.trans u24) (by simp)) (HM2.out.1.keep0 u24) ?_ (((HC0.out.1.tin (Z:=[]) (by simp)).keep0 u4).keep0 u5) ((HC1.out.1.tin (Z:=[]) (by simp)).keep0 u5)
    (fun k hk=>?_) (fun k hk=>?_) ?_ ?_ (fun k hk=>⟨?_,HK1.out.1.mem.lt k hk⟩) (fun k hk=>⟨?_,?_⟩) (Nat.le_refl _) (by omega) (by omega) (by omega),((u0.trans u1).trans u2).trans u24⟩
   ·rw [((u3.trans u4).trans u5).block _ (heap_lt (heap_alloc_new _ _)) (by simp)];exact heap_alloc_new _ _
   ·have:=(HC0.out.1.row.lt k hk).1;rw [World.size_alloc] at this;omega
   ·have:=(HC1.out.1.row.lt k hk).1;omega
   ·rw [<- hwS];exact (Below.heap_alloc _ _ _ (heap_lt (heap_alloc_new _ _))).trans (heap_alloc_new _ _)
   ·have h:=heap_alloc_new (w4.alloc (.cells #[.int .i64 v,.slice xa XW xc,.int .i64 v,.slice ya YW yc] 56 (0,0))) (.cells #[.pointer (some ⟨b,0,none⟩),.pointer (some ⟨m,0,none⟩),.slice (some ⟨w2.heap.size,0,none⟩) 2 2,.slice (some ⟨w4.heap.size,0,none⟩) 2 2] 31 (0,0))
    rw [World.size_alloc] at h;rw [<- hwS];exact h
   ·rcases HK1.out.2.2 k hk with h | h
    ·cases h
    ·omega
   ·rcases HM2.out.2.2.1 k hk with h | h
    ·cases h
    ·exact h
   ·exact HM2.out.1.lt k hk
  have HST:=Lib.hid hst;rw [hwS];obtain ⟨a,ha⟩ : ∃ a,w4.heap.size+1=a:=⟨_,rfl⟩;rw [ha] at HST ⊢;have HA:=Lib.hid ha;have HMX:ln<=maxLen:=HL.out.mx;have HMW:wn<=maxLen:=HW.out.mx;unfold maxLen at HMX HMW;generalize hg1:Value.slice (some ⟨w2.heap.size,0,none⟩) 2 2=rv0 at HST;generalize hg2:Value.slice (some ⟨w4.heap.size,0,none⟩) 2 2=tv0 at HST
  have HLL:Hid (∀ x:World,Fro w0.heap.size wS x->(x.cell? ⟨w.heap.size,2,none⟩=some (.slice la ln lc)/\x.cell? ⟨w.heap.size,3,none⟩=some (.slice wa wn wk))/\Upd [] w x):=fun x f=>by
   have hb:wS.heap[w.heap.size]?=_:=(HST.out.2.block _ (by rw [HBX.out.2.2.2];omega) (by simp)).trans HBX.out.1;have h1:wS.cell? ⟨w.heap.size,2,none⟩=some (.slice la ln lc):=cell_at hb rfl;have h2:wS.cell? ⟨w.heap.size,3,none⟩=some (.slice wa wn wk):=cell_at hb rfl;exact ⟨⟨f.cell h1 (by rw [HBX.out.2.2.2];show w.heap.size<_;omega),f.cell h2 (by rw [HBX.out.2.2.2];show w.heap.size<_;omega)⟩,f.upd (HBX.out.2.2.1.trans HST.out.2) (by rw [HBX.out.2.2.2];omega)⟩
  have HRC:Hid (rv0=.slice (some ⟨w2.heap.size,0,none⟩) 2 2/\tv0=.slice (some ⟨w4.heap.size,0,none⟩) 2 2):=⟨hg1.symm,hg2.symm⟩;obtain ⟨⟨z2,z3⟩,_⟩:=HLL.out wS (Fro.refl _ _);have HPN:=Lib.hid (Ph1.new (n:=v) (R:=R) HN.out.1 HN.out.2 HRM.out.1 HRM.out.2);clear HK1 HM2 HC0 HC1 hst hwS hXW hYW ha hg1 hg2;go_wp2_with fail
  go_loopg [51] ln (fun g s51 wr=>∃ (i:Nat) (K:KV) (F:List Nat) (M:MV) (p:MPtr),ln-i=g/\i<=ln/\s51=.int .i64 i/\LIn wr w0.heap.size a b m rv0 tv0 K F M p [0,1] [constT v false,constT v true]/\Ph1 v R K M (min i 40)/\Fro w0.heap.size wS wr/\(i=0->M=MV.new v R))
  case atStart=>exact ⟨0,_,_,_,_,by omega,by omega,rfl,HST.out.1,by simpa using HPN.out,Fro.refl _ _,fun _=>rfl⟩
  case round =>
   obtain ⟨i,K,F,M,p,rfl,hi,rfl,hLI,hPH,hF,hMN⟩:=hrel;have HMN:=Lib.hid hMN;clear hMN;obtain ⟨⟨z2,z3⟩,huw⟩:=HLL.out _ hF
   by_cases hlt:i<ln
   ·obtain ⟨x,hx,hc⟩:=HL.out.at_ i hlt
    subst hx;have hcr:=huw.cell0 hc;generalize Ls.getD i 0=l at *
    have hil:(i:Int)<(ln:Int):=by omega
    obtain ⟨_,k1,_,_⟩:=hLI.cells
    by_cases h40:i<40
    ·have hd:decide ((i:Int)<40)=true:=by simp;omega
     have hm1:min i 40=i:=by omega
     have hm2:min (i+1) 40=i+1:=by omega
     rw [hm1] at hPH;obtain ⟨he,_,_⟩:=hPH.step hLI.mem.ker.ok l
     have htr:K.trail.length<=1000000:=by rw [hPH.tr];have:=hPH.tl;omega
     have HEX:=Lib.hid (exch_at b l K F wr.drew (hLI.mem.ker.upd (Upd.refl [] wr).drew (by simp)) hPH.us htr);rw [<- he] at HEX;have HX:=Lib.hid (And.intro hLI (And.intro hPH (And.intro hF (And.intro hm1 hm2))));have HEE0:∃ E,M.exchE l=E:=⟨_,rfl⟩;obtain ⟨E,hEE⟩:=HEE0;rw [hEE] at HEX;have HEE:=Lib.hid hEE;clear hEE hLI hPH hF he htr huw hm1 hm2
     have hzz:∀ x y:Int,(x == x)=true:=fun x _=>by simp
     go_wp2_with fail
     go_region_held3 (fun x=>x.cell? ⟨a,1,none⟩=some (.pointer (some ⟨m,0,none⟩))) (first | exact k1 | exact HQ.out.2.2 | (obtain ⟨_,hcc,_⟩:=HQ2.out;exact hcc.cells.2.1)) (first
      | (go_at_call 49;refine HEX.out.mono ?_;rintro e w5 ⟨K',F',rfl,hc,hK',hu,hs⟩;obtain ⟨hL5,hF5⟩:=(HX.out.1.keep0 (Upd.refl [] wr).drew).kernel hK' hu hs;have HQ:=Lib.hid (And.intro hL5 (And.intro (And.intro hc ((Fro.of0 (Upd.refl [] wr).drew).trans hF5)) hL5.cells.2.1));clear hc hK' hu hs hL5 hF5)
      | (go_at_call 66;refine (exch9_spec m M p (F'++p.all m) l _ HQ.out.1.mem.mod HQ.out.1.mem.z HX.out.2.1.fit HX.out.2.1.od (by have:=HX.out.2.1.tl;omega)).mono ?_;rintro e w6 hE;obtain ⟨rfl,hm⟩:=hE.ex;rw [HEE.out];have HQ2:=Lib.hid (LIn.exch HX.out.2.1 HX.out.1.mem.ker.ok HQ.out.2.1.1 HQ.out.1 hm);clear hE hm))
     go_wp2_with fail;obtain ⟨p',hL6,hP6,hF6⟩:=HQ2.out
     go_roundg (ln-(i+1))
     case measure=>omega
     case rel=>exact ⟨i+1,K',F',_,p',rfl,by omega,by simp,hL6,by rw [HX.out.2.2.2.2];exact hP6,HX.out.2.2.1.trans (HQ.out.2.1.2.trans hF6),fun h=>by omega⟩
    ·have hd:decide ((i:Int)<40)=false:=by simp;omega
     have HX:=Lib.hid (And.intro hLI (And.intro hPH hF));clear hLI hPH hF huw;go_wp2_with fail
     go_quiet (fail)
     go_wp2_with fail
     go_roundg (ln-(i+1))
     case measure=>omega
     case rel=>exact ⟨i+1,K,F,M,p,rfl,by omega,by simp,HX.out.1.keep0 ((Upd.refl _ _).drewN _),by have:=HX.out.2.1;rw [show min (i+1) 40=min i 40 by omega];exact this,HX.out.2.2.trans (Fro.of0 ((Upd.refl _ _).drewN _)),fun h=>by omega⟩
   ·obtain rfl:i=ln:=by omega
    have hil:¬ ((i:Int)<(i:Int)):=by omega
    obtain ⟨hlog,hall⟩:=hPH.log hLI.mem.ker.ok HN.out.2;have HX:=Lib.hid (And.intro hLI (And.intro hPH (And.intro hF (And.intro hlog hall))));clear hLI hPH hF huw hlog hall;go_wp2_with fail;obtain ⟨wB,hwB⟩ : ∃ wB,wr=wB:=⟨_,rfl⟩;subst hwB;obtain ⟨MA,hMA⟩ : ∃ MA,M=MA:=⟨_,rfl⟩;rw [hMA] at HMN;have HMA:=Lib.hid hMA;clear hMA
    go_loopg [73] wn (fun g s73 wx=>∃ (i c:Nat) (rv tv:Value) (K:KV) (F:List Nat) (M:MV) (p:MPtr) (refs:List Nat) (tabs:List TV),wn-i=g/\i<=wn/\s73=.int .i64 i/\LIn wx w0.heap.size a b m rv tv K F M p refs tabs/\WLog K M refs tabs/\WAll K refs tabs/\Fro w0.heap.size wS wx /\
     c<=i/\c<=8/\K.vars=v/\K.A.places=R/\(∀ x,K.hold x<=c)/\refs.length<=c+2/\M.held.length<=c/\Hid (M=laysT v MA (Ws.take (min i 8))/\∀ r,r∈refs->r<2\/0<K.hold r))
    case atStart=>exact ⟨0,0,_,_,_,_,_,_,_,_,by omega,by omega,rfl,HX.out.1,HX.out.2.2.2.1,HX.out.2.2.2.2,HX.out.2.2.1,by omega,by omega,HX.out.2.1.vr,HX.out.2.1.pl,fun x=>by rw [HX.out.2.1.h0];omega,by simp,by rw [HX.out.2.1.hb];simp,HMA.out,fun r hr=>.inl (by simp at hr;omega)⟩
    case round =>
     obtain ⟨j,c,rv,tv,K2,F2,M2,p2,refs,tabs,rfl,hj,rfl,hLI,hlog,hall,hF,hcj,hc8,hvr,hpl,hhd,hrl,hhl,HLX⟩:=hrel;obtain ⟨⟨z2,z3⟩,huw⟩:=HLL.out _ hF
     by_cases hjt:j<wn
     ·obtain ⟨y,hy,hc⟩:=HW.out.at_ j hjt
      subst hy;have hcr:=huw.cell0 hc;have hyu:U64 (Ws.getD j 0):=HUW.out _ (by rw [List.getD_eq_getElem?_getD,List.getElem?_eq_getElem (by rw [HW.out.len];exact hjt)];exact List.getElem_mem _)
      have HTK:Hid (j<8->Ws.take (min (j+1) 8)=Ws.take (min j 8)++[Ws.getD j 0]):=fun h8=>by
       rw [show min (j+1) 8=j+1 by omega,show min j 8=j by omega,List.take_add_one,getD_atI (by rw [HW.out.len];exact hjt)];rfl
      generalize Ws.getD j 0=u at *
      have hjl:(j:Int)<(wn:Int):=by omega
      have HX2:=Lib.hid (And.intro hLI (And.intro hlog (And.intro hall (And.intro hF (And.intro hvr (And.intro hpl hhd))))))
      by_cases h8:j<8
      ·have hd:decide ((j:Int)<8)=true:=by simp;omega
       have hd2:(j:Int)<8:=by omega
       clear hLI hlog hall hF huw hc hvr hpl hhd;go_wp2_with fail;refine (word_spec v u _ HN.out.1 HN.out.2 hyu).mono ?_;rintro e w5 hE;obtain ⟨t,ta,tn,tc,htn,rfl,hT,hu⟩:=hE.ex;have HT:=Lib.hid (And.intro hT (And.intro hu (show t.n=v by rw [htn];rfl)));have HTW:=Lib.hid htn;clear hE hT hu htn;have HLAY:=wlay_spec w0.heap.size a b m rv tv K2 F2 M2 p2 refs tabs (.slice ta tn tc) t w5 (HX2.out.1.keep0 HT.out.2.1) HX2.out.2.1 HX2.out.2.2.1 (HT.out.1.tin HX2.out.1.mem.z) (by rw [HT.out.2.2,HX2.out.2.2.2.2.1]) (fun k hk=>by have h1:=(HT.out.1.row.lt k hk).1;have h2:=heap_lt HX2.out.1.blk;omega) (fun x=>by have:=HX2.out.2.2.2.2.2.2 x;omega) (by omega) (by omega);unfold tabV at HLAY;rw [HT.out.2.2] at HLAY;have HLAY:=Lib.hid HLAY;go_wp2_with fail;refine HLAY.out.mono ?_;rintro e w6 hE;obtain ⟨rv',tv',K',F',M',p',refs',tabs',rfl,q1,q2,q3,q4,q5,q6,q7,q8,q9,q10⟩:=hE.ex;have HQ:=Lib.hid (And.intro q1 (And.intro q2 (And.intro q3 (And.intro q4 (And.intro q5 (And.intro q9 q8))))));have HQ2:=Lib.hid q10.2;clear hE q1 q2 q3 q4 q5 q8 q9 q10;go_wp2_with fail
       go_roundg (wn-(j+1))
       case measure=>omega
       case rel=>exact ⟨j+1,c+1,rv',tv',K',F',M',p',refs',tabs',rfl,by omega,by simp,HQ.out.1,HQ.out.2.1,HQ.out.2.2.1,(HX2.out.2.2.2.1.trans (Fro.of0 HT.out.2.1)).trans HQ.out.2.2.2.1,by omega,by omega,by rw [HQ.out.2.2.2.2.2.1.vr];exact HX2.out.2.2.2.2.1,by rw [HQ.out.2.2.2.2.2.1.pl];exact HX2.out.2.2.2.2.2.1,fun x=>by have:=HQ.out.2.2.2.2.1 x;have:=HX2.out.2.2.2.2.2.2 x;omega,by omega,by omega,by rw [HTK.out h8,HQ2.out.1,HTW.out];unfold laysT;rw [List.foldl_append,HLX.out.1];rfl,fun r hr=>by
        rcases HQ2.out.2.2 r hr with h | h
        ·exact (HLX.out.2 r h).imp id fun h=>Nat.lt_of_lt_of_le h (HQ2.out.2.1 r)
        ·exact h⟩
      ·have hd:decide ((j:Int)<8)=false:=by simp;omega
       have hd2:¬ (j:Int)<8:=by omega
       clear hLI hlog hall hF huw hc hvr hpl hhd;go_wp2_with fail
       go_roundg (wn-(j+1))
       case measure=>omega
       case rel=>exact ⟨j+1,c,rv,tv,K2,F2,M2,p2,refs,tabs,rfl,by omega,by simp,HX2.out.1,HX2.out.2.1,HX2.out.2.2.1,HX2.out.2.2.2.1,by omega,hc8,HX2.out.2.2.2.2.1,HX2.out.2.2.2.2.2.1,HX2.out.2.2.2.2.2.2,hrl,hhl,by rw [show min (j+1) 8=min j 8 by omega];exact HLX.out⟩
     ·obtain rfl:j=wn:=by omega
      have hjl:¬ ((j:Int)<(j:Int)):=by omega
      obtain ⟨ra,rc,hrv,_⟩:=row_nil_len hLI.mem.rr;obtain ⟨qa,qc,htv,_⟩:=hLI.mem.tt.form;subst hrv htv;have HX2:=Lib.hid (And.intro hLI (And.intro hlog (And.intro hall (And.intro hF (And.intro hvr (And.intro hpl hhd))))));clear hLI hlog hall hF huw hvr hpl hhd
      have hk1:K2.hold 1<65535:=by have:=HX2.out.2.2.2.2.2.2 1;omega
      go_wp2_with fail;refine (keep1_at b K2 F2 _ HX2.out.1.mem.ker hk1).mono ?_;rintro e w6 ⟨F',rfl,hK,hu,hs⟩;obtain ⟨hL6,hF6⟩:=HX2.out.1.kernel hK hu hs;obtain ⟨hlg,hal,hex,hhd⟩:=HX2.out.2.1.keepK HX2.out.2.2.1 HX2.out.1.mem.ker.ok;obtain ⟨k0,k1,_,_⟩:=hL6.cells;have km:=cell_at (j:=4) hL6.mem.mod.blk rfl;have kf:=frozen_at 4 hL6.mem.mod.blk;obtain ⟨p7,hL7,hF7⟩:=hL6.model (ModE.clear hL6.mem.mod hL6.mem.mod.sz);have hlg7:=hlg.clear;have HY:=Lib.hid (And.intro hL7 (And.intro hlg7 (And.intro hal (And.intro (HX2.out.2.2.2.1.trans (hF6.trans hF7)) (And.intro hex hhd)))));have HST7:=Lib.hid (stands_spec b m _ _ (K2.keepK 1) F' { M2 with trail:=[] } p7 refs tabs _ (WIn.of (hL7.keep0 (Upd.refl _ _).drew).mem hlg7) rfl (by simp));obtain ⟨y0,y1,y2,y3⟩:=hL7.cells;clear hK hu hs hL6 hF6 hL7 hF7 hlg hal hex hhd hlg7;obtain ⟨w7,hw7⟩ : ∃ w7,w6.setCell ⟨m,4,none⟩ (.slice none 0 0)=w7:=⟨_,rfl⟩;rw [hw7] at HY HST7 y0 y1 y2 y3;go_upto_region 22 with fail
      have HR7:Hid (∀ x:World,Upd [] w7 x->(x.cell? ⟨a,0,none⟩=some (.pointer (some ⟨b,0,none⟩))/\x.cell? ⟨a,1,none⟩=some (.pointer (some ⟨m,0,none⟩))/\x.cell? ⟨a,2,none⟩=some (.slice ra refs.length rc)/\x.cell? ⟨a,3,none⟩=some (.slice qa tabs.length qc))/\x.heap[w.heap.size+1]?=some (.cells #[.pointer none,.pointer none,.slice none 0 0,.slice none 0 0] 31 (0,0))):=fun x u=>by
       refine ⟨⟨u.cell0 y0,u.cell0 y1,u.cell0 y2,u.cell0 y3⟩,?_⟩
       have hl:w.heap.size+1<w0.heap.size:=by rw [HBX.out.2.2.2];omega
       have h1:=HY.out.2.2.2.1;rw [u.block _ (Nat.lt_of_lt_of_le hl (Nat.le_trans HST.out.2.size h1.size)) (by simp),h1.block _ hl (Nat.lt_of_lt_of_le hl HST.out.2.size),HST.out.2.block _ hl (by simp)];exact HBX.out.2.1
      unfold worldV at HST7
      have hna:a≠w.heap.size+1:=by
       have h2:=HST.out.1.lo a (.inr (.inr (.inl rfl)))
       rw [HBX.out.2.2.2] at h2;omega
      go_region_held3 (fun x=>x.cell? ⟨a,0,none⟩=some (.pointer (some ⟨b,0,none⟩))/\x.cell? ⟨a,1,none⟩=some (.pointer (some ⟨m,0,none⟩))/\x.cell? ⟨a,2,none⟩=some (.slice ra refs.length rc)/\x.cell? ⟨a,3,none⟩=some (.slice qa tabs.length qc)) (first | exact (HR7.out _ (Upd.refl _ _).drew).1 | exact (HR7.out _ HU8.out).1 | exact set4 (set4 (set4 (set4 (HR7.out _ HU8.out).1 hna _) hna _) hna _) hna _) (first
       | (go_at_call 19;refine (HST7.out).mono ?_;rintro e w8 ⟨rfl,hu⟩;have HU8:=Lib.hid hu.of_drew;clear hu;have hb8:=(HR7.out _ HU8.out).2;have f0:=frozen_at 0 hb8;have f1:=frozen_at 1 hb8;have f2:=frozen_at 2 hb8;have f3:=frozen_at 3 hb8;have g0:=cell_at (j:=0) hb8 rfl;have g1:=cell_at (j:=1) hb8 rfl;have g2:=cell_at (j:=2) hb8 rfl;have g3:=cell_at (j:=3) hb8 rfl;have HB8:=Lib.hid hb8;clear hb8))
      have hb9:=box4 HB8.out (.pointer (some ⟨b,0,none⟩)) (.pointer (some ⟨m,0,none⟩)) (.slice ra refs.length rc) (.slice qa tabs.length qc);have x0:=cell_at (j:=0) hb9 rfl;have x1:=cell_at (j:=1) hb9 rfl;have x2:=cell_at (j:=2) hb9 rfl;have x3:=cell_at (j:=3) hb9 rfl;clear hb9;go_wp2_with fail;refine bodyPost_ret (v:=.tuple #[worldV b m (.slice ra refs.length rc) (.slice qa tabs.length qc),.bool true]) (by simp [results,Tryz.results15,go_sem,x0,x1,x2,x3,worldV]) rfl ?_
      have hu9:Upd [w.heap.size+1] w8 ((((w8.setCell ⟨w.heap.size+1,0,none⟩ (.pointer (some ⟨b,0,none⟩))).setCell ⟨w.heap.size+1,1,none⟩ (.pointer (some ⟨m,0,none⟩))).setCell ⟨w.heap.size+1,2,none⟩ (.slice ra refs.length rc)).setCell ⟨w.heap.size+1,3,none⟩ (.slice qa tabs.length qc)) :=
       ((((Upd.refl _ w8).setCell (p:=⟨w.heap.size+1,0,none⟩) (.inl (by simp)) _).setCell (p:=⟨w.heap.size+1,1,none⟩) (.inl (by simp)) _).setCell (p:=⟨w.heap.size+1,2,none⟩) (.inl (by simp)) _).setCell (p:=⟨w.heap.size+1,3,none⟩) (.inl (by simp)) _
      have hlo:=HY.out.1.lo;rw [HBX.out.2.2.2] at hlo
      exact ⟨b,m,_,_,K2.keepK 1,F',_,p7,refs,tabs,rfl,(HY.out.1.keep0 HU8.out).mem.other HB8.out hu9 (fun hm=>by have:=hlo _ (.inl hm);omega),HY.out.2.1,HY.out.2.2.1,
       fun k hk=>by have:=hlo k (hk.imp id (·.imp id fun h=>.inr h));omega,
       ((HLL.out w7 HY.out.2.2.2.1).2.trans HU8.out).then hu9 (fun k hk=>.inr (by simp at hk;omega)),
       by rw [HY.out.2.2.2.2.1.pl,HX2.out.2.2.2.2.2.1,HUX.out.2],fun x=>by rw [HY.out.2.2.2.2.2];have:=HX2.out.2.2.2.2.2.2 x;omega,by omega,by show M2.held.length<=8;omega,rfl,rfl,by rw [HY.out.2.2.2.2.1.vr,HX2.out.2.2.2.2.1,HVN.out],fun r hr=>by rw [HY.out.2.2.2.2.2];exact HLX.out.2 r hr,fun h0=>by
        rw [HLX.out.1,HMN.out h0,HUX.out.2,<- HVN.out,show Ws.take (min j 8)=Ws.take 8 by rw [List.take_eq_take_iff,HW.out.len];omega]⟩
theorem MV.TrFit.nil {M:MV} (h:M.trail=[]):M.TrFit:=by
 unfold MV.TrFit;rw [h];exact trivial
theorem KM.of {K:KV} {M:MV} {refs:List Nat} {tabs:List TV} (l:WLog K M refs tabs) (h1:K.trail=[]) (h2:M.trail=[]):KM K M:=⟨l.agr,l.fit,by rw [h1,h2],MV.TrFit.nil h2⟩
theorem m17_is:({ laysT (varsN 3) (MV.new (varsN 3) (roomN 0)) (([60576]:List Int).take 8) with trail:=[] }:MV)=M17:=by
 have e1:varsN 3=4:=by decide
 have e2:roomN 0=200:=by decide
 rw [e1,e2];rfl
theorem m17_oneE:M17.oneE 1 1000=0:=by
 have:M17.n=4:=by decide +kernel
 unfold MV.oneE;rw [if_neg (by omega),this,if_pos (by omega)]
theorem m17_oneR:M17.oneR 1 1000=#[.int .i64 6,.int .i64 4,.int .i64 5,.bool false]:=by
 obtain ⟨h1,h2,_⟩:=m17_oneD;have e:M17.oneD (M17.lvl (1:Int).toNat) (1000:Int).toNat=M17.oneD (M17.lvl 1) 1000:=rfl;unfold MV.oneR
 rw [m17_oneE,if_pos rfl,e,h1,h2,m17_live];rfl
theorem m17_one:(M17.one 1 1000).live=4/\(M17.one 1 1000).trail.length=1:=by
 obtain ⟨h1,_,h3⟩:=m17_oneD
 have e:M17.one 1 1000=(M17.oneD (M17.lvl 1) 1000).M:=by unfold MV.one;rw [m17_oneE,if_pos rfl];rfl
 rw [e];exact ⟨h1,h3⟩
theorem awake17_spec (w:World):Calls Tryz.prog 16 #[] w fun e w'=>e=.returned (.bool true)/\Upd [] w w':=by
 go_enter Tryz.func16,Tryz.ntmps16
 go_wp2_with fail;have hu0:=(Upd.refl [] w).alloc (.cells #[.int .u64 60576] 96 (0,0));have hb0:=heap_alloc_new w (.cells #[.int .u64 60576] 96 (0,0));generalize hW0:w.alloc (.cells #[.int .u64 60576] 96 (0,0))=w0 at *;have hL:RowOf w0 .i64 none 0 []:=⟨rfl,by unfold maxLen;omega,fun i hi=>by omega⟩
 have hWr:RowOf w0 .u64 (some ⟨w.heap.size,0,none⟩) 1 [60576]:=⟨rfl,by unfold maxLen;omega,fun i hi=>⟨_,rfl,by
  obtain rfl:i=0:=by omega
  exact cell_at hb0 rfl⟩⟩
 refine (laid_specX 3 0 none (some ⟨w.heap.size,0,none⟩) 0 0 1 1 [] [60576] w0 hL hWr (by intro x hx;simp at hx;subst hx;unfold U64;omega)).mono ?_;rintro e w1 hE;obtain ⟨b,m,_,_,K,F,M,p,refs,tabs,rfl,hm,hlg,hal,hlo,hu,hpl,hhd,hrl,hhl,hkt,hmt,hvr,hrf,hM⟩:=hE.ex;obtain ⟨xa,xc,rfl,_⟩:=row_nil_len hm.rr;obtain ⟨ya,yc,rfl,_⟩:=hm.tt.form;have e0:worldV b m (.slice xa refs.length xc) (.slice ya tabs.length yc)=.agg #[.pointer (some ⟨b,0,none⟩),.pointer (some ⟨m,0,none⟩),.slice xa refs.length xc,.slice ya tabs.length yc]:=rfl;rw [e0];have hM:M=M17:=(hM rfl).trans m17_is;have hkm:=KM.of hlg hkt hmt;rw [hM] at hkm hmt;have hbx:=boxW w1 (.pointer (some ⟨b,0,none⟩)) (.pointer (some ⟨m,0,none⟩)) (.slice xa refs.length xc) (.slice ya tabs.length yc);have hu2:Upd [] w1 (w1.alloc (.cells #[.pointer (some ⟨b,0,none⟩),.pointer (some ⟨m,0,none⟩),.slice xa refs.length xc,.slice ya tabs.length yc] 31 (0,0))):=(Upd.refl _ _).alloc _;obtain ⟨wA,hwA⟩ : ∃ wA,w1.alloc (.cells #[.pointer (some ⟨b,0,none⟩),.pointer (some ⟨m,0,none⟩),.slice xa refs.length xc,.slice ya tabs.length yc] 31 (0,0))=wA:=⟨_,rfl⟩;rw [hwA] at hbx hu2;have HWA:=Lib.hid hwA;have HUA:=Lib.hid ((hu0.trans hu).trans hu2);have hkerA:=hm.ker.upd hu2 (by simp);have HONE:=Lib.hid (one_spec b 1 1000 K F M17 wA hkerA hkm (by rw [hmt];simp))
 have HLO:Hid (∀ k,k∈F->w.heap.size<=k):=fun k hk=>by have:=hlo k (.inl hk);have:=hu0.size;omega
 have c0:=hbx.1
 have HBA:Hid (wA.heap[w1.heap.size]?=some (.cells #[.pointer (some ⟨b,0,none⟩),.pointer (some ⟨m,0,none⟩),.slice xa refs.length xc,.slice ya tabs.length yc] 31 (0,0))):=by show _=_;rw [<- hwA];exact heap_alloc_new _ _
 have HFA:Hid (∀ k,k∈F->k<w1.heap.size):=hm.ker.lt;clear hE hm hlg hal hlo hu hpl hhd hrl hhl hkt hmt hvr hrf hM hkm e0 hbx hu2 hwA hkerA hL hWr hb0 hu0 hW0;go_upto_region 4 with fail;rw [HWA.out];go_wp2_with fail;refine HONE.out.mono ?_;rintro e w2 hP;obtain rfl:=hP.en;rw [m17_oneR,m17_oneE];obtain ⟨K2,F2,k1,k2,k3,k4,k5⟩:=hP.mv.ex;have hb2:=(k4.block w1.heap.size (heap_lt HBA.out) (fun hk=>Nat.lt_irrefl _ (HFA.out _ hk))).trans HBA.out
 have HUE:Hid (Upd [] w w2):=HUA.out.then k4 (fun k hk=>.inr (HLO.out k hk))
 have HK2:Hid (∀ z,Upd [] w2 z->Calls Tryz.prog 39 #[.pointer (some ⟨b,0,none⟩)] z fun e w'=>e=.returned (.int .i64 4)/\w'=z):=fun z u=>by
  have h9:=live_at b K2 F2 z (k1.upd u (by simp));rw [k2.live k1.ok k1.uni,m17_one.1] at h9;exact h9
 have HT2:Hid (∀ z,Upd [] w2 z->Calls Tryz.prog 40 #[.pointer (some ⟨b,0,none⟩)] z fun e w'=>e=.returned (.int .i64 1)/\w'=z):=fun z u=>by
  have h9:=trail_at b K2 F2 z (k1.upd u (by simp));rw [k2.tr,m17_one.2] at h9;exact h9
 have d0:=cell_at (j:=0) hb2 rfl
 have d0':∀ z,Upd [] w2 z->z.cell? ⟨w1.heap.size,0,none⟩=some (.pointer (some ⟨b,0,none⟩)):=fun z u=>u.cell0 d0
 have hy:=heap_alloc_new w2 (.cells #[.int .i64 6,.int .i64 4,.int .i64 5,.bool false] 36 (0,0));have y0:=cell_at (j:=0) hy rfl;have y1:=cell_at (j:=1) hy rfl;have y2:=cell_at (j:=2) hy rfl;have y3:=cell_at (j:=3) hy rfl;have d1:=d0' _ ((Upd.refl [] w2).alloc (.cells #[.int .i64 6,.int .i64 4,.int .i64 5,.bool false] 36 (0,0)));have HU9:=Lib.hid (HUE.out.alloc (.cells #[.int .i64 6,.int .i64 4,.int .i64 5,.bool false] 36 (0,0)));clear hP k1 k2 k3 k4 k5 hb2 c0 d0 d0' hy;go_wp2_with fail;refine (HT2.out _ ((Upd.refl _ _).alloc _)).mono ?_;rintro e w3 ⟨rfl,rfl⟩;go_wp2_with fail;refine (HK2.out _ ((Upd.refl _ _).alloc _)).mono ?_;rintro e w3 ⟨rfl,rfl⟩;go_wp2_with fail;go_ret;exact ⟨rfl,HU9.out⟩
theorem WLog.stay {K K':KV} {M M':MV} {refs:List Nat} {tabs:List TV} (l:WLog K M refs tabs) (al:WAll K refs tabs) (s:Stay K K') (hk:K'.Ok) (hm:KM K' M') (hr:∀ r,r∈refs->r<2\/0<K.hold r) :
  WLog K' M' refs tabs/\WAll K' refs tabs/\∀ r,r∈refs->r<2\/0<K'.hold r:=by
 have ha:WAll K' refs tabs:=fun i r t h1 h2=>by
  obtain ⟨q1,q2⟩:=al i r t h1 h2;have hm:=List.mem_of_getElem? h1;refine ⟨?_,fun y=>?_⟩
  ·rcases hr r hm with h | h
   ·exact hk.tk_const h
   ·exact (hk.wf.ht r (by rw [s.hd];exact h)).2
  ·rw [s.den r ((hr r hm).elim .inr .inl) y,q2]
 exact ⟨⟨hm.agr,hm.fit,l.lr,l.rb,by rw [s.vr];exact l.t2,fun t ht=>by rw [s.vr];exact l.ok t ht,fun i r t h1 h2 _=>ha i r t h1 h2,l.r32⟩,ha,fun r hm=>by rw [s.hd];exact hr r hm⟩
structure SftI (w:World) (n0 a b m:Nat) (rv tv:Value) (refs:List Nat) (tabs:List TV) (tl:Nat) (w':World):Prop where
 ex:∃ (K:KV) (F:List Nat) (M:MV) (p:MPtr),LIn w' n0 a b m rv tv K F M p refs tabs/\KM K M/\WLog K M refs tabs/\WAll K refs tabs/\(∀ r,r∈refs->r<2\/0<K.hold r)/\M.trail.length<=tl
 up:Upd [] w w'
end Go.Proofs.YtpfafhmkbcahhaaGreat
