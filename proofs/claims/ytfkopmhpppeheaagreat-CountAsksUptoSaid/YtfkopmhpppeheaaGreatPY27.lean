import Derived.Test.YtfkopmhpppeheaaGreatPY23
import Derived.Test.YtfkopmhpppeheaaGreatPY26
import Derived.Test.YtfkopmhpppeheaaGreatPY11
import Derived.Test.YtfkopmhpppeheaaGreatPY20
import Derived.Test.YtfkopmhpppeheaaGreatPY25
import Derived.Test.YtfkopmhpppeheaaGreatPY12
import Derived.Deep.DeepCutAuto
import Derived.Laws.ResultCell
import Derived.Laws.Rows
import Derived.WalkKit
import Derived.ProofKit
import Derived.OpenShut
import Derived.ShutString
import Derived.ChangeOld
import Derived.ChangeSlices
import Derived.Below
import Derived.BigQuiet
import Derived.Deep.RegionLaw
import Derived.Deep.AppendLies
set_option maxRecDepth 100000
set_option maxHeartbeats 6400000
namespace Go.Proofs.YtfkopmhpppeheaaGreat
open Go.RowKit Go.Maps Go.ChangeMaps Go.WideShapes
theorem set4 {x:World} {a B j:Nat} {v0 v1 v2 v3:Value} (h:x.cell? ⟨a,0,none⟩=some v0/\x.cell? ⟨a,1,none⟩=some v1/\x.cell? ⟨a,2,none⟩=some v2/\x.cell? ⟨a,3,none⟩=some v3) (hne:a≠B) (u:Value) :
  (x.setCell ⟨B,j,none⟩ u).cell? ⟨a,0,none⟩=some v0/\(x.setCell ⟨B,j,none⟩ u).cell? ⟨a,1,none⟩=some v1/\(x.setCell ⟨B,j,none⟩ u).cell? ⟨a,2,none⟩=some v2/\(x.setCell ⟨B,j,none⟩ u).cell? ⟨a,3,none⟩=some v3:=by
 have hb:(x.setCell ⟨B,j,none⟩ u).heap[a]?=x.heap[a]?:=heap_set_ne hne;exact ⟨(World.cell?_of_block (a:=⟨a,0,none⟩) hb).trans h.1,(World.cell?_of_block (a:=⟨a,1,none⟩) hb).trans h.2.1,(World.cell?_of_block (a:=⟨a,2,none⟩) hb).trans h.2.2.1,(World.cell?_of_block (a:=⟨a,3,none⟩) hb).trans h.2.2.2⟩
theorem box4 {x:World} {B:Nat} {t:TypeId} {y0 y1 y2 y3:Value} (h:x.heap[B]?=some (.cells #[y0,y1,y2,y3] t (0,0))) (v0 v1 v2 v3:Value) :
  ((((x.setCell ⟨B,0,none⟩ v0).setCell ⟨B,1,none⟩ v1).setCell ⟨B,2,none⟩ v2).setCell ⟨B,3,none⟩ v3).heap[B]?=some (.cells #[v0,v1,v2,v3] t (0,0)) :=
 heap_set_eq (j:=3) (heap_set_eq (j:=2) (heap_set_eq (j:=1) (heap_set_eq (j:=0) h v0) v1) v2) v3
theorem WMem.other {w w':World} {b m B:Nat} {rv tv:Value} {K:KV} {F:List Nat} {M:MV} {p:MPtr} {refs:List Nat} {tabs:List TV} {cs:Array Value} {fr:Nat × Nat} (h:WMem w b m rv tv K F M p refs tabs) (hb:w.heap[B]?=some (.cells cs 97 fr)) (u:Upd [B] w w') (hF:B∉F):WMem w' b m rv tv K F M p refs tabs:=by
 have nb:∀ {k:Nat},k∈[B]->k=B:=fun {k} hk=>by simpa using hk
 have keepT:∀ {Z:List Nat} {d:Value} {s:TV},TIn w Z d s->TIn w' Z d s:=fun {Z d s} hd =>
  ⟨hd.ok,row_keep hd.row fun k hk=>u.block k (hd.row.lt k hk).2 fun hm=>blk_ne hd.row hb (by decide) (by rw [<- nb hm];exact hk),hd.fr⟩
 obtain ⟨ds,d1,d2,d3⟩:=h.mod.hs.ex;obtain ⟨es,e1,e2,e3⟩:=h.tt.ex
 refine ⟨h.ker.upd u fun k hk hm=>hF (by rw [<- nb hm];exact hk),⟨?_,row_keep h.mod.os fun k hk=>u.block k (h.mod.os.lt k hk).2 fun hm=>blk_ne h.mod.os hb (by decide) (by rw [<- nb hm];exact hk),
  ⟨ds,d1,row_keep d2 fun k hk=>u.block k (d2.lt k hk).2 fun hm=>blk_ne d2 hb (by decide) (by rw [<- nb hm];exact hk),fun i t c hi hc=>keepT (d3 i t c hi hc)⟩,
  row_keep h.mod.ts fun k hk=>u.block k (h.mod.ts.lt k hk).2 fun hm=>blk_ne h.mod.ts hb (by decide) (by rw [<- nb hm];exact hk),h.mod.ne,h.mod.sz⟩,h.dj,
  row_keep h.rr fun k hk=>u.block k (h.rr.lt k hk).2 fun hm=>blk_ne h.rr hb (by decide) (by rw [<- nb hm];exact hk),h.rf,
  ⟨es,e1,row_keep e2 fun k hk=>u.block k (e2.lt k hk).2 fun hm=>blk_ne e2 hb (by decide) (by rw [<- nb hm];exact hk),fun i t c hi hc=>keepT (e3 i t c hi hc)⟩,h.tt.fr⟩
 rw [u.block m (heap_lt h.mod.blk) fun hm=>?_]
 ·exact h.mod.blk
 ·have:=nb hm
  subst this;have h1:=h.mod.blk;rw [hb] at h1
  injection h1 with h1;injection h1 with _ h1 _;exact absurd h1 (by decide)
theorem ModIn.lt {w:World} {m:Nat} {M:MV} {p:MPtr} {Z:List Nat} (h:ModIn w m M p Z):∀ k,k∈p.all m->k<w.heap.size:=fun k hk=>by
 rcases MPtr.mem.1 hk with rfl | h1 | h1 | h1
 ·exact heap_lt h.blk
 ·exact (h.os.lt k h1).2
 ·obtain ⟨xs,hr⟩:=h.hs.row;exact (hr.lt k h1).2
 ·exact (h.ts.lt k h1).2
theorem LIn.start {w9:World} {n0 s1 s2 a b m g1 g2 n R:Nat} {T:List DM} {q:KPtr} {p:MPtr} {c0 c1:Value} (hk:KerIn w9 b (KV.new n R) T q) (hm:ModIn w9 m (MV.new n R) p (p.all m))
  (hr:w9.heap[g1]?=some (.cells #[.int .u32 (0:Nat),.int .u32 (1:Nat)] 77 (0,0))) (h0:TIn w9 [] c0 (constT n false)) (h1:TIn w9 [] c1 (constT n true)) (z0:∀ k,c0.ownBlock=some k->s2<=k) (z1:∀ k,c1.ownBlock=some k->s2<=k)
  (ht:w9.heap[g2]?=some (.cells #[.int .i64 n,c0,.int .i64 n,c1] 122 (0,0)))
  (ha:w9.heap[a]?=some (.cells #[.pointer (some ⟨b,0,none⟩),.pointer (some ⟨m,0,none⟩),.slice (some ⟨g1,0,none⟩) 2 2,.slice (some ⟨g2,0,none⟩) 2 2] 97 (0,0)))
  (k1:∀ k,k∈q.all b->n0<=k/\k<s1) (k2:∀ k,k∈p.all m->s1<=k/\k<s2) (e1:s2<=g1) (e2:s2<=g2) (e3:s2<=a) (hn:n0<=s1) :
  LIn w9 n0 a b m (.slice (some ⟨g1,0,none⟩) 2 2) (.slice (some ⟨g2,0,none⟩) 2 2) (KV.new n R) (q.all b) (MV.new n R) p [0,1] [constT n false,constT n true]:=by
 have hm0:=k2 m (MPtr.mem.2 (.inl rfl))
 have zlt:∀ k,k∈q.all b++p.all m->k<s2:=fun k hk=>by
  rcases List.mem_append.1 hk with h | h
  ·have:=k1 k h;omega
  ·exact (k2 k h).2
 have nz:∀ {k:Nat},s2<=k->k∉q.all b++p.all m:=fun {k} hk hm=>by have:=zlt k hm;omega
 have nz1:∀ {k:Nat},s2<=k->k∉q.all b/\k∉p.all m:=fun {k} hk=>⟨fun h=>nz hk (List.mem_append.2 (.inl h)),fun h=>nz hk (List.mem_append.2 (.inr h))⟩
 have own:∀ {g k:Nat},(Value.slice (some ⟨g,0,none⟩) 2 2).ownBlock=some k->k=g:=fun {g k} h=>by simp [Value.ownBlock] at h;exact h.symm
 refine ⟨ha,⟨⟨T,q,hk,rfl⟩,⟨hm.blk,hm.os,?_,hm.ts,hm.ne,fun k hk=>List.mem_append.2 (.inr hk)⟩,fun k h1 h2=>?_,⟨rfl,.inr ⟨g1,2,_,rfl,Nat.zero_le _,hr,Nat.le_refl _,by unfold maxLen;omega,rfl,rfl⟩⟩,fun k hk=>?_,?_⟩,nz1 e3,fun k hk=>?_,?_⟩
 ·obtain ⟨cs,q1,q2,_⟩:=hm.hs.ex
  exact ⟨cs,q1,q2,fun i t c h=>by simp [MV.new] at h⟩
 ·have:=k1 k h1;have:=k2 k h2;omega
 ·rw [own hk];exact nz1 e1
 ·exact TLs.two (t0:=constT n false) (t1:=constT n true) ht ⟨h0.ok,h0.row,fun k hk=>nz (z0 k hk)⟩ ⟨h1.ok,h1.row,fun k hk=>nz (z1 k hk)⟩ (Nat.zero_le _) (nz e2)
 ·rcases hk with h | h | h | h | h
  ·exact (k1 k h).1
  ·have:=k2 k h;omega
  ·omega
  ·rw [own h];omega
  ·rw [own h];omega
 ·have:=heap_lt ha;omega
theorem getD_atI {l:List Int} {j:Nat} (h:j<l.length):l[j]?=some (l.getD j 0):=by
 rw [List.getD_eq_getElem?_getD,List.getElem?_eq_getElem h];rfl
theorem laid_specX (n room:Int) (la wa:Option Addr) (ln lc wn wk:Nat) (Ls Ws:List Int) (w:World) (hL:RowOf w .i64 la ln Ls) (hW:RowOf w .u64 wa wn Ws) (hU:∀ x,x∈Ws->U64 x) :
  Calls Tryz.prog 37 #[.agg #[.int .i64 n,.int .i64 room,.slice la ln lc,.slice wa wn wk]] w fun e w'=>LaidX n room ln Ws w e w':=by
 have HL:=Lib.hid hL;have HW:=Lib.hid hW;have HUW:=Lib.hid hU;obtain ⟨w0,hw0⟩ : ∃ w0,(w.alloc (.cells #[.int .i64 n,.int .i64 room,.slice la ln lc,.slice wa wn wk] 95 (0,0))).alloc (.cells #[.pointer none,.pointer none,.slice none 0 0,.slice none 0 0] 97 (0,0))=w0:=⟨_,rfl⟩
 have hsz:w0.heap.size=w.heap.size+2:=by rw [<- hw0,World.size_alloc,World.size_alloc]
 have hbx:w0.heap[w.heap.size]?=some (.cells #[.int .i64 n,.int .i64 room,.slice la ln lc,.slice wa wn wk] 95 (0,0)):=by rw [<- hw0];exact (Below.heap_alloc _ _ _ (heap_lt (heap_alloc_new _ _))).trans (heap_alloc_new _ _)
 have hrs:w0.heap[w.heap.size+1]?=some (.cells #[.pointer none,.pointer none,.slice none 0 0,.slice none 0 0] 97 (0,0)):=by
  rw [<- hw0];have h:=heap_alloc_new (w.alloc (.cells #[.int .i64 n,.int .i64 room,.slice la ln lc,.slice wa wn wk] 95 (0,0))) (.cells #[.pointer none,.pointer none,.slice none 0 0,.slice none 0 0] 97 (0,0))
  rw [World.size_alloc] at h;exact h
 have hu0:Upd [] w w0:=by rw [<- hw0];exact ((Upd.refl _ _).alloc _).alloc _
 have HBX:=Lib.hid (And.intro hbx (And.intro hrs (And.intro hu0 hsz)));have HW0:=Lib.hid hw0;have hroom:=roomN_lo room;have b0:w0.cell? ⟨w.heap.size,0,none⟩=some (.int .i64 n):=cell_at hbx rfl;have b1:w0.cell? ⟨w.heap.size,1,none⟩=some (.int .i64 room):=cell_at hbx rfl;clear hL hW hU hw0 hbx hrs hu0 hsz
 go_enter Tryz.func37,Tryz.ntmps37
 go_wp2_with fail;rw [HW0.out]
 go_region_held3 (fun x=>x.cell? ⟨w.heap.size,0,none⟩=some (.int .i64 n)/\x.cell? ⟨w.heap.size,1,none⟩=some (.int .i64 room)) (first | exact ⟨b0,b1⟩) (first | (go_at_call 97;refine (lvars_spec _ _).mono ?_;rintro e w1 ⟨⟨v,hvn,rfl,h1,h6⟩,rfl⟩;have HVN:=Lib.hid hvn;clear hvn))
 go_upto_region 2 with fail
 go_cut [23] from 18 to 22 (fun s23 wx=>s23=.bool (decide (room<2)||decide (1048576<room))/\Upd [] w0 wx)
 case first =>
  clear b0 b1
  cases hd:decide (room<2) with
  | true =>
   go_wp2_with fail;go_meet;exact ⟨by simp [hd],(Upd.refl _ _).drew⟩
  | false =>
   go_wp2_with fail;go_meet;exact ⟨by simp [hd],(Upd.refl _ _).drew⟩
 case rest =>
  obtain ⟨rfl,hux⟩:=hcut;have HUX:=Lib.hid hux;clear b0 b1 hux;obtain ⟨bb,hbb⟩ : ∃ bb,(decide (room<2)||decide (1048576<room))=bb:=⟨_,rfl⟩;have HBB:=Lib.hid hbb;rw [hbb];clear hbb;go_upto_if 23 with fail
  go_cut [5] from 24 to 24 (fun s5 wx=>s5=.int .i64 (roomN room:Nat)/\Upd [] w0 wx)
  case first =>
   cases bb with
   | true =>
    have hR:roomN room=200:=by unfold roomN;rw [if_pos (by simpa using HBB.out)]
    go_wp2_with fail;go_meet;exact ⟨by rw [hR];rfl,HUX.out⟩
   | false =>
    have hR:((roomN room:Nat):Int)=room:=by
     have:¬ (room<2\/1048576<room):=fun h=>by
      have:(decide (room<2)||decide (1048576<room))=true:=by simpa using h
      rw [HBB.out] at this;cases this
     unfold roomN;rw [if_neg this];omega
    go_wp2_with fail;go_meet;exact ⟨by rw [hR],HUX.out⟩
  case rest =>
  obtain ⟨rfl,hux⟩:=hcut;obtain ⟨R,hR⟩ : ∃ R,roomN room=R:=⟨_,rfl⟩;rw [hR] at hroom;rw [hR];clear HUX;have HUX:=Lib.hid (And.intro hux hR);have HN:=Lib.hid (And.intro h1 h6);have HRM:=Lib.hid hroom;clear hux hR;go_wp2_with fail;refine (knew_spec v R _ HN.out.1 (by omega) HRM.out.1 HRM.out.2).mono ?_;rintro e w1 ⟨b,T,q,rfl,hK,hu,hs⟩;have HK1:=Lib.hid (And.intro hK (And.intro hu hs));clear hK hu hs;go_wp2_with fail;refine (newmodel_spec v R _ (by omega) HRM.out.2).mono ?_;rintro e w2 hE;obtain ⟨m,p,rfl,hml,hM,hu,hs⟩:=hE.ex;have HM2:=Lib.hid (And.intro hM (And.intro hu (And.intro hs hml)));clear hE hM hu hs hml;go_wp2_with fail;refine (tconst_spec v false _ (by omega)).mono ?_;rintro e w3 hE;obtain ⟨c0,rfl,hT,hu⟩:=hE.ex;have HC0:=Lib.hid (And.intro hT hu);obtain ⟨xa,xc,hxv,_⟩:=row_nil_len hT.row;generalize hXW:(constT v false).ws.length=XW at hxv;subst hxv;clear hE hT hu;have e0:tabV (constT v false) (.slice xa XW xc)=.agg #[.int .i64 v,.slice xa XW xc]:=rfl;rw [e0];go_wp2_with fail;refine (tconst_spec v true _ (by omega)).mono ?_;rintro e w4 hE;obtain ⟨c1,rfl,hT,hu⟩:=hE.ex;have HC1:=Lib.hid (And.intro hT hu);obtain ⟨ya,yc,hyv,_⟩:=row_nil_len hT.row;generalize hYW:(constT v true).ws.length=YW at hyv;subst hyv;clear hE hT hu;have e1:tabV (constT v true) (.slice ya YW yc)=.agg #[.int .i64 v,.slice ya YW yc]:=rfl;rw [e1];clear e0 e1;go_upto_region 8 with fail;obtain ⟨wS,hwS⟩ : ∃ wS,(w4.alloc (.cells #[.int .i64 v,.slice xa XW xc,.int .i64 v,.slice ya YW yc] 122 (0,0))).alloc (.cells #[.pointer (some ⟨b,0,none⟩),.pointer (some ⟨m,0,none⟩),.slice (some ⟨w2.heap.size,0,none⟩) 2 2,.slice (some ⟨w4.heap.size,0,none⟩) 2 2] 97 (0,0))=wS:=⟨_,rfl⟩
  have hst:LIn wS w0.heap.size (w4.heap.size+1) b m (.slice (some ⟨w2.heap.size,0,none⟩) 2 2) (.slice (some ⟨w4.heap.size,0,none⟩) 2 2) (KV.new v R) (q.all b) (MV.new v R) p [0,1] [constT v false,constT v true]/\Upd [] w0 wS:=by
   have u0:=HUX.out.1;have u1:=HK1.out.2.1;have u2:=HM2.out.2.1;have u3:=HC0.out.2;have u4:=HC1.out.2;have z0:=u0.size;have z1:=u1.size;have z2:=u2.size;have z3:=u3.size;have z4:=u4.size;rw [World.size_alloc] at z3
   have u5:Upd [] w4 wS:=by rw [<- hwS];exact ((Upd.refl _ _).alloc _).alloc _
   have u24:Upd [] w2 wS:=(((Upd.refl [] w2).alloc _).trans (u3.trans u4)).trans u5
   refine ⟨LIn.start (s1:=w1.heap.size) (s2:=w2.heap.size) (HK1.out.1.upd (u2.trans u24) (by simp)) (HM2.out.1.keep0 u24) ?_ (((HC0.out.1.tin (Z:=[]) (by simp)).keep0 u4).keep0 u5) ((HC1.out.1.tin (Z:=[]) (by simp)).keep0 u5)
    (fun k hk=>?_) (fun k hk=>?_) ?_ ?_ (fun k hk=>⟨?_,HK1.out.1.mem.lt k hk⟩) (fun k hk=>⟨?_,?_⟩) (Nat.le_refl _) (by omega) (by omega) (by omega),((u0.trans u1).trans u2).trans u24⟩
   ·rw [((u3.trans u4).trans u5).block _ (heap_lt (heap_alloc_new _ _)) (by simp)];exact heap_alloc_new _ _
   ·have:=(HC0.out.1.row.lt k hk).1;rw [World.size_alloc] at this;omega
   ·have:=(HC1.out.1.row.lt k hk).1;omega
   ·rw [<- hwS];exact (Below.heap_alloc _ _ _ (heap_lt (heap_alloc_new _ _))).trans (heap_alloc_new _ _)
   ·have h:=heap_alloc_new (w4.alloc (.cells #[.int .i64 v,.slice xa XW xc,.int .i64 v,.slice ya YW yc] 122 (0,0))) (.cells #[.pointer (some ⟨b,0,none⟩),.pointer (some ⟨m,0,none⟩),.slice (some ⟨w2.heap.size,0,none⟩) 2 2,.slice (some ⟨w4.heap.size,0,none⟩) 2 2] 97 (0,0))
    rw [World.size_alloc] at h;rw [<- hwS];exact h
   ·rcases HK1.out.2.2 k hk with h | h
    ·cases h
    ·omega
   ·rcases HM2.out.2.2.1 k hk with h | h
    ·cases h
    ·exact h
   ·exact HM2.out.1.lt k hk
  have HST:=Lib.hid hst;rw [hwS];obtain ⟨a,ha⟩ : ∃ a,w4.heap.size+1=a:=⟨_,rfl⟩;rw [ha] at HST ⊢;have HA:=Lib.hid ha;have HMX:ln<=maxLen:=HL.out.mx;have HMW:wn<=maxLen:=HW.out.mx;unfold maxLen at HMX HMW;generalize hg1:Value.slice (some ⟨w2.heap.size,0,none⟩) 2 2=rv0 at HST;generalize hg2:Value.slice (some ⟨w4.heap.size,0,none⟩) 2 2=tv0 at HST
  have HLL:Hid (∀ x:World,Fro w0.heap.size wS x->(x.cell? ⟨w.heap.size,2,none⟩=some (.slice la ln lc)/\x.cell? ⟨w.heap.size,3,none⟩=some (.slice wa wn wk))/\Upd [] w x):=fun x f=>by
   have hb:wS.heap[w.heap.size]?=_:=(HST.out.2.block _ (by rw [HBX.out.2.2.2];omega) (by simp)).trans HBX.out.1;have h1:wS.cell? ⟨w.heap.size,2,none⟩=some (.slice la ln lc):=cell_at hb rfl;have h2:wS.cell? ⟨w.heap.size,3,none⟩=some (.slice wa wn wk):=cell_at hb rfl;exact ⟨⟨f.cell h1 (by rw [HBX.out.2.2.2];show w.heap.size<_;omega),f.cell h2 (by rw [HBX.out.2.2.2];show w.heap.size<_;omega)⟩,f.upd (HBX.out.2.2.1.trans HST.out.2) (by rw [HBX.out.2.2.2];omega)⟩
  have HRC:Hid (rv0=.slice (some ⟨w2.heap.size,0,none⟩) 2 2/\tv0=.slice (some ⟨w4.heap.size,0,none⟩) 2 2):=⟨hg1.symm,hg2.symm⟩;obtain ⟨⟨z2,z3⟩,_⟩:=HLL.out wS (Fro.refl _ _);have HPN:=Lib.hid (Ph1.new (n:=v) (R:=R) HN.out.1 HN.out.2 HRM.out.1 HRM.out.2);clear HK1 HM2 HC0 HC1 hst hwS hXW hYW ha hg1 hg2;go_wp2_with fail
  go_loopg [51] ln (fun g s51 wr=>∃ (i:Nat) (K:KV) (F:List Nat) (M:MV) (p:MPtr),ln-i=g/\i<=ln/\s51=.int .i64 i/\LIn wr w0.heap.size a b m rv0 tv0 K F M p [0,1] [constT v false,constT v true]/\Ph1 v R K M (min i 40)/\Fro w0.heap.size wS wr/\(i=0->M=MV.new v R))
  case atStart=>exact ⟨0,_,_,_,_,by omega,by omega,rfl,HST.out.1,by simpa using HPN.out,Fro.refl _ _,fun _=>rfl⟩
  case round =>
   obtain ⟨i,K,F,M,p,rfl,hi,rfl,hLI,hPH,hF,hMN⟩:=hrel;have HMN:=Lib.hid hMN;clear hMN;obtain ⟨⟨z2,z3⟩,huw⟩:=HLL.out _ hF
   by_cases hlt:i<ln
   ·obtain ⟨x,hx,hc⟩:=HL.out.at_ i hlt
    subst hx;have hcr:=huw.cell0 hc;generalize Ls.getD i 0=l at *
    have hil:(i:Int)<(ln:Int):=by omega
    obtain ⟨_,k1,_,_⟩:=hLI.cells
    by_cases h40:i<40
    ·have hd:decide ((i:Int)<40)=true:=by simp;omega
     have hm1:min i 40=i:=by omega
     have hm2:min (i+1) 40=i+1:=by omega
     rw [hm1] at hPH;obtain ⟨he,_,_⟩:=hPH.step hLI.mem.ker.ok l
     have htr:K.trail.length<=1000000:=by rw [hPH.tr];have:=hPH.tl;omega
     have HEX:=Lib.hid (exch_at b l K F wr.drew (hLI.mem.ker.upd (Upd.refl [] wr).drew (by simp)) hPH.us htr);rw [<- he] at HEX;have HX:=Lib.hid (And.intro hLI (And.intro hPH (And.intro hF (And.intro hm1 hm2))));have HEE0:∃ E,M.exchE l=E:=⟨_,rfl⟩;obtain ⟨E,hEE⟩:=HEE0;rw [hEE] at HEX;have HEE:=Lib.hid hEE;clear hEE hLI hPH hF he htr huw hm1 hm2
     have hzz:∀ x y:Int,(x == x)=true:=fun x _=>by simp
     go_wp2_with fail
     go_region_held3 (fun x=>x.cell? ⟨a,1,none⟩=some (.pointer (some ⟨m,0,none⟩))) (first | exact k1 | exact HQ.out.2.2 | (obtain ⟨_,hcc,_⟩:=HQ2.out;exact hcc.cells.2.1)) (first
      | (go_at_call 29;refine HEX.out.mono ?_;rintro e w5 ⟨K',F',rfl,hc,hK',hu,hs⟩;obtain ⟨hL5,hF5⟩:=(HX.out.1.keep0 (Upd.refl [] wr).drew).kernel hK' hu hs;have HQ:=Lib.hid (And.intro hL5 (And.intro (And.intro hc ((Fro.of0 (Upd.refl [] wr).drew).trans hF5)) hL5.cells.2.1));clear hc hK' hu hs hL5 hF5)
      | (go_at_call 64;refine (exch9_spec m M p (F'++p.all m) l _ HQ.out.1.mem.mod HQ.out.1.mem.z HX.out.2.1.fit HX.out.2.1.od (by have:=HX.out.2.1.tl;omega)).mono ?_;rintro e w6 hE;obtain ⟨rfl,hm⟩:=hE.ex;rw [HEE.out];have HQ2:=Lib.hid (LIn.exch HX.out.2.1 HX.out.1.mem.ker.ok HQ.out.2.1.1 HQ.out.1 hm);clear hE hm))
     go_wp2_with fail;obtain ⟨p',hL6,hP6,hF6⟩:=HQ2.out
     go_roundg (ln-(i+1))
     case measure=>omega
     case rel=>exact ⟨i+1,K',F',_,p',rfl,by omega,by simp,hL6,by rw [HX.out.2.2.2.2];exact hP6,HX.out.2.2.1.trans (HQ.out.2.1.2.trans hF6),fun h=>by omega⟩
    ·have hd:decide ((i:Int)<40)=false:=by simp;omega
     have HX:=Lib.hid (And.intro hLI (And.intro hPH hF));clear hLI hPH hF huw;go_wp2_with fail
     go_quiet (fail)
     go_wp2_with fail
     go_roundg (ln-(i+1))
     case measure=>omega
     case rel=>exact ⟨i+1,K,F,M,p,rfl,by omega,by simp,HX.out.1.keep0 ((Upd.refl _ _).drewN _),by have:=HX.out.2.1;rw [show min (i+1) 40=min i 40 by omega];exact this,HX.out.2.2.trans (Fro.of0 ((Upd.refl _ _).drewN _)),fun h=>by omega⟩
   ·obtain rfl:i=ln:=by omega
    have hil:¬ ((i:Int)<(i:Int)):=by omega
    obtain ⟨hlog,hall⟩:=hPH.log hLI.mem.ker.ok HN.out.2;have HX:=Lib.hid (And.intro hLI (And.intro hPH (And.intro hF (And.intro hlog hall))));clear hLI hPH hF huw hlog hall;go_wp2_with fail;obtain ⟨wB,hwB⟩ : ∃ wB,wr=wB:=⟨_,rfl⟩;subst hwB;obtain ⟨MA,hMA⟩ : ∃ MA,M=MA:=⟨_,rfl⟩;rw [hMA] at HMN;have HMA:=Lib.hid hMA;clear hMA
    go_loopg [73] wn (fun g s73 wx=>∃ (i c:Nat) (rv tv:Value) (K:KV) (F:List Nat) (M:MV) (p:MPtr) (refs:List Nat) (tabs:List TV),wn-i=g/\i<=wn/\s73=.int .i64 i/\LIn wx w0.heap.size a b m rv tv K F M p refs tabs/\WLog K M refs tabs/\WAll K refs tabs/\Fro w0.heap.size wS wx /\
     c<=i/\c<=8/\K.vars=v/\K.A.places=R/\(∀ x,K.hold x<=c)/\refs.length<=c+2/\M.held.length<=c/\Hid (M=laysT v MA (Ws.take (min i 8))/\∀ r,r∈refs->r<2\/0<K.hold r))
    case atStart=>exact ⟨0,0,_,_,_,_,_,_,_,_,by omega,by omega,rfl,HX.out.1,HX.out.2.2.2.1,HX.out.2.2.2.2,HX.out.2.2.1,by omega,by omega,HX.out.2.1.vr,HX.out.2.1.pl,fun x=>by rw [HX.out.2.1.h0];omega,by simp,by rw [HX.out.2.1.hb];simp,HMA.out,fun r hr=>.inl (by simp at hr;omega)⟩
    case round =>
     obtain ⟨j,c,rv,tv,K2,F2,M2,p2,refs,tabs,rfl,hj,rfl,hLI,hlog,hall,hF,hcj,hc8,hvr,hpl,hhd,hrl,hhl,HLX⟩:=hrel;obtain ⟨⟨z2,z3⟩,huw⟩:=HLL.out _ hF
     by_cases hjt:j<wn
     ·obtain ⟨y,hy,hc⟩:=HW.out.at_ j hjt
      subst hy;have hcr:=huw.cell0 hc;have hyu:U64 (Ws.getD j 0):=HUW.out _ (by rw [List.getD_eq_getElem?_getD,List.getElem?_eq_getElem (by rw [HW.out.len];exact hjt)];exact List.getElem_mem _)
      have HTK:Hid (j<8->Ws.take (min (j+1) 8)=Ws.take (min j 8)++[Ws.getD j 0]):=fun h8=>by
       rw [show min (j+1) 8=j+1 by omega,show min j 8=j by omega,List.take_add_one,getD_atI (by rw [HW.out.len];exact hjt)];rfl
      generalize Ws.getD j 0=u at *
      have hjl:(j:Int)<(wn:Int):=by omega
      have HX2:=Lib.hid (And.intro hLI (And.intro hlog (And.intro hall (And.intro hF (And.intro hvr (And.intro hpl hhd))))))
      by_cases h8:j<8
      ·have hd:decide ((j:Int)<8)=true:=by simp;omega
       have hd2:(j:Int)<8:=by omega
       clear hLI hlog hall hF huw hc hvr hpl hhd;go_wp2_with fail;refine (word_spec v u _ HN.out.1 HN.out.2 hyu).mono ?_;rintro e w5 hE;obtain ⟨t,ta,tn,tc,htn,rfl,hT,hu⟩:=hE.ex;have HT:=Lib.hid (And.intro hT (And.intro hu (show t.n=v by rw [htn];rfl)));have HTW:=Lib.hid htn;clear hE hT hu htn;have HLAY:=wlay_spec w0.heap.size a b m rv tv K2 F2 M2 p2 refs tabs (.slice ta tn tc) t w5 (HX2.out.1.keep0 HT.out.2.1) HX2.out.2.1 HX2.out.2.2.1 (HT.out.1.tin HX2.out.1.mem.z) (by rw [HT.out.2.2,HX2.out.2.2.2.2.1]) (fun k hk=>by have h1:=(HT.out.1.row.lt k hk).1;have h2:=heap_lt HX2.out.1.blk;omega) (fun x=>by have:=HX2.out.2.2.2.2.2.2 x;omega) (by omega) (by omega);unfold tabV at HLAY;rw [HT.out.2.2] at HLAY;have HLAY:=Lib.hid HLAY;go_wp2_with fail;refine HLAY.out.mono ?_;rintro e w6 hE;obtain ⟨rv',tv',K',F',M',p',refs',tabs',rfl,q1,q2,q3,q4,q5,q6,q7,q8,q9,q10⟩:=hE.ex;have HQ:=Lib.hid (And.intro q1 (And.intro q2 (And.intro q3 (And.intro q4 (And.intro q5 (And.intro q9 q8))))));have HQ2:=Lib.hid q10.2;clear hE q1 q2 q3 q4 q5 q8 q9 q10;go_wp2_with fail
       go_roundg (wn-(j+1))
       case measure=>omega
       case rel=>exact ⟨j+1,c+1,rv',tv',K',F',M',p',refs',tabs',rfl,by omega,by simp,HQ.out.1,HQ.out.2.1,HQ.out.2.2.1,(HX2.out.2.2.2.1.trans (Fro.of0 HT.out.2.1)).trans HQ.out.2.2.2.1,by omega,by omega,by rw [HQ.out.2.2.2.2.2.1.vr];exact HX2.out.2.2.2.2.1,by rw [HQ.out.2.2.2.2.2.1.pl];exact HX2.out.2.2.2.2.2.1,fun x=>by have:=HQ.out.2.2.2.2.1 x;have:=HX2.out.2.2.2.2.2.2 x;omega,by omega,by omega,by rw [HTK.out h8,HQ2.out.1,HTW.out];unfold laysT;rw [List.foldl_append,HLX.out.1];rfl,fun r hr=>by
        rcases HQ2.out.2.2 r hr with h | h
        ·exact (HLX.out.2 r h).imp id fun h=>Nat.lt_of_lt_of_le h (HQ2.out.2.1 r)
        ·exact h⟩
      ·have hd:decide ((j:Int)<8)=false:=by simp;omega
       have hd2:¬ (j:Int)<8:=by omega
       clear hLI hlog hall hF huw hc hvr hpl hhd;go_wp2_with fail
       go_roundg (wn-(j+1))
       case measure=>omega
       case rel=>exact ⟨j+1,c,rv,tv,K2,F2,M2,p2,refs,tabs,rfl,by omega,by simp,HX2.out.1,HX2.out.2.1,HX2.out.2.2.1,HX2.out.2.2.2.1,by omega,hc8,HX2.out.2.2.2.2.1,HX2.out.2.2.2.2.2.1,HX2.out.2.2.2.2.2.2,hrl,hhl,by rw [show min (j+1) 8=min j 8 by omega];exact HLX.out⟩
     ·obtain rfl:j=wn:=by omega
      have hjl:¬ ((j:Int)<(j:Int)):=by omega
      obtain ⟨ra,rc,hrv,_⟩:=row_nil_len hLI.mem.rr;obtain ⟨qa,qc,htv,_⟩:=hLI.mem.tt.form;subst hrv htv;have HX2:=Lib.hid (And.intro hLI (And.intro hlog (And.intro hall (And.intro hF (And.intro hvr (And.intro hpl hhd))))));clear hLI hlog hall hF huw hvr hpl hhd
      have hk1:K2.hold 1<65535:=by have:=HX2.out.2.2.2.2.2.2 1;omega
      go_wp2_with fail;refine (keep1_at b K2 F2 _ HX2.out.1.mem.ker hk1).mono ?_;rintro e w6 ⟨F',rfl,hK,hu,hs⟩;obtain ⟨hL6,hF6⟩:=HX2.out.1.kernel hK hu hs;obtain ⟨hlg,hal,hex,hhd⟩:=HX2.out.2.1.keepK HX2.out.2.2.1 HX2.out.1.mem.ker.ok;obtain ⟨k0,k1,_,_⟩:=hL6.cells;have km:=cell_at (j:=4) hL6.mem.mod.blk rfl;have kf:=frozen_at 4 hL6.mem.mod.blk;obtain ⟨p7,hL7,hF7⟩:=hL6.model (ModE.clear hL6.mem.mod hL6.mem.mod.sz);have hlg7:=hlg.clear;have HY:=Lib.hid (And.intro hL7 (And.intro hlg7 (And.intro hal (And.intro (HX2.out.2.2.2.1.trans (hF6.trans hF7)) (And.intro hex hhd)))));have HST7:=Lib.hid (stands_spec b m _ _ (K2.keepK 1) F' { M2 with trail:=[] } p7 refs tabs _ (WIn.of (hL7.keep0 (Upd.refl _ _).drew).mem hlg7) rfl (by simp));obtain ⟨y0,y1,y2,y3⟩:=hL7.cells;clear hK hu hs hL6 hF6 hL7 hF7 hlg hal hex hhd hlg7;obtain ⟨w7,hw7⟩ : ∃ w7,w6.setCell ⟨m,4,none⟩ (.slice none 0 0)=w7:=⟨_,rfl⟩;rw [hw7] at HY HST7 y0 y1 y2 y3;go_upto_region 22 with fail
      have HR7:Hid (∀ x:World,Upd [] w7 x->(x.cell? ⟨a,0,none⟩=some (.pointer (some ⟨b,0,none⟩))/\x.cell? ⟨a,1,none⟩=some (.pointer (some ⟨m,0,none⟩))/\x.cell? ⟨a,2,none⟩=some (.slice ra refs.length rc)/\x.cell? ⟨a,3,none⟩=some (.slice qa tabs.length qc))/\x.heap[w.heap.size+1]?=some (.cells #[.pointer none,.pointer none,.slice none 0 0,.slice none 0 0] 97 (0,0))):=fun x u=>by
       refine ⟨⟨u.cell0 y0,u.cell0 y1,u.cell0 y2,u.cell0 y3⟩,?_⟩
       have hl:w.heap.size+1<w0.heap.size:=by rw [HBX.out.2.2.2];omega
       have h1:=HY.out.2.2.2.1;rw [u.block _ (Nat.lt_of_lt_of_le hl (Nat.le_trans HST.out.2.size h1.size)) (by simp),h1.block _ hl (Nat.lt_of_lt_of_le hl HST.out.2.size),HST.out.2.block _ hl (by simp)];exact HBX.out.2.1
      unfold worldV at HST7
      have hna:a≠w.heap.size+1:=by
       have h2:=HST.out.1.lo a (.inr (.inr (.inl rfl)))
       rw [HBX.out.2.2.2] at h2;omega
      go_region_held3 (fun x=>x.cell? ⟨a,0,none⟩=some (.pointer (some ⟨b,0,none⟩))/\x.cell? ⟨a,1,none⟩=some (.pointer (some ⟨m,0,none⟩))/\x.cell? ⟨a,2,none⟩=some (.slice ra refs.length rc)/\x.cell? ⟨a,3,none⟩=some (.slice qa tabs.length qc)) (first | exact (HR7.out _ (Upd.refl _ _).drew).1 | exact (HR7.out _ HU8.out).1 | exact set4 (set4 (set4 (set4 (HR7.out _ HU8.out).1 hna _) hna _) hna _) hna _) (first
       | (go_at_call 53;refine (HST7.out).mono ?_;rintro e w8 ⟨rfl,hu⟩;have HU8:=Lib.hid hu.of_drew;clear hu;have hb8:=(HR7.out _ HU8.out).2;have f0:=frozen_at 0 hb8;have f1:=frozen_at 1 hb8;have f2:=frozen_at 2 hb8;have f3:=frozen_at 3 hb8;have g0:=cell_at (j:=0) hb8 rfl;have g1:=cell_at (j:=1) hb8 rfl;have g2:=cell_at (j:=2) hb8 rfl;have g3:=cell_at (j:=3) hb8 rfl;have HB8:=Lib.hid hb8;clear hb8))
      have hb9:=box4 HB8.out (.pointer (some ⟨b,0,none⟩)) (.pointer (some ⟨m,0,none⟩)) (.slice ra refs.length rc) (.slice qa tabs.length qc);have x0:=cell_at (j:=0) hb9 rfl;have x1:=cell_at (j:=1) hb9 rfl;have x2:=cell_at (j:=2) hb9 rfl;have x3:=cell_at (j:=3) hb9 rfl;clear hb9;go_wp2_with fail;refine bodyPost_ret (v:=.tuple #[worldV b m (.slice ra refs.length rc) (.slice qa tabs.length qc),.bool true]) (by simp [results,Tryz.results37,go_sem,x0,x1,x2,x3,worldV]) rfl ?_
      have hu9:Upd [w.heap.size+1] w8 ((((w8.setCell ⟨w.heap.size+1,0,none⟩ (.pointer (some ⟨b,0,none⟩))).setCell ⟨w.heap.size+1,1,none⟩ (.pointer (some ⟨m,0,none⟩))).setCell ⟨w.heap.size+1,2,none⟩ (.slice ra refs.length rc)).setCell ⟨w.heap.size+1,3,none⟩ (.slice qa tabs.length qc)) :=
       ((((Upd.refl _ w8).setCell (p:=⟨w.heap.size+1,0,none⟩) (.inl (by simp)) _).setCell (p:=⟨w.heap.size+1,1,none⟩) (.inl (by simp)) _).setCell (p:=⟨w.heap.size+1,2,none⟩) (.inl (by simp)) _).setCell (p:=⟨w.heap.size+1,3,none⟩) (.inl (by simp)) _
      have hlo:=HY.out.1.lo;rw [HBX.out.2.2.2] at hlo
      exact ⟨b,m,_,_,K2.keepK 1,F',_,p7,refs,tabs,rfl,(HY.out.1.keep0 HU8.out).mem.other HB8.out hu9 (fun hm=>by have:=hlo _ (.inl hm);omega),HY.out.2.1,HY.out.2.2.1,
       fun k hk=>by have:=hlo k (hk.imp id (·.imp id fun h=>.inr h));omega,
       ((HLL.out w7 HY.out.2.2.2.1).2.trans HU8.out).then hu9 (fun k hk=>.inr (by simp at hk;omega)),
       by rw [HY.out.2.2.2.2.1.pl,HX2.out.2.2.2.2.2.1,HUX.out.2],fun x=>by rw [HY.out.2.2.2.2.2];have:=HX2.out.2.2.2.2.2.2 x;omega,by omega,by show M2.held.length<=8;omega,rfl,rfl,by rw [HY.out.2.2.2.2.1.vr,HX2.out.2.2.2.2.1,HVN.out],fun r hr=>by rw [HY.out.2.2.2.2.2];exact HLX.out.2 r hr,fun h0=>by
        rw [HLX.out.1,HMN.out h0,HUX.out.2,<- HVN.out,show Ws.take (min j 8)=Ws.take 8 by rw [List.take_eq_take_iff,HW.out.len];omega]⟩
theorem MV.TrFit.nil {M:MV} (h:M.trail=[]):M.TrFit:=by
 unfold MV.TrFit;rw [h];exact trivial
theorem KM.of {K:KV} {M:MV} {refs:List Nat} {tabs:List TV} (l:WLog K M refs tabs) (h1:K.trail=[]) (h2:M.trail=[]):KM K M:=⟨l.agr,l.fit,by rw [h1,h2],MV.TrFit.nil h2⟩
def binT (op:Nat) (f g:TV):TV:=mkT f.n fun x=>opB op (f.bit x) (g.bit x)
theorem binT_ok {op:Nat} {f g:TV} (hf:f.n<=16):(binT op f g).Ok/\(binT op f g).n=f.n:=⟨mkT_ok _ hf,rfl⟩
theorem binT_fn {op:Nat} {f g:TV} (h:g.n=f.n) (y:Nat->Bool):(binT op f g).fn y=opB op (f.fn y) (g.fn y):=by
 unfold binT;rw [mkT_fn];unfold TV.fn;rw [h]
structure SlotQ (Z:List Nat) (M:MV) (refs:List Nat) (tabs:List TV) (w:World) (e:Ending) (w':World):Prop where
 ex:∃ (j r:Nat) (t:TV) (a:Option Addr) (n c:Nat),e=.returned (.tuple #[.int .u32 r,tabV t (.slice a n c),.bool (M.isLive t)])/\refs[j]?=some r/\tabs[j]?=some t/\TIn w' Z (.slice a n c) t/\Upd [] w w'
theorem slot_set {x:World} {W rg tg j k:Nat} {v1 v2 v3 y0 y1 y2:Value} (h:(x.cell? ⟨W,1,none⟩=some v1/\x.cell? ⟨W,2,none⟩=some v2/\x.cell? ⟨W,3,none⟩=some v3)/\x.cell? ⟨rg,j,none⟩=some y0/\x.cell? ⟨tg,k,none⟩=some y1/\x.cell? ⟨tg,k+1,none⟩=some y2) (hl:rg<W/\tg<W) (a b:Value) :
  (((x.setCell ⟨W+1,0,none⟩ a).setCell ⟨W+1,1,none⟩ b).cell? ⟨W,1,none⟩=some v1/\((x.setCell ⟨W+1,0,none⟩ a).setCell ⟨W+1,1,none⟩ b).cell? ⟨W,2,none⟩=some v2/\((x.setCell ⟨W+1,0,none⟩ a).setCell ⟨W+1,1,none⟩ b).cell? ⟨W,3,none⟩=some v3)/\((x.setCell ⟨W+1,0,none⟩ a).setCell ⟨W+1,1,none⟩ b).cell? ⟨rg,j,none⟩=some y0/\((x.setCell ⟨W+1,0,none⟩ a).setCell ⟨W+1,1,none⟩ b).cell? ⟨tg,k,none⟩=some y1/\((x.setCell ⟨W+1,0,none⟩ a).setCell ⟨W+1,1,none⟩ b).cell? ⟨tg,k+1,none⟩=some y2:=by
 have key:∀ {B o:Nat} {v:Value},B≠W+1->x.cell? ⟨B,o,none⟩=some v->((x.setCell ⟨W+1,0,none⟩ a).setCell ⟨W+1,1,none⟩ b).cell? ⟨B,o,none⟩=some v:=fun {B o v} hB hv=>by
  have e1:((x.setCell ⟨W+1,0,none⟩ a).setCell ⟨W+1,1,none⟩ b).heap[B]?=x.heap[B]?:=(heap_set_ne hB).trans (heap_set_ne hB);exact (World.cell?_of_block (a:=⟨B,o,none⟩) e1).trans hv
 exact ⟨⟨key (by omega) h.1.1,key (by omega) h.1.2.1,key (by omega) h.1.2.2⟩,key (by omega) h.2.1,key (by omega) h.2.2.1,key (by omega) h.2.2.2⟩
theorem slot_spec (b m:Nat) (rv tv:Value) (K:KV) (F:List Nat) (M:MV) (p:MPtr) (refs:List Nat) (tabs:List TV) (i:Int) (w:World) (h:WMem w b m rv tv K F M p refs tabs) (l:WLog K M refs tabs) :
  Calls Tryz.prog 51 #[worldV b m rv tv,.int .i64 i] w fun e w'=>SlotQ (F++p.all m) M refs tabs w e w':=by
 obtain ⟨ra,rc,hrv,hra⟩:=row_nil_len h.rr;obtain ⟨ta,tc,htv,hta⟩:=h.tt.form;subst hrv htv;have HW:=Lib.hid h;have HLG:=Lib.hid l;have hrb:=l.rb;have hlr:=l.lr
 have hpos:0<refs.length:=by
  obtain ⟨rest,hr⟩:=l.t2
  rw [hlr,hr];simp
 obtain ⟨rg,rfl⟩:=row_some h.rr hpos;obtain ⟨tg,rfl⟩:=hta (by omega);have HBX:=Lib.hid (boxW w (.pointer (some ⟨b,0,none⟩)) (.pointer (some ⟨m,0,none⟩)) (.slice (some ⟨rg,0,none⟩) refs.length rc) (.slice (some ⟨tg,0,none⟩) tabs.length tc));have HU0:=Lib.hid (((Upd.refl [] w).alloc (.cells #[.pointer (some ⟨b,0,none⟩),.pointer (some ⟨m,0,none⟩),.slice (some ⟨rg,0,none⟩) refs.length rc,.slice (some ⟨tg,0,none⟩) tabs.length tc] 97 (0,0))).alloc (.cells #[.int .i64 0,.slice none 0 0] 122 (0,0)));unfold worldV
 obtain ⟨j,hj,hjl⟩ : ∃ j:Nat,wrap64 ((IntKind.u64.wrap i).tmod (tabs.length:Int))=j/\j<tabs.length:=by
  have h0:=(u64_wrap_nonneg i).1;rw [Int.tmod_eq_emod_of_nonneg h0];have h1:0<=(IntKind.u64.wrap i) % (tabs.length:Int):=Int.emod_nonneg _ (by omega);have h2:(IntKind.u64.wrap i) % (tabs.length:Int)<tabs.length:=Int.emod_lt_of_pos _ (by omega);exact ⟨((IntKind.u64.wrap i) % (tabs.length:Int)).toNat,by unfold wrap64;omega,by omega⟩
 obtain ⟨r,hr⟩ : ∃ r,refs[j]?=some r:=⟨_,List.getElem?_eq_getElem (by omega)⟩;obtain ⟨t,ht⟩ : ∃ t,tabs[j]?=some t:=⟨_,List.getElem?_eq_getElem hjl⟩;have q0:w.cell? ⟨rg,j,none⟩=some (.int .u32 r):=row_cell HW.out.rr (flatRefs_get hr);obtain ⟨ct,q1,q2,hti⟩:=HW.out.tt.at_ ht;obtain ⟨ca,cc,hct,_⟩:=row_nil_len hti.row;subst hct;have HT:=Lib.hid (And.intro hti (And.intro hr ht))
 have HLV:Hid (∀ x:World,Upd [] w x->Calls Tryz.prog 116 #[.pointer (some ⟨m,0,none⟩),.agg #[.int .i64 t.n,.slice ca t.ws.length cc]] x fun e w'=>e=.returned (.bool (M.isLive t))/\Upd [] x w'):=fun x u =>
  islive_spec m M p (F++p.all m) _ t x (HW.out.mod.keep0 u) (fun k hk=>Nat.lt_of_lt_of_le (HW.out.z k hk) u.size) HLG.out.fit (HT.out.1.keep0 u)
 obtain ⟨w0,hw0⟩ : ∃ w0,(w.alloc (.cells #[.pointer (some ⟨b,0,none⟩),.pointer (some ⟨m,0,none⟩),.slice (some ⟨rg,0,none⟩) tabs.length rc,.slice (some ⟨tg,0,none⟩) tabs.length tc] 97 (0,0))).alloc (.cells #[.int .i64 0,.slice none 0 0] 122 (0,0))=w0:=⟨_,rfl⟩;rw [hlr] at HBX HU0;rw [hw0] at HU0
 have hrs:w0.heap[w.heap.size+1]?=some (.cells #[.int .i64 0,.slice none 0 0] 122 (0,0)):=by
  have h:=heap_alloc_new (w.alloc (.cells #[.pointer (some ⟨b,0,none⟩),.pointer (some ⟨m,0,none⟩),.slice (some ⟨rg,0,none⟩) tabs.length rc,.slice (some ⟨tg,0,none⟩) tabs.length tc] 97 (0,0))) (.cells #[.int .i64 0,.slice none 0 0] 122 (0,0))
  rw [World.size_alloc] at h;rw [<- hw0];exact h
 have HK:Hid (∀ x:World,Upd [] w0 x->(x.cell? ⟨w.heap.size,1,none⟩=some (.pointer (some ⟨m,0,none⟩))/\x.cell? ⟨w.heap.size,2,none⟩=some (.slice (some ⟨rg,0,none⟩) tabs.length rc)/\x.cell? ⟨w.heap.size,3,none⟩=some (.slice (some ⟨tg,0,none⟩) tabs.length tc)) /\
   x.cell? ⟨rg,j,none⟩=some (.int .u32 r)/\x.cell? ⟨tg,j*2,none⟩=some (.int .i64 t.n)/\x.cell? ⟨tg,j*2+1,none⟩=some (.slice ca t.ws.length cc)):=fun x u=>by
  have e1:=HBX.out.2.1;have e2:=HBX.out.2.2.1;have e3:=HBX.out.2.2.2
  have u1:Upd [] (w.alloc (.cells #[.pointer (some ⟨b,0,none⟩),.pointer (some ⟨m,0,none⟩),.slice (some ⟨rg,0,none⟩) tabs.length rc,.slice (some ⟨tg,0,none⟩) tabs.length tc] 97 (0,0))) x:=by rw [<- hw0] at u;exact ((Upd.refl _ _).alloc _).trans u
  exact ⟨⟨u1.cell0 e1,u1.cell0 e2,u1.cell0 e3⟩,(HU0.out.trans u).cell0 q0,(HU0.out.trans u).cell0 q1,(HU0.out.trans u).cell0 q2⟩
 have HRS:=Lib.hid hrs;have HW0:=Lib.hid hw0;obtain ⟨⟨b1,b2,b3⟩,_⟩:=HK.out w0 (Upd.refl _ _);generalize t.ws.length=TW at *;have htn:tabV t (.slice ca TW cc)=.agg #[.int .i64 t.n,.slice ca TW cc]:=rfl;have HTN:=Lib.hid htn;clear htn;generalize hn:t.n=n at *;have HN:=Lib.hid hn
 have hjl2:(j:Int)<(tabs.length:Int):=by omega
 have hpos2:¬ ((tabs.length:Int)=0):=by omega
 have HLTS:Hid (rg<w.heap.size/\tg<w.heap.size):=⟨World.block_lt_of_cell? _ _ q0,World.block_lt_of_cell? _ _ q1⟩;clear h l hn hti hr ht q0 q1 q2 hrs hw0
 go_enter Tryz.func51,Tryz.ntmps51
 go_wp2_with fail;rw [HW0.out,hj];clear hj
 go_region_held3 (fun x=>(x.cell? ⟨w.heap.size,1,none⟩=some (.pointer (some ⟨m,0,none⟩))/\x.cell? ⟨w.heap.size,2,none⟩=some (.slice (some ⟨rg,0,none⟩) tabs.length rc)/\x.cell? ⟨w.heap.size,3,none⟩=some (.slice (some ⟨tg,0,none⟩) tabs.length tc)) /\
   x.cell? ⟨rg,j,none⟩=some (.int .u32 r)/\x.cell? ⟨tg,j*2,none⟩=some (.int .i64 n)/\x.cell? ⟨tg,j*2+1,none⟩=some (.slice ca TW cc)) (first | exact HK.out _ (Upd.refl _ _).drew | exact HK.out _ HU2.out | exact HKS.out) (first
  | (go_at_call 116;refine (HLV.out _ HU0.out.drew).mono ?_;rintro e w2 ⟨rfl,hu⟩;have HU2:=Lib.hid hu.of_drew;clear hu;have hb2:=(HU2.out.block _ (heap_lt HRS.out) (by simp)).trans HRS.out;have f0:=frozen_at 0 hb2;have f1:=frozen_at 1 hb2;have g0:=cell_at (j:=0) hb2 rfl;have g1:=cell_at (j:=1) hb2 rfl;have HKS:=Lib.hid (slot_set (HK.out _ HU2.out) HLTS.out (.int .i64 n) (.slice ca TW cc));have HB2:=Lib.hid hb2;clear hb2))
 have hb9:=heap_set_eq (j:=1) (heap_set_eq (j:=0) HB2.out (.int .i64 n)) (.slice ca TW cc);have x0:=cell_at (j:=0) hb9 rfl;have x1:=cell_at (j:=1) hb9 rfl;clear hb9;go_wp2_with fail;refine bodyPost_ret (v:=.tuple #[.int .u32 r,.agg #[.int .i64 n,.slice ca TW cc],.bool (M.isLive t)]) (by simp [results,Tryz.results51,go_sem,x0,x1]) rfl ?_
 have hu9:Upd [] w ((w2.setCell ⟨w.heap.size+1,0,none⟩ (.int .i64 n)).setCell ⟨w.heap.size+1,1,none⟩ (.slice ca TW cc)) :=
  ((HU0.out.trans HU2.out).setCell (p:=⟨w.heap.size+1,0,none⟩) (.inr (Nat.le_succ _)) _).setCell (p:=⟨w.heap.size+1,1,none⟩) (.inr (Nat.le_succ _)) _
 exact ⟨j,r,t,ca,TW,cc,by rw [HTN.out],HT.out.2.1,HT.out.2.2,HT.out.1.keep0 hu9,hu9⟩
end Go.Proofs.YtfkopmhpppeheaaGreat
namespace Go.Proofs.YtfkopmhpppeheaaGreat
open Go.ChangeShapes Go.WideShapes Go.ChangeAt Go.RowKit
theorem own_knob:ownKnob Tryz.prog.godebug=none:=by kernel_rfl
theorem laid_out:laidOutB Tryz.prog=true:=by kernel_rfl
theorem okWide_row {P:Program} {w:World} {r:Reach} {base:Nat} {t:TypeId} {v:Value} {fs:Array Field} (ht:P.underlying t=some (.struct fs)) (h:Value.okWide P w r base t v):∃ cs,v=.agg cs/\cs.size=P.cellsOf t/\Row.okWide P w r base t cs:=by
 unfold Value.okWide at h;rw [ht] at h;exact h
theorem stateSize:Tryz.prog.cellsOf 95=4:=by kernel_rfl
theorem intSize:Tryz.prog.cellsOf 3=1:=by kernel_rfl
theorem u64Size:Tryz.prog.cellsOf 90=1:=by kernel_rfl
theorem intsSize:Tryz.prog.cellsOf 23=1:=by kernel_rfl
theorem u64sSize:Tryz.prog.cellsOf 68=1:=by kernel_rfl
theorem wf_u64 {x:Int} (h:(Lit.int .u64 x).wf=true):U64 x:=by
 simp only [Lit.wf,Bool.and_eq_true,decide_eq_true_eq] at h
 have e1:IntKind.u64.min=0:=rfl;have e2:IntKind.u64.max=18446744073709551615:=rfl;unfold U64;omega
theorem RowOf.of_ints {H:Type} {W:World} {k:IntKind} {cs:List Value} {x:DataW H × List MemPlace}
  (h:(cs=[.slice none 0 0]/\x=(.nil,[])) \/
  ∃ (a:Addr) (len cap:Nat) (zs:List Int),cs=[.slice (some a) len cap]/\0<=a.block/\len<=cap/\cap<=maxLen/\zs.length=(if (fun _:Nat=>true) a.block then cap else len) /\
   x=(.slice (lits k (zs.take len)) (lits k (zs.drop len)),MemPlace.row a zs.length) /\
   (∀ i,i<zs.length->W.cell? (a.add i)=some (.int k (zs.getD i 0)))/\(∀ n∈zs,(Lit.int k n).wf=true)) :
  ∃ (a:Option Addr) (n c:Nat) (Zs:List Int),cs=[.slice a n c]/\RowOf W k a n Zs/\∀ z,z∈Zs->(Lit.int k z).wf=true:=by
 rcases h with ⟨rfl,_⟩ | ⟨a,len,cap,zs,rfl,_,hl,hm,hz,_,hc,hw⟩
 ·exact ⟨none,0,0,[],rfl,⟨rfl,Nat.zero_le _,fun i hi=>by omega⟩,fun z hz=>by cases hz⟩
 ·have hz':zs.length=cap:=by simpa using hz
  refine ⟨some a,len,cap,zs.take len,rfl,⟨by rw [List.length_take];omega,by omega,fun i hi=>⟨a,rfl,?_⟩⟩,fun z hz=>hw z (List.mem_of_mem_take hz)⟩;rw [hc i (by omega),List.getD_eq_getElem?_getD,List.getD_eq_getElem?_getD,List.getElem?_take_of_lt hi]
theorem state_shape {H:Type} {enc:TypeId × Value->H} {W:World} {r:Reach} {base:Nat} {v:Value} {d:DataW H} {p:List MemPlace} (h:Value.okWide Tryz.prog W r base 95 v) (hd:DataW.Trod enc Tryz.prog W 0 (fun _=>true) true 95 v d p) :
  ∃ (n room:Int) (la wa:Option Addr) (ln lc wn wk:Nat) (Ls Ws:List Int),v=.agg #[.int .i64 n,.int .i64 room,.slice la ln lc,.slice wa wn wk]/\RowOf W .i64 la ln Ls/\RowOf W .u64 wa wn Ws/\∀ x,x∈Ws->U64 x:=by
 obtain ⟨cs,rfl,hsz,_⟩:=okWide_row Tryz.underlying95 h;obtain ⟨fuel,hd⟩:=hd;have hsz:=hsz.trans stateSize;obtain ⟨l⟩:=cs
 match l,hsz with
 | [c0,c1,c2,c3],_ =>
  obtain ⟨ys,m,_,_,_,hl,hf⟩:=Go.DataW.trod_struct Tryz.underlying95 hd
  match ys,hl with
  | [y0,y1,y2,y3],_ =>
   have h0:=hf 0 _ rfl;have h1:=hf 1 _ rfl;have h2:=hf 2 _ rfl;have h3:=hf 3 _ rfl
   simp [Value.cells,intSize,intsSize,u64sSize] at h0 h1 h2 h3
   obtain ⟨n,e0,_,_⟩:=Go.DataW.trod_int Tryz.underlying3 h0;obtain ⟨room,e1,_,_⟩:=Go.DataW.trod_int Tryz.underlying3 h1;obtain ⟨la,ln,lc,Ls,e2,hL,_⟩:=RowOf.of_ints (open_ints Tryz.underlying23 Tryz.underlying3 intSize h2);obtain ⟨wa,wn,wk,Ws,e3,hW,hU⟩:=RowOf.of_ints (open_ints Tryz.underlying68 Tryz.underlying90 u64Size h3)
   simp at e0 e1 e2 e3
   subst e0 e1 e2 e3;exact ⟨n,room,la,wa,ln,lc,wn,wk,Ls,Ws,rfl,hL,hW,fun x hx=>wf_u64 (hU x hx)⟩
end Go.Proofs.YtfkopmhpppeheaaGreat
namespace Go.Proofs.YtfkopmhpppeheaaGreat
open Go.RowKit Go.Maps Go.ChangeMaps Go.WideShapes
theorem TIn.foreign {w w':World} {Z S:List Nat} {c:Value} {t:TV} (h:TIn w Z c t) (u:Upd S w w') (hS:∀ k,k∈S->∃ cs e fr,w.heap[k]?=some (.cells cs e fr)/\90≠e):TIn w' Z c t :=
 ⟨h.ok,row_keep h.row fun k hk=>u.block k (h.row.lt k hk).2 fun hm=>by
  obtain ⟨cs,e,fr,h1,h2⟩:=hS k hm
  exact blk_ne h.row h1 h2 hk,h.fr⟩
variable {n0:Nat}
def headV (p:Int × Nat × Nat × Nat):Value:=.agg #[.int .i64 p.1,.slice (some ⟨p.2.1,0,none⟩) p.2.2.1 p.2.2.2]
def headD (p:Int × Nat × Nat × Nat):DM:=.agg [.lit (.int .i64 p.1),.lit (.int .i64 p.2.1),.lit (.int .i64 p.2.2.1),.lit (.int .i64 p.2.2.2)]
theorem headV_inj {p q:Int × Nat × Nat × Nat} (h:headV p=headV q):p=q:=by
 obtain ⟨a,b,c,d⟩:=p;obtain ⟨a',b',c',d'⟩:=q
 simp [headV] at h
 obtain ⟨rfl,rfl,rfl,rfl⟩:=h;rfl
theorem headD_inj {p q:Int × Nat × Nat × Nat} (h:headD p=headD q):p=q:=by
 obtain ⟨a,b,c,d⟩:=p;obtain ⟨a',b',c',d'⟩:=q
 simp [headD] at h
 obtain ⟨rfl,h1,h2,h3⟩:=h
 obtain rfl:b=b':=by omega
 obtain rfl:c=c':=by omega
 obtain rfl:d=d':=by omega
 rfl
open Classical in
noncomputable def tabElem (v:Value):Option (DM × List MemPlace) :=
 if h:∃ p,v=headV p then some (headD h.choose,[]) else if v=.agg #[.int .i64 0,.slice none 0 0] then some (.nil,[]) else none
def hdT (t:TV) (g c:Nat):Value:=.slice (some ⟨g,0,none⟩) t.ws.length c
def encT (t:TV) (g c:Nat):DM:=headD ((t.n:Int),g,t.ws.length,c)
theorem tabElem_head (p:Int × Nat × Nat × Nat):tabElem (headV p)=some (headD p,[]):=by
 have h:∃ q,headV p=headV q:=⟨p,rfl⟩;unfold tabElem;rw [dif_pos h,<- headV_inj h.choose_spec]
theorem tabElem_mk (t:TV) (g c:Nat):tabElem (tabV t (hdT t g c))=some (encT t g c,[]):=tabElem_head ((t.n:Int),g,t.ws.length,c)
theorem tabElem_zero:tabElem (.agg #[.int .i64 0,.slice none 0 0])=some (.nil,[]):=by
 unfold tabElem;rw [dif_neg (fun ⟨p,hp⟩=>by simp [headV] at hp),if_pos rfl]
theorem tabElem_inv {v:Value} {ps:List MemPlace} {t:TV} {g c:Nat} (h:tabElem v=some (encT t g c,ps)):v=tabV t (hdT t g c):=by
 unfold tabElem at h
 split at h
 ·rename_i hx
  have e:=headD_inj (Prod.ext_iff.1 (Option.some.inj h)).1;have:=hx.choose_spec;rw [e] at this;exact this
 ·split at h
  ·have:=(Prod.ext_iff.1 (Option.some.inj h)).1
   simp [encT,headD] at this
  ·simp at h
theorem tabElem_form {v:Value} {y:DM × List MemPlace} (h:tabElem v=some y):∃ (n:Int) (a:Option Addr) (l c:Nat),v=.agg #[.int .i64 n,.slice a l c]:=by
 unfold tabElem at h
 split at h
 ·rename_i hx
  obtain ⟨p,hp⟩:=hx;exact ⟨_,_,_,_,hp⟩
 ·split at h
  ·rename_i hz
   exact ⟨_,_,_,_,hz⟩
  ·simp at h
theorem zeroTab (w:World):(zeroValue 122).run Tryz.prog w=.ok (.agg #[.int .i64 0,.slice none 0 0]) w:=by kernel_rfl
theorem own_emptyT {W:World} {mb:Nat} (h:W.heap[mb]?=some (.map #[] 0)):W.ownsMap Tryz.prog 77 tabElem mb 0 (.map []):=by
 obtain ⟨es,clock,q1,q2,q3,q4⟩:=World.ownsMap_made W Tryz.prog 77 tabElem;rw [heap_alloc_new] at q1;cases q1;exact ⟨#[],0,h,q2,Nat.zero_le _,rfl⟩
structure KnT (n0:Nat) (w:World) (mb:Nat) (G:Nat->TV) (V:List Nat) (D:DM):Prop where
 seen:SeenF V D
 val:∀ r,r∈V->∃ g c:Nat,(∀ z,D.atKey (.int .u32 r) z=encT (G r) g c)/\TIn w (mb::List.range n0) (hdT (G r) g c) (G r)
theorem KnT.keep {w w':World} {mb:Nat} {G:Nat->TV} {V:List Nat} {D:DM} (h:KnT n0 w mb G V D) (k:∀ c t,TIn w (mb::List.range n0) c t->TIn w' (mb::List.range n0) c t):KnT n0 w' mb G V D :=
 ⟨h.seen,fun r hr=>by obtain ⟨g,c,h1,h2⟩:=h.val r hr;exact ⟨g,c,h1,k _ _ h2⟩⟩
theorem KnT.put {w:World} {mb:Nat} {G:Nat->TV} {V:List Nat} {D:DM} {r g c:Nat} (h:KnT n0 w mb G V D) (hr:r<1048576) (ht:TIn w (mb::List.range n0) (hdT (G r) g c) (G r)):KnT n0 w mb G (V++[r]) (D.put (.int .u32 r) (encT (G r) g c)):=by
 have hl:WideAt.IsKeyLit (.int .u32 (r:Int)):=trivial
 have inj:∀ x:Nat,x≠r->(Lit.int .u32 (x:Int))≠.int .u32 (r:Int):=fun x hx e=>hx (by simp at e;omega)
 refine ⟨h.seen.put hr _,fun x hx=>?_⟩
 by_cases e:x=r
 ·subst e;exact ⟨g,c,fun z=>atKey_put_same h.seen.im hl _ z,ht⟩
 ·obtain ⟨g',c',h1,h2⟩:=h.val x (by simpa [e] using hx)
  exact ⟨g',c',fun z=>by rw [atKey_put_other (inj x e)];exact h1 z,h2⟩
structure FoldMT (w:World) (b ck ckk cf cw mb fl:Nat) (caps:Array Value) (K:KV) (T:List DM) (q:KPtr) (D:DM):Prop where
 ker:KerIn w b K T q
 bk:w.heap[ck]?=some (.cells #[.map (some mb)] 268 (0,0))
 bkk:w.heap[ckk]?=some (.cells #[.pointer (some ⟨b,0,none⟩)] 40 (0,0))
 bf:w.heap[cf]?=some (.cells #[.func (Fn.func fl) #[] caps] 209 (0,0))
 bw:w.heap[cw]?=some (.cells #[.func (Fn.func 198) #[] #[.pointer (some ⟨ck,0,none⟩),.pointer (some ⟨ckk,0,none⟩),.pointer (some ⟨cf,0,none⟩),.pointer (some ⟨cw,0,none⟩)]] 269 (0,0))
 map:w.ownsMap Tryz.prog 77 tabElem mb (Maps.size D) D
 dq:∀ k,k∈q.all b->k≠mb
 dm:mb≠ck/\mb≠ckk/\mb≠cf/\mb≠cw
theorem FoldMT.upd {w w':World} {S:List Nat} {b ck ckk cf cw mb fl:Nat} {caps:Array Value} {K:KV} {T:List DM} {q:KPtr} {D:DM} (h:FoldMT w b ck ckk cf cw mb fl caps K T q D) (u:Upd S w w') (hS:∀ k,k∈S->k∉q.all b/\k≠ck/\k≠ckk/\k≠cf/\k≠cw/\k≠mb) :
  FoldMT w' b ck ckk cf cw mb fl caps K T q D:=by
 have e:∀ {k:Nat} {o:Obj},k∉S->w.heap[k]?=some o->w'.heap[k]?=some o:=fun {k o} hn hk=>by rw [u.block k (heap_lt hk) hn];exact hk
 exact ⟨h.ker.upd u (fun k hk hm=>(hS k hm).1 hk),e (fun hm=>(hS _ hm).2.1 rfl) h.bk,e (fun hm=>(hS _ hm).2.2.1 rfl) h.bkk,e (fun hm=>(hS _ hm).2.2.2.1 rfl) h.bf,e (fun hm=>(hS _ hm).2.2.2.2.1 rfl) h.bw,own_keep h.map (u.block _ h.map.lt fun hm=>(hS _ hm).2.2.2.2.2 rfl),h.dq,h.dm⟩
theorem FoldMT.put {w w':World} {b ck ckk cf cw mb fl:Nat} {caps:Array Value} {K:KV} {T:List DM} {q:KPtr} {D D':DM} (h:FoldMT w b ck ckk cf cw mb fl caps K T q D) (u:Upd [mb] w w') (hm:w'.ownsMap Tryz.prog 77 tabElem mb (Maps.size D') D') :
  FoldMT w' b ck ckk cf cw mb fl caps K T q D':=by
 have e:∀ {k:Nat} {o:Obj},mb≠k->w.heap[k]?=some o->w'.heap[k]?=some o:=fun {k o} hn hk=>by rw [u.block k (heap_lt hk) (by simp;exact Ne.symm hn)];exact hk
 exact ⟨h.ker.upd u (fun k hk hm=>by simp at hm;exact h.dq k hk hm),e h.dm.1 h.bk,e h.dm.2.1 h.bkk,e h.dm.2.2.1 h.bf,e h.dm.2.2.2 h.bw,hm,h.dq,h.dm⟩
theorem FoldMT.lt {w:World} {b ck ckk cf cw mb fl:Nat} {caps:Array Value} {K:KV} {T:List DM} {q:KPtr} {D:DM} (h:FoldMT w b ck ckk cf cw mb fl caps K T q D):(∀ k,k∈q.all b->k<w.heap.size)/\ck<w.heap.size/\ckk<w.heap.size/\cf<w.heap.size/\cw<w.heap.size/\mb<w.heap.size :=
 ⟨h.ker.mem.lt,heap_lt h.bk,heap_lt h.bkk,heap_lt h.bf,heap_lt h.bw,h.map.lt⟩
structure FSt (n0:Nat) (w0 z:World) (b ck ckk cf cw mb fl:Nat) (caps:Array Value) (K:KV) (T:List DM) (q:KPtr) (G:Nat->TV) (S:World->Prop) (V:List Nat) (D:DM) (L:List (Value × TV)):Prop where
 kn:KnT n0 z mb G V D
 c0:0∈V
 c1:1∈V
 m:FoldMT z b ck ckk cf cw mb fl caps K T q D
 up:Upd [mb] w0 z
 s:S z
 ts:∀ x,x∈L->TIn z (mb::List.range n0) x.1 x.2
theorem FSt.keep0 {w0 z z':World} {b ck ckk cf cw mb fl:Nat} {caps:Array Value} {K:KV} {T:List DM} {q:KPtr} {G:Nat->TV} {S:World->Prop} {V:List Nat} {D:DM} {L:List (Value × TV)} (h:FSt n0 w0 z b ck ckk cf cw mb fl caps K T q G S V D L) (hSS:∀ w w':World,S w->Upd [mb] w w'->S w') (u:Upd [] z z') :
  FSt n0 w0 z' b ck ckk cf cw mb fl caps K T q G S V D L :=
 ⟨h.kn.keep fun _ _ ht=>ht.keep0 u,h.c0,h.c1,h.m.upd u (by simp),h.up.trans (u.mono (by simp)),hSS _ _ h.s (u.mono (by simp)),fun x hx=>(h.ts x hx).keep0 u⟩
theorem FSt.box {w0 z z':World} {b ck ckk cf cw mb fl Bx:Nat} {caps:Array Value} {K:KV} {T:List DM} {q:KPtr} {G:Nat->TV} {S:World->Prop} {V:List Nat} {D:DM} {L:List (Value × TV)} {cs:Array Value} {fr:Nat × Nat} (h:FSt n0 w0 z b ck ckk cf cw mb fl caps K T q G S V D L) (hSS:∀ w w':World,S w->Upd [Bx] w w'->S w')
  (hb:z.heap[Bx]?=some (.cells cs 122 fr)) (hB:w0.heap.size<=Bx) (hlt:(∀ k,k∈q.all b->k<w0.heap.size)/\ck<w0.heap.size/\ckk<w0.heap.size/\cf<w0.heap.size/\cw<w0.heap.size/\mb<w0.heap.size) (u:Upd [Bx] z z') :
  FSt n0 w0 z' b ck ckk cf cw mb fl caps K T q G S V D L:=by
 have k:∀ c t,TIn z (mb::List.range n0) c t->TIn z' (mb::List.range n0) c t:=fun c t ht=>ht.foreign u fun k hk=>by simp at hk;subst hk;exact ⟨_,_,_,hb,by decide⟩
 obtain ⟨l1,l2,l3,l4,l5,l6⟩:=hlt;refine ⟨h.kn.keep k,h.c0,h.c1,h.m.upd u fun k hk=>?_,h.up.then u fun k hk=>.inr (by simp at hk;omega),hSS _ _ h.s u,fun x hx=>k _ _ (h.ts x hx)⟩
 simp at hk
 subst hk;refine ⟨fun hm=>?_,by omega,by omega,by omega,by omega,by omega⟩;have:=l1 _ hm;omega
end Go.Proofs.YtfkopmhpppeheaaGreat
