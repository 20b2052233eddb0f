import Derived.Test.YtpfafhmkbcahhaaGreatKA21
import Derived.Test.YtpfafhmkbcahhaaGreatKA22
import Derived.Test.YtpfafhmkbcahhaaGreatKA11
import Derived.Test.YtpfafhmkbcahhaaGreatKA19
import Derived.Deep.DeepCutAuto
set_option maxRecDepth 100000
set_option maxHeartbeats 6400000
namespace Go.Proofs.YtpfafhmkbcahhaaGreat
open Go.RowKit Go.Maps Go.ChangeMaps Go.WideShapes
theorem set4 {x:World} {a B j:Nat} {v0 v1 v2 v3:Value} (h:x.cell? ⟨a,0,none⟩=some v0/\x.cell? ⟨a,1,none⟩=some v1/\x.cell? ⟨a,2,none⟩=some v2/\x.cell? ⟨a,3,none⟩=some v3) (hne:a≠B) (u:Value) :
  (x.setCell ⟨B,j,none⟩ u).cell? ⟨a,0,none⟩=some v0/\(x.setCell ⟨B,j,none⟩ u).cell? ⟨a,1,none⟩=some v1/\(x.setCell ⟨B,j,none⟩ u).cell? ⟨a,2,none⟩=some v2/\(x.setCell ⟨B,j,none⟩ u).cell? ⟨a,3,none⟩=some v3:=by
 have hb:(x.setCell ⟨B,j,none⟩ u).heap[a]?=x.heap[a]?:=heap_set_ne hne;exact ⟨(World.cell?_of_block (a:=⟨a,0,none⟩) hb).trans h.1,(World.cell?_of_block (a:=⟨a,1,none⟩) hb).trans h.2.1,(World.cell?_of_block (a:=⟨a,2,none⟩) hb).trans h.2.2.1,(World.cell?_of_block (a:=⟨a,3,none⟩) hb).trans h.2.2.2⟩
theorem box4 {x:World} {B:Nat} {t:TypeId} {y0 y1 y2 y3:Value} (h:x.heap[B]?=some (.cells #[y0,y1,y2,y3] t (0,0))) (v0 v1 v2 v3:Value) :
  ((((x.setCell ⟨B,0,none⟩ v0).setCell ⟨B,1,none⟩ v1).setCell ⟨B,2,none⟩ v2).setCell ⟨B,3,none⟩ v3).heap[B]?=some (.cells #[v0,v1,v2,v3] t (0,0)) :=
 heap_set_eq (j:=3) (heap_set_eq (j:=2) (heap_set_eq (j:=1) (heap_set_eq (j:=0) h v0) v1) v2) v3
theorem WMem.other {w w':World} {b m B:Nat} {rv tv:Value} {K:KV} {F:List Nat} {M:MV} {p:MPtr} {refs:List Nat} {tabs:List TV} {cs:Array Value} {fr:Nat × Nat} (h:WMem w b m rv tv K F M p refs tabs) (hb:w.heap[B]?=some (.cells cs 31 fr)) (u:Upd [B] w w') (hF:B∉F):WMem w' b m rv tv K F M p refs tabs:=by
 have nb:∀ {k:Nat},k∈[B]->k=B:=fun {k} hk=>by simpa using hk
 have keepT:∀ {Z:List Nat} {d:Value} {s:TV},TIn w Z d s->TIn w' Z d s:=fun {Z d s} hd =>
  ⟨hd.ok,row_keep hd.row fun k hk=>u.block k (hd.row.lt k hk).2 fun hm=>blk_ne hd.row hb (by decide) (by rw [<- nb hm];exact hk),hd.fr⟩
 obtain ⟨ds,d1,d2,d3⟩:=h.mod.hs.ex;obtain ⟨es,e1,e2,e3⟩:=h.tt.ex
 refine ⟨h.ker.upd u fun k hk hm=>hF (by rw [<- nb hm];exact hk),⟨?_,row_keep h.mod.os fun k hk=>u.block k (h.mod.os.lt k hk).2 fun hm=>blk_ne h.mod.os hb (by decide) (by rw [<- nb hm];exact hk),
  ⟨ds,d1,row_keep d2 fun k hk=>u.block k (d2.lt k hk).2 fun hm=>blk_ne d2 hb (by decide) (by rw [<- nb hm];exact hk),fun i t c hi hc=>keepT (d3 i t c hi hc)⟩,
  row_keep h.mod.ts fun k hk=>u.block k (h.mod.ts.lt k hk).2 fun hm=>blk_ne h.mod.ts hb (by decide) (by rw [<- nb hm];exact hk),h.mod.ne,h.mod.sz⟩,h.dj,
  row_keep h.rr fun k hk=>u.block k (h.rr.lt k hk).2 fun hm=>blk_ne h.rr hb (by decide) (by rw [<- nb hm];exact hk),h.rf,
  ⟨es,e1,row_keep e2 fun k hk=>u.block k (e2.lt k hk).2 fun hm=>blk_ne e2 hb (by decide) (by rw [<- nb hm];exact hk),fun i t c hi hc=>keepT (e3 i t c hi hc)⟩,h.tt.fr⟩
 rw [u.block m (heap_lt h.mod.blk) fun hm=>?_]
 ·exact h.mod.blk
 ·have:=nb hm
  subst this;have h1:=h.mod.blk;rw [hb] at h1
  injection h1 with h1;injection h1 with _ h1 _;exact absurd h1 (by decide)
theorem ModIn.lt {w:World} {m:Nat} {M:MV} {p:MPtr} {Z:List Nat} (h:ModIn w m M p Z):∀ k,k∈p.all m->k<w.heap.size:=fun k hk=>by
 rcases MPtr.mem.1 hk with rfl | h1 | h1 | h1
 ·exact heap_lt h.blk
 ·exact (h.os.lt k h1).2
 ·obtain ⟨xs,hr⟩:=h.hs.row;exact (hr.lt k h1).2
 ·exact (h.ts.lt k h1).2
theorem LIn.start {w9:World} {n0 s1 s2 a b m g1 g2 n R:Nat} {T:List DM} {q:KPtr} {p:MPtr} {c0 c1:Value} (hk:KerIn w9 b (KV.new n R) T q) (hm:ModIn w9 m (MV.new n R) p (p.all m))
  (hr:w9.heap[g1]?=some (.cells #[.int .u32 (0:Nat),.int .u32 (1:Nat)] 54 (0,0))) (h0:TIn w9 [] c0 (constT n false)) (h1:TIn w9 [] c1 (constT n true)) (z0:∀ k,c0.ownBlock=some k->s2<=k) (z1:∀ k,c1.ownBlock=some k->s2<=k)
  (ht:w9.heap[g2]?=some (.cells #[.int .i64 n,c0,.int .i64 n,c1] 56 (0,0)))
  (ha:w9.heap[a]?=some (.cells #[.pointer (some ⟨b,0,none⟩),.pointer (some ⟨m,0,none⟩),.slice (some ⟨g1,0,none⟩) 2 2,.slice (some ⟨g2,0,none⟩) 2 2] 31 (0,0)))
  (k1:∀ k,k∈q.all b->n0<=k/\k<s1) (k2:∀ k,k∈p.all m->s1<=k/\k<s2) (e1:s2<=g1) (e2:s2<=g2) (e3:s2<=a) (hn:n0<=s1) :
  LIn w9 n0 a b m (.slice (some ⟨g1,0,none⟩) 2 2) (.slice (some ⟨g2,0,none⟩) 2 2) (KV.new n R) (q.all b) (MV.new n R) p [0,1] [constT n false,constT n true]:=by
 have hm0:=k2 m (MPtr.mem.2 (.inl rfl))
 have zlt:∀ k,k∈q.all b++p.all m->k<s2:=fun k hk=>by
  rcases List.mem_append.1 hk with h | h
  ·have:=k1 k h;omega
  ·exact (k2 k h).2
 have nz:∀ {k:Nat},s2<=k->k∉q.all b++p.all m:=fun {k} hk hm=>by have:=zlt k hm;omega
 have nz1:∀ {k:Nat},s2<=k->k∉q.all b/\k∉p.all m:=fun {k} hk=>⟨fun h=>nz hk (List.mem_append.2 (.inl h)),fun h=>nz hk (List.mem_append.2 (.inr h))⟩
 have own:∀ {g k:Nat},(Value.slice (some ⟨g,0,none⟩) 2 2).ownBlock=some k->k=g:=fun {g k} h=>by simp [Value.ownBlock] at h;exact h.symm
 refine ⟨ha,⟨⟨T,q,hk,rfl⟩,⟨hm.blk,hm.os,?_,hm.ts,hm.ne,fun k hk=>List.mem_append.2 (.inr hk)⟩,fun k h1 h2=>?_,⟨rfl,.inr ⟨g1,2,_,rfl,Nat.zero_le _,hr,Nat.le_refl _,by unfold maxLen;omega,rfl,rfl⟩⟩,fun k hk=>?_,?_⟩,nz1 e3,fun k hk=>?_,?_⟩
 ·obtain ⟨cs,q1,q2,_⟩:=hm.hs.ex
  exact ⟨cs,q1,q2,fun i t c h=>by simp [MV.new] at h⟩
 ·have:=k1 k h1;have:=k2 k h2;omega
 ·rw [own hk];exact nz1 e1
 ·exact TLs.two (t0:=constT n false) (t1:=constT n true) ht ⟨h0.ok,h0.row,fun k hk=>nz (z0 k hk)⟩ ⟨h1.ok,h1.row,fun k hk=>nz (z1 k hk)⟩ (Nat.zero_le _) (nz e2)
 ·rcases hk with h | h | h | h | h
  ·exact (k1 k h).1
  ·have:=k2 k h;omega
  ·omega
  ·rw [own h];omega
  ·rw [own h];omega
 ·have:=heap_lt ha;omega
theorem getD_atI {l:List Int} {j:Nat} (h:j<l.length):l[j]?=some (l.getD j 0):=by
 rw [List.getD_eq_getElem?_getD,List.getElem?_eq_getElem h];rfl
theorem laid_specX (n room:Int) (la wa:Option Addr) (ln lc wn wk:Nat) (Ls Ws:List Int) (w:World) (hL:RowOf w .i64 la ln Ls) (hW:RowOf w .u64 wa wn Ws) (hU:∀ x,x∈Ws->U64 x) :
  Calls Tryz.prog 15 #[.agg #[.int .i64 n,.int .i64 room,.slice la ln lc,.slice wa wn wk]] w fun e w'=>LaidX n room ln Ws w e w':=by
 have HL:=Lib.hid hL;have HW:=Lib.hid hW;have HUW:=Lib.hid hU;obtain ⟨w0,hw0⟩ : ∃ w0,(w.alloc (.cells #[.int .i64 n,.int .i64 room,.slice la ln lc,.slice wa wn wk] 25 (0,0))).alloc (.cells #[.pointer none,.pointer none,.slice none 0 0,.slice none 0 0] 31 (0,0))=w0:=⟨_,rfl⟩
 have hsz:w0.heap.size=w.heap.size+2:=by rw [<- hw0,World.size_alloc,World.size_alloc]
 have hbx:w0.heap[w.heap.size]?=some (.cells #[.int .i64 n,.int .i64 room,.slice la ln lc,.slice wa wn wk] 25 (0,0)):=by rw [<- hw0];exact (Below.heap_alloc _ _ _ (heap_lt (heap_alloc_new _ _))).trans (heap_alloc_new _ _)
 have hrs:w0.heap[w.heap.size+1]?=some (.cells #[.pointer none,.pointer none,.slice none 0 0,.slice none 0 0] 31 (0,0)):=by
  rw [<- hw0];have h:=heap_alloc_new (w.alloc (.cells #[.int .i64 n,.int .i64 room,.slice la ln lc,.slice wa wn wk] 25 (0,0))) (.cells #[.pointer none,.pointer none,.slice none 0 0,.slice none 0 0] 31 (0,0))
  rw [World.size_alloc] at h;exact h
 have hu0:Upd [] w w0:=by rw [<- hw0];exact ((Upd.refl _ _).alloc _).alloc _
 have HBX:=Lib.hid (And.intro hbx (And.intro hrs (And.intro hu0 hsz)));have HW0:=Lib.hid hw0;have hroom:=roomN_lo room;have b0:w0.cell? ⟨w.heap.size,0,none⟩=some (.int .i64 n):=cell_at hbx rfl;have b1:w0.cell? ⟨w.heap.size,1,none⟩=some (.int .i64 room):=cell_at hbx rfl;clear hL hW hU hw0 hbx hrs hu0 hsz
 go_enter Tryz.func15,Tryz.ntmps15
 go_wp2_with fail;rw [HW0.out]
 go_region_held3 (fun x=>x.cell? ⟨w.heap.size,0,none⟩=some (.int .i64 n)/\x.cell? ⟨w.heap.size,1,none⟩=some (.int .i64 room)) (first | exact ⟨b0,b1⟩) (first | (go_at_call 62;refine (lvars_spec _ _).mono ?_;rintro e w1 ⟨⟨v,hvn,rfl,h1,h6⟩,rfl⟩;have HVN:=Lib.hid hvn;clear hvn))
 go_upto_region 2 with fail
 go_cut [23] from 18 to 22 (fun s23 wx=>s23=.bool (decide (room<2)||decide (1048576<room))/\Upd [] w0 wx)
 case first =>
  clear b0 b1
  cases hd:decide (room<2) with
  | true =>
   go_wp2_with fail;go_meet;exact ⟨by simp [hd],(Upd.refl _ _).drew⟩
  | false =>
   go_wp2_with fail;go_meet;exact ⟨by simp [hd],(Upd.refl _ _).drew⟩
 case rest =>
  obtain ⟨rfl,hux⟩:=hcut;have HUX:=Lib.hid hux;clear b0 b1 hux;obtain ⟨bb,hbb⟩ : ∃ bb,(decide (room<2)||decide (1048576<room))=bb:=⟨_,rfl⟩;have HBB:=Lib.hid hbb;rw [hbb];clear hbb;go_upto_if 23 with fail
  go_cut [5] from 24 to 24 (fun s5 wx=>s5=.int .i64 (roomN room:Nat)/\Upd [] w0 wx)
  case first =>
   cases bb with
   | true =>
    have hR:roomN room=200:=by unfold roomN;rw [if_pos (by simpa using HBB.out)]
    go_wp2_with fail;go_meet;exact ⟨by rw [hR];rfl,HUX.out⟩
   | false =>
    have hR:((roomN room:Nat):Int)=room:=by
     have:¬ (room<2\/1048576<room):=fun h=>by
      have:(decide (room<2)||decide (1048576<room))=true:=by simpa using h
      rw [HBB.out] at this;cases this
     unfold roomN;rw [if_neg this];omega
    go_wp2_with fail;go_meet;exact ⟨by rw [hR],HUX.out⟩
  case rest =>
  obtain ⟨rfl,hux⟩:=hcut;obtain ⟨R,hR⟩ : ∃ R,roomN room=R:=⟨_,rfl⟩;rw [hR] at hroom;rw [hR];clear HUX;have HUX:=Lib.hid (And.intro hux hR);have HN:=Lib.hid (And.intro h1 h6);have HRM:=Lib.hid hroom;clear hux hR;go_wp2_with fail;refine (knew_spec v R _ HN.out.1 (by omega) HRM.out.1 HRM.out.2).mono ?_;rintro e w1 ⟨b,T,q,rfl,hK,hu,hs⟩;have HK1:=Lib.hid (And.intro hK (And.intro hu hs));clear hK hu hs;go_wp2_with fail;refine (newmodel_spec v R _ (by omega) HRM.out.2).mono ?_;rintro e w2 hE;obtain ⟨m,p,rfl,hml,hM,hu,hs⟩:=hE.ex;have HM2:=Lib.hid (And.intro hM (And.intro hu (And.intro hs hml)));clear hE hM hu hs hml;go_wp2_with fail;refine (tconst_spec v false _ (by omega)).mono ?_;rintro e w3 hE;obtain ⟨c0,rfl,hT,hu⟩:=hE.ex;have HC0:=Lib.hid (And.intro hT hu);obtain ⟨xa,xc,hxv,_⟩:=row_nil_len hT.row;generalize hXW:(constT v false).ws.length=XW at hxv;subst hxv;clear hE hT hu;have e0:tabV (constT v false) (.slice xa XW xc)=.agg #[.int .i64 v,.slice xa XW xc]:=rfl;rw [e0];go_wp2_with fail;refine (tconst_spec v true _ (by omega)).mono ?_;rintro e w4 hE;obtain ⟨c1,rfl,hT,hu⟩:=hE.ex;have HC1:=Lib.hid (And.intro hT hu);obtain ⟨ya,yc,hyv,_⟩:=row_nil_len hT.row;generalize hYW:(constT v true).ws.length=YW at hyv;subst hyv;clear hE hT hu;have e1:tabV (constT v true) (.slice ya YW yc)=.agg #[.int .i64 v,.slice ya YW yc]:=rfl;rw [e1];clear e0 e1;go_upto_region 8 with fail;obtain ⟨wS,hwS⟩ : ∃ wS,(w4.alloc (.cells #[.int .i64 v,.slice xa XW xc,.int .i64 v,.slice ya YW yc] 56 (0,0))).alloc (.cells #[.pointer (some ⟨b,0,none⟩),.pointer (some ⟨m,0,none⟩),.slice (some ⟨w2.heap.size,0,none⟩) 2 2,.slice (some ⟨w4.heap.size,0,none⟩) 2 2] 31 (0,0))=wS:=⟨_,rfl⟩
  have hst:LIn wS w0.heap.size (w4.heap.size+1) b m (.slice (some ⟨w2.heap.size,0,none⟩) 2 2) (.slice (some ⟨w4.heap.size,0,none⟩) 2 2) (KV.new v R) (q.all b) (MV.new v R) p [0,1] [constT v false,constT v true]/\Upd [] w0 wS:=by
   have u0:=HUX.out.1;have u1:=HK1.out.2.1;have u2:=HM2.out.2.1;have u3:=HC0.out.2;have u4:=HC1.out.2;have z0:=u0.size;have z1:=u1.size;have z2:=u2.size;have z3:=u3.size;have z4:=u4.size;rw [World.size_alloc] at z3
   have u5:Upd [] w4 wS:=by rw [<- hwS];exact ((Upd.refl _ _).alloc _).alloc _
   have u24:Upd [] w2 wS:=(((Upd.refl [] w2).alloc _).trans (u3.trans u4)).trans u5
   refine ⟨LIn.start (s1:=w1.heap.size) (s2:=w2.heap.size) (HK1.out.1.upd (u2.trans u24) (by simp)) (HM2.out.1.keep0 u24) ?_ (((HC0.out.1.tin (Z:=[]) (by simp)).keep0 u4).keep0 u5) ((HC1.out.1.tin (Z:=[]) (by simp)).keep0 u5)
    (fun k hk=>?_) (fun k hk=>?_) ?_ ?_ (fun k hk=>⟨?_,HK1.out.1.mem.lt k hk⟩) (fun k hk=>⟨?_,?_⟩) (Nat.le_refl _) (by omega) (by omega) (by omega),((u0.trans u1).trans u2).trans u24⟩
   ·rw [((u3.trans u4).trans u5).block _ (heap_lt (heap_alloc_new _ _)) (by simp)];exact heap_alloc_new _ _
   ·have:=(HC0.out.1.row.lt k hk).1;rw [World.size_alloc] at this;omega
   ·have:=(HC1.out.1.row.lt k hk).1;omega
   ·rw [<- hwS];exact (Below.heap_alloc _ _ _ (heap_lt (heap_alloc_new _ _))).trans (heap_alloc_new _ _)
   ·have h:=heap_alloc_new (w4.alloc (.cells #[.int .i64 v,.slice xa XW xc,.int .i64 v,.slice ya YW yc] 56 (0,0))) (.cells #[.pointer (some ⟨b,0,none⟩),.pointer (some ⟨m,0,none⟩),.slice (some ⟨w2.heap.size,0,none⟩) 2 2,.slice (some ⟨w4.heap.size,0,none⟩) 2 2] 31 (0,0))
    rw [World.size_alloc] at h;rw [<- hwS];exact h
   ·rcases HK1.out.2.2 k hk with h | h
    ·cases h
    ·omega
   ·rcases HM2.out.2.2.1 k hk with h | h
    ·cases h
    ·exact h
   ·exact HM2.out.1.lt k hk
  have HST:=Lib.hid hst;rw [hwS];obtain ⟨a,ha⟩ : ∃ a,w4.heap.size+1=a:=⟨_,rfl⟩;rw [ha] at HST ⊢;have HA:=Lib.hid ha;have HMX:ln<=maxLen:=HL.out.mx;have HMW:wn<=maxLen:=HW.out.mx;unfold maxLen at HMX HMW;generalize hg1:Value.slice (some ⟨w2.heap.size,0,none⟩) 2 2=rv0 at HST;generalize hg2:Value.slice (some ⟨w4.heap.size,0,none⟩) 2 2=tv0 at HST
  have HLL:Hid (∀ x:World,Fro w0.heap.size wS x->(x.cell? ⟨w.heap.size,2,none⟩=some (.slice la ln lc)/\x.cell? ⟨w.heap.size,3,none⟩=some (.slice wa wn wk))/\Upd [] w x):=fun x f=>by
   have hb:wS.heap[w.heap.size]?=_:=(HST.out.2.block _ (by rw [HBX.out.2.2.2];omega) (by simp)).trans HBX.out.1;have h1:wS.cell? ⟨w.heap.size,2,none⟩=some (.slice la ln lc):=cell_at hb rfl;have h2:wS.cell? ⟨w.heap.size,3,none⟩=some (.slice wa wn wk):=cell_at hb rfl;exact ⟨⟨f.cell h1 (by rw [HBX.out.2.2.2];show w.heap.size<_;omega),f.cell h2 (by rw [HBX.out.2.2.2];show w.heap.size<_;omega)⟩,f.upd (HBX.out.2.2.1.trans HST.out.2) (by rw [HBX.out.2.2.2];omega)⟩
  have HRC:Hid (rv0=.slice (some ⟨w2.heap.size,0,none⟩) 2 2/\tv0=.slice (some ⟨w4.heap.size,0,none⟩) 2 2):=⟨hg1.symm,hg2.symm⟩;obtain ⟨⟨z2,z3⟩,_⟩:=HLL.out wS (Fro.refl _ _);have HPN:=Lib.hid (Ph1.new (n:=v) (R:=R) HN.out.1 HN.out.2 HRM.out.1 HRM.out.2);clear HK1 HM2 HC0 HC1 hst hwS hXW hYW ha hg1 hg2;go_wp2_with fail
  go_loopg [51] ln (fun g s51 wr=>∃ (i:Nat) (K:KV) (F:List Nat) (M:MV) (p:MPtr),ln-i=g/\i<=ln/\s51=.int .i64 i/\LIn wr w0.heap.size a b m rv0 tv0 K F M p [0,1] [constT v false,constT v true]/\Ph1 v R K M (min i 40)/\Fro w0.heap.size wS wr/\(i=0->M=MV.new v R))
  case atStart=>exact ⟨0,_,_,_,_,by omega,by omega,rfl,HST.out.1,by simpa using HPN.out,Fro.refl _ _,fun _=>rfl⟩
  case round =>
   obtain ⟨i,K,F,M,p,rfl,hi,rfl,hLI,hPH,hF,hMN⟩:=hrel;have HMN:=Lib.hid hMN;clear hMN;obtain ⟨⟨z2,z3⟩,huw⟩:=HLL.out _ hF
   by_cases hlt:i<ln
   ·obtain ⟨x,hx,hc⟩:=HL.out.at_ i hlt
    subst hx;have hcr:=huw.cell0 hc;generalize Ls.getD i 0=l at *
    have hil:(i:Int)<(ln:Int):=by omega
    obtain ⟨_,k1,_,_⟩:=hLI.cells
    by_cases h40:i<40
    ·have hd:decide ((i:Int)<40)=true:=by simp;omega
     have hm1:min i 40=i:=by omega
     have hm2:min (i+1) 40=i+1:=by omega
     rw [hm1] at hPH;obtain ⟨he,_,_⟩:=hPH.step hLI.mem.ker.ok l
     have htr:K.trail.length<=1000000:=by rw [hPH.tr];have:=hPH.tl;omega
     have HEX:=Lib.hid (exch_at b l K F wr.drew (hLI.mem.ker.upd (Upd.refl [] wr).drew (by simp)) hPH.us htr);rw [<- he] at HEX;have HX:=Lib.hid (And.intro hLI (And.intro hPH (And.intro hF (And.intro hm1 hm2))));have HEE0:∃ E,M.exchE l=E:=⟨_,rfl⟩;obtain ⟨E,hEE⟩:=HEE0;rw [hEE] at HEX;have HEE:=Lib.hid hEE;clear hEE hLI hPH hF he htr huw hm1 hm2
     have hzz:∀ x y:Int,(x == x)=true:=fun x _=>by simp
     go_wp2_with fail
     go_region_held3 (fun x=>x.cell? ⟨a,1,none⟩=some (.pointer (some ⟨m,0,none⟩))) (first | exact k1 | exact HQ.out.2.2 | (obtain ⟨_,hcc,_⟩:=HQ2.out;exact hcc.cells.2.1)) (first
      | (go_at_call 49;refine HEX.out.mono ?_;rintro e w5 ⟨K',F',rfl,hc,hK',hu,hs⟩;obtain ⟨hL5,hF5⟩:=(HX.out.1.keep0 (Upd.refl [] wr).drew).kernel hK' hu hs;have HQ:=Lib.hid (And.intro hL5 (And.intro (And.intro hc ((Fro.of0 (Upd.refl [] wr).drew).trans hF5)) hL5.cells.2.1));clear hc hK' hu hs hL5 hF5)
      | (go_at_call 66;refine (exch9_spec m M p (F'++p.all m) l _ HQ.out.1.mem.mod HQ.out.1.mem.z HX.out.2.1.fit HX.out.2.1.od (by have:=HX.out.2.1.tl;omega)).mono ?_;rintro e w6 hE;obtain ⟨rfl,hm⟩:=hE.ex;rw [HEE.out];have HQ2:=Lib.hid (LIn.exch HX.out.2.1 HX.out.1.mem.ker.ok HQ.out.2.1.1 HQ.out.1 hm);clear hE hm))
     go_wp2_with fail;obtain ⟨p',hL6,hP6,hF6⟩:=HQ2.out
     go_roundg (ln-(i+1))
     case measure=>omega
     case rel=>exact ⟨i+1,K',F',_,p',rfl,by omega,by simp,hL6,by rw [HX.out.2.2.2.2];exact hP6,HX.out.2.2.1.trans (HQ.out.2.1.2.trans hF6),fun h=>by omega⟩
    ·have hd:decide ((i:Int)<40)=false:=by simp;omega
     have HX:=Lib.hid (And.intro hLI (And.intro hPH hF));clear hLI hPH hF huw;go_wp2_with fail
     go_quiet (fail)
     go_wp2_with fail
     go_roundg (ln-(i+1))
     case measure=>omega
     case rel=>exact ⟨i+1,K,F,M,p,rfl,by omega,by simp,HX.out.1.keep0 ((Upd.refl _ _).drewN _),by have:=HX.out.2.1;rw [show min (i+1) 40=min i 40 by omega];exact this,HX.out.2.2.trans (Fro.of0 ((Upd.refl _ _).drewN _)),fun h=>by omega⟩
   ·obtain rfl:i=ln:=by omega
    have hil:¬ ((i:Int)<(i:Int)):=by omega
    obtain ⟨hlog,hall⟩:=hPH.log hLI.mem.ker.ok HN.out.2;have HX:=Lib.hid (And.intro hLI (And.intro hPH (And.intro hF (And.intro hlog hall))));clear hLI hPH hF huw hlog hall;go_wp2_with fail;obtain ⟨wB,hwB⟩ : ∃ wB,wr=wB:=⟨_,rfl⟩;subst hwB;obtain ⟨MA,hMA⟩ : ∃ MA,M=MA:=⟨_,rfl⟩;rw [hMA] at HMN;have HMA:=Lib.hid hMA;clear hMA
    go_loopg [73] wn (fun g s73 wx=>∃ (i c:Nat) (rv tv:Value) (K:KV) (F:List Nat) (M:MV) (p:MPtr) (refs:List Nat) (tabs:List TV),wn-i=g/\i<=wn/\s73=.int .i64 i/\LIn wx w0.heap.size a b m rv tv K F M p refs tabs/\WLog K M refs tabs/\WAll K refs tabs/\Fro w0.heap.size wS wx /\
     c<=i/\c<=8/\K.vars=v/\K.A.places=R/\(∀ x,K.hold x<=c)/\refs.length<=c+2/\M.held.length<=c/\Hid (M=laysT v MA (Ws.take (min i 8))/\∀ r,r∈refs->r<2\/0<K.hold r))
    case atStart=>exact ⟨0,0,_,_,_,_,_,_,_,_,by omega,by omega,rfl,HX.out.1,HX.out.2.2.2.1,HX.out.2.2.2.2,HX.out.2.2.1,by omega,by omega,HX.out.2.1.vr,HX.out.2.1.pl,fun x=>by rw [HX.out.2.1.h0];omega,by simp,by rw [HX.out.2.1.hb];simp,HMA.out,fun r hr=>.inl (by simp at hr;omega)⟩
    case round =>
     obtain ⟨j,c,rv,tv,K2,F2,M2,p2,refs,tabs,rfl,hj,rfl,hLI,hlog,hall,hF,hcj,hc8,hvr,hpl,hhd,hrl,hhl,HLX⟩:=hrel;obtain ⟨⟨z2,z3⟩,huw⟩:=HLL.out _ hF
     by_cases hjt:j<wn
     ·obtain ⟨y,hy,hc⟩:=HW.out.at_ j hjt
      subst hy;have hcr:=huw.cell0 hc;have hyu:U64 (Ws.getD j 0):=HUW.out _ (by rw [List.getD_eq_getElem?_getD,List.getElem?_eq_getElem (by rw [HW.out.len];exact hjt)];exact List.getElem_mem _)
      have HTK:Hid (j<8->Ws.take (min (j+1) 8)=Ws.take (min j 8)++[Ws.getD j 0]):=fun h8=>by
       rw [show min (j+1) 8=j+1 by omega,show min j 8=j by omega,List.take_add_one,getD_atI (by rw [HW.out.len];exact hjt)];rfl
      generalize Ws.getD j 0=u at *
      have hjl:(j:Int)<(wn:Int):=by omega
      have HX2:=Lib.hid (And.intro hLI (And.intro hlog (And.intro hall (And.intro hF (And.intro hvr (And.intro hpl hhd))))))
      by_cases h8:j<8
      ·have hd:decide ((j:Int)<8)=true:=by simp;omega
       have hd2:(j:Int)<8:=by omega
       clear hLI hlog hall hF huw hc hvr hpl hhd;go_wp2_with fail;refine (word_spec v u _ HN.out.1 HN.out.2 hyu).mono ?_;rintro e w5 hE;obtain ⟨t,ta,tn,tc,htn,rfl,hT,hu⟩:=hE.ex;have HT:=Lib.hid (And.intro hT (And.intro hu (show t.n=v by rw [htn];rfl)));have HTW:=Lib.hid htn;clear hE hT hu htn;have HLAY:=wlay_spec w0.heap.size a b m rv tv K2 F2 M2 p2 refs tabs (.slice ta tn tc) t w5 (HX2.out.1.keep0 HT.out.2.1) HX2.out.2.1 HX2.out.2.2.1 (HT.out.1.tin HX2.out.1.mem.z) (by rw [HT.out.2.2,HX2.out.2.2.2.2.1]) (fun k hk=>by have h1:=(HT.out.1.row.lt k hk).1;have h2:=heap_lt HX2.out.1.blk;omega) (fun x=>by have:=HX2.out.2.2.2.2.2.2 x;omega) (by omega) (by omega);unfold tabV at HLAY;rw [HT.out.2.2] at HLAY;have HLAY:=Lib.hid HLAY;go_wp2_with fail;refine HLAY.out.mono ?_;rintro e w6 hE;obtain ⟨rv',tv',K',F',M',p',refs',tabs',rfl,q1,q2,q3,q4,q5,q6,q7,q8,q9,q10⟩:=hE.ex;have HQ:=Lib.hid (And.intro q1 (And.intro q2 (And.intro q3 (And.intro q4 (And.intro q5 (And.intro q9 q8))))));have HQ2:=Lib.hid q10.2;clear hE q1 q2 q3 q4 q5 q8 q9 q10;go_wp2_with fail
       go_roundg (wn-(j+1))
       case measure=>omega
       case rel=>exact ⟨j+1,c+1,rv',tv',K',F',M',p',refs',tabs',rfl,by omega,by simp,HQ.out.1,HQ.out.2.1,HQ.out.2.2.1,(HX2.out.2.2.2.1.trans (Fro.of0 HT.out.2.1)).trans HQ.out.2.2.2.1,by omega,by omega,by rw [HQ.out.2.2.2.2.2.1.vr];exact HX2.out.2.2.2.2.1,by rw [HQ.out.2.2.2.2.2.1.pl];exact HX2.out.2.2.2.2.2.1,fun x=>by have:=HQ.out.2.2.2.2.1 x;have:=HX2.out.2.2.2.2.2.2 x;omega,by omega,by omega,by rw [HTK.out h8,HQ2.out.1,HTW.out];unfold laysT;rw [List.foldl_append,HLX.out.1];rfl,fun r hr=>by
        rcases HQ2.out.2.2 r hr with h | h
        ·exact (HLX.out.2 r h).imp id fun h=>Nat.lt_of_lt_of_le h (HQ2.out.2.1 r)
        ·exact h⟩
      ·have hd:decide ((j:Int)<8)=false:=by simp;omega
       have hd2:¬ (j:Int)<8:=by omega
       clear hLI hlog hall hF huw hc hvr hpl hhd;go_wp2_with fail
       go_roundg (wn-(j+1))
       case measure=>omega
       case rel=>exact ⟨j+1,c,rv,tv,K2,F2,M2,p2,refs,tabs,rfl,by omega,by simp,HX2.out.1,HX2.out.2.1,HX2.out.2.2.1,HX2.out.2.2.2.1,by omega,hc8,HX2.out.2.2.2.2.1,HX2.out.2.2.2.2.2.1,HX2.out.2.2.2.2.2.2,hrl,hhl,by rw [show min (j+1) 8=min j 8 by omega];exact HLX.out⟩
     ·obtain rfl:j=wn:=by omega
      have hjl:¬ ((j:Int)<(j:Int)):=by omega
      obtain ⟨ra,rc,hrv,_⟩:=row_nil_len hLI.mem.rr;obtain ⟨qa,qc,htv,_⟩:=hLI.mem.tt.form;subst hrv htv;have HX2:=Lib.hid (And.intro hLI (And.intro hlog (And.intro hall (And.intro hF (And.intro hvr (And.intro hpl hhd))))));clear hLI hlog hall hF huw hvr hpl hhd
      have hk1:K2.hold 1<65535:=by have:=HX2.out.2.2.2.2.2.2 1;omega
      go_wp2_with fail;refine (keep1_at b K2 F2 _ HX2.out.1.mem.ker hk1).mono ?_;rintro e w6 ⟨F',rfl,hK,hu,hs⟩;obtain ⟨hL6,hF6⟩:=HX2.out.1.kernel hK hu hs;obtain ⟨hlg,hal,hex,hhd⟩:=HX2.out.2.1.keepK HX2.out.2.2.1 HX2.out.1.mem.ker.ok;obtain ⟨k0,k1,_,_⟩:=hL6.cells;have km:=cell_at (j:=4) hL6.mem.mod.blk rfl;have kf:=frozen_at 4 hL6.mem.mod.blk;obtain ⟨p7,hL7,hF7⟩:=hL6.model (ModE.clear hL6.mem.mod hL6.mem.mod.sz);have hlg7:=hlg.clear;have HY:=Lib.hid (And.intro hL7 (And.intro hlg7 (And.intro hal (And.intro (HX2.out.2.2.2.1.trans (hF6.trans hF7)) (And.intro hex hhd)))));have HST7:=Lib.hid (stands_spec b m _ _ (K2.keepK 1) F' { M2 with trail:=[] } p7 refs tabs _ (WIn.of (hL7.keep0 (Upd.refl _ _).drew).mem hlg7) rfl (by simp));obtain ⟨y0,y1,y2,y3⟩:=hL7.cells;clear hK hu hs hL6 hF6 hL7 hF7 hlg hal hex hhd hlg7;obtain ⟨w7,hw7⟩ : ∃ w7,w6.setCell ⟨m,4,none⟩ (.slice none 0 0)=w7:=⟨_,rfl⟩;rw [hw7] at HY HST7 y0 y1 y2 y3;go_upto_region 22 with fail
      have HR7:Hid (∀ x:World,Upd [] w7 x->(x.cell? ⟨a,0,none⟩=some (.pointer (some ⟨b,0,none⟩))/\x.cell? ⟨a,1,none⟩=some (.pointer (some ⟨m,0,none⟩))/\x.cell? ⟨a,2,none⟩=some (.slice ra refs.length rc)/\x.cell? ⟨a,3,none⟩=some (.slice qa tabs.length qc))/\x.heap[w.heap.size+1]?=some (.cells #[.pointer none,.pointer none,.slice none 0 0,.slice none 0 0] 31 (0,0))):=fun x u=>by
       refine ⟨⟨u.cell0 y0,u.cell0 y1,u.cell0 y2,u.cell0 y3⟩,?_⟩
       have hl:w.heap.size+1<w0.heap.size:=by rw [HBX.out.2.2.2];omega
       have h1:=HY.out.2.2.2.1;rw [u.block _ (Nat.lt_of_lt_of_le hl (Nat.le_trans HST.out.2.size h1.size)) (by simp),h1.block _ hl (Nat.lt_of_lt_of_le hl HST.out.2.size),HST.out.2.block _ hl (by simp)];exact HBX.out.2.1
      unfold worldV at HST7
      have hna:a≠w.heap.size+1:=by
       have h2:=HST.out.1.lo a (.inr (.inr (.inl rfl)))
       rw [HBX.out.2.2.2] at h2;omega
      go_region_held3 (fun x=>x.cell? ⟨a,0,none⟩=some (.pointer (some ⟨b,0,none⟩))/\x.cell? ⟨a,1,none⟩=some (.pointer (some ⟨m,0,none⟩))/\x.cell? ⟨a,2,none⟩=some (.slice ra refs.length rc)/\x.cell? ⟨a,3,none⟩=some (.slice qa tabs.length qc)) (first | exact (HR7.out _ (Upd.refl _ _).drew).1 | exact (HR7.out _ HU8.out).1 | exact set4 (set4 (set4 (set4 (HR7.out _ HU8.out).1 hna _) hna _) hna _) hna _) (first
       | (go_at_call 19;refine (HST7.out).mono ?_;rintro e w8 ⟨rfl,hu⟩;have HU8:=Lib.hid hu.of_drew;clear hu;have hb8:=(HR7.out _ HU8.out).2;have f0:=frozen_at 0 hb8;have f1:=frozen_at 1 hb8;have f2:=frozen_at 2 hb8;have f3:=frozen_at 3 hb8;have g0:=cell_at (j:=0) hb8 rfl;have g1:=cell_at (j:=1) hb8 rfl;have g2:=cell_at (j:=2) hb8 rfl;have g3:=cell_at (j:=3) hb8 rfl;have HB8:=Lib.hid hb8;clear hb8))
      have hb9:=box4 HB8.out (.pointer (some ⟨b,0,none⟩)) (.pointer (some ⟨m,0,none⟩)) (.slice ra refs.length rc) (.slice qa tabs.length qc);have x0:=cell_at (j:=0) hb9 rfl;have x1:=cell_at (j:=1) hb9 rfl;have x2:=cell_at (j:=2) hb9 rfl;have x3:=cell_at (j:=3) hb9 rfl;clear hb9;go_wp2_with fail;refine bodyPost_ret (v:=.tuple #[worldV b m (.slice ra refs.length rc) (.slice qa tabs.length qc),.bool true]) (by simp [results,Tryz.results15,go_sem,x0,x1,x2,x3,worldV]) rfl ?_
      have hu9:Upd [w.heap.size+1] w8 ((((w8.setCell ⟨w.heap.size+1,0,none⟩ (.pointer (some ⟨b,0,none⟩))).setCell ⟨w.heap.size+1,1,none⟩ (.pointer (some ⟨m,0,none⟩))).setCell ⟨w.heap.size+1,2,none⟩ (.slice ra refs.length rc)).setCell ⟨w.heap.size+1,3,none⟩ (.slice qa tabs.length qc)) :=
       ((((Upd.refl _ w8).setCell (p:=⟨w.heap.size+1,0,none⟩) (.inl (by simp)) _).setCell (p:=⟨w.heap.size+1,1,none⟩) (.inl (by simp)) _).setCell (p:=⟨w.heap.size+1,2,none⟩) (.inl (by simp)) _).setCell (p:=⟨w.heap.size+1,3,none⟩) (.inl (by simp)) _
      have hlo:=HY.out.1.lo;rw [HBX.out.2.2.2] at hlo
      exact ⟨b,m,_,_,K2.keepK 1,F',_,p7,refs,tabs,rfl,(HY.out.1.keep0 HU8.out).mem.other HB8.out hu9 (fun hm=>by have:=hlo _ (.inl hm);omega),HY.out.2.1,HY.out.2.2.1,
       fun k hk=>by have:=hlo k (hk.imp id (·.imp id fun h=>.inr h));omega,
       ((HLL.out w7 HY.out.2.2.2.1).2.trans HU8.out).then hu9 (fun k hk=>.inr (by simp at hk;omega)),
       by rw [HY.out.2.2.2.2.1.pl,HX2.out.2.2.2.2.2.1,HUX.out.2],fun x=>by rw [HY.out.2.2.2.2.2];have:=HX2.out.2.2.2.2.2.2 x;omega,by omega,by show M2.held.length<=8;omega,rfl,rfl,by rw [HY.out.2.2.2.2.1.vr,HX2.out.2.2.2.2.1,HVN.out],fun r hr=>by rw [HY.out.2.2.2.2.2];exact HLX.out.2 r hr,fun h0=>by
        rw [HLX.out.1,HMN.out h0,HUX.out.2,<- HVN.out,show Ws.take (min j 8)=Ws.take 8 by rw [List.take_eq_take_iff,HW.out.len];omega]⟩
theorem MV.TrFit.nil {M:MV} (h:M.trail=[]):M.TrFit:=by
 unfold MV.TrFit;rw [h];exact trivial
theorem KM.of {K:KV} {M:MV} {refs:List Nat} {tabs:List TV} (l:WLog K M refs tabs) (h1:K.trail=[]) (h2:M.trail=[]):KM K M:=⟨l.agr,l.fit,by rw [h1,h2],MV.TrFit.nil h2⟩
def MV.ansE (M:MV) (t:TV):Int:=if 65535<=M.holds t then 8 else if M.fits [t] then 0 else 9
def MV.ans (M:MV) (t:TV):MV:=if M.ansE t=0 then { M.hold1 t with trail:=[] } else M
theorem Agr.retrail {K:KV} {M:MV} (h:Agr K M) (t:List Nat):Agr K { M with trail:=t }:=⟨⟨h.same.od,h.same.n⟩,h.c,h.nd,h.hl,h.lh⟩
theorem MV.Fit.retrail {M:MV} (h:M.Fit) (t:List Nat):MV.Fit { M with trail:=t }:=⟨h.hl,h.n6,h.ol,h.on,h.tn,h.cb⟩
theorem Agr.holdsC {K:KV} {M:MV} (h:Agr K M) (hk:K.Ok) (hu:K.Uni) {t:TV} (ht:t.Ok) (htn:t.n=K.vars) (hc:t.isC=true):M.holds t=0:=by
 obtain ⟨b,hb⟩:=TV.isC_iff.1 hc;have h1:=const_names hk b (n:=t.n);rw [<- hb] at h1;rw [h.holds hk hu ht htn h1]
 by_cases h0:K.hold (if b then 1 else 0)=0
 ·exact h0
 ·have:=(hk.wf.ht _ (Nat.pos_of_ne_zero h0)).1
  cases b <;> simp at this
structure OpAgr (K:KV) (M:MV) (t:TV) (r:Nat) (code:Int) (K':KV):Prop where
 ce:code=M.ansE t
 ext:K.Ext K'
 yes:code=0->Names K' r t/\KM K' (M.ans t)/\∀ x,K'.hold x=K.hold x+if x=r/\2<=r then 1 else 0
 no:code≠0->r=0/\(∀ x,K'.hold x=K.hold x)/\(KM K' M\/(K'.trail=[]/\KM K' { M with trail:=[] }))
theorem OpR.agr {K K':KV} {M:MV} {F:(Nat->Bool)->Bool} {r:Nat} {code:Int} {t:TV} (O:OpR K F r code K') (h:KM K M) (hk:K.Ok) (hu:K.Uni) (hk':K'.Ok) (hu':K'.Uni) (ht:t.Ok) (htn:t.n=K.vars) (hF:∀ y,F y=t.fn y) (hl:M.held.length+1<=65536):OpAgr K M t r code K':=by
 have hn:=h.n16;obtain rfl:F=t.fn:=funext hF
 rcases O with ⟨rfl,O⟩ | ⟨rfl,rfl,B,s,s1,s2,s3⟩ | ⟨rfl,rfl,B,hno⟩
 ·have hr:Names K' r t:=⟨O.tk,O.den⟩
  obtain ⟨a1,a2⟩:=h.agr.step hk hu hk' hu' hn ht htn O.ext hr O.hd;have hf:=h.agr.fits_yes hk hk' hu' hn ht htn O.ext hr O.hd
  have hh:¬ 65535<=M.holds t:=by
   cases hc:t.isC with
   | true=>rw [h.agr.holdsC hk hu ht htn hc];omega
   | false =>
    intro hge
    unfold MV.hold1E at a1;rw [if_neg (by rw [hc];simp),if_pos hge] at a1;cases a1
  have hE:M.ansE t=0:=by unfold MV.ansE;rw [if_neg hh,if_pos hf]
  refine ⟨hE.symm,O.ext,fun _=>⟨hr,?_,O.hd⟩,fun hc=>absurd rfl hc⟩;unfold MV.ans;rw [if_pos hE];exact ⟨a2.retrail [],(h.fit.hold1 hl ht (htn.trans h.agr.same.n.symm)).retrail [],O.tr,MV.TrFit.nil rfl⟩
 ·have hr:Names K s t:=⟨s1,s2⟩
  have hh:=h.agr.holds hk hu ht htn hr
  have hE:M.ansE t=8:=by unfold MV.ansE;rw [if_pos (by omega)]
  refine ⟨hE.symm,B.ext,fun hc=>absurd hc (by decide),fun _=>⟨rfl,B.hd,?_⟩⟩;have ha:=h.agr.same_kernel hk B.ext B.hd
  rcases B.tr with htr | htr
  ·exact .inr ⟨htr,ha.retrail [],h.fit.retrail [],htr,MV.TrFit.nil rfl⟩
  ·exact .inl ⟨ha,h.fit,htr.trans h.tr,h.tf⟩
 ·have hh:¬ 65535<=M.holds t:=fun hge=>by
   refine absurd (h.agr.holds0 (t:=t) fun s hs=>?_) (by omega);exact KV.fit_live hk hs.1 hs.2 hno
  have hf:M.fits [t]=false:=by
   have:=h.agr.roots.nofit hk hn ht htn hno.weak;unfold MV.fits;rw [h.agr.same.od,h.agr.c];exact decide_eq_false (by omega)
  have hE:M.ansE t=9:=by unfold MV.ansE;rw [if_neg hh,if_neg (by rw [hf];simp)]
  refine ⟨hE.symm,B.ext,fun hc=>absurd hc (by decide),fun _=>⟨rfl,B.hd,?_⟩⟩;have ha:=h.agr.same_kernel hk B.ext B.hd
  rcases B.tr with htr | htr
  ·exact .inr ⟨htr,ha.retrail [],h.fit.retrail [],htr,MV.TrFit.nil rfl⟩
  ·exact .inl ⟨ha,h.fit,htr.trans h.tr,h.tf⟩
def binT (op:Nat) (f g:TV):TV:=mkT f.n fun x=>opB op (f.bit x) (g.bit x)
def decL:List (TV × Nat)->TV->List (TV × Nat)
 | [],_=>[]
 | h::H,t=>if h.1=t then (if h.2=1 then H else (h.1,h.2-1)::H) else h::decL H t
def MV.rel (M:MV) (t:TV):MV:=if t.isC then M else { M with held:=decL M.held t }
theorem decL_sub:∀ (H:List (TV × Nat)) (t:TV),((decL H t).map (·.1)).Sublist (H.map (·.1))
 | [],_=>List.Sublist.refl _
 | h::H,t=>by
  unfold decL;split
  ·split
   ·exact List.sublist_cons_self _ _
   ·exact List.Sublist.refl _
  ·exact (decL_sub H t).cons_cons _
theorem mem_decL:∀ {H:List (TV × Nat)} {t u:TV} {c:Nat},(H.map (·.1)).Nodup->(∀ h,h∈H->0<h.2)->((u,c)∈decL H t↔(u≠t/\(u,c)∈H)\/(u=t/\holdL H t=c+1/\1<=c))
 | [],t,u,c,_,_=>by simp [decL,holdL]
 | a::H,t,u,c,hn,hp=>by
  rw [List.map_cons,List.nodup_cons] at hn;have hpa:=hp a (by simp)
  by_cases e:a.1=t
  ·have hno:∀ d,(t,d)∉H:=fun d hd=>hn.1 (by rw [e];exact List.mem_map.2 ⟨_,hd,rfl⟩)
   by_cases h1:a.2=1
   ·simp only [decL,if_pos e,if_pos h1,holdL]
    constructor
    ·intro h
     refine .inl ⟨fun hu=>hno c (by rw [<- hu];exact h),List.mem_cons_of_mem _ h⟩
    ·rintro (⟨h2,h3⟩ | ⟨_,h3,h4⟩)
     ·rcases List.mem_cons.1 h3 with h3 | h3
      ·exact absurd (by rw [<- e,<- h3]) h2
      ·exact h3
     ·omega
   ·simp only [decL,if_pos e,if_neg h1,holdL,List.mem_cons]
    constructor
    ·rintro (h | h)
     ·have h2:=congrArg Prod.fst h
      have h3:=congrArg Prod.snd h
      simp only at h2 h3
      exact .inr ⟨h2.trans e,by omega,by omega⟩
     ·exact .inl ⟨fun hu=>hno c (by rw [<- hu];exact h),.inr h⟩
    ·rintro (⟨h2,h3 | h3⟩ | ⟨h2,h3,h4⟩)
     ·exact absurd (by rw [<- e,<- h3]) h2
     ·exact .inr h3
     ·left
      rw [h2,<- e,h3];rfl
  ·have ih:=mem_decL (t:=t) (u:=u) (c:=c) hn.2 fun h hm=>hp h (List.mem_cons_of_mem _ hm)
   simp only [decL,if_neg e,holdL,List.mem_cons,ih]
   constructor
   ·rintro (h | h | h)
    ·exact .inl ⟨fun h1=>e (by rw [<- h1,<- h]),.inl h⟩
    ·exact .inl ⟨h.1,.inr h.2⟩
    ·exact .inr h
   ·rintro (⟨h1,h | h⟩ | h)
    ·exact .inl h
    ·exact .inr (.inl ⟨h1,h⟩)
    ·exact .inr (.inr h)
theorem MV.Fit.rel {M:MV} (h:M.Fit) (t:TV):(M.rel t).Fit:=by
 unfold MV.rel;split
 ·exact h
 ·have hs:=decL_sub M.held t
  have hl:=hs.length_le;rw [List.length_map,List.length_map] at hl;exact ⟨Nat.le_trans hl h.hl,h.n6,h.ol,h.on,fun u hu=>h.tn u (hs.subset hu),h.cb⟩
theorem MV.rel_same (M:MV) (t:TV):(M.rel t).n=M.n/\(M.rel t).c=M.c/\(M.rel t).order=M.order/\(M.rel t).trail=M.trail/\(M.rel t).held.length<=M.held.length:=by
 unfold MV.rel;split
 ·exact ⟨rfl,rfl,rfl,rfl,Nat.le_refl _⟩
 ·have hl:=(decL_sub M.held t).length_le
  rw [List.length_map,List.length_map] at hl;exact ⟨rfl,rfl,rfl,rfl,hl⟩
theorem Agr.drop {K K':KV} {M:MV} (h:Agr K M) (hk:K.Ok) (hu:K.Uni) (hk':K'.Ok) (hn:K.vars<=16) {t:TV} (ht:t.Ok) (htn:t.n=K.vars) {r:Nat} (hr:Names K r t) (hh:2<=r->0<K.hold r) (D:K.Dropped r K'):Agr K' (M.rel t):=by
 by_cases h2:2<=r
 ·have hc:¬ t.isC=true:=fun hc=>by have:=(isC_names hk hu hn ht htn hr).1 hc;omega
  have hp:∀ x,x∈M.held->0<x.2:=fun x hx=>by obtain ⟨_,_,_,_,_,_,h0,_⟩:=h.hl x.1 x.2 hx;exact h0
  have hq:=h.holds hk hu ht htn hr;have h0:=hh h2;rw [MV.rel,if_neg hc];refine ⟨⟨h.same.od.trans D.ext.od,h.same.n.trans D.ext.vr⟩,h.c.trans D.ext.pl,(decL_sub M.held t).nodup h.nd,fun u c hm=>?_,fun x hx=>?_⟩
  ·rcases (mem_decL h.nd hp).1 hm with ⟨h1,h3⟩ | ⟨rfl,h3,h4⟩
   ·obtain ⟨a1,a2,s,a3,a4,a5,a6,a7⟩:=h.hl u c h3
    have hs:s≠r:=fun e=>by subst e;exact h1 (Names.teq ⟨a4,a7⟩ hr a1 ht (a2.trans htn.symm))
    have hd:=D.hd s;rw [if_neg (fun e=>hs e.1),a5] at hd;have htk:=(hk'.wf.ht s (by omega)).2;exact ⟨a1,a2.trans D.ext.vr,s,a3,htk,hd,a6,fun y=>by rw [<- D.ext.den hk'.wf y htk];exact a7 y⟩
   ·have hd:=D.hd r
    rw [if_pos ⟨rfl,h2⟩] at hd;have h3:M.holds u=c+1:=h3;have htk:=(hk'.wf.ht r (by omega)).2;exact ⟨ht,htn.trans D.ext.vr,r,h2,htk,by omega,by omega,fun y=>by rw [<- D.ext.den hk'.wf y htk];exact hr.2 y⟩
  ·have htk:=(hk'.wf.ht x hx).2
   by_cases ex:x=r
   ·subst ex
    have hd:=D.hd x;rw [if_pos ⟨rfl,h2⟩] at hd;refine ⟨t,K.hold x-1,(mem_decL h.nd hp).2 (.inr ⟨rfl,?_,by omega⟩),hd,fun y=>by rw [<- D.ext.den hk'.wf y htk];exact hr.2 y⟩
    show M.holds t=_
    omega
   ·have hd:=D.hd x
    rw [if_neg (fun e=>ex e.1)] at hd;obtain ⟨u,c,a1,a2,a3⟩:=h.lh x (by omega);refine ⟨u,c,(mem_decL h.nd hp).2 (.inl ⟨?_,a1⟩),by omega,fun y=>by rw [<- D.ext.den hk'.wf y htk];exact a3 y⟩;rintro rfl;exact ex (Names.eq hk hu ⟨(hk.wf.ht x (by omega)).2,a3⟩ hr)
 ·have hc:t.isC=true:=(isC_names hk hu hn ht htn hr).2 (by omega)
  rw [MV.rel,if_pos hc]
  have hd:∀ x,K'.hold x=K.hold x:=fun x=>by rw [D.hd,if_neg (fun e=>h2 e.2)]
  exact h.same_kernel hk (ext_back hk hk' ⟨fun _ _ h _=>h,rfl,rfl,rfl,rfl⟩ D.ext fun x hx=>by rw [hd];exact hx) hd
theorem KM.drop {K K':KV} {M:MV} (h:KM K M) (hk:K.Ok) (hu:K.Uni) (hk':K'.Ok) {t:TV} (ht:t.Ok) (htn:t.n=K.vars) {r:Nat} (hr:Names K r t) (hh:2<=r->0<K.hold r) (D:K.Dropped r K'):KM K' { M.rel t with trail:=[] } :=
 ⟨(h.agr.drop hk hu hk' h.n16 ht htn hr hh D).retrail [],(h.fit.rel t).retrail [],D.tr,MV.TrFit.nil rfl⟩
theorem binT_ok {op:Nat} {f g:TV} (hf:f.n<=16):(binT op f g).Ok/\(binT op f g).n=f.n:=⟨mkT_ok _ hf,rfl⟩
theorem binT_fn {op:Nat} {f g:TV} (h:g.n=f.n) (y:Nat->Bool):(binT op f g).fn y=opB op (f.fn y) (g.fn y):=by
 unfold binT;rw [mkT_fn];unfold TV.fn;rw [h]
structure BinP (b op:Nat) (K:KV) (F:List Nat) (M:MV) (t:TV) (w:World) (e:Ending) (w':World):Prop where
 ex:∃ (r:Nat) (code:Int) (K':KV) (F':List Nat),e=.returned (.tuple #[.int .u32 r,.int .i64 code])/\OpAgr K M t r code K'/\KerAt w' b K' F'/\Upd F w w'/\Sub F w F'
theorem binary_km (b op f g:Nat) (K:KV) (F:List Nat) (M:MV) (tf tg:TV) (w:World) (h:KerAt w b K F) (hm:KM K M) (ho:op<=15) (hf:Names K f tf) (hg:Names K g tg) (hfn:tf.n=K.vars) (hgn:tg.n=K.vars) (hl:M.held.length+1<=65536) :
  Calls Tryz.prog 112 #[.pointer (some ⟨b,0,none⟩),.int .u8 op,.int .u32 f,.int .u32 g] w fun e w'=>BinP b op K F M (binT op tf tg) w e w':=by
 have hu:=h.uni;have hk:=h.ok;have hn:=hm.n16;obtain ⟨T,q,hki,rfl⟩:=h;refine (binary_live b op f g K T q w hki ho hf.1 hg.1).mono ?_;rintro e w' hP;obtain ⟨r,code,K',T',q',rfl,O,hk',hu',hs'⟩:=hP.ex;have hK':KerAt w' b K' (q'.all b):=⟨T',q',hk',rfl⟩;refine ⟨r,code,K',_,rfl,O.agr hm hk hu hK'.ok hK'.uni (binT_ok (by rw [hfn];exact hn)).1 ((binT_ok (by rw [hfn];exact hn)).2.trans hfn) (fun y=>?_) hl,hK',hu',hs'⟩
 rw [binT_fn (hgn.trans hfn.symm),<- hf.2,<- hg.2];rfl
structure ConstP (b:Nat) (K:KV) (F:List Nat) (M:MV) (s:Bool) (w:World) (e:Ending) (w':World):Prop where
 ex:∃ (K':KV) (F':List Nat),e=.returned (.tuple #[.int .u32 (if s then 1 else 0:Nat),.int .i64 0])/\KerAt w' b K' F'/\KM K' { M with trail:=[] }/\K.Ext K'/\(∀ x,K'.hold x=K.hold x)/\Upd F w w'/\Sub F w F'
theorem keepC (b r:Nat) (K:KV) (F:List Nat) (M:MV) (w:World) (h:KerAt w b K F) (hm:KM K M) (hr:r<2) :
  Calls Tryz.prog 69 #[.pointer (some ⟨b,0,none⟩),.int .u32 r] w fun e w'=>∃ (K':KV) (F':List Nat),e=.returned (.int .i64 0)/\KerAt w' b K' F'/\KM K' { M with trail:=[] }/\K.Ext K'/\(∀ x,K'.hold x=K.hold x)/\Upd F w w'/\Sub F w F':=by
 obtain ⟨T,q,hk,rfl⟩:=h;have ht:=hk.ok.tk_const hr;refine (keep_any b r K T q w hk (by omega) ht).mono ?_;rintro e w' ⟨code,K',q',rfl,hc,hk',hu,hs⟩
 rcases hc with ⟨rfl,h1,_⟩ | ⟨rfl,_,rfl⟩
 ·have:=(hk.ok.wf.ht r (by omega)).1;omega
 ·have e0:K.keepK r={ K with trail:=[] }:=by unfold KV.keepK;rw [if_neg (by omega)]
  have ex:K.Ext (K.keepK r):=by rw [e0];exact KV.Ext.trail K []
  have hd:∀ x,(K.keepK r).hold x=K.hold x:=fun x=>by rw [e0];rfl
  exact ⟨_,_,rfl,⟨T,q',hk',rfl⟩,⟨(hm.agr.same_kernel hk.ok ex hd).retrail [],hm.fit.retrail [],by rw [KV.keepK_trail],MV.TrFit.nil rfl⟩,ex,hd,hu,fun k hk=>.inl (hs k hk)⟩
theorem const_km (b:Nat) (s:Bool) (K:KV) (F:List Nat) (M:MV) (w:World) (h:KerAt w b K F) (hm:KM K M) :
  Calls Tryz.prog 109 #[.pointer (some ⟨b,0,none⟩),.bool s] w fun e w'=>ConstP b K F M s w e w':=by
 have H0:=Lib.hid (keepC b 0 K F M w h hm (by omega));have H1:=Lib.hid (keepC b 1 K F M w h hm (by omega));clear h hm
 cases s with
 | true =>
  go_enter Tryz.func109,Tryz.ntmps109
  go_wp2_with fail;refine H1.out.mono ?_;rintro e w1 ⟨K',F',rfl,h⟩;have HH:=Lib.hid h;clear h;go_wp2_with fail;go_ret2;exact ⟨K',F',rfl,HH.out⟩
 | false =>
  go_enter Tryz.func109,Tryz.ntmps109
  go_wp2_with fail;refine H0.out.mono ?_;rintro e w1 ⟨K',F',rfl,h⟩;have HH:=Lib.hid h;clear h;go_wp2_with fail;go_ret2;exact ⟨K',F',rfl,HH.out⟩
structure FoldV where
 M:MV
 a:TV
 e:Int
def foldM (op:Nat):MV->TV->List TV->FoldV
 | M,a,[]=>⟨M,a,0⟩
 | M,a,t::l=>if M.ansE (binT op a t)=0 then foldM op ((M.ans (binT op a t)).rel a) (binT op a t) l else ⟨M.rel a,a,M.ansE (binT op a t)⟩
theorem MV.trail_nil {M:MV} (h:M.trail=[]):{ M with trail:=[] }=M:=by cases M;simp at h;subst h;rfl
theorem MV.ans_trail {M:MV} (h:M.trail=[]) (t:TV):(M.ans t).trail=[]:=by
 unfold MV.ans;split
 ·rfl
 ·exact h
structure FoldS (w0:World) (b op:Nat) (K0:KV) (F0:List Nat) (M0:MV) (tabs:List TV) (s:Bool) (i:Nat) (r:Nat) (e:Int) (w:World):Prop where
  ex:∃ (K:KV) (F:List Nat) (M:MV) (a:TV),KerAt w b K F∧KM K M∧M.trail=[]∧K0.Ext K∧Upd F0 w0 w∧Sub F0 w0 F ∧
    ((e=0∧foldM op { M0 with trail:=[] } (constT K0.vars s) tabs=foldM op M a (tabs.drop i)∧Names K r a∧a.Ok∧a.n=K0.vars∧∀ x,K.hold x=K0.hold x + if x=r∧2≤r then 1 else 0) ∨
     (e≠0∧foldM op { M0 with trail:=[] } (constT K0.vars s) tabs=⟨M,a,e⟩∧r=0∧∀ x,K.hold x=K0.hold x))
theorem held_bound {K K0:KV} {M M0:MV} (h:KM K M) (h0:KM K0 M0) (hk:K.Ok) (hk0:K0.Ok) (hu:K.Uni) (hu0:K0.Uni) {r:Nat} (hd:∀ x,K.hold x=K0.hold x+if x=r/\2<=r then 1 else 0):M.held.length<=M0.held.length+1:=by
 rw [<- h.agr.roots_len hk hu h.n16,<- h0.agr.roots_len hk0 hu0 h0.n16]
 have:K.roots.length<=(r::K0.roots).length:=List.Nodup.length_le_of_subset K.roots_nodup fun x hx=>by
  have hx:=KV.mem_roots.1 hx
  by_cases e:x=r
  ·rw [e];exact List.mem_cons_self ..
  ·refine List.mem_cons_of_mem _ (KV.mem_roots.2 ?_)
   rw [hd,if_neg (fun k=>e k.1)] at hx;omega
 simpa using this
structure FoldP (b op:Nat) (K0:KV) (F0:List Nat) (M0:MV) (tabs:List TV) (s:Bool) (w0:World) (en:Ending) (w:World):Prop where
 ex:∃ (r:Nat) (e:Int),en=.returned (.tuple #[.int .u32 r,.int .i64 e])/\FoldS w0 b op K0 F0 M0 tabs s tabs.length r e w
theorem FoldS.stop {w0 w:World} {b op:Nat} {K0:KV} {F0:List Nat} {M0:MV} {tabs:List TV} {s:Bool} {i j r:Nat} {e:Int} (h:FoldS w0 b op K0 F0 M0 tabs s i r e w) (he:e≠0):FoldS w0 b op K0 F0 M0 tabs s j 0 e w:=by
 obtain ⟨K,F,M,a,h1,h2,h3,h4,h5,h6,h7⟩:=h.ex
 rcases h7 with ⟨h0,_⟩ | ⟨a1,a2,_,a4⟩
 ·exact absurd h0 he
 ·exact ⟨K,F,M,a,h1,h2,h3,h4,h5,h6,.inr ⟨a1,a2,rfl,a4⟩⟩
structure FStep (w0:World) (b op:Nat) (K0:KV) (F0:List Nat) (M0:MV) (tabs:List TV) (s:Bool) (i r:Nat) (w:World) (e1:Ending) (w1:World):Prop where
 ex:∃ (r1:Nat) (code:Int),e1=.returned (.tuple #[.int .u32 r1,.int .i64 code]) /\
  Calls Tryz.prog 147 #[.pointer (some ⟨b,0,none⟩),.int .u32 r] w1 fun e2 w2=>e2=.returned (.int .i64 0)/\FoldS w0 b op K0 F0 M0 tabs s (i+1) r1 code w2
theorem FoldS.step {w0 w:World} {b op:Nat} {K0:KV} {F0:List Nat} {M0:MV} {tabs:List TV} {s:Bool} {i r f:Nat} {t:TV} (h:FoldS w0 b op K0 F0 M0 tabs s i r 0 w) (ho:op<=15) (h0:KerAt w0 b K0 F0) (hm0:KM K0 M0) (hl:M0.held.length+2<=65536)
  (ht:tabs[i]?=some t) (hf:Names K0 f t) (htn:t.n=K0.vars) :
  Calls Tryz.prog 112 #[.pointer (some ⟨b,0,none⟩),.int .u8 op,.int .u32 r,.int .u32 f] w fun e w'=>FStep w0 b op K0 F0 M0 tabs s i r w e w':=by
 obtain ⟨K,F,M,a,h1,h2,h3,h4,h5,h6,h7⟩:=h.ex
 have h8:=h7.resolve_right fun h=>h.1 rfl
 obtain ⟨_,hfo,hra,hao,han,hd⟩:=h8;clear h7;have hk:=h1.ok;have hu:=h1.uni;have hk0:=h0.ok;have hvr:=h4.vr;have hb:=held_bound h2 hm0 hk hk0 hu h0.uni hd;refine (binary_km b op r f K F M a t w h1 h2 ho hra (hf.ext hk0 h4) (han.trans hvr.symm) (htn.trans hvr.symm) (by omega)).mono ?_;rintro e1 w1 hP;obtain ⟨r1,code,K1,F1,rfl,O,k1,u1,s1⟩:=hP.ex;refine ⟨r1,code,rfl,?_⟩;have hk1:=k1.ok;have hr1:Names K1 r a:=hra.ext hk O.ext
 have hrh:2<=r->0<K.hold r:=fun h2=>by rw [hd,if_pos ⟨rfl,h2⟩];omega
 have hr32:r<=4294967295:=by have:=hk.ref_lt hra.1;omega
 have hdrop:tabs.drop i=t::tabs.drop (i+1):=by
  obtain ⟨hi,hv⟩:=List.getElem?_eq_some_iff.1 ht;rw [List.drop_eq_getElem_cons hi,hv]
 have hvr1:K1.vars=K0.vars:=O.ext.vr.trans hvr
 by_cases hc:code=0
 ·obtain ⟨y1,y2,y3⟩:=O.yes hc
  have hh1:2<=r->0<K1.hold r:=fun h2=>by have:=hrh h2;rw [y3];omega
  refine (drop_at b r K1 F1 w1 k1 hr32 hh1).mono ?_;rintro e2 w2 ⟨K2,F2,rfl,D,k2,u2,s2⟩;refine ⟨rfl,K2,F2,(M.ans (binT op a t)).rel a,binT op a t,k2,?_,?_,?_,?_,?_,.inl ⟨hc,?_,?_,?_,?_,?_⟩⟩
  ·have:=y2.drop hk1 k1.uni k2.ok hao (han.trans hvr1.symm) hr1 hh1 D
   rwa [MV.trail_nil (by rw [(MV.rel_same _ _).2.2.2.1];exact MV.ans_trail h3 _)] at this
  ·rw [(MV.rel_same _ _).2.2.2.1];exact MV.ans_trail h3 _
  ·refine ext_back hk0 k2.ok (h4.trans O.ext) D.ext fun x hx=>?_
   rw [D.hd,y3,hd]
   (repeat' split) <;> omega
  ·exact (h5.then u1 h6).then u2 fun x hx=>by
    rcases s1 x hx with h | h
    ·exact h6 x h
    ·right;have:=h5.size;omega
  ·intro x hx
   have z1:=h5.size;have z2:=u1.size
   rcases s2 x hx with h | h
   ·rcases s1 x h with h | h
    ·exact h6 x h
    ·right;omega
   ·right;omega
  ·rw [hfo,hdrop]
   have hE:M.ansE (binT op a t)=0:=by rw [<- O.ce];exact hc
   show (if M.ansE (binT op a t)=0 then _ else _)=_
   rw [if_pos hE]
  ·have htk2:K2.A.tk r1=true:=by
    by_cases h2:2<=r1
    ·refine (k2.ok.wf.ht r1 ?_).2
     rw [D.hd,y3,hd]
     simp only [h2,and_true,if_true]
     (repeat' split) <;> omega
    ·exact k2.ok.tk_const (by omega)
   exact ⟨htk2,fun y=>by rw [<- D.ext.den k2.ok.wf y htk2];exact y1.2 y⟩
  ·exact (binT_ok (by rw [han,<- hvr];exact h2.n16)).1
  ·exact (binT_ok (by rw [han,<- hvr];exact h2.n16)).2.trans han
  ·intro x
   rw [D.hd,y3,hd]
   (repeat' split) <;> omega
 ·obtain ⟨rfl,n2,n3⟩:=O.no hc
  have hKM:KM K1 M:=by
   rcases n3 with h | ⟨_,h⟩
   ·exact h
   ·rwa [MV.trail_nil h3] at h
  have hh1:2<=r->0<K1.hold r:=fun h2=>by have:=hrh h2;rw [n2];exact this
  refine (drop_at b r K1 F1 w1 k1 hr32 hh1).mono ?_;rintro e2 w2 ⟨K2,F2,rfl,D,k2,u2,s2⟩;refine ⟨rfl,K2,F2,M.rel a,a,k2,?_,?_,?_,?_,?_,.inr ⟨hc,?_,rfl,?_⟩⟩
  ·have:=hKM.drop hk1 k1.uni k2.ok hao (han.trans hvr1.symm) hr1 hh1 D
   rwa [MV.trail_nil (by rw [(MV.rel_same _ _).2.2.2.1];exact h3)] at this
  ·rw [(MV.rel_same _ _).2.2.2.1];exact h3
  ·refine ext_back hk0 k2.ok (h4.trans O.ext) D.ext fun x hx=>?_
   rw [D.hd,n2,hd]
   (repeat' split) <;> omega
  ·exact (h5.then u1 h6).then u2 fun x hx=>by
    rcases s1 x hx with h | h
    ·exact h6 x h
    ·right;have:=h5.size;omega
  ·intro x hx
   have z1:=h5.size;have z2:=u1.size
   rcases s2 x hx with h | h
   ·rcases s1 x h with h | h
    ·exact h6 x h
    ·right;omega
   ·right;omega
  ·rw [hfo,hdrop]
   have hE:¬ M.ansE (binT op a t)=0:=by rw [<- O.ce];exact hc
   show (if M.ansE (binT op a t)=0 then _ else _)=_
   rw [if_neg hE,<- O.ce]
  ·intro x
   rw [D.hd,n2,hd]
   (repeat' split) <;> omega
end Go.Proofs.YtpfafhmkbcahhaaGreat
