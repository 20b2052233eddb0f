import Derived.Test.YtfkopmhpppeheaaGreatPN9
import Derived.Defers
set_option maxRecDepth 100000
set_option maxHeartbeats 3200000
namespace Go.Proofs.YtfkopmhpppeheaaGreat
open Go.RowKit Go.Maps Go.ChangeMaps Go.WideShapes
structure kE (w0:World) (bl bh l0 l1 l2 u0 u1 u2:Nat) (wr:World):Prop where
 up:af [] w0 wr
 lo:wr.heap[bl]?=some (.cells #[.int .u32 l0,.int .u32 l1,.int .u32 l2] 228 (0,0))
 hi:wr.heap[bh]?=some (.cells #[.int .u32 u0,.int .u32 u1,.int .u32 u2] 228 (0,0))
 ne:bl≠bh
 lb:w0.heap.size<=bl/\w0.heap.size<=bh
theorem kE.start (w:World) (f g h:Nat):kE w (w.heap.size+1) w.heap.size f g h f g h ((w.alloc (.cells #[.int .u32 f,.int .u32 g,.int .u32 h] 228 (0,0))).alloc (.cells #[.int .u32 f,.int .u32 g,.int .u32 h] 228 (0,0))).drew:=by
 have e1:=heap_alloc_new w (.cells #[.int .u32 f,.int .u32 g,.int .u32 h] 228 (0,0));have e2:=heap_alloc_new (w.alloc (.cells #[.int .u32 f,.int .u32 g,.int .u32 h] 228 (0,0))) (.cells #[.int .u32 f,.int .u32 g,.int .u32 h] 228 (0,0));rw [World.size_alloc] at e2;exact ⟨(((af.refl [] w).alloc _).alloc _).drew,e2,(heap_alloc_old _ _ (ah e1)).trans e1,by omega,by omega,by omega⟩
theorem kE.swap {w:World} {bl bh l0 l1 l2:Nat} {wr:World} (h:kE w bl bh l0 l1 l2 l0 l1 l2 wr):kE w bh bl l0 l1 l2 l0 l1 l2 wr:=⟨h.up,h.hi,h.lo,Ne.symm h.ne,h.lb.2,h.lb.1⟩
theorem kE.skip {w:World} {bl bh l0 l1 l2 u0 u1 u2:Nat} {wr:World} (h:kE w bl bh l0 l1 l2 u0 u1 u2 wr) (o:Obj):kE w bl bh l0 l1 l2 u0 u1 u2 (wr.alloc o) :=
 ⟨h.up.alloc o,(heap_alloc_old _ _ (ah h.lo)).trans h.lo,(heap_alloc_old _ _ (ah h.hi)).trans h.hi,h.ne,h.lb⟩
theorem kE.cells {w:World} {bl bh l0 l1 l2 u0 u1 u2:Nat} {wr:World} (h:kE w bl bh l0 l1 l2 u0 u1 u2 wr) :
  (wr.cell? ⟨bl,0,none⟩=some (.int .u32 l0)/\wr.cell? ⟨bl,1,none⟩=some (.int .u32 l1)/\wr.cell? ⟨bl,2,none⟩=some (.int .u32 l2))/\(wr.cell? ⟨bh,0,none⟩=some (.int .u32 u0)/\wr.cell? ⟨bh,1,none⟩=some (.int .u32 u1)/\wr.cell? ⟨bh,2,none⟩=some (.int .u32 u2)) /\
  (∀ j,wr.frozen? ⟨bl,j,none⟩=false)/\(∀ j,wr.frozen? ⟨bh,j,none⟩=false) :=
 ⟨⟨ae h.lo rfl,ae h.lo rfl,ae h.lo rfl⟩,⟨ae h.hi rfl,ae h.hi rfl,ae h.hi rfl⟩,fun j=>ax j h.lo,fun j=>ax j h.hi⟩
theorem kE.set0 {w:World} {bl bh l0 l1 l2 u0 u1 u2:Nat} {wr:World} (h:kE w bl bh l0 l1 l2 u0 u1 u2 wr) (x y:Nat):kE w bl bh x l1 l2 y u1 u2 ((wr.setCell ⟨bl,0,none⟩ (.int .u32 x)).setCell ⟨bh,0,none⟩ (.int .u32 y)):=by
 refine ⟨(h.up.setCell (p:=⟨bl,0,none⟩) (.inr h.lb.1) _).setCell (p:=⟨bh,0,none⟩) (.inr h.lb.2) _,?_,?_,h.ne,h.lb⟩
 ·rw [aG h.ne,aB h.lo];rfl
 ·have e:(wr.setCell ⟨bl,0,none⟩ (.int .u32 x)).heap[bh]?=wr.heap[bh]?:=aG (Ne.symm h.ne)
  rw [aB (e.trans h.hi)];rfl
theorem kE.set1 {w:World} {bl bh l0 l1 l2 u0 u1 u2:Nat} {wr:World} (h:kE w bl bh l0 l1 l2 u0 u1 u2 wr) (x y:Nat):kE w bl bh l0 x l2 u0 y u2 ((wr.setCell ⟨bl,1,none⟩ (.int .u32 x)).setCell ⟨bh,1,none⟩ (.int .u32 y)):=by
 refine ⟨(h.up.setCell (p:=⟨bl,1,none⟩) (.inr h.lb.1) _).setCell (p:=⟨bh,1,none⟩) (.inr h.lb.2) _,?_,?_,h.ne,h.lb⟩
 ·rw [aG h.ne,aB h.lo];rfl
 ·have e:(wr.setCell ⟨bl,1,none⟩ (.int .u32 x)).heap[bh]?=wr.heap[bh]?:=aG (Ne.symm h.ne)
  rw [aB (e.trans h.hi)];rfl
theorem kE.set2 {w:World} {bl bh l0 l1 l2 u0 u1 u2:Nat} {wr:World} (h:kE w bl bh l0 l1 l2 u0 u1 u2 wr) (x y:Nat):kE w bl bh l0 l1 x u0 u1 y ((wr.setCell ⟨bl,2,none⟩ (.int .u32 x)).setCell ⟨bh,2,none⟩ (.int .u32 y)):=by
 refine ⟨(h.up.setCell (p:=⟨bl,2,none⟩) (.inr h.lb.1) _).setCell (p:=⟨bh,2,none⟩) (.inr h.lb.2) _,?_,?_,h.ne,h.lb⟩
 ·rw [aG h.ne,aB h.lo];rfl
 ·have e:(wr.setCell ⟨bl,2,none⟩ (.int .u32 x)).heap[bh]?=wr.heap[bh]?:=aG (Ne.symm h.ne)
  rw [aB (e.trans h.hi)];rfl
theorem kE.draw {w:World} {bl bh l0 l1 l2 u0 u1 u2:Nat} {wr:World} (h:kE w bl bh l0 l1 l2 u0 u1 u2 wr):kE w bl bh l0 l1 l2 u0 u1 u2 wr.drew:=⟨h.up.drew,h.lo,h.hi,h.ne,h.lb⟩
theorem XN (K0:KV) (t:(Nat->Bool)->Bool) (wb b ck cw cl cg mb fl:Nat) (caps:Array Value) (FL:List Nat) (L:Bool->Bool->Bool->Bool) (lvv:Value) (n:Nat)
  (f g h:Nat) (K:KV) (T:List DM) (q:aA) (M:List Nat) (mv:Value) (D:DM) (w:World) (hR:qE w wb b ck cw cl cg mb fl caps FL L K T q M lvv mv D) (hA:pM K f g h) (hS:yA K0 (K0.jv t) M K) (hK:iD K0 L M K D) (hQ:ve K L t f g h) (hh:Maps.has D (qk f g h)=false)
  (p0 p1 p2:ak) (a0:K.A.list[f]?=some p0/\p0.taken=true) (a1:K.A.list[g]?=some p1/\p1.taken=true) (a2:K.A.list[h]?=some p2/\p2.taken=true) (Tq:K.top [p0,p1,p2]=(n:Int)) (hn:n<K.vars) (hd:K.iU f g h=K.lev n)
  (hv:∀ p,p∈[p0,p1,p2]->p.var=-1\/∃ k:Nat,p.var=(k:Int)/\k<K.vars/\K.lev n<=K.lev k) (IH:OD K0 t wb b ck cw cl cg mb fl caps FL L lvv (K0.lev n+1)) (I4:Enters 212) :
  Calls Tryz.prog 212 #[.agg #[.int .u32 f,.int .u32 g,.int .u32 h],.pointer (some ⟨ck,0,none⟩),.pointer (some ⟨cw,0,none⟩),.pointer (some ⟨cl,0,none⟩),.pointer (some ⟨cg,0,none⟩)] w fun e w' =>
   ∃ (r:Nat) (code:Int),e=.returned (.tuple #[.int .u32 r,.int .i64 code])/\GoP K0 (K0.jv t) f g h wb b ck cw cl cg mb fl caps FL L K q M lvv mv w r code w':=by
 have dJ:=hR.wk.ker.ok;have b0:=dJ.bZ hA.t0;have b1:=dJ.bZ hA.t1;have b2:=dJ.bZ hA.t2;have zx:=dJ.wf.vs
 have hv2:∀ p,p∈[p0,p1,p2]->p.var=-1\/∃ k:Nat,p.var=(k:Int)/\K.lev n<=K.lev k:=fun p hp=>(hv p hp).imp_right fun ⟨k,h1,_,h2⟩=>⟨k,h1,h2⟩
 have Ld:=Lib.hid (Fp dJ L a0 a1 a2 hn hv2 false);have Af:=Lib.hid (Fp dJ L a0 a1 a2 hn hv2 true);have HP:=Lib.hid (And.intro a0 (And.intro a1 (And.intro a2 Tq)))
 have HV:Hid (∀ p,p∈[p0,p1,p2]->K.rD p.var):=fun p hp=>(hv p hp).imp_right fun ⟨k,h1,h3,_⟩=>⟨k,h1,h3⟩
 have HS:=Lib.hid (And.intro hS (And.intro hK (And.intro hQ (And.intro hA (And.intro hd dJ)))));have XO:=Lib.hid IH;have HEN:Hid (∀ (args:Array Value) (w:World),(callFunc 212 args).run Tryz.prog w=.ok (.enter 212 args) w):=I4;have HLT:Hid (∀ k,k∈oU mb wb b q lvv mv->k<w.heap.size):=hR.lt;have aY:=heap_alloc_new w (.cells #[.int .u32 f,.int .u32 g,.int .u32 h] 228 (0,0));have x0:(w.alloc (.cells #[.int .u32 f,.int .u32 g,.int .u32 h] 228 (0,0))).cell? ⟨w.heap.size,0,none⟩=some (.int .u32 f):=ae aY rfl;have x1:(w.alloc (.cells #[.int .u32 f,.int .u32 g,.int .u32 h] 228 (0,0))).cell? ⟨w.heap.size,1,none⟩=some (.int .u32 g):=ae aY rfl;have x2:(w.alloc (.cells #[.int .u32 f,.int .u32 g,.int .u32 h] 228 (0,0))).cell? ⟨w.heap.size,2,none⟩=some (.int .u32 h):=ae aY rfl;have pO:=Lib.hid aY;have Lh:=hR.keep ((af.refl [] w).alloc (.cells #[.int .u32 f,.int .u32 g,.int .u32 h] 228 (0,0)));obtain ⟨y0,y1,y2,y3⟩:=Lh.cells;obtain ⟨x,ps,gW,hx⟩:=Lh.map.look_ok kM Tryz.underlying280 (qF _) (plainElem_int (H:=Unit) Tryz.underlying77 (jw (n:=0) (by omega))) (Fq (f:=f) (g:=g) (h:=h) (by omega) (by omega) (by omega));obtain ⟨c,rfl,bI,SA⟩:=plainElem_int_inv Tryz.underlying77 hx;rw [hh] at gW;have HR1:=Lib.hid Lh;clear hR hA hS hK hQ hh dJ aY Lh hx bI SA a0 a1 a2 Tq hv hv2 IH hd I4
 go_enter Tryz.func212,Tryz.ntmps212
 go_wp2_with fail;refine (zy wb b f g h K T q M lvv mv p0 p1 p2 _ HR1.out.wk ⟨HP.out.1.1,HP.out.1.2,by omega⟩ ⟨HP.out.2.1.1,HP.out.2.1.2,by omega⟩ ⟨HP.out.2.2.1.1,HP.out.2.2.1.2,by omega⟩).mono ?_;rintro e w1 ⟨v,rfl,hN⟩;obtain ⟨fa,fc,rfl,_⟩:=aj hN.row;have HN:=Lib.hid hN;have Fv:=Lib.hid (HR1.out.keep hN.up);clear hN y0 y1 y2 y3 gW x0 x1 x2;obtain ⟨y0,y1,y2,y3⟩:=Fv.out.cells;go_wp2_with fail;refine (Fz wb b K T q M lvv mv _ _ [p0,p1,p2] _ Fv.out.wk HN.out.row HV.out (by simp)).mono ?_;rintro e w2 ⟨rfl,hu⟩;rw [HP.out.2.2.2];have eF:=Lib.hid (HN.out.up.trans hu);have HR3:=Lib.hid (Fv.out.keep hu);have bF:=Lib.hid (ai HN.out.row fun k hk=>hu.block k (HN.out.row.lt k hk).2 (by simp));have Bz:w2.heap[w.heap.size]?=some (.cells #[.int .u32 f,.int .u32 g,.int .u32 h] 228 (0,0)):=(eF.out.block _ (ah pO.out) (by simp)).trans pO.out;have x0:w2.cell? ⟨w.heap.size,0,none⟩=some (.int .u32 f):=ae Bz rfl;have x1:w2.cell? ⟨w.heap.size,1,none⟩=some (.int .u32 g):=ae Bz rfl;have x2:w2.cell? ⟨w.heap.size,2,none⟩=some (.int .u32 h):=ae Bz rfl;have abA:=Lib.hid Bz;have BB:=ah Bz;clear hu y0 y1 y2 y3 Bz;go_wp2_with fail
 go_region
 focus (
  have HAR:=Lib.hid (kE.start w2 f g h).swap;generalize w2.heap.size+1=bh at HAR
  generalize w2.heap.size=bl at HAR)
 rotate_left
 focus (
  have HAR:=Lib.hid (kE.start w2 f g h);generalize w2.heap.size+1=bl at HAR
  generalize w2.heap.size=bh at HAR)
 all_goals (
  generalize ((w2.alloc (.cells #[.int .u32 f,.int .u32 g,.int .u32 h] 228 (0,0))).alloc (.cells #[.int .u32 f,.int .u32 g,.int .u32 h] 228 (0,0))).drew=W at HAR;clear x0 x1 x2 BB;go_wp2_with fail
  go_loopg [51] 3 (fun gg s51 wr=>(gg=3/\s51=.int .i64 0/\kE w2 bl bh f g h f g h wr)\/(gg=2/\s51=.int .i64 1/\kE w2 bl bh (eP n p0 f false) g h (eP n p0 f true) g h wr)\/(gg=1/\s51=.int .i64 2/\kE w2 bl bh (eP n p0 f false) (eP n p1 g false) h (eP n p0 f true) (eP n p1 g true) h wr)\/(gg=0/\s51=.int .i64 3/\kE w2 bl bh (eP n p0 f false) (eP n p1 g false) (eP n p2 h false) (eP n p0 f true) (eP n p1 g true) (eP n p2 h true) wr))
  case atStart=>exact .inl ⟨rfl,rfl,HAR.out⟩
  case round =>
   obtain ⟨gr,rfl⟩:=bC bF.out (by simp)
   rcases hrel with ⟨rfl,rfl,hE⟩ | ⟨rfl,rfl,hE⟩ | ⟨rfl,rfl,hE⟩ | ⟨rfl,rfl,hE⟩
   ·have HE:=Lib.hid hE
    obtain ⟨⟨l0,l1,l2⟩,⟨u0,u1,u2⟩,ZN,ZO⟩:=hE.cells
    have hr:=ai bF.out fun k hk=>hE.up.block k (bF.out.lt k hk).2 (by simp)
    have d0:wr.cell? ⟨gr,0,none⟩=some (.int .i64 p0.var):=au hr rfl;have d1:wr.cell? ⟨gr,1,none⟩=some (.int .u32 p0.lo):=au hr rfl;have d2:wr.cell? ⟨gr,2,none⟩=some (.int .u32 p0.hi):=au hr rfl;have aY:=heap_alloc_new wr (.cells #[.int .i64 p0.var,.int .u32 p0.lo,.int .u32 p0.hi] 116 (0,0));have z0:(wr.alloc (.cells #[.int .i64 p0.var,.int .u32 p0.lo,.int .u32 p0.hi] 116 (0,0))).cell? ⟨wr.heap.size,0,none⟩=some (.int .i64 p0.var):=ae aY rfl;have z1:(wr.alloc (.cells #[.int .i64 p0.var,.int .u32 p0.lo,.int .u32 p0.hi] 116 (0,0))).cell? ⟨wr.heap.size,1,none⟩=some (.int .u32 p0.lo):=ae aY rfl;have z2:(wr.alloc (.cells #[.int .i64 p0.var,.int .u32 p0.lo,.int .u32 p0.hi] 116 (0,0))).cell? ⟨wr.heap.size,2,none⟩=some (.int .u32 p0.hi):=ae aY rfl;have k0:=ah hE.lo;have k1:=ah hE.hi;have kne:=hE.ne;have ZP:=Lib.hid (hE.skip (.cells #[.int .i64 p0.var,.int .u32 p0.lo,.int .u32 p0.hi] 116 (0,0)));obtain ⟨⟨m0,m1,m2⟩,⟨v0,v1,v2⟩,ml0,mh0⟩:=ZP.out.cells;clear hE hr aY
    cases LU:(p0.var == (n:Int)) with
    | true =>
     have HF:Hid (eP n p0 f false=p0.lo/\eP n p0 f true=p0.hi):=by
      have e:p0.var=(n:Int):=by simpa using LU
      exact ⟨by unfold eP;rw [if_pos e];rfl,by unfold eP;rw [if_pos e];rfl⟩
     have mlf:=ZN 0;have mhf:=ZO 0;clear ml0 mh0 ZN ZO;go_wp2_with fail
     go_region
     go_wp2_with fail
     go_roundg (2:Nat)
     case measure=>decide
     case rel=>exact .inr (.inl ⟨rfl,rfl,by rw [HF.out.1,HF.out.2];exact ((HE.out.set0 _ _).skip _).draw⟩)
    | false =>
     have HF:Hid (eP n p0 f false=f/\eP n p0 f true=f):=by
      have e:¬ p0.var=(n:Int):=by simpa using LU
      exact ⟨by unfold eP;rw [if_neg e],by unfold eP;rw [if_neg e]⟩
     have aev:¬ p0.var=(n:Int):=by simpa using LU
     go_wp2_with fail
     go_roundg (2:Nat)
     case measure=>decide
     case rel=>exact .inr (.inl ⟨rfl,rfl,by rw [HF.out.1,HF.out.2];exact ZP.out⟩)
   ·have HE:=Lib.hid hE
    obtain ⟨⟨l0,l1,l2⟩,⟨u0,u1,u2⟩,ZN,ZO⟩:=hE.cells
    have hr:=ai bF.out fun k hk=>hE.up.block k (bF.out.lt k hk).2 (by simp)
    have d0:wr.cell? ⟨gr,3,none⟩=some (.int .i64 p1.var):=au hr rfl;have d1:wr.cell? ⟨gr,4,none⟩=some (.int .u32 p1.lo):=au hr rfl;have d2:wr.cell? ⟨gr,5,none⟩=some (.int .u32 p1.hi):=au hr rfl;have aY:=heap_alloc_new wr (.cells #[.int .i64 p1.var,.int .u32 p1.lo,.int .u32 p1.hi] 116 (0,0));have z0:(wr.alloc (.cells #[.int .i64 p1.var,.int .u32 p1.lo,.int .u32 p1.hi] 116 (0,0))).cell? ⟨wr.heap.size,0,none⟩=some (.int .i64 p1.var):=ae aY rfl;have z1:(wr.alloc (.cells #[.int .i64 p1.var,.int .u32 p1.lo,.int .u32 p1.hi] 116 (0,0))).cell? ⟨wr.heap.size,1,none⟩=some (.int .u32 p1.lo):=ae aY rfl;have z2:(wr.alloc (.cells #[.int .i64 p1.var,.int .u32 p1.lo,.int .u32 p1.hi] 116 (0,0))).cell? ⟨wr.heap.size,2,none⟩=some (.int .u32 p1.hi):=ae aY rfl;have k0:=ah hE.lo;have k1:=ah hE.hi;have kne:=hE.ne;have ZP:=Lib.hid (hE.skip (.cells #[.int .i64 p1.var,.int .u32 p1.lo,.int .u32 p1.hi] 116 (0,0)));obtain ⟨⟨m0,m1,m2⟩,⟨v0,v1,v2⟩,ml0,mh0⟩:=ZP.out.cells;clear hE hr aY
    cases LU:(p1.var == (n:Int)) with
    | true =>
     have HF:Hid (eP n p1 g false=p1.lo/\eP n p1 g true=p1.hi):=by
      have e:p1.var=(n:Int):=by simpa using LU
      exact ⟨by unfold eP;rw [if_pos e];rfl,by unfold eP;rw [if_pos e];rfl⟩
     have mlf:=ZN 1;have mhf:=ZO 1;clear ml0 mh0 ZN ZO;go_wp2_with fail
     go_region
     go_wp2_with fail
     go_roundg (1:Nat)
     case measure=>decide
     case rel=>exact .inr (.inr (.inl ⟨rfl,rfl,by rw [HF.out.1,HF.out.2];exact ((HE.out.set1 _ _).skip _).draw⟩))
    | false =>
     have HF:Hid (eP n p1 g false=g/\eP n p1 g true=g):=by
      have e:¬ p1.var=(n:Int):=by simpa using LU
      exact ⟨by unfold eP;rw [if_neg e],by unfold eP;rw [if_neg e]⟩
     have aev:¬ p1.var=(n:Int):=by simpa using LU
     go_wp2_with fail
     go_roundg (1:Nat)
     case measure=>decide
     case rel=>exact .inr (.inr (.inl ⟨rfl,rfl,by rw [HF.out.1,HF.out.2];exact ZP.out⟩))
   ·have HE:=Lib.hid hE
    obtain ⟨⟨l0,l1,l2⟩,⟨u0,u1,u2⟩,ZN,ZO⟩:=hE.cells
    have hr:=ai bF.out fun k hk=>hE.up.block k (bF.out.lt k hk).2 (by simp)
    have d0:wr.cell? ⟨gr,6,none⟩=some (.int .i64 p2.var):=au hr rfl;have d1:wr.cell? ⟨gr,7,none⟩=some (.int .u32 p2.lo):=au hr rfl;have d2:wr.cell? ⟨gr,8,none⟩=some (.int .u32 p2.hi):=au hr rfl;have aY:=heap_alloc_new wr (.cells #[.int .i64 p2.var,.int .u32 p2.lo,.int .u32 p2.hi] 116 (0,0));have z0:(wr.alloc (.cells #[.int .i64 p2.var,.int .u32 p2.lo,.int .u32 p2.hi] 116 (0,0))).cell? ⟨wr.heap.size,0,none⟩=some (.int .i64 p2.var):=ae aY rfl;have z1:(wr.alloc (.cells #[.int .i64 p2.var,.int .u32 p2.lo,.int .u32 p2.hi] 116 (0,0))).cell? ⟨wr.heap.size,1,none⟩=some (.int .u32 p2.lo):=ae aY rfl;have z2:(wr.alloc (.cells #[.int .i64 p2.var,.int .u32 p2.lo,.int .u32 p2.hi] 116 (0,0))).cell? ⟨wr.heap.size,2,none⟩=some (.int .u32 p2.hi):=ae aY rfl;have k0:=ah hE.lo;have k1:=ah hE.hi;have kne:=hE.ne;have ZP:=Lib.hid (hE.skip (.cells #[.int .i64 p2.var,.int .u32 p2.lo,.int .u32 p2.hi] 116 (0,0)));obtain ⟨⟨m0,m1,m2⟩,⟨v0,v1,v2⟩,ml0,mh0⟩:=ZP.out.cells;clear hE hr aY
    cases LU:(p2.var == (n:Int)) with
    | true =>
     have HF:Hid (eP n p2 h false=p2.lo/\eP n p2 h true=p2.hi):=by
      have e:p2.var=(n:Int):=by simpa using LU
      exact ⟨by unfold eP;rw [if_pos e];rfl,by unfold eP;rw [if_pos e];rfl⟩
     have mlf:=ZN 2;have mhf:=ZO 2;clear ml0 mh0 ZN ZO;go_wp2_with fail
     go_region
     go_wp2_with fail
     go_roundg (0:Nat)
     case measure=>decide
     case rel=>exact .inr (.inr (.inr (⟨rfl,rfl,by rw [HF.out.1,HF.out.2];exact ((HE.out.set2 _ _).skip _).draw⟩)))
    | false =>
     have HF:Hid (eP n p2 h false=h/\eP n p2 h true=h):=by
      have e:¬ p2.var=(n:Int):=by simpa using LU
      exact ⟨by unfold eP;rw [if_neg e],by unfold eP;rw [if_neg e]⟩
     have aev:¬ p2.var=(n:Int):=by simpa using LU
     go_wp2_with fail
     go_roundg (0:Nat)
     case measure=>decide
     case rel=>exact .inr (.inr (.inr (⟨rfl,rfl,by rw [HF.out.1,HF.out.2];exact ZP.out⟩)))
   ·obtain ⟨⟨l0,l1,l2⟩,⟨u0,u1,u2⟩,_,_⟩:=hE.cells
    have HE:=Lib.hid hE;have ZQ:=Lib.hid (HR3.out.keep hE.up);obtain ⟨y0,y1,y2,y3⟩:=ZQ.out.cells;clear hE;generalize eP n p0 f false=f0 at Ld HE l0;generalize eP n p1 g false=g0 at Ld HE l1;generalize eP n p2 h false=h0 at Ld HE l2;generalize eP n p0 f true=f1 at Af HE u0;generalize eP n p1 g true=g1 at Af HE u1;generalize eP n p2 h true=h1 at Af HE u2;have HBQ:Hid (wr.heap[w.heap.size]?=some (.cells #[.int .u32 f,.int .u32 g,.int .u32 h] 228 (0,0))):=(HE.out.up.block _ (ah abA.out) (by simp)).trans abA.out;have I4:=HEN.out;have zA:=Lib.hid (XO.out f0 g0 h0 K T q M mv D wr ZQ.out Ld.out.ask (by have:=Ld.out.dep;rw [HS.out.1.ext.lev] at this;exact this) HS.out.1 HS.out.2.1 (HS.out.2.2.1.below HS.out.2.2.2.2.2 HS.out.2.2.2.1 hn HS.out.2.2.2.2.1.symm Ld.out));go_wp2_with fail;refine zA.out.mono ?_;rintro e w5 ⟨r1,Jk,rfl,⟨K1,M1,T1,q1,ZR,D1,S1,KO1,R5,U5,SB5⟩,Sv⟩
    have Eo:Jk=0\/Jk=9:=by
     rcases S1.ans with ⟨h,_⟩ | ⟨h,_⟩
     ·exact .inl h
     ·exact .inr h
    have ajo:w.heap.size<=wr.heap.size:=Nat.le_of_lt (ah HBQ.out);have OE:Hid (af [] w wr):=(((af.refl [] w).alloc _).trans (eF.out.trans HE.out.up))
    have aew:bh∉oU mb wb b q lvv mv:=fun hm=>by
     have h1:=HLT.out _ hm;have h2:=HE.out.lb.2;have h3:=ah abA.out;omega
    have aex:w.heap.size∉oU mb wb b q lvv mv:=fun hm=>by
     have h1:=HLT.out _ hm;omega
    have HI5:Hid (w5.heap[bh]?=some (.cells #[.int .u32 f1,.int .u32 g1,.int .u32 h1] 228 (0,0))):=(U5.block _ (ah HE.out.hi) aew).trans HE.out.hi;have Lj:Hid (w5.heap[w.heap.size]?=some (.cells #[.int .u32 f,.int .u32 g,.int .u32 h] 228 (0,0))):=(U5.block _ (ah HBQ.out) aex).trans HBQ.out;have u0:=ae (j:=0) HI5.out rfl;have u1:=ae (j:=1) HI5.out rfl;have u2:=ae (j:=2) HI5.out rfl;obtain ⟨y0,y1,y2,y3⟩:=R5.cells;have H5:=Lib.hid (And.intro S1 (And.intro KO1 (And.intro R5 (And.intro (OE.out.mono (by simp) |>.trans U5:af (oU mb wb b q lvv mv) w w5) (fun k hk=>(SB5 k hk).imp_right (Nat.le_trans ajo):Sub (oU mb wb b q lvv mv) w (oU mb wb b q1 lvv ZR))))));have ajq:=Lib.hid SB5;clear S1 KO1 R5 U5 SB5 l0 l1 l2 aew zA
    rcases Eo with rfl | rfl
    ·have I4:=HEN.out
     have zA:=Lib.hid (XO.out f1 g1 h1 K1 T1 q1 M1 ZR D1 w5 H5.out.2.2.1 (Af.out.ask.ext H5.out.1.ext)
      (by have:=(Af.out.ext HS.out.2.2.2.1 H5.out.1.ext HS.out.2.2.2.2.2.wf).dep;rw [H5.out.1.run.ext.lev] at this;exact this) H5.out.1.run H5.out.2.1
      ((HS.out.2.2.1.below HS.out.2.2.2.2.2 HS.out.2.2.2.1 hn HS.out.2.2.2.2.1.symm Af.out).ext Af.out.ask H5.out.1.ext HS.out.2.2.2.2.2.wf))
     go_wp2_with fail;refine zA.out.mono ?_;rintro e w6 ⟨r2,Tt,rfl,⟨K2,M2,T2,q2,mv2,D2,S2,KO2,R6,U6,SB6⟩,rQ⟩
     have BC:Tt=0\/Tt=9:=by
      rcases S2.ans with ⟨h,_⟩ | ⟨h,_⟩
      ·exact .inl h
      ·exact .inr h
     have ZT:w.heap.size∉oU mb wb b q1 lvv ZR:=fun hm=>by
      rcases ajq.out _ hm with h1 | h1
      ·exact aex h1
      ·have:=ah HBQ.out;omega
     have HQ6:Hid (w6.heap[w.heap.size]?=some (.cells #[.int .u32 f,.int .u32 g,.int .u32 h] 228 (0,0))):=(U6.block _ (ah Lj.out) ZT).trans Lj.out;have H6:=Lib.hid (And.intro S2 (And.intro KO2 (And.intro R6 (And.intro (H5.out.2.2.2.1.then U6 H5.out.2.2.2.2) (FB H5.out.2.2.2.2 SB6 H5.out.2.2.2.1.size)))));have ajs:=Lib.hid SB6;obtain ⟨y0,y1,y2,y3⟩:=R6.cells;clear S2 KO2 R6 U6 SB6 u0 u1 u2 zA
     rcases BC with rfl | rfl
     ·have HBO:=Lib.hid (P5 HS.out.2.2.2.2.2 H5.out.2.2.1.wk.ker.ok hn HS.out.2.2.2.1 Ld.out Af.out H5.out.1 H6.out.1)
      have Ep:=H6.out.1.run.len H6.out.2.2.1.wk.ker.ok;go_wp2_with fail;refine (LX wb b n r1 r2 K2 T2 q2 M2 lvv mv2 w6 H6.out.2.2.1.wk (by have:=Ep.1;omega) HBO.out.hn HBO.out.t1 HBO.out.t2 (fun _=>⟨HBO.out.l1,HBO.out.l2⟩) Sv rQ).mono ?_;rintro e w7 ⟨r,code,K3,M3,T3,q3,mv3,rfl,hN,hW,hU7,hS7⟩;have yB:=H6.out.2.2.1.wk.ker.ok;have hr:=hN.lt yB hW.ker.ok Sv
      have S3:=Tu HS.out.2.2.2.2.2 H5.out.2.2.1.wk.ker.ok yB hW.ker.ok (H6.out.2.2.1.wk.ker.ti.uni yB.wf) hn HS.out.2.2.2.2.1 HS.out.2.2.2.1 (by
       have:=HS.out.2.2.1.sub;obtain ⟨l,a,ee⟩:=this
       exact ⟨l,a,fun x=>by rw [ee,HS.out.1.ext.mix]⟩) Ld.out Af.out H5.out.1 H6.out.1 hN
      have KO3:=H6.out.2.1.ext (hN.ext yB).1 yB.wf (hN.ext yB).2;have R7:=H6.out.2.2.1.work hW hU7 hS7
      have FC:code=0\/code=9:=by
       rcases S3.ans with ⟨h,_⟩ | ⟨h,_⟩
       ·exact .inl h
       ·exact .inr h
      have U7:af (oU mb wb b q lvv mv) w w7:=H6.out.2.2.2.1.then (hU7.mono fun x hx=>List.mem_cons_of_mem mb hx:af (oU mb wb b q2 lvv mv2) w6 w7) H6.out.2.2.2.2
      have SB7:Sub (oU mb wb b q lvv mv) w (oU mb wb b q3 lvv mv3):=FB H6.out.2.2.2.2 (XQ hS7) H6.out.2.2.2.1.size
      have ZU:w.heap.size∉oU mb wb b q2 lvv mv2:=fun hm=>by
       rcases ajs.out _ hm with h1 | h1
       ·exact ZT h1
       ·have:=ah Lj.out;omega
      have hq7:w7.heap[w.heap.size]?=some (.cells #[.int .u32 f,.int .u32 g,.int .u32 h] 228 (0,0)):=(hU7.block _ (ah HQ6.out) (fun hm=>ZU (List.mem_cons_of_mem mb hm))).trans HQ6.out;have x0:=ae (j:=0) hq7 rfl;have x1:=ae (j:=1) hq7 rfl;have x2:=ae (j:=2) hq7 rfl;clear y0 y1 y2 y3;obtain ⟨y0,y1,y2,y3⟩:=R7.cells;have H7:=Lib.hid (And.intro S3 (And.intro KO3 (And.intro R7 (And.intro U7 SB7))));clear hN hW hU7 hS7 hq7 S3 KO3 R7 U7 SB7 ZU Ep yB
      rcases FC with rfl | rfl
      ·have E7:=HS.out.2.2.2.1.ext H7.out.1.ext
       have hG7:Good K0 L f g h M3 K3 r:=by
        rcases H7.out.1.ans with ⟨_,h⟩ | ⟨h,_⟩
        ·exact h
        ·omega
       have dG:=LY H7.out.2.1 (H7.out.2.2.1.map.canon kM) (H7.out.2.2.1.map.tidy kM);obtain ⟨w9,aez,aK,sN⟩:=H7.out.2.2.1.map.store kM Tryz.underlying280 dG (Fq (f:=f) (g:=g) (h:=h) (by omega) (by omega) (by omega)) (plainElem_int (H:=Unit) Tryz.underlying77 (jw hr));have KO8:=H7.out.2.1.put (f:=f) (g:=g) (k:=h) (by omega) (by omega) (by omega) E7.t0 E7.t1 E7.t2 hr hG7 H7.out.2.2.1.wk.ker.ok;have u9:=gG sN;have R8:=H7.out.2.2.1.known (dZ aK) u9
       have HE8:Hid (GoP K0 (K0.jv t) f g h wb b ck cw cl cg mb fl caps FL L K q M lvv mv w r 0 w9) :=
        ⟨⟨K3,M3,T3,q3,mv3,_,H7.out.1,KO8,R8,H7.out.2.2.2.1.then u9 (fun x hx=>by simp at hx;subst hx;exact .inl (by simp [oU])),H7.out.2.2.2.2⟩,hr⟩
       clear E7 hG7 dG aK sN KO8 u9 R8;go_wp2_with fail;go_ret2;exact ⟨r,0,rfl,HE8.out⟩
      ·go_wp2_with fail
       go_ret2;exact ⟨r,9,rfl,⟨K3,M3,T3,q3,mv3,D2,H7.out.1,H7.out.2.1,H7.out.2.2.1,H7.out.2.2.2.1,H7.out.2.2.2.2⟩,hr⟩
     ·go_wp2_with fail
      go_ret2;exact ⟨0,9,rfl,⟨K2,M2,T2,q2,mv2,D2,P6 H5.out.1 H6.out.1,H6.out.2.1,H6.out.2.2.1,H6.out.2.2.2.1,H6.out.2.2.2.2⟩,by omega⟩
    ·go_wp2_with fail
     go_ret2
     exact ⟨0,9,rfl,⟨K1,M1,T1,q1,ZR,D1,P7 H5.out.1,H5.out.2.1,H5.out.2.2.1,H5.out.2.2.2.1,H5.out.2.2.2.2⟩,by omega⟩)
theorem KV.OG {K:KV} (hk:K.Ok) {f g h:Nat} (hA:pM K f g h):K.iU f g h<=K.vars:=by
 have:=hk.wf.vH hk.ord hA.t0
 simp only [KV.iU];omega
theorem BD {K:KV} (hk:K.Ok) {f:Nat} {p:ak} (a:K.A.list[f]?=some p/\p.taken=true):K.rD p.var:=by
 by_cases h2:2<=f
 ·obtain ⟨p',v,jo,_,hv,gK,_⟩:=hk.wf.cZ h2 (ag.aP.2 ⟨p,a.1,a.2⟩)
  rw [a.1] at jo;cases jo
  exact .inr ⟨v,hv,gK⟩
 ·left
  match f,h2,a.1 with
  | 0,_,hp=>rw [hk.wf.ok.c0] at hp;cases hp;rfl
  | 1,_,hp=>rw [hk.wf.ok.c1] at hp;cases hp;rfl
  | f+2,h2,_=>omega
theorem vJ {K:KV} (hk:K.Ok) {f n:Nat} {p:ak} (a:K.A.list[f]?=some p/\p.taken=true) (hn:n<K.vars) (h:p.var=-1\/∃ k:Nat,p.var=(k:Int)/\K.lev n<=K.lev k):K.lev n<=K.dep f:=by
 have hln:=(hk.ord.pm.lo n hn).1
 rcases h with h | ⟨k,h,hl⟩
 ·have:=uB hk a h
  rw [hk.wf.dH this];omega
 ·simp [KV.dep,a.1,h];exact hl
theorem go_step (K0:KV) (t:(Nat->Bool)->Bool) (wb b ck cw cl cg mb fl:Nat) (caps:Array Value) (FL:List Nat) (L:Bool->Bool->Bool->Bool) (lvv:Value) (d:Nat) (Tm:Enters fl) (I4:Enters 212)
  (IH:OD K0 t wb b ck cw cl cg mb fl caps FL L lvv (d+1)):OD K0 t wb b ck cw cl cg mb fl caps FL L lvv d:=by
 intro f g h K T q M mv D w hR hA hd hS hK hQ
 by_cases aW:d+1<=K.iU f g h
 ·exact IH f g h K T q M mv D w hR hA aW hS hK hQ
 ·have hdd:K.iU f g h=d:=by omega
  have dJ:=hR.wk.ker.ok
  cases hh:Maps.has D (qk f g h) with
  | true=>exact Tv K0 t wb b ck cw cl cg mb fl caps FL L lvv f g h K T q M mv D w hR hA hS hK hh
  | false =>
   obtain ⟨p0,a0,a0'⟩:=ag.aP.1 hA.t0;obtain ⟨p1,a1,a1'⟩:=ag.aP.1 hA.t1;obtain ⟨p2,a2,a2'⟩:=ag.aP.1 hA.t2;have o0:=BD dJ ⟨a0,a0'⟩;have o1:=BD dJ ⟨a1,a1'⟩;have o2:=BD dJ ⟨a2,a2'⟩
   have ho:∀ p,p∈[p0,p1,p2]->K.rD p.var:=fun p hp=>by
    simp only [List.mem_cons,List.not_mem_nil,or_false] at hp
    rcases hp with rfl | rfl | rfl
    ·exact o0
    ·exact o1
    ·exact o2
   rcases Tz _ [p0,p1,p2] rfl ho with ⟨ht,hv⟩ | ⟨n,ht,hn,hp,hv⟩
   ·exact XR K0 t wb b ck cw cl cg mb fl caps FL L lvv f g h K T q M mv D w hR hA hS hK hh p0 p1 p2 ⟨a0,a0'⟩ ⟨a1,a1'⟩ ⟨a2,a2'⟩ ht hv Tm
   ·have h1:=TA (n:=n) a0 a1 a2 hp
    have h2:K.lev n<=K.iU f g h:=by
     have e0:=vJ dJ ⟨a0,a0'⟩ hn (hv p0 (by simp));have e1:=vJ dJ ⟨a1,a1'⟩ hn (hv p1 (by simp));have e2:=vJ dJ ⟨a2,a2'⟩ hn (hv p2 (by simp))
     simp only [KV.iU];omega
    have yu:K0.lev n=d:=by rw [<- hS.ext.lev];omega
    refine XN K0 t wb b ck cw cl cg mb fl caps FL L lvv n f g h K T q M mv D w hR hA hS hK hQ hh p0 p1 p2 ⟨a0,a0'⟩ ⟨a1,a1'⟩ ⟨a2,a2'⟩ ht hn (by omega) (fun p hp=>?_) (by rw [yu];exact IH) I4
    rcases ho p hp with h | ⟨k,h,hk⟩
    ·exact .inl h
    ·rcases hv p hp with h' | ⟨k',h',dB⟩
     ·exact .inl h'
     ·have:k=k':=by omega
      subst this;exact .inr ⟨k,h,hk,dB⟩
theorem OH (K0:KV) (t:(Nat->Bool)->Bool) (wb b ck cw cl cg mb fl:Nat) (caps:Array Value) (FL:List Nat) (L:Bool->Bool->Bool->Bool) (lvv:Value) (Tm:Enters fl) (I4:Enters 212):∀ (k d:Nat),K0.vars+1-d<=k->OD K0 t wb b ck cw cl cg mb fl caps FL L lvv d
 | 0,d,hk=>by
  intro f g h K T q M mv D w hR hA hd hS hK hQ
  have h1:=KV.OG hR.wk.ker.ok hA;have h2:=hS.ext.vr;omega
 | k+1,d,hk=>by
  by_cases hd:K0.vars+1<=d
  ·intro f g h K T q M mv D w hR hA Xp hS hK hQ
   have h1:=KV.OG hR.wk.ker.ok hA;have h2:=hS.ext.vr;omega
  ·exact go_step K0 t wb b ck cw cl cg mb fl caps FL L lvv d Tm I4 (OH K0 t wb b ck cw cl cg mb fl caps FL L lvv Tm I4 k (d+1) (by omega))
structure abC (K0 K:KV) (M:List Nat) (r:Nat) (code:Int) (K':KV):Prop where
 ext:K'.Ext K
 hd:∀ x,K'.hold x=K0.hold x+(if x=r/\decide (2<=r/\code=0)=true/\r∈M then 1 else 0)
 tr:M≠[]->K'.trail=[]
 tc:code=0->r<2->K'.trail=[]
 nil:M=[]->¬ (code=0/\r<2)->K'=K
structure aeA (b:Nat) (K0 K:KV) (q:aA) (M:List Nat) (r:Nat) (code:Int) (F:List Nat) (w w':World):Prop where
 ex:∃ (K':KV) (T':List DM) (q':aA),bV w' b K' T' q'/\af F w w'/\Sub (q.all b) w (q'.all b)/\abC K0 K M r code K'
theorem GU.y {wb b r:Nat} {code:Int} {K0 K:KV} {q:aA} {M:List Nat} {lvv mv:Value} {w w1:World} (h:GU wb b r code K0 K q M lvv mv w w1) {cr ce:Nat} (oz:cr<w.heap.size/\cr∉kN wb b q lvv mv) (ZV:ce<w.heap.size/\ce∉kN wb b q lvv mv) (u v:Value) :
  aeA b K0 K q M r code (cr::ce::kN wb b q lvv mv) w ((w1.setCell ⟨cr,0,none⟩ u).setCell ⟨ce,0,none⟩ v):=by
 obtain ⟨K',T',q',hk,hu,hs,e1,e2,e3,e4,e5⟩:=h.ex
 have out:∀ c,c<w.heap.size/\c∉kN wb b q lvv mv->c∉q'.all b:=fun c hc hm=>by
  rcases hs c hm with h | h
  ·exact hc.2 (List.mem_append.2 (.inl h))
  ·omega
 have h1:af [cr,ce] w1 ((w1.setCell ⟨cr,0,none⟩ u).setCell ⟨ce,0,none⟩ v):=((af.refl _ w1).setCell (p:=⟨cr,0,none⟩) (.inl (by simp)) _).setCell (p:=⟨ce,0,none⟩) (.inl (by simp)) _;refine ⟨K',T',q',hk.upd h1 (fun k hm hc=>?_),(hu.mono (fun x hx=>by simp [hx])).then h1 (fun x hx=>.inl ?_),hs,e1,e2,e3,e4,e5⟩
 ·simp at hc
  rcases hc with rfl | rfl
  ·exact out _ oz hm
  ·exact out _ ZV hm
 ·simp at hx
  rcases hx with rfl | rfl <;> simp
theorem P8 (wb b cw cr ce r:Nat) (code:Int) (K0 K:KV) (T:List DM) (q:aA) (M:List Nat) (lvv mv:Value) (u:FrameMode) (w:World) (h:WK w wb b K T q M lvv mv) (hM:M.length<=1099511627776) (hr:r<=4294967295) (BF:∀ x,x∈M->x<=4294967295)
  (hh:∀ x,K.hold x=K0.hold x+M.count x) (qG:M≠[]->K.trail=[])
  (bw:w.heap[cw]?=some (.cells #[.pointer (some ⟨wb,0,none⟩)] 223 (0,0))) (br:w.heap[cr]?=some (.cells #[.int .u32 r] 77 (0,0))) (be:w.heap[ce]?=some (.cells #[.int .i64 code] 47 (0,0)))
  (oz:cr∉kN wb b q lvv mv) (ZV:ce∉kN wb b q lvv mv) (hne:cr≠ce) :
  CallsD Tryz.prog 210 #[.pointer (some ⟨cw,0,none⟩),.pointer (some ⟨cr,0,none⟩),.pointer (some ⟨ce,0,none⟩)] u w fun e u' w'=>u'=u/\(e=.returned (.tuple #[]) /\
   w'.cell? ⟨cr,0,none⟩=some (.int .u32 (dM M r code).1)/\w'.cell? ⟨ce,0,none⟩=some (.int .i64 (dM M r code).2)/\aeA b K0 K q M r code (cr::ce::kN wb b q lvv mv) w w'):=by
 have HW:=Lib.hid h;have HX:=Lib.hid (And.intro hM (And.intro hr (And.intro BF (And.intro hh qG))));have x0:=ae (j:=0) bw rfl;have x1:=ae (j:=0) br rfl;have x2:=ae (j:=0) be rfl;have HB:=Lib.hid (And.intro br be);have HN:=Lib.hid (And.intro oz ZV);clear h hM BF hh qG bw br be oz ZV hr
 go_enter_d Tryz.func210,Tryz.ntmps210
 go_wp2_with fail;refine (P9 wb b r code K0 K T q M lvv mv w HW.out HX.out.1 HX.out.2.1 HX.out.2.2.1 HX.out.2.2.2.1 HX.out.2.2.2.2).mono ?_;rintro e w1 ⟨rfl,hE⟩;obtain ⟨K',T',q',hk,hu,hs,_⟩:=hE.ex;have TB:=(hu.block _ (ah HB.out.1) HN.out.1).trans HB.out.1;have XT:=(hu.block _ (ah HB.out.2) HN.out.2).trans HB.out.2;have z1:=ae (j:=0) TB rfl;have z2:=ae (j:=0) XT rfl;have f1:=ax 0 TB;have f2:=ax 0 XT;have HY:=Lib.hid (hE.y ⟨ah HB.out.1,HN.out.1⟩ ⟨ah HB.out.2,HN.out.2⟩ (.int .u32 (dM M r code).1) (.int .i64 (dM M r code).2))
 have HC:Hid ((((w1.setCell ⟨cr,0,none⟩ (.int .u32 (dM M r code).1)).setCell ⟨ce,0,none⟩ (.int .i64 (dM M r code).2)).cell? ⟨cr,0,none⟩=some (.int .u32 (dM M r code).1)) /\
   (((w1.setCell ⟨cr,0,none⟩ (.int .u32 (dM M r code).1)).setCell ⟨ce,0,none⟩ (.int .i64 (dM M r code).2)).cell? ⟨ce,0,none⟩=some (.int .i64 (dM M r code).2))):=by
  have e1:((w1.setCell ⟨cr,0,none⟩ (.int .u32 (dM M r code).1)).setCell ⟨ce,0,none⟩ (.int .i64 (dM M r code).2)).heap[cr]?=(w1.setCell ⟨cr,0,none⟩ (.int .u32 (dM M r code).1)).heap[cr]?:=aG hne;rw [aB TB] at e1;have e2:(w1.setCell ⟨cr,0,none⟩ (.int .u32 (dM M r code).1)).heap[ce]?=w1.heap[ce]?:=aG (Ne.symm hne);exact ⟨ae e1 rfl,ae (aB (e2.trans XT) _) rfl⟩
 clear hE hk hu hs TB XT;generalize ha:(dM M r code).1=a at HY HC;generalize hc:(dM M r code).2=c at HY HC;have HA:=Lib.hid (And.intro ha hc);clear ha hc;go_wp2_with fail;go_end0;exact ⟨rfl,by rw [HA.out.1];exact HC.out.1,by rw [HA.out.2];exact HC.out.2,HY.out⟩
end Go.Proofs.YtfkopmhpppeheaaGreat
