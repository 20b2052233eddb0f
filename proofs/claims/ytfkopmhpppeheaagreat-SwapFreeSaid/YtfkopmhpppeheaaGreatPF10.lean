import Derived.Test.YtfkopmhpppeheaaGreatPF9
import Derived.Defers
set_option maxRecDepth 100000
set_option maxHeartbeats 3200000
namespace Go.Proofs.YtfkopmhpppeheaaGreat
open Go.RowKit Go.Maps Go.ChangeMaps Go.WideShapes
structure ArrR (w0:World) (bl bh l0 l1 l2 u0 u1 u2:Nat) (wr:World):Prop where
 up:Upd [] w0 wr
 lo:wr.heap[bl]?=some (.cells #[.int .u32 l0,.int .u32 l1,.int .u32 l2] 228 (0,0))
 hi:wr.heap[bh]?=some (.cells #[.int .u32 u0,.int .u32 u1,.int .u32 u2] 228 (0,0))
 ne:bl≠bh
 lb:w0.heap.size<=bl/\w0.heap.size<=bh
theorem ArrR.start (w:World) (f g h:Nat):ArrR w (w.heap.size+1) w.heap.size f g h f g h ((w.alloc (.cells #[.int .u32 f,.int .u32 g,.int .u32 h] 228 (0,0))).alloc (.cells #[.int .u32 f,.int .u32 g,.int .u32 h] 228 (0,0))).drew:=by
 have e1:=heap_alloc_new w (.cells #[.int .u32 f,.int .u32 g,.int .u32 h] 228 (0,0));have e2:=heap_alloc_new (w.alloc (.cells #[.int .u32 f,.int .u32 g,.int .u32 h] 228 (0,0))) (.cells #[.int .u32 f,.int .u32 g,.int .u32 h] 228 (0,0));rw [World.size_alloc] at e2;exact ⟨(((Upd.refl [] w).alloc _).alloc _).drew,e2,(heap_alloc_old _ _ (heap_lt e1)).trans e1,by omega,by omega,by omega⟩
theorem ArrR.swap {w:World} {bl bh l0 l1 l2:Nat} {wr:World} (h:ArrR w bl bh l0 l1 l2 l0 l1 l2 wr):ArrR w bh bl l0 l1 l2 l0 l1 l2 wr:=⟨h.up,h.hi,h.lo,Ne.symm h.ne,h.lb.2,h.lb.1⟩
theorem ArrR.skip {w:World} {bl bh l0 l1 l2 u0 u1 u2:Nat} {wr:World} (h:ArrR w bl bh l0 l1 l2 u0 u1 u2 wr) (o:Obj):ArrR w bl bh l0 l1 l2 u0 u1 u2 (wr.alloc o) :=
 ⟨h.up.alloc o,(heap_alloc_old _ _ (heap_lt h.lo)).trans h.lo,(heap_alloc_old _ _ (heap_lt h.hi)).trans h.hi,h.ne,h.lb⟩
theorem ArrR.cells {w:World} {bl bh l0 l1 l2 u0 u1 u2:Nat} {wr:World} (h:ArrR w bl bh l0 l1 l2 u0 u1 u2 wr) :
  (wr.cell? ⟨bl,0,none⟩=some (.int .u32 l0)/\wr.cell? ⟨bl,1,none⟩=some (.int .u32 l1)/\wr.cell? ⟨bl,2,none⟩=some (.int .u32 l2))/\(wr.cell? ⟨bh,0,none⟩=some (.int .u32 u0)/\wr.cell? ⟨bh,1,none⟩=some (.int .u32 u1)/\wr.cell? ⟨bh,2,none⟩=some (.int .u32 u2)) /\
  (∀ j,wr.frozen? ⟨bl,j,none⟩=false)/\(∀ j,wr.frozen? ⟨bh,j,none⟩=false) :=
 ⟨⟨cell_at h.lo rfl,cell_at h.lo rfl,cell_at h.lo rfl⟩,⟨cell_at h.hi rfl,cell_at h.hi rfl,cell_at h.hi rfl⟩,fun j=>frozen_at j h.lo,fun j=>frozen_at j h.hi⟩
theorem ArrR.set0 {w:World} {bl bh l0 l1 l2 u0 u1 u2:Nat} {wr:World} (h:ArrR w bl bh l0 l1 l2 u0 u1 u2 wr) (x y:Nat):ArrR w bl bh x l1 l2 y u1 u2 ((wr.setCell ⟨bl,0,none⟩ (.int .u32 x)).setCell ⟨bh,0,none⟩ (.int .u32 y)):=by
 refine ⟨(h.up.setCell (p:=⟨bl,0,none⟩) (.inr h.lb.1) _).setCell (p:=⟨bh,0,none⟩) (.inr h.lb.2) _,?_,?_,h.ne,h.lb⟩
 ·rw [heap_set_ne h.ne,heap_set_eq h.lo];rfl
 ·have e:(wr.setCell ⟨bl,0,none⟩ (.int .u32 x)).heap[bh]?=wr.heap[bh]?:=heap_set_ne (Ne.symm h.ne)
  rw [heap_set_eq (e.trans h.hi)];rfl
theorem ArrR.set1 {w:World} {bl bh l0 l1 l2 u0 u1 u2:Nat} {wr:World} (h:ArrR w bl bh l0 l1 l2 u0 u1 u2 wr) (x y:Nat):ArrR w bl bh l0 x l2 u0 y u2 ((wr.setCell ⟨bl,1,none⟩ (.int .u32 x)).setCell ⟨bh,1,none⟩ (.int .u32 y)):=by
 refine ⟨(h.up.setCell (p:=⟨bl,1,none⟩) (.inr h.lb.1) _).setCell (p:=⟨bh,1,none⟩) (.inr h.lb.2) _,?_,?_,h.ne,h.lb⟩
 ·rw [heap_set_ne h.ne,heap_set_eq h.lo];rfl
 ·have e:(wr.setCell ⟨bl,1,none⟩ (.int .u32 x)).heap[bh]?=wr.heap[bh]?:=heap_set_ne (Ne.symm h.ne)
  rw [heap_set_eq (e.trans h.hi)];rfl
theorem ArrR.set2 {w:World} {bl bh l0 l1 l2 u0 u1 u2:Nat} {wr:World} (h:ArrR w bl bh l0 l1 l2 u0 u1 u2 wr) (x y:Nat):ArrR w bl bh l0 l1 x u0 u1 y ((wr.setCell ⟨bl,2,none⟩ (.int .u32 x)).setCell ⟨bh,2,none⟩ (.int .u32 y)):=by
 refine ⟨(h.up.setCell (p:=⟨bl,2,none⟩) (.inr h.lb.1) _).setCell (p:=⟨bh,2,none⟩) (.inr h.lb.2) _,?_,?_,h.ne,h.lb⟩
 ·rw [heap_set_ne h.ne,heap_set_eq h.lo];rfl
 ·have e:(wr.setCell ⟨bl,2,none⟩ (.int .u32 x)).heap[bh]?=wr.heap[bh]?:=heap_set_ne (Ne.symm h.ne)
  rw [heap_set_eq (e.trans h.hi)];rfl
theorem ArrR.draw {w:World} {bl bh l0 l1 l2 u0 u1 u2:Nat} {wr:World} (h:ArrR w bl bh l0 l1 l2 u0 u1 u2 wr):ArrR w bl bh l0 l1 l2 u0 u1 u2 wr.drew:=⟨h.up.drew,h.lo,h.hi,h.ne,h.lb⟩
theorem go_deep (K0:KV) (t:(Nat->Bool)->Bool) (wb b ck cw cl cg mb fl:Nat) (caps:Array Value) (FL:List Nat) (L:Bool->Bool->Bool->Bool) (lvv:Value) (n:Nat)
  (f g h:Nat) (K:KV) (T:List DM) (q:KPtr) (M:List Nat) (mv:Value) (D:DM) (w:World) (hR:RunM w wb b ck cw cl cg mb fl caps FL L K T q M lvv mv D) (hA:AskQ K f g h) (hS:RunS K0 (K0.SubN t) M K) (hK:KnownOk K0 L M K D) (hQ:Runs3 K L t f g h) (hh:Maps.has D (qk f g h)=false)
  (p0 p1 p2:PlaceV) (a0:K.A.list[f]?=some p0/\p0.taken=true) (a1:K.A.list[g]?=some p1/\p1.taken=true) (a2:K.A.list[h]?=some p2/\p2.taken=true) (htop:K.top [p0,p1,p2]=(n:Int)) (hn:n<K.vars) (hd:K.dep3 f g h=K.lev n)
  (hv:∀ p,p∈[p0,p1,p2]->p.var=-1\/∃ k:Nat,p.var=(k:Int)/\k<K.vars/\K.lev n<=K.lev k) (IH:GoHyp K0 t wb b ck cw cl cg mb fl caps FL L lvv (K0.lev n+1)) (hen:Enters 212) :
  Calls Tryz.prog 212 #[.agg #[.int .u32 f,.int .u32 g,.int .u32 h],.pointer (some ⟨ck,0,none⟩),.pointer (some ⟨cw,0,none⟩),.pointer (some ⟨cl,0,none⟩),.pointer (some ⟨cg,0,none⟩)] w fun e w' =>
   ∃ (r:Nat) (code:Int),e=.returned (.tuple #[.int .u32 r,.int .i64 code])/\GoP K0 (K0.SubN t) f g h wb b ck cw cl cg mb fl caps FL L K q M lvv mv w r code w':=by
 have hok:=hR.wk.ker.ok;have b0:=hok.ref_lt hA.t0;have b1:=hok.ref_lt hA.t1;have b2:=hok.ref_lt hA.t2;have hvs:=hok.wf.vs
 have hv2:∀ p,p∈[p0,p1,p2]->p.var=-1\/∃ k:Nat,p.var=(k:Int)/\K.lev n<=K.lev k:=fun p hp=>(hv p hp).imp_right fun ⟨k,h1,_,h2⟩=>⟨k,h1,h2⟩
 have HB0:=Lib.hid (below3_of hok L a0 a1 a2 hn hv2 false);have HB1:=Lib.hid (below3_of hok L a0 a1 a2 hn hv2 true);have HP:=Lib.hid (And.intro a0 (And.intro a1 (And.intro a2 htop)))
 have HV:Hid (∀ p,p∈[p0,p1,p2]->K.orVar p.var):=fun p hp=>(hv p hp).imp_right fun ⟨k,h1,h3,_⟩=>⟨k,h1,h3⟩
 have HS:=Lib.hid (And.intro hS (And.intro hK (And.intro hQ (And.intro hA (And.intro hd hok)))));have HIH:=Lib.hid IH;have HEN:Hid (∀ (args:Array Value) (w:World),(callFunc 212 args).run Tryz.prog w=.ok (.enter 212 args) w):=hen;have HLT:Hid (∀ k,k∈runF mb wb b q lvv mv->k<w.heap.size):=hR.lt;have hbx:=heap_alloc_new w (.cells #[.int .u32 f,.int .u32 g,.int .u32 h] 228 (0,0));have x0:(w.alloc (.cells #[.int .u32 f,.int .u32 g,.int .u32 h] 228 (0,0))).cell? ⟨w.heap.size,0,none⟩=some (.int .u32 f):=cell_at hbx rfl;have x1:(w.alloc (.cells #[.int .u32 f,.int .u32 g,.int .u32 h] 228 (0,0))).cell? ⟨w.heap.size,1,none⟩=some (.int .u32 g):=cell_at hbx rfl;have x2:(w.alloc (.cells #[.int .u32 f,.int .u32 g,.int .u32 h] 228 (0,0))).cell? ⟨w.heap.size,2,none⟩=some (.int .u32 h):=cell_at hbx rfl;have HBX:=Lib.hid hbx;have hR1:=hR.keep ((Upd.refl [] w).alloc (.cells #[.int .u32 f,.int .u32 g,.int .u32 h] 228 (0,0)));obtain ⟨y0,y1,y2,y3⟩:=hR1.cells;obtain ⟨x,ps,hrun,hx⟩:=hR1.map.look_ok quesKeyed Tryz.underlying280 (zeroRef _) (plainElem_int (H:=Unit) Tryz.underlying77 (wfR (n:=0) (by omega))) (qk_of (f:=f) (g:=g) (h:=h) (by omega) (by omega) (by omega));obtain ⟨c,rfl,hat,hwc⟩:=plainElem_int_inv Tryz.underlying77 hx;rw [hh] at hrun;have HR1:=Lib.hid hR1;clear hR hA hS hK hQ hh hok hbx hR1 hx hat hwc a0 a1 a2 htop hv hv2 IH hd hen
 go_enter Tryz.func212,Tryz.ntmps212
 go_wp2_with fail;refine (wnodes_spec wb b f g h K T q M lvv mv p0 p1 p2 _ HR1.out.wk ⟨HP.out.1.1,HP.out.1.2,by omega⟩ ⟨HP.out.2.1.1,HP.out.2.1.2,by omega⟩ ⟨HP.out.2.2.1.1,HP.out.2.2.1.2,by omega⟩).mono ?_;rintro e w1 ⟨v,rfl,hN⟩;obtain ⟨fa,fc,rfl,_⟩:=row_nil_len hN.row;have HN:=Lib.hid hN;have HR2:=Lib.hid (HR1.out.keep hN.up);clear hN y0 y1 y2 y3 hrun x0 x1 x2;obtain ⟨y0,y1,y2,y3⟩:=HR2.out.cells;go_wp2_with fail;refine (wtop_spec wb b K T q M lvv mv _ _ [p0,p1,p2] _ HR2.out.wk HN.out.row HV.out (by simp)).mono ?_;rintro e w2 ⟨rfl,hu⟩;rw [HP.out.2.2.2];have HU2:=Lib.hid (HN.out.up.trans hu);have HR3:=Lib.hid (HR2.out.keep hu);have HROW:=Lib.hid (row_keep HN.out.row fun k hk=>hu.block k (HN.out.row.lt k hk).2 (by simp));have hbx2:w2.heap[w.heap.size]?=some (.cells #[.int .u32 f,.int .u32 g,.int .u32 h] 228 (0,0)):=(HU2.out.block _ (heap_lt HBX.out) (by simp)).trans HBX.out;have x0:w2.cell? ⟨w.heap.size,0,none⟩=some (.int .u32 f):=cell_at hbx2 rfl;have x1:w2.cell? ⟨w.heap.size,1,none⟩=some (.int .u32 g):=cell_at hbx2 rfl;have x2:w2.cell? ⟨w.heap.size,2,none⟩=some (.int .u32 h):=cell_at hbx2 rfl;have HBX2:=Lib.hid hbx2;have hsz2:=heap_lt hbx2;clear hu y0 y1 y2 y3 hbx2;go_wp2_with fail
 go_region
 focus (
  have HAR:=Lib.hid (ArrR.start w2 f g h).swap;generalize w2.heap.size+1=bh at HAR
  generalize w2.heap.size=bl at HAR)
 rotate_left
 focus (
  have HAR:=Lib.hid (ArrR.start w2 f g h);generalize w2.heap.size+1=bl at HAR
  generalize w2.heap.size=bh at HAR)
 all_goals (
  generalize ((w2.alloc (.cells #[.int .u32 f,.int .u32 g,.int .u32 h] 228 (0,0))).alloc (.cells #[.int .u32 f,.int .u32 g,.int .u32 h] 228 (0,0))).drew=W at HAR;clear x0 x1 x2 hsz2;go_wp2_with fail
  go_loopg [51] 3 (fun gg s51 wr=>(gg=3/\s51=.int .i64 0/\ArrR w2 bl bh f g h f g h wr)\/(gg=2/\s51=.int .i64 1/\ArrR w2 bl bh (cofR n p0 f false) g h (cofR n p0 f true) g h wr)\/(gg=1/\s51=.int .i64 2/\ArrR w2 bl bh (cofR n p0 f false) (cofR n p1 g false) h (cofR n p0 f true) (cofR n p1 g true) h wr)\/(gg=0/\s51=.int .i64 3/\ArrR w2 bl bh (cofR n p0 f false) (cofR n p1 g false) (cofR n p2 h false) (cofR n p0 f true) (cofR n p1 g true) (cofR n p2 h true) wr))
  case atStart=>exact .inl ⟨rfl,rfl,HAR.out⟩
  case round =>
   obtain ⟨gr,rfl⟩:=row_some HROW.out (by simp)
   rcases hrel with ⟨rfl,rfl,hE⟩ | ⟨rfl,rfl,hE⟩ | ⟨rfl,rfl,hE⟩ | ⟨rfl,rfl,hE⟩
   ·have HE:=Lib.hid hE
    obtain ⟨⟨l0,l1,l2⟩,⟨u0,u1,u2⟩,fl0,fh0⟩:=hE.cells
    have hr:=row_keep HROW.out fun k hk=>hE.up.block k (HROW.out.lt k hk).2 (by simp)
    have d0:wr.cell? ⟨gr,0,none⟩=some (.int .i64 p0.var):=row_cell hr rfl;have d1:wr.cell? ⟨gr,1,none⟩=some (.int .u32 p0.lo):=row_cell hr rfl;have d2:wr.cell? ⟨gr,2,none⟩=some (.int .u32 p0.hi):=row_cell hr rfl;have hbx:=heap_alloc_new wr (.cells #[.int .i64 p0.var,.int .u32 p0.lo,.int .u32 p0.hi] 116 (0,0));have z0:(wr.alloc (.cells #[.int .i64 p0.var,.int .u32 p0.lo,.int .u32 p0.hi] 116 (0,0))).cell? ⟨wr.heap.size,0,none⟩=some (.int .i64 p0.var):=cell_at hbx rfl;have z1:(wr.alloc (.cells #[.int .i64 p0.var,.int .u32 p0.lo,.int .u32 p0.hi] 116 (0,0))).cell? ⟨wr.heap.size,1,none⟩=some (.int .u32 p0.lo):=cell_at hbx rfl;have z2:(wr.alloc (.cells #[.int .i64 p0.var,.int .u32 p0.lo,.int .u32 p0.hi] 116 (0,0))).cell? ⟨wr.heap.size,2,none⟩=some (.int .u32 p0.hi):=cell_at hbx rfl;have k0:=heap_lt hE.lo;have k1:=heap_lt hE.hi;have kne:=hE.ne;have HEA:=Lib.hid (hE.skip (.cells #[.int .i64 p0.var,.int .u32 p0.lo,.int .u32 p0.hi] 116 (0,0)));obtain ⟨⟨m0,m1,m2⟩,⟨v0,v1,v2⟩,ml0,mh0⟩:=HEA.out.cells;clear hE hr hbx
    cases hpe:(p0.var == (n:Int)) with
    | true =>
     have HF:Hid (cofR n p0 f false=p0.lo/\cofR n p0 f true=p0.hi):=by
      have e:p0.var=(n:Int):=by simpa using hpe
      exact ⟨by unfold cofR;rw [if_pos e];rfl,by unfold cofR;rw [if_pos e];rfl⟩
     have mlf:=fl0 0;have mhf:=fh0 0;clear ml0 mh0 fl0 fh0;go_wp2_with fail
     go_region
     go_wp2_with fail
     go_roundg (2:Nat)
     case measure=>decide
     case rel=>exact .inr (.inl ⟨rfl,rfl,by rw [HF.out.1,HF.out.2];exact ((HE.out.set0 _ _).skip _).draw⟩)
    | false =>
     have HF:Hid (cofR n p0 f false=f/\cofR n p0 f true=f):=by
      have e:¬ p0.var=(n:Int):=by simpa using hpe
      exact ⟨by unfold cofR;rw [if_neg e],by unfold cofR;rw [if_neg e]⟩
     have hpe2:¬ p0.var=(n:Int):=by simpa using hpe
     go_wp2_with fail
     go_roundg (2:Nat)
     case measure=>decide
     case rel=>exact .inr (.inl ⟨rfl,rfl,by rw [HF.out.1,HF.out.2];exact HEA.out⟩)
   ·have HE:=Lib.hid hE
    obtain ⟨⟨l0,l1,l2⟩,⟨u0,u1,u2⟩,fl0,fh0⟩:=hE.cells
    have hr:=row_keep HROW.out fun k hk=>hE.up.block k (HROW.out.lt k hk).2 (by simp)
    have d0:wr.cell? ⟨gr,3,none⟩=some (.int .i64 p1.var):=row_cell hr rfl;have d1:wr.cell? ⟨gr,4,none⟩=some (.int .u32 p1.lo):=row_cell hr rfl;have d2:wr.cell? ⟨gr,5,none⟩=some (.int .u32 p1.hi):=row_cell hr rfl;have hbx:=heap_alloc_new wr (.cells #[.int .i64 p1.var,.int .u32 p1.lo,.int .u32 p1.hi] 116 (0,0));have z0:(wr.alloc (.cells #[.int .i64 p1.var,.int .u32 p1.lo,.int .u32 p1.hi] 116 (0,0))).cell? ⟨wr.heap.size,0,none⟩=some (.int .i64 p1.var):=cell_at hbx rfl;have z1:(wr.alloc (.cells #[.int .i64 p1.var,.int .u32 p1.lo,.int .u32 p1.hi] 116 (0,0))).cell? ⟨wr.heap.size,1,none⟩=some (.int .u32 p1.lo):=cell_at hbx rfl;have z2:(wr.alloc (.cells #[.int .i64 p1.var,.int .u32 p1.lo,.int .u32 p1.hi] 116 (0,0))).cell? ⟨wr.heap.size,2,none⟩=some (.int .u32 p1.hi):=cell_at hbx rfl;have k0:=heap_lt hE.lo;have k1:=heap_lt hE.hi;have kne:=hE.ne;have HEA:=Lib.hid (hE.skip (.cells #[.int .i64 p1.var,.int .u32 p1.lo,.int .u32 p1.hi] 116 (0,0)));obtain ⟨⟨m0,m1,m2⟩,⟨v0,v1,v2⟩,ml0,mh0⟩:=HEA.out.cells;clear hE hr hbx
    cases hpe:(p1.var == (n:Int)) with
    | true =>
     have HF:Hid (cofR n p1 g false=p1.lo/\cofR n p1 g true=p1.hi):=by
      have e:p1.var=(n:Int):=by simpa using hpe
      exact ⟨by unfold cofR;rw [if_pos e];rfl,by unfold cofR;rw [if_pos e];rfl⟩
     have mlf:=fl0 1;have mhf:=fh0 1;clear ml0 mh0 fl0 fh0;go_wp2_with fail
     go_region
     go_wp2_with fail
     go_roundg (1:Nat)
     case measure=>decide
     case rel=>exact .inr (.inr (.inl ⟨rfl,rfl,by rw [HF.out.1,HF.out.2];exact ((HE.out.set1 _ _).skip _).draw⟩))
    | false =>
     have HF:Hid (cofR n p1 g false=g/\cofR n p1 g true=g):=by
      have e:¬ p1.var=(n:Int):=by simpa using hpe
      exact ⟨by unfold cofR;rw [if_neg e],by unfold cofR;rw [if_neg e]⟩
     have hpe2:¬ p1.var=(n:Int):=by simpa using hpe
     go_wp2_with fail
     go_roundg (1:Nat)
     case measure=>decide
     case rel=>exact .inr (.inr (.inl ⟨rfl,rfl,by rw [HF.out.1,HF.out.2];exact HEA.out⟩))
   ·have HE:=Lib.hid hE
    obtain ⟨⟨l0,l1,l2⟩,⟨u0,u1,u2⟩,fl0,fh0⟩:=hE.cells
    have hr:=row_keep HROW.out fun k hk=>hE.up.block k (HROW.out.lt k hk).2 (by simp)
    have d0:wr.cell? ⟨gr,6,none⟩=some (.int .i64 p2.var):=row_cell hr rfl;have d1:wr.cell? ⟨gr,7,none⟩=some (.int .u32 p2.lo):=row_cell hr rfl;have d2:wr.cell? ⟨gr,8,none⟩=some (.int .u32 p2.hi):=row_cell hr rfl;have hbx:=heap_alloc_new wr (.cells #[.int .i64 p2.var,.int .u32 p2.lo,.int .u32 p2.hi] 116 (0,0));have z0:(wr.alloc (.cells #[.int .i64 p2.var,.int .u32 p2.lo,.int .u32 p2.hi] 116 (0,0))).cell? ⟨wr.heap.size,0,none⟩=some (.int .i64 p2.var):=cell_at hbx rfl;have z1:(wr.alloc (.cells #[.int .i64 p2.var,.int .u32 p2.lo,.int .u32 p2.hi] 116 (0,0))).cell? ⟨wr.heap.size,1,none⟩=some (.int .u32 p2.lo):=cell_at hbx rfl;have z2:(wr.alloc (.cells #[.int .i64 p2.var,.int .u32 p2.lo,.int .u32 p2.hi] 116 (0,0))).cell? ⟨wr.heap.size,2,none⟩=some (.int .u32 p2.hi):=cell_at hbx rfl;have k0:=heap_lt hE.lo;have k1:=heap_lt hE.hi;have kne:=hE.ne;have HEA:=Lib.hid (hE.skip (.cells #[.int .i64 p2.var,.int .u32 p2.lo,.int .u32 p2.hi] 116 (0,0)));obtain ⟨⟨m0,m1,m2⟩,⟨v0,v1,v2⟩,ml0,mh0⟩:=HEA.out.cells;clear hE hr hbx
    cases hpe:(p2.var == (n:Int)) with
    | true =>
     have HF:Hid (cofR n p2 h false=p2.lo/\cofR n p2 h true=p2.hi):=by
      have e:p2.var=(n:Int):=by simpa using hpe
      exact ⟨by unfold cofR;rw [if_pos e];rfl,by unfold cofR;rw [if_pos e];rfl⟩
     have mlf:=fl0 2;have mhf:=fh0 2;clear ml0 mh0 fl0 fh0;go_wp2_with fail
     go_region
     go_wp2_with fail
     go_roundg (0:Nat)
     case measure=>decide
     case rel=>exact .inr (.inr (.inr (⟨rfl,rfl,by rw [HF.out.1,HF.out.2];exact ((HE.out.set2 _ _).skip _).draw⟩)))
    | false =>
     have HF:Hid (cofR n p2 h false=h/\cofR n p2 h true=h):=by
      have e:¬ p2.var=(n:Int):=by simpa using hpe
      exact ⟨by unfold cofR;rw [if_neg e],by unfold cofR;rw [if_neg e]⟩
     have hpe2:¬ p2.var=(n:Int):=by simpa using hpe
     go_wp2_with fail
     go_roundg (0:Nat)
     case measure=>decide
     case rel=>exact .inr (.inr (.inr (⟨rfl,rfl,by rw [HF.out.1,HF.out.2];exact HEA.out⟩)))
   ·obtain ⟨⟨l0,l1,l2⟩,⟨u0,u1,u2⟩,_,_⟩:=hE.cells
    have HE:=Lib.hid hE;have HR4:=Lib.hid (HR3.out.keep hE.up);obtain ⟨y0,y1,y2,y3⟩:=HR4.out.cells;clear hE;generalize cofR n p0 f false=f0 at HB0 HE l0;generalize cofR n p1 g false=g0 at HB0 HE l1;generalize cofR n p2 h false=h0 at HB0 HE l2;generalize cofR n p0 f true=f1 at HB1 HE u0;generalize cofR n p1 g true=g1 at HB1 HE u1;generalize cofR n p2 h true=h1 at HB1 HE u2;have HBQ:Hid (wr.heap[w.heap.size]?=some (.cells #[.int .u32 f,.int .u32 g,.int .u32 h] 228 (0,0))):=(HE.out.up.block _ (heap_lt HBX2.out) (by simp)).trans HBX2.out;have hen:=HEN.out;have HCALL:=Lib.hid (HIH.out f0 g0 h0 K T q M mv D wr HR4.out HB0.out.ask (by have:=HB0.out.dep;rw [HS.out.1.ext.lev] at this;exact this) HS.out.1 HS.out.2.1 (HS.out.2.2.1.below HS.out.2.2.2.2.2 HS.out.2.2.2.1 hn HS.out.2.2.2.2.1.symm HB0.out));go_wp2_with fail;refine HCALL.out.mono ?_;rintro e w5 ⟨r1,code1,rfl,⟨K1,M1,T1,q1,mv1,D1,S1,KO1,R5,U5,SB5⟩,hr1⟩
    have hc1:code1=0\/code1=9:=by
     rcases S1.ans with ⟨h,_⟩ | ⟨h,_⟩
     ·exact .inl h
     ·exact .inr h
    have hwsz:w.heap.size<=wr.heap.size:=Nat.le_of_lt (heap_lt HBQ.out);have HUW:Hid (Upd [] w wr):=(((Upd.refl [] w).alloc _).trans (HU2.out.trans HE.out.up))
    have hbhn:bh∉runF mb wb b q lvv mv:=fun hm=>by
     have h1:=HLT.out _ hm;have h2:=HE.out.lb.2;have h3:=heap_lt HBX2.out;omega
    have hbqn:w.heap.size∉runF mb wb b q lvv mv:=fun hm=>by
     have h1:=HLT.out _ hm;omega
    have HI5:Hid (w5.heap[bh]?=some (.cells #[.int .u32 f1,.int .u32 g1,.int .u32 h1] 228 (0,0))):=(U5.block _ (heap_lt HE.out.hi) hbhn).trans HE.out.hi;have HQ5:Hid (w5.heap[w.heap.size]?=some (.cells #[.int .u32 f,.int .u32 g,.int .u32 h] 228 (0,0))):=(U5.block _ (heap_lt HBQ.out) hbqn).trans HBQ.out;have u0:=cell_at (j:=0) HI5.out rfl;have u1:=cell_at (j:=1) HI5.out rfl;have u2:=cell_at (j:=2) HI5.out rfl;obtain ⟨y0,y1,y2,y3⟩:=R5.cells;have H5:=Lib.hid (And.intro S1 (And.intro KO1 (And.intro R5 (And.intro (HUW.out.mono (by simp) |>.trans U5:Upd (runF mb wb b q lvv mv) w w5) (fun k hk=>(SB5 k hk).imp_right (Nat.le_trans hwsz):Sub (runF mb wb b q lvv mv) w (runF mb wb b q1 lvv mv1))))));have HSB5:=Lib.hid SB5;clear S1 KO1 R5 U5 SB5 l0 l1 l2 hbhn HCALL
    rcases hc1 with rfl | rfl
    ·have hen:=HEN.out
     have HCALL:=Lib.hid (HIH.out f1 g1 h1 K1 T1 q1 M1 mv1 D1 w5 H5.out.2.2.1 (HB1.out.ask.ext H5.out.1.ext)
      (by have:=(HB1.out.ext HS.out.2.2.2.1 H5.out.1.ext HS.out.2.2.2.2.2.wf).dep;rw [H5.out.1.run.ext.lev] at this;exact this) H5.out.1.run H5.out.2.1
      ((HS.out.2.2.1.below HS.out.2.2.2.2.2 HS.out.2.2.2.1 hn HS.out.2.2.2.2.1.symm HB1.out).ext HB1.out.ask H5.out.1.ext HS.out.2.2.2.2.2.wf))
     go_wp2_with fail;refine HCALL.out.mono ?_;rintro e w6 ⟨r2,code2,rfl,⟨K2,M2,T2,q2,mv2,D2,S2,KO2,R6,U6,SB6⟩,hr2⟩
     have hc2:code2=0\/code2=9:=by
      rcases S2.ans with ⟨h,_⟩ | ⟨h,_⟩
      ·exact .inl h
      ·exact .inr h
     have hbqn1:w.heap.size∉runF mb wb b q1 lvv mv1:=fun hm=>by
      rcases HSB5.out _ hm with h1 | h1
      ·exact hbqn h1
      ·have:=heap_lt HBQ.out;omega
     have HQ6:Hid (w6.heap[w.heap.size]?=some (.cells #[.int .u32 f,.int .u32 g,.int .u32 h] 228 (0,0))):=(U6.block _ (heap_lt HQ5.out) hbqn1).trans HQ5.out;have H6:=Lib.hid (And.intro S2 (And.intro KO2 (And.intro R6 (And.intro (H5.out.2.2.2.1.then U6 H5.out.2.2.2.2) (sub_trans H5.out.2.2.2.2 SB6 H5.out.2.2.2.1.size)))));have HSB6:=Lib.hid SB6;obtain ⟨y0,y1,y2,y3⟩:=R6.cells;clear S2 KO2 R6 U6 SB6 u0 u1 u2 HCALL
     rcases hc2 with rfl | rfl
     ·have HBO:=Lib.hid (step_both HS.out.2.2.2.2.2 H5.out.2.2.1.wk.ker.ok hn HS.out.2.2.2.1 HB0.out HB1.out H5.out.1 H6.out.1)
      have hM2:=H6.out.1.run.len H6.out.2.2.1.wk.ker.ok;go_wp2_with fail;refine (wnode_spec wb b n r1 r2 K2 T2 q2 M2 lvv mv2 w6 H6.out.2.2.1.wk (by have:=hM2.1;omega) HBO.out.hn HBO.out.t1 HBO.out.t2 (fun _=>⟨HBO.out.l1,HBO.out.l2⟩) hr1 hr2).mono ?_;rintro e w7 ⟨r,code,K3,M3,T3,q3,mv3,rfl,hN,hW,hU7,hS7⟩;have hk2:=H6.out.2.2.1.wk.ker.ok;have hr:=hN.lt hk2 hW.ker.ok hr1
      have S3:=step_all HS.out.2.2.2.2.2 H5.out.2.2.1.wk.ker.ok hk2 hW.ker.ok (H6.out.2.2.1.wk.ker.ti.uni hk2.wf) hn HS.out.2.2.2.2.1 HS.out.2.2.2.1 (by
       have:=HS.out.2.2.1.sub;obtain ⟨l,a,ee⟩:=this
       exact ⟨l,a,fun x=>by rw [ee,HS.out.1.ext.mix]⟩) HB0.out HB1.out H5.out.1 H6.out.1 hN
      have KO3:=H6.out.2.1.ext (hN.ext hk2).1 hk2.wf (hN.ext hk2).2;have R7:=H6.out.2.2.1.work hW hU7 hS7
      have hc3:code=0\/code=9:=by
       rcases S3.ans with ⟨h,_⟩ | ⟨h,_⟩
       ·exact .inl h
       ·exact .inr h
      have U7:Upd (runF mb wb b q lvv mv) w w7:=H6.out.2.2.2.1.then (hU7.mono fun x hx=>List.mem_cons_of_mem mb hx:Upd (runF mb wb b q2 lvv mv2) w6 w7) H6.out.2.2.2.2
      have SB7:Sub (runF mb wb b q lvv mv) w (runF mb wb b q3 lvv mv3):=sub_trans H6.out.2.2.2.2 (run_sub hS7) H6.out.2.2.2.1.size
      have hbqn2:w.heap.size∉runF mb wb b q2 lvv mv2:=fun hm=>by
       rcases HSB6.out _ hm with h1 | h1
       ·exact hbqn1 h1
       ·have:=heap_lt HQ5.out;omega
      have hq7:w7.heap[w.heap.size]?=some (.cells #[.int .u32 f,.int .u32 g,.int .u32 h] 228 (0,0)):=(hU7.block _ (heap_lt HQ6.out) (fun hm=>hbqn2 (List.mem_cons_of_mem mb hm))).trans HQ6.out;have x0:=cell_at (j:=0) hq7 rfl;have x1:=cell_at (j:=1) hq7 rfl;have x2:=cell_at (j:=2) hq7 rfl;clear y0 y1 y2 y3;obtain ⟨y0,y1,y2,y3⟩:=R7.cells;have H7:=Lib.hid (And.intro S3 (And.intro KO3 (And.intro R7 (And.intro U7 SB7))));clear hN hW hU7 hS7 hq7 S3 KO3 R7 U7 SB7 hbqn2 hM2 hk2
      rcases hc3 with rfl | rfl
      ·have E7:=HS.out.2.2.2.1.ext H7.out.1.ext
       have hG7:Good K0 L f g h M3 K3 r:=by
        rcases H7.out.1.ans with ⟨_,h⟩ | ⟨h,_⟩
        ·exact h
        ·omega
       have hsz:=known_size H7.out.2.1 (H7.out.2.2.1.map.canon quesKeyed) (H7.out.2.2.1.map.tidy quesKeyed);obtain ⟨w9,hrun9,hown,hturn⟩:=H7.out.2.2.1.map.store quesKeyed Tryz.underlying280 hsz (qk_of (f:=f) (g:=g) (h:=h) (by omega) (by omega) (by omega)) (plainElem_int (H:=Unit) Tryz.underlying77 (wfR hr));have KO8:=H7.out.2.1.put (f:=f) (g:=g) (k:=h) (by omega) (by omega) (by omega) E7.t0 E7.t1 E7.t2 hr hG7 H7.out.2.2.1.wk.ker.ok;have u9:=upd_turned hturn;have R8:=H7.out.2.2.1.known (own_tight hown) u9
       have HE8:Hid (GoP K0 (K0.SubN t) f g h wb b ck cw cl cg mb fl caps FL L K q M lvv mv w r 0 w9) :=
        ⟨⟨K3,M3,T3,q3,mv3,_,H7.out.1,KO8,R8,H7.out.2.2.2.1.then u9 (fun x hx=>by simp at hx;subst hx;exact .inl (by simp [runF])),H7.out.2.2.2.2⟩,hr⟩
       clear E7 hG7 hsz hown hturn KO8 u9 R8;go_wp2_with fail;go_ret2;exact ⟨r,0,rfl,HE8.out⟩
      ·go_wp2_with fail
       go_ret2;exact ⟨r,9,rfl,⟨K3,M3,T3,q3,mv3,D2,H7.out.1,H7.out.2.1,H7.out.2.2.1,H7.out.2.2.2.1,H7.out.2.2.2.2⟩,hr⟩
     ·go_wp2_with fail
      go_ret2;exact ⟨0,9,rfl,⟨K2,M2,T2,q2,mv2,D2,step_bad2 H5.out.1 H6.out.1,H6.out.2.1,H6.out.2.2.1,H6.out.2.2.2.1,H6.out.2.2.2.2⟩,by omega⟩
    ·go_wp2_with fail
     go_ret2
     exact ⟨0,9,rfl,⟨K1,M1,T1,q1,mv1,D1,step_bad1 H5.out.1,H5.out.2.1,H5.out.2.2.1,H5.out.2.2.2.1,H5.out.2.2.2.2⟩,by omega⟩)
theorem KV.dep3_le {K:KV} (hk:K.Ok) {f g h:Nat} (hA:AskQ K f g h):K.dep3 f g h<=K.vars:=by
 have:=hk.wf.dep_le hk.ord hA.t0
 simp only [KV.dep3];omega
theorem orVar_of {K:KV} (hk:K.Ok) {f:Nat} {p:PlaceV} (a:K.A.list[f]?=some p/\p.taken=true):K.orVar p.var:=by
 by_cases h2:2<=f
 ·obtain ⟨p',v,hp',_,hv,hvl,_⟩:=hk.wf.node_at h2 (ArenaV.tk_iff.2 ⟨p,a.1,a.2⟩)
  rw [a.1] at hp';cases hp'
  exact .inr ⟨v,hv,hvl⟩
 ·left
  match f,h2,a.1 with
  | 0,_,hp=>rw [hk.wf.ok.c0] at hp;cases hp;rfl
  | 1,_,hp=>rw [hk.wf.ok.c1] at hp;cases hp;rfl
  | f+2,h2,_=>omega
theorem dep_of_var {K:KV} (hk:K.Ok) {f n:Nat} {p:PlaceV} (a:K.A.list[f]?=some p/\p.taken=true) (hn:n<K.vars) (h:p.var=-1\/∃ k:Nat,p.var=(k:Int)/\K.lev n<=K.lev k):K.lev n<=K.dep f:=by
 have hln:=(hk.ord.pm.lo n hn).1
 rcases h with h | ⟨k,h,hl⟩
 ·have:=all_const hk a h
  rw [hk.wf.dep_const this];omega
 ·simp [KV.dep,a.1,h];exact hl
theorem go_step (K0:KV) (t:(Nat->Bool)->Bool) (wb b ck cw cl cg mb fl:Nat) (caps:Array Value) (FL:List Nat) (L:Bool->Bool->Bool->Bool) (lvv:Value) (d:Nat) (hfl:Enters fl) (hen:Enters 212)
  (IH:GoHyp K0 t wb b ck cw cl cg mb fl caps FL L lvv (d+1)):GoHyp K0 t wb b ck cw cl cg mb fl caps FL L lvv d:=by
 intro f g h K T q M mv D w hR hA hd hS hK hQ
 by_cases hlt:d+1<=K.dep3 f g h
 ·exact IH f g h K T q M mv D w hR hA hlt hS hK hQ
 ·have hdd:K.dep3 f g h=d:=by omega
  have hok:=hR.wk.ker.ok
  cases hh:Maps.has D (qk f g h) with
  | true=>exact go_known K0 t wb b ck cw cl cg mb fl caps FL L lvv f g h K T q M mv D w hR hA hS hK hh
  | false =>
   obtain ⟨p0,a0,a0'⟩:=ArenaV.tk_iff.1 hA.t0;obtain ⟨p1,a1,a1'⟩:=ArenaV.tk_iff.1 hA.t1;obtain ⟨p2,a2,a2'⟩:=ArenaV.tk_iff.1 hA.t2;have o0:=orVar_of hok ⟨a0,a0'⟩;have o1:=orVar_of hok ⟨a1,a1'⟩;have o2:=orVar_of hok ⟨a2,a2'⟩
   have ho:∀ p,p∈[p0,p1,p2]->K.orVar p.var:=fun p hp=>by
    simp only [List.mem_cons,List.not_mem_nil,or_false] at hp
    rcases hp with rfl | rfl | rfl
    ·exact o0
    ·exact o1
    ·exact o2
   rcases top_spec _ [p0,p1,p2] rfl ho with ⟨ht,hv⟩ | ⟨n,ht,hn,hp,hv⟩
   ·exact go_leaf K0 t wb b ck cw cl cg mb fl caps FL L lvv f g h K T q M mv D w hR hA hS hK hh p0 p1 p2 ⟨a0,a0'⟩ ⟨a1,a1'⟩ ⟨a2,a2'⟩ ht hv hfl
   ·have h1:=dep3_top (n:=n) a0 a1 a2 hp
    have h2:K.lev n<=K.dep3 f g h:=by
     have e0:=dep_of_var hok ⟨a0,a0'⟩ hn (hv p0 (by simp));have e1:=dep_of_var hok ⟨a1,a1'⟩ hn (hv p1 (by simp));have e2:=dep_of_var hok ⟨a2,a2'⟩ hn (hv p2 (by simp))
     simp only [KV.dep3];omega
    have hl0:K0.lev n=d:=by rw [<- hS.ext.lev];omega
    refine go_deep K0 t wb b ck cw cl cg mb fl caps FL L lvv n f g h K T q M mv D w hR hA hS hK hQ hh p0 p1 p2 ⟨a0,a0'⟩ ⟨a1,a1'⟩ ⟨a2,a2'⟩ ht hn (by omega) (fun p hp=>?_) (by rw [hl0];exact IH) hen
    rcases ho p hp with h | ⟨k,h,hk⟩
    ·exact .inl h
    ·rcases hv p hp with h' | ⟨k',h',hk'⟩
     ·exact .inl h'
     ·have:k=k':=by omega
      subst this;exact .inr ⟨k,h,hk,hk'⟩
theorem go_spec (K0:KV) (t:(Nat->Bool)->Bool) (wb b ck cw cl cg mb fl:Nat) (caps:Array Value) (FL:List Nat) (L:Bool->Bool->Bool->Bool) (lvv:Value) (hfl:Enters fl) (hen:Enters 212):∀ (k d:Nat),K0.vars+1-d<=k->GoHyp K0 t wb b ck cw cl cg mb fl caps FL L lvv d
 | 0,d,hk=>by
  intro f g h K T q M mv D w hR hA hd hS hK hQ
  have h1:=KV.dep3_le hR.wk.ker.ok hA;have h2:=hS.ext.vr;omega
 | k+1,d,hk=>by
  by_cases hd:K0.vars+1<=d
  ·intro f g h K T q M mv D w hR hA hd' hS hK hQ
   have h1:=KV.dep3_le hR.wk.ker.ok hA;have h2:=hS.ext.vr;omega
  ·exact go_step K0 t wb b ck cw cl cg mb fl caps FL L lvv d hfl hen (go_spec K0 t wb b ck cw cl cg mb fl caps FL L lvv hfl hen k (d+1) (by omega))
structure EndX (K0 K:KV) (M:List Nat) (r:Nat) (code:Int) (K':KV):Prop where
 ext:K'.Ext K
 hd:∀ x,K'.hold x=K0.hold x+(if x=r/\decide (2<=r/\code=0)=true/\r∈M then 1 else 0)
 tr:M≠[]->K'.trail=[]
 tc:code=0->r<2->K'.trail=[]
 nil:M=[]->¬ (code=0/\r<2)->K'=K
structure EndY (b:Nat) (K0 K:KV) (q:KPtr) (M:List Nat) (r:Nat) (code:Int) (F:List Nat) (w w':World):Prop where
 ex:∃ (K':KV) (T':List DM) (q':KPtr),KerIn w' b K' T' q'/\Upd F w w'/\Sub (q.all b) w (q'.all b)/\EndX K0 K M r code K'
theorem EndP.y {wb b r:Nat} {code:Int} {K0 K:KV} {q:KPtr} {M:List Nat} {lvv mv:Value} {w w1:World} (h:EndP wb b r code K0 K q M lvv mv w w1) {cr ce:Nat} (hcr:cr<w.heap.size/\cr∉wkF wb b q lvv mv) (hce:ce<w.heap.size/\ce∉wkF wb b q lvv mv) (u v:Value) :
  EndY b K0 K q M r code (cr::ce::wkF wb b q lvv mv) w ((w1.setCell ⟨cr,0,none⟩ u).setCell ⟨ce,0,none⟩ v):=by
 obtain ⟨K',T',q',hk,hu,hs,e1,e2,e3,e4,e5⟩:=h.ex
 have out:∀ c,c<w.heap.size/\c∉wkF wb b q lvv mv->c∉q'.all b:=fun c hc hm=>by
  rcases hs c hm with h | h
  ·exact hc.2 (List.mem_append.2 (.inl h))
  ·omega
 have h1:Upd [cr,ce] w1 ((w1.setCell ⟨cr,0,none⟩ u).setCell ⟨ce,0,none⟩ v):=((Upd.refl _ w1).setCell (p:=⟨cr,0,none⟩) (.inl (by simp)) _).setCell (p:=⟨ce,0,none⟩) (.inl (by simp)) _;refine ⟨K',T',q',hk.upd h1 (fun k hm hc=>?_),(hu.mono (fun x hx=>by simp [hx])).then h1 (fun x hx=>.inl ?_),hs,e1,e2,e3,e4,e5⟩
 ·simp at hc
  rcases hc with rfl | rfl
  ·exact out _ hcr hm
  ·exact out _ hce hm
 ·simp at hx
  rcases hx with rfl | rfl <;> simp
theorem run1_spec (wb b cw cr ce r:Nat) (code:Int) (K0 K:KV) (T:List DM) (q:KPtr) (M:List Nat) (lvv mv:Value) (u:FrameMode) (w:World) (h:WK w wb b K T q M lvv mv) (hM:M.length<=1099511627776) (hr:r<=4294967295) (hM32:∀ x,x∈M->x<=4294967295)
  (hh:∀ x,K.hold x=K0.hold x+M.count x) (htr:M≠[]->K.trail=[])
  (bw:w.heap[cw]?=some (.cells #[.pointer (some ⟨wb,0,none⟩)] 223 (0,0))) (br:w.heap[cr]?=some (.cells #[.int .u32 r] 77 (0,0))) (be:w.heap[ce]?=some (.cells #[.int .i64 code] 47 (0,0)))
  (hcr:cr∉wkF wb b q lvv mv) (hce:ce∉wkF wb b q lvv mv) (hne:cr≠ce) :
  CallsD Tryz.prog 210 #[.pointer (some ⟨cw,0,none⟩),.pointer (some ⟨cr,0,none⟩),.pointer (some ⟨ce,0,none⟩)] u w fun e u' w'=>u'=u/\(e=.returned (.tuple #[]) /\
   w'.cell? ⟨cr,0,none⟩=some (.int .u32 (endR M r code).1)/\w'.cell? ⟨ce,0,none⟩=some (.int .i64 (endR M r code).2)/\EndY b K0 K q M r code (cr::ce::wkF wb b q lvv mv) w w'):=by
 have HW:=Lib.hid h;have HX:=Lib.hid (And.intro hM (And.intro hr (And.intro hM32 (And.intro hh htr))));have x0:=cell_at (j:=0) bw rfl;have x1:=cell_at (j:=0) br rfl;have x2:=cell_at (j:=0) be rfl;have HB:=Lib.hid (And.intro br be);have HN:=Lib.hid (And.intro hcr hce);clear h hM hM32 hh htr bw br be hcr hce hr
 go_enter_d Tryz.func210,Tryz.ntmps210
 go_wp2_with fail;refine (wend_spec wb b r code K0 K T q M lvv mv w HW.out HX.out.1 HX.out.2.1 HX.out.2.2.1 HX.out.2.2.2.1 HX.out.2.2.2.2).mono ?_;rintro e w1 ⟨rfl,hE⟩;obtain ⟨K',T',q',hk,hu,hs,_⟩:=hE.ex;have hbr:=(hu.block _ (heap_lt HB.out.1) HN.out.1).trans HB.out.1;have hbe:=(hu.block _ (heap_lt HB.out.2) HN.out.2).trans HB.out.2;have z1:=cell_at (j:=0) hbr rfl;have z2:=cell_at (j:=0) hbe rfl;have f1:=frozen_at 0 hbr;have f2:=frozen_at 0 hbe;have HY:=Lib.hid (hE.y ⟨heap_lt HB.out.1,HN.out.1⟩ ⟨heap_lt HB.out.2,HN.out.2⟩ (.int .u32 (endR M r code).1) (.int .i64 (endR M r code).2))
 have HC:Hid ((((w1.setCell ⟨cr,0,none⟩ (.int .u32 (endR M r code).1)).setCell ⟨ce,0,none⟩ (.int .i64 (endR M r code).2)).cell? ⟨cr,0,none⟩=some (.int .u32 (endR M r code).1)) /\
   (((w1.setCell ⟨cr,0,none⟩ (.int .u32 (endR M r code).1)).setCell ⟨ce,0,none⟩ (.int .i64 (endR M r code).2)).cell? ⟨ce,0,none⟩=some (.int .i64 (endR M r code).2))):=by
  have e1:((w1.setCell ⟨cr,0,none⟩ (.int .u32 (endR M r code).1)).setCell ⟨ce,0,none⟩ (.int .i64 (endR M r code).2)).heap[cr]?=(w1.setCell ⟨cr,0,none⟩ (.int .u32 (endR M r code).1)).heap[cr]?:=heap_set_ne hne;rw [heap_set_eq hbr] at e1;have e2:(w1.setCell ⟨cr,0,none⟩ (.int .u32 (endR M r code).1)).heap[ce]?=w1.heap[ce]?:=heap_set_ne (Ne.symm hne);exact ⟨cell_at e1 rfl,cell_at (heap_set_eq (e2.trans hbe) _) rfl⟩
 clear hE hk hu hs hbr hbe;generalize ha:(endR M r code).1=a at HY HC;generalize hc:(endR M r code).2=c at HY HC;have HA:=Lib.hid (And.intro ha hc);clear ha hc;go_wp2_with fail;go_end0;exact ⟨rfl,by rw [HA.out.1];exact HC.out.1,by rw [HA.out.2];exact HC.out.2,HY.out⟩
end Go.Proofs.YtfkopmhpppeheaaGreat
