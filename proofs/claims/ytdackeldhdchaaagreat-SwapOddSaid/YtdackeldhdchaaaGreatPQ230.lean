import Derived.Test.YtdackeldhdchaaaGreatPQ229
import Derived.Test.YtdackeldhdchaaaGreatPQ226
import Derived.Test.YtdackeldhdchaaaGreatPQ27
import Derived.Test.YtdackeldhdchaaaGreatPQ228
import Derived.Test.YtdackeldhdchaaaGreatPQ225
import Derived.Test.YtdackeldhdchaaaGreatPQ216
import Derived.Test.YtdackeldhdchaaaGreatPQ224
import Derived.Maps.OwnSet
set_option maxRecDepth 100000
set_option maxHeartbeats 6400000
namespace Go.Proofs.YtdackeldhdchaaaGreat
open Go.RowKit Go.Maps Go.ChangeMaps Go.WideShapes
theorem azc {W:World} {mb:Nat} (h:W.heap[mb]?=some (.map #[] 0)):W.ownsMap Tryz.prog 148 (plainElem (H:=Unit) Tryz.prog 3) mb 0 (.map []):=by
 obtain ⟨es,clock,q1,q2,q3,q4⟩:=World.ownsMap_made W Tryz.prog 148 (plainElem (H:=Unit) Tryz.prog 3);rw [heap_alloc_new] at q1;cases q1;exact ⟨#[],0,h,q2,Nat.zero_le _,rfl⟩
theorem aOA (w:World) (o1 o2 o3 o4 o5 o6 o7:Obj) {w7:World} (hw:((((((w.alloc o1).alloc o2).alloc o3).alloc o4).alloc o5).alloc o6).alloc o7=w7):w7.heap[w.heap.size]?=some o1/\w7.heap[w.heap.size+1]?=some o2/\w7.heap[w.heap.size+1+1]?=some o3/\w7.heap[w.heap.size+1+1+1]?=some o4 /\
  w7.heap[w.heap.size+1+1+1+1]?=some o5/\w7.heap[w.heap.size+1+1+1+1+1]?=some o6/\w7.heap[w.heap.size+1+1+1+1+1+1]?=some o7/\Upd [] w w7:=by
 subst hw;have n1:=heap_alloc_new w o1;have n2:=heap_alloc_new (w.alloc o1) o2;have n3:=heap_alloc_new ((w.alloc o1).alloc o2) o3;have n4:=heap_alloc_new (((w.alloc o1).alloc o2).alloc o3) o4;have n5:=heap_alloc_new ((((w.alloc o1).alloc o2).alloc o3).alloc o4) o5;have n6:=heap_alloc_new (((((w.alloc o1).alloc o2).alloc o3).alloc o4).alloc o5) o6;have n7:=heap_alloc_new ((((((w.alloc o1).alloc o2).alloc o3).alloc o4).alloc o5).alloc o6) o7
 have old:∀ (z:World) (o:Obj) {k:Nat} {x:Obj},z.heap[k]?=some x->(z.alloc o).heap[k]?=some x:=fun z o k x h=>(heap_alloc_old z o (aa4 h)).trans h
 simp only [World.size_alloc] at n2 n3 n4 n5 n6 n7
 exact ⟨old _ _ (old _ _ (old _ _ (old _ _ (old _ _ (old _ _ n1))))),old _ _ (old _ _ (old _ _ (old _ _ (old _ _ n2)))),old _ _ (old _ _ (old _ _ (old _ _ n3))),old _ _ (old _ _ (old _ _ n4)),old _ _ (old _ _ n5),old _ _ n6,n7,(((((((Upd.refl [] w).alloc o1).alloc o2).alloc o3).alloc o4).alloc o5).alloc o6).alloc o7⟩
structure azd (x y:Nat) (w0:World) (s8 s9:Value) (wc:World):Prop where
 ex:∃ xb yb:Nat,s8=.pointer (some ⟨xb,0,none⟩)/\s9=.pointer (some ⟨yb,0,none⟩)/\wc.heap[xb]?=some (.cells #[.int .i64 x] 3 (0,0))/\wc.heap[yb]?=some (.cells #[.int .i64 y] 3 (0,0))/\Upd [] w0 wc
theorem azd.of1 (x y:Nat) (w0:World):azd x y w0 (.pointer (some ⟨w0.heap.size,0,none⟩)) (.pointer (some ⟨w0.heap.size+1,0,none⟩)) ((w0.drew.alloc (.cells #[.int .i64 x] 3 (0,0))).alloc (.cells #[.int .i64 y] 3 (0,0))):=by
 have h:=heap_alloc_new (w0.drew.alloc (.cells #[.int .i64 x] 3 (0,0))) (.cells #[.int .i64 y] 3 (0,0));rw [World.size_alloc] at h;have h0:=heap_alloc_new w0.drew (.cells #[.int .i64 x] 3 (0,0));exact ⟨_,_,rfl,rfl,(heap_alloc_old _ _ (aa4 h0)).trans h0,h,((Upd.refl [] w0).drew.alloc _).alloc _⟩
theorem azd.of2 (x y:Nat) (w0:World):azd x y w0 (.pointer (some ⟨w0.heap.size+1,0,none⟩)) (.pointer (some ⟨w0.heap.size,0,none⟩)) ((w0.drew.alloc (.cells #[.int .i64 y] 3 (0,0))).alloc (.cells #[.int .i64 x] 3 (0,0))):=by
 have h:=heap_alloc_new (w0.drew.alloc (.cells #[.int .i64 y] 3 (0,0))) (.cells #[.int .i64 x] 3 (0,0));rw [World.size_alloc] at h;have h0:=heap_alloc_new w0.drew (.cells #[.int .i64 y] 3 (0,0));exact ⟨_,_,rfl,rfl,h,(heap_alloc_old _ _ (aa4 h0)).trans h0,((Upd.refl [] w0).drew.alloc _).alloc _⟩
structure aTf (b l:Nat) (K:KV) (w:World) (e:Ending) (w':World):Prop where
 ex:∃ n:Nat,e=.returned (.tuple #[.int .i64 n,.int .i64 ((K.A.places:Int)-2),.int .i64 0])/\Upd [] w w' /\
  ∀ (C:List CrV) (N:List (Nat × Nat)),aiH K l (K.order.getD l 0) (K.order.getD (l+1) 0) C->FrN K (K.order.getD l 0) (C.flatMap CrV.qs) N->n+2=K.A.used+N.length
theorem aEg (b l:Nat) (K:KV) (T:List DM) (q:abM) (w:World) (h:afF w b K T q) (hl:l+2<=K.vars) :
  Calls Tryz.prog 20 #[.pointer (some ⟨b,0,none⟩),.int .i64 l] w fun e w'=>aTf b l K w e w':=by
 have hmf:∀ (fn:Fn) (first cap:Array Value) (w:World),(Instr.makeFunc fn first cap).run Tryz.prog w=.ok (.func fn first cap) w:=fun _ _ _ _=>rfl
 have hmm:=@run_makeMap Tryz.prog
 have hsf:∀ (a:Addr) (m:Mode) (fn:Fn) (first cap:Array Value) (w:World),(store a (.func fn first cap) m).run Tryz.prog w=stored Tryz.prog w a (.func fn first cap) m:=fun a m fn first cap w=>run_store Tryz.prog w a _ m rfl
 have hvs:=h.ok.wf.vs;have hol:=h.ok.ord.pm.ol;have hb0:=heap_alloc_new w (.cells #[.pointer (some ⟨b,0,none⟩)] 40 (0,0));have hu0:Upd [] w (w.alloc (.cells #[.pointer (some ⟨b,0,none⟩)] 40 (0,0))):=(Upd.refl _ _).alloc _;obtain ⟨w0,hw0⟩ : ∃ w0,w.alloc (.cells #[.pointer (some ⟨b,0,none⟩)] 40 (0,0))=w0:=⟨_,rfl⟩;rw [hw0] at hb0 hu0;have HW0:=Lib.hid hw0;have HU0:=Lib.hid hu0;have HK:=Lib.hid h
 have HKB:Hid (∀ z,Upd [] w0 z->z.heap[w.heap.size]?=some (.cells #[.pointer (some ⟨b,0,none⟩)] 40 (0,0))):=fun z u=>(u.block _ (aa4 hb0) (by simp)).trans hb0
 have c0:w0.cell? ⟨w.heap.size,0,none⟩=some (.pointer (some ⟨b,0,none⟩)):=aac hb0 rfl;obtain ⟨x,hx⟩ : ∃ x,K.order[l]?=some x:=⟨_,List.getElem?_eq_getElem (by omega)⟩;obtain ⟨y,hy⟩ : ∃ y,K.order[l+1]?=some y:=⟨_,List.getElem?_eq_getElem (by omega)⟩
 have hxe:K.order.getD l 0=x:=by rw [List.getD_eq_getElem?_getD,hx];rfl
 have hye:K.order.getD (l+1) 0=y:=by rw [List.getD_eq_getElem?_getD,hy];rfl
 have HXY:=Lib.hid (And.intro hx (And.intro hy (And.intro hxe hye)));have HVR:=Lib.hid (aIb b K T q w0 (h.upd hu0 (by simp)).mem)
 have hl0:¬ ((l:Int)<0):=by omega
 have hl1:¬ ((K.vars:Int)-2<(l:Int)):=by omega
 have hkl:b<w.heap.size:=h.mem.lt b (abM.mem.2 (.inl rfl));have HKL:=Lib.hid h.mem.lt;have HOL:=Lib.hid hol;have hov:K.vars<=64:=hvs.2;obtain ⟨kv,hkv⟩ : ∃ kv,K.vars=kv:=⟨_,rfl⟩;have HKV:=Lib.hid hkv;rw [hkv] at HVR hl1 hov hl;clear h hb0 hu0 hw0 hx hy hxe hye hvs hol hkv
 go_enter Tryz.func20,Tryz.ntmps20
 go_wp2_with fail;rw [HW0.out];go_wp2_with fail;refine HVR.out.mono ?_;rintro e w1 ⟨rfl,rfl⟩;have HOR:=Lib.hid (atF b K T q w1 (HK.out.upd HU0.out (by simp)).mem (by have h1:K.vars=kv:=HKV.out;have h2:=HOL.out;omega) (by have h1:K.vars=kv:=HKV.out;have h2:=HOL.out;omega));rw [HOL.out] at HOR;go_wp2_with fail;refine HOR.out.mono ?_;rintro e w2 ⟨og,oc,rfl,abP,hu2⟩;rw [HKV.out]
 have rc:∀ i v:Nat,K.order[i]?=some v->w2.cell? ⟨og,i,none⟩=some (.int .i64 v):=fun i v hv=>abf abP (by simp only [acf,List.getElem?_map];rw [hv];rfl)
 have x0:=rc l x HXY.out.1;have x1:=rc (l+1) y HXY.out.2.1
 have a2V:(l:Int)<(kv:Int):=by omega
 have aAO:(l:Int)+1<(kv:Int):=by omega
 obtain ⟨l1,aNe⟩ : ∃ l1,l+1=l1:=⟨_,rfl⟩
 have a2W:wrap64 ((l:Int)+1)=(l1:Int):=by rw [<- aNe,IntWalk.wrap64_in _ (by omega)];omega
 have hwl:IntKind.i64.wrap ((l:Int)+1)=(l1:Int):=by rw [<- aNe,IntWalk.i64_in _ (by omega)];omega
 have aut:(l1:Int)<(kv:Int):=by omega
 rw [aNe] at x1;have HU2:=Lib.hid hu2;clear hu2 abP rc c0 aNe aAO;go_upto_region 6 with fail
 go_cut [8,9] from 31 to 39 (fun s8 s9 wc=>azd x y w2 s8 s9 wc)
 case first =>
  have HC0:Hid (∀ z,Upd [] w2 z->z.cell? ⟨og,l,none⟩=some (.int .i64 x)/\z.cell? ⟨og,l1,none⟩=some (.int .i64 y)):=fun z u=>⟨u.cell0 x0,u.cell0 x1⟩
  have HD1:=Lib.hid (azd.of1 x y w2);have HD2:=Lib.hid (azd.of2 x y w2);refine ahs (fun z=>z.cell? ⟨og,l,none⟩=some (.int .i64 x)/\z.cell? ⟨og,l1,none⟩=some (.int .i64 y)) (fun _=>True) [] (by kernel_rfl) ?_;have hS:=HC0.out _ (Upd.refl _ _).drew;have hE:True:=trivial;refine tkS 0 rfl hS (fun _=>hE) ?_;refine tkS 1 rfl hS (fun _=>hE) ?_;refine tkS 2 rfl hS (fun _=>hE) ?_;refine tkS 3 rfl hS (fun _=>hE) ?_;refine tkS 4 rfl hS (fun _=>hE) ?_;refine tkS 5 rfl hS (fun _=>hE) ?_;refine tkS 6 rfl hS (fun _=>hE) ?_;refine tkS 7 rfl hS (fun _=>hE) ?_;refine tkS 8 rfl hS (fun _=>hE) ?_;refine abZ (rs:=[9,10]) (by kernel_rfl) (by simp) ?_;refine aa7.cons rfl (fun Kx hK=>?_) ?_
  ·
   go_simp
   refine hK.out _ _ ⟨HC0.out _ ((Upd.refl _ _).drew.alloc _),fun _=>trivial⟩ (fun hHeld=>?_);clear hK Kx;obtain ⟨hS,hE⟩:=hHeld;have hE:=hE (by kernel_rfl)
   (try simp only [Act.put,List.setIfInBounds_toArray,List.set_cons_zero,List.set_cons_succ])
   refine abZ (rs:=[10]) (by kernel_rfl) (by simp) ?_;refine aa7.cons rfl (fun Kx hK=>?_) ?_
   rotate_left
   exact aa7.nil
   go_simp
   refine hK.out _ _ ⟨HC0.out _ (((Upd.refl _ _).drew.alloc _).alloc _),fun _=>trivial⟩ (fun hHeld=>?_);clear hK Kx;obtain ⟨hS,hE⟩:=hHeld;have hE:=hE (by kernel_rfl)
   (try simp only [Act.put,List.setIfInBounds_toArray,List.set_cons_zero,List.set_cons_succ])
   refine abZ (rs:=[11]) (by kernel_rfl) (by simp) ?_;refine aa7.cons rfl (fun Kx hK=>?_) ?_
   rotate_left
   exact aa7.nil
   go_simp
   refine hK.out _ _ ⟨HC0.out _ (by repeat (first | exact Upd.refl _ _ | refine Upd.drew ?_ | refine Upd.alloc ?_ _ | (refine Upd.setCell ?_ (.inr (by simp)) _))),fun _=>trivial⟩ (fun hHeld=>?_);clear hK Kx;obtain ⟨hS,hE⟩:=hHeld;have hE:=hE (by kernel_rfl)
   (try simp only [Act.put,List.setIfInBounds_toArray,List.set_cons_zero,List.set_cons_succ])
   refine abZ (rs:=[12]) (by kernel_rfl) (by simp) ?_;refine aa7.cons rfl (fun Kx hK=>?_) ?_
   rotate_left
   exact aa7.nil
   go_simp
   refine hK.out _ _ ⟨HC0.out _ (by repeat (first | exact Upd.refl _ _ | refine Upd.drew ?_ | refine Upd.alloc ?_ _ | (refine Upd.setCell ?_ (.inr (by simp)) _))),fun _=>trivial⟩ (fun hHeld=>?_);clear hK Kx;obtain ⟨hS,hE⟩:=hHeld;have hE:=hE (by kernel_rfl)
   (try simp only [Act.put,List.setIfInBounds_toArray,List.set_cons_zero,List.set_cons_succ])
   refine afM (by kernel_rfl) ?_ _;clear hS hE;go_wp2_with fail;go_meet;exact HD1.out
  refine aa7.cons rfl (fun Kx hK=>?_) ?_
  rotate_left
  exact aa7.nil
  go_simp
  refine hK.out _ _ ⟨HC0.out _ ((Upd.refl _ _).drew.alloc _),fun _=>trivial⟩ (fun hHeld=>?_);clear hK Kx;obtain ⟨hS,hE⟩:=hHeld;have hE:=hE (by kernel_rfl)
  (try simp only [Act.put,List.setIfInBounds_toArray,List.set_cons_zero,List.set_cons_succ])
  refine abZ (rs:=[9]) (by kernel_rfl) (by simp) ?_;refine aa7.cons rfl (fun Kx hK=>?_) ?_
  rotate_left
  exact aa7.nil
  go_simp
  refine hK.out _ _ ⟨HC0.out _ (((Upd.refl _ _).drew.alloc _).alloc _),fun _=>trivial⟩ (fun hHeld=>?_);clear hK Kx;obtain ⟨hS,hE⟩:=hHeld;have hE:=hE (by kernel_rfl)
  (try simp only [Act.put,List.setIfInBounds_toArray,List.set_cons_zero,List.set_cons_succ])
  refine abZ (rs:=[11]) (by kernel_rfl) (by simp) ?_;refine aa7.cons rfl (fun Kx hK=>?_) ?_
  rotate_left
  exact aa7.nil
  go_simp
  refine hK.out _ _ ⟨HC0.out _ (by repeat (first | exact Upd.refl _ _ | refine Upd.drew ?_ | refine Upd.alloc ?_ _ | (refine Upd.setCell ?_ (.inr (by simp)) _))),fun _=>trivial⟩ (fun hHeld=>?_);clear hK Kx;obtain ⟨hS,hE⟩:=hHeld;have hE:=hE (by kernel_rfl)
  (try simp only [Act.put,List.setIfInBounds_toArray,List.set_cons_zero,List.set_cons_succ])
  refine abZ (rs:=[12]) (by kernel_rfl) (by simp) ?_;refine aa7.cons rfl (fun Kx hK=>?_) ?_
  rotate_left
  exact aa7.nil
  go_simp
  refine hK.out _ _ ⟨HC0.out _ (by repeat (first | exact Upd.refl _ _ | refine Upd.drew ?_ | refine Upd.alloc ?_ _ | (refine Upd.setCell ?_ (.inr (by simp)) _))),fun _=>trivial⟩ (fun hHeld=>?_);clear hK Kx;obtain ⟨hS,hE⟩:=hHeld;have hE:=hE (by kernel_rfl)
  (try simp only [Act.put,List.setIfInBounds_toArray,List.set_cons_zero,List.set_cons_succ])
  refine afM (by kernel_rfl) ?_ _;clear hS hE;go_wp2_with fail;go_meet;exact HD2.out
 case rest =>
  obtain ⟨xb,yb,rfl,rfl,hxb,hyb,hu3⟩:=hcut.ex;have h0:=aOA wc _ _ _ _ _ _ _ (rfl:(((((((wc.alloc (.map #[] 0)).alloc (.cells #[.map (some (wc.heap.size))] 138 (0,0))).alloc (.map #[] 0)).alloc (.cells #[.map (some (wc.heap.size+1+1))] 138 (0,0))).alloc (.map #[] 0)).alloc (.cells #[.map (some (wc.heap.size+1+1+1+1))] 139 (0,0))).alloc (.cells #[.nilFunc] 140 (0,0)))=_);have c6:=aac (j:=0) h0.2.2.2.2.2.2.1 rfl;have f6:=abq 0 h0.2.2.2.2.2.2.1;obtain ⟨w7,hw7⟩ : ∃ w7,(((((((wc.alloc (.map #[] 0)).alloc (.cells #[.map (some (wc.heap.size))] 138 (0,0))).alloc (.map #[] 0)).alloc (.cells #[.map (some (wc.heap.size+1+1))] 138 (0,0))).alloc (.map #[] 0)).alloc (.cells #[.map (some (wc.heap.size+1+1+1+1))] 139 (0,0))).alloc (.cells #[.func (Fn.func 66) #[] #[.pointer (some ⟨w.heap.size,0,none⟩),.pointer (some ⟨wc.heap.size+1+1+1+1+1,0,none⟩),.pointer (some ⟨xb,0,none⟩),.pointer (some ⟨yb,0,none⟩),.pointer (some ⟨wc.heap.size+1+1+1,0,none⟩),.pointer (some ⟨wc.heap.size+1,0,none⟩),.pointer (some ⟨wc.heap.size+1+1+1+1+1+1,0,none⟩)]] 140 (0,0)))=w7:=⟨_,rfl⟩;obtain ⟨b1,b2,b3,b4,b5,b6,b7,hu7⟩:=aOA wc _ _ _ _ _ _ _ hw7;have HW7:=Lib.hid hw7;have hUA:Upd [] w1 w7:=(HU2.out.trans hu3).trans hu7;have hxl:=aa4 hxb;have hyl:=aa4 hyb;have a2X:w.heap.size<wc.heap.size:=Nat.lt_of_lt_of_le (aa4 (HKB.out _ (Upd.refl _ _))) (HU2.out.trans hu3).size;obtain ⟨B,hB⟩ : ∃ B:RB,B=⟨w.heap.size,wc.heap.size+1+1+1+1+1,xb,yb,wc.heap.size+1+1+1,wc.heap.size+1,wc.heap.size+1+1+1+1+1+1,wc.heap.size+1+1+1+1,wc.heap.size+1+1,wc.heap.size⟩:=⟨_,rfl⟩
  have aTi:Hid (RWM w7 b B x y K T q (.map []) (.map []) (.map [])):=by
   subst hB;refine ⟨HK.out.upd (HU0.out.trans hUA) (by simp),HKB.out _ hUA,b6,(hu7.block _ hxl (by simp)).trans hxb,(hu7.block _ hyl (by simp)).trans hyb,b4,b2,b7,aF4 b5,azc b3,azc b1,fun k hk=>?_,?_,?_⟩
   ·have:=HKL.out k hk
    simp [RB.maps];omega
   ·simp [RB.maps];omega
   ·simp;omega
  have aTj:=Lib.hid (HU0.out.trans hUA)
  have HBE:Hid (B.maps=[wc.heap.size+1+1+1+1,wc.heap.size+1+1,wc.heap.size]/\B.wk=wc.heap.size+1+1+1+1+1+1/\B.mo=wc.heap.size+1/\B.hk=wc.heap.size+1+1+1/\B.mm=wc.heap.size/\B.kk=w.heap.size):=by
   show _/\_/\_/\_/\_/\_
   subst hB;exact ⟨rfl,rfl,rfl,rfl,rfl,rfl⟩
  have HCP:Hid (B.caps=#[.pointer (some ⟨w.heap.size,0,none⟩),.pointer (some ⟨wc.heap.size+1+1+1+1+1,0,none⟩),.pointer (some ⟨xb,0,none⟩),.pointer (some ⟨yb,0,none⟩),.pointer (some ⟨wc.heap.size+1+1+1,0,none⟩),.pointer (some ⟨wc.heap.size+1,0,none⟩),.pointer (some ⟨wc.heap.size+1+1+1+1+1+1,0,none⟩)]):=by
   show _=_
   subst hB;rfl
  have HRT:=Lib.hid (ayJ b K T q w7 (HK.out.upd aTj.out (by simp)));have k7:w7.cell? ⟨w.heap.size,0,none⟩=some (.pointer (some ⟨b,0,none⟩)):=aac (HKB.out _ hUA) rfl;have aXg:=Lib.hid (HU2.out.trans hu3);have kc:wc.cell? ⟨w.heap.size,0,none⟩=some (.pointer (some ⟨b,0,none⟩)):=aac (HKB.out _ aXg.out) rfl;clear h0 hw7 b1 b2 b3 b4 b5 b6 b7 hu7 hUA hxb hyb hu3 hxl hyl hB hcut x0 x1;go_upto_region 12 with fail;rw [HW7.out];generalize hRL:K.roots.length=RL at *;have HRL:=Lib.hid hRL;clear hRL;go_wp2_with fail;refine HRT.out.mono ?_;rintro e w8 ⟨rv,rfl,abP,hu8⟩;obtain ⟨ra,rcp,rfl,_⟩:=abI abP;have aep:=Lib.hid abP;have HU8:=Lib.hid (aTj.out.trans hu8);have aXh:=Lib.hid (aTi.out.keep hu8);have hwk:B.wk=wc.heap.size+1+1+1+1+1+1:=HBE.out.2.1;have HWK:=Lib.hid hwk
  have hrl:RL<=1048576:=by
   have h1:=HK.out.ok.wf.len;have h2:=HK.out.ok.wf.ul;have h3:=HK.out.ok.wf.ok.lp;have h4:=HK.out.ok.wf.ok.pm
   have h5:K.roots.length<=K.holds.length:=by unfold KV.roots;exact Nat.le_trans (List.length_filter_le _ _) (by simp)
   have h6:K.roots.length=RL:=HRL.out;omega
  clear abP hu8 hwk k7 kc;go_wp2_with fail
  go_loopg [47] RL (fun gg s47 wr=>∃ (i:Nat) (N:List Nat) (S H M:DM),RL-i=gg/\i<=RL/\s47=.int .i64 i/\ajL K [] (K.roots.take i) N/\RVs K x y N S H M/\RWM wr b B x y K T q S H M/\Upd B.maps w8 wr)
  case atStart=>exact ⟨0,[],_,_,_,by omega,by omega,rfl,ajL.nil _,⟨aq9.nil,ajK.nil,ajK.nil⟩,aXh.out,Upd.refl _ _⟩
  case round =>
   obtain ⟨i,N,S,H,M,rfl,hi,rfl,hL,hS,hM,hU⟩:=hrel
   by_cases hlt:i<RL
   ·have hil:(i:Int)<(RL:Int):=by omega
    obtain ⟨f,hf⟩ : ∃ f,K.roots[i]?=some f:=⟨_,List.getElem?_eq_getElem (by have:=HRL.out;omega)⟩;obtain ⟨g,rfl⟩:=aeP aep.out (by omega);have hg8:=(aep.out.lt g rfl)
    have hgm:g∉B.maps:=by
     rw [HBE.out.1];have h1:=hg8.1;have h2:=HW7.out
     have h3:wc.heap.size+1+1+1+1+1+1<w7.heap.size:=by rw [<- HWK.out];exact aa4 aTi.out.bw
     simp;omega
    have abP:=aaX aep.out fun k hk=>by
     simp [Value.ownBlock] at hk;subst hk
     exact hU.block _ hg8.2 hgm
    have cf:=abf abP (j:=i) (u:=.int .u32 f) (by simp [ach,hf]);have htk:=(HK.out.ok.wf.ht f (KV.mem_roots.1 (List.mem_of_getElem? hf))).2;have cw4:=aac (j:=0) hM.bw rfl;rw [HCP.out,HWK.out] at cw4;have hnd:=hL.nodup (by simp);have HC:=Lib.hid (aw0 b B x y K T q (K.vars+1) 0 (by omega) f N S H M wr hM hS (by simpa using hnd) htk (Nat.zero_le _));rw [HCP.out] at HC;have HL:=Lib.hid (And.intro hL (And.intro hf hU));clear hM hS hL hf hU abP htk hnd hg8 hgm;go_wp2_with fail;refine HC.out.mono ?_;rintro e w9 ⟨rfl,hQ⟩;obtain ⟨N1,S1,H1,M1,hN,hS1,hM1,hu1⟩:=hQ.ex
    have HE:Hid (ajL K [] (K.roots.take (i+1)) (N++N1)/\RVs K x y (N++N1) S1 H1 M1/\RWM w9 b B x y K T q S1 H1 M1/\Upd B.maps w8 w9):=by
     refine ⟨?_,hS1,hM1,HL.out.2.2.trans hu1⟩;rw [List.take_add_one,HL.out.2.1];exact HL.out.1.snoc (by simpa using hN)
    clear hQ hN hS1 hM1 hu1 HC cw4;go_wp2_with fail
    go_roundg (RL-(i+1))
    case measure=>omega
    case rel=>exact ⟨i+1,N++N1,S1,H1,M1,rfl,by omega,by simp,HE.out.1,HE.out.2.1,HE.out.2.2.1,HE.out.2.2.2⟩
   ·obtain rfl:i=RL:=by omega
    have hil:¬ ((i:Int)<(i:Int)):=by omega
    obtain ⟨ud,hud⟩ : ∃ ud,K.A.used=ud+2:=⟨K.A.used-2,by have h1:=KV.used_ge HK.out.ok.wf (l:=[0,1]) (by simp) (by intro x hx;simp at hx;rcases hx with rfl | rfl;exact HK.out.ok.wf.ok.tk01.1;exact HK.out.ok.wf.ok.tk01.2);simp at h1;omega⟩;have aJn:=ayI b K T q wr hM.ker.mem;rw [show ((K.A.used:Nat):Int)-2=(ud:Int) by omega] at aJn;have HUD:=Lib.hid hud;have HLV:=Lib.hid aJn
    have a2Z:ud<=1048576:=by have h1:=HK.out.ok.wf.ok.us;have h2:=HK.out.ok.wf.ok.lp;have h3:=HK.out.ok.wf.ok.pm;omega
    clear aJn hud;have HND:=Lib.hid (aEe b K T q)
    have hWL:ajL K [] K.roots N:=by
     have h1:K.roots.take i=K.roots:=List.take_of_length_le (by have h:K.roots.length=i:=HRL.out;omega)
     rw [h1] at hL;exact hL
    have HWL:=Lib.hid (hWL.all HK.out.ok);have HM:=Lib.hid (And.intro hS (And.intro hM hU))
    have ckk:wr.cell? ⟨w.heap.size,0,none⟩=some (.pointer (some ⟨b,0,none⟩)):=by
     have h:=aac (j:=0) hM.bk rfl
     rw [HBE.out.2.2.2.2.2] at h;exact h
    have cmo:wr.cell? ⟨wc.heap.size+1,0,none⟩=some (.map (some B.mm)):=by
     have h:=aac (j:=0) hM.bm rfl
     rw [HBE.out.2.2.1] at h;exact h
    have aCL:=hM.mm;clear hL hS hM hU hWL;go_wp2_with fail;refine HLV.out.mono ?_;rintro e w9 ⟨rfl,rfl⟩;have aNf:=arM HM.out.1.m (aCL.canon ae3) (aCL.tidy ae3);have aZ6:=aH6 HM.out.1.m (aCL.canon ae3) (aCL.tidy ae3)
    go_wp2_with (first
     | (at_range;refine wpList_range_own _ rfl _ 138 rfl 148 3 ae3 Tryz.underlying138 _ B.mm (Maps.size M) M rfl aCL ?_;intro w10 aFz hg0 hs0)
     | go_in)
    go_frame
    go_loopw [16] (fun s16 wr=>∃ (left:Lit->Bool) (cnt:Nat) (ps:List (Nat × Nat)),wr.ranges Tryz.prog 148 (plainElem Tryz.prog 3) B.mm w9.heap.size (Maps.size M) M left cnt/\ps.length+cnt<=Maps.size M/\aw1 (N.flatMap (K.moreQ x y)) left ps/\s16=.int .i64 ((ud+aqR (N.flatMap (K.haveQ x)) ps:Nat))/\Upd [] w9 wr)
     (fun _ wr=>wr.rangeLeft B.mm w9.heap.size)
    case atStart=>exact ⟨_,_,[],aFz,by simp,aw1.start HM.out.1.m,by simp [aqR],(Upd.refl [] w9).grown hg0 (by simp)⟩
    case round =>
     obtain ⟨left,cnt,ps,hrg,hcs,hC,rfl,hU⟩:=hrel;have hcl:=aNa (N.flatMap (K.haveQ x)) ps
     go_wp2_with (first
      | (at_next;refine wpList_next_ranges _ rfl _ rfl 148 ae3 (plainElem Tryz.prog 3) id (Value.int .i64) (fun key kl hk=>⟨key,rfl⟩) (fun v y hv=>by obtain ⟨c,rfl,_⟩:=plainElem_int_inv Tryz.underlying3 hv;exact ⟨c,rfl⟩) B.mm w9.heap.size (Maps.size M) _ _ _ rfl hrg ?_ ?_)
      | go_in)
     ·intro hc0 hl0
      have aPj:Hid (∀ (C:List CrV) (N':List (Nat × Nat)),aiH K l (K.order.getD l 0) (K.order.getD (l+1) 0) C->FrN K (K.order.getD l 0) (C.flatMap CrV.qs) N'->(ud+aqR (N.flatMap (K.haveQ x)) ps)+2=K.A.used+N'.length):=fun C N' CA F=>by
       rw [HXY.out.2.2.1] at CA F;rw [HXY.out.2.2.2] at CA;have h1:=aF2 HK.out.ok HWL.out HM.out.1.m hC hl0 CA F;have h2:K.A.used=ud+2:=HUD.out;omega
      have aTm:=(HM.out.2.1.keep hU).ker;have HN9:=Lib.hid (HND.out _ aTm.mem);have ck:=hU.cell0 ckk
      have HUZ:Hid (Upd [] w _):=HU8.out.then (HM.out.2.2.trans (hU.mono (by simp))) fun k hk=>.inr (by
       rw [HBE.out.1] at hk;simp at hk;omega)
      generalize aqR (N.flatMap (K.haveQ x)) ps=cn at *;clear hC hrg hcs hU aTm hl0 aFz hg0 hs0 aCL aNf;go_wp2_with fail;refine HN9.out.mono ?_;rintro e w12 ⟨rfl,rfl⟩;have a3d:2<=K.A.places:=HK.out.ok.wf.ok.p2;have a3e:K.A.places<=1048576:=HK.out.ok.wf.ok.pm;go_wp2_with fail;refine bodyPost_ret (v:=.tuple #[.int .i64 ((ud+cn:Nat)),.int .i64 ((K.A.places:Int)-2),.int .i64 0]) (by simp [results,Tryz.results20,go_sem]) rfl ?_;exact ⟨_,rfl,HUZ.out,aPj.out⟩
     ·intro xk c kl yd yp w11 aQg aiQ hlk hv hat aKP aAO hg1 hs1 hen
      obtain ⟨ka,kb,rfl,hka,hkb⟩:=HM.out.1.m.dom kl (has_true_of_atKey hat);have hxk:=ae3.inj aiQ (ay7 (a:=ka) (b:=kb) (by omega) (by omega));have hQ:(ka,kb)∈N.flatMap (K.moreQ x y):=(HM.out.1.m.has ka kb (by omega) (by omega)).1 (has_true_of_atKey hat);have hC1:=hC.step hka hkb hQ hlk;subst hxk;obtain ⟨cv,ecv,_,_⟩:=plainElem_int_inv Tryz.underlying3 hv;have hbx:=heap_alloc_new w11 (.cells #[.int .u32 ka,.int .u32 kb] 148 (0,0))
      have aKQ:Upd [] w9 w11:=hU.grown hg1 fun k hk=>.inr (by simp at hk;omega)
      have aIc:Upd [] w11 (w11.alloc (.cells #[.int .u32 ka,.int .u32 kb] 148 (0,0))):=(Upd.refl _ _).alloc _;have aDm:=aKP.alloc (.cells #[.int .u32 ka,.int .u32 kb] 148 (0,0));obtain ⟨w12,aKU⟩ : ∃ w12,w11.alloc (.cells #[.int .u32 ka,.int .u32 kb] 148 (0,0))=w12:=⟨_,rfl⟩;rw [aKU] at hbx aIc aDm;have aQh:=Lib.hid aKU;have aKW:=HM.out.2.1.keep (aKQ.trans aIc);have x0:=aac (j:=0) hbx rfl;have x1:=aac (j:=1) hbx rfl
      have cho:w12.cell? ⟨wc.heap.size+1+1+1,0,none⟩=some (.map (some B.hm)):=by
       have h:=aac (j:=0) aKW.bh rfl
       rw [HBE.out.2.2.2.1] at h;exact h
      obtain ⟨c2,aDA,aqP,_⟩:=aKW.mh.lookup_int ae3 Tryz.underlying138 Tryz.underlying3 (aCI _) (ay7 (a:=ka) (b:=kb) (by omega) (by omega));have HR2:=Lib.hid (And.intro aDm (And.intro hC1 (And.intro (aKQ.trans aIc) (And.intro aAO hcs))));have hme:=aKP.left_eq;have aQi:=hrg.left_eq
      have HME:Hid (w12.rangeLeft B.mm w9.heap.size<wr.rangeLeft B.mm w9.heap.size):=by
       show _<_
       rw [aDm.left_eq,hrg.left_eq];exact aAO
      have hpl:ps.length+1<=Maps.size M:=by omega
      by_cases hab:ka=kb
      ·subst hab
       have hne:((ka:Int) != (ka:Int))=false:=by simp
       have HCN:Hid (aqR (N.flatMap (K.haveQ x)) (ps++[(ka,ka)])=aqR (N.flatMap (K.haveQ x)) ps):=by
        show _=_
        rw [avX,if_neg (by simp)];rfl
       generalize aqR (N.flatMap (K.haveQ x)) ps=cn at *;clear hrg hC hU hat hg1 hs1 hbx aKQ aIc aKP aDm aKU aKW aqP hme aQi hQ hC1 aiQ hlk hv aFz hg0 hs0 aCL aNf;go_upto_region 21 with fail;rw [aQh.out];go_wp2_with fail
       go_roundw
       case rel=>exact ⟨_,aQg,ps++[(ka,ka)],HR2.out.1,by have:=HR2.out.2.2.2.1;simp;omega,HR2.out.2.1,by rw [HCN.out];simp,HR2.out.2.2.1⟩
       case measure=>exact HME.out
      ·have hne:((ka:Int) != (kb:Int))=true:=by simp;omega
       have hh:=HM.out.1.h.has ka kb (by omega) (by omega)
       by_cases hin:(ka,kb)∈N.flatMap (K.haveQ x)
       ·have hc2:c2=1:=by
         have:=HM.out.1.h.at_ ka kb (by omega) (by omega) (hh.2 hin) (.lit (.int .i64 0));rw [this] at aqP
         simpa using aqP.symm
        subst hc2
        have HCN:Hid (aqR (N.flatMap (K.haveQ x)) (ps++[(ka,kb)])=aqR (N.flatMap (K.haveQ x)) ps):=by
         show _=_
         rw [avX,if_neg (fun h=>h.2 hin)];rfl
        generalize aqR (N.flatMap (K.haveQ x)) ps=cn at *;clear hrg hC hU hat hg1 hs1 hbx aKQ aIc aKP aDm aKU aKW aqP hme aQi hQ hC1 aiQ hlk hv aFz hg0 hs0 aCL aNf hh hin;go_upto_region 21 with fail;rw [aQh.out];go_wp2_with fail
        go_roundw
        case rel=>exact ⟨_,aQg,ps++[(ka,kb)],HR2.out.1,by have:=HR2.out.2.2.2.1;simp;omega,HR2.out.2.1,by rw [HCN.out];simp,HR2.out.2.2.1⟩
        case measure=>exact HME.out
       ·have hno:Maps.has H (lk ka kb)=false:=by
         cases e:Maps.has H (lk ka kb) with
         | false=>rfl
         | true=>exact absurd (hh.1 e) hin
        have hc2:c2=0:=by
         rw [atKey_of_not_has hno] at aqP
         simpa using aqP.symm
        subst hc2
        have HCN:Hid (aqR (N.flatMap (K.haveQ x)) (ps++[(ka,kb)])=aqR (N.flatMap (K.haveQ x)) ps+1):=by
         show _=_
         rw [avX,if_pos ⟨hab,hin⟩]
        generalize aqR (N.flatMap (K.haveQ x)) ps=cn at *;clear hrg hC hU hat hg1 hs1 hbx aKQ aIc aKP aDm aKU aKW aqP hme aQi hQ hC1 aiQ hlk hv aFz hg0 hs0 aCL aNf hh hin hno;go_upto_region 21 with fail;rw [aQh.out];go_wp2_with fail
        go_roundw
        case rel=>exact ⟨_,aQg,ps++[(ka,kb)],HR2.out.1,by have:=HR2.out.2.2.2.1;simp;omega,HR2.out.2.1,by rw [HCN.out];simp;omega,HR2.out.2.2.1⟩
        case measure=>exact HME.out
theorem aun.exists {K:KV} {l x y r:Nat} (nb:Nb K l x y) (hc:K.Cross x y r):∃ c:CrV,c.r=r/\aun K l x y c:=by
 obtain ⟨p,a00,a01,a10,a11,h⟩:=nb.four hc;have hc':=hc;obtain ⟨_,p',hp,_,hv,_⟩:=hc'
 have e:p=p':=by have:=h.at_;rw [hp] at this;exact (Option.some.inj this).symm
 subst e;exact ⟨⟨r,p.lo,p.hi,a00,a01,a10,a11⟩,rfl,hc,p,h,hv,rfl,rfl⟩
theorem aiH.exists {K:KV} {l x y:Nat} (nb:Nb K l x y):∃ C,aiH K l x y C:=by
 classical
 have step:∀ n,∃ C:List CrV,(∀ c,c∈C->aun K l x y c/\c.r<n)/\(C.map CrV.r).Nodup/\∀ r,r<n->K.Cross x y r->r∈C.map CrV.r:=by
  intro n
  induction n with
  | zero=>exact ⟨[],by simp,by simp,fun r h=>by omega⟩
  | succ n ih =>
   obtain ⟨C,h1,h2,h3⟩:=ih
   by_cases hc:K.Cross x y n
   ·obtain ⟨c,hr,hok⟩:=aun.exists nb hc
    refine ⟨C++[c],fun d hd=>?_,?_,fun r hr' hcr=>?_⟩
    ·rcases List.mem_append.1 hd with h | h
     ·have:=h1 d h;exact ⟨this.1,by omega⟩
     ·simp at h;subst h;exact ⟨hok,by omega⟩
    ·rw [List.map_append,List.nodup_append]
     refine ⟨h2,by simp,fun a ha b hb=>?_⟩
     simp at hb
     obtain ⟨d,hd,rfl⟩:=List.mem_map.1 ha;have:=(h1 d hd).2;omega
    ·rw [List.map_append]
     by_cases e:r=n
     ·subst e;exact List.mem_append.2 (.inr (by simp [hr]))
     ·exact List.mem_append.2 (.inl (h3 r (by omega) hcr))
   ·exact ⟨C,fun d hd=>⟨(h1 d hd).1,by have:=(h1 d hd).2;omega⟩,h2,fun r hr hcr=>h3 r (by
     by_cases e:r=n
     ·subst e;exact absurd hcr hc
     ·omega) hcr⟩
 obtain ⟨C,h1,h2,h3⟩:=step K.A.list.length
 exact ⟨C,fun c hc=>(h1 c hc).1,h2,fun r hr=>h3 r (by
  obtain ⟨_,p,hp,_⟩:=hr
  exact (List.getElem?_eq_some_iff.1 hp).1) hr⟩
theorem aNh (b l:Nat) (K:KV) (F:List Nat) (M:MV) (w:World) (h:ad1 w b K F) (hm:KM K M) (hl:l+2<=K.vars) :
  Calls Tryz.prog 20 #[.pointer (some ⟨b,0,none⟩),.int .i64 l] w fun e w'=>e=.returned (.tuple #[.int .i64 (M.U l:Nat),.int .i64 ((M.c:Int)-2),.int .i64 0])/\Upd [] w w':=by
 have hu:=h.uni;have hok:=h.ok;obtain ⟨T,q,hk,rfl⟩:=h;refine (aEg b l K T q w hk hl).mono ?_;rintro e w' hE;obtain ⟨n,rfl,hu',hn⟩:=hE.ex;refine ⟨?_,hu'⟩;have nb:=hok.nb hu hl;obtain ⟨C,CA⟩:=aiH.exists nb;obtain ⟨N,FN⟩:=FrN.exists K (K.order.getD l 0) (C.flatMap CrV.qs);have h1:=hn C N CA FN;have h2:=hm.agr.U nb hm.n16 CA FN;have h3:=hm.agr.c
 have e1:n=M.U l:=by omega
 rw [e1,h3]
def MV.backN (j:Nat) (M:MV):MV:=Nat.repeat MV.undo j M
theorem MV.backN_succ (j:Nat) (M:MV):MV.backN (j+1) M=(MV.backN j M).undo:=rfl
theorem MV.backN_len (M:MV):∀ j,(MV.backN j M).trail.length=M.trail.length-j
 | 0=>rfl
 | j+1=>by
  rw [MV.backN_succ]
  show (MV.backN j M).trail.dropLast.length=_
  rw [List.length_dropLast,MV.backN_len M j];omega
structure aTn (b tr:Nat) (K:KV) (F:List Nat) (M:MV) (w:World) (e:Ending) (w':World):Prop where
 ex:∃ (K':KV) (F':List Nat),e=.returned (.tuple #[.int .i64 (M.trail.length-tr:Nat),.int .i64 0])/\ad1 w' b K' F'/\KM K' (MV.backN (M.trail.length-tr) M)/\aps K K'/\Stp F w F' w'
theorem aNi (b tr:Nat) (K:KV) (F:List Nat) (M:MV) (w:World) (h:ad1 w b K F) (hm:KM K M) (ht:M.trail.length<=1000000) (htr:tr<=M.trail.length) :
  Calls Tryz.prog 21 #[.pointer (some ⟨b,0,none⟩),.int .i64 tr] w fun e w'=>aTn b tr K F M w e w':=by
 have e0:K.trail.length=M.trail.length:=by rw [hm.tr]
 refine (aH3 b tr (fun K2=>aps K K2/\∃ i,KM K2 (MV.backN i M)/\K2.trail.length+i=M.trail.length) K F w h ⟨aps.refl _,0,hm,by omega⟩ (by omega) (by omega) fun z K2 F2 hz hp hlt hlen=>?_).mono ?_
 ·obtain ⟨hs,i,hk,hi⟩:=hp
  have hl:(MV.backN i M).trail.length=K2.trail.length:=by rw [hk.tr]
  refine (aM4 b K2 F2 _ z hz hk (by omega) (fun h0=>by rw [h0] at hl;simp at hl;omega)).mono ?_;rintro e w' ⟨rfl,hv⟩;obtain ⟨K3,F3,h1,h2,h3,h4,h5⟩:=hv.ex;refine ⟨_,K3,F3,rfl,h1,⟨h4,h5⟩,⟨hs.trans h3,i+1,h2,?_⟩,?_⟩
  ·have:K3.trail.length=(MV.backN (i+1) M).trail.length:=by rw [h2.tr,MV.backN_succ]
   rw [MV.backN_len] at this;omega
  ·have:K3.trail.length=(MV.backN (i+1) M).trail.length:=by rw [h2.tr,MV.backN_succ]
   rw [MV.backN_len] at this;omega
 ·rintro e w' hE
  obtain ⟨K',F',rfl,h1,h2,⟨h3,i,h4,h5⟩,h6⟩:=hE.ex
  have:i=M.trail.length-tr:=by omega
  subst this;exact ⟨K',F',by rw [e0],h1,h4,h3,h2⟩
def chT:TV:=⟨3,[216]⟩
def M15:MV:=(aqQ 3 10 [chT]).1
theorem aKX:chT.Ok:=by
 refine ⟨by decide,by decide,fun x hx=>?_,fun _ x hx i hi=>?_⟩
 ·simp [chT] at hx;subst hx;unfold U64;omega
 ·simp [chT] at hx;subst hx
  have h8:8<=i:=by simpa [chT] using hi
  exact Nat.testBit_lt_two_pow (Nat.lt_of_lt_of_le (by decide:(216:Int).toNat<2 ^ 8) (Nat.pow_le_pow_right (by decide) h8))
theorem aKY:M15.live=3/\M15.U 0=5/\M15.c=10/\M15.exchE 0=0/\M15.tryV 0=(0,3,4)/\(M15.exch 0).trail.length=1/\M15.trail.length=0:=by decide +kernel
theorem aK2:(MV.backN 1 (M15.exch 0)).trail.length=0/\((MV.backN 1 (M15.exch 0)).playV [0,1]).2.1=0/\((MV.backN 1 (M15.exch 0)).playV [0,1]).1=[(0,3,4),(1,4,5)]:=by decide +kernel
def MV.wid (M:MV) (v:Nat):Nat:=(M.lev.getD (M.lvl v) []).length
theorem aEh (m v:Nat) (M:MV) (p:acd) (Z:List Nat) (w:World) (h:aef w m M p Z) (hZ:∀ k,k∈Z->k<w.heap.size) (hf:M.Fit) (hv:v∈M.order) :
  Calls Tryz.prog 127 #[.pointer (some ⟨m,0,none⟩),.int .i64 v] w fun e w'=>e=.returned (.int .i64 (M.wid v))/\Upd [] w w':=by
 have hl1:=(MV.lvl_at hv).1;have hll:M.lev.length=M.order.length:=aqV _ _;have HL:=Lib.hid (aD4 m v M p Z w h hv (by have:=hf.ol;omega));have HS:=Lib.hid (aue m M p Z w h hZ hf);obtain ⟨l,hl⟩ : ∃ l,M.lev[M.lvl v]?=some l:=⟨_,List.getElem?_eq_getElem (by omega)⟩
 have HW:Hid (M.wid v=l.length):=by show _=_;unfold MV.wid;rw [List.getD_eq_getElem?_getD,hl];rfl
 have hi:(M.lvl v:Int)<(M.lev.length:Int):=by omega
 have hlv:M.lvl v<M.lev.length:=by omega
 have h64:M.lvl v<=64:=by have:=hf.ol;omega
 generalize M.lvl v=L at *;have HLL:=Lib.hid hl;clear h hZ hf hv hl hl1 hll
 go_enter Tryz.func127,Tryz.ntmps127
 go_wp2_with fail;refine HL.out.mono ?_;rintro e w1 ⟨rfl,rfl⟩;go_wp2_with fail;refine HS.out.mono ?_;rintro e w2 hE;obtain ⟨tv,rfl,hT,hu⟩:=hE.ex;obtain ⟨ta,tc,rfl,hta⟩:=hT.form;obtain ⟨tg,rfl⟩:=hta (by omega);obtain ⟨c,q1,q2⟩:=hT.at_ HLL.out;obtain ⟨ca,cc,rfl,_⟩:=q2.form;have HU:=Lib.hid hu;clear hE hT hta q2 hu;go_wp2_with fail;go_ret;exact ⟨by rw [HW.out];rfl,HU.out⟩
theorem aEj (tb:Nat) (F:List Nat) (v:Nat) (T:List DM) (D:DM) (w:World) (h:afl w tb T F) (hv:T[v]?=some D) :
  Calls Tryz.prog 176 #[.pointer (some ⟨tb,0,none⟩),.int .i64 v] w fun e w'=>e=.returned (.tuple #[.int .i64 (Maps.size D),.int .i64 0])/\Upd [] w w':=by
 have hvl:=(List.getElem?_eq_some_iff.1 hv).1;have hbd:=h.bd;obtain ⟨g,cap,m,hf1,hf2,hf3,hc0,hc1,ho⟩:=h.cells hv;have hl:=h.lt;have HT:=Lib.hid h;have HO:=Lib.hid ho
 have hi:(v:Int)<(T.length:Int):=by omega
 clear h ho hl hv
 go_enter Tryz.func176,Tryz.ntmps176
 go_wp2_with fail;refine (aoa tb F v T _ HT.out (by omega) (by omega)).mono ?_;rintro e w1 ⟨rfl,rfl⟩;go_wp2_with fail;rw [World.ownsMap.len HO.out Tryz.underlying219 3];go_wp2_with fail;go_ret2;exact ⟨rfl,Upd.refl _ _⟩
theorem aK3 (b v:Nat) (K:KV) (T:List DM) (q:abM) (D:DM) (w:World) (h:afF w b K T q) (hv:v<K.vars) (hT:T[v]?=some D) :
  Calls Tryz.prog 126 #[.pointer (some ⟨b,0,none⟩),.int .i64 v] w fun e w'=>e=.returned (.tuple #[.int .i64 (Maps.size D),.int .i64 0])/\Upd [] w w':=by
 have c1:w.cell? ⟨b,1,none⟩=some (.pointer (some ⟨q.t,0,none⟩)):=aac h.mem.blk rfl;have HV:=Lib.hid (ahN b v K T q w h.mem);rw [show K.isVar v=true by simp [KV.isVar,hv]] at HV;have HC:=Lib.hid (aEj q.t q.FT v T D w h.mem.tab hT);clear h hT
 go_enter Tryz.func126,Tryz.ntmps126
 go_wp2_with fail;refine HV.out.mono ?_;rintro e w1 ⟨rfl,rfl⟩;go_wp2_with fail;refine HC.out.mono ?_;rintro e w2 ⟨rfl,hu⟩;have HU:=Lib.hid hu;clear hu;go_wp2_with fail;go_ret2;exact ⟨rfl,HU.out⟩
theorem aCM {D:DM} {es:List (Lit × DM)} (e:D=.map es) {ks:List Lit} (hn:ks.Nodup) (h:∀ k,k∈ks->Maps.has D k=true):ks.length<=Maps.size D:=by
 subst e
 have arN:ks ⊆ es.map (·.1):=by
  intro k hk
  have:=h k hk
  simp only [Maps.has,List.any_eq_true] at this
  obtain ⟨p,hp,hs⟩:=this;exact List.mem_map.2 ⟨p,hp,WideAt.sameKey_eq hs⟩
 have:=List.Nodup.length_le_of_subset hn arN
 simpa [Maps.size] using this
def KV.nodesV (K:KV) (v:Nat):List Nat:=K.nodes.filter fun r=>decide (K.vI r=(v:Int))
theorem KV.mem_nodesV {K:KV} {v r:Nat}:r∈K.nodesV v↔2<=r/\K.A.tk r=true/\K.vI r=(v:Int):=by
 unfold KV.nodesV;rw [List.mem_filter,KV.mem_nodes,decide_eq_true_eq,and_assoc]
theorem afg.sizeV {T:List DM} {K:KV} (h:afg T K []) (hw:K.Wf []) {v:Nat} {D:DM} (hv:T[v]?=some D) (hc:Maps.Canon D) (ht:Tidy D):Maps.size D=(K.nodesV v).length:=by
 have hnd:(K.nodesV v).Nodup:=List.Pairwise.filter _ K.nodes_nodup
 have key:∀ r,r∈K.nodesV v->∃ p,2<=r/\K.A.list[r]?=some p/\p.taken=true/\p.var=(v:Int):=fun r hr=>by
  obtain ⟨h2,h3,h4⟩:=KV.mem_nodesV.1 hr;obtain ⟨p,hp,hpt⟩:=aaU.tk_iff.1 h3;rw [KV.vI_at hp] at h4;exact ⟨p,h2,hp,hpt,h4⟩
 let kf:Nat->Lit:=fun r=>match K.A.list[r]? with | some p=>nkp p | none=>nk 0 0 0
 have kfe:∀ r p,K.A.list[r]?=some p->kf r=nkp p:=fun r p hp=>by show (match K.A.list[r]? with | some p=>nkp p | none=>nk 0 0 0)=_;rw [hp]
 have hkn:((K.nodesV v).map kf).Nodup:=by
  refine List.pairwise_map.2 (List.Pairwise.imp_of_mem (fun {a b} ha hb hne e=>hne ?_) hnd);obtain ⟨p,h2,hp,hpt,_⟩:=key a ha;obtain ⟨c,h2',hc',hct,_⟩:=key b hb;rw [kfe a p hp,kfe b c hc'] at e;exact h.uniq hw h2 h2' hp hc' hpt hct (by simp) (by simp) e
 refine Nat.le_antisymm ?_ ?_
 ·have:=ai7 hc (ks:=(K.nodesV v).map kf) (fun k hk=>by
   obtain ⟨r,p,h2,hp,hpt,hpv,rfl,_⟩:=h.dom v D k hv hk
   exact List.mem_map.2 ⟨r,KV.mem_nodesV.2 ⟨h2,aaU.tk_iff.2 ⟨p,hp,hpt⟩,by rw [KV.vI_at hp];exact hpv⟩,kfe r p hp⟩) ht
  simpa using this
 ·obtain ⟨es,e,_⟩:=hc
  have:=aCM e hkn (fun k hk=>by
   obtain ⟨r,hr,rfl⟩:=List.mem_map.1 hk;obtain ⟨p,h2,hp,hpt,hpv⟩:=key r hr;rw [kfe r p hp]
   exact (h.at_ r p D h2 hp hpt (by simp) (by rw [hpv];exact hv)).1)
  simpa using this
theorem aGS:∀ (o:List Nat) (c:List TV) (i v:Nat),o[i]?=some v->(ag5 c o)[i]?=some (ae8 (ams c (o.take i)) v)
 | [],_,_,_,h=>by simp at h
 | x::o,c,0,v,h=>by simp at h;subst h;rfl
 | x::o,c,i+1,v,h=>by
  have:=aGS o (adG c x) i v (by simpa using h)
  show (ag5 (adG c x) o)[i]?=_
  rw [this];rfl
theorem aF6 {f g:(Nat->Bool)->Bool} {o:List Nat} {a:Nat->Bool} (h:∀ y,f y=g (mixO o a y)) {v:Nat} (hv:v∈o):¬ ahP f v:=by
 rintro ⟨y,hy⟩;refine hy ?_;rw [h,h]
 congr 1
 funext x
 unfold mixO;split
 ·rfl
 ·rename_i hx
  have:x≠v:=fun e=>hx (e ▸ hv)
  simp [upd,this]
theorem KV.Ok.node_var {K:KV} (hk:K.Ok) (hu:K.Uni) {r:Nat} (h2:2<=r) (ht:K.A.tk r=true):∃ v,v<K.vars/\K.vI r=(v:Int)/\ahP (K.tab r).fn v/\∀ x,x<K.vars->K.lev x<K.lev v->¬ ahP (K.tab r).fn x:=by
 have e:(K.tab r).fn=K.den r:=funext fun y=>hk.tab_fn ht y
 rw [e];obtain ⟨v,hv,hd,h3,h4⟩:=hk.node_hangs hu h2 ht;obtain ⟨p,u,hp,hpt,hpu,hul,_,_,hdu⟩:=hk.wf.node_at h2 ht;refine ⟨v,hv,?_,h3,h4⟩;have:u=v:=hk.ord.pm.inj hul hv (by rw [<- hd,<- hdu]);rw [KV.vI_at hp,hpu,this]
theorem KV.Ok.node_one {K:KV} (hk:K.Ok) (hu:K.Uni) {r x:Nat} {g:(Nat->Bool)->Bool} {a:Nat->Bool} (h2:2<=r) (ht:K.A.tk r=true) (hx:x<K.vars) (hh:ahP (K.tab r).fn x) (he:∀ y,(K.tab r).fn y=g (mixO (K.order.take (K.lev x)) a y)):K.vI r=(x:Int):=by
 obtain ⟨v,hv,e,h3,h4⟩:=hk.node_var hu h2 ht
 have:v=x:=by
  refine hk.ord.pm.inj hv hx ?_
  rcases Nat.lt_trichotomy (K.lev v) (K.lev x) with h | h | h
  ·exact absurd h3 (aF6 he (hk.ord.pm.mem_take.2 ⟨hv,h⟩))
  ·exact h
  ·exact absurd hh (h4 x hx h)
 rw [e,this]
theorem KM.wid {K:KV} {M:MV} (h:KM K M) (hk:K.Ok) (hu:K.Uni) {v:Nat} (hv:v<M.n):M.wid v=(K.nodesV v).length:=by
 have hn:=h.agr.same.n;have ho:=h.agr.same.od;obtain ⟨l1,l2,l3⟩:=h.lvl hk hv;have hr:=h.agr.roots
 have hc:∀ t,t∈acw M.tabs->t.Ok/\t.n=K.vars:=fun t ht=>hr.ok t (afO.1 ht)
 have hon:∀ x,x∈M.order->x<K.vars:=fun x hx=>by rw [<- hn];exact h.fit.on x hx
 have el:=aGS M.order (acw M.tabs) _ _ l3
 have ew:M.wid v=(ae8 (ams (acw M.tabs) (M.order.take (M.lvl v))) v).length:=by
  unfold MV.wid MV.lev
  rw [List.getD_eq_getElem?_getD,el];rfl
 have el2:(K.nodesV v).length=((K.nodesV v).map K.tab).length:=by simp
 rw [ew,el2];have nd2:((K.nodesV v).map K.tab).Nodup:=List.pairwise_map.2 (List.Pairwise.imp_of_mem (fun {a b} ha hb hne e=>hne (hk.tab_inj hu (KV.mem_nodesV.1 ha).2.1 (KV.mem_nodesV.1 hb).2.1 e)) (List.Pairwise.filter _ K.nodes_nodup))
 have nd1:(ae8 (ams (acw M.tabs) (M.order.take (M.lvl v))) v).Nodup:=by
  have hf:=atD M.order _ (aiI M.tabs) hc hon;exact (List.pairwise_flatten.1 hf).1 _ (List.mem_of_getElem? el)
 have hmc:∀ u,u∈ams (acw M.tabs) (M.order.take (M.lvl v))↔_:=fun u=>anY (n:=K.vars) _ _ hc (fun x hx=>hon x (List.mem_of_mem_take hx)) (u:=u)
 refine Nat.le_antisymm (List.Nodup.length_le_of_subset nd1 fun u hm=>?_) (List.Nodup.length_le_of_subset nd2 fun u hm=>?_)
 ·obtain ⟨m1,m2⟩:=aoZ.1 hm
  obtain ⟨a1,a2,t,ht,a,he⟩:=(hmc u).1 m1;have hfl:u∈M.lev.flatten:=List.mem_flatten.2 ⟨_,List.mem_of_getElem? el,hm⟩;obtain ⟨r,h2,htk,rfl⟩:=(h.agr.mem hk hu h.n16).1 hfl;refine List.mem_map.2 ⟨r,KV.mem_nodesV.2 ⟨h2,htk,?_⟩,rfl⟩
  refine hk.node_one hu h2 htk (by omega) ((ajo a1 (by rw [a2];omega)).1 m2) (a:=a) (g:=t.fn) fun y=>?_
  rw [he,l1,ho]
 ·obtain ⟨r,hr',rfl⟩:=List.mem_map.1 hm
  obtain ⟨h2,htk,hvr⟩:=KV.mem_nodesV.1 hr';have hfl:K.tab r∈M.lev.flatten:=(h.agr.mem hk hu h.n16).2 ⟨r,h2,htk,rfl⟩;obtain ⟨j,x,e1,e2,e3⟩:=(at6 M.order (acw M.tabs)).1 hfl;obtain ⟨a1,a2,t,ht,a,he⟩:=(anY (n:=K.vars) _ _ hc (fun x hx=>hon x (List.mem_of_mem_take hx)) (u:=K.tab r)).1 e2;have hx:=hon x (List.mem_of_getElem? e1)
  have ej:j=K.lev x:=by
   have hjl:j<K.order.length:=by rw [<- ho];exact (List.getElem?_eq_some_iff.1 e1).1
   have:=(hk.ord.pm.oo j (by rw [<- hk.ord.pm.ol];exact hjl)).2;rw [List.getD_eq_getElem?_getD,<- ho,e1] at this;exact this.symm
  have hxv:K.vI r=(x:Int):=hk.node_one hu h2 htk hx ((ajo a1 (by rw [a2];exact hx)).1 e3) (a:=a) (g:=t.fn) fun y=>by rw [he,ej,ho]
  have:x=v:=by omega
  subst this;rw [<- l1,<- ej];exact aoZ.2 ⟨e2,e3⟩
theorem aEm (b v:Nat) (K:KV) (F:List Nat) (M:MV) (w:World) (h:ad1 w b K F) (hm:KM K M) (hv:v<M.n) :
  Calls Tryz.prog 126 #[.pointer (some ⟨b,0,none⟩),.int .i64 v] w fun e w'=>e=.returned (.tuple #[.int .i64 (M.wid v),.int .i64 0])/\Upd [] w w':=by
 have hu:=h.uni;have hn:=hm.agr.same.n;obtain ⟨T,q,hk,rfl⟩:=h
 have hlt:v<T.length:=by rw [hk.ti.len];omega
 have hT:T[v]?=some T[v]:=List.getElem?_eq_getElem hlt;generalize T[v]=D at hT;obtain ⟨g,cap,m,t1,t2,t3,c0,c1,ab3⟩:=hk.mem.tab.cells hT;have hsz:=hk.ti.sizeV hk.ok.wf hT (ab3.canon adh) (ab3.tidy adh);have:=aK3 b v K T q D w hk (by omega) hT;rw [hsz,<- hm.wid hk.ok hu hv] at this;exact this
end Go.Proofs.YtdackeldhdchaaaGreat
