import Derived.Test.YtfkopmhpppeheaaGreatPF33
import Derived.Test.YtfkopmhpppeheaaGreatPF7
import Derived.Test.YtfkopmhpppeheaaGreatPF32
import Derived.Test.YtfkopmhpppeheaaGreatPF30
import Derived.Test.YtfkopmhpppeheaaGreatPF20
import Derived.Test.YtfkopmhpppeheaaGreatPF12
set_option maxRecDepth 100000
set_option maxHeartbeats 6400000
namespace Go.Proofs.YtfkopmhpppeheaaGreat
open Go.RowKit Go.Maps Go.ChangeMaps Go.WideShapes
theorem zab4 {W:World} {mb:Nat} (h:W.heap[mb]?=some (.map #[] 0)):W.ownsMap Tryz.prog 154 (plainElem (H:=Unit) Tryz.prog 3) mb 0 (.map []):=by
 obtain ⟨es,clock,q1,q2,q3,q4⟩:=World.ownsMap_made W Tryz.prog 154 (plainElem (H:=Unit) Tryz.prog 3);rw [heap_alloc_new] at q1;cases q1;exact ⟨#[],0,h,q2,Nat.zero_le _,rfl⟩
theorem boxT7 (w:World) (o1 o2 o3 o4 o5 o6 o7:Obj) {w7:World} (hw:((((((w.alloc o1).alloc o2).alloc o3).alloc o4).alloc o5).alloc o6).alloc o7=w7):w7.heap[w.heap.size]?=some o1/\w7.heap[w.heap.size+1]?=some o2/\w7.heap[w.heap.size+1+1]?=some o3/\w7.heap[w.heap.size+1+1+1]?=some o4 /\
  w7.heap[w.heap.size+1+1+1+1]?=some o5/\w7.heap[w.heap.size+1+1+1+1+1]?=some o6/\w7.heap[w.heap.size+1+1+1+1+1+1]?=some o7/\Upd [] w w7:=by
 subst hw;have n1:=heap_alloc_new w o1;have n2:=heap_alloc_new (w.alloc o1) o2;have n3:=heap_alloc_new ((w.alloc o1).alloc o2) o3;have n4:=heap_alloc_new (((w.alloc o1).alloc o2).alloc o3) o4;have n5:=heap_alloc_new ((((w.alloc o1).alloc o2).alloc o3).alloc o4) o5;have n6:=heap_alloc_new (((((w.alloc o1).alloc o2).alloc o3).alloc o4).alloc o5) o6;have n7:=heap_alloc_new ((((((w.alloc o1).alloc o2).alloc o3).alloc o4).alloc o5).alloc o6) o7
 have old:∀ (z:World) (o:Obj) {k:Nat} {x:Obj},z.heap[k]?=some x->(z.alloc o).heap[k]?=some x:=fun z o k x h=>(heap_alloc_old z o (heap_lt h)).trans h
 simp only [World.size_alloc] at n2 n3 n4 n5 n6 n7
 exact ⟨old _ _ (old _ _ (old _ _ (old _ _ (old _ _ (old _ _ n1))))),old _ _ (old _ _ (old _ _ (old _ _ (old _ _ n2)))),old _ _ (old _ _ (old _ _ (old _ _ n3))),old _ _ (old _ _ (old _ _ n4)),old _ _ (old _ _ n5),old _ _ n6,n7,(((((((Upd.refl [] w).alloc o1).alloc o2).alloc o3).alloc o4).alloc o5).alloc o6).alloc o7⟩
structure XYCut (x y:Nat) (w0:World) (s8 s9:Value) (wc:World):Prop where
 ex:∃ xb yb:Nat,s8=.pointer (some ⟨xb,0,none⟩)/\s9=.pointer (some ⟨yb,0,none⟩)/\wc.heap[xb]?=some (.cells #[.int .i64 x] 3 (0,0))/\wc.heap[yb]?=some (.cells #[.int .i64 y] 3 (0,0))/\Upd [] w0 wc
theorem XYCut.of1 (x y:Nat) (w0:World):XYCut x y w0 (.pointer (some ⟨w0.heap.size,0,none⟩)) (.pointer (some ⟨w0.heap.size+1,0,none⟩)) ((w0.drew.alloc (.cells #[.int .i64 x] 3 (0,0))).alloc (.cells #[.int .i64 y] 3 (0,0))):=by
 have h:=heap_alloc_new (w0.drew.alloc (.cells #[.int .i64 x] 3 (0,0))) (.cells #[.int .i64 y] 3 (0,0));rw [World.size_alloc] at h;have h0:=heap_alloc_new w0.drew (.cells #[.int .i64 x] 3 (0,0));exact ⟨_,_,rfl,rfl,(heap_alloc_old _ _ (heap_lt h0)).trans h0,h,((Upd.refl [] w0).drew.alloc _).alloc _⟩
theorem XYCut.of2 (x y:Nat) (w0:World):XYCut x y w0 (.pointer (some ⟨w0.heap.size+1,0,none⟩)) (.pointer (some ⟨w0.heap.size,0,none⟩)) ((w0.drew.alloc (.cells #[.int .i64 y] 3 (0,0))).alloc (.cells #[.int .i64 x] 3 (0,0))):=by
 have h:=heap_alloc_new (w0.drew.alloc (.cells #[.int .i64 y] 3 (0,0))) (.cells #[.int .i64 x] 3 (0,0));rw [World.size_alloc] at h;have h0:=heap_alloc_new w0.drew (.cells #[.int .i64 y] 3 (0,0));exact ⟨_,_,rfl,rfl,h,(heap_alloc_old _ _ (heap_lt h0)).trans h0,((Upd.refl [] w0).drew.alloc _).alloc _⟩
structure RoomQ (b l:Nat) (K:KV) (w:World) (e:Ending) (w':World):Prop where
 ex:∃ n:Nat,e=.returned (.tuple #[.int .i64 n,.int .i64 ((K.A.places:Int)-2),.int .i64 0])/\Upd [] w w' /\
  ∀ (C:List CrV) (N:List (Nat × Nat)),CrAll K l (K.order.getD l 0) (K.order.getD (l+1) 0) C->FrN K (K.order.getD l 0) (C.flatMap CrV.qs) N->n+2=K.A.used+N.length
theorem swroom_spec (b l:Nat) (K:KV) (T:List DM) (q:KPtr) (w:World) (h:KerIn w b K T q) (hl:l+2<=K.vars) :
  Calls Tryz.prog 22 #[.pointer (some ⟨b,0,none⟩),.int .i64 l] w fun e w'=>RoomQ b l K w e w':=by
 have hmf:∀ (fn:Fn) (first cap:Array Value) (w:World),(Instr.makeFunc fn first cap).run Tryz.prog w=.ok (.func fn first cap) w:=fun _ _ _ _=>rfl
 have hmm:=@run_makeMap Tryz.prog
 have hsf:∀ (a:Addr) (m:Mode) (fn:Fn) (first cap:Array Value) (w:World),(store a (.func fn first cap) m).run Tryz.prog w=stored Tryz.prog w a (.func fn first cap) m:=fun a m fn first cap w=>run_store Tryz.prog w a _ m rfl
 have hvs:=h.ok.wf.vs;have hol:=h.ok.ord.pm.ol;have hb0:=heap_alloc_new w (.cells #[.pointer (some ⟨b,0,none⟩)] 40 (0,0));have hu0:Upd [] w (w.alloc (.cells #[.pointer (some ⟨b,0,none⟩)] 40 (0,0))):=(Upd.refl _ _).alloc _;obtain ⟨w0,hw0⟩ : ∃ w0,w.alloc (.cells #[.pointer (some ⟨b,0,none⟩)] 40 (0,0))=w0:=⟨_,rfl⟩;rw [hw0] at hb0 hu0;have HW0:=Lib.hid hw0;have HU0:=Lib.hid hu0;have HK:=Lib.hid h
 have HKB:Hid (∀ z,Upd [] w0 z->z.heap[w.heap.size]?=some (.cells #[.pointer (some ⟨b,0,none⟩)] 40 (0,0))):=fun z u=>(u.block _ (heap_lt hb0) (by simp)).trans hb0
 have c0:w0.cell? ⟨w.heap.size,0,none⟩=some (.pointer (some ⟨b,0,none⟩)):=cell_at hb0 rfl;obtain ⟨x,hx⟩ : ∃ x,K.order[l]?=some x:=⟨_,List.getElem?_eq_getElem (by omega)⟩;obtain ⟨y,hy⟩ : ∃ y,K.order[l+1]?=some y:=⟨_,List.getElem?_eq_getElem (by omega)⟩
 have hxe:K.order.getD l 0=x:=by rw [List.getD_eq_getElem?_getD,hx];rfl
 have hye:K.order.getD (l+1) 0=y:=by rw [List.getD_eq_getElem?_getD,hy];rfl
 have HXY:=Lib.hid (And.intro hx (And.intro hy (And.intro hxe hye)));have HVR:=Lib.hid (vars_spec b K T q w0 (h.upd hu0 (by simp)).mem)
 have hl0:¬ ((l:Int)<0):=by omega
 have hl1:¬ ((K.vars:Int)-2<(l:Int)):=by omega
 have hkl:b<w.heap.size:=h.mem.lt b (KPtr.mem.2 (.inl rfl));have HKL:=Lib.hid h.mem.lt;have HOL:=Lib.hid hol;have hov:K.vars<=64:=hvs.2;obtain ⟨kv,hkv⟩ : ∃ kv,K.vars=kv:=⟨_,rfl⟩;have HKV:=Lib.hid hkv;rw [hkv] at HVR hl1 hov hl;clear h hb0 hu0 hw0 hx hy hxe hye hvs hol hkv
 go_enter Tryz.func22,Tryz.ntmps22
 go_wp2_with fail;rw [HW0.out];go_wp2_with fail;refine HVR.out.mono ?_;rintro e w1 ⟨rfl,rfl⟩;have HOR:=Lib.hid (order_spec b K T q w1 (HK.out.upd HU0.out (by simp)).mem (by have h1:K.vars=kv:=HKV.out;have h2:=HOL.out;omega) (by have h1:K.vars=kv:=HKV.out;have h2:=HOL.out;omega));rw [HOL.out] at HOR;go_wp2_with fail;refine HOR.out.mono ?_;rintro e w2 ⟨og,oc,rfl,hrow,hu2⟩;rw [HKV.out]
 have rc:∀ i v:Nat,K.order[i]?=some v->w2.cell? ⟨og,i,none⟩=some (.int .i64 v):=fun i v hv=>row_cell hrow (by simp only [flatN,List.getElem?_map];rw [hv];rfl)
 have x0:=rc l x HXY.out.1;have x1:=rc (l+1) y HXY.out.2.1
 have hlt0:(l:Int)<(kv:Int):=by omega
 have hlt1:(l:Int)+1<(kv:Int):=by omega
 obtain ⟨l1,hl1e⟩ : ∃ l1,l+1=l1:=⟨_,rfl⟩
 have hwl2:wrap64 ((l:Int)+1)=(l1:Int):=by rw [<- hl1e,IntWalk.wrap64_in _ (by omega)];omega
 have hwl:IntKind.i64.wrap ((l:Int)+1)=(l1:Int):=by rw [<- hl1e,IntWalk.i64_in _ (by omega)];omega
 have hlt2:(l1:Int)<(kv:Int):=by omega
 rw [hl1e] at x1;have HU2:=Lib.hid hu2;clear hu2 hrow rc c0 hl1e hlt1;go_upto_region 6 with fail
 go_cut [8,9] from 31 to 39 (fun s8 s9 wc=>XYCut x y w2 s8 s9 wc)
 case first =>
  have HC0:Hid (∀ z,Upd [] w2 z->z.cell? ⟨og,l,none⟩=some (.int .i64 x)/\z.cell? ⟨og,l1,none⟩=some (.int .i64 y)):=fun z u=>⟨u.cell0 x0,u.cell0 x1⟩
  have HD1:=Lib.hid (XYCut.of1 x y w2);have HD2:=Lib.hid (XYCut.of2 x y w2);refine wp_region_until (fun z=>z.cell? ⟨og,l,none⟩=some (.int .i64 x)/\z.cell? ⟨og,l1,none⟩=some (.int .i64 y)) (fun _=>True) [] (by kernel_rfl) ?_;have hS:=HC0.out _ (Upd.refl _ _).drew;have hE:True:=trivial;refine wpAnyU_takeS (i:=0) (v:=?v501) rfl (by kernel_rfl) (by kernel_rfl) (by kernel_rfl) (by kernel_rfl) (fun _ _ _ h=>h) (Or.inl ⟨by rfl,?hy501⟩) hS (fun _=>hE) ?rest501
  case hy501=>(intro x hSx;(try dsimp only at hSx);go_simp;try with_reducible rfl)
  (try simp only [Act.put,List.setIfInBounds_toArray])
  refine wpAnyU_takeS (i:=1) (v:=?v502) rfl (by kernel_rfl) (by kernel_rfl) (by kernel_rfl) (by kernel_rfl) (fun _ _ _ h=>h) (Or.inl ⟨by rfl,?hy502⟩) hS (fun _=>hE) ?rest502
  case hy502=>(intro x hSx;(try dsimp only at hSx);go_simp;try with_reducible rfl)
  (try simp only [Act.put])
  refine wpAnyU_takeS (i:=2) (v:=?v503) rfl (by kernel_rfl) (by kernel_rfl) (by kernel_rfl) (by kernel_rfl) (fun _ _ _ h=>h) (Or.inl ⟨by rfl,?hy503⟩) hS (fun _=>hE) ?rest503
  case hy503=>(intro x hSx;(try dsimp only at hSx);go_simp;try with_reducible rfl)
  (try simp only [Act.put])
  refine wpAnyU_takeS (i:=3) (v:=?v504) rfl (by kernel_rfl) (by kernel_rfl) (by kernel_rfl) (by kernel_rfl) (fun _ _ _ h=>h) (Or.inl ⟨by rfl,?hy504⟩) hS (fun _=>hE) ?rest504
  case hy504=>(intro x hSx;(try dsimp only at hSx);go_simp;try with_reducible rfl)
  (try simp only [Act.put])
  refine wpAnyU_takeS (i:=4) (v:=?v505) rfl (by kernel_rfl) (by kernel_rfl) (by kernel_rfl) (by kernel_rfl) (fun _ _ _ h=>h) (Or.inl ⟨by rfl,?hy505⟩) hS (fun _=>hE) ?rest505
  case hy505=>(intro x hSx;(try dsimp only at hSx);go_simp;try with_reducible rfl)
  (try simp only [Act.put])
  refine wpAnyU_takeS (i:=5) (v:=?v506) rfl (by kernel_rfl) (by kernel_rfl) (by kernel_rfl) (by kernel_rfl) (fun _ _ _ h=>h) (Or.inl ⟨by rfl,?hy506⟩) hS (fun _=>hE) ?rest506
  case hy506=>(intro x hSx;(try dsimp only at hSx);go_simp;try with_reducible rfl)
  (try simp only [Act.put])
  refine wpAnyU_takeS (i:=6) (v:=?v507) rfl (by kernel_rfl) (by kernel_rfl) (by kernel_rfl) (by kernel_rfl) (fun _ _ _ h=>h) (Or.inl ⟨by rfl,?hy507⟩) hS (fun _=>hE) ?rest507
  case hy507=>(intro x hSx;(try dsimp only at hSx);go_simp;try with_reducible rfl)
  (try simp only [Act.put])
  refine wpAnyU_takeS (i:=7) (v:=?v508) rfl (by kernel_rfl) (by kernel_rfl) (by kernel_rfl) (by kernel_rfl) (fun _ _ _ h=>h) (Or.inl ⟨by rfl,?hy508⟩) hS (fun _=>hE) ?rest508
  case hy508=>(intro x hSx;(try dsimp only at hSx);go_simp;try with_reducible rfl)
  (try simp only [Act.put])
  refine wpAnyU_takeS (i:=8) (v:=?v509) rfl (by kernel_rfl) (by kernel_rfl) (by kernel_rfl) (by kernel_rfl) (fun _ _ _ h=>h) (Or.inl ⟨by rfl,?hy509⟩) hS (fun _=>hE) ?rest509
  case hy509=>(intro x hSx;(try dsimp only at hSx);go_simp;try with_reducible rfl)
  (try simp only [Act.put])
  refine wpAnyU_ready (rs:=[9,10]) (by kernel_rfl) (by simp) ?_;refine AllReadyU.cons rfl (fun Kx hK=>?_) ?_
  ·
   go_simp
   refine hK.out _ _ ⟨HC0.out _ ((Upd.refl _ _).drew.alloc _),fun _=>trivial⟩ (fun hHeld=>?_);clear hK Kx;obtain ⟨hS,hE⟩:=hHeld;have hE:=hE (by kernel_rfl)
   (try simp only [Act.put,List.setIfInBounds_toArray,List.set_cons_zero,List.set_cons_succ])
   refine wpAnyU_ready (rs:=[10]) (by kernel_rfl) (by simp) ?_;refine AllReadyU.cons rfl (fun Kx hK=>?_) ?_
   rotate_left
   exact AllReadyU.nil
   go_simp
   refine hK.out _ _ ⟨HC0.out _ (((Upd.refl _ _).drew.alloc _).alloc _),fun _=>trivial⟩ (fun hHeld=>?_);clear hK Kx;obtain ⟨hS,hE⟩:=hHeld;have hE:=hE (by kernel_rfl)
   (try simp only [Act.put,List.setIfInBounds_toArray,List.set_cons_zero,List.set_cons_succ])
   refine wpAnyU_ready (rs:=[11]) (by kernel_rfl) (by simp) ?_;refine AllReadyU.cons rfl (fun Kx hK=>?_) ?_
   rotate_left
   exact AllReadyU.nil
   go_simp
   refine hK.out _ _ ⟨HC0.out _ (by repeat (first | exact Upd.refl _ _ | refine Upd.drew ?_ | refine Upd.alloc ?_ _ | (refine Upd.setCell ?_ (.inr (by simp)) _))),fun _=>trivial⟩ (fun hHeld=>?_);clear hK Kx;obtain ⟨hS,hE⟩:=hHeld;have hE:=hE (by kernel_rfl)
   (try simp only [Act.put,List.setIfInBounds_toArray,List.set_cons_zero,List.set_cons_succ])
   refine wpAnyU_ready (rs:=[12]) (by kernel_rfl) (by simp) ?_;refine AllReadyU.cons rfl (fun Kx hK=>?_) ?_
   rotate_left
   exact AllReadyU.nil
   go_simp
   refine hK.out _ _ ⟨HC0.out _ (by repeat (first | exact Upd.refl _ _ | refine Upd.drew ?_ | refine Upd.alloc ?_ _ | (refine Upd.setCell ?_ (.inr (by simp)) _))),fun _=>trivial⟩ (fun hHeld=>?_);clear hK Kx;obtain ⟨hS,hE⟩:=hHeld;have hE:=hE (by kernel_rfl)
   (try simp only [Act.put,List.setIfInBounds_toArray,List.set_cons_zero,List.set_cons_succ])
   refine wpAnyU_done (by kernel_rfl) ?_ _;clear hS hE;go_wp2_with fail;go_meet;exact HD1.out
  refine AllReadyU.cons rfl (fun Kx hK=>?_) ?_
  rotate_left
  exact AllReadyU.nil
  go_simp
  refine hK.out _ _ ⟨HC0.out _ ((Upd.refl _ _).drew.alloc _),fun _=>trivial⟩ (fun hHeld=>?_);clear hK Kx;obtain ⟨hS,hE⟩:=hHeld;have hE:=hE (by kernel_rfl)
  (try simp only [Act.put,List.setIfInBounds_toArray,List.set_cons_zero,List.set_cons_succ])
  refine wpAnyU_ready (rs:=[9]) (by kernel_rfl) (by simp) ?_;refine AllReadyU.cons rfl (fun Kx hK=>?_) ?_
  rotate_left
  exact AllReadyU.nil
  go_simp
  refine hK.out _ _ ⟨HC0.out _ (((Upd.refl _ _).drew.alloc _).alloc _),fun _=>trivial⟩ (fun hHeld=>?_);clear hK Kx;obtain ⟨hS,hE⟩:=hHeld;have hE:=hE (by kernel_rfl)
  (try simp only [Act.put,List.setIfInBounds_toArray,List.set_cons_zero,List.set_cons_succ])
  refine wpAnyU_ready (rs:=[11]) (by kernel_rfl) (by simp) ?_;refine AllReadyU.cons rfl (fun Kx hK=>?_) ?_
  rotate_left
  exact AllReadyU.nil
  go_simp
  refine hK.out _ _ ⟨HC0.out _ (by repeat (first | exact Upd.refl _ _ | refine Upd.drew ?_ | refine Upd.alloc ?_ _ | (refine Upd.setCell ?_ (.inr (by simp)) _))),fun _=>trivial⟩ (fun hHeld=>?_);clear hK Kx;obtain ⟨hS,hE⟩:=hHeld;have hE:=hE (by kernel_rfl)
  (try simp only [Act.put,List.setIfInBounds_toArray,List.set_cons_zero,List.set_cons_succ])
  refine wpAnyU_ready (rs:=[12]) (by kernel_rfl) (by simp) ?_;refine AllReadyU.cons rfl (fun Kx hK=>?_) ?_
  rotate_left
  exact AllReadyU.nil
  go_simp
  refine hK.out _ _ ⟨HC0.out _ (by repeat (first | exact Upd.refl _ _ | refine Upd.drew ?_ | refine Upd.alloc ?_ _ | (refine Upd.setCell ?_ (.inr (by simp)) _))),fun _=>trivial⟩ (fun hHeld=>?_);clear hK Kx;obtain ⟨hS,hE⟩:=hHeld;have hE:=hE (by kernel_rfl)
  (try simp only [Act.put,List.setIfInBounds_toArray,List.set_cons_zero,List.set_cons_succ])
  refine wpAnyU_done (by kernel_rfl) ?_ _;clear hS hE;go_wp2_with fail;go_meet;exact HD2.out
 case rest =>
  obtain ⟨xb,yb,rfl,rfl,hxb,hyb,hu3⟩:=hcut.ex;have h0:=boxT7 wc _ _ _ _ _ _ _ (rfl:(((((((wc.alloc (.map #[] 0)).alloc (.cells #[.map (some (wc.heap.size))] 149 (0,0))).alloc (.map #[] 0)).alloc (.cells #[.map (some (wc.heap.size+1+1))] 149 (0,0))).alloc (.map #[] 0)).alloc (.cells #[.map (some (wc.heap.size+1+1+1+1))] 114 (0,0))).alloc (.cells #[.nilFunc] 150 (0,0)))=_);have c6:=cell_at (j:=0) h0.2.2.2.2.2.2.1 rfl;have f6:=frozen_at 0 h0.2.2.2.2.2.2.1;obtain ⟨w7,hw7⟩ : ∃ w7,(((((((wc.alloc (.map #[] 0)).alloc (.cells #[.map (some (wc.heap.size))] 149 (0,0))).alloc (.map #[] 0)).alloc (.cells #[.map (some (wc.heap.size+1+1))] 149 (0,0))).alloc (.map #[] 0)).alloc (.cells #[.map (some (wc.heap.size+1+1+1+1))] 114 (0,0))).alloc (.cells #[.func (Fn.func 75) #[] #[.pointer (some ⟨w.heap.size,0,none⟩),.pointer (some ⟨wc.heap.size+1+1+1+1+1,0,none⟩),.pointer (some ⟨xb,0,none⟩),.pointer (some ⟨yb,0,none⟩),.pointer (some ⟨wc.heap.size+1+1+1,0,none⟩),.pointer (some ⟨wc.heap.size+1,0,none⟩),.pointer (some ⟨wc.heap.size+1+1+1+1+1+1,0,none⟩)]] 150 (0,0)))=w7:=⟨_,rfl⟩;obtain ⟨b1,b2,b3,b4,b5,b6,b7,hu7⟩:=boxT7 wc _ _ _ _ _ _ _ hw7;have HW7:=Lib.hid hw7;have hUA:Upd [] w1 w7:=(HU2.out.trans hu3).trans hu7;have hxl:=heap_lt hxb;have hyl:=heap_lt hyb;have hwl0:w.heap.size<wc.heap.size:=Nat.lt_of_lt_of_le (heap_lt (HKB.out _ (Upd.refl _ _))) (HU2.out.trans hu3).size;obtain ⟨B,hB⟩ : ∃ B:RB,B=⟨w.heap.size,wc.heap.size+1+1+1+1+1,xb,yb,wc.heap.size+1+1+1,wc.heap.size+1,wc.heap.size+1+1+1+1+1+1,wc.heap.size+1+1+1+1,wc.heap.size+1+1,wc.heap.size⟩:=⟨_,rfl⟩
  have HRW0:Hid (RWM w7 b B x y K T q (.map []) (.map []) (.map [])):=by
   subst hB;refine ⟨HK.out.upd (HU0.out.trans hUA) (by simp),HKB.out _ hUA,b6,(hu7.block _ hxl (by simp)).trans hxb,(hu7.block _ hyl (by simp)).trans hyb,b4,b2,b7,own_emptyR b5,zab4 b3,zab4 b1,fun k hk=>?_,?_,?_⟩
   ·have:=HKL.out k hk
    simp [RB.maps];omega
   ·simp [RB.maps];omega
   ·simp;omega
  have HUW7:=Lib.hid (HU0.out.trans hUA)
  have HBE:Hid (B.maps=[wc.heap.size+1+1+1+1,wc.heap.size+1+1,wc.heap.size]/\B.wk=wc.heap.size+1+1+1+1+1+1/\B.mo=wc.heap.size+1/\B.hk=wc.heap.size+1+1+1/\B.mm=wc.heap.size/\B.kk=w.heap.size):=by
   show _/\_/\_/\_/\_/\_
   subst hB;exact ⟨rfl,rfl,rfl,rfl,rfl,rfl⟩
  have HCP:Hid (B.caps=#[.pointer (some ⟨w.heap.size,0,none⟩),.pointer (some ⟨wc.heap.size+1+1+1+1+1,0,none⟩),.pointer (some ⟨xb,0,none⟩),.pointer (some ⟨yb,0,none⟩),.pointer (some ⟨wc.heap.size+1+1+1,0,none⟩),.pointer (some ⟨wc.heap.size+1,0,none⟩),.pointer (some ⟨wc.heap.size+1+1+1+1+1+1,0,none⟩)]):=by
   show _=_
   subst hB;rfl
  have HRT:=Lib.hid (roots_spec b K T q w7 (HK.out.upd HUW7.out (by simp)));have k7:w7.cell? ⟨w.heap.size,0,none⟩=some (.pointer (some ⟨b,0,none⟩)):=cell_at (HKB.out _ hUA) rfl;have HUWC:=Lib.hid (HU2.out.trans hu3);have kc:wc.cell? ⟨w.heap.size,0,none⟩=some (.pointer (some ⟨b,0,none⟩)):=cell_at (HKB.out _ HUWC.out) rfl;clear h0 hw7 b1 b2 b3 b4 b5 b6 b7 hu7 hUA hxb hyb hu3 hxl hyl hB hcut x0 x1;go_upto_region 12 with fail;rw [HW7.out];generalize hRL:K.roots.length=RL at *;have HRL:=Lib.hid hRL;clear hRL;go_wp2_with fail;refine HRT.out.mono ?_;rintro e w8 ⟨rv,rfl,hrow,hu8⟩;obtain ⟨ra,rcp,rfl,_⟩:=row_nil_len hrow;have HROW:=Lib.hid hrow;have HU8:=Lib.hid (HUW7.out.trans hu8);have HRW8:=Lib.hid (HRW0.out.keep hu8);have hwk:B.wk=wc.heap.size+1+1+1+1+1+1:=HBE.out.2.1;have HWK:=Lib.hid hwk
  have hrl:RL<=1048576:=by
   have h1:=HK.out.ok.wf.len;have h2:=HK.out.ok.wf.ul;have h3:=HK.out.ok.wf.ok.lp;have h4:=HK.out.ok.wf.ok.pm
   have h5:K.roots.length<=K.holds.length:=by unfold KV.roots;exact Nat.le_trans (List.length_filter_le _ _) (by simp)
   have h6:K.roots.length=RL:=HRL.out;omega
  clear hrow hu8 hwk k7 kc;go_wp2_with fail
  go_loopg [47] RL (fun gg s47 wr=>∃ (i:Nat) (N:List Nat) (S H M:DM),RL-i=gg/\i<=RL/\s47=.int .i64 i/\WalkL K [] (K.roots.take i) N/\RVs K x y N S H M/\RWM wr b B x y K T q S H M/\Upd B.maps w8 wr)
  case atStart=>exact ⟨0,[],_,_,_,by omega,by omega,rfl,WalkL.nil _,⟨SeenOk.nil,PairOk.nil,PairOk.nil⟩,HRW8.out,Upd.refl _ _⟩
  case round =>
   obtain ⟨i,N,S,H,M,rfl,hi,rfl,hL,hS,hM,hU⟩:=hrel
   by_cases hlt:i<RL
   ·have hil:(i:Int)<(RL:Int):=by omega
    obtain ⟨f,hf⟩ : ∃ f,K.roots[i]?=some f:=⟨_,List.getElem?_eq_getElem (by have:=HRL.out;omega)⟩;obtain ⟨g,rfl⟩:=row_some HROW.out (by omega);have hg8:=(HROW.out.lt g rfl)
    have hgm:g∉B.maps:=by
     rw [HBE.out.1];have h1:=hg8.1;have h2:=HW7.out
     have h3:wc.heap.size+1+1+1+1+1+1<w7.heap.size:=by rw [<- HWK.out];exact heap_lt HRW0.out.bw
     simp;omega
    have hrow:=row_keep HROW.out fun k hk=>by
     simp [Value.ownBlock] at hk;subst hk
     exact hU.block _ hg8.2 hgm
    have cf:=row_cell hrow (j:=i) (u:=.int .u32 f) (by simp [flatRefs,hf]);have htk:=(HK.out.ok.wf.ht f (KV.mem_roots.1 (List.mem_of_getElem? hf))).2;have cw4:=cell_at (j:=0) hM.bw rfl;rw [HCP.out,HWK.out] at cw4;have hnd:=hL.nodup (by simp);have HC:=Lib.hid (swwalk_spec b B x y K T q (K.vars+1) 0 (by omega) f N S H M wr hM hS (by simpa using hnd) htk (Nat.zero_le _));rw [HCP.out] at HC;have HL:=Lib.hid (And.intro hL (And.intro hf hU));clear hM hS hL hf hU hrow htk hnd hg8 hgm;go_wp2_with fail;refine HC.out.mono ?_;rintro e w9 ⟨rfl,hQ⟩;obtain ⟨N1,S1,H1,M1,hN,hS1,hM1,hu1⟩:=hQ.ex
    have HE:Hid (WalkL K [] (K.roots.take (i+1)) (N++N1)/\RVs K x y (N++N1) S1 H1 M1/\RWM w9 b B x y K T q S1 H1 M1/\Upd B.maps w8 w9):=by
     refine ⟨?_,hS1,hM1,HL.out.2.2.trans hu1⟩;rw [List.take_add_one,HL.out.2.1];exact HL.out.1.snoc (by simpa using hN)
    clear hQ hN hS1 hM1 hu1 HC cw4;go_wp2_with fail
    go_roundg (RL-(i+1))
    case measure=>omega
    case rel=>exact ⟨i+1,N++N1,S1,H1,M1,rfl,by omega,by simp,HE.out.1,HE.out.2.1,HE.out.2.2.1,HE.out.2.2.2⟩
   ·obtain rfl:i=RL:=by omega
    have hil:¬ ((i:Int)<(i:Int)):=by omega
    obtain ⟨ud,hud⟩ : ∃ ud,K.A.used=ud+2:=⟨K.A.used-2,by have h1:=KV.used_ge HK.out.ok.wf (l:=[0,1]) (by simp) (by intro x hx;simp at hx;rcases hx with rfl | rfl;exact HK.out.ok.wf.ok.tk01.1;exact HK.out.ok.wf.ok.tk01.2);simp at h1;omega⟩;have hlvv:=live_count b K T q wr hM.ker.mem;rw [show ((K.A.used:Nat):Int)-2=(ud:Int) by omega] at hlvv;have HUD:=Lib.hid hud;have HLV:=Lib.hid hlvv
    have hudl:ud<=1048576:=by have h1:=HK.out.ok.wf.ok.us;have h2:=HK.out.ok.wf.ok.lp;have h3:=HK.out.ok.wf.ok.pm;omega
    clear hlvv hud;have HND:=Lib.hid (knodes_spec b K T q)
    have hWL:WalkL K [] K.roots N:=by
     have h1:K.roots.take i=K.roots:=List.take_of_length_le (by have h:K.roots.length=i:=HRL.out;omega)
     rw [h1] at hL;exact hL
    have HWL:=Lib.hid (hWL.all HK.out.ok);have HM:=Lib.hid (And.intro hS (And.intro hM hU))
    have ckk:wr.cell? ⟨w.heap.size,0,none⟩=some (.pointer (some ⟨b,0,none⟩)):=by
     have h:=cell_at (j:=0) hM.bk rfl
     rw [HBE.out.2.2.2.2.2] at h;exact h
    have cmo:wr.cell? ⟨wc.heap.size+1,0,none⟩=some (.map (some B.mm)):=by
     have h:=cell_at (j:=0) hM.bm rfl
     rw [HBE.out.2.2.1] at h;exact h
    have hmm2:=hM.mm;clear hL hS hM hU hWL;go_wp2_with fail;refine HLV.out.mono ?_;rintro e w9 ⟨rfl,rfl⟩;have hmsz:=pair_size HM.out.1.m (hmm2.canon lowKeyed) (hmm2.tidy lowKeyed);have hcard:=pair_card HM.out.1.m (hmm2.canon lowKeyed) (hmm2.tidy lowKeyed)
    go_wp2_with (first
     | (at_range;refine wpList_range_own _ rfl _ 149 rfl 154 3 lowKeyed Tryz.underlying149 _ B.mm (Maps.size M) M rfl hmm2 ?_;intro w10 hrg0 hg0 hs0)
     | go_in)
    go_frame
    go_loopw [16] (fun s16 wr=>∃ (left:Lit->Bool) (cnt:Nat) (ps:List (Nat × Nat)),wr.ranges Tryz.prog 154 (plainElem Tryz.prog 3) B.mm w9.heap.size (Maps.size M) M left cnt/\ps.length+cnt<=Maps.size M/\CameP (N.flatMap (K.moreQ x y)) left ps/\s16=.int .i64 ((ud+cntP (N.flatMap (K.haveQ x)) ps:Nat))/\Upd [] w9 wr)
     (fun _ wr=>wr.rangeLeft B.mm w9.heap.size)
    case atStart=>exact ⟨_,_,[],hrg0,by simp,CameP.start HM.out.1.m,by simp [cntP],(Upd.refl [] w9).grown hg0 (by simp)⟩
    case round =>
     obtain ⟨left,cnt,ps,hrg,hcs,hC,rfl,hU⟩:=hrel;have hcl:=cntP_le (N.flatMap (K.haveQ x)) ps
     go_wp2_with (first
      | (at_next;refine wpList_next_ranges _ rfl _ rfl 154 lowKeyed (plainElem Tryz.prog 3) id (Value.int .i64) (fun key kl hk=>⟨key,rfl⟩) (fun v y hv=>by obtain ⟨c,rfl,_⟩:=plainElem_int_inv Tryz.underlying3 hv;exact ⟨c,rfl⟩) B.mm w9.heap.size (Maps.size M) _ _ _ rfl hrg ?_ ?_)
      | go_in)
     ·intro hc0 hl0
      have HRES:Hid (∀ (C:List CrV) (N':List (Nat × Nat)),CrAll K l (K.order.getD l 0) (K.order.getD (l+1) 0) C->FrN K (K.order.getD l 0) (C.flatMap CrV.qs) N'->(ud+cntP (N.flatMap (K.haveQ x)) ps)+2=K.A.used+N'.length):=fun C N' CA F=>by
       rw [HXY.out.2.2.1] at CA F;rw [HXY.out.2.2.2] at CA;have h1:=room_count HK.out.ok HWL.out HM.out.1.m hC hl0 CA F;have h2:K.A.used=ud+2:=HUD.out;omega
      have hker:=(HM.out.2.1.keep hU).ker;have HN9:=Lib.hid (HND.out _ hker.mem);have ck:=hU.cell0 ckk
      have HUZ:Hid (Upd [] w _):=HU8.out.then (HM.out.2.2.trans (hU.mono (by simp))) fun k hk=>.inr (by
       rw [HBE.out.1] at hk;simp at hk;omega)
      generalize cntP (N.flatMap (K.haveQ x)) ps=cn at *;clear hC hrg hcs hU hker hl0 hrg0 hg0 hs0 hmm2 hmsz;go_wp2_with fail;refine HN9.out.mono ?_;rintro e w12 ⟨rfl,rfl⟩;have hpl2:2<=K.A.places:=HK.out.ok.wf.ok.p2;have hplm:K.A.places<=1048576:=HK.out.ok.wf.ok.pm;go_wp2_with fail;refine bodyPost_ret (v:=.tuple #[.int .i64 ((ud+cn:Nat)),.int .i64 ((K.A.places:Int)-2),.int .i64 0]) (by simp [results,Tryz.results22,go_sem]) rfl ?_;exact ⟨_,rfl,HUZ.out,HRES.out⟩
     ·intro xk c kl yd yp w11 cnt1 hkey hlk hv hat hrg1 hlt1 hg1 hs1 hen
      obtain ⟨ka,kb,rfl,hka,hkb⟩:=HM.out.1.m.dom kl (has_true_of_atKey hat);have hxk:=lowKeyed.inj hkey (lk_of (a:=ka) (b:=kb) (by omega) (by omega));have hQ:(ka,kb)∈N.flatMap (K.moreQ x y):=(HM.out.1.m.has ka kb (by omega) (by omega)).1 (has_true_of_atKey hat);have hC1:=hC.step hka hkb hQ hlk;subst hxk;obtain ⟨cv,ecv,_,_⟩:=plainElem_int_inv Tryz.underlying3 hv;have hbx:=heap_alloc_new w11 (.cells #[.int .u32 ka,.int .u32 kb] 154 (0,0))
      have hu11:Upd [] w9 w11:=hU.grown hg1 fun k hk=>.inr (by simp at hk;omega)
      have hu12:Upd [] w11 (w11.alloc (.cells #[.int .u32 ka,.int .u32 kb] 154 (0,0))):=(Upd.refl _ _).alloc _;have hrg2:=hrg1.alloc (.cells #[.int .u32 ka,.int .u32 kb] 154 (0,0));obtain ⟨w12,hw12⟩ : ∃ w12,w11.alloc (.cells #[.int .u32 ka,.int .u32 kb] 154 (0,0))=w12:=⟨_,rfl⟩;rw [hw12] at hbx hu12 hrg2;have HW12:=Lib.hid hw12;have hm12:=HM.out.2.1.keep (hu11.trans hu12);have x0:=cell_at (j:=0) hbx rfl;have x1:=cell_at (j:=1) hbx rfl
      have cho:w12.cell? ⟨wc.heap.size+1+1+1,0,none⟩=some (.map (some B.hm)):=by
       have h:=cell_at (j:=0) hm12.bh rfl
       rw [HBE.out.2.2.2.1] at h;exact h
      obtain ⟨c2,hrun2,hat2,_⟩:=hm12.mh.lookup_int lowKeyed Tryz.underlying149 Tryz.underlying3 (zeroInt _) (lk_of (a:=ka) (b:=kb) (by omega) (by omega));have HR2:=Lib.hid (And.intro hrg2 (And.intro hC1 (And.intro (hu11.trans hu12) (And.intro hlt1 hcs))));have hme:=hrg1.left_eq;have hme0:=hrg.left_eq
      have HME:Hid (w12.rangeLeft B.mm w9.heap.size<wr.rangeLeft B.mm w9.heap.size):=by
       show _<_
       rw [hrg2.left_eq,hrg.left_eq];exact hlt1
      have hpl:ps.length+1<=Maps.size M:=by omega
      by_cases hab:ka=kb
      ·subst hab
       have hne:((ka:Int) != (ka:Int))=false:=by simp
       have HCN:Hid (cntP (N.flatMap (K.haveQ x)) (ps++[(ka,ka)])=cntP (N.flatMap (K.haveQ x)) ps):=by
        show _=_
        rw [cntP_snoc,if_neg (by simp)];rfl
       generalize cntP (N.flatMap (K.haveQ x)) ps=cn at *;clear hrg hC hU hat hg1 hs1 hbx hu11 hu12 hrg1 hrg2 hw12 hm12 hat2 hme hme0 hQ hC1 hkey hlk hv hrg0 hg0 hs0 hmm2 hmsz;go_upto_region 21 with fail;rw [HW12.out];go_wp2_with fail
       go_roundw
       case rel=>exact ⟨_,cnt1,ps++[(ka,ka)],HR2.out.1,by have:=HR2.out.2.2.2.1;simp;omega,HR2.out.2.1,by rw [HCN.out];simp,HR2.out.2.2.1⟩
       case measure=>exact HME.out
      ·have hne:((ka:Int) != (kb:Int))=true:=by simp;omega
       have hh:=HM.out.1.h.has ka kb (by omega) (by omega)
       by_cases hin:(ka,kb)∈N.flatMap (K.haveQ x)
       ·have hc2:c2=1:=by
         have:=HM.out.1.h.at_ ka kb (by omega) (by omega) (hh.2 hin) (.lit (.int .i64 0));rw [this] at hat2
         simpa using hat2.symm
        subst hc2
        have HCN:Hid (cntP (N.flatMap (K.haveQ x)) (ps++[(ka,kb)])=cntP (N.flatMap (K.haveQ x)) ps):=by
         show _=_
         rw [cntP_snoc,if_neg (fun h=>h.2 hin)];rfl
        generalize cntP (N.flatMap (K.haveQ x)) ps=cn at *;clear hrg hC hU hat hg1 hs1 hbx hu11 hu12 hrg1 hrg2 hw12 hm12 hat2 hme hme0 hQ hC1 hkey hlk hv hrg0 hg0 hs0 hmm2 hmsz hh hin;go_upto_region 21 with fail;rw [HW12.out];go_wp2_with fail
        go_roundw
        case rel=>exact ⟨_,cnt1,ps++[(ka,kb)],HR2.out.1,by have:=HR2.out.2.2.2.1;simp;omega,HR2.out.2.1,by rw [HCN.out];simp,HR2.out.2.2.1⟩
        case measure=>exact HME.out
       ·have hno:Maps.has H (lk ka kb)=false:=by
         cases e:Maps.has H (lk ka kb) with
         | false=>rfl
         | true=>exact absurd (hh.1 e) hin
        have hc2:c2=0:=by
         rw [atKey_of_not_has hno] at hat2
         simpa using hat2.symm
        subst hc2
        have HCN:Hid (cntP (N.flatMap (K.haveQ x)) (ps++[(ka,kb)])=cntP (N.flatMap (K.haveQ x)) ps+1):=by
         show _=_
         rw [cntP_snoc,if_pos ⟨hab,hin⟩]
        generalize cntP (N.flatMap (K.haveQ x)) ps=cn at *;clear hrg hC hU hat hg1 hs1 hbx hu11 hu12 hrg1 hrg2 hw12 hm12 hat2 hme hme0 hQ hC1 hkey hlk hv hrg0 hg0 hs0 hmm2 hmsz hh hin hno;go_upto_region 21 with fail;rw [HW12.out];go_wp2_with fail
        go_roundw
        case rel=>exact ⟨_,cnt1,ps++[(ka,kb)],HR2.out.1,by have:=HR2.out.2.2.2.1;simp;omega,HR2.out.2.1,by rw [HCN.out];simp;omega,HR2.out.2.2.1⟩
        case measure=>exact HME.out
theorem CrOk.exists {K:KV} {l x y r:Nat} (nb:Nb K l x y) (hc:K.Cross x y r):∃ c:CrV,c.r=r/\CrOk K l x y c:=by
 obtain ⟨p,a00,a01,a10,a11,h⟩:=nb.four hc;have hc':=hc;obtain ⟨_,p',hp,_,hv,_⟩:=hc'
 have e:p=p':=by have:=h.at_;rw [hp] at this;exact (Option.some.inj this).symm
 subst e;exact ⟨⟨r,p.lo,p.hi,a00,a01,a10,a11⟩,rfl,hc,p,h,hv,rfl,rfl⟩
theorem CrAll.exists {K:KV} {l x y:Nat} (nb:Nb K l x y):∃ C,CrAll K l x y C:=by
 classical
 have step:∀ n,∃ C:List CrV,(∀ c,c∈C->CrOk K l x y c/\c.r<n)/\(C.map CrV.r).Nodup/\∀ r,r<n->K.Cross x y r->r∈C.map CrV.r:=by
  intro n
  induction n with
  | zero=>exact ⟨[],by simp,by simp,fun r h=>by omega⟩
  | succ n ih =>
   obtain ⟨C,h1,h2,h3⟩:=ih
   by_cases hc:K.Cross x y n
   ·obtain ⟨c,hr,hok⟩:=CrOk.exists nb hc
    refine ⟨C++[c],fun d hd=>?_,?_,fun r hr' hcr=>?_⟩
    ·rcases List.mem_append.1 hd with h | h
     ·have:=h1 d h;exact ⟨this.1,by omega⟩
     ·simp at h;subst h;exact ⟨hok,by omega⟩
    ·rw [List.map_append,List.nodup_append]
     refine ⟨h2,by simp,fun a ha b hb=>?_⟩
     simp at hb
     obtain ⟨d,hd,rfl⟩:=List.mem_map.1 ha;have:=(h1 d hd).2;omega
    ·rw [List.map_append]
     by_cases e:r=n
     ·subst e;exact List.mem_append.2 (.inr (by simp [hr]))
     ·exact List.mem_append.2 (.inl (h3 r (by omega) hcr))
   ·exact ⟨C,fun d hd=>⟨(h1 d hd).1,by have:=(h1 d hd).2;omega⟩,h2,fun r hr hcr=>h3 r (by
     by_cases e:r=n
     ·subst e;exact absurd hcr hc
     ·omega) hcr⟩
 obtain ⟨C,h1,h2,h3⟩:=step K.A.list.length
 exact ⟨C,fun c hc=>(h1 c hc).1,h2,fun r hr=>h3 r (by
  obtain ⟨_,p,hp,_⟩:=hr
  exact (List.getElem?_eq_some_iff.1 hp).1) hr⟩
theorem zah4 (b l:Nat) (K:KV) (F:List Nat) (M:MV) (w:World) (h:KerAt w b K F) (hm:KM K M) (hl:l+2<=K.vars) :
  Calls Tryz.prog 22 #[.pointer (some ⟨b,0,none⟩),.int .i64 l] w fun e w'=>e=.returned (.tuple #[.int .i64 (M.U l:Nat),.int .i64 ((M.c:Int)-2),.int .i64 0])/\Upd [] w w':=by
 have hu:=h.uni;have hok:=h.ok;obtain ⟨T,q,hk,rfl⟩:=h;refine (swroom_spec b l K T q w hk hl).mono ?_;rintro e w' hE;obtain ⟨n,rfl,hu',hn⟩:=hE.ex;refine ⟨?_,hu'⟩;have nb:=hok.nb hu hl;obtain ⟨C,CA⟩:=CrAll.exists nb;obtain ⟨N,FN⟩:=FrN.exists K (K.order.getD l 0) (C.flatMap CrV.qs);have h1:=hn C N CA FN;have h2:=hm.agr.U nb hm.n16 CA FN;have h3:=hm.agr.c
 have e1:n=M.U l:=by omega
 rw [e1,h3]
def MV.backN (j:Nat) (M:MV):MV:=Nat.repeat MV.undo j M
theorem MV.backN_succ (j:Nat) (M:MV):MV.backN (j+1) M=(MV.backN j M).undo:=rfl
theorem MV.backN_len (M:MV):∀ j,(MV.backN j M).trail.length=M.trail.length-j
 | 0=>rfl
 | j+1=>by
  rw [MV.backN_succ]
  show (MV.backN j M).trail.dropLast.length=_
  rw [List.length_dropLast,MV.backN_len M j];omega
structure BackM (b tr:Nat) (K:KV) (F:List Nat) (M:MV) (w:World) (e:Ending) (w':World):Prop where
 ex:∃ (K':KV) (F':List Nat),e=.returned (.tuple #[.int .i64 (M.trail.length-tr:Nat),.int .i64 0])/\KerAt w' b K' F'/\KM K' (MV.backN (M.trail.length-tr) M)/\Stay K K'/\Stp F w F' w'
theorem zag4 (b tr:Nat) (K:KV) (F:List Nat) (M:MV) (w:World) (h:KerAt w b K F) (hm:KM K M) (ht:M.trail.length<=1000000) (htr:tr<=M.trail.length) :
  Calls Tryz.prog 23 #[.pointer (some ⟨b,0,none⟩),.int .i64 tr] w fun e w'=>BackM b tr K F M w e w':=by
 have e0:K.trail.length=M.trail.length:=by rw [hm.tr]
 refine (back_spec b tr (fun K2=>Stay K K2/\∃ i,KM K2 (MV.backN i M)/\K2.trail.length+i=M.trail.length) K F w h ⟨Stay.refl _,0,hm,by omega⟩ (by omega) (by omega) fun z K2 F2 hz hp hlt hlen=>?_).mono ?_
 ·obtain ⟨hs,i,hk,hi⟩:=hp
  have hl:(MV.backN i M).trail.length=K2.trail.length:=by rw [hk.tr]
  refine (undo_km b K2 F2 _ z hz hk (by omega) (fun h0=>by rw [h0] at hl;simp at hl;omega)).mono ?_;rintro e w' ⟨rfl,hv⟩;obtain ⟨K3,F3,h1,h2,h3,h4,h5⟩:=hv.ex;refine ⟨_,K3,F3,rfl,h1,⟨h4,h5⟩,⟨hs.trans h3,i+1,h2,?_⟩,?_⟩
  ·have:K3.trail.length=(MV.backN (i+1) M).trail.length:=by rw [h2.tr,MV.backN_succ]
   rw [MV.backN_len] at this;omega
  ·have:K3.trail.length=(MV.backN (i+1) M).trail.length:=by rw [h2.tr,MV.backN_succ]
   rw [MV.backN_len] at this;omega
 ·rintro e w' hE
  obtain ⟨K',F',rfl,h1,h2,⟨h3,i,h4,h5⟩,h6⟩:=hE.ex
  have:i=M.trail.length-tr:=by omega
  subst this;exact ⟨K',F',by rw [e0],h1,h4,h3,h2⟩
def chT:TV:=⟨3,[216]⟩
def M15:MV:=(begM 3 10 [chT]).1
theorem zaf4:chT.Ok:=by
 refine ⟨by decide,by decide,fun x hx=>?_,fun _ x hx i hi=>?_⟩
 ·simp [chT] at hx;subst hx;unfold U64;omega
 ·simp [chT] at hx;subst hx
  have h8:8<=i:=by simpa [chT] using hi
  exact Nat.testBit_lt_two_pow (Nat.lt_of_lt_of_le (by decide:(216:Int).toNat<2 ^ 8) (Nat.pow_le_pow_right (by decide) h8))
theorem zae4:M15.live=3/\M15.U 0=5/\M15.c=10/\M15.exchE 0=0/\M15.tryV 0=(0,3,4)/\(M15.exch 0).trail.length=1/\M15.trail.length=0:=by decide +kernel
theorem zad4:(MV.backN 1 (M15.exch 0)).trail.length=0/\((MV.backN 1 (M15.exch 0)).playV [0,1]).2.1=0/\((MV.backN 1 (M15.exch 0)).playV [0,1]).1=[(0,3,4),(1,4,5)]:=by decide +kernel
theorem own_lt {w:World} {g k:Nat} {C:Array Value} {t:TypeId} {fr:Nat × Nat} {n c:Nat} (h:w.heap[g]?=some (.cells C t fr)) (hk:(Value.slice (some ⟨g,0,none⟩) n c).ownBlock=some k):k<w.heap.size:=by
 have h1:g=k:=by simpa [Value.ownBlock] using hk
 subst h1;exact heap_lt h
structure ChQ (w:World) (e:Ending) (w':World):Prop where
 ex:∃ g:Nat,e=.returned (.agg #[.int .i64 3,.slice (some ⟨g,0,none⟩) 1 1])/\w'.heap[g]?=some (.cells #[.int .u64 216] 90 (0,0))/\w.heap.size<=g/\Upd [] w w'
theorem zac4 (w:World):Calls Tryz.prog 58 #[] w fun e w'=>ChQ w e w':=by
 have hb1:=heap_alloc_new (w.alloc (.cells #[.int .i64 3,.slice (some ⟨w.heap.size+1,0,none⟩) 1 1] 122 (0,0))) (.cells #[.int .u64 216] 90 (0,0));rw [World.size_alloc] at hb1
 have hb0:((w.alloc (.cells #[.int .i64 3,.slice (some ⟨w.heap.size+1,0,none⟩) 1 1] 122 (0,0))).alloc (.cells #[.int .u64 216] 90 (0,0))).heap[w.heap.size]?=some (.cells #[.int .i64 3,.slice (some ⟨w.heap.size+1,0,none⟩) 1 1] 122 (0,0)) :=
  (Below.heap_alloc _ _ _ (heap_lt (heap_alloc_new _ _))).trans (heap_alloc_new _ _)
 have z0:=cell_at (j:=0) hb0 rfl;have z1:=cell_at (j:=1) hb0 rfl;have hu:=((Upd.refl [] w).alloc (.cells #[.int .i64 3,.slice (some ⟨w.heap.size+1,0,none⟩) 1 1] 122 (0,0))).alloc (.cells #[.int .u64 216] 90 (0,0));have HE:Hid (ChQ w (.returned (.agg #[.int .i64 3,.slice (some ⟨w.heap.size+1,0,none⟩) 1 1])) _):=⟨_,rfl,hb1,Nat.le_succ _,hu⟩;clear hb0 hb1 hu
 go_enter Tryz.func58,Tryz.ntmps58
 go_wp2_with fail;refine bodyPost_ret (v:=.agg #[.int .i64 3,.slice (some ⟨w.heap.size+1,0,none⟩) 1 1]) (by simp [results,Tryz.results58,go_sem,z0,z1]) rfl HE.out
theorem awake15_spec (w:World):Calls Tryz.prog 13 #[] w fun e w'=>e=.returned (.bool true)/\Upd [] w w':=by
 go_enter Tryz.func13,Tryz.ntmps13
 go_wp2_with fail;refine (zac4 w).mono ?_;rintro e w1 hE;obtain ⟨g,rfl,hb,hg,hu1⟩:=hE.ex;have hb2:=heap_alloc_new w1 (.cells #[.int .i64 3,.slice (some ⟨g,0,none⟩) 1 1] 122 (0,0));have hu2:Upd [] w1 (w1.alloc (.cells #[.int .i64 3,.slice (some ⟨g,0,none⟩) 1 1] 122 (0,0))):=(Upd.refl _ _).alloc _;obtain ⟨w2,hw2⟩ : ∃ w2,w1.alloc (.cells #[.int .i64 3,.slice (some ⟨g,0,none⟩) 1 1] 122 (0,0))=w2:=⟨_,rfl⟩;rw [hw2] at hb2 hu2;have hT:TIn w2 [] (.slice (some ⟨g,0,none⟩) 1 1) chT:=⟨zaf4,row_keep (w:=w1) ⟨rfl,.inr ⟨g,1,_,rfl,Nat.zero_le _,hb,Nat.le_refl _,by unfold maxLen;omega,rfl,rfl⟩⟩ fun k hk=>hu2.block k (own_lt hb hk) (by simp),by simp⟩
 have hL:TabsAt w2 (.slice (some ⟨w1.heap.size,0,none⟩) 1 1) [chT]:=⟨some ⟨w1.heap.size,0,none⟩,1,rfl,by unfold maxLen;simp,fun i t ht=>by
  obtain rfl:i=0:=by have h1:=(List.getElem?_eq_some_iff.1 ht).1;simp at h1;omega
  simp at ht;subst ht
  exact ⟨_,_,rfl,(show w2.cell? ((⟨w1.heap.size,0,none⟩ : Addr).add (0*2))=some (.int .i64 (3:Nat)) from tabs_add (cell_at (j:=0) hb2 rfl)),tabs_add2 (i:=0) (cell_at (j:=1) hb2 rfl),hT⟩⟩
 have HBG:=Lib.hid (begin_spec 3 10 _ [chT] none 0 0 [] w2 (by omega) (by omega) hL (by simp) (by intro t ht;simp at ht;subst ht;exact ⟨zaf4,rfl⟩) ⟨rfl,by unfold maxLen;omega,fun i hi=>by omega⟩ (by omega));have HW2:=Lib.hid hw2;have HU2:=Lib.hid (hu1.trans hu2);clear hT hL hb hb2 hu1 hu2 hw2 hg;go_wp2_with fail;rw [HW2.out];refine HBG.out.mono ?_;rintro e w3 hE;obtain ⟨a,b,m,rv,tv,K,F,p,refs,rfl,hP,hl,_,hvr,_,_,hu3⟩:=hE.ex;have hM:(begM 3 10 [chT]).1.exchs []=M15:=rfl;rw [hM] at hP hl;obtain ⟨v1,v2,v3,v4,v5,v6,v7⟩:=zae4;obtain ⟨q1,q2,q3⟩:=zad4;obtain ⟨MM,hMM⟩ : ∃ MM,M15=MM:=⟨_,rfl⟩;rw [hMM] at hP hl v1 v2 v3 v4 v5 v6 v7 q1 q2 q3;clear hMM hM;have HP:=Lib.hid (And.intro hP (And.intro hl.km hvr));have HU3:=Lib.hid (HU2.out.trans hu3)
 have HCA:Hid (∀ S z,Upd S w3 z->a∉S->z.cell? ⟨a,0,none⟩=some (.pointer (some ⟨b,0,none⟩))):=fun S z u h=>(u.cell (heap_lt hP.blk) h).trans hP.cells.1
 have hRM:=zah4 b 0 K F MM w3 hP.mem.ker hl.km (by omega);rw [v2,v3] at hRM;have HRM:=Lib.hid hRM;have a3:=HCA.out [] w3 (Upd.refl _ _) (by simp);clear hE hP hl hvr hu3 hRM HBG;go_wp2_with fail;refine HRM.out.mono ?_;rintro e w4 ⟨rfl,hu4⟩;have HU4:=Lib.hid hu4;have a4:=HCA.out [] w4 hu4 (by simp);clear hu4 a3;go_wp2_with fail;have hK4:=HP.out.1.mem.ker.upd HU4.out (by simp);refine (try_km b 0 K F MM w4 hK4 HP.out.2.1 (by omega)).mono ?_;rintro e w5 hE;obtain ⟨K5,F5,rfl,hK5,hm5,hst5,hsp5⟩:=hE.ex;rw [v4,v5];unfold chV;have hu5:Upd F w3 w5:=(HU4.out.mono (by simp):Upd F w3 w4).trans hsp5.up;have hbx:=heap_alloc_new w5 (.cells #[.int .i64 0,.int .i64 3,.int .i64 4] 46 (0,0));have hux:Upd [] w5 (w5.alloc (.cells #[.int .i64 0,.int .i64 3,.int .i64 4] 46 (0,0))):=(Upd.refl _ _).alloc _;have HNA:=Lib.hid HP.out.1.na.1;have a6:=HCA.out F (w5.alloc (.cells #[.int .i64 0,.int .i64 3,.int .i64 4] 46 (0,0))) (hu5.trans (hux.mono (by simp))) HNA.out;have HQ5:=Lib.hid (And.intro hK5 (And.intro hm5 (And.intro hst5 (And.intro hsp5 (And.intro hu5 hbx)))));clear hE hK5 hm5 hst5 hsp5 hK4 a4 hu5 hbx hux;obtain ⟨w6,hw6⟩ : ∃ w6,w5.alloc (.cells #[.int .i64 0,.int .i64 3,.int .i64 4] 46 (0,0))=w6:=⟨_,rfl⟩;have HW6:=Lib.hid hw6
 have hu6:Upd [] w5 w6:=by rw [<- hw6];exact (Upd.refl _ _).alloc _
 have hb6:=HQ5.out.2.2.2.2.2;rw [hw6] at a6 hb6;have HU6:=Lib.hid (And.intro hu6 hb6);have hBK:=zag4 b 0 K5 F5 (MM.exch 0) w6 (HQ5.out.1.upd hu6 (by simp)) HQ5.out.2.1 (by omega) (by omega);rw [show (((0:Nat):Int))=0 from rfl] at hBK;have HBK:=Lib.hid hBK;clear hw6 hu6 hb6 hBK;go_upto_region 6 with fail;rw [HW6.out];go_wp2_with fail;refine HBK.out.mono ?_;rintro e w7 hE;obtain ⟨K7,F7,rfl,hK7,hm7,hst7,hsp7⟩:=hE.ex;rw [v6] at hm7 ⊢
 have hu7:Upd F w3 w7:=((HQ5.out.2.2.2.2.1.trans (HU6.out.1.mono (by simp))).then hsp7.up fun k hk=>by
  rcases HQ5.out.2.2.2.1.sub k hk with h | h
  ·exact .inl h
  ·exact .inr (Nat.le_trans HU4.out.size h))
 have a7:=HCA.out F w7 hu7 HNA.out;have HQ7:=Lib.hid (And.intro hK7 (And.intro hm7 (And.intro hst7 (And.intro hsp7 hu7))));clear hE hK7 hm7 hst7 hsp7 hu7 a6 HBK;have hb8:=heap_alloc_new w7 (.cells #[.int .i64 0,.int .i64 1] 3 (0,0));have hu8:Upd [] w7 (w7.alloc (.cells #[.int .i64 0,.int .i64 1] 3 (0,0))):=(Upd.refl _ _).alloc _;obtain ⟨w8,hw8⟩ : ∃ w8,w7.alloc (.cells #[.int .i64 0,.int .i64 1] 3 (0,0))=w8:=⟨_,rfl⟩;rw [hw8] at hb8 hu8;have HW8:=Lib.hid hw8
 have hro:RowOf w8 .i64 (some ⟨w7.heap.size,0,none⟩) 2 [0,1]:=⟨rfl,by unfold maxLen;omega,fun i hi=>⟨_,rfl,by
  rcases (show i=0\/i=1 by omega) with rfl | rfl
  ·exact cell_at hb8 rfl
  ·exact cell_at hb8 rfl⟩⟩
 have hPL:=play_spec b (some ⟨w7.heap.size,0,none⟩) 2 2 [0,1] K7 F7 (MV.backN (1-0) (MM.exch 0)) w8 (HQ7.out.1.upd hu8 (by simp)) HQ7.out.2.1 (by rw [show (1-0:Nat)=1 from rfl,q1];omega) hro (by omega) (fun x hx hm=>by
  injection hx with hx
  subst hx;have:=HQ7.out.1.lt _ hm
  exact absurd this (Nat.lt_irrefl _))
 have HPL:=Lib.hid hPL;have HU8:=Lib.hid hu8;clear hw8 hb8 hu8 hro hPL;go_upto_region 7 with fail;go_wp2_with fail;rw [HW8.out];refine HPL.out.mono ?_;rintro e w9 hE;obtain ⟨v9,K9,F9,rfl,hro9,_,hK9,_,_,hsp9⟩:=hE.ex;rw [show (1-0:Nat)=1 from rfl,q3] at hro9;rw [show (1-0:Nat)=1 from rfl,q2];obtain ⟨o9,c9,rfl,_⟩:=row_nil_len hro9;obtain ⟨g9,rfl⟩:=row_some hro9 (by decide);have d0:w9.cell? ⟨g9,3,none⟩=some (.int .i64 1):=row_cell hro9 rfl;have d1:w9.cell? ⟨g9,4,none⟩=some (.int .i64 4):=row_cell hro9 rfl;have d2:w9.cell? ⟨g9,5,none⟩=some (.int .i64 5):=row_cell hro9 rfl
 have hn5:w5.heap.size∉F5:=fun hm=>by have:=HQ5.out.1.lt _ hm;omega
 have hl5:=heap_lt HU6.out.2
 have hn7:w5.heap.size∉F7:=fun hm=>by
  rcases HQ7.out.2.2.2.1.sub _ hm with h | h
  ·exact hn5 h
  ·omega
 have hb7:=(HQ7.out.2.2.2.1.up.block _ hl5 hn5).trans HU6.out.2;have hb8:=(HU8.out.block _ (heap_lt hb7) (by simp)).trans hb7;have hb9:=(hsp9.up.block _ (heap_lt hb8) hn7).trans hb8;have e0:=cell_at (j:=0) hb9 rfl;have e1:=cell_at (j:=1) hb9 rfl;have e2:=cell_at (j:=2) hb9 rfl
 have HFIN:Hid (Upd [] w w9):=by
  have h7:Upd F w3 w9:=(HQ7.out.2.2.2.2.trans (HU8.out.mono (by simp))).then hsp9.up fun k hk=>by
   rcases HQ7.out.2.2.2.1.sub k hk with h | h
   ·rcases HQ5.out.2.2.2.1.sub k h with h | h
    ·exact .inl h
    ·exact .inr (Nat.le_trans HU4.out.size h)
   ·exact .inr (Nat.le_trans (Nat.le_trans HU4.out.size (Nat.le_trans HQ5.out.2.2.2.1.up.size HU6.out.1.size)) h)
  exact HU3.out.then h7 fun k hk=>.inr (by
   have h1:=HP.out.1.lo k (.inl hk);have h2:=HU2.out.size
   omega)
 clear hE hro9 hK9 hsp9 hn5 hl5 hn7 hb7 hb8 hb9 a7;go_wp2_with fail;go_ret;exact ⟨rfl,HFIN.out⟩
theorem zaa4 (a:Int) {n:Nat} (hn:0<n):-(n:Int)<a.tmod n/\a.tmod n<n:=by
 have h1:=Int.tmod_lt_of_pos a (b:=(n:Int)) (by omega);have h2:=Int.tmod_lt_of_pos (-a) (b:=(n:Int)) (by omega);rw [Int.neg_tmod] at h2;omega
theorem mod15_spec (a:Int) (n:Nat) (w:World) (hn:0<n) (hm:n<=1000) :
  Calls Tryz.prog 46 #[.int .i64 a,.int .i64 n] w fun e w'=>∃ k:Nat,k<n/\e=.returned (.int .i64 k)/\w'=w:=by
 have hne:¬ (n:Int)=0:=by omega
 have hnN:¬ n=0:=by omega
 have hr:=zaa4 a hn;generalize hq:a.tmod n=r at hr
 go_enter Tryz.func46,Tryz.ntmps46
 go_wp2_with fail;have h0:=Int.emod_nonneg (r+(n:Int)) (b:=(n:Int)) (by omega);have h1:=Int.emod_lt_of_pos (r+(n:Int)) (b:=(n:Int)) (by omega);go_ret;refine ⟨((r+(n:Int)) % (n:Int)).toNat,by omega,?_,rfl⟩
 rw [Int.toNat_of_nonneg h0];rfl
theorem mod15_all (a:Int) (n:Nat) (hn:0<n) (hm:n<=1000) :
  ∃ k:Nat,k<n/\∀ w:World,Calls Tryz.prog 46 #[.int .i64 a,.int .i64 n] w fun e w'=>e=.returned (.int .i64 k)/\w'=w:=by
 have hne:¬ (n:Int)=0:=by omega
 have hnN:¬ n=0:=by omega
 have hr:=zaa4 a hn;generalize hq:a.tmod n=r at hr;have h0:=Int.emod_nonneg (r+(n:Int)) (b:=(n:Int)) (by omega);have h1:=Int.emod_lt_of_pos (r+(n:Int)) (b:=(n:Int)) (by omega);refine ⟨((r+(n:Int)) % (n:Int)).toNat,by omega,fun w=>?_⟩
 go_enter Tryz.func46,Tryz.ntmps46
 go_wp2_with fail;go_ret;refine ⟨?_,rfl⟩
 rw [Int.toNat_of_nonneg h0];rfl
def muchB (n:Int) (gn ln:Nat):Bool:=decide (1<=n)&&decide (n<=64)&&decide (gn<=40)&&decide (ln<=80)
theorem much15_spec (n:Int) (ga la:Option Addr) (gn gc ln lc:Nat) (w:World) (hg:gn<=maxLen) (hl:ln<=maxLen) :
  Calls Tryz.prog 40 #[.int .i64 n,.slice ga gn gc,.slice la ln lc] w fun e w'=>e=.returned (.bool (muchB n gn ln))/\Upd [] w w':=by
 have hu:=Upd.refl [] w;unfold maxLen at hg hl;have hB:Hid (muchB n gn ln=(decide (1<=n)&&decide (n<=64)&&decide (gn<=40)&&decide (ln<=80))):=rfl;generalize muchB n gn ln=B at *
 go_enter Tryz.func40,Tryz.ntmps40
 by_cases h1:(1:Int)<=n
 ·by_cases h2:n<=64
  ·by_cases h3:gn<=40
   ·have h3i:(gn:Int)<=40:=by omega
    by_cases h4:ln<=80
    ·have h4i:(ln:Int)<=80:=by omega
     go_wp2_with fail;go_ret;exact ⟨by rw [hB.out];simp [h1,h2,h3,h4],hu⟩
    ·have h4i:¬ (ln:Int)<=80:=by omega
     go_wp2_with fail;go_ret;exact ⟨by rw [hB.out];simp [h1,h2,h3,h4],hu⟩
   ·have h3i:¬ (gn:Int)<=40:=by omega
    go_wp2_with fail;go_ret;exact ⟨by rw [hB.out];simp [h1,h2,h3],hu⟩
  ·go_wp2_with fail
   go_ret;exact ⟨by rw [hB.out,decide_eq_false (show ¬ n<=64 by omega),Bool.and_false];rfl,hu⟩
 ·go_wp2_with fail
  go_ret;exact ⟨by rw [hB.out,decide_eq_false (show ¬ 1<=n by omega)];rfl,hu⟩
theorem KV.Ok.den_var {K:KV} (hk:K.Ok) {s v:Nat} (hs:K.At s v 0 1):K.A.tk s=true/\∀ y,K.den s y=y v:=by
 obtain ⟨h2,p,hp,hpt,e1,e2,e3⟩:=hs;refine ⟨ArenaV.tk_iff.2 ⟨p,hp,hpt⟩,fun y=>?_⟩;rw [KV.den_node hk.wf hk.ord h2 hp hpt,e2,e3,K.den_const (by omega),K.den_const (by omega),show p.var.toNat=v by omega]
 cases y v <;> rfl
theorem KV.Ok.at_var {K:KV} (hk:K.Ok) (hu:K.Uni) {x v:Nat} (ht:K.A.tk x=true) (hd:∀ y,K.den x y=y v):K.At x v 0 1:=by
 have h2:2<=x:=by
  refine Classical.byContradiction fun h=>?_
  have h1:=hd fun _=>true
  have h0:=hd fun _=>false
  rw [K.den_const (by omega)] at h1 h0
  rw [h1] at h0;cases h0
 obtain ⟨p,hp,hpt⟩:=ArenaV.tk_iff.1 ht;have hcl:=hk.wf.cl x p h2 hp hpt;have hvr:=hk.wf.vr x p h2 hp hpt
 have e1:∀ y,K.den p.hi y=K.den x (upd y p.var.toNat true):=fun y=>by
  have:=hk.kid_den h2 hp hpt true y
  simpa using this
 have e0:∀ y,K.den p.lo y=K.den x (upd y p.var.toNat false):=fun y=>by
  have:=hk.kid_den h2 hp hpt false y
  simpa using this
 have hv:p.var.toNat=v:=by
  refine Classical.byContradiction fun hne=>?_
  refine hk.ord.ne x p h2 hp hpt (KV.canon hk.wf hk.ord hu _ _ _ hcl.1 hcl.2 (Nat.le_refl _) fun y=>?_);rw [e0,e1,hd,hd];unfold upd;rw [if_neg (fun e=>hne e.symm),if_neg (fun e=>hne e.symm)]
 have h1:p.hi=1:=KV.canon hk.wf hk.ord hu _ _ _ hcl.2 (hk.tk_const (by omega)) (Nat.le_refl _) fun y=>by
  rw [e1,hd,K.den_const (by omega)];unfold upd;rw [if_pos hv.symm];rfl
 have h0:p.lo=0:=KV.canon hk.wf hk.ord hu _ _ _ hcl.1 (hk.tk_const (by omega)) (Nat.le_refl _) fun y=>by
  rw [e0,hd,K.den_const (by omega)];unfold upd;rw [if_pos hv.symm];rfl
 exact ⟨h2,p,hp,hpt,by have:=hvr.1;omega,h0,h1⟩
theorem KV.SubN.self (K:KV) (t:(Nat->Bool)->Bool):K.SubN t t:=⟨0,fun _=>false,fun x=>by
 congr 1
 funext u
 simp [KV.mix]⟩
theorem MakeR.opr {K K':KV} {v r:Nat} {code:Int} (M:MakeR K v 0 1 r code K') (hk:K.Ok) (hu:K.Uni) (hk':K'.Ok) (hv:v<K.vars):OpR K (fun y=>y v) r code K':=by
 have hfe:K.fitsE (v:Int) 0 1=0:=KV.fits_ok (by omega) (hk.tk_const (by omega)) (hk.tk_const (by omega)) fun _=>by
  have:=(hk.ord.pm.lo v hv).1;rw [hk.wf.dep_const (by omega),hk.wf.dep_const (by omega)];omega
 have has:∀ {s:Nat},K.Has (v:Int) 0 1 s->K.At s v 0 1:=fun hs=>by
  rcases hs with ⟨e,_⟩ | ⟨_,hs⟩
  ·omega
  ·simpa using hs
 cases M with
 | bad h0=>exact absurd hfe h0
 | @full s h0 hs hm =>
  obtain ⟨t1,t2⟩:=hk.den_var (has hs);exact .inr (.inl ⟨rfl,rfl,⟨KV.Ext.refl K,KV.Ext.refl K,fun _=>rfl,.inr rfl⟩,s,t1,t2,hm⟩)
 | old h0 hs hm =>
  obtain ⟨t1,t2⟩:=hk.den_var (has hs);have X:=(hk.kept t1 hm).2;refine .inl ⟨rfl,X.ext,X.ext.tk t1,fun y=>by rw [X.ext.den hk.wf y t1,t2],fun x=>by rw [X.hd];split <;> rfl,X.tr,fun x h1 h2=>?_⟩;rw [X.A] at h1
  rw [h1] at h2;cases h2
 | nodes h0 hne hno hus =>
  refine .inr (.inr ⟨rfl,rfl,⟨KV.Ext.refl K,KV.Ext.refl K,fun _=>rfl,.inr rfl⟩,K,[],fun y=>y v,hk,hu,?_,hus,KV.SubN.self K _,fun x hx hd=>?_⟩)
  ·exact RunS.start K _
  ·exact hno x (by simpa using hk.at_var hu hx hd)
 | new h0 hne hno hm =>
  have hm':K.Made v 0 1 r K':=by simpa using hm
  have hat:K'.At r v 0 1:=hm'.at_iff.2 (.inl ⟨rfl,rfl,rfl,rfl⟩);obtain ⟨t1,t2⟩:=hk'.den_var hat
  have h0:K.hold r=0:=by
   by_cases hp:0<K.hold r
   ·have:=(hk.wf.ht r hp).2
    rw [hm'.no] at this;cases this
   ·omega
  have h2:=hm'.two;refine .inl ⟨rfl,hm'.ext,t1,t2,fun x=>?_,hm'.tr,fun x hx hx0=>?_⟩
  ·rw [hm'.hd]
   by_cases e:x=r
   ·subst e;rw [if_pos rfl,if_pos ⟨rfl,h2⟩,h0]
   ·rw [if_neg e,if_neg (fun k=>e k.1)];rfl
  ·rw [hm'.tk,hx0,Bool.or_false] at hx
   obtain rfl:x=r:=of_decide_eq_true hx
   have e:K'.den x=fun y=>y v:=funext t2
   rw [e];exact KV.SubN.self K _
end Go.Proofs.YtfkopmhpppeheaaGreat
