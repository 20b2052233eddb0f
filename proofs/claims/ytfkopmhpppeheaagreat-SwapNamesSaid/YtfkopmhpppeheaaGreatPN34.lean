import Derived.Test.YtfkopmhpppeheaaGreatPN33
import Derived.Test.YtfkopmhpppeheaaGreatPN30
import Derived.Test.YtfkopmhpppeheaaGreatPN7
import Derived.Test.YtfkopmhpppeheaaGreatPN32
import Derived.Test.YtfkopmhpppeheaaGreatPN20
import Derived.Test.YtfkopmhpppeheaaGreatPN12
set_option maxRecDepth 100000
set_option maxHeartbeats 6400000
namespace Go.Proofs.YtfkopmhpppeheaaGreat
open Go.RowKit Go.Maps Go.ChangeMaps Go.WideShapes
theorem DT {W:World} {mb:Nat} (h:W.heap[mb]?=some (.map #[] 0)):W.ownsMap Tryz.prog 154 (plainElem (H:=Unit) Tryz.prog 3) mb 0 (.map []):=by
 obtain ⟨es,clock,q1,q2,q3,q4⟩:=World.ownsMap_made W Tryz.prog 154 (plainElem (H:=Unit) Tryz.prog 3);rw [heap_alloc_new] at q1;cases q1;exact ⟨#[],0,h,q2,Nat.zero_le _,rfl⟩
theorem aa9 (w:World) (o1 o2 o3 o4 o5 o6 o7:Obj) {w7:World} (hw:((((((w.alloc o1).alloc o2).alloc o3).alloc o4).alloc o5).alloc o6).alloc o7=w7):w7.heap[w.heap.size]?=some o1/\w7.heap[w.heap.size+1]?=some o2/\w7.heap[w.heap.size+1+1]?=some o3/\w7.heap[w.heap.size+1+1+1]?=some o4 /\
  w7.heap[w.heap.size+1+1+1+1]?=some o5/\w7.heap[w.heap.size+1+1+1+1+1]?=some o6/\w7.heap[w.heap.size+1+1+1+1+1+1]?=some o7/\af [] w w7:=by
 subst hw;have n1:=heap_alloc_new w o1;have n2:=heap_alloc_new (w.alloc o1) o2;have n3:=heap_alloc_new ((w.alloc o1).alloc o2) o3;have n4:=heap_alloc_new (((w.alloc o1).alloc o2).alloc o3) o4;have n5:=heap_alloc_new ((((w.alloc o1).alloc o2).alloc o3).alloc o4) o5;have n6:=heap_alloc_new (((((w.alloc o1).alloc o2).alloc o3).alloc o4).alloc o5) o6;have n7:=heap_alloc_new ((((((w.alloc o1).alloc o2).alloc o3).alloc o4).alloc o5).alloc o6) o7
 have old:∀ (z:World) (o:Obj) {k:Nat} {x:Obj},z.heap[k]?=some x->(z.alloc o).heap[k]?=some x:=fun z o k x h=>(heap_alloc_old z o (ah h)).trans h
 simp only [World.size_alloc] at n2 n3 n4 n5 n6 n7
 exact ⟨old _ _ (old _ _ (old _ _ (old _ _ (old _ _ (old _ _ n1))))),old _ _ (old _ _ (old _ _ (old _ _ (old _ _ n2)))),old _ _ (old _ _ (old _ _ (old _ _ n3))),old _ _ (old _ _ (old _ _ n4)),old _ _ (old _ _ n5),old _ _ n6,n7,(((((((af.refl [] w).alloc o1).alloc o2).alloc o3).alloc o4).alloc o5).alloc o6).alloc o7⟩
structure DU (x y:Nat) (w0:World) (s8 s9:Value) (wc:World):Prop where
 ex:∃ xb yb:Nat,s8=.pointer (some ⟨xb,0,none⟩)/\s9=.pointer (some ⟨yb,0,none⟩)/\wc.heap[xb]?=some (.cells #[.int .i64 x] 3 (0,0))/\wc.heap[yb]?=some (.cells #[.int .i64 y] 3 (0,0))/\af [] w0 wc
theorem DU.of1 (x y:Nat) (w0:World):DU x y w0 (.pointer (some ⟨w0.heap.size,0,none⟩)) (.pointer (some ⟨w0.heap.size+1,0,none⟩)) ((w0.drew.alloc (.cells #[.int .i64 x] 3 (0,0))).alloc (.cells #[.int .i64 y] 3 (0,0))):=by
 have h:=heap_alloc_new (w0.drew.alloc (.cells #[.int .i64 x] 3 (0,0))) (.cells #[.int .i64 y] 3 (0,0));rw [World.size_alloc] at h;have h0:=heap_alloc_new w0.drew (.cells #[.int .i64 x] 3 (0,0));exact ⟨_,_,rfl,rfl,(heap_alloc_old _ _ (ah h0)).trans h0,h,((af.refl [] w0).drew.alloc _).alloc _⟩
theorem DU.of2 (x y:Nat) (w0:World):DU x y w0 (.pointer (some ⟨w0.heap.size+1,0,none⟩)) (.pointer (some ⟨w0.heap.size,0,none⟩)) ((w0.drew.alloc (.cells #[.int .i64 y] 3 (0,0))).alloc (.cells #[.int .i64 x] 3 (0,0))):=by
 have h:=heap_alloc_new (w0.drew.alloc (.cells #[.int .i64 y] 3 (0,0))) (.cells #[.int .i64 x] 3 (0,0));rw [World.size_alloc] at h;have h0:=heap_alloc_new w0.drew (.cells #[.int .i64 y] 3 (0,0));exact ⟨_,_,rfl,rfl,h,(heap_alloc_old _ _ (ah h0)).trans h0,((af.refl [] w0).drew.alloc _).alloc _⟩
structure agM (b l:Nat) (K:KV) (w:World) (e:Ending) (w':World):Prop where
 ex:∃ n:Nat,e=.returned (.tuple #[.int .i64 n,.int .i64 ((K.A.places:Int)-2),.int .i64 0])/\af [] w w' /\
  ∀ (C:List bY) (N:List (Nat × Nat)),dU K l (K.order.getD l 0) (K.order.getD (l+1) 0) C->lZ K (K.order.getD l 0) (C.flatMap bY.qs) N->n+2=K.A.used+N.length
theorem Ad (b l:Nat) (K:KV) (T:List DM) (q:aA) (w:World) (h:bV w b K T q) (hl:l+2<=K.vars) :
  Calls Tryz.prog 22 #[.pointer (some ⟨b,0,none⟩),.int .i64 l] w fun e w'=>agM b l K w e w':=by
 have hmf:∀ (fn:Fn) (first cap:Array Value) (w:World),(Instr.makeFunc fn first cap).run Tryz.prog w=.ok (.func fn first cap) w:=fun _ _ _ _=>rfl
 have OI:=@run_makeMap Tryz.prog
 have hsf:∀ (a:Addr) (m:Mode) (fn:Fn) (first cap:Array Value) (w:World),(store a (.func fn first cap) m).run Tryz.prog w=stored Tryz.prog w a (.func fn first cap) m:=fun a m fn first cap w=>run_store Tryz.prog w a _ m rfl
 have zx:=h.ok.wf.vs;have yC:=h.ok.ord.pm.ol;have wM:=heap_alloc_new w (.cells #[.pointer (some ⟨b,0,none⟩)] 40 (0,0));have wO:af [] w (w.alloc (.cells #[.pointer (some ⟨b,0,none⟩)] 40 (0,0))):=(af.refl _ _).alloc _;obtain ⟨w0,AZ⟩ : ∃ w0,w.alloc (.cells #[.pointer (some ⟨b,0,none⟩)] 40 (0,0))=w0:=⟨_,rfl⟩;rw [AZ] at wM wO;have Xr:=Lib.hid AZ;have jR:=Lib.hid wO;have HK:=Lib.hid h
 have HKB:Hid (∀ z,af [] w0 z->z.heap[w.heap.size]?=some (.cells #[.pointer (some ⟨b,0,none⟩)] 40 (0,0))):=fun z u=>(u.block _ (ah wM) (by simp)).trans wM
 have c0:w0.cell? ⟨w.heap.size,0,none⟩=some (.pointer (some ⟨b,0,none⟩)):=ae wM rfl;obtain ⟨x,hx⟩ : ∃ x,K.order[l]?=some x:=⟨_,List.getElem?_eq_getElem (by omega)⟩;obtain ⟨y,hy⟩ : ∃ y,K.order[l+1]?=some y:=⟨_,List.getElem?_eq_getElem (by omega)⟩
 have VC:K.order.getD l 0=x:=by rw [List.getD_eq_getElem?_getD,hx];rfl
 have hye:K.order.getD (l+1) 0=y:=by rw [List.getD_eq_getElem?_getD,hy];rfl
 have JV:=Lib.hid (And.intro hx (And.intro hy (And.intro VC hye)));have HVR:=Lib.hid (FH b K T q w0 (h.upd wO (by simp)).mem)
 have yu:¬ ((l:Int)<0):=by omega
 have uG:¬ ((K.vars:Int)-2<(l:Int)):=by omega
 have hkl:b<w.heap.size:=h.mem.lt b (aA.mem.2 (.inl rfl));have SY:=Lib.hid h.mem.lt;have HOL:=Lib.hid yC;have sH:K.vars<=64:=zx.2;obtain ⟨kv,Nl⟩ : ∃ kv,K.vars=kv:=⟨_,rfl⟩;have QH:=Lib.hid Nl;rw [Nl] at HVR uG sH hl;clear h wM wO AZ hx hy VC hye zx yC Nl
 go_enter Tryz.func22,Tryz.ntmps22
 go_wp2_with fail;rw [Xr.out];go_wp2_with fail;refine HVR.out.mono ?_;rintro e w1 ⟨rfl,rfl⟩;have UK:=Lib.hid (qH b K T q w1 (HK.out.upd jR.out (by simp)).mem (by have h1:K.vars=kv:=QH.out;have h2:=HOL.out;omega) (by have h1:K.vars=kv:=QH.out;have h2:=HOL.out;omega));rw [HOL.out] at UK;go_wp2_with fail;refine UK.out.mono ?_;rintro e w2 ⟨og,oc,rfl,aC,jE⟩;rw [QH.out]
 have rc:∀ i v:Nat,K.order[i]?=some v->w2.cell? ⟨og,i,none⟩=some (.int .i64 v):=fun i v hv=>au aC (by simp only [aQ,List.getElem?_map];rw [hv];rfl)
 have x0:=rc l x JV.out.1;have x1:=rc (l+1) y JV.out.2.1
 have asJ:(l:Int)<(kv:Int):=by omega
 have AA:(l:Int)+1<(kv:Int):=by omega
 obtain ⟨l1,Zk⟩ : ∃ l1,l+1=l1:=⟨_,rfl⟩
 have asK:wrap64 ((l:Int)+1)=(l1:Int):=by rw [<- Zk,IntWalk.wrap64_in _ (by omega)];omega
 have hwl:IntKind.i64.wrap ((l:Int)+1)=(l1:Int):=by rw [<- Zk,IntWalk.i64_in _ (by omega)];omega
 have pF:(l1:Int)<(kv:Int):=by omega
 rw [Zk] at x1;have eF:=Lib.hid jE;clear jE aC rc c0 Zk AA;go_upto_region 6 with fail
 go_cut [8,9] from 31 to 39 (fun s8 s9 wc=>DU x y w2 s8 s9 wc)
 case first =>
  have H8:Hid (∀ z,af [] w2 z->z.cell? ⟨og,l,none⟩=some (.int .i64 x)/\z.cell? ⟨og,l1,none⟩=some (.int .i64 y)):=fun z u=>⟨u.cell0 x0,u.cell0 x1⟩
  have HD1:=Lib.hid (DU.of1 x y w2);have HD2:=Lib.hid (DU.of2 x y w2);refine fZ (fun z=>z.cell? ⟨og,l,none⟩=some (.int .i64 x)/\z.cell? ⟨og,l1,none⟩=some (.int .i64 y)) (fun _=>True) [] (by kernel_rfl) ?_;have hS:=H8.out _ (af.refl _ _).drew;have hE:True:=trivial;refine dN 0 rfl hS (fun _=>hE) ?_;refine dN 1 rfl hS (fun _=>hE) ?_;refine dN 2 rfl hS (fun _=>hE) ?_;refine dN 3 rfl hS (fun _=>hE) ?_;refine dN 4 rfl hS (fun _=>hE) ?_;refine dN 5 rfl hS (fun _=>hE) ?_;refine dN 6 rfl hS (fun _=>hE) ?_;refine dN 7 rfl hS (fun _=>hE) ?_;refine dN 8 rfl hS (fun _=>hE) ?_;refine aJ (rs:=[9,10]) (by kernel_rfl) (by simp) ?_;refine ay.cons rfl (fun Kx hK=>?_) ?_
  ·
   go_simp
   refine hK.out _ _ ⟨H8.out _ ((af.refl _ _).drew.alloc _),fun _=>trivial⟩ (fun hHeld=>?_);clear hK Kx;obtain ⟨hS,hE⟩:=hHeld;have hE:=hE (by kernel_rfl)
   (try simp only [Act.put,List.setIfInBounds_toArray,List.set_cons_zero,List.set_cons_succ])
   refine aJ (rs:=[10]) (by kernel_rfl) (by simp) ?_;refine ay.cons rfl (fun Kx hK=>?_) ?_
   rotate_left
   exact ay.nil
   go_simp
   refine hK.out _ _ ⟨H8.out _ (((af.refl _ _).drew.alloc _).alloc _),fun _=>trivial⟩ (fun hHeld=>?_);clear hK Kx;obtain ⟨hS,hE⟩:=hHeld;have hE:=hE (by kernel_rfl)
   (try simp only [Act.put,List.setIfInBounds_toArray,List.set_cons_zero,List.set_cons_succ])
   refine aJ (rs:=[11]) (by kernel_rfl) (by simp) ?_;refine ay.cons rfl (fun Kx hK=>?_) ?_
   rotate_left
   exact ay.nil
   go_simp
   refine hK.out _ _ ⟨H8.out _ (by repeat (first | exact af.refl _ _ | refine af.drew ?_ | refine af.alloc ?_ _ | (refine af.setCell ?_ (.inr (by simp)) _))),fun _=>trivial⟩ (fun hHeld=>?_);clear hK Kx;obtain ⟨hS,hE⟩:=hHeld;have hE:=hE (by kernel_rfl)
   (try simp only [Act.put,List.setIfInBounds_toArray,List.set_cons_zero,List.set_cons_succ])
   refine aJ (rs:=[12]) (by kernel_rfl) (by simp) ?_;refine ay.cons rfl (fun Kx hK=>?_) ?_
   rotate_left
   exact ay.nil
   go_simp
   refine hK.out _ _ ⟨H8.out _ (by repeat (first | exact af.refl _ _ | refine af.drew ?_ | refine af.alloc ?_ _ | (refine af.setCell ?_ (.inr (by simp)) _))),fun _=>trivial⟩ (fun hHeld=>?_);clear hK Kx;obtain ⟨hS,hE⟩:=hHeld;have hE:=hE (by kernel_rfl)
   (try simp only [Act.put,List.setIfInBounds_toArray,List.set_cons_zero,List.set_cons_succ])
   refine fD (by kernel_rfl) ?_ _;clear hS hE;go_wp2_with fail;go_meet;exact HD1.out
  refine ay.cons rfl (fun Kx hK=>?_) ?_
  rotate_left
  exact ay.nil
  go_simp
  refine hK.out _ _ ⟨H8.out _ ((af.refl _ _).drew.alloc _),fun _=>trivial⟩ (fun hHeld=>?_);clear hK Kx;obtain ⟨hS,hE⟩:=hHeld;have hE:=hE (by kernel_rfl)
  (try simp only [Act.put,List.setIfInBounds_toArray,List.set_cons_zero,List.set_cons_succ])
  refine aJ (rs:=[9]) (by kernel_rfl) (by simp) ?_;refine ay.cons rfl (fun Kx hK=>?_) ?_
  rotate_left
  exact ay.nil
  go_simp
  refine hK.out _ _ ⟨H8.out _ (((af.refl _ _).drew.alloc _).alloc _),fun _=>trivial⟩ (fun hHeld=>?_);clear hK Kx;obtain ⟨hS,hE⟩:=hHeld;have hE:=hE (by kernel_rfl)
  (try simp only [Act.put,List.setIfInBounds_toArray,List.set_cons_zero,List.set_cons_succ])
  refine aJ (rs:=[11]) (by kernel_rfl) (by simp) ?_;refine ay.cons rfl (fun Kx hK=>?_) ?_
  rotate_left
  exact ay.nil
  go_simp
  refine hK.out _ _ ⟨H8.out _ (by repeat (first | exact af.refl _ _ | refine af.drew ?_ | refine af.alloc ?_ _ | (refine af.setCell ?_ (.inr (by simp)) _))),fun _=>trivial⟩ (fun hHeld=>?_);clear hK Kx;obtain ⟨hS,hE⟩:=hHeld;have hE:=hE (by kernel_rfl)
  (try simp only [Act.put,List.setIfInBounds_toArray,List.set_cons_zero,List.set_cons_succ])
  refine aJ (rs:=[12]) (by kernel_rfl) (by simp) ?_;refine ay.cons rfl (fun Kx hK=>?_) ?_
  rotate_left
  exact ay.nil
  go_simp
  refine hK.out _ _ ⟨H8.out _ (by repeat (first | exact af.refl _ _ | refine af.drew ?_ | refine af.alloc ?_ _ | (refine af.setCell ?_ (.inr (by simp)) _))),fun _=>trivial⟩ (fun hHeld=>?_);clear hK Kx;obtain ⟨hS,hE⟩:=hHeld;have hE:=hE (by kernel_rfl)
  (try simp only [Act.put,List.setIfInBounds_toArray,List.set_cons_zero,List.set_cons_succ])
  refine fD (by kernel_rfl) ?_ _;clear hS hE;go_wp2_with fail;go_meet;exact HD2.out
 case rest =>
  obtain ⟨xb,yb,rfl,rfl,Xy,hyb,fG⟩:=hcut.ex;have h0:=aa9 wc _ _ _ _ _ _ _ (rfl:(((((((wc.alloc (.map #[] 0)).alloc (.cells #[.map (some (wc.heap.size))] 149 (0,0))).alloc (.map #[] 0)).alloc (.cells #[.map (some (wc.heap.size+1+1))] 149 (0,0))).alloc (.map #[] 0)).alloc (.cells #[.map (some (wc.heap.size+1+1+1+1))] 114 (0,0))).alloc (.cells #[.nilFunc] 150 (0,0)))=_);have c6:=ae (j:=0) h0.2.2.2.2.2.2.1 rfl;have f6:=ax 0 h0.2.2.2.2.2.2.1;obtain ⟨w7,hw7⟩ : ∃ w7,(((((((wc.alloc (.map #[] 0)).alloc (.cells #[.map (some (wc.heap.size))] 149 (0,0))).alloc (.map #[] 0)).alloc (.cells #[.map (some (wc.heap.size+1+1))] 149 (0,0))).alloc (.map #[] 0)).alloc (.cells #[.map (some (wc.heap.size+1+1+1+1))] 114 (0,0))).alloc (.cells #[.func (Fn.func 75) #[] #[.pointer (some ⟨w.heap.size,0,none⟩),.pointer (some ⟨wc.heap.size+1+1+1+1+1,0,none⟩),.pointer (some ⟨xb,0,none⟩),.pointer (some ⟨yb,0,none⟩),.pointer (some ⟨wc.heap.size+1+1+1,0,none⟩),.pointer (some ⟨wc.heap.size+1,0,none⟩),.pointer (some ⟨wc.heap.size+1+1+1+1+1+1,0,none⟩)]] 150 (0,0)))=w7:=⟨_,rfl⟩;obtain ⟨b1,b2,b3,b4,b5,b6,b7,Ez⟩:=aa9 wc _ _ _ _ _ _ _ hw7;have HW7:=Lib.hid hw7;have hUA:af [] w1 w7:=(eF.out.trans fG).trans Ez;have Px:=ah Xy;have SI:=ah hyb;have asM:w.heap.size<wc.heap.size:=Nat.lt_of_lt_of_le (ah (HKB.out _ (af.refl _ _))) (eF.out.trans fG).size;obtain ⟨B,hB⟩ : ∃ B:RB,B=⟨w.heap.size,wc.heap.size+1+1+1+1+1,xb,yb,wc.heap.size+1+1+1,wc.heap.size+1,wc.heap.size+1+1+1+1+1+1,wc.heap.size+1+1+1+1,wc.heap.size+1+1,wc.heap.size⟩:=⟨_,rfl⟩
  have agO:Hid (Bl w7 b B x y K T q (.map []) (.map []) (.map [])):=by
   subst hB;refine ⟨HK.out.upd (jR.out.trans hUA) (by simp),HKB.out _ hUA,b6,(Ez.block _ Px (by simp)).trans Xy,(Ez.block _ SI (by simp)).trans hyb,b4,b2,b7,BI b5,DT b3,DT b1,fun k hk=>?_,?_,?_⟩
   ·have:=SY.out k hk
    simp [RB.maps];omega
   ·simp [RB.maps];omega
   ·simp;omega
  have agP:=Lib.hid (jR.out.trans hUA)
  have V9:Hid (B.maps=[wc.heap.size+1+1+1+1,wc.heap.size+1+1,wc.heap.size]/\B.wk=wc.heap.size+1+1+1+1+1+1/\B.mo=wc.heap.size+1/\B.hk=wc.heap.size+1+1+1/\B.mm=wc.heap.size/\B.kk=w.heap.size):=by
   show _/\_/\_/\_/\_/\_
   subst hB;exact ⟨rfl,rfl,rfl,rfl,rfl,rfl⟩
  have HCP:Hid (B.caps=#[.pointer (some ⟨w.heap.size,0,none⟩),.pointer (some ⟨wc.heap.size+1+1+1+1+1,0,none⟩),.pointer (some ⟨xb,0,none⟩),.pointer (some ⟨yb,0,none⟩),.pointer (some ⟨wc.heap.size+1+1+1,0,none⟩),.pointer (some ⟨wc.heap.size+1,0,none⟩),.pointer (some ⟨wc.heap.size+1+1+1+1+1+1,0,none⟩)]):=by
   show _=_
   subst hB;rfl
  have Po:=Lib.hid (CY b K T q w7 (HK.out.upd agP.out (by simp)));have k7:w7.cell? ⟨w.heap.size,0,none⟩=some (.pointer (some ⟨b,0,none⟩)):=ae (HKB.out _ hUA) rfl;have al2:=Lib.hid (eF.out.trans fG);have kc:wc.cell? ⟨w.heap.size,0,none⟩=some (.pointer (some ⟨b,0,none⟩)):=ae (HKB.out _ al2.out) rfl;clear h0 hw7 b1 b2 b3 b4 b5 b6 b7 Ez hUA Xy hyb fG Px SI hB hcut x0 x1;go_upto_region 12 with fail;rw [HW7.out];generalize XI:K.roots.length=RL at *;have NR:=Lib.hid XI;clear XI;go_wp2_with fail;refine Po.out.mono ?_;rintro e w8 ⟨rv,rfl,aC,PL⟩;obtain ⟨ra,rcp,rfl,_⟩:=aj aC;have bF:=Lib.hid aC;have HU8:=Lib.hid (agP.out.trans PL);have al3:=Lib.hid (agO.out.keep PL);have hwk:B.wk=wc.heap.size+1+1+1+1+1+1:=V9.out.2.1;have HWK:=Lib.hid hwk
  have rF:RL<=1048576:=by
   have h1:=HK.out.ok.wf.len;have h2:=HK.out.ok.wf.ul;have h3:=HK.out.ok.wf.ok.lp;have h4:=HK.out.ok.wf.ok.pm
   have h5:K.roots.length<=K.holds.length:=by unfold KV.roots;exact Nat.le_trans (List.length_filter_le _ _) (by simp)
   have h6:K.roots.length=RL:=NR.out;omega
  clear aC PL hwk k7 kc;go_wp2_with fail
  go_loopg [47] RL (fun gg s47 wr=>∃ (i:Nat) (N:List Nat) (S H M:DM),RL-i=gg/\i<=RL/\s47=.int .i64 i/\jT K [] (K.roots.take i) N/\RVs K x y N S H M/\Bl wr b B x y K T q S H M/\af B.maps w8 wr)
  case atStart=>exact ⟨0,[],_,_,_,by omega,by omega,rfl,jT.nil _,⟨sS.nil,ku.nil,ku.nil⟩,al3.out,af.refl _ _⟩
  case round =>
   obtain ⟨i,N,S,H,M,rfl,hi,rfl,hL,hS,hM,hU⟩:=hrel
   by_cases aW:i<RL
   ·have fF:(i:Int)<(RL:Int):=by omega
    obtain ⟨f,hf⟩ : ∃ f,K.roots[i]?=some f:=⟨_,List.getElem?_eq_getElem (by have:=NR.out;omega)⟩;obtain ⟨g,rfl⟩:=bC bF.out (by omega);have hg8:=(bF.out.lt g rfl)
    have hgm:g∉B.maps:=by
     rw [V9.out.1];have h1:=hg8.1;have h2:=HW7.out
     have h3:wc.heap.size+1+1+1+1+1+1<w7.heap.size:=by rw [<- HWK.out];exact ah agO.out.bw
     simp;omega
    have aC:=ai bF.out fun k hk=>by
     simp [Value.ownBlock] at hk;subst hk
     exact hU.block _ hg8.2 hgm
    have cf:=au aC (j:=i) (u:=.int .u32 f) (by simp [aI,hf]);have kC:=(HK.out.ok.wf.ht f (KV.jm.1 (List.mem_of_getElem? hf))).2;have cw4:=ae (j:=0) hM.bw rfl;rw [HCP.out,HWK.out] at cw4;have AL:=hL.nodup (by simp);have HC:=Lib.hid (Aa b B x y K T q (K.vars+1) 0 (by omega) f N S H M wr hM hS (by simpa using AL) kC (Nat.zero_le _));rw [HCP.out] at HC;have HL:=Lib.hid (And.intro hL (And.intro hf hU));clear hM hS hL hf hU aC kC AL hg8 hgm;go_wp2_with fail;refine HC.out.mono ?_;rintro e w9 ⟨rfl,hQ⟩;obtain ⟨N1,S1,H1,M1,hN,hS1,hM1,iq⟩:=hQ.ex
    have HE:Hid (jT K [] (K.roots.take (i+1)) (N++N1)/\RVs K x y (N++N1) S1 H1 M1/\Bl w9 b B x y K T q S1 H1 M1/\af B.maps w8 w9):=by
     refine ⟨?_,hS1,hM1,HL.out.2.2.trans iq⟩;rw [List.take_add_one,HL.out.2.1];exact HL.out.1.snoc (by simpa using hN)
    clear hQ hN hS1 hM1 iq HC cw4;go_wp2_with fail
    go_roundg (RL-(i+1))
    case measure=>omega
    case rel=>exact ⟨i+1,N++N1,S1,H1,M1,rfl,by omega,by simp,HE.out.1,HE.out.2.1,HE.out.2.2.1,HE.out.2.2.2⟩
   ·obtain rfl:i=RL:=by omega
    have fF:¬ ((i:Int)<(i:Int)):=by omega
    obtain ⟨ud,Qz⟩ : ∃ ud,K.A.used=ud+2:=⟨K.A.used-2,by have h1:=KV.uC HK.out.ok.wf (l:=[0,1]) (by simp) (by intro x hx;simp at hx;rcases hx with rfl | rfl;exact HK.out.ok.wf.ok.oq.1;exact HK.out.ok.wf.ok.oq.2);simp at h1;omega⟩;have UM:=CX b K T q wr hM.ker.mem;rw [show ((K.A.used:Nat):Int)-2=(ud:Int) by omega] at UM;have HUD:=Lib.hid Qz;have QA:=Lib.hid UM
    have asO:ud<=1048576:=by have h1:=HK.out.ok.wf.ok.us;have h2:=HK.out.ok.wf.ok.lp;have h3:=HK.out.ok.wf.ok.pm;omega
    clear UM Qz;have Yf:=Lib.hid (Kz b K T q)
    have hWL:jT K [] K.roots N:=by
     have h1:K.roots.take i=K.roots:=List.take_of_length_le (by have h:K.roots.length=i:=NR.out;omega)
     rw [h1] at hL;exact hL
    have XC:=Lib.hid (hWL.all HK.out.ok);have HM:=Lib.hid (And.intro hS (And.intro hM hU))
    have ckk:wr.cell? ⟨w.heap.size,0,none⟩=some (.pointer (some ⟨b,0,none⟩)):=by
     have h:=ae (j:=0) hM.bk rfl
     rw [V9.out.2.2.2.2.2] at h;exact h
    have cmo:wr.cell? ⟨wc.heap.size+1,0,none⟩=some (.map (some B.mm)):=by
     have h:=ae (j:=0) hM.bm rfl
     rw [V9.out.2.2.1] at h;exact h
    have IK:=hM.mm;clear hL hS hM hU hWL;go_wp2_with fail;refine QA.out.mono ?_;rintro e w9 ⟨rfl,rfl⟩;have Zl:=uN HM.out.1.m (IK.canon dP) (IK.tidy dP);have apJ:=RG HM.out.1.m (IK.canon dP) (IK.tidy dP)
    go_wp2_with (first
     | (at_range;refine wpList_range_own _ rfl _ 149 rfl 154 3 dP Tryz.underlying149 _ B.mm (Maps.size M) M rfl IK ?_;intro w10 CO UQ Ya)
     | go_in)
    go_frame
    go_loopw [16] (fun s16 wr=>∃ (left:Lit->Bool) (cnt:Nat) (ps:List (Nat × Nat)),wr.ranges Tryz.prog 154 (plainElem Tryz.prog 3) B.mm w9.heap.size (Maps.size M) M left cnt/\ps.length+cnt<=Maps.size M/\Ac (N.flatMap (K.um x y)) left ps/\s16=.int .i64 ((ud+sD (N.flatMap (K.iR x)) ps:Nat))/\af [] w9 wr)
     (fun _ wr=>wr.rangeLeft B.mm w9.heap.size)
    case atStart=>exact ⟨_,_,[],CO,by simp,Ac.start HM.out.1.m,by simp [sD],(af.refl [] w9).grown UQ (by simp)⟩
    case round =>
     obtain ⟨left,cnt,ps,Ei,EC,hC,rfl,hU⟩:=hrel;have uF:=Zj (N.flatMap (K.iR x)) ps
     go_wp2_with (first
      | (at_next;refine wpList_next_ranges _ rfl _ rfl 154 dP (plainElem Tryz.prog 3) id (Value.int .i64) (fun key kl hk=>⟨key,rfl⟩) (fun v y hv=>by obtain ⟨c,rfl,_⟩:=plainElem_int_inv Tryz.underlying3 hv;exact ⟨c,rfl⟩) B.mm w9.heap.size (Maps.size M) _ _ _ rfl Ei ?_ ?_)
      | go_in)
     ·intro Jc yu
      have ab6:Hid (∀ (C:List bY) (N':List (Nat × Nat)),dU K l (K.order.getD l 0) (K.order.getD (l+1) 0) C->lZ K (K.order.getD l 0) (C.flatMap bY.qs) N'->(ud+sD (N.flatMap (K.iR x)) ps)+2=K.A.used+N'.length):=fun C N' CA F=>by
       rw [JV.out.2.2.1] at CA F;rw [JV.out.2.2.2] at CA;have h1:=Oa HK.out.ok XC.out HM.out.1.m hC yu CA F;have h2:K.A.used=ud+2:=HUD.out;omega
      have agS:=(HM.out.2.1.keep hU).ker;have HN9:=Lib.hid (Yf.out _ agS.mem);have ck:=hU.cell0 ckk
      have HUZ:Hid (af [] w _):=HU8.out.then (HM.out.2.2.trans (hU.mono (by simp))) fun k hk=>.inr (by
       rw [V9.out.1] at hk;simp at hk;omega)
      generalize sD (N.flatMap (K.iR x)) ps=cn at *;clear hC Ei EC hU agS yu CO UQ Ya IK Zl;go_wp2_with fail;refine HN9.out.mono ?_;rintro e IL ⟨rfl,rfl⟩;have asT:2<=K.A.places:=HK.out.ok.wf.ok.p2;have asU:K.A.places<=1048576:=HK.out.ok.wf.ok.pm;go_wp2_with fail;refine bodyPost_ret (v:=.tuple #[.int .i64 ((ud+cn:Nat)),.int .i64 ((K.A.places:Int)-2),.int .i64 0]) (by simp [results,Tryz.results22,go_sem]) rfl ?_;exact ⟨_,rfl,HUZ.out,ab6.out⟩
     ·intro xk c kl yd yp EW Ob iV hlk hv bI KA AA XG xe I4
      obtain ⟨ka,kb,rfl,hka,hkb⟩:=HM.out.1.m.dom kl (has_true_of_atKey bI);have hxk:=dP.inj iV (DL (a:=ka) (b:=kb) (by omega) (by omega));have hQ:(ka,kb)∈N.flatMap (K.um x y):=(HM.out.1.m.has ka kb (by omega) (by omega)).1 (has_true_of_atKey bI);have hC1:=hC.step hka hkb hQ hlk;subst hxk;obtain ⟨cv,ecv,_,_⟩:=plainElem_int_inv Tryz.underlying3 hv;have aY:=heap_alloc_new EW (.cells #[.int .u32 ka,.int .u32 kb] 154 (0,0))
      have KC:af [] w9 EW:=hU.grown XG fun k hk=>.inr (by simp at hk;omega)
      have AB:af [] EW (EW.alloc (.cells #[.int .u32 ka,.int .u32 kb] 154 (0,0))):=(af.refl _ _).alloc _;have CP:=KA.alloc (.cells #[.int .u32 ka,.int .u32 kb] 154 (0,0));obtain ⟨IL,DV⟩ : ∃ IL,EW.alloc (.cells #[.int .u32 ka,.int .u32 kb] 154 (0,0))=IL:=⟨_,rfl⟩;rw [DV] at aY AB CP;have WB:=Lib.hid DV;have WC:=HM.out.2.1.keep (KC.trans AB);have x0:=ae (j:=0) aY rfl;have x1:=ae (j:=1) aY rfl
      have cho:IL.cell? ⟨wc.heap.size+1+1+1,0,none⟩=some (.map (some B.hm)):=by
       have h:=ae (j:=0) WC.bh rfl
       rw [V9.out.2.2.2.1] at h;exact h
      obtain ⟨c2,JF,su,_⟩:=WC.mh.lookup_int dP Tryz.underlying149 Tryz.underlying3 (uD _) (DL (a:=ka) (b:=kb) (by omega) (by omega));have Fv:=Lib.hid (And.intro CP (And.intro hC1 (And.intro (KC.trans AB) (And.intro AA EC))));have hme:=KA.left_eq;have acX:=Ei.left_eq
      have HME:Hid (IL.rangeLeft B.mm w9.heap.size<wr.rangeLeft B.mm w9.heap.size):=by
       show _<_
       rw [CP.left_eq,Ei.left_eq];exact AA
      have O9:ps.length+1<=Maps.size M:=by omega
      by_cases vz:ka=kb
      ·subst vz
       have hne:((ka:Int) != (ka:Int))=false:=by simp
       have BQ:Hid (sD (N.flatMap (K.iR x)) (ps++[(ka,ka)])=sD (N.flatMap (K.iR x)) ps):=by
        show _=_
        rw [zh,if_neg (by simp)];rfl
       generalize sD (N.flatMap (K.iR x)) ps=cn at *;clear Ei hC hU bI XG xe aY KC AB KA CP DV WC su hme acX hQ hC1 iV hlk hv CO UQ Ya IK Zl;go_upto_region 21 with fail;rw [WB.out];go_wp2_with fail
       go_roundw
       case rel=>exact ⟨_,Ob,ps++[(ka,ka)],Fv.out.1,by have:=Fv.out.2.2.2.1;simp;omega,Fv.out.2.1,by rw [BQ.out];simp,Fv.out.2.2.1⟩
       case measure=>exact HME.out
      ·have hne:((ka:Int) != (kb:Int))=true:=by simp;omega
       have hh:=HM.out.1.h.has ka kb (by omega) (by omega)
       by_cases wK:(ka,kb)∈N.flatMap (K.iR x)
       ·have BC:c2=1:=by
         have:=HM.out.1.h.at_ ka kb (by omega) (by omega) (hh.2 wK) (.lit (.int .i64 0));rw [this] at su
         simpa using su.symm
        subst BC
        have BQ:Hid (sD (N.flatMap (K.iR x)) (ps++[(ka,kb)])=sD (N.flatMap (K.iR x)) ps):=by
         show _=_
         rw [zh,if_neg (fun h=>h.2 wK)];rfl
        generalize sD (N.flatMap (K.iR x)) ps=cn at *;clear Ei hC hU bI XG xe aY KC AB KA CP DV WC su hme acX hQ hC1 iV hlk hv CO UQ Ya IK Zl hh wK;go_upto_region 21 with fail;rw [WB.out];go_wp2_with fail
        go_roundw
        case rel=>exact ⟨_,Ob,ps++[(ka,kb)],Fv.out.1,by have:=Fv.out.2.2.2.1;simp;omega,Fv.out.2.1,by rw [BQ.out];simp,Fv.out.2.2.1⟩
        case measure=>exact HME.out
       ·have bK:Maps.has H (lk ka kb)=false:=by
         cases e:Maps.has H (lk ka kb) with
         | false=>rfl
         | true=>exact absurd (hh.1 e) wK
        have BC:c2=0:=by
         rw [atKey_of_not_has bK] at su
         simpa using su.symm
        subst BC
        have BQ:Hid (sD (N.flatMap (K.iR x)) (ps++[(ka,kb)])=sD (N.flatMap (K.iR x)) ps+1):=by
         show _=_
         rw [zh,if_pos ⟨vz,wK⟩]
        generalize sD (N.flatMap (K.iR x)) ps=cn at *;clear Ei hC hU bI XG xe aY KC AB KA CP DV WC su hme acX hQ hC1 iV hlk hv CO UQ Ya IK Zl hh wK bK;go_upto_region 21 with fail;rw [WB.out];go_wp2_with fail
        go_roundw
        case rel=>exact ⟨_,Ob,ps++[(ka,kb)],Fv.out.1,by have:=Fv.out.2.2.2.1;simp;omega,Fv.out.2.1,by rw [BQ.out];simp;omega,Fv.out.2.2.1⟩
        case measure=>exact HME.out
theorem rZ.exists {K:KV} {l x y r:Nat} (nb:Nb K l x y) (hc:K.gZ x y r):∃ c:bY,c.r=r/\rZ K l x y c:=by
 obtain ⟨p,a00,a01,a10,a11,h⟩:=nb.four hc;have hc':=hc;obtain ⟨_,p',hp,_,hv,_⟩:=hc'
 have e:p=p':=by have:=h.at_;rw [hp] at this;exact (Option.some.inj this).symm
 subst e;exact ⟨⟨r,p.lo,p.hi,a00,a01,a10,a11⟩,rfl,hc,p,h,hv,rfl,rfl⟩
theorem dU.exists {K:KV} {l x y:Nat} (nb:Nb K l x y):∃ C,dU K l x y C:=by
 classical
 have step:∀ n,∃ C:List bY,(∀ c,c∈C->rZ K l x y c/\c.r<n)/\(C.map bY.r).Nodup/\∀ r,r<n->K.gZ x y r->r∈C.map bY.r:=by
  intro n
  induction n with
  | zero=>exact ⟨[],by simp,by simp,fun r h=>by omega⟩
  | succ n ih =>
   obtain ⟨C,h1,h2,h3⟩:=ih
   by_cases hc:K.gZ x y n
   ·obtain ⟨c,hr,dJ⟩:=rZ.exists nb hc
    refine ⟨C++[c],fun d hd=>?_,?_,fun r Il oz=>?_⟩
    ·rcases List.mem_append.1 hd with h | h
     ·have:=h1 d h;exact ⟨this.1,by omega⟩
     ·simp at h;subst h;exact ⟨dJ,by omega⟩
    ·rw [List.map_append,List.nodup_append]
     refine ⟨h2,by simp,fun a ha b hb=>?_⟩
     simp at hb
     obtain ⟨d,hd,rfl⟩:=List.mem_map.1 ha;have:=(h1 d hd).2;omega
    ·rw [List.map_append]
     by_cases e:r=n
     ·subst e;exact List.mem_append.2 (.inr (by simp [hr]))
     ·exact List.mem_append.2 (.inl (h3 r (by omega) oz))
   ·exact ⟨C,fun d hd=>⟨(h1 d hd).1,by have:=(h1 d hd).2;omega⟩,h2,fun r hr oz=>h3 r (by
     by_cases e:r=n
     ·subst e;exact absurd oz hc
     ·omega) oz⟩
 obtain ⟨C,h1,h2,h3⟩:=step K.A.list.length
 exact ⟨C,fun c hc=>(h1 c hc).1,h2,fun r hr=>h3 r (by
  obtain ⟨_,p,hp,_⟩:=hr
  exact (List.getElem?_eq_some_iff.1 hp).1) hr⟩
theorem Zm (b l:Nat) (K:KV) (F:List Nat) (M:MV) (w:World) (h:aZ w b K F) (hm:KM K M) (hl:l+2<=K.vars) :
  Calls Tryz.prog 22 #[.pointer (some ⟨b,0,none⟩),.int .i64 l] w fun e w'=>e=.returned (.tuple #[.int .i64 (M.U l:Nat),.int .i64 ((M.c:Int)-2),.int .i64 0])/\af [] w w':=by
 have hu:=h.uni;have dJ:=h.ok;obtain ⟨T,q,hk,rfl⟩:=h;refine (Ad b l K T q w hk hl).mono ?_;rintro e w' hE;obtain ⟨n,rfl,jy,hn⟩:=hE.ex;refine ⟨?_,jy⟩;have nb:=dJ.nb hu hl;obtain ⟨C,CA⟩:=dU.exists nb;obtain ⟨N,FN⟩:=lZ.exists K (K.order.getD l 0) (C.flatMap bY.qs);have h1:=hn C N CA FN;have h2:=hm.agr.U nb hm.n16 CA FN;have h3:=hm.agr.c
 have e1:n=M.U l:=by omega
 rw [e1,h3]
def MV.qw (j:Nat) (M:MV):MV:=Nat.repeat MV.VV j M
theorem MV.wF (j:Nat) (M:MV):MV.qw (j+1) M=(MV.qw j M).VV:=rfl
theorem MV.zi (M:MV):∀ j,(MV.qw j M).trail.length=M.trail.length-j
 | 0=>rfl
 | j+1=>by
  rw [MV.wF]
  show (MV.qw j M).trail.dropLast.length=_
  rw [List.length_dropLast,MV.zi M j];omega
structure agU (b tr:Nat) (K:KV) (F:List Nat) (M:MV) (w:World) (e:Ending) (w':World):Prop where
 ex:∃ (K':KV) (F':List Nat),e=.returned (.tuple #[.int .i64 (M.trail.length-tr:Nat),.int .i64 0])/\aZ w' b K' F'/\KM K' (MV.qw (M.trail.length-tr) M)/\qW K K'/\l9 F w F' w'
theorem Zn (b tr:Nat) (K:KV) (F:List Nat) (M:MV) (w:World) (h:aZ w b K F) (hm:KM K M) (ht:M.trail.length<=1000000) (qG:tr<=M.trail.length) :
  Calls Tryz.prog 23 #[.pointer (some ⟨b,0,none⟩),.int .i64 tr] w fun e w'=>agU b tr K F M w e w':=by
 have e0:K.trail.length=M.trail.length:=by rw [hm.tr]
 refine (Gv b tr (fun K2=>qW K K2/\∃ i,KM K2 (MV.qw i M)/\K2.trail.length+i=M.trail.length) K F w h ⟨qW.refl _,0,hm,by omega⟩ (by omega) (by omega) fun z K2 F2 hz hp aW hlen=>?_).mono ?_
 ·obtain ⟨hs,i,hk,hi⟩:=hp
  have hl:(MV.qw i M).trail.length=K2.trail.length:=by rw [hk.tr]
  refine (Y8 b K2 F2 _ z hz hk (by omega) (fun h0=>by rw [h0] at hl;simp at hl;omega)).mono ?_;rintro e w' ⟨rfl,hv⟩;obtain ⟨K3,F3,h1,h2,h3,h4,h5⟩:=hv.ex;refine ⟨_,K3,F3,rfl,h1,⟨h4,h5⟩,⟨hs.trans h3,i+1,h2,?_⟩,?_⟩
  ·have:K3.trail.length=(MV.qw (i+1) M).trail.length:=by rw [h2.tr,MV.wF]
   rw [MV.zi] at this;omega
  ·have:K3.trail.length=(MV.qw (i+1) M).trail.length:=by rw [h2.tr,MV.wF]
   rw [MV.zi] at this;omega
 ·rintro e w' hE
  obtain ⟨K',F',rfl,h1,h2,⟨h3,i,h4,h5⟩,h6⟩:=hE.ex
  have:i=M.trail.length-tr:=by omega
  subst this;exact ⟨K',F',by rw [e0],h1,h4,h3,h2⟩
def Zo:TV:=⟨3,[216]⟩
def Tc:MV:=(uU 3 10 [Zo]).1
theorem WE:Zo.Ok:=by
 refine ⟨by decide,by decide,fun x hx=>?_,fun _ x hx i hi=>?_⟩
 ·simp [Zo] at hx;subst hx;unfold jU;omega
 ·simp [Zo] at hx;subst hx
  have h8:8<=i:=by simpa [Zo] using hi
  exact Nat.testBit_lt_two_pow (Nat.lt_of_lt_of_le (by decide:(216:Int).toNat<2 ^ 8) (Nat.pow_le_pow_right (by decide) h8))
theorem WG:Tc.live=3/\Tc.U 0=5/\Tc.c=10/\Tc.gy 0=0/\Tc.Wh 0=(0,3,4)/\(Tc.gQ 0).trail.length=1/\Tc.trail.length=0:=by decide +kernel
theorem WH:(MV.qw 1 (Tc.gQ 0)).trail.length=0/\((MV.qw 1 (Tc.gQ 0)).jO [0,1]).2.1=0/\((MV.qw 1 (Tc.gQ 0)).jO [0,1]).1=[(0,3,4),(1,4,5)]:=by decide +kernel
theorem acZ {w:World} {g k:Nat} {C:Array Value} {t:TypeId} {fr:Nat × Nat} {n c:Nat} (h:w.heap[g]?=some (.cells C t fr)) (hk:(Value.slice (some ⟨g,0,none⟩) n c).ownBlock=some k):k<w.heap.size:=by
 have h1:g=k:=by simpa [Value.ownBlock] using hk
 subst h1;exact ah h
structure ChQ (w:World) (e:Ending) (w':World):Prop where
 ex:∃ g:Nat,e=.returned (.agg #[.int .i64 3,.slice (some ⟨g,0,none⟩) 1 1])/\w'.heap[g]?=some (.cells #[.int .u64 216] 90 (0,0))/\w.heap.size<=g/\af [] w w'
theorem KD (w:World):Calls Tryz.prog 58 #[] w fun e w'=>ChQ w e w':=by
 have Ag:=heap_alloc_new (w.alloc (.cells #[.int .i64 3,.slice (some ⟨w.heap.size+1,0,none⟩) 1 1] 122 (0,0))) (.cells #[.int .u64 216] 90 (0,0));rw [World.size_alloc] at Ag
 have wM:((w.alloc (.cells #[.int .i64 3,.slice (some ⟨w.heap.size+1,0,none⟩) 1 1] 122 (0,0))).alloc (.cells #[.int .u64 216] 90 (0,0))).heap[w.heap.size]?=some (.cells #[.int .i64 3,.slice (some ⟨w.heap.size+1,0,none⟩) 1 1] 122 (0,0)) :=
  (Below.heap_alloc _ _ _ (ah (heap_alloc_new _ _))).trans (heap_alloc_new _ _)
 have z0:=ae (j:=0) wM rfl;have z1:=ae (j:=1) wM rfl;have hu:=((af.refl [] w).alloc (.cells #[.int .i64 3,.slice (some ⟨w.heap.size+1,0,none⟩) 1 1] 122 (0,0))).alloc (.cells #[.int .u64 216] 90 (0,0));have HE:Hid (ChQ w (.returned (.agg #[.int .i64 3,.slice (some ⟨w.heap.size+1,0,none⟩) 1 1])) _):=⟨_,rfl,Ag,Nat.le_succ _,hu⟩;clear wM Ag hu
 go_enter Tryz.func58,Tryz.ntmps58
 go_wp2_with fail;refine bodyPost_ret (v:=.agg #[.int .i64 3,.slice (some ⟨w.heap.size+1,0,none⟩) 1 1]) (by simp [results,Tryz.results58,go_sem,z0,z1]) rfl HE.out
theorem IM (w:World):Calls Tryz.prog 13 #[] w fun e w'=>e=.returned (.bool true)/\af [] w w':=by
 go_enter Tryz.func13,Tryz.ntmps13
 go_wp2_with fail;refine (KD w).mono ?_;rintro e w1 hE;obtain ⟨g,rfl,hb,hg,iq⟩:=hE.ex;have fU:=heap_alloc_new w1 (.cells #[.int .i64 3,.slice (some ⟨g,0,none⟩) 1 1] 122 (0,0));have jE:af [] w1 (w1.alloc (.cells #[.int .i64 3,.slice (some ⟨g,0,none⟩) 1 1] 122 (0,0))):=(af.refl _ _).alloc _;obtain ⟨w2,gV⟩ : ∃ w2,w1.alloc (.cells #[.int .i64 3,.slice (some ⟨g,0,none⟩) 1 1] 122 (0,0))=w2:=⟨_,rfl⟩;rw [gV] at fU jE;have hT:jG w2 [] (.slice (some ⟨g,0,none⟩) 1 1) Zo:=⟨WE,ai (w:=w1) ⟨rfl,.inr ⟨g,1,_,rfl,Nat.zero_le _,hb,Nat.le_refl _,by unfold maxLen;omega,rfl,rfl⟩⟩ fun k hk=>jE.block k (acZ hb hk) (by simp),by simp⟩
 have hL:DJ w2 (.slice (some ⟨w1.heap.size,0,none⟩) 1 1) [Zo]:=⟨some ⟨w1.heap.size,0,none⟩,1,rfl,by unfold maxLen;simp,fun i t ht=>by
  obtain rfl:i=0:=by have h1:=(List.getElem?_eq_some_iff.1 ht).1;simp at h1;omega
  simp at ht;subst ht
  exact ⟨_,_,rfl,(show w2.cell? ((⟨w1.heap.size,0,none⟩ : Addr).add (0*2))=some (.int .i64 (3:Nat)) from V7 (ae (j:=0) fU rfl)),Ru (i:=0) (ae (j:=1) fU rfl),hT⟩⟩
 have HBG:=Lib.hid (N7 3 10 _ [Zo] none 0 0 [] w2 (by omega) (by omega) hL (by simp) (by intro t ht;simp at ht;subst ht;exact ⟨WE,rfl⟩) ⟨rfl,by unfold maxLen;omega,fun i hi=>by omega⟩ (by omega));have Au:=Lib.hid gV;have eF:=Lib.hid (iq.trans jE);clear hT hL hb fU iq jE gV hg;go_wp2_with fail;rw [Au.out];refine HBG.out.mono ?_;rintro e w3 hE;obtain ⟨a,b,m,rv,tv,K,F,p,refs,rfl,hP,hl,_,oV,_,_,fG⟩:=hE.ex;have hM:(uU 3 10 [Zo]).1.qp []=Tc:=rfl;rw [hM] at hP hl;obtain ⟨v1,v2,v3,v4,v5,v6,v7⟩:=WG;obtain ⟨q1,q2,q3⟩:=WH;obtain ⟨MM,hMM⟩ : ∃ MM,Tc=MM:=⟨_,rfl⟩;rw [hMM] at hP hl v1 v2 v3 v4 v5 v6 v7 q1 q2 q3;clear hMM hM;have HP:=Lib.hid (And.intro hP (And.intro hl.km oV));have o8:=Lib.hid (eF.out.trans fG)
 have zF:Hid (∀ S z,af S w3 z->a∉S->z.cell? ⟨a,0,none⟩=some (.pointer (some ⟨b,0,none⟩))):=fun S z u h=>(u.cell (ah hP.blk) h).trans hP.cells.1
 have hRM:=Zm b 0 K F MM w3 hP.mem.ker hl.km (by omega);rw [v2,v3] at hRM;have XB:=Lib.hid hRM;have a3:=zF.out [] w3 (af.refl _ _) (by simp);clear hE hP hl oV fG hRM HBG;go_wp2_with fail;refine XB.out.mono ?_;rintro e w4 ⟨rfl,Ah⟩;have I8:=Lib.hid Ah;have a4:=zF.out [] w4 Ah (by simp);clear Ah a3;go_wp2_with fail;have hK4:=HP.out.1.mem.ker.upd I8.out (by simp);refine (Wi b 0 K F MM w4 hK4 HP.out.2.1 (by omega)).mono ?_;rintro e w5 hE;obtain ⟨K5,F5,rfl,hK5,hm5,agV,ac0⟩:=hE.ex;rw [v4,v5];unfold chV;have nK:af F w3 w5:=(I8.out.mono (by simp):af F w3 w4).trans ac0.up;have aY:=heap_alloc_new w5 (.cells #[.int .i64 0,.int .i64 3,.int .i64 4] 46 (0,0));have NM:af [] w5 (w5.alloc (.cells #[.int .i64 0,.int .i64 3,.int .i64 4] 46 (0,0))):=(af.refl _ _).alloc _;have MO:=Lib.hid HP.out.1.na.1;have a6:=zF.out F (w5.alloc (.cells #[.int .i64 0,.int .i64 3,.int .i64 4] 46 (0,0))) (nK.trans (NM.mono (by simp))) MO.out;have Lj:=Lib.hid (And.intro hK5 (And.intro hm5 (And.intro agV (And.intro ac0 (And.intro nK aY)))));clear hE hK5 hm5 agV ac0 hK4 a4 nK aY NM;obtain ⟨w6,NW⟩ : ∃ w6,w5.alloc (.cells #[.int .i64 0,.int .i64 3,.int .i64 4] 46 (0,0))=w6:=⟨_,rfl⟩;have HW6:=Lib.hid NW
 have uI:af [] w5 w6:=by rw [<- NW];exact (af.refl _ _).alloc _
 have QF:=Lj.out.2.2.2.2.2;rw [NW] at a6 QF;have HU6:=Lib.hid (And.intro uI QF);have hBK:=Zn b 0 K5 F5 (MM.gQ 0) w6 (Lj.out.1.upd uI (by simp)) Lj.out.2.1 (by omega) (by omega);rw [show (((0:Nat):Int))=0 from rfl] at hBK;have HBK:=Lib.hid hBK;clear NW uI QF hBK;go_upto_region 6 with fail;rw [HW6.out];go_wp2_with fail;refine HBK.out.mono ?_;rintro e w7 hE;obtain ⟨K7,F7,rfl,hK7,hm7,agW,ac1⟩:=hE.ex;rw [v6] at hm7 ⊢
 have Ez:af F w3 w7:=((Lj.out.2.2.2.2.1.trans (HU6.out.1.mono (by simp))).then ac1.up fun k hk=>by
  rcases Lj.out.2.2.2.1.sub k hk with h | h
  ·exact .inl h
  ·exact .inr (Nat.le_trans I8.out.size h))
 have a7:=zF.out F w7 Ez MO.out;have LK:=Lib.hid (And.intro hK7 (And.intro hm7 (And.intro agW (And.intro ac1 Ez))));clear hE hK7 hm7 agW ac1 Ez a6 HBK;have Vo:=heap_alloc_new w7 (.cells #[.int .i64 0,.int .i64 1] 3 (0,0));have PL:af [] w7 (w7.alloc (.cells #[.int .i64 0,.int .i64 1] 3 (0,0))):=(af.refl _ _).alloc _;obtain ⟨w8,hw8⟩ : ∃ w8,w7.alloc (.cells #[.int .i64 0,.int .i64 1] 3 (0,0))=w8:=⟨_,rfl⟩;rw [hw8] at Vo PL;have HW8:=Lib.hid hw8
 have hro:zV w8 .i64 (some ⟨w7.heap.size,0,none⟩) 2 [0,1]:=⟨rfl,by unfold maxLen;omega,fun i hi=>⟨_,rfl,by
  rcases (show i=0\/i=1 by omega) with rfl | rfl
  ·exact ae Vo rfl
  ·exact ae Vo rfl⟩⟩
 have hPL:=Ry b (some ⟨w7.heap.size,0,none⟩) 2 2 [0,1] K7 F7 (MV.qw (1-0) (MM.gQ 0)) w8 (LK.out.1.upd PL (by simp)) LK.out.2.1 (by rw [show (1-0:Nat)=1 from rfl,q1];omega) hro (by omega) (fun x hx hm=>by
  injection hx with hx
  subst hx;have:=LK.out.1.lt _ hm
  exact absurd this (Nat.lt_irrefl _))
 have HPL:=Lib.hid hPL;have HU8:=Lib.hid PL;clear hw8 Vo PL hro hPL;go_upto_region 7 with fail;go_wp2_with fail;rw [HW8.out];refine HPL.out.mono ?_;rintro e w9 hE;obtain ⟨v9,K9,F9,rfl,Oc,_,hK9,_,_,ac2⟩:=hE.ex;rw [show (1-0:Nat)=1 from rfl,q3] at Oc;rw [show (1-0:Nat)=1 from rfl,q2];obtain ⟨o9,c9,rfl,_⟩:=aj Oc;obtain ⟨g9,rfl⟩:=bC Oc (by decide);have d0:w9.cell? ⟨g9,3,none⟩=some (.int .i64 1):=au Oc rfl;have d1:w9.cell? ⟨g9,4,none⟩=some (.int .i64 4):=au Oc rfl;have d2:w9.cell? ⟨g9,5,none⟩=some (.int .i64 5):=au Oc rfl
 have hn5:w5.heap.size∉F5:=fun hm=>by have:=Lj.out.1.lt _ hm;omega
 have hl5:=ah HU6.out.2
 have hn7:w5.heap.size∉F7:=fun hm=>by
  rcases LK.out.2.2.2.1.sub _ hm with h | h
  ·exact hn5 h
  ·omega
 have Jl:=(LK.out.2.2.2.1.up.block _ hl5 hn5).trans HU6.out.2;have Vo:=(HU8.out.block _ (ah Jl) (by simp)).trans Jl;have Xv:=(ac2.up.block _ (ah Vo) hn7).trans Vo;have e0:=ae (j:=0) Xv rfl;have e1:=ae (j:=1) Xv rfl;have e2:=ae (j:=2) Xv rfl
 have tN:Hid (af [] w w9):=by
  have h7:af F w3 w9:=(LK.out.2.2.2.2.trans (HU8.out.mono (by simp))).then ac2.up fun k hk=>by
   rcases LK.out.2.2.2.1.sub k hk with h | h
   ·rcases Lj.out.2.2.2.1.sub k h with h | h
    ·exact .inl h
    ·exact .inr (Nat.le_trans I8.out.size h)
   ·exact .inr (Nat.le_trans (Nat.le_trans I8.out.size (Nat.le_trans Lj.out.2.2.2.1.up.size HU6.out.1.size)) h)
  exact o8.out.then h7 fun k hk=>.inr (by
   have h1:=HP.out.1.lo k (.inl hk);have h2:=eF.out.size
   omega)
 clear hE Oc hK9 ac2 hn5 hl5 hn7 Jl Vo Xv a7;go_wp2_with fail;go_ret;exact ⟨rfl,tN.out⟩
theorem DW (a:Int) {n:Nat} (hn:0<n):-(n:Int)<a.tmod n/\a.tmod n<n:=by
 have h1:=Int.tmod_lt_of_pos a (b:=(n:Int)) (by omega);have h2:=Int.tmod_lt_of_pos (-a) (b:=(n:Int)) (by omega);rw [Int.neg_tmod] at h2;omega
theorem Oe (a:Int) (n:Nat) (w:World) (hn:0<n) (hm:n<=1000) :
  Calls Tryz.prog 46 #[.int .i64 a,.int .i64 n] w fun e w'=>∃ k:Nat,k<n/\e=.returned (.int .i64 k)/\w'=w:=by
 have hne:¬ (n:Int)=0:=by omega
 have hnN:¬ n=0:=by omega
 have hr:=DW a hn;generalize hq:a.tmod n=r at hr
 go_enter Tryz.func46,Tryz.ntmps46
 go_wp2_with fail;have h0:=Int.emod_nonneg (r+(n:Int)) (b:=(n:Int)) (by omega);have h1:=Int.emod_lt_of_pos (r+(n:Int)) (b:=(n:Int)) (by omega);go_ret;refine ⟨((r+(n:Int)) % (n:Int)).toNat,by omega,?_,rfl⟩
 rw [Int.toNat_of_nonneg h0];rfl
theorem zk (a:Int) (n:Nat) (hn:0<n) (hm:n<=1000) :
  ∃ k:Nat,k<n/\∀ w:World,Calls Tryz.prog 46 #[.int .i64 a,.int .i64 n] w fun e w'=>e=.returned (.int .i64 k)/\w'=w:=by
 have hne:¬ (n:Int)=0:=by omega
 have hnN:¬ n=0:=by omega
 have hr:=DW a hn;generalize hq:a.tmod n=r at hr;have h0:=Int.emod_nonneg (r+(n:Int)) (b:=(n:Int)) (by omega);have h1:=Int.emod_lt_of_pos (r+(n:Int)) (b:=(n:Int)) (by omega);refine ⟨((r+(n:Int)) % (n:Int)).toNat,by omega,fun w=>?_⟩
 go_enter Tryz.func46,Tryz.ntmps46
 go_wp2_with fail;go_ret;refine ⟨?_,rfl⟩
 rw [Int.toNat_of_nonneg h0];rfl
def KE (n:Int) (gn ln:Nat):Bool:=decide (1<=n)&&decide (n<=64)&&decide (gn<=40)&&decide (ln<=80)
theorem KF (n:Int) (ga la:Option Addr) (gn gc ln lc:Nat) (w:World) (hg:gn<=maxLen) (hl:ln<=maxLen) :
  Calls Tryz.prog 40 #[.int .i64 n,.slice ga gn gc,.slice la ln lc] w fun e w'=>e=.returned (.bool (KE n gn ln))/\af [] w w':=by
 have hu:=af.refl [] w;unfold maxLen at hg hl;have hB:Hid (KE n gn ln=(decide (1<=n)&&decide (n<=64)&&decide (gn<=40)&&decide (ln<=80))):=rfl;generalize KE n gn ln=B at *
 go_enter Tryz.func40,Tryz.ntmps40
 by_cases h1:(1:Int)<=n
 ·by_cases h2:n<=64
  ·by_cases h3:gn<=40
   ·have h3i:(gn:Int)<=40:=by omega
    by_cases h4:ln<=80
    ·have h4i:(ln:Int)<=80:=by omega
     go_wp2_with fail;go_ret;exact ⟨by rw [hB.out];simp [h1,h2,h3,h4],hu⟩
    ·have h4i:¬ (ln:Int)<=80:=by omega
     go_wp2_with fail;go_ret;exact ⟨by rw [hB.out];simp [h1,h2,h3,h4],hu⟩
   ·have h3i:¬ (gn:Int)<=40:=by omega
    go_wp2_with fail;go_ret;exact ⟨by rw [hB.out];simp [h1,h2,h3],hu⟩
  ·go_wp2_with fail
   go_ret;exact ⟨by rw [hB.out,decide_eq_false (show ¬ n<=64 by omega),Bool.and_false];rfl,hu⟩
 ·go_wp2_with fail
  go_ret;exact ⟨by rw [hB.out,decide_eq_false (show ¬ 1<=n by omega)];rfl,hu⟩
theorem KV.Ok.IP {K:KV} (hk:K.Ok) {s v:Nat} (hs:K.At s v 0 1):K.A.tk s=true/\∀ y,K.den s y=y v:=by
 obtain ⟨h2,p,hp,aH,e1,e2,e3⟩:=hs;refine ⟨ag.aP.2 ⟨p,hp,aH⟩,fun y=>?_⟩;rw [KV.dD hk.wf hk.ord h2 hp aH,e2,e3,K.aN (by omega),K.aN (by omega),show p.var.toNat=v by omega]
 cases y v <;> rfl
theorem KV.Ok.ac3 {K:KV} (hk:K.Ok) (hu:K.Uni) {x v:Nat} (ht:K.A.tk x=true) (hd:∀ y,K.den x y=y v):K.At x v 0 1:=by
 have h2:2<=x:=by
  refine Classical.byContradiction fun h=>?_
  have h1:=hd fun _=>true
  have h0:=hd fun _=>false
  rw [K.aN (by omega)] at h1 h0
  rw [h1] at h0;cases h0
 obtain ⟨p,hp,aH⟩:=ag.aP.1 ht;have uF:=hk.wf.cl x p h2 hp aH;have oV:=hk.wf.vr x p h2 hp aH
 have e1:∀ y,K.den p.hi y=K.den x (upd y p.var.toNat true):=fun y=>by
  have:=hk.G5 h2 hp aH true y
  simpa using this
 have e0:∀ y,K.den p.lo y=K.den x (upd y p.var.toNat false):=fun y=>by
  have:=hk.G5 h2 hp aH false y
  simpa using this
 have hv:p.var.toNat=v:=by
  refine Classical.byContradiction fun hne=>?_
  refine hk.ord.ne x p h2 hp aH (KV.canon hk.wf hk.ord hu _ _ _ uF.1 uF.2 (Nat.le_refl _) fun y=>?_);rw [e0,e1,hd,hd];unfold upd;rw [if_neg (fun e=>hne e.symm),if_neg (fun e=>hne e.symm)]
 have h1:p.hi=1:=KV.canon hk.wf hk.ord hu _ _ _ uF.2 (hk.gX (by omega)) (Nat.le_refl _) fun y=>by
  rw [e1,hd,K.aN (by omega)];unfold upd;rw [if_pos hv.symm];rfl
 have h0:p.lo=0:=KV.canon hk.wf hk.ord hu _ _ _ uF.1 (hk.gX (by omega)) (Nat.le_refl _) fun y=>by
  rw [e0,hd,K.aN (by omega)];unfold upd;rw [if_pos hv.symm];rfl
 exact ⟨h2,p,hp,aH,by have:=oV.1;omega,h0,h1⟩
theorem KV.jv.self (K:KV) (t:(Nat->Bool)->Bool):K.jv t t:=⟨0,fun _=>false,fun x=>by
 congr 1
 funext u
 simp [KV.mix]⟩
theorem jJ.opr {K K':KV} {v r:Nat} {code:Int} (M:jJ K v 0 1 r code K') (hk:K.Ok) (hu:K.Uni) (dB:K'.Ok) (hv:v<K.vars):OpR K (fun y=>y v) r code K':=by
 have hfe:K.dY (v:Int) 0 1=0:=KV.PN (by omega) (hk.gX (by omega)) (hk.gX (by omega)) fun _=>by
  have:=(hk.ord.pm.lo v hv).1;rw [hk.wf.dH (by omega),hk.wf.dH (by omega)];omega
 have has:∀ {s:Nat},K.Has (v:Int) 0 1 s->K.At s v 0 1:=fun hs=>by
  rcases hs with ⟨e,_⟩ | ⟨_,hs⟩
  ·omega
  ·simpa using hs
 cases M with
 | bad h0=>exact absurd hfe h0
 | @full s h0 hs hm =>
  obtain ⟨t1,t2⟩:=hk.IP (has hs);exact .inr (.inl ⟨rfl,rfl,⟨KV.Ext.refl K,KV.Ext.refl K,fun _=>rfl,.inr rfl⟩,s,t1,t2,hm⟩)
 | old h0 hs hm =>
  obtain ⟨t1,t2⟩:=hk.IP (has hs);have X:=(hk.kept t1 hm).2;refine .inl ⟨rfl,X.ext,X.ext.tk t1,fun y=>by rw [X.ext.den hk.wf y t1,t2],fun x=>by rw [X.hd];split <;> rfl,X.tr,fun x h1 h2=>?_⟩;rw [X.A] at h1
  rw [h1] at h2;cases h2
 | nodes h0 hne bK uP =>
  refine .inr (.inr ⟨rfl,rfl,⟨KV.Ext.refl K,KV.Ext.refl K,fun _=>rfl,.inr rfl⟩,K,[],fun y=>y v,hk,hu,?_,uP,KV.jv.self K _,fun x hx hd=>?_⟩)
  ·exact yA.start K _
  ·exact bK x (by simpa using hk.ac3 hu hx hd)
 | new h0 hne bK hm =>
  have Js:K.Made v 0 1 r K':=by simpa using hm
  have bI:K'.At r v 0 1:=Js.abM.2 (.inl ⟨rfl,rfl,rfl,rfl⟩);obtain ⟨t1,t2⟩:=dB.IP bI
  have h0:K.hold r=0:=by
   by_cases hp:0<K.hold r
   ·have:=(hk.wf.ht r hp).2
    rw [Js.no] at this;cases this
   ·omega
  have h2:=Js.two;refine .inl ⟨rfl,Js.ext,t1,t2,fun x=>?_,Js.tr,fun x hx hx0=>?_⟩
  ·rw [Js.hd]
   by_cases e:x=r
   ·subst e;rw [if_pos rfl,if_pos ⟨rfl,h2⟩,h0]
   ·rw [if_neg e,if_neg (fun k=>e k.1)];rfl
  ·rw [Js.tk,hx0,Bool.or_false] at hx
   obtain rfl:x=r:=of_decide_eq_true hx
   have e:K'.den x=fun y=>y v:=funext t2
   rw [e];exact KV.jv.self K _
structure Og (n:Nat) (K:KV) (refs:List Nat):Prop where
 vr:K.vars=n
 pl:K.A.places=8192
 tr:K.trail=[]
 tk:∀ r,r∈refs->K.A.tk r=true
 ne:0<refs.length
 hl:refs.length<=41
 hb:∀ x,K.hold x+1<=refs.length
 hr:∀ r,r∈refs->r<2\/0<K.hold r
theorem Og.new {n:Nat} (h1:1<=n) (hn:n<=64):Og n (KV.new n 8192) [1] :=
 ⟨rfl,rfl,rfl,fun r hr=>by simp at hr;subst hr;exact (KV.vG h1 hn (by omega) (by omega)).gX (by omega),by simp,by simp,fun x=>by simp [KV.hold,KV.new],fun r hr=>by simp at hr;omega⟩
theorem Og.op {n r:Nat} {code:Int} {t:(Nat->Bool)->Bool} {K K':KV} {refs:List Nat} (h:Og n K refs) (hl:refs.length<=40) (O:OpR K t r code K'):(code=0/\Og n K' (refs++[r]))\/(code=9/\Og n K' refs):=by
 rcases O with ⟨rfl,O⟩ | ⟨rfl,rfl,B,s,s1,s2,s3⟩ | ⟨rfl,rfl,B,bK⟩
 ·refine .inl ⟨rfl,O.ext.vr.trans h.vr,O.ext.pl.trans h.pl,O.tr,fun x hx=>?_,by simp,by simp;omega,fun x=>?_,fun x hx=>?_⟩
  ·rcases List.mem_append.1 hx with hx | hx
   ·exact O.ext.tk (h.tk x hx)
   ·simp at hx;subst hx;exact O.tk
  ·have:=h.hb x
   rw [O.hd,List.length_append,List.length_singleton];split <;> omega
  ·rw [O.hd]
   rcases List.mem_append.1 hx with hx | hx
   ·have:=h.hr x hx
    omega
   ·simp at hx;subst hx
    by_cases h2:x<2
    ·exact .inl h2
    ·rw [if_pos ⟨rfl,by omega⟩];omega
 ·have:=h.hb s;omega
 ·exact .inr ⟨rfl,B.ext.vr.trans h.vr,B.ext.pl.trans h.pl,by rcases B.tr with e | e;exact e;exact e.trans h.tr,fun x hx=>B.ext.tk (h.tk x hx),h.ne,h.hl,fun x=>by rw [B.hd];exact h.hb x,fun x hx=>by rw [B.hd];exact h.hr x hx⟩
structure abb (b n:Nat) (refs:List Nat) (F:List Nat) (w:World) (e:Ending) (w':World):Prop where
 ex:∃ (r:Nat) (code:Int) (K':KV) (F':List Nat),e=.returned (.tuple #[.int .u32 r,.int .i64 code])/\aZ w' b K' F'/\l9 F w F' w'/\((code=0/\Og n K' (refs++[r]))\/(code=9/\Og n K' refs))
theorem WI (b n v:Nat) (K:KV) (F refs:List Nat) (w:World) (h:aZ w b K F) (B:Og n K refs) (hl:refs.length<=40) (hv:v<n) :
  Calls Tryz.prog 78 #[.pointer (some ⟨b,0,none⟩),.int .i64 v] w fun e w'=>abb b n refs F w e w':=by
 have dJ:=h.ok;have uZ:=h.uni;obtain ⟨T,q,hk,rfl⟩:=h;refine (Ua b v K T q w hk).mono ?_;rintro e w' hE;obtain ⟨r,code,K',T',q',rfl,hM,dB,hu,hs⟩:=hE.ex;have h':aZ w' b K' (q'.all b):=⟨T',q',dB,rfl⟩;exact ⟨r,code,K',_,rfl,h',⟨hu,hs⟩,B.op hl (hM.opr dJ uZ h'.ok (by rw [B.vr];exact hv))⟩
theorem KG (b n op f g:Nat) (K:KV) (F refs:List Nat) (w:World) (h:aZ w b K F) (B:Og n K refs) (hl:refs.length<=40) (ho:op<=15) (hf:f∈refs) (hg:g∈refs) :
  Calls Tryz.prog 92 #[.pointer (some ⟨b,0,none⟩),.int .u8 op,.int .u32 f,.int .u32 g] w fun e w'=>abb b n refs F w e w':=by
 obtain ⟨T,q,hk,rfl⟩:=h;refine (Jm b op f g K T q w hk ho (B.tk f hf) (B.tk g hg)).mono ?_;rintro e w' hE;obtain ⟨r,code,K',T',q',rfl,hM,dB,hu,hs⟩:=hE.ex;exact ⟨r,code,K',_,rfl,⟨T',q',dB,rfl⟩,⟨hu,hs⟩,B.op hl hM⟩
end Go.Proofs.YtfkopmhpppeheaaGreat
