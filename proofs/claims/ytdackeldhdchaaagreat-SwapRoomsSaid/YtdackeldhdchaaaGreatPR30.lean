import Derived.Test.YtdackeldhdchaaaGreatPR29
import Derived.Test.YtdackeldhdchaaaGreatPR26
import Derived.Test.YtdackeldhdchaaaGreatPR7
import Derived.Test.YtdackeldhdchaaaGreatPR28
import Derived.Test.YtdackeldhdchaaaGreatPR25
import Derived.Test.YtdackeldhdchaaaGreatPR16
import Derived.Test.YtdackeldhdchaaaGreatPR24
import Derived.Maps.OwnSet
set_option maxRecDepth 100000
set_option maxHeartbeats 6400000
namespace Go.Proofs.YtdackeldhdchaaaGreat
open Go.RowKit Go.Maps Go.ChangeMaps Go.WideShapes
theorem wQ {W:World} {mb:Nat} (h:W.heap[mb]?=some (.map #[] 0)):W.ownsMap Tryz.prog 148 (plainElem (H:=Unit) Tryz.prog 3) mb 0 (.map []):=by
 obtain ⟨es,clock,q1,q2,q3,q4⟩:=World.ownsMap_made W Tryz.prog 148 (plainElem (H:=Unit) Tryz.prog 3);rw [heap_alloc_new] at q1;cases q1;exact ⟨#[],0,h,q2,Nat.zero_le _,rfl⟩
theorem Q4 (w:World) (o1 o2 o3 o4 o5 o6 o7:Obj) {w7:World} (hw:((((((w.alloc o1).alloc o2).alloc o3).alloc o4).alloc o5).alloc o6).alloc o7=w7):w7.heap[w.heap.size]?=some o1/\w7.heap[w.heap.size+1]?=some o2/\w7.heap[w.heap.size+1+1]?=some o3/\w7.heap[w.heap.size+1+1+1]?=some o4 /\
  w7.heap[w.heap.size+1+1+1+1]?=some o5/\w7.heap[w.heap.size+1+1+1+1+1]?=some o6/\w7.heap[w.heap.size+1+1+1+1+1+1]?=some o7/\af [] w w7:=by
 subst hw;have n1:=heap_alloc_new w o1;have n2:=heap_alloc_new (w.alloc o1) o2;have n3:=heap_alloc_new ((w.alloc o1).alloc o2) o3;have n4:=heap_alloc_new (((w.alloc o1).alloc o2).alloc o3) o4;have n5:=heap_alloc_new ((((w.alloc o1).alloc o2).alloc o3).alloc o4) o5;have n6:=heap_alloc_new (((((w.alloc o1).alloc o2).alloc o3).alloc o4).alloc o5) o6;have n7:=heap_alloc_new ((((((w.alloc o1).alloc o2).alloc o3).alloc o4).alloc o5).alloc o6) o7
 have old:∀ (z:World) (o:Obj) {k:Nat} {x:Obj},z.heap[k]?=some x->(z.alloc o).heap[k]?=some x:=fun z o k x h=>(heap_alloc_old z o (aj h)).trans h
 simp only [World.size_alloc] at n2 n3 n4 n5 n6 n7
 exact ⟨old _ _ (old _ _ (old _ _ (old _ _ (old _ _ (old _ _ n1))))),old _ _ (old _ _ (old _ _ (old _ _ (old _ _ n2)))),old _ _ (old _ _ (old _ _ (old _ _ n3))),old _ _ (old _ _ (old _ _ n4)),old _ _ (old _ _ n5),old _ _ n6,n7,(((((((af.refl [] w).alloc o1).alloc o2).alloc o3).alloc o4).alloc o5).alloc o6).alloc o7⟩
structure wR (x y:Nat) (w0:World) (s8 s9:Value) (wc:World):Prop where
 ex:∃ xb yb:Nat,s8=.pointer (some ⟨xb,0,none⟩)/\s9=.pointer (some ⟨yb,0,none⟩)/\wc.heap[xb]?=some (.cells #[.int .i64 x] 3 (0,0))/\wc.heap[yb]?=some (.cells #[.int .i64 y] 3 (0,0))/\af [] w0 wc
theorem wR.of1 (x y:Nat) (w0:World):wR x y w0 (.pointer (some ⟨w0.heap.size,0,none⟩)) (.pointer (some ⟨w0.heap.size+1,0,none⟩)) ((w0.drew.alloc (.cells #[.int .i64 x] 3 (0,0))).alloc (.cells #[.int .i64 y] 3 (0,0))):=by
 have h:=heap_alloc_new (w0.drew.alloc (.cells #[.int .i64 x] 3 (0,0))) (.cells #[.int .i64 y] 3 (0,0));rw [World.size_alloc] at h;have h0:=heap_alloc_new w0.drew (.cells #[.int .i64 x] 3 (0,0));exact ⟨_,_,rfl,rfl,(heap_alloc_old _ _ (aj h0)).trans h0,h,((af.refl [] w0).drew.alloc _).alloc _⟩
theorem wR.of2 (x y:Nat) (w0:World):wR x y w0 (.pointer (some ⟨w0.heap.size+1,0,none⟩)) (.pointer (some ⟨w0.heap.size,0,none⟩)) ((w0.drew.alloc (.cells #[.int .i64 y] 3 (0,0))).alloc (.cells #[.int .i64 x] 3 (0,0))):=by
 have h:=heap_alloc_new (w0.drew.alloc (.cells #[.int .i64 y] 3 (0,0))) (.cells #[.int .i64 x] 3 (0,0));rw [World.size_alloc] at h;have h0:=heap_alloc_new w0.drew (.cells #[.int .i64 y] 3 (0,0));exact ⟨_,_,rfl,rfl,h,(heap_alloc_old _ _ (aj h0)).trans h0,((af.refl [] w0).drew.alloc _).alloc _⟩
structure XQ (b l:Nat) (K:KV) (w:World) (e:Ending) (w':World):Prop where
 ex:∃ n:Nat,e=.returned (.tuple #[.int .i64 n,.int .i64 ((K.A.places:Int)-2),.int .i64 0])/\af [] w w' /\
  ∀ (C:List bV) (N:List (Nat × Nat)),gI K l (K.order.getD l 0) (K.order.getD (l+1) 0) C->lI K (K.order.getD l 0) (C.flatMap bV.qs) N->n+2=K.A.used+N.length
theorem Di (b l:Nat) (K:KV) (T:List DM) (q:aA) (w:World) (h:dH w b K T q) (hl:l+2<=K.vars) :
  Calls Tryz.prog 20 #[.pointer (some ⟨b,0,none⟩),.int .i64 l] w fun e w'=>XQ b l K w e w':=by
 have hmf:∀ (fn:Fn) (first cap:Array Value) (w:World),(Instr.makeFunc fn first cap).run Tryz.prog w=.ok (.func fn first cap) w:=fun _ _ _ _=>rfl
 have Ht:=@run_makeMap Tryz.prog
 have hsf:∀ (a:Addr) (m:Mode) (fn:Fn) (first cap:Array Value) (w:World),(store a (.func fn first cap) m).run Tryz.prog w=stored Tryz.prog w a (.func fn first cap) m:=fun a m fn first cap w=>run_store Tryz.prog w a _ m rfl
 have DJ:=h.ok.wf.vs;have zC:=h.ok.ord.pm.ol;have kC:=heap_alloc_new w (.cells #[.pointer (some ⟨b,0,none⟩)] 40 (0,0));have jY:af [] w (w.alloc (.cells #[.pointer (some ⟨b,0,none⟩)] 40 (0,0))):=(af.refl _ _).alloc _;obtain ⟨w0,kP⟩ : ∃ w0,w.alloc (.cells #[.pointer (some ⟨b,0,none⟩)] 40 (0,0))=w0:=⟨_,rfl⟩;rw [kP] at kC jY;have yL:=Lib.hid kP;have dR:=Lib.hid jY;have HK:=Lib.hid h
 have Zi:Hid (∀ z,af [] w0 z->z.heap[w.heap.size]?=some (.cells #[.pointer (some ⟨b,0,none⟩)] 40 (0,0))):=fun z u=>(u.block _ (aj kC) (by simp)).trans kC
 have c0:w0.cell? ⟨w.heap.size,0,none⟩=some (.pointer (some ⟨b,0,none⟩)):=ae kC rfl;obtain ⟨x,hx⟩ : ∃ x,K.order[l]?=some x:=⟨_,List.getElem?_eq_getElem (by omega)⟩;obtain ⟨y,hy⟩ : ∃ y,K.order[l+1]?=some y:=⟨_,List.getElem?_eq_getElem (by omega)⟩
 have O3:K.order.getD l 0=x:=by rw [List.getD_eq_getElem?_getD,hx];rfl
 have QD:K.order.getD (l+1) 0=y:=by rw [List.getD_eq_getElem?_getD,hy];rfl
 have Ci:=Lib.hid (And.intro hx (And.intro hy (And.intro O3 QD)));have XR:=Lib.hid (yR b K T q w0 (h.upd jY (by simp)).mem)
 have sW:¬ ((l:Int)<0):=by omega
 have oW:¬ ((K.vars:Int)-2<(l:Int)):=by omega
 have U5:b<w.heap.size:=h.mem.lt b (aA.mem.2 (.inl rfl));have Vb:=Lib.hid h.mem.lt;have VV:=Lib.hid zC;have jK:K.vars<=64:=DJ.2;obtain ⟨kv,zM⟩ : ∃ kv,K.vars=kv:=⟨_,rfl⟩;have Ey:=Lib.hid zM;rw [zM] at XR oW jK hl;clear h kC jY kP hx hy O3 QD DJ zC zM
 go_enter Tryz.func20,Tryz.ntmps20
 go_wp2_with fail;rw [yL.out];go_wp2_with fail;refine XR.out.mono ?_;rintro e w1 ⟨rfl,rfl⟩;have Qi:=Lib.hid (oJ b K T q w1 (HK.out.upd dR.out (by simp)).mem (by have h1:K.vars=kv:=Ey.out;have h2:=VV.out;omega) (by have h1:K.vars=kv:=Ey.out;have h2:=VV.out;omega));rw [VV.out] at Qi;go_wp2_with fail;refine Qi.out.mono ?_;rintro e w2 ⟨og,oc,rfl,aB,kY⟩;rw [Ey.out]
 have rc:∀ i v:Nat,K.order[i]?=some v->w2.cell? ⟨og,i,none⟩=some (.int .i64 v):=fun i v hv=>ax aB (by simp only [aK,List.getElem?_map];rw [hv];rfl)
 have x0:=rc l x Ci.out.1;have x1:=rc (l+1) y Ci.out.2.1
 have ahn:(l:Int)<(kv:Int):=by omega
 have yj:(l:Int)+1<(kv:Int):=by omega
 obtain ⟨l1,PK⟩ : ∃ l1,l+1=l1:=⟨_,rfl⟩
 have aho:wrap64 ((l:Int)+1)=(l1:Int):=by rw [<- PK,IntWalk.wrap64_in _ (by omega)];omega
 have hwl:IntKind.i64.wrap ((l:Int)+1)=(l1:Int):=by rw [<- PK,IntWalk.i64_in _ (by omega)];omega
 have qh:(l1:Int)<(kv:Int):=by omega
 rw [PK] at x1;have dF:=Lib.hid kY;clear kY aB rc c0 PK yj;go_upto_region 6 with fail
 go_cut [8,9] from 31 to 39 (fun s8 s9 wc=>wR x y w2 s8 s9 wc)
 case first =>
  have zN:Hid (∀ z,af [] w2 z->z.cell? ⟨og,l,none⟩=some (.int .i64 x)/\z.cell? ⟨og,l1,none⟩=some (.int .i64 y)):=fun z u=>⟨u.cell0 x0,u.cell0 x1⟩
  have HD1:=Lib.hid (wR.of1 x y w2);have HD2:=Lib.hid (wR.of2 x y w2);refine fD (fun z=>z.cell? ⟨og,l,none⟩=some (.int .i64 x)/\z.cell? ⟨og,l1,none⟩=some (.int .i64 y)) (fun _=>True) [] (by kernel_rfl) ?_;have hS:=zN.out _ (af.refl _ _).drew;have hE:True:=trivial;refine fZ 0 rfl hS (fun _=>hE) ?_;refine fZ 1 rfl hS (fun _=>hE) ?_;refine fZ 2 rfl hS (fun _=>hE) ?_;refine fZ 3 rfl hS (fun _=>hE) ?_;refine fZ 4 rfl hS (fun _=>hE) ?_;refine fZ 5 rfl hS (fun _=>hE) ?_;refine fZ 6 rfl hS (fun _=>hE) ?_;refine fZ 7 rfl hS (fun _=>hE) ?_;refine fZ 8 rfl hS (fun _=>hE) ?_;refine aG (rs:=[9,10]) (by kernel_rfl) (by simp) ?_;refine ai.cons rfl (fun Kx hK=>?_) ?_
  ·
   go_simp
   refine hK.out _ _ ⟨zN.out _ ((af.refl _ _).drew.alloc _),fun _=>trivial⟩ (fun hHeld=>?_);clear hK Kx;obtain ⟨hS,hE⟩:=hHeld;have hE:=hE (by kernel_rfl)
   (try simp only [Act.put,List.setIfInBounds_toArray,List.set_cons_zero,List.set_cons_succ])
   refine aG (rs:=[10]) (by kernel_rfl) (by simp) ?_;refine ai.cons rfl (fun Kx hK=>?_) ?_
   rotate_left
   exact ai.nil
   go_simp
   refine hK.out _ _ ⟨zN.out _ (((af.refl _ _).drew.alloc _).alloc _),fun _=>trivial⟩ (fun hHeld=>?_);clear hK Kx;obtain ⟨hS,hE⟩:=hHeld;have hE:=hE (by kernel_rfl)
   (try simp only [Act.put,List.setIfInBounds_toArray,List.set_cons_zero,List.set_cons_succ])
   refine aG (rs:=[11]) (by kernel_rfl) (by simp) ?_;refine ai.cons rfl (fun Kx hK=>?_) ?_
   rotate_left
   exact ai.nil
   go_simp
   refine hK.out _ _ ⟨zN.out _ (by repeat (first | exact af.refl _ _ | refine af.drew ?_ | refine af.alloc ?_ _ | (refine af.setCell ?_ (.inr (by simp)) _))),fun _=>trivial⟩ (fun hHeld=>?_);clear hK Kx;obtain ⟨hS,hE⟩:=hHeld;have hE:=hE (by kernel_rfl)
   (try simp only [Act.put,List.setIfInBounds_toArray,List.set_cons_zero,List.set_cons_succ])
   refine aG (rs:=[12]) (by kernel_rfl) (by simp) ?_;refine ai.cons rfl (fun Kx hK=>?_) ?_
   rotate_left
   exact ai.nil
   go_simp
   refine hK.out _ _ ⟨zN.out _ (by repeat (first | exact af.refl _ _ | refine af.drew ?_ | refine af.alloc ?_ _ | (refine af.setCell ?_ (.inr (by simp)) _))),fun _=>trivial⟩ (fun hHeld=>?_);clear hK Kx;obtain ⟨hS,hE⟩:=hHeld;have hE:=hE (by kernel_rfl)
   (try simp only [Act.put,List.setIfInBounds_toArray,List.set_cons_zero,List.set_cons_succ])
   refine dJ (by kernel_rfl) ?_ _;clear hS hE;go_wp2_with fail;go_meet;exact HD1.out
  refine ai.cons rfl (fun Kx hK=>?_) ?_
  rotate_left
  exact ai.nil
  go_simp
  refine hK.out _ _ ⟨zN.out _ ((af.refl _ _).drew.alloc _),fun _=>trivial⟩ (fun hHeld=>?_);clear hK Kx;obtain ⟨hS,hE⟩:=hHeld;have hE:=hE (by kernel_rfl)
  (try simp only [Act.put,List.setIfInBounds_toArray,List.set_cons_zero,List.set_cons_succ])
  refine aG (rs:=[9]) (by kernel_rfl) (by simp) ?_;refine ai.cons rfl (fun Kx hK=>?_) ?_
  rotate_left
  exact ai.nil
  go_simp
  refine hK.out _ _ ⟨zN.out _ (((af.refl _ _).drew.alloc _).alloc _),fun _=>trivial⟩ (fun hHeld=>?_);clear hK Kx;obtain ⟨hS,hE⟩:=hHeld;have hE:=hE (by kernel_rfl)
  (try simp only [Act.put,List.setIfInBounds_toArray,List.set_cons_zero,List.set_cons_succ])
  refine aG (rs:=[11]) (by kernel_rfl) (by simp) ?_;refine ai.cons rfl (fun Kx hK=>?_) ?_
  rotate_left
  exact ai.nil
  go_simp
  refine hK.out _ _ ⟨zN.out _ (by repeat (first | exact af.refl _ _ | refine af.drew ?_ | refine af.alloc ?_ _ | (refine af.setCell ?_ (.inr (by simp)) _))),fun _=>trivial⟩ (fun hHeld=>?_);clear hK Kx;obtain ⟨hS,hE⟩:=hHeld;have hE:=hE (by kernel_rfl)
  (try simp only [Act.put,List.setIfInBounds_toArray,List.set_cons_zero,List.set_cons_succ])
  refine aG (rs:=[12]) (by kernel_rfl) (by simp) ?_;refine ai.cons rfl (fun Kx hK=>?_) ?_
  rotate_left
  exact ai.nil
  go_simp
  refine hK.out _ _ ⟨zN.out _ (by repeat (first | exact af.refl _ _ | refine af.drew ?_ | refine af.alloc ?_ _ | (refine af.setCell ?_ (.inr (by simp)) _))),fun _=>trivial⟩ (fun hHeld=>?_);clear hK Kx;obtain ⟨hS,hE⟩:=hHeld;have hE:=hE (by kernel_rfl)
  (try simp only [Act.put,List.setIfInBounds_toArray,List.set_cons_zero,List.set_cons_succ])
  refine dJ (by kernel_rfl) ?_ _;clear hS hE;go_wp2_with fail;go_meet;exact HD2.out
 case rest =>
  obtain ⟨xb,yb,rfl,rfl,N8,hyb,eu⟩:=hcut.ex;have h0:=Q4 wc _ _ _ _ _ _ _ (rfl:(((((((wc.alloc (.map #[] 0)).alloc (.cells #[.map (some (wc.heap.size))] 138 (0,0))).alloc (.map #[] 0)).alloc (.cells #[.map (some (wc.heap.size+1+1))] 138 (0,0))).alloc (.map #[] 0)).alloc (.cells #[.map (some (wc.heap.size+1+1+1+1))] 139 (0,0))).alloc (.cells #[.nilFunc] 140 (0,0)))=_);have c6:=ae (j:=0) h0.2.2.2.2.2.2.1 rfl;have f6:=ak 0 h0.2.2.2.2.2.2.1;obtain ⟨w7,TN⟩ : ∃ w7,(((((((wc.alloc (.map #[] 0)).alloc (.cells #[.map (some (wc.heap.size))] 138 (0,0))).alloc (.map #[] 0)).alloc (.cells #[.map (some (wc.heap.size+1+1))] 138 (0,0))).alloc (.map #[] 0)).alloc (.cells #[.map (some (wc.heap.size+1+1+1+1))] 139 (0,0))).alloc (.cells #[.func (Fn.func 66) #[] #[.pointer (some ⟨w.heap.size,0,none⟩),.pointer (some ⟨wc.heap.size+1+1+1+1+1,0,none⟩),.pointer (some ⟨xb,0,none⟩),.pointer (some ⟨yb,0,none⟩),.pointer (some ⟨wc.heap.size+1+1+1,0,none⟩),.pointer (some ⟨wc.heap.size+1,0,none⟩),.pointer (some ⟨wc.heap.size+1+1+1+1+1+1,0,none⟩)]] 140 (0,0)))=w7:=⟨_,rfl⟩;obtain ⟨b1,b2,b3,b4,b5,b6,b7,um⟩:=Q4 wc _ _ _ _ _ _ _ TN;have HW7:=Lib.hid TN;have XT:af [] w1 w7:=(dF.out.trans eu).trans um;have QH:=aj N8;have Jk:=aj hyb;have ahp:w.heap.size<wc.heap.size:=Nat.lt_of_lt_of_le (aj (Zi.out _ (af.refl _ _))) (dF.out.trans eu).size;obtain ⟨B,hB⟩ : ∃ B:RB,B=⟨w.heap.size,wc.heap.size+1+1+1+1+1,xb,yb,wc.heap.size+1+1+1,wc.heap.size+1,wc.heap.size+1+1+1+1+1+1,wc.heap.size+1+1+1+1,wc.heap.size+1+1,wc.heap.size⟩:=⟨_,rfl⟩
  have XU:Hid (uF w7 b B x y K T q (.map []) (.map []) (.map [])):=by
   subst hB;refine ⟨HK.out.upd (dR.out.trans XT) (by simp),Zi.out _ XT,b6,(um.block _ QH (by simp)).trans N8,(um.block _ Jk (by simp)).trans hyb,b4,b2,b7,Ff b5,wQ b3,wQ b1,fun k hk=>?_,?_,?_⟩
   ·have:=Vb.out k hk
    simp [RB.maps];omega
   ·simp [RB.maps];omega
   ·simp;omega
  have XV:=Lib.hid (dR.out.trans XT)
  have Pz:Hid (B.maps=[wc.heap.size+1+1+1+1,wc.heap.size+1+1,wc.heap.size]/\B.wk=wc.heap.size+1+1+1+1+1+1/\B.mo=wc.heap.size+1/\B.hk=wc.heap.size+1+1+1/\B.mm=wc.heap.size/\B.kk=w.heap.size):=by
   show _/\_/\_/\_/\_/\_
   subst hB;exact ⟨rfl,rfl,rfl,rfl,rfl,rfl⟩
  have HCP:Hid (B.caps=#[.pointer (some ⟨w.heap.size,0,none⟩),.pointer (some ⟨wc.heap.size+1+1+1+1+1,0,none⟩),.pointer (some ⟨xb,0,none⟩),.pointer (some ⟨yb,0,none⟩),.pointer (some ⟨wc.heap.size+1+1+1,0,none⟩),.pointer (some ⟨wc.heap.size+1,0,none⟩),.pointer (some ⟨wc.heap.size+1+1+1+1+1+1,0,none⟩)]):=by
   show _=_
   subst hB;rfl
  have Gm:=Lib.hid (vG b K T q w7 (HK.out.upd XV.out (by simp)));have k7:w7.cell? ⟨w.heap.size,0,none⟩=some (.pointer (some ⟨b,0,none⟩)):=ae (Zi.out _ XT) rfl;have ab6:=Lib.hid (dF.out.trans eu);have kc:wc.cell? ⟨w.heap.size,0,none⟩=some (.pointer (some ⟨b,0,none⟩)):=ae (Zi.out _ ab6.out) rfl;clear h0 TN b1 b2 b3 b4 b5 b6 b7 um XT N8 hyb eu QH Jk hB hcut x0 x1;go_upto_region 12 with fail;rw [HW7.out];generalize hRL:K.roots.length=RL at *;have Lj:=Lib.hid hRL;clear hRL;go_wp2_with fail;refine Gm.out.mono ?_;rintro e w8 ⟨rv,rfl,aB,L9⟩;obtain ⟨ra,rcp,rfl,_⟩:=aC aB;have bQ:=Lib.hid aB;have NY:=Lib.hid (XV.out.trans L9);have ab7:=Lib.hid (XU.out.keep L9);have hwk:B.wk=wc.heap.size+1+1+1+1+1+1:=Pz.out.2.1;have XW:=Lib.hid hwk
  have oP:RL<=1048576:=by
   have h1:=HK.out.ok.wf.len;have h2:=HK.out.ok.wf.ul;have h3:=HK.out.ok.wf.ok.lp;have h4:=HK.out.ok.wf.ok.pm
   have h5:K.roots.length<=K.holds.length:=by unfold KV.roots;exact Nat.le_trans (List.length_filter_le _ _) (by simp)
   have h6:K.roots.length=RL:=Lj.out;omega
  clear aB L9 hwk k7 kc;go_wp2_with fail
  go_loopg [47] RL (fun gg s47 wr=>∃ (i:Nat) (N:List Nat) (S H M:DM),RL-i=gg/\i<=RL/\s47=.int .i64 i/\iw K [] (K.roots.take i) N/\QW K x y N S H M/\uF wr b B x y K T q S H M/\af B.maps w8 wr)
  case atStart=>exact ⟨0,[],_,_,_,by omega,by omega,rfl,iw.nil _,⟨nC.nil,iq.nil,iq.nil⟩,ab7.out,af.refl _ _⟩
  case round =>
   obtain ⟨i,N,S,H,M,rfl,hi,rfl,hL,hS,hM,hU⟩:=hrel
   by_cases aZ:i<RL
   ·have fE:(i:Int)<(RL:Int):=by omega
    obtain ⟨f,hf⟩ : ∃ f,K.roots[i]?=some f:=⟨_,List.getElem?_eq_getElem (by have:=Lj.out;omega)⟩;obtain ⟨g,rfl⟩:=bY bQ.out (by omega);have hg8:=(bQ.out.lt g rfl)
    have YF:g∉B.maps:=by
     rw [Pz.out.1];have h1:=hg8.1;have h2:=HW7.out
     have h3:wc.heap.size+1+1+1+1+1+1<w7.heap.size:=by rw [<- XW.out];exact aj XU.out.bw
     simp;omega
    have aB:=ah bQ.out fun k hk=>by
     simp [Value.ownBlock] at hk;subst hk
     exact hU.block _ hg8.2 YF
    have cf:=ax aB (j:=i) (u:=.int .u32 f) (by simp [aN,hf]);have jJ:=(HK.out.ok.wf.ht f (KV.mem_roots.1 (List.mem_of_getElem? hf))).2;have XP:=ae (j:=0) hM.bw rfl;rw [HCP.out,XW.out] at XP;have zn:=hL.nodup (by simp);have HC:=Lib.hid (sN b B x y K T q (K.vars+1) 0 (by omega) f N S H M wr hM hS (by simpa using zn) jJ (Nat.zero_le _));rw [HCP.out] at HC;have HL:=Lib.hid (And.intro hL (And.intro hf hU));clear hM hS hL hf hU aB jJ zn hg8 YF;go_wp2_with fail;refine HC.out.mono ?_;rintro e w9 ⟨rfl,hQ⟩;obtain ⟨N1,S1,H1,M1,hN,hS1,hM1,fF⟩:=hQ.ex
    have HE:Hid (iw K [] (K.roots.take (i+1)) (N++N1)/\QW K x y (N++N1) S1 H1 M1/\uF w9 b B x y K T q S1 H1 M1/\af B.maps w8 w9):=by
     refine ⟨?_,hS1,hM1,HL.out.2.2.trans fF⟩;rw [List.take_add_one,HL.out.2.1];exact HL.out.1.snoc (by simpa using hN)
    clear hQ hN hS1 hM1 fF HC XP;go_wp2_with fail
    go_roundg (RL-(i+1))
    case measure=>omega
    case rel=>exact ⟨i+1,N++N1,S1,H1,M1,rfl,by omega,by simp,HE.out.1,HE.out.2.1,HE.out.2.2.1,HE.out.2.2.2⟩
   ·obtain rfl:i=RL:=by omega
    have fE:¬ ((i:Int)<(i:Int)):=by omega
    obtain ⟨ud,P8⟩ : ∃ ud,K.A.used=ud+2:=⟨K.A.used-2,by have h1:=KV.used_ge HK.out.ok.wf (l:=[0,1]) (by simp) (by intro x hx;simp at hx;rcases hx with rfl | rfl;exact HK.out.ok.wf.ok.tk01.1;exact HK.out.ok.wf.ok.tk01.2);simp at h1;omega⟩;have J9:=vF b K T q wr hM.ker.mem;rw [show ((K.A.used:Nat):Int)-2=(ud:Int) by omega] at J9;have HUD:=Lib.hid P8;have RU:=Lib.hid J9
    have ahr:ud<=1048576:=by have h1:=HK.out.ok.wf.ok.us;have h2:=HK.out.ok.wf.ok.lp;have h3:=HK.out.ok.wf.ok.pm;omega
    clear J9 P8;have UK:=Lib.hid (Df b K T q)
    have hWL:iw K [] K.roots N:=by
     have h1:K.roots.take i=K.roots:=List.take_of_length_le (by have h:K.roots.length=i:=Lj.out;omega)
     rw [h1] at hL;exact hL
    have E8:=Lib.hid (hWL.all HK.out.ok);have HM:=Lib.hid (And.intro hS (And.intro hM hU))
    have ckk:wr.cell? ⟨w.heap.size,0,none⟩=some (.pointer (some ⟨b,0,none⟩)):=by
     have h:=ae (j:=0) hM.bk rfl
     rw [Pz.out.2.2.2.2.2] at h;exact h
    have cmo:wr.cell? ⟨wc.heap.size+1,0,none⟩=some (.map (some B.mm)):=by
     have h:=ae (j:=0) hM.bm rfl
     rw [Pz.out.2.2.1] at h;exact h
    have Az:=hM.mm;clear hL hS hM hU hWL;go_wp2_with fail;refine RU.out.mono ?_;rintro e w9 ⟨rfl,rfl⟩;have PL:=nN HM.out.1.m (Az.canon cO) (Az.tidy cO);have aeR:=IL HM.out.1.m (Az.canon cO) (Az.tidy cO)
    go_wp2_with (first
     | (at_range;refine wpList_range_own _ rfl _ 138 rfl 148 3 cO Tryz.underlying138 _ B.mm (Maps.size M) M rfl Az ?_;intro w10 EF SB UI)
     | go_in)
    go_frame
    go_loopw [16] (fun s16 wr=>∃ (left:Lit->Bool) (cnt:Nat) (ps:List (Nat × Nat)),wr.ranges Tryz.prog 148 (plainElem Tryz.prog 3) B.mm w9.heap.size (Maps.size M) M left cnt/\ps.length+cnt<=Maps.size M/\sO (N.flatMap (K.moreQ x y)) left ps/\s16=.int .i64 ((ud+mf (N.flatMap (K.haveQ x)) ps:Nat))/\af [] w9 wr)
     (fun _ wr=>wr.rangeLeft B.mm w9.heap.size)
    case atStart=>exact ⟨_,_,[],EF,by simp,sO.start HM.out.1.m,by simp [mf],(af.refl [] w9).grown SB (by simp)⟩
    case round =>
     obtain ⟨left,cnt,ps,BJ,NT,hC,rfl,hU⟩:=hrel;have Dy:=PE (N.flatMap (K.haveQ x)) ps
     go_wp2_with (first
      | (at_next;refine wpList_next_ranges _ rfl _ rfl 148 cO (plainElem Tryz.prog 3) id (Value.int .i64) (fun key kl hk=>⟨key,rfl⟩) (fun v y hv=>by obtain ⟨c,rfl,_⟩:=plainElem_int_inv Tryz.underlying3 hv;exact ⟨c,rfl⟩) B.mm w9.heap.size (Maps.size M) _ _ _ rfl BJ ?_ ?_)
      | go_in)
     ·intro BK sW
      have Sz:Hid (∀ (C:List bV) (N':List (Nat × Nat)),gI K l (K.order.getD l 0) (K.order.getD (l+1) 0) C->lI K (K.order.getD l 0) (C.flatMap bV.qs) N'->(ud+mf (N.flatMap (K.haveQ x)) ps)+2=K.A.used+N'.length):=fun C N' CA F=>by
       rw [Ci.out.2.2.1] at CA F;rw [Ci.out.2.2.2] at CA;have h1:=Fe HK.out.ok E8.out HM.out.1.m hC sW CA F;have h2:K.A.used=ud+2:=HUD.out;omega
      have XX:=(HM.out.2.1.keep hU).ker;have HN9:=Lib.hid (UK.out _ XX.mem);have ck:=hU.cell0 ckk
      have HUZ:Hid (af [] w _):=NY.out.then (HM.out.2.2.trans (hU.mono (by simp))) fun k hk=>.inr (by
       rw [Pz.out.1] at hk;simp at hk;omega)
      generalize mf (N.flatMap (K.haveQ x)) ps=cn at *;clear hC BJ NT hU XX sW EF SB UI Az PL;go_wp2_with fail;refine HN9.out.mono ?_;rintro e XY ⟨rfl,rfl⟩;have ahw:2<=K.A.places:=HK.out.ok.wf.ok.p2;have ahx:K.A.places<=1048576:=HK.out.ok.wf.ok.pm;go_wp2_with fail;refine bodyPost_ret (v:=.tuple #[.int .i64 ((ud+cn:Nat)),.int .i64 ((K.A.places:Int)-2),.int .i64 0]) (by simp [results,Tryz.results20,go_sem]) rfl ?_;exact ⟨_,rfl,HUZ.out,Sz.out⟩
     ·intro xk c kl yd yp XZ Um gW UY hv bI MQ yj Uj uI hen
      obtain ⟨ka,kb,rfl,Y1,U1⟩:=HM.out.1.m.dom kl (has_true_of_atKey bI);have hxk:=cO.inj gW (wM (a:=ka) (b:=kb) (by omega) (by omega));have hQ:(ka,kb)∈N.flatMap (K.moreQ x y):=(HM.out.1.m.has ka kb (by omega) (by omega)).1 (has_true_of_atKey bI);have Tc:=hC.step Y1 U1 hQ UY;subst hxk;obtain ⟨cv,ecv,_,_⟩:=plainElem_int_inv Tryz.underlying3 hv;have bf:=heap_alloc_new XZ (.cells #[.int .u32 ka,.int .u32 kb] 148 (0,0))
      have MR:af [] w9 XZ:=hU.grown Uj fun k hk=>.inr (by simp at hk;omega)
      have IV:af [] XZ (XZ.alloc (.cells #[.int .u32 ka,.int .u32 kb] 148 (0,0))):=(af.refl _ _).alloc _;have BL:=MQ.alloc (.cells #[.int .u32 ka,.int .u32 kb] 148 (0,0));obtain ⟨XY,MS⟩ : ∃ XY,XZ.alloc (.cells #[.int .u32 ka,.int .u32 kb] 148 (0,0))=XY:=⟨_,rfl⟩;rw [MS] at bf IV BL;have Un:=Lib.hid MS;have MW:=HM.out.2.1.keep (MR.trans IV);have x0:=ae (j:=0) bf rfl;have x1:=ae (j:=1) bf rfl
      have cho:XY.cell? ⟨wc.heap.size+1+1+1,0,none⟩=some (.map (some B.hm)):=by
       have h:=ae (j:=0) MW.bh rfl
       rw [Pz.out.2.2.2.1] at h;exact h
      obtain ⟨c2,BZ,l7,_⟩:=MW.mh.lookup_int cO Tryz.underlying138 Tryz.underlying3 (Ar _) (wM (a:=ka) (b:=kb) (by omega) (by omega));have JB:=Lib.hid (And.intro BL (And.intro Tc (And.intro (MR.trans IV) (And.intro yj NT))));have hme:=MQ.left_eq;have Ur:=BJ.left_eq
      have HME:Hid (XY.rangeLeft B.mm w9.heap.size<wr.rangeLeft B.mm w9.heap.size):=by
       show _<_
       rw [BL.left_eq,BJ.left_eq];exact yj
      have Qy:ps.length+1<=Maps.size M:=by omega
      by_cases tJ:ka=kb
      ·subst tJ
       have hne:((ka:Int) != (ka:Int))=false:=by simp
       have uO:Hid (mf (N.flatMap (K.haveQ x)) (ps++[(ka,ka)])=mf (N.flatMap (K.haveQ x)) ps):=by
        show _=_
        rw [rC,if_neg (by simp)];rfl
       generalize mf (N.flatMap (K.haveQ x)) ps=cn at *;clear BJ hC hU bI Uj uI bf MR IV MQ BL MS MW l7 hme Ur hQ Tc gW UY hv EF SB UI Az PL;go_upto_region 21 with fail;rw [Un.out];go_wp2_with fail
       go_roundw
       case rel=>exact ⟨_,Um,ps++[(ka,ka)],JB.out.1,by have:=JB.out.2.2.2.1;simp;omega,JB.out.2.1,by rw [uO.out];simp,JB.out.2.2.1⟩
       case measure=>exact HME.out
      ·have hne:((ka:Int) != (kb:Int))=true:=by simp;omega
       have hh:=HM.out.1.h.has ka kb (by omega) (by omega)
       by_cases xO:(ka,kb)∈N.flatMap (K.haveQ x)
       ·have xG:c2=1:=by
         have:=HM.out.1.h.at_ ka kb (by omega) (by omega) (hh.2 xO) (.lit (.int .i64 0));rw [this] at l7
         simpa using l7.symm
        subst xG
        have uO:Hid (mf (N.flatMap (K.haveQ x)) (ps++[(ka,kb)])=mf (N.flatMap (K.haveQ x)) ps):=by
         show _=_
         rw [rC,if_neg (fun h=>h.2 xO)];rfl
        generalize mf (N.flatMap (K.haveQ x)) ps=cn at *;clear BJ hC hU bI Uj uI bf MR IV MQ BL MS MW l7 hme Ur hQ Tc gW UY hv EF SB UI Az PL hh xO;go_upto_region 21 with fail;rw [Un.out];go_wp2_with fail
        go_roundw
        case rel=>exact ⟨_,Um,ps++[(ka,kb)],JB.out.1,by have:=JB.out.2.2.2.1;simp;omega,JB.out.2.1,by rw [uO.out];simp,JB.out.2.2.1⟩
        case measure=>exact HME.out
       ·have bM:Maps.has H (lk ka kb)=false:=by
         cases e:Maps.has H (lk ka kb) with
         | false=>rfl
         | true=>exact absurd (hh.1 e) xO
        have xG:c2=0:=by
         rw [atKey_of_not_has bM] at l7
         simpa using l7.symm
        subst xG
        have uO:Hid (mf (N.flatMap (K.haveQ x)) (ps++[(ka,kb)])=mf (N.flatMap (K.haveQ x)) ps+1):=by
         show _=_
         rw [rC,if_pos ⟨tJ,xO⟩]
        generalize mf (N.flatMap (K.haveQ x)) ps=cn at *;clear BJ hC hU bI Uj uI bf MR IV MQ BL MS MW l7 hme Ur hQ Tc gW UY hv EF SB UI Az PL hh xO bM;go_upto_region 21 with fail;rw [Un.out];go_wp2_with fail
        go_roundw
        case rel=>exact ⟨_,Um,ps++[(ka,kb)],JB.out.1,by have:=JB.out.2.2.2.1;simp;omega,JB.out.2.1,by rw [uO.out];simp;omega,JB.out.2.2.1⟩
        case measure=>exact HME.out
theorem qc.exists {K:KV} {l x y r:Nat} (nb:Nb K l x y) (hc:K.Cross x y r):∃ c:bV,c.r=r/\qc K l x y c:=by
 obtain ⟨p,a00,a01,a10,a11,h⟩:=nb.four hc;have Zj:=hc;obtain ⟨_,p',hp,_,hv,_⟩:=Zj
 have e:p=p':=by have:=h.at_;rw [hp] at this;exact (Option.some.inj this).symm
 subst e;exact ⟨⟨r,p.lo,p.hi,a00,a01,a10,a11⟩,rfl,hc,p,h,hv,rfl,rfl⟩
theorem gI.exists {K:KV} {l x y:Nat} (nb:Nb K l x y):∃ C,gI K l x y C:=by
 classical
 have step:∀ n,∃ C:List bV,(∀ c,c∈C->qc K l x y c/\c.r<n)/\(C.map bV.r).Nodup/\∀ r,r<n->K.Cross x y r->r∈C.map bV.r:=by
  intro n
  induction n with
  | zero=>exact ⟨[],by simp,by simp,fun r h=>by omega⟩
  | succ n ih =>
   obtain ⟨C,h1,h2,h3⟩:=ih
   by_cases hc:K.Cross x y n
   ·obtain ⟨c,hr,dY⟩:=qc.exists nb hc
    refine ⟨C++[c],fun d hd=>?_,?_,fun r BU qW=>?_⟩
    ·rcases List.mem_append.1 hd with h | h
     ·have:=h1 d h;exact ⟨this.1,by omega⟩
     ·simp at h;subst h;exact ⟨dY,by omega⟩
    ·rw [List.map_append,List.nodup_append]
     refine ⟨h2,by simp,fun a ha b hb=>?_⟩
     simp at hb
     obtain ⟨d,hd,rfl⟩:=List.mem_map.1 ha;have:=(h1 d hd).2;omega
    ·rw [List.map_append]
     by_cases e:r=n
     ·subst e;exact List.mem_append.2 (.inr (by simp [hr]))
     ·exact List.mem_append.2 (.inl (h3 r (by omega) qW))
   ·exact ⟨C,fun d hd=>⟨(h1 d hd).1,by have:=(h1 d hd).2;omega⟩,h2,fun r hr qW=>h3 r (by
     by_cases e:r=n
     ·subst e;exact absurd qW hc
     ·omega) qW⟩
 obtain ⟨C,h1,h2,h3⟩:=step K.A.list.length
 exact ⟨C,fun c hc=>(h1 c hc).1,h2,fun r hr=>h3 r (by
  obtain ⟨_,p,hp,_⟩:=hr
  exact (List.getElem?_eq_some_iff.1 hp).1) hr⟩
theorem Gx (b l:Nat) (K:KV) (F:List Nat) (M:MV) (w:World) (h:bu w b K F) (hm:KM K M) (hl:l+2<=K.vars) :
  Calls Tryz.prog 20 #[.pointer (some ⟨b,0,none⟩),.int .i64 l] w fun e w'=>e=.returned (.tuple #[.int .i64 (M.U l:Nat),.int .i64 ((M.c:Int)-2),.int .i64 0])/\af [] w w':=by
 have hu:=h.uni;have dY:=h.ok;obtain ⟨T,q,hk,rfl⟩:=h;refine (Di b l K T q w hk hl).mono ?_;rintro e w' hE;obtain ⟨n,rfl,iF,hn⟩:=hE.ex;refine ⟨?_,iF⟩;have nb:=dY.nb hu hl;obtain ⟨C,CA⟩:=gI.exists nb;obtain ⟨N,FN⟩:=lI.exists K (K.order.getD l 0) (C.flatMap bV.qs);have h1:=hn C N CA FN;have h2:=hm.agr.U nb hm.n16 CA FN;have h3:=hm.agr.c
 have e1:n=M.U l:=by omega
 rw [e1,h3]
def MV.backN (j:Nat) (M:MV):MV:=Nat.repeat MV.undo j M
theorem MV.backN_succ (j:Nat) (M:MV):MV.backN (j+1) M=(MV.backN j M).undo:=rfl
theorem MV.backN_len (M:MV):∀ j,(MV.backN j M).trail.length=M.trail.length-j
 | 0=>rfl
 | j+1=>by
  rw [MV.backN_succ]
  show (MV.backN j M).trail.dropLast.length=_
  rw [List.length_dropLast,MV.backN_len M j];omega
structure X0 (b tr:Nat) (K:KV) (F:List Nat) (M:MV) (w:World) (e:Ending) (w':World):Prop where
 ex:∃ (K':KV) (F':List Nat),e=.returned (.tuple #[.int .i64 (M.trail.length-tr:Nat),.int .i64 0])/\bu w' b K' F'/\KM K' (MV.backN (M.trail.length-tr) M)/\lD K K'/\yK F w F' w'
theorem PM (b tr:Nat) (K:KV) (F:List Nat) (M:MV) (w:World) (h:bu w b K F) (hm:KM K M) (ht:M.trail.length<=1000000) (uD:tr<=M.trail.length) :
  Calls Tryz.prog 21 #[.pointer (some ⟨b,0,none⟩),.int .i64 tr] w fun e w'=>X0 b tr K F M w e w':=by
 have e0:K.trail.length=M.trail.length:=by rw [hm.tr]
 refine (IG b tr (fun K2=>lD K K2/\∃ i,KM K2 (MV.backN i M)/\K2.trail.length+i=M.trail.length) K F w h ⟨lD.refl _,0,hm,by omega⟩ (by omega) (by omega) fun z K2 F2 hz hp aZ hlen=>?_).mono ?_
 ·obtain ⟨hs,i,hk,hi⟩:=hp
  have hl:(MV.backN i M).trail.length=K2.trail.length:=by rw [hk.tr]
  refine (Px b K2 F2 _ z hz hk (by omega) (fun h0=>by rw [h0] at hl;simp at hl;omega)).mono ?_;rintro e w' ⟨rfl,hv⟩;obtain ⟨K3,F3,h1,h2,h3,h4,h5⟩:=hv.ex;refine ⟨_,K3,F3,rfl,h1,⟨h4,h5⟩,⟨hs.trans h3,i+1,h2,?_⟩,?_⟩
  ·have:K3.trail.length=(MV.backN (i+1) M).trail.length:=by rw [h2.tr,MV.backN_succ]
   rw [MV.backN_len] at this;omega
  ·have:K3.trail.length=(MV.backN (i+1) M).trail.length:=by rw [h2.tr,MV.backN_succ]
   rw [MV.backN_len] at this;omega
 ·rintro e w' hE
  obtain ⟨K',F',rfl,h1,h2,⟨h3,i,h4,h5⟩,h6⟩:=hE.ex
  have:i=M.trail.length-tr:=by omega
  subst this;exact ⟨K',F',by rw [e0],h1,h4,h3,h2⟩
def PN:TV:=⟨3,[216]⟩
def JC:MV:=(l9 3 10 [PN]).1
theorem MX:PN.Ok:=by
 refine ⟨by decide,by decide,fun x hx=>?_,fun _ x hx i hi=>?_⟩
 ·simp [PN] at hx;subst hx;unfold jf;omega
 ·simp [PN] at hx;subst hx
  have h8:8<=i:=by simpa [PN] using hi
  exact Nat.testBit_lt_two_pow (Nat.lt_of_lt_of_le (by decide:(216:Int).toNat<2 ^ 8) (Nat.pow_le_pow_right (by decide) h8))
theorem MZ:JC.live=3/\JC.U 0=5/\JC.c=10/\JC.exchE 0=0/\JC.tryV 0=(0,3,4)/\(JC.exch 0).trail.length=1/\JC.trail.length=0:=by decide +kernel
theorem Na:(MV.backN 1 (JC.exch 0)).trail.length=0/\((MV.backN 1 (JC.exch 0)).playV [0,1]).2.1=0/\((MV.backN 1 (JC.exch 0)).playV [0,1]).1=[(0,3,4),(1,4,5)]:=by decide +kernel
def MV.wid (M:MV) (v:Nat):Nat:=(M.lev.getD (M.lvl v) []).length
theorem Dj (m v:Nat) (M:MV) (p:aQ) (Z:List Nat) (w:World) (h:bZ w m M p Z) (hZ:∀ k,k∈Z->k<w.heap.size) (hf:M.Fit) (hv:v∈M.order) :
  Calls Tryz.prog 127 #[.pointer (some ⟨m,0,none⟩),.int .i64 v] w fun e w'=>e=.returned (.int .i64 (M.wid v))/\af [] w w':=by
 have oW:=(MV.lvl_at hv).1;have uH:M.lev.length=M.order.length:=mF _ _;have HL:=Lib.hid (CY m v M p Z w h hv (by have:=hf.ol;omega));have HS:=Lib.hid (pU m M p Z w h hZ hf);obtain ⟨l,hl⟩ : ∃ l,M.lev[M.lvl v]?=some l:=⟨_,List.getElem?_eq_getElem (by omega)⟩
 have HW:Hid (M.wid v=l.length):=by show _=_;unfold MV.wid;rw [List.getD_eq_getElem?_getD,hl];rfl
 have hi:(M.lvl v:Int)<(M.lev.length:Int):=by omega
 have VF:M.lvl v<M.lev.length:=by omega
 have Vk:M.lvl v<=64:=by have:=hf.ol;omega
 generalize M.lvl v=L at *;have Zd:=Lib.hid hl;clear h hZ hf hv hl oW uH
 go_enter Tryz.func127,Tryz.ntmps127
 go_wp2_with fail;refine HL.out.mono ?_;rintro e w1 ⟨rfl,rfl⟩;go_wp2_with fail;refine HS.out.mono ?_;rintro e w2 hE;obtain ⟨tv,rfl,hT,hu⟩:=hE.ex;obtain ⟨ta,tc,rfl,UJ⟩:=hT.form;obtain ⟨tg,rfl⟩:=UJ (by omega);obtain ⟨c,q1,q2⟩:=hT.at_ Zd.out;obtain ⟨ca,cc,rfl,_⟩:=q2.form;have HU:=Lib.hid hu;clear hE hT UJ q2 hu;go_wp2_with fail;go_ret;exact ⟨by rw [HW.out];rfl,HU.out⟩
theorem Dk (tb:Nat) (F:List Nat) (v:Nat) (T:List DM) (D:DM) (w:World) (h:dC w tb T F) (hv:T[v]?=some D) :
  Calls Tryz.prog 176 #[.pointer (some ⟨tb,0,none⟩),.int .i64 v] w fun e w'=>e=.returned (.tuple #[.int .i64 (Maps.size D),.int .i64 0])/\af [] w w':=by
 have gG:=(List.getElem?_eq_some_iff.1 hv).1;have Eh:=h.bd;obtain ⟨g,cap,m,SE,Tf,Bd,BK,zJ,ho⟩:=h.cells hv;have hl:=h.lt;have HT:=Lib.hid h;have HO:=Lib.hid ho
 have hi:(v:Int)<(T.length:Int):=by omega
 clear h ho hl hv
 go_enter Tryz.func176,Tryz.ntmps176
 go_wp2_with fail;refine (kK tb F v T _ HT.out (by omega) (by omega)).mono ?_;rintro e w1 ⟨rfl,rfl⟩;go_wp2_with fail;rw [World.ownsMap.len HO.out Tryz.underlying219 3];go_wp2_with fail;go_ret2;exact ⟨rfl,af.refl _ _⟩
theorem Nc (b v:Nat) (K:KV) (T:List DM) (q:aA) (D:DM) (w:World) (h:dH w b K T q) (hv:v<K.vars) (hT:T[v]?=some D) :
  Calls Tryz.prog 126 #[.pointer (some ⟨b,0,none⟩),.int .i64 v] w fun e w'=>e=.returned (.tuple #[.int .i64 (Maps.size D),.int .i64 0])/\af [] w w':=by
 have c1:w.cell? ⟨b,1,none⟩=some (.pointer (some ⟨q.t,0,none⟩)):=ae h.mem.blk rfl;have HV:=Lib.hid (fG b v K T q w h.mem);rw [show K.isVar v=true by simp [KV.isVar,hv]] at HV;have HC:=Lib.hid (Dk q.t q.FT v T D w h.mem.tab hT);clear h hT
 go_enter Tryz.func126,Tryz.ntmps126
 go_wp2_with fail;refine HV.out.mono ?_;rintro e w1 ⟨rfl,rfl⟩;go_wp2_with fail;refine HC.out.mono ?_;rintro e w2 ⟨rfl,hu⟩;have HU:=Lib.hid hu;clear hu;go_wp2_with fail;go_ret2;exact ⟨rfl,HU.out⟩
theorem AA {D:DM} {es:List (Lit × DM)} (e:D=.map es) {ks:List Lit} (hn:ks.Nodup) (h:∀ k,k∈ks->Maps.has D k=true):ks.length<=Maps.size D:=by
 subst e
 have nO:ks ⊆ es.map (·.1):=by
  intro k hk
  have:=h k hk
  simp only [Maps.has,List.any_eq_true] at this
  obtain ⟨p,hp,hs⟩:=this;exact List.mem_map.2 ⟨p,hp,WideAt.sameKey_eq hs⟩
 have:=List.Nodup.length_le_of_subset hn nO
 simpa [Maps.size] using this
def KV.nodesV (K:KV) (v:Nat):List Nat:=K.nodes.filter fun r=>decide (K.vI r=(v:Int))
theorem KV.mem_nodesV {K:KV} {v r:Nat}:r∈K.nodesV v↔2<=r/\K.A.tk r=true/\K.vI r=(v:Int):=by
 unfold KV.nodesV;rw [List.mem_filter,KV.mem_nodes,decide_eq_true_eq,and_assoc]
theorem di.sizeV {T:List DM} {K:KV} (h:di T K []) (hw:K.Wf []) {v:Nat} {D:DM} (hv:T[v]?=some D) (hc:Maps.Canon D) (ht:Tidy D):Maps.size D=(K.nodesV v).length:=by
 have zn:(K.nodesV v).Nodup:=List.Pairwise.filter _ K.nodes_nodup
 have key:∀ r,r∈K.nodesV v->∃ p,2<=r/\K.A.list[r]?=some p/\p.taken=true/\p.var=(v:Int):=fun r hr=>by
  obtain ⟨h2,h3,h4⟩:=KV.mem_nodesV.1 hr;obtain ⟨p,hp,aH⟩:=ag.tk_iff.1 h3;rw [KV.vI_at hp] at h4;exact ⟨p,h2,hp,aH,h4⟩
 let kf:Nat->Lit:=fun r=>match K.A.list[r]? with | some p=>lg p | none=>nk 0 0 0
 have Zk:∀ r p,K.A.list[r]?=some p->kf r=lg p:=fun r p hp=>by show (match K.A.list[r]? with | some p=>lg p | none=>nk 0 0 0)=_;rw [hp]
 have hkn:((K.nodesV v).map kf).Nodup:=by
  refine List.pairwise_map.2 (List.Pairwise.imp_of_mem (fun {a b} ha hb hne e=>hne ?_) zn);obtain ⟨p,h2,hp,aH,_⟩:=key a ha;obtain ⟨c,h2',Zj,ja,_⟩:=key b hb;rw [Zk a p hp,Zk b c Zj] at e;exact h.uniq hw h2 h2' hp Zj aH ja (by simp) (by simp) e
 refine Nat.le_antisymm ?_ ?_
 ·have:=gZ hc (ks:=(K.nodesV v).map kf) (fun k hk=>by
   obtain ⟨r,p,h2,hp,aH,mr,rfl,_⟩:=h.dom v D k hv hk
   exact List.mem_map.2 ⟨r,KV.mem_nodesV.2 ⟨h2,ag.tk_iff.2 ⟨p,hp,aH⟩,by rw [KV.vI_at hp];exact mr⟩,Zk r p hp⟩) ht
  simpa using this
 ·obtain ⟨es,e,_⟩:=hc
  have:=AA e hkn (fun k hk=>by
   obtain ⟨r,hr,rfl⟩:=List.mem_map.1 hk;obtain ⟨p,h2,hp,aH,mr⟩:=key r hr;rw [Zk r p hp]
   exact (h.at_ r p D h2 hp aH (by simp) (by rw [mr];exact hv)).1)
  simpa using this
theorem Gy:∀ (o:List Nat) (c:List TV) (i v:Nat),o[i]?=some v->(dZ c o)[i]?=some (cZ (jv c (o.take i)) v)
 | [],_,_,_,h=>by simp at h
 | x::o,c,0,v,h=>by simp at h;subst h;rfl
 | x::o,c,i+1,v,h=>by
  have:=Gy o (bg c x) i v (by simpa using h)
  show (dZ (bg c x) o)[i]?=_
  rw [this];rfl
theorem Fg {f g:(Nat->Bool)->Bool} {o:List Nat} {a:Nat->Bool} (h:∀ y,f y=g (mixO o a y)) {v:Nat} (hv:v∈o):¬ fJ f v:=by
 rintro ⟨y,hy⟩;refine hy ?_;rw [h,h]
 congr 1
 funext x
 unfold mixO;split
 ·rfl
 ·rename_i hx
  have:x≠v:=fun e=>hx (e ▸ hv)
  simp [upd,this]
theorem KV.Ok.node_var {K:KV} (hk:K.Ok) (hu:K.Uni) {r:Nat} (h2:2<=r) (ht:K.A.tk r=true):∃ v,v<K.vars/\K.vI r=(v:Int)/\fJ (K.tab r).fn v/\∀ x,x<K.vars->K.lev x<K.lev v->¬ fJ (K.tab r).fn x:=by
 have e:(K.tab r).fn=K.den r:=funext fun y=>hk.tab_fn ht y
 rw [e];obtain ⟨v,hv,hd,h3,h4⟩:=hk.node_hangs hu h2 ht;obtain ⟨p,u,hp,aH,hpu,Bz,_,_,Xq⟩:=hk.wf.node_at h2 ht;refine ⟨v,hv,?_,h3,h4⟩;have:u=v:=hk.ord.pm.inj Bz hv (by rw [<- hd,<- Xq]);rw [KV.vI_at hp,hpu,this]
theorem KV.Ok.node_one {K:KV} (hk:K.Ok) (hu:K.Uni) {r x:Nat} {g:(Nat->Bool)->Bool} {a:Nat->Bool} (h2:2<=r) (ht:K.A.tk r=true) (hx:x<K.vars) (hh:fJ (K.tab r).fn x) (he:∀ y,(K.tab r).fn y=g (mixO (K.order.take (K.lev x)) a y)):K.vI r=(x:Int):=by
 obtain ⟨v,hv,e,h3,h4⟩:=hk.node_var hu h2 ht
 have:v=x:=by
  refine hk.ord.pm.inj hv hx ?_
  rcases Nat.lt_trichotomy (K.lev v) (K.lev x) with h | h | h
  ·exact absurd h3 (Fg he (hk.ord.pm.mem_take.2 ⟨hv,h⟩))
  ·exact h
  ·exact absurd hh (h4 x hx h)
 rw [e,this]
theorem KM.wid {K:KV} {M:MV} (h:KM K M) (hk:K.Ok) (hu:K.Uni) {v:Nat} (hv:v<M.n):M.wid v=(K.nodesV v).length:=by
 have hn:=h.agr.same.n;have ho:=h.agr.same.od;obtain ⟨l1,l2,l3⟩:=h.lvl hk hv;have hr:=h.agr.roots
 have hc:∀ t,t∈aP M.tabs->t.Ok/\t.n=K.vars:=fun t ht=>hr.ok t (dK.1 ht)
 have FM:∀ x,x∈M.order->x<K.vars:=fun x hx=>by rw [<- hn];exact h.fit.on x hx
 have el:=Gy M.order (aP M.tabs) _ _ l3
 have ew:M.wid v=(cZ (jv (aP M.tabs) (M.order.take (M.lvl v))) v).length:=by
  unfold MV.wid MV.lev
  rw [List.getD_eq_getElem?_getD,el];rfl
 have el2:(K.nodesV v).length=((K.nodesV v).map K.tab).length:=by simp
 rw [ew,el2];have nd2:((K.nodesV v).map K.tab).Nodup:=List.pairwise_map.2 (List.Pairwise.imp_of_mem (fun {a b} ha hb hne e=>hne (hk.tab_inj hu (KV.mem_nodesV.1 ha).2.1 (KV.mem_nodesV.1 hb).2.1 e)) (List.Pairwise.filter _ K.nodes_nodup))
 have nd1:(cZ (jv (aP M.tabs) (M.order.take (M.lvl v))) v).Nodup:=by
  have hf:=oH M.order _ (gJ M.tabs) hc FM;exact (List.pairwise_flatten.1 hf).1 _ (List.mem_of_getElem? el)
 have hmc:∀ u,u∈jv (aP M.tabs) (M.order.take (M.lvl v))↔_:=fun u=>kF (n:=K.vars) _ _ hc (fun x hx=>FM x (List.mem_of_mem_take hx)) (u:=u)
 refine Nat.le_antisymm (List.Nodup.length_le_of_subset nd1 fun u hm=>?_) (List.Nodup.length_le_of_subset nd2 fun u hm=>?_)
 ·obtain ⟨m1,m2⟩:=kW.1 hm
  obtain ⟨a1,a2,t,ht,a,he⟩:=(hmc u).1 m1;have Rq:u∈M.lev.flatten:=List.mem_flatten.2 ⟨_,List.mem_of_getElem? el,hm⟩;obtain ⟨r,h2,jJ,rfl⟩:=(h.agr.mem hk hu h.n16).1 Rq;refine List.mem_map.2 ⟨r,KV.mem_nodesV.2 ⟨h2,jJ,?_⟩,rfl⟩
  refine hk.node_one hu h2 jJ (by omega) ((ik a1 (by rw [a2];omega)).1 m2) (a:=a) (g:=t.fn) fun y=>?_
  rw [he,l1,ho]
 ·obtain ⟨r,BU,rfl⟩:=List.mem_map.1 hm
  obtain ⟨h2,jJ,pg⟩:=KV.mem_nodesV.1 BU;have Rq:K.tab r∈M.lev.flatten:=(h.agr.mem hk hu h.n16).2 ⟨r,h2,jJ,rfl⟩;obtain ⟨j,x,e1,e2,e3⟩:=(pO M.order (aP M.tabs)).1 Rq;obtain ⟨a1,a2,t,ht,a,he⟩:=(kF (n:=K.vars) _ _ hc (fun x hx=>FM x (List.mem_of_mem_take hx)) (u:=K.tab r)).1 e2;have hx:=FM x (List.mem_of_getElem? e1)
  have ej:j=K.lev x:=by
   have JA:j<K.order.length:=by rw [<- ho];exact (List.getElem?_eq_some_iff.1 e1).1
   have:=(hk.ord.pm.oo j (by rw [<- hk.ord.pm.ol];exact JA)).2;rw [List.getD_eq_getElem?_getD,<- ho,e1] at this;exact this.symm
  have SN:K.vI r=(x:Int):=hk.node_one hu h2 jJ hx ((ik a1 (by rw [a2];exact hx)).1 e3) (a:=a) (g:=t.fn) fun y=>by rw [he,ej,ho]
  have:x=v:=by omega
  subst this;rw [<- l1,<- ej];exact kW.2 ⟨e2,e3⟩
theorem Dl (b v:Nat) (K:KV) (F:List Nat) (M:MV) (w:World) (h:bu w b K F) (hm:KM K M) (hv:v<M.n) :
  Calls Tryz.prog 126 #[.pointer (some ⟨b,0,none⟩),.int .i64 v] w fun e w'=>e=.returned (.tuple #[.int .i64 (M.wid v),.int .i64 0])/\af [] w w':=by
 have hu:=h.uni;have hn:=hm.agr.same.n;obtain ⟨T,q,hk,rfl⟩:=h
 have aZ:v<T.length:=by rw [hk.ti.len];omega
 have hT:T[v]?=some T[v]:=List.getElem?_eq_getElem aZ;generalize T[v]=D at hT;obtain ⟨g,cap,m,t1,t2,t3,c0,c1,aJ⟩:=hk.mem.tab.cells hT;have df:=hk.ti.sizeV hk.ok.wf hT (aJ.canon aW) (aJ.tidy aW);have:=Nc b v K T q D w hk (by omega) hT;rw [df,<- hm.wid hk.ok hu hv] at this;exact this
end Go.Proofs.YtdackeldhdchaaaGreat
