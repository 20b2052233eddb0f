import Derived.Test.YtpfafhmkbcahhaaGreatPT39
set_option maxRecDepth 100000
set_option maxHeartbeats 1600000
namespace Go.Proofs.YtpfafhmkbcahhaaGreat
open Go.RowKit Go.Maps Go.WideShapes
theorem heldV {w w4:World} {a1 a2 a3 a4 a5:Addr} {v1 v2 v3 v4 v5:Value} (hu:Upd [] w w4) (h1:w.cell? a1=some v1) (h2:w.cell? a2=some v2) (h3:w.cell? a3=some v3) (h4:w.cell? a4=some v4) (h5:w.cell? a5=some v5) :
    w4.cell? a1=some v1∧w4.cell? a2=some v2∧w4.cell? a3=some v3∧w4.cell? a4=some v4∧w4.cell? a5=some v5 :=
  ⟨(hu.cell (World.block_lt_of_cell? w _ h1) (by simp)).trans h1,(hu.cell (World.block_lt_of_cell? w _ h2) (by simp)).trans h2,(hu.cell (World.block_lt_of_cell? w _ h3) (by simp)).trans h3,
   (hu.cell (World.block_lt_of_cell? w _ h4) (by simp)).trans h4,(hu.cell (World.block_lt_of_cell? w _ h5) (by simp)).trans h5⟩
structure DnRel (w:World) (b:Nat) (a:It) (K0:List It) (F:List Nat) (i:Nat) (Lm K:List It) (D:DM) (wr:World):Prop where
 mem:HpMem wr b Lm D F
 eq:Lm.set i a=K
 lt:i<Lm.length
 pm:K.Perm K0
 mid:HMid K i
 abo:Above1 K i
 but:MapBut D K i
 up:Upd F w wr
 box:wr.heap[w.heap.size]?=some (.cells #[.int .i64 a.x,.int .i64 a.k] 267 (0,0))
structure DnPost (w:World) (b:Nat) (K0:List It) (F:List Nat) (w':World):Prop where
 ex:∃ (K:List It) (D:DM),HpMem w' b K D F/\MapIs D K/\K.Perm K0/\Heap K
 up:Upd F w w'
section
variable {w w' wr:World} {b:Nat} {a cc:It} {K0:List It} {F:List Nat} {i c:Nat} {Lm K:List It} {D:DM}
theorem DnRel.get (h:DnRel w b a K0 F i Lm K D wr):K[i]?=some a:=by rw [<- h.eq];exact List.getElem?_set_self h.lt
theorem DnRel.klen (h:DnRel w b a K0 F i Lm K D wr):K.length=Lm.length:=by rw [<- h.eq];simp
theorem DnRel.size (h:DnRel w b a K0 F i Lm K D wr):Maps.size D<maxLen:=h.but.size h.mem.canon h.mem.tidy (by rw [h.klen];exact h.mem.bd)
theorem DnRel.other (h:DnRel w b a K0 F i Lm K D wr) (hne:c≠i):K[c]?=Lm[c]?:=by rw [<- h.eq,List.getElem?_set_ne (Ne.symm hne)]
theorem DnRel.sub (h:DnRel w b a K0 F i Lm K D wr) (hne:c≠i) (hp:Lm[c]?=some cc):cc∈K0 :=
 h.pm.subset (List.mem_of_getElem? (i:=c) (by rw [h.other hne];exact hp))
theorem DnRel.done (h:DnRel w b a K0 F i Lm K D wr) (hk:KOk K0) (hb:Below1 K i)
  (hm:HpMem w' b (Lm.set i a) (D.put (.int .i64 a.x) (.lit (.int .i64 i))) F) (hu:Upd F wr w'):DnPost w b K0 F w' :=
 ⟨⟨K,_,by rw [<- h.eq];exact hm,h.but.put h.mem.isMap (hk.perm h.pm) h.get,h.pm,h.mid.heap h.abo hb⟩,h.up.trans hu⟩
theorem DnRel.step (h:DnRel w b a K0 F i Lm K D wr) (hk:KOk K0) (hci:0<c/\(c-1)/2=i) (hc:Lm[c]?=some cc) (hac:ahead cc a=true)
  (hl:∀ j,0<j->(j-1)/2=i->LeAt K c j)
  (hm:HpMem w' b (Lm.set i cc) (D.put (.int .i64 cc.x) (.lit (.int .i64 i))) F) (hu:Upd F wr w') (hF:∀ k,k∈F->k<w.heap.size) :
  DnRel w b a K0 F c (Lm.set i cc) (swp K i c a cc) (D.put (.int .i64 cc.x) (.lit (.int .i64 i))) w':=by
 have hne:c≠i:=by omega
 have hcK:K[c]?=some cc:=by rw [h.other hne];exact hc
 obtain ⟨m1,m2⟩:=h.mid.down h.abo hci.1 hci.2 h.get hcK hac hl;have hpl:=(List.getElem?_eq_some_iff.1 hc).1;refine ⟨hm,?_,by simpa using hpl,(swp_perm hcK h.get hne).trans h.pm,m1,m2,h.but.move h.mem.isMap (hk.perm h.pm) h.get hcK hne,h.up.trans hu,?_⟩
 ·rw [set_set_comm hne,h.eq]
 ·rw [hu.block _ (heap_lt h.box) (fun hf=>by have:=hF _ hf;omega)];exact h.box
theorem DnRel.below (h:DnRel w b a K0 F i Lm K D wr) (hci:0<c/\(c-1)/2=i) (hc:Lm[c]?=some cc) (hac:ahead cc a=false)
  (hl:∀ j,0<j->(j-1)/2=i->LeAt K c j):Below1 K i:=by
 intro j hj hji x y hx hy
 rw [h.get] at hx;cases hx
 have hcK:K[c]?=some cc:=by rw [h.other (by omega)];exact hc
 exact le_trans hac (hl j hj hji _ _ hcK hy)
theorem DnRel.none (h:DnRel w b a K0 F i Lm K D wr) (hc:Lm.length<=2*i+1):Below1 K i:=by
 intro j hj hji x y _ hy
 have:=(List.getElem?_eq_some_iff.1 hy).1;rw [h.klen] at this;omega
theorem DnRel.one (h:DnRel w b a K0 F i Lm K D wr) (hc:Lm.length<=2*i+2):∀ j,0<j->(j-1)/2=i->LeAt K (2*i+1) j:=by
 intro j hj hji x y hx hy
 have:=(List.getElem?_eq_some_iff.1 hy).1;rw [h.klen] at this
 have:j=2*i+1:=by omega
 subst this
 rw [hx] at hy;cases hy;exact le_refl _
theorem DnRel.left (h:DnRel w b a K0 F i Lm K D wr) {x y:It} (hx:Lm[2*i+1]?=some x) (hy:Lm[2*i+2]?=some y) (hle:ahead y x=false):∀ j,0<j->(j-1)/2=i->LeAt K (2*i+1) j:=by
 intro j hj hji u v hu hv
 rw [h.other (by omega),hx] at hu;cases hu
 have:j=2*i+1\/j=2*i+2:=by omega
 rcases this with rfl | rfl
 ·rw [h.other (by omega),hx] at hv;cases hv;exact le_refl _
 ·rw [h.other (by omega),hy] at hv;cases hv;exact hle
theorem DnRel.right (h:DnRel w b a K0 F i Lm K D wr) {x y:It} (hx:Lm[2*i+1]?=some x) (hy:Lm[2*i+2]?=some y) (hle:ahead y x=true):∀ j,0<j->(j-1)/2=i->LeAt K (2*i+2) j:=by
 intro j hj hji u v hu hv
 rw [h.other (by omega),hy] at hu;cases hu
 have:j=2*i+1\/j=2*i+2:=by omega
 rcases this with rfl | rfl
 ·rw [h.other (by omega),hx] at hv;cases hv;exact le_of_ahead hle
 ·rw [h.other (by omega),hy] at hv;cases hv;exact le_refl _
end
theorem down_spec (b i0:Nat) (iv:Int) (hiv:iv=(i0:Int)) (a:It) (K0:List It) (D0:DM) (F:List Nat) (w:World) (h:HpMem w b K0 D0 F) (hi:K0[i0]?=some a) (hk:KOk K0) (hm:HMid K0 i0) (hab:Above1 K0 i0) (hb:MapBut D0 K0 i0) :
  Calls Tryz.prog 201 #[.pointer (some ⟨b,0,none⟩),.int .i64 iv] w fun e w'=>e=.returned (.tuple #[])/\DnPost w b K0 F w':=by
 subst hiv;have hlt:=(List.getElem?_eq_some_iff.1 hi).1;obtain ⟨g,cap,hgF,hc0,hcap,hc⟩:=h.list (by omega);obtain ⟨hx,hkk⟩:=hc i0 a hi;have hbd:=h.bd;have hFl:=h.lt;have hbl:=hFl b h.head;have hgl:=hFl g hgF;have HFl:=Lib.hid hFl;have HK:=Lib.hid hk
 have H0:Hid (DnRel w b a K0 F i0 K0 K0 D0 (w.alloc (.cells #[.int .i64 a.x,.int .i64 a.k] 267 (0,0)))) :=
  ⟨h.upd ((Upd.refl [] w).alloc _) (by simp),List.ext_getElem? fun j=>by
    rw [List.getElem?_set];split
    ·rename_i e;subst e;simp [hlt,<- hi]
    ·rfl,hlt,List.Perm.refl _,hm,hab,hb,(Upd.refl F w).alloc _,heap_alloc_new w _⟩
 clear h hi hk hm hb hc hFl hab
 go_enter Tryz.func201,Tryz.ntmps201
 go_wp2_with fail;clear hc0 hx hkk
 go_loopg [1] (K0.length-i0) (fun g s1 wr=>∃ (i:Nat) (Lm K:List It) (D:DM),Lm.length-i=g/\s1=.int .i64 i/\DnRel w b a K0 F i Lm K D wr)
 case atStart=>exact ⟨i0,K0,K0,D0,rfl,rfl,H0.out⟩
 case round =>
  obtain ⟨i,Lm,K,D,rfl,rfl,hR⟩:=hrel;have hbox:=hR.box;have x0:wr.cell? ⟨w.heap.size,0,none⟩=some (.int .i64 a.x):=cell_at hbox rfl;have x1:wr.cell? ⟨w.heap.size,1,none⟩=some (.int .i64 a.k):=cell_at hbox rfl;have hbd':=hR.mem.bd;have hlt':=hR.lt;obtain ⟨g',cap',hgF',hc0,hcap',hc⟩:=hR.mem.list (by omega);clear hbox;have HWA:=Lib.hid ((HK.out.perm hR.pm).wf a (List.mem_of_getElem? hR.get));have HCs:=Lib.hid hc;have HR:=Lib.hid hR;clear hR hc;have hbw:b<wr.heap.size:=HR.out.mem.lt b HR.out.mem.head;have hgw:g'<wr.heap.size:=HR.out.mem.lt g' hgF';have hBw:w.heap.size<wr.heap.size:=heap_lt HR.out.box
  by_cases hA:Lm.length<=2*i+1
  ·-- no child
   obtain ⟨c,hcc⟩ : ∃ c:Nat,2*(i:Int)+1=c:=⟨2*i+1,by omega⟩
   have hd1:decide ((c:Int)+1<(Lm.length:Int))=false:=by simp;omega
   have hd2:(Lm.length:Int)<=(c:Int):=by omega
   have hd3:IntKind.i64.wrap ((c:Int)+1)=(c:Int)+1:=IntWalk.i64_in _ (by omega);go_wp2_with fail
   go_quiet (fail)
   go_wp2_with fail
   go_quiet (fail)
   go_wp2_with fail;refine (put_at b i _ (by omega) a Lm D F _ (HR.out.mem.upd ((Upd.refl [] wr).drewN _) (by simp)) (by omega) HWA.out HR.out.size).mono ?_;rintro e w8 ⟨rfl,hm8,hu8⟩;have HE:=Lib.hid (HR.out.done HK.out (HR.out.none hA) hm8 (((Upd.refl F wr).drewN _).trans hu8));clear hm8 hu8;go_wp2_with fail;go_end0;exact ⟨rfl,HE.out⟩
  ·by_cases hB:Lm.length<=2*i+2
   ·-- one child
    obtain ⟨c,hcc,hcn⟩ : ∃ c:Nat,2*(i:Int)+1=c/\c=2*i+1:=⟨2*i+1,by omega,rfl⟩
    have hd1:decide ((c:Int)+1<(Lm.length:Int))=false:=by simp;omega
    have hd2:(c:Int)<(Lm.length:Int):=by omega
    have hd4:decide ((Lm.length:Int)<=(c:Int))=false:=by simp;omega
    have hd5:decide (Lm.length<=c)=false:=by simp;omega
    have hd3:IntKind.i64.wrap ((c:Int)+1)=(c:Int)+1:=IntWalk.i64_in _ (by omega)
    have hd6:(0:Int)<=(c:Int):=by omega
    have hcl:c<Lm.length:=by omega
    obtain ⟨cc,hcd⟩ : ∃ x,Lm[c]?=some x:=⟨_,List.getElem?_eq_getElem hcl⟩;have HCI:Hid (0<c/\(c-1)/2=i):=⟨by omega,by omega⟩
    have HL:Hid (∀ j,0<j->(j-1)/2=i->LeAt K c j):=by rw [hcn];exact HR.out.one (by omega)
    have HC:=Lib.hid hcd;have HWC:=Lib.hid (HK.out.wf cc (HR.out.sub (by omega) hcd));obtain ⟨y0,y1⟩:=HCs.out c cc hcd;clear hcd hcn;go_wp2_with fail
    go_quiet (fail)
    have r0:(wr.drewN nq).cell? ⟨b,0,none⟩=some (.slice (some ⟨g',0,none⟩) Lm.length cap'):=hc0;have r1:(wr.drewN nq).cell? ⟨w.heap.size,0,none⟩=some (.int .i64 a.x):=x0;have r2:(wr.drewN nq).cell? ⟨w.heap.size,1,none⟩=some (.int .i64 a.k):=x1;have r3:(wr.drewN nq).cell? ⟨g',c*2,none⟩=some (.int .i64 cc.x):=y0;have r4:(wr.drewN nq).cell? ⟨g',c*2+1,none⟩=some (.int .i64 cc.k):=y1;have hbw2:b<(wr.drewN nq).heap.size:=hbw;have hBw2:w.heap.size<(wr.drewN nq).heap.size:=hBw;have hgw2:g'<(wr.drewN nq).heap.size:=hgw;have hU2:Hid (Upd [] wr (wr.drewN nq)):=(Upd.refl [] wr).drewN nq
    by_cases hac:ahead cc a=true
    ·have HA:=Lib.hid hac
     clear hac;go_wp2_with fail
     go_region_held3 (fun w'=>w'.cell? ⟨b,0,none⟩=some (.slice (some ⟨g',0,none⟩) Lm.length cap')/\w'.cell? ⟨w.heap.size,0,none⟩=some (.int .i64 a.x)/\w'.cell? ⟨w.heap.size,1,none⟩=some (.int .i64 a.k)/\w'.cell? ⟨g',c*2,none⟩=some (.int .i64 cc.x)/\w'.cell? ⟨g',c*2+1,none⟩=some (.int .i64 cc.k)) (first | exact ⟨r0,r1,r2,r3,r4⟩ | exact heldU HW7.out.of_drew hbw2 hBw2 hgw2 ⟨r0,r1,r2,r3,r4⟩) (first | (go_at_call 234;refine (ahead_spec cc a _).mono ?_;rintro e w7 ⟨rfl,hw7⟩;rw [HA.out];have HW7:=Lib.hid hw7;clear hw7))
     obtain ⟨q0,q1,q2,q3,q4⟩:=heldU HW7.out.of_drew hbw2 hBw2 hgw2 ⟨r0,r1,r2,r3,r4⟩;clear r0 r1 r2 r3 r4;go_wp2_with fail;have HUS:=Lib.hid (hU2.out.trans HW7.out.of_drew);refine (put_at b i _ (by omega) cc Lm D F _ (HR.out.mem.upd HUS.out (by simp)) (by omega) HWC.out HR.out.size).mono ?_;rintro e w8 ⟨rfl,hm8,hu8⟩;have HE:=Lib.hid (HR.out.step HK.out HCI.out HC.out HA.out HL.out hm8 ((HUS.out.mono (by simp)).trans hu8) HFl.out);clear hm8 hu8;go_wp2_with fail
     go_roundg (Lm.length-c)
     case measure=>omega
     case rel=>exact ⟨c,Lm.set i cc,_,_,by simp,by first | rfl | simp,HE.out⟩
    ·have hac':ahead cc a=false:=by simpa using hac
     have HA:=Lib.hid hac';clear hac hac';go_wp2_with fail
     go_region_held3 (fun w'=>w'.cell? ⟨b,0,none⟩=some (.slice (some ⟨g',0,none⟩) Lm.length cap')/\w'.cell? ⟨w.heap.size,0,none⟩=some (.int .i64 a.x)/\w'.cell? ⟨w.heap.size,1,none⟩=some (.int .i64 a.k)/\w'.cell? ⟨g',c*2,none⟩=some (.int .i64 cc.x)/\w'.cell? ⟨g',c*2+1,none⟩=some (.int .i64 cc.k)) (first | exact ⟨r0,r1,r2,r3,r4⟩ | exact heldU HW7.out.of_drew hbw2 hBw2 hgw2 ⟨r0,r1,r2,r3,r4⟩) (first | (go_at_call 234;refine (ahead_spec cc a _).mono ?_;rintro e w7 ⟨rfl,hw7⟩;rw [HA.out];have HW7:=Lib.hid hw7;clear hw7))
     obtain ⟨q0,q1,q2,q3,q4⟩:=heldU HW7.out.of_drew hbw2 hBw2 hgw2 ⟨r0,r1,r2,r3,r4⟩;clear r0 r1 r2 r3 r4;go_wp2_with fail;have HUS:=Lib.hid (hU2.out.trans HW7.out.of_drew);refine (put_at b i _ (by omega) a Lm D F _ (HR.out.mem.upd HUS.out (by simp)) (by omega) HWA.out HR.out.size).mono ?_;rintro e w8 ⟨rfl,hm8,hu8⟩;have HE:=Lib.hid (HR.out.done HK.out (HR.out.below HCI.out HC.out HA.out HL.out) hm8 ((HUS.out.mono (by simp)).trans hu8));clear hm8 hu8;go_wp2_with fail;go_end0;exact ⟨rfl,HE.out⟩
   ·-- two children
    obtain ⟨c0,hcc,hc0n⟩ : ∃ c:Nat,2*(i:Int)+1=c/\c=2*i+1:=⟨2*i+1,by omega,rfl⟩;obtain ⟨c1,hcs,hc1n⟩ : ∃ c:Nat,(c0:Int)+1=c/\c=2*i+2:=⟨2*i+2,by omega,rfl⟩
    have hd1:(c1:Int)<(Lm.length:Int):=by omega
    have hd2:(c0:Int)<(Lm.length:Int):=by omega
    have hd3:IntKind.i64.wrap (c1:Int)=(c1:Int):=IntWalk.i64_in _ (by omega)
    have hd4:(0:Int)<=(c0:Int):=by omega
    have hd5:(0:Int)<=(c1:Int):=by omega
    have hd6:decide ((Lm.length:Int)<=(c0:Int))=false:=by simp;omega
    have hd7:decide ((Lm.length:Int)<=(c1:Int))=false:=by simp;omega
    have hd8:decide (Lm.length<=c0)=false:=by simp;omega
    have hd9:decide (Lm.length<=c1)=false:=by simp;omega
    obtain ⟨ca,hca⟩ : ∃ x,Lm[c0]?=some x:=⟨_,List.getElem?_eq_getElem (by omega)⟩;obtain ⟨cb,hcb⟩ : ∃ x,Lm[c1]?=some x:=⟨_,List.getElem?_eq_getElem (by omega)⟩;obtain ⟨y0,y1⟩:=HCs.out c0 ca hca;obtain ⟨z0,z1⟩:=HCs.out c1 cb hcb;have HCA:=Lib.hid hca;have HCB:=Lib.hid hcb;have HN:=Lib.hid (And.intro hc0n hc1n)
    have hc0l:c0<Lm.length:=by omega
    have hc1l:c1<Lm.length:=by omega
    clear hca hcb hc0n hc1n
    by_cases hab:ahead cb ca=true
    ·have HAB:=Lib.hid hab
     clear hab;obtain ⟨c,hc⟩ : ∃ c,c=c1:=⟨_,rfl⟩;obtain ⟨cc,hccb⟩ : ∃ cc,cc=cb:=⟨_,rfl⟩;have HCI:Hid (0<c/\(c-1)/2=i):=⟨by have:=HN.out;omega,by have:=HN.out;omega⟩
     have HL:Hid (∀ j,0<j->(j-1)/2=i->LeAt K c j):=by
      rw [hc,HN.out.2];exact HR.out.right (by rw [<- HN.out.1];exact HCA.out) (by rw [<- HN.out.2];exact HCB.out) HAB.out
     have HC:Hid (Lm[c]?=some cc):=by rw [hc,hccb];exact HCB.out
     have HWC:=Lib.hid (HK.out.wf cc (HR.out.sub (by have:=HN.out;omega) HC.out));subst hc;subst hccb;go_wp2_with fail
     go_region_held3 (fun w'=>w'.cell? ⟨b,0,none⟩=some (.slice (some ⟨g',0,none⟩) Lm.length cap')/\w'.cell? ⟨g',c0*2,none⟩=some (.int .i64 ca.x)/\w'.cell? ⟨g',c0*2+1,none⟩=some (.int .i64 ca.k)/\w'.cell? ⟨g',c*2,none⟩=some (.int .i64 cc.x)/\w'.cell? ⟨g',c*2+1,none⟩=some (.int .i64 cc.k)) (first | exact ⟨hc0,y0,y1,z0,z1⟩ | exact heldV HW6.out.of_drew hc0 y0 y1 z0 z1) (first | (go_at_call 234;refine (ahead_spec cc ca _).mono ?_;rintro e w6 ⟨rfl,hw6⟩;rw [HAB.out];have HW6:=Lib.hid hw6;clear hw6))
     obtain ⟨r0,r3,r4,_,_⟩:=heldV HW6.out.of_drew hc0 z0 z1 y0 y1;obtain ⟨_,r1,r2,_,_⟩:=heldV HW6.out.of_drew hc0 x0 x1 y0 y1;have hbw2:=World.block_lt_of_cell? w6 _ r0;have hBw2:=World.block_lt_of_cell? w6 _ r1;have hgw2:=World.block_lt_of_cell? w6 _ r3;have hU2:=Lib.hid (HW6.out.of_drew);clear hc0 x0 x1 y0 y1 z0 z1
     by_cases hac:ahead cc a=true
     ·have HA:=Lib.hid hac
      clear hac;go_wp2_with fail
      go_region_held3 (fun w'=>w'.cell? ⟨b,0,none⟩=some (.slice (some ⟨g',0,none⟩) Lm.length cap')/\w'.cell? ⟨w.heap.size,0,none⟩=some (.int .i64 a.x)/\w'.cell? ⟨w.heap.size,1,none⟩=some (.int .i64 a.k)/\w'.cell? ⟨g',c*2,none⟩=some (.int .i64 cc.x)/\w'.cell? ⟨g',c*2+1,none⟩=some (.int .i64 cc.k)) (first | exact ⟨r0,r1,r2,r3,r4⟩ | exact heldU HW7.out.of_drew hbw2 hBw2 hgw2 ⟨r0,r1,r2,r3,r4⟩) (first | (go_at_call 234;refine (ahead_spec cc a _).mono ?_;rintro e w7 ⟨rfl,hw7⟩;rw [HA.out];have HW7:=Lib.hid hw7;clear hw7))
      obtain ⟨q0,q1,q2,q3,q4⟩:=heldU HW7.out.of_drew hbw2 hBw2 hgw2 ⟨r0,r1,r2,r3,r4⟩;clear r0 r1 r2 r3 r4;go_wp2_with fail;have HUS:=Lib.hid (hU2.out.trans HW7.out.of_drew);refine (put_at b i _ (by omega) cc Lm D F _ (HR.out.mem.upd HUS.out (by simp)) (by omega) HWC.out HR.out.size).mono ?_;rintro e w8 ⟨rfl,hm8,hu8⟩;have HE:=Lib.hid (HR.out.step HK.out HCI.out HC.out HA.out HL.out hm8 ((HUS.out.mono (by simp)).trans hu8) HFl.out);clear hm8 hu8;go_wp2_with fail
      go_roundg (Lm.length-c)
      case measure=>omega
      case rel=>exact ⟨c,Lm.set i cc,_,_,by simp,by first | rfl | simp,HE.out⟩
     ·have hac':ahead cc a=false:=by simpa using hac
      have HA:=Lib.hid hac';clear hac hac';go_wp2_with fail
      go_region_held3 (fun w'=>w'.cell? ⟨b,0,none⟩=some (.slice (some ⟨g',0,none⟩) Lm.length cap')/\w'.cell? ⟨w.heap.size,0,none⟩=some (.int .i64 a.x)/\w'.cell? ⟨w.heap.size,1,none⟩=some (.int .i64 a.k)/\w'.cell? ⟨g',c*2,none⟩=some (.int .i64 cc.x)/\w'.cell? ⟨g',c*2+1,none⟩=some (.int .i64 cc.k)) (first | exact ⟨r0,r1,r2,r3,r4⟩ | exact heldU HW7.out.of_drew hbw2 hBw2 hgw2 ⟨r0,r1,r2,r3,r4⟩) (first | (go_at_call 234;refine (ahead_spec cc a _).mono ?_;rintro e w7 ⟨rfl,hw7⟩;rw [HA.out];have HW7:=Lib.hid hw7;clear hw7))
      obtain ⟨q0,q1,q2,q3,q4⟩:=heldU HW7.out.of_drew hbw2 hBw2 hgw2 ⟨r0,r1,r2,r3,r4⟩;clear r0 r1 r2 r3 r4;go_wp2_with fail;have HUS:=Lib.hid (hU2.out.trans HW7.out.of_drew);refine (put_at b i _ (by omega) a Lm D F _ (HR.out.mem.upd HUS.out (by simp)) (by omega) HWA.out HR.out.size).mono ?_;rintro e w8 ⟨rfl,hm8,hu8⟩;have HE:=Lib.hid (HR.out.done HK.out (HR.out.below HCI.out HC.out HA.out HL.out) hm8 ((HUS.out.mono (by simp)).trans hu8));clear hm8 hu8;go_wp2_with fail;go_end0;exact ⟨rfl,HE.out⟩
    ·have hab':ahead cb ca=false:=by simpa using hab
     have HAB:=Lib.hid hab';clear hab hab';obtain ⟨c,hc⟩ : ∃ c,c=c0:=⟨_,rfl⟩;obtain ⟨cc,hccb⟩ : ∃ cc,cc=ca:=⟨_,rfl⟩;have HCI:Hid (0<c/\(c-1)/2=i):=⟨by have:=HN.out;omega,by have:=HN.out;omega⟩
     have HL:Hid (∀ j,0<j->(j-1)/2=i->LeAt K c j):=by
      rw [hc,HN.out.1];exact HR.out.left (by rw [<- HN.out.1];exact HCA.out) (by rw [<- HN.out.2];exact HCB.out) HAB.out
     have HC:Hid (Lm[c]?=some cc):=by rw [hc,hccb];exact HCA.out
     have HWC:=Lib.hid (HK.out.wf cc (HR.out.sub (by have:=HN.out;omega) HC.out));subst hc;subst hccb;go_wp2_with fail
     go_region_held3 (fun w'=>w'.cell? ⟨b,0,none⟩=some (.slice (some ⟨g',0,none⟩) Lm.length cap')/\w'.cell? ⟨g',c*2,none⟩=some (.int .i64 cc.x)/\w'.cell? ⟨g',c*2+1,none⟩=some (.int .i64 cc.k)/\w'.cell? ⟨g',c1*2,none⟩=some (.int .i64 cb.x)/\w'.cell? ⟨g',c1*2+1,none⟩=some (.int .i64 cb.k)) (first | exact ⟨hc0,y0,y1,z0,z1⟩ | exact heldV HW6.out.of_drew hc0 y0 y1 z0 z1) (first | (go_at_call 234;refine (ahead_spec cb cc _).mono ?_;rintro e w6 ⟨rfl,hw6⟩;rw [HAB.out];have HW6:=Lib.hid hw6;clear hw6))
     obtain ⟨r0,r3,r4,_,_⟩:=heldV HW6.out.of_drew hc0 y0 y1 z0 z1;obtain ⟨_,r1,r2,_,_⟩:=heldV HW6.out.of_drew hc0 x0 x1 y0 y1;have hbw2:=World.block_lt_of_cell? w6 _ r0;have hBw2:=World.block_lt_of_cell? w6 _ r1;have hgw2:=World.block_lt_of_cell? w6 _ r3;have hU2:=Lib.hid (HW6.out.of_drew);clear hc0 x0 x1 y0 y1 z0 z1
     by_cases hac:ahead cc a=true
     ·have HA:=Lib.hid hac
      clear hac;go_wp2_with fail
      go_region_held3 (fun w'=>w'.cell? ⟨b,0,none⟩=some (.slice (some ⟨g',0,none⟩) Lm.length cap')/\w'.cell? ⟨w.heap.size,0,none⟩=some (.int .i64 a.x)/\w'.cell? ⟨w.heap.size,1,none⟩=some (.int .i64 a.k)/\w'.cell? ⟨g',c*2,none⟩=some (.int .i64 cc.x)/\w'.cell? ⟨g',c*2+1,none⟩=some (.int .i64 cc.k)) (first | exact ⟨r0,r1,r2,r3,r4⟩ | exact heldU HW7.out.of_drew hbw2 hBw2 hgw2 ⟨r0,r1,r2,r3,r4⟩) (first | (go_at_call 234;refine (ahead_spec cc a _).mono ?_;rintro e w7 ⟨rfl,hw7⟩;rw [HA.out];have HW7:=Lib.hid hw7;clear hw7))
      obtain ⟨q0,q1,q2,q3,q4⟩:=heldU HW7.out.of_drew hbw2 hBw2 hgw2 ⟨r0,r1,r2,r3,r4⟩;clear r0 r1 r2 r3 r4;go_wp2_with fail;have HUS:=Lib.hid (hU2.out.trans HW7.out.of_drew);refine (put_at b i _ (by omega) cc Lm D F _ (HR.out.mem.upd HUS.out (by simp)) (by omega) HWC.out HR.out.size).mono ?_;rintro e w8 ⟨rfl,hm8,hu8⟩;have HE:=Lib.hid (HR.out.step HK.out HCI.out HC.out HA.out HL.out hm8 ((HUS.out.mono (by simp)).trans hu8) HFl.out);clear hm8 hu8;go_wp2_with fail
      go_roundg (Lm.length-c)
      case measure=>omega
      case rel=>exact ⟨c,Lm.set i cc,_,_,by simp,by first | rfl | simp,HE.out⟩
     ·have hac':ahead cc a=false:=by simpa using hac
      have HA:=Lib.hid hac';clear hac hac';go_wp2_with fail
      go_region_held3 (fun w'=>w'.cell? ⟨b,0,none⟩=some (.slice (some ⟨g',0,none⟩) Lm.length cap')/\w'.cell? ⟨w.heap.size,0,none⟩=some (.int .i64 a.x)/\w'.cell? ⟨w.heap.size,1,none⟩=some (.int .i64 a.k)/\w'.cell? ⟨g',c*2,none⟩=some (.int .i64 cc.x)/\w'.cell? ⟨g',c*2+1,none⟩=some (.int .i64 cc.k)) (first | exact ⟨r0,r1,r2,r3,r4⟩ | exact heldU HW7.out.of_drew hbw2 hBw2 hgw2 ⟨r0,r1,r2,r3,r4⟩) (first | (go_at_call 234;refine (ahead_spec cc a _).mono ?_;rintro e w7 ⟨rfl,hw7⟩;rw [HA.out];have HW7:=Lib.hid hw7;clear hw7))
      obtain ⟨q0,q1,q2,q3,q4⟩:=heldU HW7.out.of_drew hbw2 hBw2 hgw2 ⟨r0,r1,r2,r3,r4⟩;clear r0 r1 r2 r3 r4;go_wp2_with fail;have HUS:=Lib.hid (hU2.out.trans HW7.out.of_drew);refine (put_at b i _ (by omega) a Lm D F _ (HR.out.mem.upd HUS.out (by simp)) (by omega) HWA.out HR.out.size).mono ?_;rintro e w8 ⟨rfl,hm8,hu8⟩;have HE:=Lib.hid (HR.out.done HK.out (HR.out.below HCI.out HC.out HA.out HL.out) hm8 ((HUS.out.mono (by simp)).trans hu8));clear hm8 hu8;go_wp2_with fail;go_end0;exact ⟨rfl,HE.out⟩
end Go.Proofs.YtpfafhmkbcahhaaGreat
namespace Go.Proofs.YtpfafhmkbcahhaaGreat
open Go.RowKit Go.Maps Go.WideShapes
structure HpAt (w:World) (b:Nat) (K:List It) (F:List Nat):Prop where
 ex:∃ D,HpMem w b K D F/\MapIs D K
 ok:KOk K
 hp:Heap K
theorem HpAt.lt {w:World} {b:Nat} {K:List It} {F:List Nat} (h:HpAt w b K F):∀ k,k∈F->k<w.heap.size:=by obtain ⟨D,h1,_⟩:=h.ex;exact h1.lt
theorem HpAt.upd {w w':World} {b:Nat} {K:List It} {F S:List Nat} (h:HpAt w b K F) (u:Upd S w w') (hd:∀ k,k∈F->k∉S):HpAt w' b K F:=by
 obtain ⟨D,h1,h2⟩:=h.ex;exact ⟨⟨D,h1.upd u hd,h2⟩,h.ok,h.hp⟩
theorem newHeap_spec (w:World):Calls Tryz.prog 129 #[] w fun e w'=>e=.returned (.pointer (some ⟨w.heap.size,0,none⟩))/\w'=w.alloc (.cells #[.slice none 0 0,.map none] 265 (0,0)):=by
 go_enter Tryz.func129,Tryz.ntmps129
 go_wp2
 go_ret;exact ⟨rfl,rfl⟩
theorem len_spec (b:Nat) (K:List It) (F:List Nat) (w:World) (h:HpAt w b K F) :
  Calls Tryz.prog 131 #[.pointer (some ⟨b,0,none⟩)] w fun e w'=>e=.returned (.int .i64 K.length)/\w=w':=by
 obtain ⟨D,hm,_⟩:=h.ex;obtain ⟨lv,mb,h1,h2,_⟩:=hm.cells;obtain ⟨a,c,rfl,_⟩:=row_nil_len h2;have hc0:w.cell? ⟨b,0,none⟩=some (.slice a K.length c):=cell_at h1 rfl;clear h1 h2 hm h
 go_enter Tryz.func131,Tryz.ntmps131
 go_wp2
 go_ret;exact ⟨rfl,rfl⟩
theorem MapIs.no {D:DM} {K:List It} (h:MapIs D K) {x:Int} (hx:∀ a,a∈K->a.x≠x):Maps.has D (.int .i64 x)=false:=by
 cases e:Maps.has D (.int .i64 x) with
 | false=>rfl
 | true =>
  obtain ⟨a,ha,hk⟩:=h.dom _ e
  simp at hk
  exact absurd hk.symm (hx a ha)
theorem Tryz.infoItem:(Tryz.prog.info? 267).map (fun i=>(i.zero,i.size,i.bytes))=some (some (.agg #[.int .i64 0,.int .i64 0]),2,16):=by kernel_rfl
theorem KOk.snoc {K:List It} (h:KOk K) {a:It} (ha:∀ c,c∈K->c.x≠a.x) (hw:(Lit.int .i64 a.x).wf=true):KOk (K++[a]):=by
 constructor
 ·rw [List.map_append,List.nodup_append]
  refine ⟨h.nd,by simp,?_⟩
  intro x hx y hy
  simp at hy;subst hy
  obtain ⟨c,hc,rfl⟩:=List.mem_map.1 hx;exact ha c hc
 ·intro c hc
  simp at hc
  rcases hc with hc | rfl
  ·exact h.wf c hc
  ·exact hw
theorem MapIs.snoc {D:DM} {K:List It} (h:MapIs D K) (a:It):MapBut D (K++[a]) K.length:=by
 refine ⟨fun k hk=>?_,fun j c hj hne=>?_⟩
 ·obtain ⟨c,hc,e⟩:=h.dom k hk
  exact ⟨c,by simp [hc],e⟩
 ·have:=(List.getElem?_eq_some_iff.1 hj).1
  simp at this
  rw [List.getElem?_append_left (by omega)] at hj;exact h.at_ j c hj
theorem push_mem {w w2:World} {b mb g cap:Nat} {lv:Value} {K:List It} {a:It} {D:DM} {F:List Nat} {o:Obj}
  (h1:w.heap[b]?=some (.cells #[lv,.map (some mb)] 265 (0,0))) (h3:w.ownsMap Tryz.prog 3 (plainElem Tryz.prog 3) mb (Maps.size D) D)
  (hF:F=[b,mb]++lv.ownBlock.toList) (hbm:b≠mb) (hbl:some b≠lv.ownBlock) (hml:some mb≠lv.ownBlock) (hbd:K.length+1<=2147483647)
  (hg:(w.alloc o).grownBy w2 lv.ownBlock) (ho:w2.ownsRow 0 267 2 (.slice (some ⟨g,0,none⟩) (K.length+1) cap) (K.length+1) (flatIts K++[.int .i64 a.x,.int .i64 a.k]))
  (hat:lv.ownBlock=some g\/g=w.heap.size+1) :
  w2.cell? ⟨b,0,none⟩=some lv/\w2.frozen? ⟨b,0,none⟩=false /\
  Hid (∃ F',HpMem (w2.setCell ⟨b,0,none⟩ (.slice (some ⟨g,0,none⟩) (K.length+1) cap)) b (K++[a]) D F'/\Upd F w (w2.setCell ⟨b,0,none⟩ (.slice (some ⟨g,0,none⟩) (K.length+1) cap))/\Sub F w F'/\F'=[b,mb,g]):=by
 have hb:=heap_lt h1;have hm:=h3.lt
 have hk:∀ k,k<w.heap.size->some k≠lv.ownBlock->w2.heap[k]?=w.heap[k]?:=fun k hk hn=>by
  rw [hg.block k (by simp;omega) hn];exact heap_alloc_old w _ hk
 have hb2:=(hk b hb hbl).trans h1
 have hbg:b≠g:=by
  rcases hat with e | e
  ·rintro rfl;exact hbl e.symm
  ·omega
 have hmg:mb≠g:=by
  rcases hat with e | e
  ·rintro rfl;exact hml e.symm
  ·omega
 refine ⟨cell_at hb2 rfl,frozen_at 0 hb2,[b,mb,g],⟨⟨.slice (some ⟨g,0,none⟩) (K.length+1) cap,mb,?_,?_,?_,by simp [Value.ownBlock],hbm,by simpa [Value.ownBlock] using hbg,by simpa [Value.ownBlock] using hmg⟩,by simpa using hbd⟩,?_,?_,rfl⟩
 ·rw [heap_set_eq hb2];rfl
 ·rw [List.length_append,List.length_singleton,its_snoc]
  exact row_ne ho (by simpa [Value.ownBlock] using hbg) _
 ·refine own_keep h3 ?_
  rw [heap_set_ne (Ne.symm hbm)];exact hk mb hm hml
 ·refine Upd.setCell ?_ (by simp [hF]) _
  exact ((Upd.refl F w).alloc o).grown hg fun k hk'=>.inl (by simp [hF,hk'])
 ·intro k hk'
  simp at hk'
  rcases hk' with rfl | rfl | rfl
  ·simp [hF]
  ·simp [hF]
  ·rcases hat with e | e
   ·left;simp [hF,e]
   ·right;omega
theorem UpPost.heap {w w':World} {b:Nat} {a:It} {K0:List It} {i0:Nat} {F:List Nat} (h:UpPost w b a K0 i0 F w') (hk:KOk K0) (hb:Below1 K0 i0):∃ K,HpAt w' b K F/\K.Perm K0:=by
 obtain ⟨K,i,D,h1,h2,h3,h4,h5,h6,h7⟩:=h.ex;exact ⟨K,⟨⟨D,h1,h2⟩,hk.perm h3,h5.heap h6 (h7 hb)⟩,h3⟩
theorem push_new (b:Nat) (K:List It) (F:List Nat) (a:It) (w:World) (h:HpAt w b K F) (ha:∀ c,c∈K->c.x≠a.x) (hw:(Lit.int .i64 a.x).wf=true) (hbd:K.length+1<=2147483647) :
  Calls Tryz.prog 130 #[.pointer (some ⟨b,0,none⟩),.int .i64 a.x,.int .i64 a.k] w fun e w'=>e=.returned (.int .i64 0)/\∃ K' F',HpAt w' b K' F'/\K'.Perm (K++[a])/\Upd F w w'/\Sub F w F':=by
 obtain ⟨D,hm,hd⟩:=h.ex;obtain ⟨lv,mb,h1,h2,h3,hF,hbm,hbl,hml⟩:=hm.cells;have hok:=h.ok;have hhp:=h.hp;have hc1:w.cell? ⟨b,1,none⟩=some (.map (some mb)):=cell_at h1 rfl;have hc0:w.cell? ⟨b,0,none⟩=some lv:=cell_at h1 rfl;obtain ⟨la,lc,rfl,_⟩:=row_nil_len h2;obtain ⟨v,ps,hrun,hv⟩:=h3.look_ok intKeyed Tryz.underlying263 (zeroIntH w) (plainElem_int (H:=Unit) Tryz.underlying3 (wf64 (n:=0) (by omega) (by omega))) (keyOf_int_mk Tryz.underlying3 hw);rw [hd.no ha] at hrun;obtain ⟨c,rfl,_,_⟩:=plainElem_int_inv Tryz.underlying3 hv;obtain ⟨i,hi0,hz0,hz1',hz2⟩:=info_parts Tryz.infoItem;have HI:=Lib.hid (And.intro hi0 (And.intro hz0 (And.intro hz1' hz2)));have hb:=heap_lt h1;have H1:=Lib.hid h1;have H2:=Lib.hid h2;have H3:=Lib.hid h3;have HF:=Lib.hid hF;have HFl:=Lib.hid hm.lt;have HW:=Lib.hid hw;have HA:=Lib.hid ha;have HOK:=Lib.hid (hok.snoc ha hw);have HS:=Lib.hid (hhp.snoc a);have HD:=Lib.hid (hd.snoc a)
 have HC2':Hid (∀ u,u∈[Value.int .i64 a.x,.int .i64 a.k]->u.oneCell'=true):=by intro u hu;simp at hu;rcases hu with rfl | rfl <;> rfl
 have hnn:(binOp .eql 263 (.map (some mb)) (.map none)).run Tryz.prog w=.ok (.bool false) w:=run_eql_map_nil w _ _ _ (some mb) Tryz.underlying263;clear h1 h2 h3 hm h hd hv ha hw hF hok hhp hi0 hz0 hz1' hz2
 go_enter Tryz.func130,Tryz.ntmps130
 go_wp2_with (at_builtin;go_must (refine wpList_append_lies _ rfl (.tmp 34) (.tmp 38) 262 rfl 0 267 i _ 2 16 Tryz.underlying262 HI.out.1 HI.out.2.1 HI.out.2.2.1 HI.out.2.2.2 (by rfl) (by decide) _ K.length (flatIts K) rfl (H2.out.alloc _) ⟨w.heap.size,0,none⟩ 1 1 [.int .i64 a.x,.int .i64 a.k] rfl rfl ?c1 HC2'.out (by omega) (by unfold maxLen;omega) (by omega) (by omega) _ rfl ?_))
 case c1=>exact World.news_of_block (heap_alloc_new w _)
 intro g cap w2 hown hgr hat hlt2
 obtain ⟨k1,k2,k3⟩:=push_mem H1.out H3.out HF.out hbm hbl hml hbd hgr hown hat;clear hown hgr hat;go_wp2_with fail;obtain ⟨F',hm',hu',hs',_⟩:=k3.out;refine (up_spec b K.length a (K++[a]) D F' _ hm' (by simp) HOK.out HS.out.1 HD.out).mono ?_;rintro e w5 ⟨rfl,hp5⟩
 have HE:Hid (∃ K' F',HpAt w5 b K' F'/\K'.Perm (K++[a])/\Upd F w w5/\Sub F w F'):=by
  obtain ⟨K',g1,g2⟩:=hp5.heap HOK.out HS.out.2;exact ⟨K',F',g1,g2,hu'.then hp5.up hs',hs'⟩
 clear hp5 hm' hu' hs';go_wp2_with fail;go_ret;exact ⟨rfl,HE.out⟩
theorem push_first (b:Nat) (a:It) (w:World) (h1:w.heap[b]?=some (.cells #[.slice none 0 0,.map none] 265 (0,0))) (hw:(Lit.int .i64 a.x).wf=true) :
  Calls Tryz.prog 130 #[.pointer (some ⟨b,0,none⟩),.int .i64 a.x,.int .i64 a.k] w fun e w'=>e=.returned (.int .i64 0)/\∃ F',HpAt w' b [a] F'/\Upd [b] w w'/\Sub [b] w F':=by
 have hc1:w.cell? ⟨b,1,none⟩=some (.map none):=cell_at h1 rfl;have hc0:w.cell? ⟨b,0,none⟩=some (.slice none 0 0):=cell_at h1 rfl;have hz1:=frozen_at 1 h1;have hrun:=Maps.look_nil (w:=w) true intKeyed Tryz.underlying263 (zeroIntH w) (keyOf_int_mk Tryz.underlying3 hw)
 simp only [if_true] at hrun
 have hnn:(binOp .eql 263 (.map none) (.map none)).run Tryz.prog w=.ok (.bool true) w:=run_eql_map_nil w _ _ _ none Tryz.underlying263;have hmm:=@run_makeMap Tryz.prog;have hb:=heap_lt h1
 have e1:((w.setCell ⟨b,1,none⟩ (.map (some w.heap.size))).alloc (.map #[] 0)).heap[b]?=some (.cells #[.slice none 0 0,.map (some w.heap.size)] 265 (0,0)) :=
  (heap_alloc_old _ _ (by simpa [World.setCell] using hb)).trans (heap_set_eq h1 _)
 have e3:((w.setCell ⟨b,1,none⟩ (.map (some w.heap.size))).alloc (.map #[] 0)).ownsMap Tryz.prog 3 (plainElem (H:=Unit) Tryz.prog 3) w.heap.size (Maps.size (.map []:DM)) (.map []) :=
  by
   have:=World.ownsMap_made (w.setCell ⟨b,1,none⟩ (.map (some w.heap.size))) Tryz.prog 3 (plainElem (H:=Unit) Tryz.prog 3);rw [show (w.setCell ⟨b,1,none⟩ (.map (some w.heap.size))).heap.size=w.heap.size by simp [World.setCell]] at this;exact this
 have H1:=Lib.hid e1;have H3:=Lib.hid e3;have HOK:Hid (KOk [a]):=⟨by simp,by simpa using hw⟩
 have HS:Hid (HMid [a] 0/\Below1 [a] 0):=by
  have:Heap ([]:List It):=fun j hj x y hx=>by simp at hx
  exact this.snoc a
 have HD:Hid (MapBut (.map []:DM) [a] 0):=⟨fun k hk=>by simp [Maps.has] at hk,fun j c hj hne=>by
  have:=(List.getElem?_eq_some_iff.1 hj).1
  simp at this;omega⟩
 obtain ⟨i,hi0,hz0,hz1',hz2⟩:=info_parts Tryz.infoItem;have HI:=Lib.hid (And.intro hi0 (And.intro hz0 (And.intro hz1' hz2)))
 have HC2':Hid (∀ u,u∈[Value.int .i64 a.x,.int .i64 a.k]->u.oneCell'=true):=by intro u hu;simp at hu;rcases hu with rfl | rfl <;> rfl
 have hbm:b≠w.heap.size:=by omega
 clear h1 hw e1 e3 hi0 hz0 hz1' hz2
 go_enter Tryz.func130,Tryz.ntmps130
 go_wp2_with (at_builtin;go_must (refine wpList_append_lies _ rfl (.tmp 34) (.tmp 38) 262 rfl 0 267 i _ 2 16 Tryz.underlying262 HI.out.1 HI.out.2.1 HI.out.2.2.1 HI.out.2.2.2 (by rfl) (by decide) _ 0 [] rfl (World.ownsRow_nil _ _ _ _) ⟨w.heap.size+1,0,none⟩ 1 1 [.int .i64 a.x,.int .i64 a.k] rfl rfl ?c1 HC2'.out (by omega) (by unfold maxLen;omega) (by omega) (by omega) _ rfl ?_))
 case c1 =>
  have hs:((w.setCell ⟨b,1,none⟩ (.map (some w.heap.size))).alloc (.map #[] 0)).heap.size=w.heap.size+1:=by simp [World.setCell]
  have:=World.news_of_block (heap_alloc_new ((w.setCell ⟨b,1,none⟩ (.map (some w.heap.size))).alloc (.map #[] 0)) (.cells #[.int .i64 a.x,.int .i64 a.k] 267 (0,0)));rw [hs] at this;exact this
 intro g cap w2 hown hgr hat hlt2
 obtain ⟨k1,k2,k3⟩:=push_mem (K:=[]) (F:=[b,w.heap.size]) H1.out H3.out (by simp [Value.ownBlock]) hbm (by simp [Value.ownBlock]) (by simp [Value.ownBlock]) (by simp) hgr hown (by simpa [World.setCell] using hat);clear hown hgr hat;go_wp2_with fail;obtain ⟨F',hm',hu',hs',_⟩:=k3.out;refine (up_spec b 0 a [a] _ F' _ hm' (by simp) HOK.out HS.out.1 HD.out).mono ?_;rintro e w5 ⟨rfl,hp5⟩
 have HE:Hid (∃ F',HpAt w5 b [a] F'/\Upd [b] w w5/\Sub [b] w F'):=by
  obtain ⟨K',g1,g2⟩:=hp5.heap HOK.out HS.out.2;have:=List.perm_singleton.1 g2;subst this
  have hsub:Sub [b] w F':=by
   intro k hk
   rcases hs' k hk with h | h
   ·simp at h;rcases h with rfl | rfl
    ·simp
    ·right;omega
   ·right;simp [World.setCell] at h;omega
  refine ⟨F',g1,?_,hsub⟩;have u0:Upd [b] w ((w.setCell ⟨b,1,none⟩ (.map (some w.heap.size))).alloc (.map #[] 0)):=((Upd.refl [b] w).setCell (by simp) _).alloc _
  exact (u0.then hu' (by intro x hx;simp at hx;rcases hx with rfl | rfl;simp;right;omega)).then hp5.up hsub
 clear hp5 hm' hu' hs';go_wp2_with fail;go_ret;exact ⟨rfl,HE.out⟩
theorem step_delete {P:Program} {w:World} {ops:Array Oper} {o:Oper} {a:Act} {K:Act->World->Prop} {Q:Exit->Act->World->Prop} {E:Prop} (hgd:o.guard=none) (m x:Operand) (t k:TypeId)
  (hop:o.op=.call { callee:=.builtin .delete,args:=#[m,x],argTypes:=#[t,k] }) {mv xv v:Value} {w':World} (hm:a.eval m=mv) (hx:a.eval x=xv)
  (hrun:(Builtin.delete_ #[t,k] o.type #[mv,xv]).run P w=.ok v w') (h:K (a.put o.dst v) w') :
  if Region.wanted o (yielded ops a.tmps)=true then Oper.wp P o a w K Q else E:=by
 have hw:Region.wanted o (yielded ops a.tmps)=true:=by simp [Region.wanted,hgd]
 rw [if_pos hw];unfold Oper.wp
 simp [execOp,hop,resolve,invoke,builtin,hm,hx,hrun,Result.andThen]
 exact h
theorem pop_map {D:DM} {a c:It} {t:List It} (h:MapIs D (a::(t++[c]))) (hk:KOk (a::(t++[c]))) (_hD:IsMap D) :
  MapBut ((D.del (.int .i64 a.x)).put (.int .i64 c.x) (.lit (.int .i64 (0:Nat)))) (c::t) 0:=by
 have hn:=hk.nd
 simp only [List.map_cons,List.map_append,List.map_nil,List.nodup_cons,List.mem_append,List.mem_cons,List.not_mem_nil,or_false,not_or] at hn
 refine ⟨fun k hk'=>?_,fun j e hj hne=>?_⟩
 ·by_cases e1:k=.int .i64 c.x
  ·exact ⟨c,by simp,e1⟩
  ·rw [has_put_other e1] at hk'
   by_cases e2:k=.int .i64 a.x
   ·subst e2;rw [has_del_same] at hk';cases hk'
   ·rw [has_del_other e2] at hk'
    obtain ⟨e,he,hx⟩:=h.dom k hk'
    simp at he
    rcases he with rfl | he | rfl
    ·exact absurd hx e2
    ·exact ⟨e,by simp [he],hx⟩
    ·exact absurd hx e1
 ·obtain ⟨m,rfl⟩ : ∃ m,j=m+1:=⟨j-1,by omega⟩
  simp at hj
  have hml:=(List.getElem?_eq_some_iff.1 hj).1
  have hK:(a::(t++[c]))[m+1]?=some e:=by simp;rw [List.getElem?_append_left hml];exact hj
  have hm:e∈t:=List.mem_of_getElem? hj
  have hxa:Lit.int .i64 e.x≠Lit.int .i64 a.x:=by
   intro h';simp at h';exact hn.1.1 (by rw [<- h'];exact List.mem_map.2 ⟨e,hm,rfl⟩)
  have hxc:Lit.int .i64 e.x≠Lit.int .i64 c.x:=by
   intro h';simp at h'
   have:=hn.2;rw [List.nodup_append] at this;exact this.2.2 e.x (List.mem_map.2 ⟨e,hm,rfl⟩) c.x (by simp) h'
  obtain ⟨g1,g2⟩:=h.at_ _ _ hK;rw [has_put_other hxc,has_del_other hxa];exact ⟨g1,fun z=>by rw [atKey_put_other hxc,atKey_del_other hxa];exact g2 z⟩
theorem pop_mid {a c:It} {t:List It} (h:Heap (a::(t++[c]))):HMid (c::t) 0:=by
 refine ⟨fun j hj _ hp x y hx hy=>?_,fun j _ _ h0=>absurd h0 (by omega)⟩;have hml:=(List.getElem?_eq_some_iff.1 hy).1
 simp at hml
 have key:∀ i,0<i->i<=t.length->(a::(t++[c]))[i]?=(c::t)[i]?:=by
  intro i hi hit
  obtain ⟨m,rfl⟩ : ∃ m,i=m+1:=⟨i-1,by omega⟩;simp;rw [List.getElem?_append_left (by omega)]
 exact h j hj x y (by rw [key _ (by omega) (by omega)];exact hx) (by rw [key _ (by omega) (by omega)];exact hy)
theorem pop_ok {a c:It} {t:List It} (h:KOk (a::(t++[c]))):KOk (c::t):=by
 refine ⟨?_,fun e he=>h.wf e (by simp at he ⊢;rcases he with rfl | he <;> simp_all)⟩;have hn:=h.nd
 simp only [List.map_cons,List.map_append,List.map_nil,List.nodup_cons] at hn ⊢
 have:=List.perm_append_comm.nodup hn.2 (l':=[c.x]++t.map It.x)
 simpa using this
theorem pop_mem {w w2:World} {b mb g cap n:Nat} {K:List It} {D':DM} {F:List Nat} {o1 o2:Obj}
  (h1:w.heap[b]?=some (.cells #[.slice (some ⟨g,0,none⟩) K.length cap,.map (some mb)] 265 (0,0))) (h2:w.ownsRow 0 267 2 (.slice (some ⟨g,0,none⟩) K.length cap) K.length (flatIts K))
  (hF:F=[b,mb,g]) (hbm:b≠mb) (hbg:b≠g) (hmg:mb≠g) (hn:n<=K.length) (hbd:K.length<=2147483647) (hm:mb<w.heap.size) {k:Nat}
  (hown:w2.ownsMap Tryz.prog 3 (plainElem Tryz.prog 3) mb k D')
  (ht:((((w.setCell ⟨b,0,none⟩ (.slice (some ⟨g,0,none⟩) n cap)).alloc o1).alloc o2).drew).mapTurned w2 mb) :
  HpMem w2 b (K.take n) D' F/\Upd F w w2/\w2.heap[w.heap.size]?=some o1/\w2.heap[w.heap.size+1]?=some o2:=by
 have hb:=heap_lt h1;have hg:=(h2.lt g rfl).2
 have hs:(w.setCell ⟨b,0,none⟩ (.slice (some ⟨g,0,none⟩) n cap)).heap.size=w.heap.size:=by simp [World.setCell]
 have hk:∀ k,k<w.heap.size->k≠mb->w2.heap[k]?=(w.setCell ⟨b,0,none⟩ (.slice (some ⟨g,0,none⟩) n cap)).heap[k]?:=by
  intro k hk hkm
  rw [turned_at ht hkm]
  show (((w.setCell ⟨b,0,none⟩ (.slice (some ⟨g,0,none⟩) n cap)).alloc o1).alloc o2).heap[k]?=_
  rw [heap_alloc_old _ _ (by simp [World.setCell];omega),heap_alloc_old _ _ (by rw [hs];exact hk)]
 have hu:Upd F w w2:=by
  have u0:Upd F w ((((w.setCell ⟨b,0,none⟩ (.slice (some ⟨g,0,none⟩) n cap)).alloc o1).alloc o2).drew):=((((Upd.refl F w).setCell (by simp [hF]) _).alloc _).alloc _).drew
  exact u0.then (upd_turned ht) (by intro x hx;simp at hx;subst hx;left;simp [hF])
 refine ⟨⟨⟨.slice (some ⟨g,0,none⟩) n cap,mb,?_,?_,own_tight hown,by simpa [Value.ownBlock] using hF,hbm,by simpa [Value.ownBlock] using hbg,by simpa [Value.ownBlock] using hmg⟩,by simp;omega⟩,hu,?_,?_⟩
 ·rw [hk b hb hbm,heap_set_eq h1];rfl
 ·have hl:(K.take n).length=n:=by simp;omega
  have hf:flatIts (K.take n)=(flatIts K).take (n*2):=by
   have:∀ (K:List It) (n:Nat),flatIts (K.take n)=(flatIts K).take (n*2):=by
    intro K
    induction K with
    | nil=>intro n;simp [flatIts]
    | cons x t ih =>
     intro n
     cases n with
     | zero=>simp [flatIts]
     | succ n =>
      have:=ih n
      simp only [flatIts,List.take_succ_cons,List.flatMap_cons] at this ⊢
      rw [this,show (n+1)*2=n*2+2 by omega];simp
   exact this K n
  rw [hl,hf];refine row_keep (row_take h2 hn) ?_
  rintro k hk';cases hk'
  rw [hk g hg (fun e=>hmg e.symm),heap_set_ne (fun e=>hbg e.symm)]
 ·rw [turned_at ht (by omega)]
  show (((w.setCell ⟨b,0,none⟩ (.slice (some ⟨g,0,none⟩) n cap)).alloc o1).alloc o2).heap[w.heap.size]?=_
  rw [heap_alloc_old _ _ (by simp [World.setCell]),<- hs];exact heap_alloc_new _ _
 ·rw [turned_at ht (by omega)]
  have:=heap_alloc_new ((w.setCell ⟨b,0,none⟩ (.slice (some ⟨g,0,none⟩) n cap)).alloc o1) o2;rw [World.size_alloc,hs] at this;exact this
theorem pop_one (b:Nat) (a:It) (F:List Nat) (w:World) (h:HpAt w b [a] F) :
  Calls Tryz.prog 132 #[.pointer (some ⟨b,0,none⟩)] w fun e w'=>e=.returned (.tuple #[.int .i64 a.x,.int .i64 a.k,.int .i64 0])/\HpAt w' b [] F/\Upd F w w':=by
 obtain ⟨D,hm,hd⟩:=h.ex;obtain ⟨lv,mb,h1,h2,h3,hF,hbm,hbl,hml⟩:=hm.cells;obtain ⟨g,cap,rfl,_,hg⟩:=World.ownsRow.form h2 (by simp)
 simp [Value.ownBlock] at hF hbl hml
 have hcap:=(row_block h2).2.1
 simp at hcap
 have hb:=heap_lt h1;have hmw:=h3.lt;have hwf:=h.ok.wf a (by simp);have hc0:w.cell? ⟨b,0,none⟩=some (.slice (some ⟨g,0,none⟩) 1 cap):=cell_at h1 rfl;have hc1:w.cell? ⟨b,1,none⟩=some (.map (some mb)):=cell_at h1 rfl;have hz0:=frozen_at 0 h1;have g0:w.cell? ⟨g,0,none⟩=some (.int .i64 a.x):=row_cell h2 (by simp [flatIts]);have g1:w.cell? ⟨g,1,none⟩=some (.int .i64 a.k):=row_cell h2 (by simp [flatIts])
 have e3:((((w.setCell ⟨b,0,none⟩ (.slice (some ⟨g,0,none⟩) 0 cap)).alloc (.cells #[.int .i64 a.x,.int .i64 a.k] 267 (0,0))).alloc (.cells #[.int .i64 a.x,.int .i64 a.k] 267 (0,0))).drew).ownsMap Tryz.prog 3 (plainElem Tryz.prog 3) mb (Maps.size D) D:=by
  refine own_keep h3 ?_
  show (((w.setCell ⟨b,0,none⟩ (.slice (some ⟨g,0,none⟩) 0 cap)).alloc _).alloc _).heap[mb]?=_
  rw [heap_alloc_old _ _ (by simp [World.setCell];omega),heap_alloc_old _ _ (by simpa [World.setCell] using hmw),heap_set_ne (Ne.symm hbm)]
 obtain ⟨w9,hrun,hown,hturn⟩:=e3.drop intKeyed Tryz.underlying263 (keyOf_int_mk Tryz.underlying3 hwf) 0;obtain ⟨p1,p2,p3,p4⟩:=pop_mem (n:=0) h1 h2 hF hbm hbl hml (by simp) (by simp) hmw hown hturn;have HRUN:=Lib.hid hrun;have x0:w9.cell? ⟨w.heap.size,0,none⟩=some (.int .i64 a.x):=cell_at p3 rfl;have x1:w9.cell? ⟨w.heap.size,1,none⟩=some (.int .i64 a.k):=cell_at p3 rfl
 have HE:Hid (HpAt w9 b [] F/\Upd F w w9):=by
  refine ⟨⟨⟨_,p1,⟨fun k hk=>?_,fun j c hj=>by simp at hj⟩⟩,⟨by simp,by simp⟩,fun j hj x y hx=>by simp at hx⟩,p2⟩
  by_cases e2:k=.int .i64 a.x
  ·subst e2;rw [has_del_same] at hk;cases hk
  ·rw [has_del_other e2] at hk
   obtain ⟨e,he,hx⟩:=hd.dom k hk
   simp at he;subst he;exact absurd hx e2
 clear h1 h2 h3 hm h hd hF e3 hown hturn p1 p2 p3 p4 hrun hwf
 go_enter Tryz.func132,Tryz.ntmps132
 go_wp2_with fail
 go_region_law (refine step_delete rfl (.tmp 51) (.tmp 53) 263 3 rfl rfl rfl HRUN.out ?_)
 all_goals
  go_wp2_with fail
  go_quiet (fail)
  go_wp2_with fail
  go_ret3
  exact ⟨rfl,HE.out.1.upd ((Upd.refl [] w9).drewN _) (by simp),HE.out.2.drewN _⟩
theorem DnPost.heap {w w':World} {b:Nat} {K0:List It} {F:List Nat} (h:DnPost w b K0 F w') (hk:KOk K0):∃ K,HpAt w' b K F/\K.Perm K0:=by
 obtain ⟨K,D,h1,h2,h3,h4⟩:=h.ex;exact ⟨K,⟨⟨D,h1,h2⟩,hk.perm h3,h4⟩,h3⟩
theorem pop_many (b:Nat) (a c:It) (t:List It) (F:List Nat) (w:World) (h:HpAt w b (a::(t++[c])) F) :
  Calls Tryz.prog 132 #[.pointer (some ⟨b,0,none⟩)] w fun e w'=>e=.returned (.tuple #[.int .i64 a.x,.int .i64 a.k,.int .i64 0])/\∃ K',HpAt w' b K' F/\K'.Perm (c::t)/\Upd F w w':=by
 obtain ⟨D,hm,hd⟩:=h.ex;obtain ⟨lv,mb,h1,h2,h3,hF,hbm,hbl,hml⟩:=hm.cells;obtain ⟨g,cap,rfl,_,hg⟩:=World.ownsRow.form h2 (by simp)
 simp [Value.ownBlock] at hF hbl hml
 have hcap:=(row_block h2).2.1;have hbd:=hm.bd
 simp at hcap hbd
 have hb:=heap_lt h1;have hmw:=h3.lt;have hwf:=h.ok.wf a (by simp);have hwc:=h.ok.wf c (by simp);have hc0:w.cell? ⟨b,0,none⟩=some (.slice (some ⟨g,0,none⟩) (t.length+1+1) cap):=cell_at h1 (by simp);have hc1:w.cell? ⟨b,1,none⟩=some (.map (some mb)):=cell_at h1 rfl;have hz0:=frozen_at 0 h1;have g0:w.cell? ⟨g,0,none⟩=some (.int .i64 a.x):=row_cell h2 (by simp [flatIts]);have g1:w.cell? ⟨g,1,none⟩=some (.int .i64 a.k):=row_cell h2 (by simp [flatIts])
 have hlast:(a::(t++[c]))[t.length+1]?=some c:=by simp
 have l0:w.cell? ⟨g,(t.length+1)*2,none⟩=some (.int .i64 c.x):=row_cell h2 (by rw [(its_get _ _).1,hlast];rfl);have l1:w.cell? ⟨g,(t.length+1)*2+1,none⟩=some (.int .i64 c.k):=row_cell h2 (by rw [(its_get _ _).2,hlast];rfl)
 have e3:((((w.setCell ⟨b,0,none⟩ (.slice (some ⟨g,0,none⟩) (t.length+1) cap)).alloc (.cells #[.int .i64 a.x,.int .i64 a.k] 267 (0,0))).alloc (.cells #[.int .i64 c.x,.int .i64 c.k] 267 (0,0))).drew).ownsMap Tryz.prog 3 (plainElem Tryz.prog 3) mb (Maps.size D) D:=by
  refine own_keep h3 ?_
  show (((w.setCell ⟨b,0,none⟩ (.slice (some ⟨g,0,none⟩) (t.length+1) cap)).alloc _).alloc _).heap[mb]?=_
  rw [heap_alloc_old _ _ (by simp [World.setCell];omega),heap_alloc_old _ _ (by simpa [World.setCell] using hmw),heap_set_ne (Ne.symm hbm)]
 obtain ⟨w9,hrun,hown,hturn⟩:=e3.drop intKeyed Tryz.underlying263 (keyOf_int_mk Tryz.underlying3 hwf) 0;obtain ⟨p1,p2,p3,p4⟩:=pop_mem (n:=t.length+1) h1 h2 hF hbm hbl hml (by simp) (by simp;omega) hmw hown hturn;have HRUN:=Lib.hid hrun;have x0:w9.cell? ⟨w.heap.size,0,none⟩=some (.int .i64 a.x):=cell_at p3 rfl;have x1:w9.cell? ⟨w.heap.size,1,none⟩=some (.int .i64 a.k):=cell_at p3 rfl;have y0:w9.cell? ⟨w.heap.size+1,0,none⟩=some (.int .i64 c.x):=cell_at p4 rfl;have y1:w9.cell? ⟨w.heap.size+1,1,none⟩=some (.int .i64 c.k):=cell_at p4 rfl
 have ht:(a::(t++[c])).take (t.length+1)=a::t:=by simp
 rw [ht] at p1;have HP:=Lib.hid p1;have HU:=Lib.hid p2;have HB:=Lib.hid p3;have HM:=Lib.hid (pop_map hd h.ok hm.isMap);have HMid:=Lib.hid (pop_mid h.hp);have HOK:=Lib.hid (pop_ok h.ok);have HWC:=Lib.hid hwc
 have hsz:Hid (Maps.size (D.del (.int .i64 a.x))<maxLen):=by
  have h5:=size_del (h3.tidy intKeyed) (k:=.int .i64 a.x);have h6:=(hd.but 0).size (h3.canon intKeyed) (h3.tidy intKeyed) hm.bd
  show _<_
  omega
 have hFl:=Lib.hid hm.lt;clear h1 h2 h3 hm h hd hF e3 hown hturn p1 p2 p3 p4 hrun hwf hwc hlast ht
 go_enter Tryz.func132,Tryz.ntmps132
 go_wp2_with fail
 go_region_law (refine step_delete rfl (.tmp 51) (.tmp 53) 263 3 rfl rfl rfl HRUN.out ?_)
 all_goals
  go_wp2_with fail;refine (put_spec b 0 c (a::t) _ F w9 HP.out (by simp) HWC.out hsz.out).mono ?_;rintro e w5 ⟨rfl,hm5,hu5⟩;have x05:w5.cell? ⟨w.heap.size,0,none⟩=some (.int .i64 a.x):=(hu5.cell (World.block_lt_of_cell? w9 _ x0) (fun hf=>by have:=hFl.out _ hf;simp at this)).trans x0;have x15:w5.cell? ⟨w.heap.size,1,none⟩=some (.int .i64 a.k):=(hu5.cell (World.block_lt_of_cell? w9 _ x1) (fun hf=>by have:=hFl.out _ hf;simp at this)).trans x1;have hbl5:=World.block_lt_of_cell? w5 _ x05;have HM5:=Lib.hid hm5;have HU5:=Lib.hid hu5;clear hm5 hu5 x0 x1;go_wp2_with fail;refine (down_spec b 0 0 rfl c (c::t) _ F w5 HM5.out (by simp) HOK.out HMid.out (fun h=>absurd h (by omega)) HM.out).mono ?_;rintro e w6 ⟨rfl,hp6⟩;have x06:w6.cell? ⟨w.heap.size,0,none⟩=some (.int .i64 a.x):=(hp6.up.cell hbl5 (fun hf=>by have:=hFl.out _ hf;simp at this)).trans x05;have x16:w6.cell? ⟨w.heap.size,1,none⟩=some (.int .i64 a.k):=(hp6.up.cell hbl5 (fun hf=>by have:=hFl.out _ hf;simp at this)).trans x15
  have HE:Hid (∃ K',HpAt w6 b K' F/\K'.Perm (c::t)/\Upd F w w6):=by
   obtain ⟨K',g1,g2⟩:=hp6.heap HOK.out;exact ⟨K',g1,g2,(HU.out.trans HU5.out).trans hp6.up⟩
  clear hp6 x05 x15;go_wp2_with fail
  go_quiet (fail)
  go_wp2_with fail
  go_ret3
  obtain ⟨K',g1,g2,g3⟩:=HE.out;exact ⟨rfl,K',g1.upd ((Upd.refl [] w6).drewN _) (by simp),g2,g3.drewN _⟩
end Go.Proofs.YtpfafhmkbcahhaaGreat
namespace Go.Proofs.YtpfafhmkbcahhaaGreat
open Go.RowKit Go.Maps Go.ChangeMaps Go.WideShapes
theorem hp_pop (b:Nat) (K:List It) (F:List Nat) (w:World) (h:HpAt w b K F) (hK:0<K.length) :
  Calls Tryz.prog 132 #[.pointer (some ⟨b,0,none⟩)] w fun e w' =>
   ∃ a K',e=.returned (.tuple #[.int .i64 a.x,.int .i64 a.k,.int .i64 0])/\HpAt w' b K' F/\(a::K').Perm K/\(∀ c,c∈K'->le a c)/\Upd F w w':=by
 match K,hK,h with
 | a::r,_,h =>
  have hl:=h.hp.least (a:=a) rfl
  rcases List.eq_nil_or_concat r with rfl | ⟨t,c,e⟩
  ·refine (pop_one b a F w h).mono ?_
   rintro e w' ⟨rfl,h1,h2⟩;exact ⟨a,[],rfl,h1,List.Perm.refl _,by simp,h2⟩
  ·have e':r=t++[c]:=by rw [e];simp
   subst e';refine (pop_many b a c t F w h).mono ?_;rintro e w' ⟨rfl,K',h1,h2,h3⟩;refine ⟨a,K',rfl,h1,(h2.trans (List.perm_append_comm (l₁:=[c]) (l₂:=t))).cons a,?_,h3⟩
   intro d hd
   have hm:d∈a::(t++[c]):=by
    rcases List.mem_cons.1 (h2.subset hd) with rfl | h'
    ·exact List.mem_cons_of_mem _ (List.mem_append_right _ (by simp))
    ·exact List.mem_cons_of_mem _ (List.mem_append_left _ h')
   obtain ⟨j,hj⟩:=List.mem_iff_getElem?.1 hm;exact hl j d hj
def MV.it (M:MV) (v:Nat):It:=⟨v,-(M.wid v:Int)⟩
structure QIn (w:World) (hb:Nat) (M:MV) (i:Nat) (wr:World):Prop where
 ex:(i=0/\wr.heap[hb]?=some (.cells #[.slice none 0 0,.map none] 265 (0,0)))\/∃ (Kl:List It) (Fl:List Nat),HpAt wr hb Kl Fl/\Kl.Perm ((List.range i).map M.it)/\∀ k,k∈Fl->w.heap.size<=k
 up:Upd [] w wr
theorem QIn.keep {w wr w2:World} {hb i:Nat} {M:MV} (h:QIn w hb M i wr) (u:Upd [] wr w2):QIn w hb M i w2:=by
 refine ⟨?_,h.up.trans u⟩
 rcases h.ex with ⟨e,hc⟩ | ⟨Kl,Fl,h1,h2,h3⟩
 ·exact .inl ⟨e,(u.block hb (heap_lt hc) (by simp)).trans hc⟩
 ·exact .inr ⟨Kl,Fl,h1.upd u (by simp),h2,h3⟩
end Go.Proofs.YtpfafhmkbcahhaaGreat
