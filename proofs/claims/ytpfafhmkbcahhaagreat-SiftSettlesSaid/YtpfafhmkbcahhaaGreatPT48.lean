import Derived.Test.YtpfafhmkbcahhaaGreatPT47
import Derived.Test.YtpfafhmkbcahhaaGreatPT38
set_option maxRecDepth 100000
set_option maxHeartbeats 3200000
namespace Go.Proofs.YtpfafhmkbcahhaaGreat
open Go.RowKit Go.Maps Go.ChangeMaps Go.WideShapes
theorem MV.Good.all {M:MV} (h:M.Good):∀ u,u<M.n->u∈M.order:=fun u hu=>by
 refine Classical.byContradiction fun hn=>?_
 have hs:M.order ⊆ (List.range M.n).erase u:=fun x hx=>by
  have hne:x≠u:=fun e=>by subst e;exact hn hx
  exact (List.mem_erase_of_ne hne).2 (List.mem_range.2 (h.fit.on x hx))
 have h1:=List.Nodup.length_le_of_subset h.nd hs;rw [List.length_erase_of_mem (List.mem_range.2 hu),List.length_range,h.len] at h1;omega
structure DalP (m:Nat) (M:MV) (p0:MPtr) (Z:List Nat) (g:Int) (w:World) (e:Ending) (w':World):Prop where
 ex:∃ Q:List Nat,QSort M M.n Q/\e=.returned (.tuple #[.agg #[.int .i64 M.live,.int .i64 (M.allF g Q).M.live,.int .i64 (M.allF g Q).sw,.bool false],.int .i64 0])/\ModE m p0 Z (M.allF g Q).M w w'
structure DalS (w3:World) (rb m:Nat) (p0:MPtr) (Z:List Nat) (M':MV) (C:Array Value) (w:World):Prop where
 ex:∃ p,ModIn w m M' p (Z++p.all m)/\Upd (rb::p0.all m) w3 w/\Sub (p0.all m) w3 (p.all m)
 blk:w.heap[rb]?=some (.cells C 36 (0,0))
 hZ:∀ k,k∈Z->k<w3.heap.size
 xZ:rb∈Z
theorem DalS.call {w3 w w':World} {rb m:Nat} {p0:MPtr} {Z:List Nat} {M1 M2:MV} {C:Array Value} {p:MPtr} (h:DalS w3 rb m p0 Z M1 C w) (a1:ModIn w m M1 p (Z++p.all m)) (a2:Upd (rb::p0.all m) w3 w) (a3:Sub (p0.all m) w3 (p.all m)) (k:ModE m p (Z++p.all m) M2 w w'):DalS w3 rb m p0 Z M2 C w':=by
 obtain ⟨p',b1,b2,b3⟩:=k.ex;have hx:=a1.not_ty h.blk (by decide) (by decide) (by decide);refine ⟨⟨p',b1.apart (fun k hk=>.inl ?_) (fun k hk=>List.mem_append.2 (.inr hk)),a2.then b2 (fun k hk=>?_),fun k hk=>?_⟩,(b2.block rb (heap_lt h.blk) hx).trans h.blk,h.hZ,h.xZ⟩
 ·rcases List.mem_append.1 hk with h | h
  ·exact List.mem_append.2 (.inl (List.mem_append.2 (.inl h)))
  ·exact List.mem_append.2 (.inr h)
 ·rcases a3 k hk with h | h
  ·exact .inl (by simp [h])
  ·exact .inr h
 ·rcases b3 k hk with h | h
  ·exact a3 k h
  ·right;have:=a2.size;omega
theorem DalS.set {w3 w w':World} {rb m:Nat} {p0:MPtr} {Z:List Nat} {M':MV} {C:Array Value} (h:DalS w3 rb m p0 Z M' C w) (u0:Upd [] w w') (j:Nat) (v:Value):DalS w3 rb m p0 Z M' (C.setIfInBounds j v) (w'.setCell ⟨rb,j,none⟩ v):=by
 obtain ⟨p,a1,a2,a3⟩:=h.ex;have hx:=a1.not_ty h.blk (by decide) (by decide) (by decide);have hb:=(u0.block rb (heap_lt h.blk) (by simp)).trans h.blk;have u:Upd [rb] w (w'.setCell ⟨rb,j,none⟩ v):=(u0.mono (by simp)).setCell (p:=⟨rb,j,none⟩) (.inl (by simp)) _;exact ⟨⟨p,a1.keep u (fun k hk=>.inl (by simp at hk;subst hk;exact List.mem_append.2 (.inl h.xZ))) (fun k hk hm=>by simp at hm;subst hm;exact hx hk),a2.trans (u.mono (by simp)),a3⟩,heap_set_eq hb _,h.hZ,h.xZ⟩
theorem DalS.zlt {w3 w:World} {rb m:Nat} {p0 p:MPtr} {Z:List Nat} {M':MV} {C:Array Value} (h:DalS w3 rb m p0 Z M' C w) (a:ModIn w m M' p (Z++p.all m)) (a2:Upd (rb::p0.all m) w3 w):∀ k,k∈Z++p.all m->k<w.heap.size:=fun k hk=>by
 rcases List.mem_append.1 hk with hk | hk
 ·exact Nat.lt_of_lt_of_le (h.hZ k hk) a2.size
 ·exact a.lt k hk
theorem DalS.fin {w w1 wr z:World} {rb rc m:Nat} {C D:Array Value} {p0:MPtr} {Z:List Nat} {M':MV} (h:DalS w1 rb m p0 (Z++[rc,rb]) M' C wr) (hcb:wr.heap[rc]?=some (.cells D 36 (0,0))) (u1:Upd [] w w1) (hc:w.heap.size<=rc) (hb:w.heap.size<=rb) (u:Upd [rb,rc] wr z):ModE m p0 Z M' w z:=by
 obtain ⟨p',k1,k2,k3⟩:=h.ex;have n1:=k1.not_ty h.blk (by decide) (by decide) (by decide);have n2:=k1.not_ty hcb (by decide) (by decide) (by decide);have hk:=k1.keep u (fun k hk=>.inl (by simp at hk;rcases hk with rfl | rfl <;> simp)) (fun k hk hm=>by simp at hm;rcases hm with rfl | rfl;exact n1 hk;exact n2 hk);refine ⟨p',hk.apart (fun k hk=>.inl ?_) (fun k hk=>List.mem_append.2 (.inr hk)),?_,fun k hk=>?_⟩
 ·rcases List.mem_append.1 hk with h | h
  ·simp [h]
  ·simp [h]
 ·refine (Upd.then (S:=p0.all m) ((u1.mono (by simp)).then k2 (fun k hk=>?_)) u (fun k hk=>?_))
  ·rcases List.mem_cons.1 hk with h | h
   ·right;omega
   ·exact .inl h
  ·right
   simp at hk
   omega
 ·rcases k3 k hk with h | h
  ·exact .inl h
  ·right
   have:=u1.size;omega
theorem dall_spec (m g:Nat) (M:MV) (p0:MPtr) (Z:List Nat) (w:World) (h:ModIn w m M p0 Z) (hZ:∀ k,k∈Z->k<w.heap.size) (hG:M.Good) (hn1:1<=M.n) (ht:M.trail.length<=700000) (hg1:100<=g) (hg2:g<=1000) :
  Calls Tryz.prog 37 #[.pointer (some ⟨m,0,none⟩),.int .i64 g] w fun e w'=>DalP m M p0 Z g w e w':=by
 have hn6:=hG.fit.n6
 have hE0:M.oneE 0 g=0:=by unfold MV.oneE;rw [if_neg (by omega),if_pos (by omega)]
 have HCK:=Lib.hid (fun z (u:Upd [] w z)=>rcheck_spec m 0 g M p0 Z z (h.keep0 u));rw [hE0] at HCK;have HLI:=Lib.hid (fun z (u:Upd [] w z)=>mlive_spec m M p0 Z z (h.keep0 u) (fun k hk=>Nat.lt_of_lt_of_le (hZ k hk) u.size) hG.fit);have HG:=Lib.hid hG;have HM:=Lib.hid (And.intro h hZ)
 have HQU:Hid (∀ z,Upd [] w z->Calls Tryz.prog 34 #[.pointer (some ⟨m,0,none⟩)] z fun e w'=>QueQ M z.heap.size z e w'):=fun z u =>
  rqueue_spec m M p0 Z z (h.keep0 u) (fun k hk=>Nat.lt_of_lt_of_le (hZ k hk) u.size) hG.fit hG.all
 have HRI:Hid ((Tryz.prog.info? 36).map (·.size)=some 4):=by show _=_;kernel_rfl
 clear h hZ hE0 hG hn1
 go_enter Tryz.func37,Tryz.ntmps37
 go_wp2_with fail;refine (HCK.out _ ((Upd.refl _ _).alloc _)).mono ?_;rintro e w1 ⟨rfl,rfl⟩;go_wp2_with fail;refine (HLI.out _ ((Upd.refl _ _).alloc _)).mono ?_;rintro e w2 ⟨rfl,hu⟩;go_upto_region 5 with fail;have hb0:=(hu.block w.heap.size (by rw [World.size_alloc];omega) (by simp)).trans (heap_alloc_new w (.cells #[.int .i64 0,.int .i64 0,.int .i64 0,.bool false] 36 (0,0)));have hsz:w.heap.size<w2.heap.size:=heap_lt hb0;have hu2:Upd [] w w2:=((Upd.refl [] w).alloc _).trans hu;have hu3:=hu2.alloc (.cells #[.int .i64 M.live,.int .i64 0,.int .i64 0,.bool false] 36 (0,0));have hb3:=(heap_alloc_old w2 (.cells #[.int .i64 M.live,.int .i64 0,.int .i64 0,.bool false] 36 (0,0)) hsz).trans hb0;have hb4:=heap_alloc_new w2 (.cells #[.int .i64 M.live,.int .i64 0,.int .i64 0,.bool false] 36 (0,0));have hz4:=World.size_alloc w2 (.cells #[.int .i64 M.live,.int .i64 0,.int .i64 0,.bool false] 36 (0,0));generalize hW:w2.alloc (.cells #[.int .i64 M.live,.int .i64 0,.int .i64 0,.bool false] 36 (0,0))=W1 at *;obtain ⟨rb,hrb⟩ : ∃ rb,w2.heap.size=rb:=⟨_,rfl⟩;obtain ⟨rc,hrc⟩ : ∃ rc,w.heap.size=rc:=⟨_,rfl⟩;rw [hrb] at hb4 hsz hz4;rw [hrc] at hb3 hsz;rw [hrb,hrc];have HX:=Lib.hid (And.intro hrc (And.intro hsz (And.intro hb3 (And.intro hb4 (And.intro hz4 hu3)))));clear hW hb0 hsz hu2 hu3 hb3 hb4 hu hrb hrc hz4 HCK HLI;go_wp2_with fail;refine (HQU.out W1 HX.out.2.2.2.2.2).mono ?_;rintro e w3 hQ;obtain ⟨lv,Q,rfl,hS,hR,hu⟩:=hQ.ex;obtain ⟨qa,qc,rfl,_⟩:=row_nil_len hR;have hQn:=hS.len;have HR:=Lib.hid (And.intro hR (And.intro hS hu))
 have HS:Hid (DalS w3 rb m p0 (Z++[rc,rb]) (M.allF g (Q.take 0)).M (repV M.live 0 (M.allF g (Q.take 0)).sw) w3):=by
  obtain ⟨x1,x2,x3,x4,x5,x6⟩:=HX.out;refine ⟨⟨p0,?_,Upd.refl _ _,Sub.refl _ _⟩,(hu.block rb (heap_lt x4) (by simp)).trans x4,fun k hk=>?_,by simp⟩
  ·refine (HM.out.1.apart (Z':=(Z++[rc,rb])++p0.all m) (fun k hk=>?_) (fun k hk=>List.mem_append.2 (.inr hk))).keep0 (x6.trans hu)
   rcases List.mem_append.1 hk with h | h
   ·rcases List.mem_append.1 h with h | h
    ·exact .inl h
    ·simp at h;right;omega
   ·exact .inl (HM.out.1.sz k h)
  ·have:=hu.size
   rcases List.mem_append.1 hk with h | h
   ·have:=HM.out.2 k h;omega
   ·simp at h;omega
 clear hQ hS hR hu;go_wp2_with fail
 go_loopg [25] Q.length (fun gg s25 wr=>∃ i:Nat,Q.length-i=gg/\i<=Q.length/\s25=.int .i64 i/\DalS w3 rb m p0 (Z++[rc,rb]) (M.allF g (Q.take i)).M (repV M.live 0 (M.allF g (Q.take i)).sw) wr)
 case atStart=>exact ⟨0,by omega,by omega,rfl,HS.out⟩
 case round =>
  obtain ⟨i,rfl,hi,rfl,hA⟩:=hrel;obtain ⟨p',k1,k2,k3⟩:=hA.ex;have hbk:=hA.blk;obtain ⟨x1,x2,x3,x4,x5,x6⟩:=HX.out;have hok:=MV.allF_ok hn6 HG.out.len g (Q.take i);have hgood:=MV.allF_good HG.out g (Q.take i);rw [List.length_take,Nat.min_eq_left hi] at hok;have htr:=hok.tr;have hsw:=hok.sw
  by_cases hlt:i<Q.length
  ·obtain ⟨v,hv⟩ : ∃ v,Q[i]?=some v:=⟨_,List.getElem?_eq_getElem hlt⟩
   obtain ⟨qg,rfl⟩:=row_some HR.out.1 (by omega)
   have hil:(i:Int)<(Q.length:Int):=by omega
   have hrow:=row_keep HR.out.1 fun k hk=>k2.block k (HR.out.1.lt k hk).2 fun hm=>by
    have h1:=(HR.out.1.lt k hk).1;have h3:=heap_lt x4
    rcases List.mem_cons.1 hm with h | h
    ·omega
    ·have:=HM.out.2 _ (HM.out.1.sz k h);omega
   have cv:=row_cell hrow (j:=i) (u:=.int .i64 (v:Nat)) (by simp [flatN,hv]);have HST:=Lib.hid (MV.allF_take (M:=M) (g:=g) hv);have hok2:=hok.step hn6 g v;have hsw2:=hok2.sw;generalize M.allF g (Q.take i)=A at *;have HONE:=Lib.hid (doc_spec m v g A.M p' _ wr k1 (hA.zlt k1 k2) hgood hgood.all (by omega));have HA:=Lib.hid (And.intro hA (And.intro k1 (And.intro k2 k3)));obtain ⟨r1,r2,hRR⟩:=A.M.oneR_sw v g;obtain ⟨E,hE⟩ : ∃ E,A.M.oneE v g=E:=⟨_,rfl⟩;have HRE:=Lib.hid (And.intro hRR hE);have hsq:A.sw+A.M.oneS v g<=64*(i+1):=hsw2;obtain ⟨so,hso⟩ : ∃ so,A.M.oneS v g=so:=⟨_,rfl⟩
   have HSO:Hid (allStep g A v=⟨A.M.one v g,A.sw+so⟩):=by show _=_;rw [<- hso];rfl
   rw [hso] at HRE hsq;have hwr:IntKind.i64.wrap ((A.sw:Int)+(so:Int))=(A.sw:Int)+(so:Int):=IntWalk.i64_in _ (by omega);clear hA k1 k2 k3 hbk hrow hok hok2 hsw2 hv hRR hE hso x1 x2 x3 x4 x5 x6 hgood;go_wp2_with fail;refine HONE.out.mono ?_;rintro e w5 hP;obtain rfl:=hP.en;rw [HRE.out.1,HRE.out.2];have hAS:=DalS.call HA.out.1 HA.out.2.1 HA.out.2.2.1 HA.out.2.2.2 hP.md;have hu5:Upd [] w5 (w5.alloc (.cells #[.int .i64 r1,.int .i64 r2,.int .i64 so,.bool false] 36 (0,0))):=(Upd.refl [] w5).alloc _;have hb5:=heap_alloc_new w5 (.cells #[.int .i64 r1,.int .i64 r2,.int .i64 so,.bool false] 36 (0,0));have hbb:=(hu5.block rb (heap_lt hAS.blk) (by simp)).trans hAS.blk;have HAS:=Lib.hid (And.intro hAS hu5);go_upto_region 9 with fail;generalize hw6:w5.alloc (.cells #[.int .i64 r1,.int .i64 r2,.int .i64 so,.bool false] 36 (0,0))=w6 at *;have b2:=cell_at (j:=2) hbb rfl;have f2:=frozen_at 2 hbb;have o2:=cell_at (j:=2) hb5 rfl
   have HNX:Hid (DalS w3 rb m p0 (Z++[rc,rb]) (M.allF g (Q.take (i+1))).M (repV M.live 0 (M.allF g (Q.take (i+1))).sw) (w6.setCell ⟨rb,2,none⟩ (.int .i64 ((A.sw:Int)+(so:Int))))):=by
    rw [HST.out,HSO.out];have:=HAS.out.1.set HAS.out.2 2 (.int .i64 ((A.sw:Int)+(so:Int)))
    show DalS w3 rb m p0 (Z++[rc,rb]) (A.M.one v g) (repV M.live 0 (A.sw+so)) _
    unfold repV;rw [Int.natCast_add];exact this
   clear hP hAS hu5 hb5 hbb hw6;go_wp2_with fail
   go_roundg (Q.length-(i+1))
   case measure=>omega
   case rel=>exact ⟨i+1,rfl,by omega,by simp,HNX.out⟩
  ·obtain rfl:i=Q.length:=by omega
   have hil:¬ ((Q.length:Int)<(Q.length:Int)):=by omega
   rw [List.take_length] at k1 hA hbk htr hsw hgood;have HLV:=Lib.hid (mlive_spec m (M.allF g Q).M p' _ wr k1 (hA.zlt k1 k2) hgood.fit)
   have hpw:∀ k,k∈p0.all m->k<rc:=fun k hk=>by have:=HM.out.2 k (HM.out.1.sz k hk);omega
   have hrl:=heap_lt x4
   have hrl3:rb<w3.heap.size:=by have:=HR.out.2.2.size;omega
   have hc0:wr.heap[rc]?=some (.cells #[.int .i64 0,.int .i64 0,.int .i64 0,.bool false] 36 (0,0)):=by
    rw [k2.block rc (by omega) (fun hm=>by rcases List.mem_cons.1 hm with h | h;(· omega);(· have:=hpw _ h;omega)),HR.out.2.2.block rc (heap_lt x3) (by simp)];exact x3
   have HMV:Hid (∀ z,Upd [rb,rc] wr z->ModE m p0 Z (M.allF g Q).M w z):=fun z u=>hA.fin hc0 (x6.trans HR.out.2.2) (by omega) (by omega) u
   have f1:=frozen_at 1 hbk
   have hbc:rb≠rc:=by omega
   have HBC:Hid (rc≠rb):=by show rc≠rb;omega
   generalize hSW:(M.allF g Q).sw=SW at *;generalize hLV:(M.allF g Q).M.live=LV at *
   have HRC:Hid (∀ z:World,z.heap[rc]?=some (.cells #[.int .i64 0,.int .i64 0,.int .i64 0,.bool false] 36 (0,0))->((((z.setCell ⟨rc,0,none⟩ (.int .i64 M.live)).setCell ⟨rc,1,none⟩ (.int .i64 LV)).setCell ⟨rc,2,none⟩ (.int .i64 SW)).setCell ⟨rc,3,none⟩ (.bool false)).heap[rc]?=some (.cells #[.int .i64 M.live,.int .i64 LV,.int .i64 SW,.bool false] 36 (0,0))):=fun z hz=>by
    rw [heap_set_eq (heap_set_eq (heap_set_eq (heap_set_eq hz _) _) _) _];rfl
   have HEN:=Lib.hid (And.intro hSW (And.intro hLV (And.intro hc0 hbk)));clear hSW hLV hA k1 k2 k3 hbk hc0 x1 x2 x3 x4 x5 x6 hpw hok htr hsw hrl hrl3 hgood f1;go_wp2_with fail;refine HLV.out.mono ?_;rintro e w10 ⟨rfl,hu⟩;have hc1:=(hu.block rc (heap_lt HEN.out.2.2.1) (by simp)).trans HEN.out.2.2.1;have hbk:=(hu.block rb (heap_lt HEN.out.2.2.2) (by simp)).trans HEN.out.2.2.2;have HU10:=Lib.hid (And.intro hu hc1);have f1:=frozen_at 1 hbk;have b0:=cell_at (j:=0) hbk rfl;have b1:=cell_at (j:=1) hbk rfl;have b2:=cell_at (j:=2) hbk rfl;have b3:=cell_at (j:=3) hbk rfl;have d0:=cell_at (j:=0) hc1 rfl;have d1:=cell_at (j:=1) hc1 rfl;have d2:=cell_at (j:=2) hc1 rfl;have d3:=cell_at (j:=3) hc1 rfl;have g0:=frozen_at 0 hc1;have g1:=frozen_at 1 hc1;have g2:=frozen_at 2 hc1;have g3:=frozen_at 3 hc1;clear hu hc1 hbk;go_wp2_with fail;refine bodyPost_ret (ret_rep rfl _ _ rc #[.int .i64 M.live,.int .i64 LV,.int .i64 SW,.bool false] (.int .i64 0) _ rfl rfl ?_ Tryz.underlying36 rfl HRI.out) rfl ⟨Q,HR.out.2.1,by rw [HEN.out.1,HEN.out.2.1],HMV.out _ ?_⟩
   ·refine HRC.out _ ?_
    rw [heap_set_ne HBC.out];exact HU10.out.2
   ·exact ((((((HU10.out.1.mono (by simp))).setCell (.inl (by simp)) _).setCell (.inl (by simp)) _).setCell (.inl (by simp)) _).setCell (.inl (by simp)) _).setCell (.inl (by simp)) _
end Go.Proofs.YtpfafhmkbcahhaaGreat
