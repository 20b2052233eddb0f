import Derived.Test.YtpfafhmkbcahhaaGreatPT53
set_option maxRecDepth 100000
set_option maxHeartbeats 3200000
namespace Go.Proofs.YtpfafhmkbcahhaaGreat
open Go.RowKit Go.Maps Go.ChangeMaps Go.WideShapes
structure DstP (m:Nat) (M:MV) (p0:MPtr) (Z:List Nat) (g:Int) (w:World) (e:Ending) (w':World):Prop where
 ex:∃ (M':MV) (s' n':Nat),SetR g M 0 1 M' s' n'/\e=.returned (.tuple #[.agg #[.int .i64 M.live,.int .i64 M'.live,.int .i64 s',.bool false],.int .i64 n',.int .i64 0])/\ModE m p0 Z M' w w'
theorem DalS.keep {w3 w w':World} {rb m:Nat} {p0:MPtr} {Z:List Nat} {M':MV} {C:Array Value} (h:DalS w3 rb m p0 Z M' C w) (u:Upd [] w w'):DalS w3 rb m p0 Z M' C w':=by
 obtain ⟨p,a1,a2,a3⟩:=h.ex;exact ⟨⟨p,a1.keep0 u,a2.trans (u.mono (by simp)),a3⟩,(u.block rb (heap_lt h.blk) (by simp)).trans h.blk,h.hZ,h.xZ⟩
theorem dsettle_spec (m g:Nat) (M:MV) (p0:MPtr) (Z:List Nat) (w:World) (h:ModIn w m M p0 Z) (hZ:∀ k,k∈Z->k<w.heap.size) (hG:M.Good) (hn1:1<=M.n) (ht:M.trail.length<=400000) (hh:M.held.length<=8) (hg1:100<=g) (hg2:g<=1000) :
  Calls Tryz.prog 43 #[.pointer (some ⟨m,0,none⟩),.int .i64 g] w fun e w'=>DstP m M p0 Z g w e w':=by
 have hn6:=hG.fit.n6
 have hE0:M.oneE 0 g=0:=by unfold MV.oneE;rw [if_neg (by omega),if_pos (by omega)]
 have HCK:=Lib.hid (fun z (u:Upd [] w z)=>rcheck_spec m 0 g M p0 Z z (h.keep0 u));rw [hE0] at HCK;have HLI:=Lib.hid (fun z (u:Upd [] w z)=>mlive_spec m M p0 Z z (h.keep0 u) (fun k hk=>Nat.lt_of_lt_of_le (hZ k hk) u.size) hG.fit);have HG:=Lib.hid hG;have HM:=Lib.hid (And.intro h hZ);have hl8:=MV.live_le8 hh (by rw [hG.len];exact hn6);have HN1:=Lib.hid hn1
 have HRI:Hid ((Tryz.prog.info? 36).map (·.size)=some 4):=by show _=_;kernel_rfl
 clear h hZ hE0 hG hn1
 go_enter Tryz.func43,Tryz.ntmps43
 go_wp2_with fail;refine (HCK.out _ ((Upd.refl _ _).alloc _)).mono ?_;rintro e w1 ⟨rfl,rfl⟩;go_wp2_with fail;refine (HLI.out _ ((Upd.refl _ _).alloc _)).mono ?_;rintro e w2 ⟨rfl,hu⟩;go_upto_region 5 with fail;have hb0:=(hu.block w.heap.size (by rw [World.size_alloc];omega) (by simp)).trans (heap_alloc_new w (.cells #[.int .i64 0,.int .i64 0,.int .i64 0,.bool false] 36 (0,0)));have hsz:w.heap.size<w2.heap.size:=heap_lt hb0;have hu2:Upd [] w w2:=((Upd.refl [] w).alloc _).trans hu;have hu3:=hu2.alloc (.cells #[.int .i64 M.live,.int .i64 0,.int .i64 0,.bool false] 36 (0,0));have hb3:=(heap_alloc_old w2 (.cells #[.int .i64 M.live,.int .i64 0,.int .i64 0,.bool false] 36 (0,0)) hsz).trans hb0;have hb4:=heap_alloc_new w2 (.cells #[.int .i64 M.live,.int .i64 0,.int .i64 0,.bool false] 36 (0,0));have hz4:=World.size_alloc w2 (.cells #[.int .i64 M.live,.int .i64 0,.int .i64 0,.bool false] 36 (0,0));generalize hW:w2.alloc (.cells #[.int .i64 M.live,.int .i64 0,.int .i64 0,.bool false] 36 (0,0))=W1 at *;obtain ⟨rb,hrb⟩ : ∃ rb,w2.heap.size=rb:=⟨_,rfl⟩;obtain ⟨rc,hrc⟩ : ∃ rc,w.heap.size=rc:=⟨_,rfl⟩;rw [hrb] at hb4 hsz hz4;rw [hrc] at hb3 hsz;rw [hrb,hrc];have HX:=Lib.hid (And.intro hrc (And.intro hsz (And.intro hb3 (And.intro hb4 (And.intro hz4 hu3)))));clear hW hb0 hsz hu2 hu3 hb3 hb4 hu hrb hrc hz4 HCK HLI
 have HS:Hid (DalS W1 rb m p0 (Z++[rc,rb]) M (repV M.live 0 0) W1):=by
  obtain ⟨x1,x2,x3,x4,x5,x6⟩:=HX.out;refine ⟨⟨p0,?_,Upd.refl _ _,Sub.refl _ _⟩,x4,fun k hk=>?_,by simp⟩
  ·refine (HM.out.1.apart (Z':=(Z++[rc,rb])++p0.all m) (fun k hk=>?_) (fun k hk=>List.mem_append.2 (.inr hk))).keep0 x6
   rcases List.mem_append.1 hk with h | h
   ·rcases List.mem_append.1 h with h | h
    ·exact .inl h
    ·simp at h;right;omega
   ·exact .inl (HM.out.1.sz k h)
  ·rcases List.mem_append.1 hk with h | h
   ·have:=HM.out.2 k h;omega
   ·simp at h;omega
 go_wp2_with fail
 go_loopg [9] M.live (fun gg s9 wr=>∃ (M1:MV) (s n af:Nat),M1.live=gg/\s9=.int .i64 n/\SetI M g M1 s n/\M1.Good/\DalS W1 rb m p0 (Z++[rc,rb]) M1 (repV M.live af s) wr)
 case atStart=>exact ⟨M,0,1,0,rfl,rfl,SetI.start g HG.out.len,HG.out,HS.out⟩
 case round =>
  obtain ⟨M1,s,n,af,rfl,rfl,hI,hgd,hA⟩:=hrel;obtain ⟨p',k1,k2,k3⟩:=hA.ex;have hbk:=hA.blk;obtain ⟨x1,x2,x3,x4,x5,x6⟩:=HX.out;have htr:=hI.tr;have hsw:=hI.sw;have hnb:=hI.nb;have HONE:=Lib.hid (dall_spec m g M1 p' _ wr k1 (hA.zlt k1 k2) hgd (by rw [hI.nn];exact HN1.out) (by omega) hg1 hg2);have HA:=Lib.hid (And.intro hA (And.intro k1 (And.intro k2 (And.intro k3 hgd))));have HI:=Lib.hid hI;have hrl3:=heap_lt x4
  have hc0:wr.heap[rc]?=some (.cells #[.int .i64 0,.int .i64 0,.int .i64 0,.bool false] 36 (0,0)):=by
   rw [k2.block rc (by omega) (fun hm=>by rcases List.mem_cons.1 hm with h | h;(· omega);(· have:=HM.out.2 rc (HM.out.1.sz rc h);omega))];exact x3
  have hcF:rc∉p'.all m:=k1.not_ty hc0 (by decide) (by decide) (by decide);have HRC0:=Lib.hid (And.intro hc0 hcF)
  have hbc:rb≠rc:=by omega
  have HBC:Hid (rc≠rb):=by show rc≠rb;omega
  clear hA k1 k2 k3 hbk x1 x2 x3 x4 x5 x6 hI hc0 hcF hrl3 hgd;go_wp2_with fail;refine HONE.out.mono ?_;rintro e w5 hP;obtain ⟨Q,hQ,rfl,hmv⟩:=hP.ex;have hAS:=DalS.call HA.out.1 HA.out.2.1 HA.out.2.2.1 HA.out.2.2.2.1 hmv
  have hc5:w5.heap[rc]?=some (.cells #[.int .i64 0,.int .i64 0,.int .i64 0,.bool false] 36 (0,0)):=by
   obtain ⟨_,_,k4,_⟩:=hmv.ex;exact (k4.block rc (heap_lt HRC0.out.1) HRC0.out.2).trans HRC0.out.1
  have hgd2:=MV.allF_good HA.out.2.2.2.2 g Q;have hok:=MV.allF_ok (by rw [HI.out.nn];exact hn6) HI.out.ol g Q;have hql:=hQ.len;have hqn:=HI.out.nn;have hsw2:=hok.sw;have htr2:=hok.tr;obtain ⟨M2,hM2⟩ : ∃ M2,(M1.allF g Q).M=M2:=⟨_,rfl⟩;obtain ⟨so,hso⟩ : ∃ so,(M1.allF g Q).sw=so:=⟨_,rfl⟩;rw [hM2] at hAS htr2 hgd2;have HGD:=Lib.hid hgd2;clear hgd2;rw [hso] at hsw2;rw [hM2,hso];obtain ⟨l1,hl1⟩ : ∃ l1,M1.live=l1:=⟨_,rfl⟩;obtain ⟨l2,hl2⟩ : ∃ l2,M2.live=l2:=⟨_,rfl⟩;rw [hl1] at htr hsw hnb ⊢;rw [hl2];have hu5:Upd [] w5 (w5.alloc (.cells #[.int .i64 l1,.int .i64 l2,.int .i64 so,.bool false] 36 (0,0))):=(Upd.refl [] w5).alloc _;have hb5:=heap_alloc_new w5 (.cells #[.int .i64 l1,.int .i64 l2,.int .i64 so,.bool false] 36 (0,0));have hbb:=(hu5.block rb (heap_lt hAS.blk) (by simp)).trans hAS.blk;have hcc:=(hu5.block rc (heap_lt hc5) (by simp)).trans hc5
  have hne:w5.heap.size≠rb:=by have:=heap_lt hAS.blk;omega
  have HAS:=Lib.hid (And.intro hAS (And.intro hu5 (And.intro hM2 (And.intro hso (And.intro hl1 (And.intro hl2 (And.intro hQ hcc)))))));go_upto_region 8 with fail;generalize hw6:w5.alloc (.cells #[.int .i64 l1,.int .i64 l2,.int .i64 so,.bool false] 36 (0,0))=w6 at *;generalize w5.heap.size=ob at *
  have hne2:rb≠ob:=fun e=>hne e.symm
  have b0:=cell_at (j:=0) hbb rfl;have b1:=cell_at (j:=1) hbb rfl;have b2:=cell_at (j:=2) hbb rfl;have b3:=cell_at (j:=3) hbb rfl;have f1:=frozen_at 1 hbb;have f2:=frozen_at 2 hbb;have o0:=cell_at (j:=0) hb5 rfl;have o1:=cell_at (j:=1) hb5 rfl;have o2:=cell_at (j:=2) hb5 rfl;have hwr:IntKind.i64.wrap ((s:Int)+(so:Int))=(s:Int)+(so:Int):=IntWalk.i64_in _ (by omega)
  by_cases hgo:l2<l1
  ·have hd:¬ ((l1:Int)<=(l2:Int)):=by omega
   have hd2:decide ((l1:Int)<=(l2:Int))=false:=decide_eq_false hd;have hwn:IntKind.i64.wrap ((n:Int)+1)=(n:Int)+1:=IntWalk.i64_in _ (by omega)
   have HNX:Hid (DalS W1 rb m p0 (Z++[rc,rb]) M2 (repV M.live l2 (s+so)) ((w6.setCell ⟨rb,2,none⟩ (.int .i64 ((s:Int)+(so:Int)))).setCell ⟨rb,1,none⟩ (.int .i64 l2))/\SetI M g M2 (s+so) (n+1)):=by
    obtain ⟨q1,q2,q3,q4,q5,q6,q7,q8⟩:=HAS.out;refine ⟨?_,?_⟩
    ·have:=(q1.set q2 2 (.int .i64 ((s:Int)+(so:Int)))).set (Upd.refl _ _) 1 (.int .i64 l2)
     unfold repV;rw [Int.natCast_add];exact this
    ·rw [<- q3,<- q4]
     exact HI.out.go hn6 q7 (by rw [q3,q6,q5];exact hgo)
   clear hAS hu5 hb5 hbb hcc hw6 hM2 hso hP hmv hQ hc5 hok hl1;go_wp2_with fail
   go_roundg l2
   case measure=>rw [HAS.out.2.2.2.2.1];exact hgo
   case rel=>exact ⟨M2,s+so,n+1,l2,HAS.out.2.2.2.2.2.1,by simp,HNX.out.2,HGD.out,HNX.out.1⟩
  ·have hd:((l1:Int)<=(l2:Int)):=by omega
   have hd2:decide ((l1:Int)<=(l2:Int))=true:=decide_eq_true hd;have d0:=cell_at (j:=0) hcc rfl;have d1:=cell_at (j:=1) hcc rfl;have d2:=cell_at (j:=2) hcc rfl;have d3:=cell_at (j:=3) hcc rfl;have g0:=frozen_at 0 hcc;have g1:=frozen_at 1 hcc;have g2:=frozen_at 2 hcc;have g3:=frozen_at 3 hcc
   have HMV:Hid (∀ z,Upd [rb,rc] w6 z->ModE m p0 Z M2 w z):=fun z u=>by
    obtain ⟨q1,q2,q3,q4,q5,q6,q7,q8⟩:=HAS.out;obtain ⟨x1,x2,x3,x4,x5,x6⟩:=HX.out;exact (q1.keep q2).fin q8 x6 (by omega) (by omega) u
   have HRC:Hid (∀ z:World,z.heap[rc]?=some (.cells #[.int .i64 0,.int .i64 0,.int .i64 0,.bool false] 36 (0,0))->((((z.setCell ⟨rc,0,none⟩ (.int .i64 M.live)).setCell ⟨rc,1,none⟩ (.int .i64 l2)).setCell ⟨rc,2,none⟩ (.int .i64 ((s:Int)+(so:Int)))).setCell ⟨rc,3,none⟩ (.bool false)).heap[rc]?=some (.cells #[.int .i64 M.live,.int .i64 l2,.int .i64 ((s:Int)+(so:Int)),.bool false] 36 (0,0))):=fun z hz=>by
    rw [heap_set_eq (heap_set_eq (heap_set_eq (heap_set_eq hz _) _) _) _];rfl
   have HRR:Hid (SetR g M 0 1 M2 (s+so) n):=by
    obtain ⟨q1,q2,q3,q4,q5,q6,q7,q8⟩:=HAS.out;refine HI.out.rel _ _ _ ?_;rw [<- q3,<- q4];exact .stop q7 (by rw [q3,q6,q5];omega)
   clear hAS hu5 hb5 hbb hcc hw6 hM2 hso hP hmv hQ hc5 hok hl1;go_wp2_with fail;refine bodyPost_ret (ret_rep2 rfl _ _ rc #[.int .i64 M.live,.int .i64 l2,.int .i64 ((s:Int)+(so:Int)),.bool false] (.int .i64 n) (.int .i64 0) _ rfl rfl rfl ?_ Tryz.underlying36 rfl HRI.out) rfl ⟨M2,s+so,n,HRR.out,by rw [HAS.out.2.2.2.2.2.1,Int.natCast_add],HMV.out _ ?_⟩
   ·refine HRC.out _ ?_
    rw [heap_set_ne HBC.out,heap_set_ne HBC.out];exact HAS.out.2.2.2.2.2.2.2
   ·exact ((((((Upd.refl _ _).setCell (.inl (by simp)) _).setCell (.inl (by simp)) _).setCell (.inl (by simp)) _).setCell (.inl (by simp)) _).setCell (.inl (by simp)) _).setCell (.inl (by simp)) _
end Go.Proofs.YtpfafhmkbcahhaaGreat
