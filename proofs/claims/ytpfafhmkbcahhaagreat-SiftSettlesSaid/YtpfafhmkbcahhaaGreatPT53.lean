import Derived.Test.YtpfafhmkbcahhaaGreatPT50
set_option maxRecDepth 100000
set_option maxHeartbeats 3200000
namespace Go.Proofs.YtpfafhmkbcahhaaGreat
open Go.RowKit Go.Maps Go.ChangeMaps Go.WideShapes
inductive SetR (g:Int):MV->Nat->Nat->MV->Nat->Nat->Prop
 | stop {M:MV} {s n:Nat} {Q:List Nat} (hQ:QSort M M.n Q) (h:M.live<=(M.allF g Q).M.live):SetR g M s n (M.allF g Q).M (s+(M.allF g Q).sw) n
 | go {M:MV} {s n:Nat} {Q:List Nat} {M':MV} {s' n':Nat} (hQ:QSort M M.n Q) (h:(M.allF g Q).M.live<M.live) (k:SetR g (M.allF g Q).M (s+(M.allF g Q).sw) (n+1) M' s' n'):SetR g M s n M' s' n'
theorem SetR.one {g:Int} {M M1 M2:MV} {s n s1 n1 s2 n2:Nat} (h:SetR g M s n M1 s1 n1):SetR g M s n M2 s2 n2->M1=M2/\s1=s2/\n1=n2:=by
 induction h with
 | stop hQ h =>
  intro k
  cases k with
  | stop hQ' h'=>obtain rfl:=hQ.one hQ';exact ⟨rfl,rfl,rfl⟩
  | go hQ' h' k'=>obtain rfl:=hQ.one hQ';omega
 | go hQ h k ih =>
  intro k2
  cases k2 with
  | stop hQ' h'=>obtain rfl:=hQ.one hQ';omega
  | go hQ' h' k'=>obtain rfl:=hQ.one hQ';exact ih k'
theorem MV.live_le8 {M:MV} (hh:M.held.length<=8) (ho:M.order.length<=6):M.live<=3072:=by
 have h1:=levF_len M.order (unlikeT M.tabs)
 have h0:(unlikeT M.tabs).length<=8:=by
  have:=unlikeT_len M.tabs;unfold MV.tabs at *;rw [List.length_map] at this;omega
 have h2:2 ^ M.order.length<=64:=by
  calc 2 ^ M.order.length<=2 ^ 6:=Nat.pow_le_pow_right (by omega) ho
   _=64:=rfl
 have h3:2 ^ M.order.length*(unlikeT M.tabs).length<=64*8:=Nat.mul_le_mul h2 h0;have h4:M.order.length*(2 ^ M.order.length*(unlikeT M.tabs).length)<=6*(64*8):=Nat.mul_le_mul ho h3;unfold MV.live MV.lev;omega
structure SetI (M:MV) (g:Int) (M1:MV) (s n:Nat):Prop where
 rel:∀ M' s' n',SetR g M1 s n M' s' n'->SetR g M 0 1 M' s' n'
 nn:M1.n=M.n
 hd:M1.held=M.held
 ol:M1.order.length=M1.n
 tr:M1.trail.length+36*M1.live<=M.trail.length+36*M.live
 sw:s+384*M1.live<=384*M.live
 nb:n+M1.live<=1+M.live
theorem SetI.start {M:MV} (g:Int) (h:M.order.length=M.n):SetI M g M 0 1:=⟨fun _ _ _ h=>h,rfl,rfl,h,Nat.le_refl _,by omega,Nat.le_refl _⟩
theorem SetI.go {M M1:MV} {g:Int} {s n:Nat} {Q:List Nat} (h:SetI M g M1 s n) (hn:M.n<=6) (hQ:QSort M1 M1.n Q) (hl:(M1.allF g Q).M.live<M1.live):SetI M g (M1.allF g Q).M (s+(M1.allF g Q).sw) (n+1):=by
 have hok:=MV.allF_ok (by rw [h.nn];exact hn) h.ol g Q;have hql:=hQ.len;have hnn:=h.nn;have h1:=hok.tr;have h2:=hok.sw;have h3:=h.tr;have h4:=h.sw;have h5:=h.nb;exact ⟨fun _ _ _ k=>h.rel _ _ _ (.go hQ hl k),hok.n.trans h.nn,hok.held.trans h.hd,hok.ol.trans hok.n.symm,by omega,by omega,by omega⟩
structure SetP (b:Nat) (K:KV) (F:List Nat) (M:MV) (g:Int) (w:World) (e:Ending) (w':World):Prop where
 ex:∃ (M':MV) (s' n':Nat),SetR g M 0 1 M' s' n'/\e=.returned (.tuple #[.agg #[.int .i64 M.live,.int .i64 M'.live,.int .i64 s',.bool false],.int .i64 n',.int .i64 0])/\M'.trail.length<=M.trail.length+120000/\KMove b K F M' w w'
theorem AllS.keep {w3 w w':World} {rb b:Nat} {C:Array Value} {K:KV} {F:List Nat} {M':MV} (h:AllS w3 rb b K F M' C w) (u:Upd [] w w'):AllS w3 rb b K F M' C w':=by
 obtain ⟨K2,F2,k1,k2,k3,k4,k5,k6⟩:=h.ex;exact ⟨⟨K2,F2,k1.upd u (by simp),k2,k3,k4.trans (u.mono (by simp)),k5,k6⟩,(u.block rb (heap_lt h.blk) (by simp)).trans h.blk⟩
theorem settle_spec (b g:Nat) (K:KV) (F:List Nat) (M:MV) (w:World) (h:KerAt w b K F) (hm:KM K M) (ht:M.trail.length<=400000) (hh:M.held.length<=8) (hg1:100<=g) (hg2:g<=1000) :
  Calls Tryz.prog 42 #[.pointer (some ⟨b,0,none⟩),.int .i64 g] w fun e w'=>SetP b K F M g w e w':=by
 have hn6:=hm.fit.n6;have hgood:=hm.good h.ok;have hl8:=MV.live_le8 hh (by rw [hgood.len];exact hn6)
 have HC:Hid (growE g=0):=by show growE g=0;unfold growE;rw [if_neg (by omega)]
 have hli:∀ z,Upd [] w z->Calls Tryz.prog 39 #[.pointer (some ⟨b,0,none⟩)] z fun e w'=>e=.returned (.int .i64 M.live)/\w'=z:=fun z u=>by
  have:=live_at b K F z (h.upd u (by simp));rw [hm.live h.ok h.uni] at this;exact this
 have HL:=Lib.hid hli
 have HK:Hid (∀ z,Upd [] w z->KerAt z b K F):=fun z u=>h.upd u (by simp)
 have HM:=Lib.hid hm;have HN:Hid (∀ k,k∈F->k<w.heap.size):=h.lt
 have HRI:Hid ((Tryz.prog.info? 36).map (·.size)=some 4):=by show _=_;kernel_rfl
 have HG:=Lib.hid hgood;have hb0:=heap_alloc_new w (.cells #[.int .i64 0,.int .i64 0,.int .i64 0,.bool false] 36 (0,0));have HB0:=Lib.hid hb0;clear h hm hli hgood hb0
 go_enter Tryz.func42,Tryz.ntmps42
 go_wp2_with fail;refine (scheck_spec b g _).mono ?_;rintro e w1 ⟨rfl,rfl⟩;rw [HC.out];go_wp2_with fail;refine (HL.out _ ((Upd.refl _ _).alloc _)).mono ?_;rintro e w1 ⟨rfl,rfl⟩;go_upto_region 5 with fail;have HU1:=Lib.hid (((Upd.refl [] w).alloc (.cells #[.int .i64 0,.int .i64 0,.int .i64 0,.bool false] 36 (0,0))).alloc (.cells #[.int .i64 M.live,.int .i64 0,.int .i64 0,.bool false] 36 (0,0)));have hb1:=heap_alloc_new (w.alloc (.cells #[.int .i64 0,.int .i64 0,.int .i64 0,.bool false] 36 (0,0))) (.cells #[.int .i64 M.live,.int .i64 0,.int .i64 0,.bool false] 36 (0,0));rw [World.size_alloc] at hb1
 have hb0:((w.alloc (.cells #[.int .i64 0,.int .i64 0,.int .i64 0,.bool false] 36 (0,0))).alloc (.cells #[.int .i64 M.live,.int .i64 0,.int .i64 0,.bool false] 36 (0,0))).heap[w.heap.size]?=some (.cells #[.int .i64 0,.int .i64 0,.int .i64 0,.bool false] 36 (0,0)):=by
  rw [heap_alloc_old _ _ (by rw [World.size_alloc];omega)];exact HB0.out
 obtain ⟨W1,hW1⟩ : ∃ W1,((w.alloc (.cells #[.int .i64 0,.int .i64 0,.int .i64 0,.bool false] 36 (0,0))).alloc (.cells #[.int .i64 M.live,.int .i64 0,.int .i64 0,.bool false] 36 (0,0)))=W1:=⟨_,rfl⟩;rw [hW1] at HU1 hb0 hb1 ⊢;obtain ⟨rc,hrc⟩ : ∃ rc,w.heap.size=rc:=⟨_,rfl⟩;obtain ⟨rb,hrb⟩ : ∃ rb,w.heap.size+1=rb:=⟨_,rfl⟩;rw [hrc] at hb0;rw [hrb] at hb1;have HX:=Lib.hid (And.intro hrc (And.intro hrb (And.intro hb0 hb1)))
 have e1:(w.alloc (.cells #[.int .i64 0,.int .i64 0,.int .i64 0,.bool false] 36 (0,0))).heap.size=rb:=by rw [World.size_alloc];exact hrb
 try rw [e1]
 try rw [hrb]
 try rw [hrc]
 have HS:Hid (AllS W1 rb b K F M (repV M.live 0 0) W1) :=
  ⟨⟨K,F,HK.out _ HU1.out,HM.out,Stay.refl _,Upd.refl _ _,Sub.refl _ _,fun hk=>by have:=HN.out _ hk;omega⟩,hb1⟩
 clear hW1 hrc hrb hb0 hb1 e1;go_wp2_with fail
 go_loopg [9] M.live (fun gg s9 wr=>∃ (M1:MV) (s n af:Nat),M1.live=gg/\s9=.int .i64 n/\SetI M g M1 s n/\AllS W1 rb b K F M1 (repV M.live af s) wr)
 case atStart=>exact ⟨M,0,1,0,rfl,rfl,SetI.start g HG.out.len,HS.out⟩
 case round =>
  obtain ⟨M1,s,n,af,rfl,rfl,hI,hA⟩:=hrel;obtain ⟨K',F',k1,k2,k3,k4,k5,k6⟩:=hA.ex;have hbk:=hA.blk;obtain ⟨x1,x2,x3,x4⟩:=HX.out;have htr:=hI.tr;have hsw:=hI.sw;have hnb:=hI.nb;have HONE:=Lib.hid (all_spec b g K' F' M1 wr k1 k2 (by omega) hg1 hg2);have HA:=Lib.hid (And.intro k3 (And.intro k4 (And.intro k5 (And.intro k6 hbk))));have HI:=Lib.hid hI;have hrl3:=heap_lt x4
  have hc0:wr.heap[rc]?=some (.cells #[.int .i64 0,.int .i64 0,.int .i64 0,.bool false] 36 (0,0)):=by
   rw [k4.block rc (by omega) (fun hm=>by rcases List.mem_cons.1 hm with h | h;(· omega);(· have:=HN.out _ h;omega))];exact x3
  have hcF:rc∉F':=fun hk=>by
   rcases k5 rc hk with h | h
   ·have:=HN.out _ h;omega
   ·omega
  have HRC0:=Lib.hid (And.intro hc0 hcF)
  have hbc:rb≠rc:=by omega
  have HBC:Hid (rc≠rb):=by show rc≠rb;omega
  clear hA k1 k2 k3 k4 k5 k6 hbk x1 x2 x3 x4 hI hc0 hcF hrl3;go_wp2_with fail;refine HONE.out.mono ?_;rintro e w5 hP;obtain ⟨Q,hQ,rfl,hmv⟩:=hP.ex;have hAS:=AllS.one HA.out.1 HA.out.2.1 HA.out.2.2.1 HA.out.2.2.2.1 HA.out.2.2.2.2 hmv
  have hc5:w5.heap[rc]?=some (.cells #[.int .i64 0,.int .i64 0,.int .i64 0,.bool false] 36 (0,0)):=by
   obtain ⟨_,_,_,_,_,k4,_⟩:=hmv.ex;exact (k4.block rc (heap_lt HRC0.out.1) HRC0.out.2).trans HRC0.out.1
  have hok:=MV.allF_ok (by rw [HI.out.nn];exact hn6) HI.out.ol g Q;have hql:=hQ.len;have hqn:=HI.out.nn;have hsw2:=hok.sw;have htr2:=hok.tr;obtain ⟨M2,hM2⟩ : ∃ M2,(M1.allF g Q).M=M2:=⟨_,rfl⟩;obtain ⟨so,hso⟩ : ∃ so,(M1.allF g Q).sw=so:=⟨_,rfl⟩;rw [hM2] at hAS htr2;rw [hso] at hsw2;rw [hM2,hso];obtain ⟨l1,hl1⟩ : ∃ l1,M1.live=l1:=⟨_,rfl⟩;obtain ⟨l2,hl2⟩ : ∃ l2,M2.live=l2:=⟨_,rfl⟩;rw [hl1] at htr hsw hnb ⊢;rw [hl2];have hu5:Upd [] w5 (w5.alloc (.cells #[.int .i64 l1,.int .i64 l2,.int .i64 so,.bool false] 36 (0,0))):=(Upd.refl [] w5).alloc _;have hb5:=heap_alloc_new w5 (.cells #[.int .i64 l1,.int .i64 l2,.int .i64 so,.bool false] 36 (0,0));have hbb:=(hu5.block rb (heap_lt hAS.blk) (by simp)).trans hAS.blk;have hcc:=(hu5.block rc (heap_lt hc5) (by simp)).trans hc5
  have hne:w5.heap.size≠rb:=by have:=heap_lt hAS.blk;omega
  have HAS:=Lib.hid (And.intro hAS (And.intro hu5 (And.intro hM2 (And.intro hso (And.intro hl1 (And.intro hl2 (And.intro hQ hcc)))))));go_upto_region 8 with fail;generalize hw6:w5.alloc (.cells #[.int .i64 l1,.int .i64 l2,.int .i64 so,.bool false] 36 (0,0))=w6 at *;generalize w5.heap.size=ob at *
  have hne2:rb≠ob:=fun e=>hne e.symm
  have b0:=cell_at (j:=0) hbb rfl;have b1:=cell_at (j:=1) hbb rfl;have b2:=cell_at (j:=2) hbb rfl;have b3:=cell_at (j:=3) hbb rfl;have f1:=frozen_at 1 hbb;have f2:=frozen_at 2 hbb;have o0:=cell_at (j:=0) hb5 rfl;have o1:=cell_at (j:=1) hb5 rfl;have o2:=cell_at (j:=2) hb5 rfl;have hwr:IntKind.i64.wrap ((s:Int)+(so:Int))=(s:Int)+(so:Int):=IntWalk.i64_in _ (by omega)
  have HTR:Hid (l1<=l2->M2.trail.length<=M.trail.length+120000):=fun h=>by omega
  by_cases hgo:l2<l1
  ·have hd:¬ ((l1:Int)<=(l2:Int)):=by omega
   have hd2:decide ((l1:Int)<=(l2:Int))=false:=decide_eq_false hd;have hwn:IntKind.i64.wrap ((n:Int)+1)=(n:Int)+1:=IntWalk.i64_in _ (by omega)
   have HNX:Hid (AllS W1 rb b K F M2 (repV M.live l2 (s+so)) ((w6.setCell ⟨rb,2,none⟩ (.int .i64 ((s:Int)+(so:Int)))).setCell ⟨rb,1,none⟩ (.int .i64 l2))/\SetI M g M2 (s+so) (n+1)):=by
    obtain ⟨q1,q2,q3,q4,q5,q6,q7,q8⟩:=HAS.out;refine ⟨?_,?_⟩
    ·have:=(q1.set q2 2 (.int .i64 ((s:Int)+(so:Int)))).set (Upd.refl _ _) 1 (.int .i64 l2)
     unfold repV;rw [Int.natCast_add];exact this
    ·rw [<- q3,<- q4]
     exact HI.out.go hn6 q7 (by rw [q3,q6,q5];exact hgo)
   clear hAS hu5 hb5 hbb hcc hw6 hM2 hso hP hmv hQ hc5 hok hl1;go_wp2_with fail
   go_roundg l2
   case measure=>rw [HAS.out.2.2.2.2.1];exact hgo
   case rel=>exact ⟨M2,s+so,n+1,l2,HAS.out.2.2.2.2.2.1,by simp,HNX.out.2,HNX.out.1⟩
  ·have hd:((l1:Int)<=(l2:Int)):=by omega
   have hd2:decide ((l1:Int)<=(l2:Int))=true:=decide_eq_true hd;have d0:=cell_at (j:=0) hcc rfl;have d1:=cell_at (j:=1) hcc rfl;have d2:=cell_at (j:=2) hcc rfl;have d3:=cell_at (j:=3) hcc rfl;have g0:=frozen_at 0 hcc;have g1:=frozen_at 1 hcc;have g2:=frozen_at 2 hcc;have g3:=frozen_at 3 hcc
   have HMV:Hid (∀ z,Upd [rb,rc] w6 z->KMove b K F M2 w z):=fun z u=>by
    obtain ⟨q1,q2,q3,q4,q5,q6,q7,q8⟩:=HAS.out;obtain ⟨x1,x2,x3,x4⟩:=HX.out;exact (q1.keep q2).fin HN.out HU1.out (by omega) (by omega) (heap_lt x3) u
   have HRC:Hid (∀ z:World,z.heap[rc]?=some (.cells #[.int .i64 0,.int .i64 0,.int .i64 0,.bool false] 36 (0,0))->((((z.setCell ⟨rc,0,none⟩ (.int .i64 M.live)).setCell ⟨rc,1,none⟩ (.int .i64 l2)).setCell ⟨rc,2,none⟩ (.int .i64 ((s:Int)+(so:Int)))).setCell ⟨rc,3,none⟩ (.bool false)).heap[rc]?=some (.cells #[.int .i64 M.live,.int .i64 l2,.int .i64 ((s:Int)+(so:Int)),.bool false] 36 (0,0))):=fun z hz=>by
    rw [heap_set_eq (heap_set_eq (heap_set_eq (heap_set_eq hz _) _) _) _];rfl
   have HRR:Hid (SetR g M 0 1 M2 (s+so) n):=by
    obtain ⟨q1,q2,q3,q4,q5,q6,q7,q8⟩:=HAS.out;refine HI.out.rel _ _ _ ?_;rw [<- q3,<- q4];exact .stop q7 (by rw [q3,q6,q5];omega)
   clear hAS hu5 hb5 hbb hcc hw6 hM2 hso hP hmv hQ hc5 hok hl1;go_wp2_with fail;refine bodyPost_ret (ret_rep2 rfl _ _ rc #[.int .i64 M.live,.int .i64 l2,.int .i64 ((s:Int)+(so:Int)),.bool false] (.int .i64 n) (.int .i64 0) _ rfl rfl rfl ?_ Tryz.underlying36 rfl HRI.out) rfl ⟨M2,s+so,n,HRR.out,by rw [HAS.out.2.2.2.2.2.1,Int.natCast_add],HTR.out (by omega),HMV.out _ ?_⟩
   ·refine HRC.out _ ?_
    rw [heap_set_ne HBC.out,heap_set_ne HBC.out];exact HAS.out.2.2.2.2.2.2.2
   ·exact ((((((Upd.refl _ _).setCell (.inl (by simp)) _).setCell (.inl (by simp)) _).setCell (.inl (by simp)) _).setCell (.inl (by simp)) _).setCell (.inl (by simp)) _).setCell (.inl (by simp)) _
end Go.Proofs.YtpfafhmkbcahhaaGreat
