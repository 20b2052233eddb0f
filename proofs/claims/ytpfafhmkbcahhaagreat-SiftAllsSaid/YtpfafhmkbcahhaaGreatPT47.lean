import Derived.Test.YtpfafhmkbcahhaaGreatPT46
set_option maxRecDepth 100000
set_option maxHeartbeats 3200000
namespace Go.Proofs.YtpfafhmkbcahhaaGreat
open Go.RowKit Go.Maps Go.ChangeMaps Go.WideShapes
structure AllP (b:Nat) (K:KV) (F:List Nat) (M:MV) (g:Int) (w:World) (e:Ending) (w':World):Prop where
 ex:∃ Q:List Nat,QSort M M.n Q/\e=.returned (.tuple #[.agg #[.int .i64 M.live,.int .i64 (M.allF g Q).M.live,.int .i64 (M.allF g Q).sw,.bool false],.int .i64 0])/\KMove b K F (M.allF g Q).M w w'
structure AllS (w3:World) (rb b:Nat) (K:KV) (F:List Nat) (M':MV) (C:Array Value) (w:World):Prop where
 ex:∃ (K':KV) (F':List Nat),KerAt w b K' F'/\KM K' M'/\Stay K K'/\Upd (rb::F) w3 w/\Sub F w3 F'/\rb∉F'
 blk:w.heap[rb]?=some (.cells C 36 (0,0))
theorem AllS.one {w3 w w':World} {rb b:Nat} {C:Array Value} {K K':KV} {F F':List Nat} {M2:MV} (s:Stay K K') (u:Upd (rb::F) w3 w) (hs:Sub F w3 F') (hr:rb∉F')
  (blk:w.heap[rb]?=some (.cells C 36 (0,0))) (m:KMove b K' F' M2 w w'):AllS w3 rb b K F M2 C w':=by
 obtain ⟨K2,F2,k1,k2,k3,k4,k5⟩:=m.ex;refine ⟨⟨K2,F2,k1,k2,s.trans k3,u.then k4 fun k hk=>?_,fun k hk=>?_,fun hk=>?_⟩,(k4.block rb (heap_lt blk) hr).trans blk⟩
 ·rcases hs k hk with h | h
  ·exact .inl (by simp [h])
  ·exact .inr h
 ·rcases k5 k hk with h | h
  ·exact hs k h
  ·right;have:=u.size;omega
 ·rcases k5 rb hk with h | h
  ·exact hr h
  ·have:=heap_lt blk;omega
theorem AllS.set {w3 w w':World} {rb b:Nat} {C:Array Value} {K:KV} {F:List Nat} {M':MV} (h:AllS w3 rb b K F M' C w) (u:Upd [] w w') (j:Nat) (v:Value):AllS w3 rb b K F M' (C.setIfInBounds j v) (w'.setCell ⟨rb,j,none⟩ v):=by
 obtain ⟨K2,F2,k1,k2,k3,k4,k5,k6⟩:=h.ex;have hb:=(u.block rb (heap_lt h.blk) (by simp)).trans h.blk;have u2:Upd [rb] w (w'.setCell ⟨rb,j,none⟩ v):=(u.mono (by simp)).setCell (p:=⟨rb,j,none⟩) (.inl (by simp)) _;exact ⟨⟨K2,F2,k1.upd u2 (fun k hk=>by simp;rintro rfl;exact k6 hk),k2,k3,k4.then u2 (fun k hk=>.inl (by simp at hk;simp [hk])),k5,k6⟩,heap_set_eq hb _⟩
theorem AllS.fin {w w1 wr z:World} {rb rc b:Nat} {C:Array Value} {K:KV} {F:List Nat} {M':MV} (h:AllS w1 rb b K F M' C wr) (hF:∀ k,k∈F->k<w.heap.size) (u1:Upd [] w w1) (hc:w.heap.size<=rc) (hb:w.heap.size<=rb) (hcl:rc<w1.heap.size) (u:Upd [rb,rc] wr z):KMove b K F M' w z:=by
 obtain ⟨K',F',k1,k2,k3,k4,k5,k6⟩:=h.ex
 have hn9:∀ k,k∈F'->k∉[rb,rc]:=fun k hk hm=>by
  simp at hm
  rcases hm with h | h
  ·subst h;exact k6 hk
  ·subst h
   rcases k5 k hk with h | h
   ·have:=hF _ h;omega
   ·omega
 refine ⟨K',F',k1.upd u (fun k hk=>hn9 k hk),k2,k3,?_,fun k hk=>?_⟩
 ·refine (Upd.then (S:=F) ((u1.mono (by simp)).then k4 (fun k hk=>?_)) u (fun k hk=>?_))
  ·rcases List.mem_cons.1 hk with h | h
   ·right;omega
   ·exact .inl h
  ·right
   simp at hk
   omega
 ·rcases k5 k hk with h | h
  ·exact .inl h
  ·right
   have:=u1.size;omega
theorem all_spec (b g:Nat) (K:KV) (F:List Nat) (M:MV) (w:World) (h:KerAt w b K F) (hm:KM K M) (ht:M.trail.length<=800000) (hg1:100<=g) (hg2:g<=1000) :
  Calls Tryz.prog 36 #[.pointer (some ⟨b,0,none⟩),.int .i64 g] w fun e w'=>AllP b K F M g w e w':=by
 have hn6:=hm.fit.n6;have hgood:=hm.good h.ok
 have HC:Hid (growE g=0):=by show growE g=0;unfold growE;rw [if_neg (by omega)]
 have hli:∀ z,Upd [] w z->Calls Tryz.prog 39 #[.pointer (some ⟨b,0,none⟩)] z fun e w'=>e=.returned (.int .i64 M.live)/\w'=z:=fun z u=>by
  have:=live_at b K F z (h.upd u (by simp));rw [hm.live h.ok h.uni] at this;exact this
 have HL:=Lib.hid hli
 have HK:Hid (∀ z,Upd [] w z->KerAt z b K F):=fun z u=>h.upd u (by simp)
 have HM:=Lib.hid hm;have HN:Hid (∀ k,k∈F->k<w.heap.size):=h.lt
 have HRI:Hid ((Tryz.prog.info? 36).map (·.size)=some 4):=by show _=_;kernel_rfl
 have HG:=Lib.hid hgood;have hb0:=heap_alloc_new w (.cells #[.int .i64 0,.int .i64 0,.int .i64 0,.bool false] 36 (0,0));have HB0:=Lib.hid hb0;clear h hm hli hgood hb0
 go_enter Tryz.func36,Tryz.ntmps36
 go_wp2_with fail;refine (scheck_spec b g _).mono ?_;rintro e w1 ⟨rfl,rfl⟩;rw [HC.out];go_wp2_with fail;refine (HL.out _ ((Upd.refl _ _).alloc _)).mono ?_;rintro e w1 ⟨rfl,rfl⟩;go_upto_region 5 with fail;have HU1:=Lib.hid (((Upd.refl [] w).alloc (.cells #[.int .i64 0,.int .i64 0,.int .i64 0,.bool false] 36 (0,0))).alloc (.cells #[.int .i64 M.live,.int .i64 0,.int .i64 0,.bool false] 36 (0,0)));have hb1:=heap_alloc_new (w.alloc (.cells #[.int .i64 0,.int .i64 0,.int .i64 0,.bool false] 36 (0,0))) (.cells #[.int .i64 M.live,.int .i64 0,.int .i64 0,.bool false] 36 (0,0));rw [World.size_alloc] at hb1
 have hb0:((w.alloc (.cells #[.int .i64 0,.int .i64 0,.int .i64 0,.bool false] 36 (0,0))).alloc (.cells #[.int .i64 M.live,.int .i64 0,.int .i64 0,.bool false] 36 (0,0))).heap[w.heap.size]?=some (.cells #[.int .i64 0,.int .i64 0,.int .i64 0,.bool false] 36 (0,0)):=by
  rw [heap_alloc_old _ _ (by rw [World.size_alloc];omega)];exact HB0.out
 obtain ⟨W1,hW1⟩ : ∃ W1,((w.alloc (.cells #[.int .i64 0,.int .i64 0,.int .i64 0,.bool false] 36 (0,0))).alloc (.cells #[.int .i64 M.live,.int .i64 0,.int .i64 0,.bool false] 36 (0,0)))=W1:=⟨_,rfl⟩;rw [hW1] at HU1 hb0 hb1 ⊢;obtain ⟨rc,hrc⟩ : ∃ rc,w.heap.size=rc:=⟨_,rfl⟩;obtain ⟨rb,hrb⟩ : ∃ rb,w.heap.size+1=rb:=⟨_,rfl⟩;rw [hrc] at hb0;rw [hrb] at hb1;have HX:=Lib.hid (And.intro hrc (And.intro hrb (And.intro hb0 hb1)))
 have e1:(w.alloc (.cells #[.int .i64 0,.int .i64 0,.int .i64 0,.bool false] 36 (0,0))).heap.size=rb:=by rw [World.size_alloc];exact hrb
 try rw [e1]
 try rw [hrb]
 try rw [hrc]
 clear hW1 hrc hrb hb0 hb1 e1;go_wp2_with fail;refine (queue_spec b K F M W1 (HK.out _ HU1.out) HM.out).mono ?_;rintro e w3 hQ;obtain ⟨lv,Q,rfl,hS,hR,hu⟩:=hQ.ex;obtain ⟨qa,qc,rfl,_⟩:=row_nil_len hR;have hQn:=hS.len;have HR:=Lib.hid (And.intro hR (And.intro hS hu));have hs0:=HU1.out.size
 have HS:Hid (AllS w3 rb b K F (M.allF g (Q.take 0)).M (repV M.live 0 (M.allF g (Q.take 0)).sw) w3):=by
  obtain ⟨x1,x2,x3,x4⟩:=HX.out;exact ⟨⟨K,F,HK.out _ (HU1.out.trans hu),HM.out,Stay.refl _,Upd.refl _ _,Sub.refl _ _,fun hk=>by have:=HN.out _ hk;omega⟩,(hu.block rb (heap_lt x4) (by simp)).trans x4⟩
 clear hQ hS hR hu hs0;go_wp2_with fail
 go_loopg [25] Q.length (fun gg s25 wr=>∃ i:Nat,Q.length-i=gg/\i<=Q.length/\s25=.int .i64 i/\AllS w3 rb b K F (M.allF g (Q.take i)).M (repV M.live 0 (M.allF g (Q.take i)).sw) wr)
 case atStart=>exact ⟨0,by omega,by omega,rfl,HS.out⟩
 case round =>
  obtain ⟨i,rfl,hi,rfl,hA⟩:=hrel;obtain ⟨K',F',k1,k2,k3,k4,k5,k6⟩:=hA.ex;have hbk:=hA.blk;obtain ⟨x1,x2,x3,x4⟩:=HX.out;have hok:=MV.allF_ok hn6 HG.out.len g (Q.take i);rw [List.length_take,Nat.min_eq_left hi] at hok;have htr:=hok.tr;have hsw:=hok.sw
  by_cases hlt:i<Q.length
  ·obtain ⟨v,hv⟩ : ∃ v,Q[i]?=some v:=⟨_,List.getElem?_eq_getElem hlt⟩
   obtain ⟨qg,rfl⟩:=row_some HR.out.1 (by omega)
   have hil:(i:Int)<(Q.length:Int):=by omega
   have hrow:=row_keep HR.out.1 fun k hk=>k4.block k (HR.out.1.lt k hk).2 fun hm=>by
    have h1:=(HR.out.1.lt k hk).1;have h2:=HU1.out.size;have h3:=heap_lt x4
    rcases List.mem_cons.1 hm with h | h
    ·omega
    ·have:=HN.out _ h;omega
   have cv:=row_cell hrow (j:=i) (u:=.int .i64 (v:Nat)) (by simp [flatN,hv]);have HST:=Lib.hid (MV.allF_take (M:=M) (g:=g) hv);have hok2:=hok.step hn6 g v;have hsw2:=hok2.sw;generalize M.allF g (Q.take i)=A at *;have HONE:=Lib.hid (one_spec b v g K' F' A.M wr k1 k2 (by omega));have HA:=Lib.hid (And.intro k3 (And.intro k4 (And.intro k5 (And.intro k6 hbk))));obtain ⟨r1,r2,hRR⟩:=A.M.oneR_sw v g;obtain ⟨E,hE⟩ : ∃ E,A.M.oneE v g=E:=⟨_,rfl⟩;have HRE:=Lib.hid (And.intro hRR hE);have hsq:A.sw+A.M.oneS v g<=64*(i+1):=hsw2;obtain ⟨so,hso⟩ : ∃ so,A.M.oneS v g=so:=⟨_,rfl⟩
   have HSO:Hid (allStep g A v=⟨A.M.one v g,A.sw+so⟩):=by show _=_;rw [<- hso];rfl
   rw [hso] at HRE hsq;have hwr:IntKind.i64.wrap ((A.sw:Int)+(so:Int))=(A.sw:Int)+(so:Int):=IntWalk.i64_in _ (by omega);clear hA k1 k2 k3 k4 k5 k6 hbk hrow hok hok2 hsw2 hv hRR hE hso x1 x2 x3 x4;go_wp2_with fail;refine HONE.out.mono ?_;rintro e w5 hP;obtain rfl:=hP.en;rw [HRE.out.1,HRE.out.2];have hAS:=AllS.one HA.out.1 HA.out.2.1 HA.out.2.2.1 HA.out.2.2.2.1 HA.out.2.2.2.2 hP.mv;have hu5:Upd [] w5 (w5.alloc (.cells #[.int .i64 r1,.int .i64 r2,.int .i64 so,.bool false] 36 (0,0))):=(Upd.refl [] w5).alloc _;have hb5:=heap_alloc_new w5 (.cells #[.int .i64 r1,.int .i64 r2,.int .i64 so,.bool false] 36 (0,0));have hbb:=(hu5.block rb (heap_lt hAS.blk) (by simp)).trans hAS.blk;have HAS:=Lib.hid (And.intro hAS hu5);go_upto_region 9 with fail;generalize hw6:w5.alloc (.cells #[.int .i64 r1,.int .i64 r2,.int .i64 so,.bool false] 36 (0,0))=w6 at *;have b2:=cell_at (j:=2) hbb rfl;have f2:=frozen_at 2 hbb;have o2:=cell_at (j:=2) hb5 rfl
   have HNX:Hid (AllS w3 rb b K F (M.allF g (Q.take (i+1))).M (repV M.live 0 (M.allF g (Q.take (i+1))).sw) (w6.setCell ⟨rb,2,none⟩ (.int .i64 ((A.sw:Int)+(so:Int))))):=by
    rw [HST.out,HSO.out];have:=HAS.out.1.set HAS.out.2 2 (.int .i64 ((A.sw:Int)+(so:Int)))
    show AllS w3 rb b K F (A.M.one v g) (repV M.live 0 (A.sw+so)) _
    unfold repV;rw [Int.natCast_add];exact this
   clear hP hAS hu5 hb5 hbb hw6;go_wp2_with fail
   go_roundg (Q.length-(i+1))
   case measure=>omega
   case rel=>exact ⟨i+1,rfl,by omega,by simp,HNX.out⟩
  ·obtain rfl:i=Q.length:=by omega
   have hil:¬ ((Q.length:Int)<(Q.length:Int)):=by omega
   rw [List.take_length] at k2 hA hbk htr hsw
   have hlv:∀ z,Upd [] wr z->Calls Tryz.prog 39 #[.pointer (some ⟨b,0,none⟩)] z fun e w'=>e=.returned (.int .i64 (M.allF g Q).M.live)/\w'=z:=fun z u=>by
    have:=live_at b K' F' z (k1.upd u (by simp));rw [k2.live k1.ok k1.uni] at this;exact this
   have HLV:=Lib.hid hlv
   have hFw:∀ k,k∈F->k<rc:=fun k hk=>by have:=HN.out k hk;omega
   have hrl:=heap_lt x4
   have hrl3:rb<w3.heap.size:=by have:=HR.out.2.2.size;omega
   have hc0:wr.heap[rc]?=some (.cells #[.int .i64 0,.int .i64 0,.int .i64 0,.bool false] 36 (0,0)):=by
    rw [k4.block rc (by omega) (fun hm=>by rcases List.mem_cons.1 hm with h | h;(· omega);(· have:=hFw _ h;omega)),HR.out.2.2.block rc (heap_lt x3) (by simp)];exact x3
   have HMV:Hid (∀ z,Upd [rb,rc] wr z->KMove b K F (M.allF g Q).M w z):=fun z u=>hA.fin HN.out (HU1.out.trans HR.out.2.2) (by omega) (by omega) (by have:=heap_lt x3;have:=HR.out.2.2.size;omega) u
   have f1:=frozen_at 1 hbk;have b0:=cell_at (j:=0) hbk rfl;have b1:=cell_at (j:=1) hbk rfl;have b2:=cell_at (j:=2) hbk rfl;have b3:=cell_at (j:=3) hbk rfl;have d0:=cell_at (j:=0) hc0 rfl;have d1:=cell_at (j:=1) hc0 rfl;have d2:=cell_at (j:=2) hc0 rfl;have d3:=cell_at (j:=3) hc0 rfl;have g0:=frozen_at 0 hc0;have g1:=frozen_at 1 hc0;have g2:=frozen_at 2 hc0;have g3:=frozen_at 3 hc0
   have hbc:rb≠rc:=by omega
   have HBC:Hid (rc≠rb):=by show rc≠rb;omega
   generalize hSW:(M.allF g Q).sw=SW at *;generalize hLV:(M.allF g Q).M.live=LV at *
   have HRC:Hid (∀ z:World,z.heap[rc]?=some (.cells #[.int .i64 0,.int .i64 0,.int .i64 0,.bool false] 36 (0,0))->((((z.setCell ⟨rc,0,none⟩ (.int .i64 M.live)).setCell ⟨rc,1,none⟩ (.int .i64 LV)).setCell ⟨rc,2,none⟩ (.int .i64 SW)).setCell ⟨rc,3,none⟩ (.bool false)).heap[rc]?=some (.cells #[.int .i64 M.live,.int .i64 LV,.int .i64 SW,.bool false] 36 (0,0))):=fun z hz=>by
    rw [heap_set_eq (heap_set_eq (heap_set_eq (heap_set_eq hz _) _) _) _];rfl
   have HEN:=Lib.hid (And.intro hSW (And.intro hLV hc0));clear hSW hLV hA k1 k2 k3 k4 k5 k6 hbk hc0 x1 x2 x3 x4 hlv hFw hok htr hsw hrl hrl3;go_wp2_with fail;refine (HLV.out _ (Upd.refl _ _)).mono ?_;rintro e w10 ⟨rfl,rfl⟩;go_wp2_with fail;refine bodyPost_ret (ret_rep rfl _ _ rc #[.int .i64 M.live,.int .i64 LV,.int .i64 SW,.bool false] (.int .i64 0) _ rfl rfl ?_ Tryz.underlying36 rfl HRI.out) rfl ⟨Q,HR.out.2.1,by rw [HEN.out.1,HEN.out.2.1],HMV.out _ ?_⟩
   ·refine HRC.out _ ?_
    rw [heap_set_ne HBC.out];exact HEN.out.2.2
   ·exact (((((Upd.refl _ _).setCell (.inl (by simp)) _).setCell (.inl (by simp)) _).setCell (.inl (by simp)) _).setCell (.inl (by simp)) _).setCell (.inl (by simp)) _
end Go.Proofs.YtpfafhmkbcahhaaGreat
