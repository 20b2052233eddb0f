import Derived.Test.YtdackeldhdchaaaGreatPQ213
set_option maxRecDepth 100000
set_option maxHeartbeats 3200000
namespace Go.Proofs.YtdackeldhdchaaaGreat
open Go.RowKit Go.Maps Go.ChangeMaps Go.WideShapes
def an0:List (TV × Nat)->TV->List (TV × Nat)
 | [],t=>[(t,1)]
 | h::H,t=>if h.1=t then (h.1,h.2+1)::H else h::an0 H t
def MV.hold1E (M:MV) (t:TV):Int:=if t.isC then 0 else if 65535<=M.holds t then 8 else 0
def MV.hold1 (M:MV) (t:TV):MV:=if t.isC then M else if 65535<=M.holds t then M else { M with held:=an0 M.held t }
theorem aGt:∀ {H:List (TV × Nat)} {t:TV} {i:Nat} {u:TV × Nat},H[i]?=some u->u.1=t->(∀ h,h∈H.take i->h.1≠t)->an0 H t=H.set i (u.1,u.2+1)
 | [],_,_,_,h,_,_=>by simp at h
 | a::H,t,0,u,h,e,_=>by simp at h;subst h;simp [an0,e]
 | a::H,t,i+1,u,h,e,hno=>by
  have h1:a.1≠t:=hno a (by simp)
  simp only [an0,if_neg h1,List.set_cons_succ]
  rw [aGt (i:=i) (by simpa using h) e fun b hb=>hno b (by simp [hb])]
theorem aGu:∀ {H:List (TV × Nat)} {t:TV},(∀ h,h∈H->h.1≠t)->an0 H t=H++[(t,1)]
 | [],_,_=>rfl
 | a::H,t,hno=>by
  simp only [an0,if_neg (hno a (by simp)),List.cons_append]
  rw [aGu fun b hb=>hno b (by simp [hb])]
theorem aFo {H:List (TV × Nat)} {cs:List Value} (hl:cs.length=H.length) {i:Nat} {u:TV × Nat} (hu:H[i]?=some u) (k:Nat):(anF H cs).set (i*3+2) (.int .i64 k)=anF (H.set i (u.1,k)) cs:=by
 induction H generalizing cs i with
 | nil=>simp at hu
 | cons a L ih =>
  cases cs with
  | nil=>simp at hl
  | cons d cs =>
   have hl':cs.length=L.length:=by simpa using hl
   have e:anF (a::L) (d::cs)=Value.int .i64 a.1.n::d::.int .i64 a.2::anF L cs:=rfl
   cases i with
   | zero=>simp at hu;subst hu;rw [e];rfl
   | succ i =>
    simp at hu
    have e3:(i+1)*3+2=i*3+2+1+1+1:=by omega
    rw [e,e3,List.set_cons_succ,List.set_cons_succ,List.set_cons_succ,ih hl' hu,List.set_cons_succ];rfl
theorem HLs.setCount {w:World} {Z:List Nat} {g n c i k:Nat} {H:List (TV × Nat)} {u:TV × Nat} (h:HLs w Z (.slice (some ⟨g,0,none⟩) n c) H) (hg:g∈Z) (hu:H[i]?=some u):HLs (w.setCell ⟨g,i*3+2,none⟩ (.int .i64 k)) Z (.slice (some ⟨g,0,none⟩) n c) (H.set i (u.1,k)):=by
 obtain ⟨cs,h1,h2,h3⟩:=h.ex;have hil:i<H.length:=(List.getElem?_eq_some_iff.1 hu).1;refine ⟨cs,by rw [List.length_set];exact h1,?_,fun j v d hv hd=>?_⟩
 ·rw [List.length_set,<- aFo h1 hu]
  exact ae1 h2 (by omega) _
 ·have hu2:Upd Z w (w.setCell ⟨g,i*3+2,none⟩ (.int .i64 k)):=(Upd.refl Z w).setCell (p:=⟨g,i*3+2,none⟩) (.inl hg) _
  by_cases e:j=i
  ·subst e
   rw [List.getElem?_set_self hil] at hv;cases hv
   exact (h3 j u d hu hd).keep hu2 fun k hk=>.inl hk
  ·rw [List.getElem?_set_ne (Ne.symm e)] at hv
   exact (h3 j v d hv hd).keep hu2 fun k hk=>.inl hk
theorem agq.setCount {m:Nat} {M:MV} {p:acd} {Z:List Nat} {w w':World} {g n c i k:Nat} {u:TV × Nat} (h:aef w m M p Z) (uu:Upd [] w w') (hv:p.hv=.slice (some ⟨g,0,none⟩) n c) (hu:M.held[i]?=some u) :
  agq m p Z { M with held:=M.held.set i (u.1,k) } w (w'.setCell ⟨g,i*3+2,none⟩ (.int .i64 k)):=by
 have h':=h.keep0 uu;have hg:g∈p.all m:=acd.mem.2 (.inr (.inr (.inl (by rw [hv];rfl))));obtain ⟨xs,hr⟩:=h'.hs.row;obtain ⟨c1,f1,e1⟩:=acE hr (k:=g) (by rw [hv];rfl)
 have hgm:m≠g:=fun e=>by
  subst e;rw [h'.blk] at e1
  injection e1 with e1
  injection e1 with _ e1 _
  exact absurd e1 (by decide)
 have ho:some g≠p.ov.ownBlock:=fun e=>by
  obtain ⟨c2,f2,e2⟩:=acE h'.os e.symm;rw [e1] at e2
  injection e2 with e2
  injection e2 with _ e2 _
  exact absurd e2 (by decide)
 have ht:some g≠p.tv.ownBlock:=fun e=>by
  obtain ⟨c2,f2,e2⟩:=acE h'.ts e.symm;rw [e1] at e2
  injection e2 with e2
  injection e2 with _ e2 _
  exact absurd e2 (by decide)
 have hs:=h'.hs;rw [hv] at hs;refine ⟨p,⟨by rw [acb hgm];exact h'.blk,ac9 h'.os ho _,?_,ac9 h'.ts ht _,h'.ne,fun k hk=>List.mem_append.2 (.inr hk)⟩,(uu.mono (by simp)).setCell (p:=⟨g,i*3+2,none⟩) (.inl hg) _,Sub.refl _ _⟩;rw [hv]
 refine (hs.setCount (h'.sz g hg) hu).apart fun x hx=>.inl ?_
 rcases List.mem_append.1 hx with hx | hx
 ·exact hx
 ·exact h'.sz x hx
theorem agq.pushHeld {m:Nat} {M:MV} {p:acd} {Z:List Nat} {w w1 w5:World} {a:Option Addr} {n c g5 cap k:Nat} {d:Value} {t:TV} {X:Obj} {xs:List Value} (h:aef w m M p Z) (uu:Upd [] w w1) (hv:p.hv=.slice a n c) (ht:TIn w Z d t)
  (abP:w1.ownsRow 0 255 3 (.slice a n c) M.held.length xs) (hgr:(w1.alloc X).grownBy w5 (Value.slice a n c).ownBlock) (hat:(Value.slice a n c).ownBlock=some g5\/g5=w1.heap.size+1)
  (ab3:w5.ownsRow 0 255 3 (.slice (some ⟨g5,0,none⟩) (M.held.length+1) cap) (M.held.length+1) (xs++[.int .i64 t.n,d,.int .i64 k])) :
  agq m p Z { M with held:=M.held++[(t,k)] } w (w5.setCell ⟨m,3,none⟩ (.slice (some ⟨g5,0,none⟩) (M.held.length+1) cap)):=by
 have h':=h.keep0 uu;obtain ⟨cs,b1,b2,b3⟩:=h'.hs.ex;rw [hv] at b2;obtain rfl:=axK abP b2 rfl;have hlm:=aa4 h.blk;have hz:=uu.size
 have hpa:∀ k,(Value.slice a n c).ownBlock=some k->k∈p.all m:=fun k hk=>acd.mem.2 (.inr (.inr (.inl (by rw [hv];exact hk))))
 have hmt:∀ k,(Value.slice a n c).ownBlock=some k->k≠m:=fun k hk e=>by
  subst e;obtain ⟨c1,f1,e1⟩:=acE abP hk;have e2:=h'.blk;rw [e1] at e2
  injection e2 with e2
  injection e2 with _ e2 _
  exact absurd e2 (by decide)
 have hg:g5≠m/\((Value.slice a n c).ownBlock=some g5\/w.heap.size<=g5):=by
  rcases hat with e | e
  ·exact ⟨hmt g5 e,.inl e⟩
  ·exact ⟨by omega,.inr (by omega)⟩
 have hS0:∀ k,k∈m::(Value.slice a n c).ownBlock.toList->k=m\/(Value.slice a n c).ownBlock=some k:=fun k hk=>by
  rcases List.mem_cons.1 hk with h | h
  ·exact .inl h
  ·exact .inr (Option.mem_toList.1 h)
 have u6:Upd (m::(Value.slice a n c).ownBlock.toList) w (w5.setCell ⟨m,3,none⟩ (.slice (some ⟨g5,0,none⟩) (M.held.length+1) cap)) :=
  ((((uu.mono (by simp)).alloc X).grown hgr fun k hk=>.inl (by rw [hk];simp))).setCell (p:=⟨m,3,none⟩) (.inl (by simp)) _
 have hb5:w5.heap[m]?=some (.cells #[.int .i64 M.n,.int .i64 M.c,p.ov,p.hv,p.tv] 53 (0,0)):=by
  rw [hgr.block m (by rw [World.size_alloc];omega) (fun e=>hmt m e.symm rfl),Below.heap_alloc _ _ _ (by omega)];exact h'.blk
 have hb7:=abV (j:=3) hb5 (.slice (some ⟨g5,0,none⟩) (M.held.length+1) cap)
 have aNL:∀ {v:Value} {l:List Nat},w.ownsRow 0 3 1 v l.length (acf l)->(w5.setCell ⟨m,3,none⟩ (.slice (some ⟨g5,0,none⟩) (M.held.length+1) cap)).ownsRow 0 3 1 v l.length (acf l):=fun {v l} hr=>aaX hr fun k hk=>u6.block k (hr.lt k hk).2 fun hm=>by
  obtain ⟨c1,f1,e1⟩:=acE hr hk
  rcases hS0 k hm with rfl | hh
  ·rw [h.blk] at e1
   injection e1 with e1
   injection e1 with _ e1 _
   exact absurd e1 (by decide)
  ·obtain ⟨c2,f2,e2⟩:=acE abP hh
   rw [uu.block k (hr.lt k hk).2 (by simp),e1] at e2
   injection e2 with e2
   injection e2 with _ e2 _
   exact absurd e2 (by decide)
 refine ⟨⟨p.ov,.slice (some ⟨g5,0,none⟩) (M.held.length+1) cap,p.tv⟩,⟨hb7,aNL h.os,⟨cs++[d],by simp [b1],?_,fun i u e hu he=>?_⟩,aNL h.ts,h.ne,fun k hk=>List.mem_append.2 (.inr hk)⟩,u6.mono fun k hk=>?_,fun k hk=>?_⟩
 ·rw [aFi b1,List.length_append,List.length_singleton]
  exact ac9 ab3 (by simp only [Value.ownBlock,ne_eq,Option.some.injEq];exact fun e=>hg.1 e.symm) _
 ·have hap:Sub Z w (Z++acd.all ⟨p.ov,.slice (some ⟨g5,0,none⟩) (M.held.length+1) cap,p.tv⟩ m):=fun k hk=>by
   rcases List.mem_append.1 hk with hk | hk
   ·exact .inl hk
   ·rcases acd.mem.1 hk with rfl | h1 | h1 | h1
    ·exact .inl (h.sz _ (acd.mem.2 (.inl rfl)))
    ·exact .inl (h.sz _ (acd.mem.2 (.inr (.inl h1))))
    ·simp [Value.ownBlock] at h1;subst h1
     rcases hg.2 with h2 | h2
     ·exact .inl (h.sz _ (hpa _ h2))
     ·exact .inr h2
    ·exact .inl (h.sz _ (acd.mem.2 (.inr (.inr (.inr h1)))))
  have hSZ:∀ k,k∈m::(Value.slice a n c).ownBlock.toList->k∈Z++acd.all ⟨p.ov,.slice (some ⟨g5,0,none⟩) (M.held.length+1) cap,p.tv⟩ m\/w.heap.size<=k:=fun k hk=>by
   rcases hS0 k hk with rfl | h1
   ·exact .inl (List.mem_append.2 (.inl (h.sz _ (acd.mem.2 (.inl rfl)))))
   ·exact .inl (List.mem_append.2 (.inl (h.sz _ (hpa k h1))))
  by_cases hi:i<M.held.length
  ·rw [List.getElem?_append_left hi] at hu
   rw [List.getElem?_append_left (by omega)] at he;have h9:=b3 i u e hu he;obtain ⟨cs0,d1,d2,d3⟩:=h.hs.ex
   have hcs:cs0[i]?=some e:=by
    have e1:=(avs b1 hu he).2.1
    have hw0:w1.ownsRow 0 255 3 (.slice a n c) M.held.length (anF M.held cs0):=by
     rw [hv] at d2
     exact aaX d2 fun k hk=>uu.block k (d2.lt k hk).2 (by simp)
    have e2:=axK abP hw0 rfl;have e3:cs0[i]?=some (cs0[i]'(by omega)):=List.getElem?_eq_getElem (by omega);have e4:=(avs d1 hu e3).2.1;rw [<- e2,e1] at e4
    rw [e3];exact e4.symm
   exact ((d3 i u e hu hcs).apart hap).keep u6 hSZ
  ·rw [List.getElem?_append_right (by omega)] at hu
   rw [List.getElem?_append_right (by omega),b1] at he
   cases e0:i-M.held.length with
   | zero=>rw [e0] at hu he;simp at hu he;subst hu he;exact (ht.apart hap).keep u6 hSZ
   | succ j=>rw [e0] at hu;simp at hu
 ·rcases hS0 k hk with rfl | h1
  ·exact acd.mem.2 (.inl rfl)
  ·exact hpa k h1
 ·rcases acd.mem.1 hk with rfl | h1 | h1 | h1
  ·exact .inl (acd.mem.2 (.inl rfl))
  ·exact .inl (acd.mem.2 (.inr (.inl h1)))
  ·simp [Value.ownBlock] at h1;subst h1
   rcases hg.2 with h2 | h2
   ·exact .inl (hpa _ h2)
   ·exact .inr h2
  ·exact .inl (acd.mem.2 (.inr (.inr (.inr h1))))
structure aJj (m:Nat) (M:MV) (p:acd) (Z:List Nat) (t:TV) (w:World) (e:Ending) (w':World):Prop where
 ex:e=.returned (.int .i64 (M.hold1E t))/\agq m p Z (M.hold1 t) w w'
theorem aFp (m:Nat) (M:MV) (p:acd) (Z:List Nat) (c:Value) (t:TV) (w:World) (h:aef w m M p Z) (hZ:∀ k,k∈Z->k<w.heap.size) (ht:TIn w Z c t) (hl:M.held.length<=4194304) (hm:∀ u,u∈M.held->u.2<=65535) :
  Calls Tryz.prog 120 #[.pointer (some ⟨m,0,none⟩),aeH t c] w fun e w'=>aJj m M p Z t w e w':=by
 obtain ⟨ti,hi2,hz2,hs2,hb2⟩:=info_parts Tryz.infoHold;have HI:=Lib.hid (And.intro hi2 (And.intro hz2 (And.intro hs2 hb2)));obtain ⟨ta,tc,rfl,_⟩:=ahV ht.row;obtain ⟨fa,fc,hfv,hfa⟩:=h.hs.form;obtain ⟨_,_,_,c3,_⟩:=h.cells;rw [hfv] at c3;have hs:=h.hs;rw [hfv] at hs;have HL:=Lib.hid hs;have HT:=Lib.hid ht;have HM:=Lib.hid h;have HFV:=Lib.hid hfv;have HMX:=Lib.hid hm
 have HZ:Hid (∀ x:World,Upd [] w x->∀ k,k∈Z->k<x.heap.size):=fun x u k hk=>Nat.lt_of_lt_of_le (hZ k hk) u.size
 have HU0:=Lib.hid ((Upd.refl [] w).alloc (.cells #[.int .i64 t.n,.slice ta t.ws.length tc] 121 (0,0)));have hb:=alC w (.int .i64 t.n) (.slice ta t.ws.length tc)
 have HSM:Hid (∀ (x:World) (d:Value) (u:TV),Upd [] w x->TIn x Z d u->Calls Tryz.prog 122 #[aeH u d,aeH t (.slice ta t.ws.length tc)] x fun e w'=>e=.returned (.bool (decide (u=t)))/\Upd [] x w'):=fun x d u hx hd=>ajX Z d _ u t x hd (ht.keep0 hx)
 have HIC:Hid (∀ x:World,Upd [] w x->Calls Tryz.prog 175 #[aeH t (.slice ta t.ws.length tc)] x fun e w'=>e=.returned (.bool t.isC)/\Upd [] x w'):=fun x u=>aCb Z _ t x (ht.keep0 u) (HZ.out x u)
 have HWN:Hid (t.ws.length=t.ws.length/\t.n=t.n):=⟨rfl,rfl⟩;unfold aeH at HSM HIC ⊢;generalize hW:t.ws.length=W at *;generalize hn:t.n=n at *;have HN:=Lib.hid (And.intro hW hn);obtain ⟨b0,b1⟩:=hb
 have HB:Hid (∀ x:World,Upd [] (w.alloc (.cells #[.int .i64 n,.slice ta W tc] 121 (0,0))) x->x.cell? ⟨w.heap.size,0,none⟩=some (.int .i64 n)/\x.cell? ⟨w.heap.size,1,none⟩=some (.slice ta W tc)):=fun x u=>aer u ⟨b0,b1⟩
 clear h hfv hs ht hZ hW hn hm hi2 hz2 hs2 hb2
 cases hc:t.isC with
 | true =>
  have HX:Hid (M.hold1E t=0/\M.hold1 t=M):=⟨by unfold MV.hold1E;rw [if_pos hc],by unfold MV.hold1;rw [if_pos hc]⟩;have HC:=Lib.hid hc;clear hc
  go_enter Tryz.func120,Tryz.ntmps120
  go_wp2_with fail;refine (HIC.out _ HU0.out).mono ?_;rintro e w1 ⟨rfl,hu⟩;rw [HC.out];have HU:=Lib.hid (HU0.out.trans hu);clear hu b0 b1;go_wp2_with fail;go_ret;exact ⟨by rw [HX.out.1];rfl,by rw [HX.out.2];exact agq.same HM.out HU.out⟩
 | false =>
  have HC:=Lib.hid hc;clear hc
  go_enter Tryz.func120,Tryz.ntmps120
  go_wp2_with fail;refine (HIC.out _ HU0.out).mono ?_;rintro e w1 ⟨rfl,hu⟩;rw [HC.out];have HU:=Lib.hid (HU0.out.trans hu);have HUB:=Lib.hid hu;clear hu b0 b1;go_wp2_with fail
  go_loopg [5] M.held.length (fun g s5 wr=>∃ i:Nat,M.held.length-i=g/\i<=M.held.length/\s5=.int .i64 i/\(∀ h,h∈M.held.take i->h.1≠t)/\Upd [] w1 wr)
  case atStart=>exact ⟨0,by omega,by omega,rfl,by simp,Upd.refl _ _⟩
  case round =>
   obtain ⟨i,rfl,hi,rfl,hno,hU⟩:=hrel;have hUw:=HU.out.trans hU;have d3:=hUw.cell0 c3
   by_cases hlt:i<M.held.length
   ·obtain ⟨u,hu⟩ : ∃ u,M.held[i]?=some u:=⟨_,List.getElem?_eq_getElem hlt⟩
    obtain ⟨ga,rfl⟩:=hfa (by omega);obtain ⟨cu,x0,x1,x2,htu⟩:=(HL.out.keep hUw (by simp) (by simp)).at_ hu;obtain ⟨ua,uc,hcu,_⟩:=ahV htu.row;subst hcu
    have hil:(i:Int)<(M.held.length:Int):=by omega
    obtain ⟨y0,y1⟩:=HB.out _ (HUB.out.trans hU);have HS1:=Lib.hid (HSM.out wr.drew _ u.1 hUw.drew (htu.keep0 (Upd.refl _ _).drew));have HNN:=Lib.hid (And.intro hu (And.intro hno hU));have a1t:=HMX.out u (List.mem_of_getElem? hu)
    have fz2:wr.frozen? ⟨ga,i*3+2,none⟩=false:=by
     obtain ⟨xs,hr⟩:=(HL.out.keep hUw (by simp) (by simp)).row;exact aci hr _
    obtain ⟨q,k⟩:=u
    simp only at *
    generalize q.ws.length=UW at *;generalize q.n=un at *;clear hu htu hno hU
    have HX2:Hid (∀ x:World,Upd [] wr x->x.cell? ⟨m,3,none⟩=some (.slice (some ⟨ga,0,none⟩) M.held.length fc)/\x.cell? ⟨ga,i*3,none⟩=some (.int .i64 un)/\x.cell? ⟨ga,i*3+1,none⟩=some (.slice ua UW uc)/\x.cell? ⟨w.heap.size,0,none⟩=some (.int .i64 n)/\x.cell? ⟨w.heap.size,1,none⟩=some (.slice ta W tc)):=fun x u=>⟨u.cell0 d3,u.cell0 x0,u.cell0 x1,u.cell0 y0,u.cell0 y1⟩
    go_wp2_with fail
    go_region_held3 (fun w'=>w'.cell? ⟨m,3,none⟩=some (.slice (some ⟨ga,0,none⟩) M.held.length fc)/\w'.cell? ⟨ga,i*3,none⟩=some (.int .i64 un)/\w'.cell? ⟨ga,i*3+1,none⟩=some (.slice ua UW uc)/\w'.cell? ⟨w.heap.size,0,none⟩=some (.int .i64 n)/\w'.cell? ⟨w.heap.size,1,none⟩=some (.slice ta W tc)) (first | exact HX2.out _ (Upd.refl _ _).drew | exact HX2.out _ HS2.out) (first | (go_at_call 122;refine HS1.out.mono ?_;rintro e w5 ⟨rfl,hu⟩;have HS2:=Lib.hid hu.of_drew;clear hu))
    have k2:=HS2.out.cell0 x2;have k3:=HS2.out.cell0 d3;have g2:w5.frozen? ⟨ga,i*3+2,none⟩=false:=(HS2.out.frozen (World.block_lt_of_cell? _ _ x2) (by simp)).trans fz2;have HU5:=Lib.hid (HNN.out.2.2.trans HS2.out);have hw1:IntKind.i64.wrap ((k:Int)+1)=(k:Int)+1:=IntWalk.i64_in _ (by omega);clear HS1 HX2 x0 x1 x2 y0 y1 d3 fz2
    by_cases he:q=t
    ·rw [decide_eq_true he]
     have HH:Hid (M.holds t=k):=by show _=k;exact ayz HNN.out.1 he HNN.out.2.1
     have HIN:Hid (an0 M.held t=M.held.set i (q,k+1)):=by show _=_;exact aGt HNN.out.1 he HNN.out.2.1
     clear he
     by_cases hf:65535<=k
     ·have hfd:decide ((65535:Int)<=(k:Int))=true:=by simp;omega
      have HX:Hid (M.hold1E t=8/\M.hold1 t=M):=⟨by unfold MV.hold1E;rw [if_neg (by rw [HC.out];simp),HH.out,if_pos hf],by unfold MV.hold1;rw [if_neg (by rw [HC.out];simp),HH.out,if_pos hf]⟩;clear hf;go_wp2_with fail;go_ret;exact ⟨by rw [HX.out.1];rfl,by rw [HX.out.2];exact agq.same HM.out (HU.out.trans HU5.out)⟩
     ·have hfd:decide ((65535:Int)<=(k:Int))=false:=by simp;omega
      have HX:Hid (M.hold1E t=0/\M.hold1 t={ M with held:=M.held.set i (q,k+1) }):=⟨by unfold MV.hold1E;rw [if_neg (by rw [HC.out];simp),HH.out,if_neg hf],by unfold MV.hold1;rw [if_neg (by rw [HC.out];simp),HH.out,if_neg hf,HIN.out]⟩;have HE:=Lib.hid (agq.setCount (k:=k+1) HM.out (HU.out.trans HU5.out) HFV.out HNN.out.1);clear hf;go_wp2_with fail;go_ret;exact ⟨by rw [HX.out.1];rfl,by rw [HX.out.2];exact HE.out⟩
    ·rw [decide_eq_false he]
     have HE:Hid (∀ h,h∈M.held.take (i+1)->h.1≠t):=fun h hh=>by
      rw [List.take_add_one,HNN.out.1] at hh
      rcases List.mem_append.1 hh with hh | hh
      ·exact HNN.out.2.1 h hh
      ·simp at hh;subst hh;exact he
     clear he k2 k3 g2;go_wp2_with fail
     go_roundg (M.held.length-(i+1))
     case measure=>omega
     case rel=>exact ⟨i+1,rfl,by omega,by simp,HE.out,HU5.out⟩
   ·obtain rfl:i=M.held.length:=by omega
    have hil:¬ ((M.held.length:Int)<(M.held.length:Int)):=by omega
    rw [List.take_length] at hno
    have HX:Hid (M.hold1E t=0/\M.hold1 t={ M with held:=M.held++[(t,1)] }):=by
     have h0:M.holds t=0:=ayA hno;exact ⟨by unfold MV.hold1E;rw [if_neg (by rw [HC.out];simp),h0,if_neg (by omega)],by unfold MV.hold1;rw [if_neg (by rw [HC.out];simp),h0,if_neg (by omega),aGu hno]⟩
    obtain ⟨y0,y1⟩:=HB.out _ (HUB.out.trans hU);obtain ⟨xs,abP⟩:=(HL.out.keep hUw (by simp) (by simp)).row;have aep:=Lib.hid abP;have HUW:=Lib.hid hUw;have hbm:=hUw.block m (aa4 HM.out.blk) (by simp);rw [HM.out.blk] at hbm;have hlm:=aa4 hbm;have fz:=abq 3 hbm
    have HC2:Hid (∀ u,u∈[Value.int .i64 n,Value.slice ta W tc,Value.int .i64 1]->u.oneCell'=true):=by
     intro u hu;simp at hu;rcases hu with rfl | rfl | rfl <;> rfl
    have HN':Hid (∀ (j:Nat) u,[Value.int .i64 n,Value.slice ta W tc,Value.int .i64 1][j]?=some u->(wr.alloc (.cells #[Value.int .i64 n,Value.slice ta W tc,Value.int .i64 1] 255 (0,0))).cell? ((⟨wr.heap.size,0,none⟩ : Addr).add j)=some u):=World.news_of_block (heap_alloc_new wr _)
    have HK:Hid (∀ w2:World,(wr.alloc (.cells #[Value.int .i64 n,Value.slice ta W tc,Value.int .i64 1] 255 (0,0))).grownBy w2 (Value.slice fa M.held.length fc).ownBlock->w2.cell? ⟨m,3,none⟩=some (.slice fa M.held.length fc)/\w2.frozen? ⟨m,3,none⟩=false):=fun w2 hg=>by
     have hmt:some m≠(Value.slice fa M.held.length fc).ownBlock:=fun e=>by
      obtain ⟨c1,f1,e1⟩:=acE aep.out e.symm;rw [hbm] at e1
      injection e1 with e1
      injection e1 with _ e1 _
      exact absurd e1 (by decide)
     have h2:w2.heap[m]?=_:=(hg.block m (by rw [World.size_alloc];omega) hmt).trans ((Below.heap_alloc _ _ _ hlm).trans hbm);exact ⟨by rw [<- HFV.out];exact aac h2 rfl,abq 3 h2⟩
    clear hno hU hUw abP hbm;go_wp2_with fail
    go_region_law (refine step_append_lies _ rfl (.tmp 51) (.tmp 54) 51 rfl 0 255 ti _ 3 40 Tryz.underlying51 HI.out.1 HI.out.2.1 HI.out.2.2.1 HI.out.2.2.2 (by rfl) (by decide) _ M.held.length xs rfl (akR (akR (aep.out.alloc _))) ⟨wr.heap.size,0,none⟩ 1 1 [.int .i64 n,.slice ta W tc,.int .i64 1] rfl rfl HN'.out HC2.out (by omega) (by unfold maxLen;omega) (by omega) (by omega) _ rfl ?_;intro g5 cap w5 ab3 hgr hat ajb;have aPf:(wr.alloc (.cells #[Value.int .i64 n,Value.slice ta W tc,Value.int .i64 1] 255 (0,0))).grownBy w5 (Value.slice fa M.held.length fc).ownBlock:=⟨hgr.os,hgr.tape,hgr.output,hgr.size,hgr.block⟩;have ayE:(Value.slice fa M.held.length fc).ownBlock=some g5\/g5=wr.heap.size+1:=(hat.imp id (fun e=>(by first | (rw [e];done) | (rw [e];show (wr.alloc _).heap.size=_;rw [World.size_alloc]))));obtain ⟨k1,k2⟩:=HK.out w5 aPf;have HX5:=Lib.hid (And.intro ab3 (And.intro aPf ayE));clear ab3 hgr hat aPf ayE)
    all_goals (
     have HE:=Lib.hid (agq.pushHeld (k:=1) HM.out HUW.out HFV.out HT.out aep.out HX5.out.2.1 HX5.out.2.2 (by rw [HN.out.2];exact HX5.out.1));go_wp2_with fail;go_ret;refine ⟨by rw [HX.out.1];rfl,?_⟩;rw [HX.out.2];obtain ⟨p',e1,e2,e3⟩:=HE.out.ex
     first | exact ⟨p',e1,e2,e3⟩ | exact ⟨p',e1.keep0 (Upd.refl _ _).drew,e2.drew,e3⟩)
def MV.new (n c:Nat):MV:=⟨n,c,List.range n,[],[]⟩
structure aRI (n c:Nat) (w:World) (e:Ending) (w':World):Prop where
 ex:∃ (m:Nat) (p:acd),e=.returned (.pointer (some ⟨m,0,none⟩))/\w.heap.size<=m/\aef w' m (MV.new n c) p (p.all m)/\Upd [] w w'/\Sub [] w (p.all m)
theorem azX (n c:Nat) (w:World) (hn:n<=64) (_hc:c<=1048576) :
  Calls Tryz.prog 51 #[.int .i64 n,.int .i64 c] w fun e w'=>aRI n c w e w':=by
 obtain ⟨ti,hi2,hz2,hs2,hb2⟩:=info_parts Tryz.infoIntM;have HI:=Lib.hid (And.intro hi2 (And.intro hz2 (And.intro hs2 hb2)));have hbx:=heap_alloc_new w (.cells #[.int .i64 n,.int .i64 c,.slice none 0 0,.slice none 0 0,.slice none 0 0] 53 (0,0));have HBX:=Lib.hid hbx;have HU0:=Lib.hid ((Upd.refl [] w).alloc (.cells #[.int .i64 n,.int .i64 c,.slice none 0 0,.slice none 0 0,.slice none 0 0] 53 (0,0)));clear hi2 hz2 hs2 hb2 hbx
 go_enter Tryz.func51,Tryz.ntmps51
 go_wp2_with fail
 go_loopg [6] n (fun g s6 wr=>∃ (i:Nat) (ov:Value),n-i=g/\i<=n/\s6=.int .i64 i/\wr.heap[w.heap.size]?=some (.cells #[.int .i64 n,.int .i64 c,ov,.slice none 0 0,.slice none 0 0] 53 (0,0))/\wr.ownsRow w.heap.size 3 1 ov i (acf (List.range i))/\Upd [] w wr)
 case atStart=>exact ⟨0,.slice none 0 0,by omega,by omega,rfl,HBX.out,World.ownsRow_nil _ _ _ _,HU0.out⟩
 case round =>
  obtain ⟨i,ov,rfl,hi,rfl,hB,hR,hU⟩:=hrel
  by_cases hlt:i<n
  ·have hil:(i:Int)<(n:Int):=by omega
   have c2:wr.cell? ⟨w.heap.size,2,none⟩=some ov:=aac hB rfl
   have hov:ov.ownBlock≠some w.heap.size:=fun e=>by
    obtain ⟨c1,f1,e1⟩:=acE hR e;rw [hB] at e1
    injection e1 with e1
    injection e1 with _ e1 _
    exact absurd e1 (by decide)
   have HB:=Lib.hid hB;have HR:=Lib.hid (And.intro hR (And.intro hU hov));have hbl:=aa4 hB
   have HC2:Hid (∀ u,u∈[Value.int .i64 i]->u.oneCell'=true):=by intro u hu;simp at hu;subst hu;rfl
   clear hB hR hU hov
   go_wp2_with (at_builtin;go_must (refine wpList_append_lies _ rfl (.tmp 20) (.tmp 22) 23 rfl w.heap.size 3 ti _ 1 8 Tryz.underlying23 HI.out.1 HI.out.2.1 HI.out.2.2.1 HI.out.2.2.2 (by rfl) (by decide) _ i (acf (List.range i)) rfl (HR.out.1.alloc _) ⟨wr.heap.size,0,none⟩ 1 1 [.int .i64 i] rfl rfl ?c1 HC2.out (by omega) (by unfold maxLen;omega) (by omega) (by rw [World.size_alloc];omega) _ rfl ?_))
   case c1=>exact World.news_of_block (heap_alloc_new wr (.cells #[.int .i64 i] 3 (0,0)))
   intro g5 cap w5 ab3 hgr hat ajb
   have hb5:w5.heap[w.heap.size]?=some (.cells #[.int .i64 n,.int .i64 c,ov,.slice none 0 0,.slice none 0 0] 53 (0,0)):=by
    rw [hgr.block w.heap.size (by rw [World.size_alloc];omega) (fun e=>HR.out.2.2 e.symm),Below.heap_alloc _ _ _ hbl];exact HB.out
   have fz:w5.frozen? ⟨w.heap.size,2,none⟩=false:=abq 2 hb5;have k2:w5.cell? ⟨w.heap.size,2,none⟩=some ov:=aac hb5 rfl;have hb7:=abV (j:=2) hb5 (.slice (some ⟨g5,0,none⟩) (i+1) cap)
   have hg5:g5≠w.heap.size:=fun e=>by
    subst e;obtain ⟨c1,f1,e1⟩:=acE ab3 rfl;rw [hb5] at e1
    injection e1 with e1
    injection e1 with _ e1 _
    exact absurd e1 (by decide)
   have HE:Hid ((w5.setCell ⟨w.heap.size,2,none⟩ (.slice (some ⟨g5,0,none⟩) (i+1) cap)).heap[w.heap.size]?=some (.cells #[.int .i64 n,.int .i64 c,.slice (some ⟨g5,0,none⟩) (i+1) cap,.slice none 0 0,.slice none 0 0] 53 (0,0)) /\
     (w5.setCell ⟨w.heap.size,2,none⟩ (.slice (some ⟨g5,0,none⟩) (i+1) cap)).ownsRow w.heap.size 3 1 (.slice (some ⟨g5,0,none⟩) (i+1) cap) (i+1) (acf (List.range (i+1))) /\
     Upd [] w (w5.setCell ⟨w.heap.size,2,none⟩ (.slice (some ⟨g5,0,none⟩) (i+1) cap))):=by
    refine ⟨hb7,?_,?_⟩
    ·have e:acf (List.range (i+1))=acf (List.range i)++[.int .i64 i]:=by simp [acf,List.range_succ]
     rw [e];exact ac9 ab3 (by simp only [Value.ownBlock,ne_eq,Option.some.injEq];exact fun e=>hg5 e.symm) _
    ·exact ((HR.out.2.1.alloc (.cells #[.int .i64 i] 3 (0,0))).grown hgr fun k hk=>.inr (HR.out.1.lt k hk).1).setCell (p:=⟨w.heap.size,2,none⟩) (.inr (Nat.le_refl _)) _
   clear ab3 hgr hat ajb hb5 hb7 hg5;go_wp2_with fail
   go_roundg (n-(i+1))
   case measure=>omega
   case rel=>exact ⟨i+1,_,rfl,by omega,by simp,HE.out.1,HE.out.2.1,HE.out.2.2⟩
  ·obtain rfl:i=n:=by omega
   have hil:¬ ((i:Int)<(i:Int)):=by omega
   have HE:Hid (aRI i c w (.returned (.pointer (some ⟨w.heap.size,0,none⟩))) wr):=by
    refine ⟨w.heap.size,⟨ov,.slice none 0 0,.slice none 0 0⟩,rfl,Nat.le_refl _,⟨hB,?_,⟨[],rfl,World.ownsRow_nil _ _ _ _,fun j h d hj=>by simp [MV.new] at hj⟩,World.ownsRow_nil _ _ _ _,fun k _ hk=>by simp [Value.ownBlock] at hk,fun k hk=>hk⟩,hU,fun k hk=>.inr ?_⟩
    ·show wr.ownsRow 0 _ 1 ov (List.range i).length (acf (List.range i))
     rw [List.length_range];exact aet hR (Nat.zero_le _)
    ·rcases acd.mem.1 hk with rfl | h | h | h
     ·exact Nat.le_refl _
     ·exact (hR.lt k h).1
     ·simp [Value.ownBlock] at h
     ·simp [Value.ownBlock] at h
   clear hB hR hU;go_wp2_with fail;go_ret;exact HE.out
end Go.Proofs.YtdackeldhdchaaaGreat
namespace Go.Proofs.YtdackeldhdchaaaGreat
def aFq (K:KV) (S:((Nat->Bool)->Bool)->Prop) (t:(Nat->Bool)->Bool) (r:Nat) (code:Int) (K':KV):Prop :=
 (code=0/\K.Ext K'/\K'.A.tk r=true/\(∀ y,K'.den r y=t y)/\(∀ x,K'.hold x=K.hold x+if x=r/\2<=r then 1 else 0)/\∀ x,K'.A.tk x=true->K.A.tk x=false->S (K'.den x)) \/
 (code=9/\r=0/\K.Ext K'/\K'.Ext K/\(∀ x,K'.hold x=K.hold x)/\aqX K S)
theorem KV.Ext.subN {K K':KV} (h:K.Ext K') {t g:(Nat->Bool)->Bool}:K'.SubN t g↔K.SubN t g:=by
 constructor
 ·rintro ⟨l,a,e⟩;exact ⟨l,a,fun x=>by rw [e,h.mix]⟩
 ·rintro ⟨l,a,e⟩;exact ⟨l,a,fun x=>by rw [e,h.mix]⟩
theorem aqX.back {K K':KV} {S:((Nat->Bool)->Bool)->Prop} (hw:K'.Wf []) (e:K.Ext K') (hn:∀ x,K'.A.tk x=true->K.A.tk x=false->S (K'.den x)) (h:aqX K' S):aqX K S:=by
 obtain ⟨K1,g,k1,u1,ext,new,hus,hg,hx⟩:=h;refine ⟨K1,g,k1,u1,e.trans ext,fun x h1 h2=>?_,hus,hg,hx⟩
 cases h3:K'.A.tk x with
 | false=>exact new x h1 h3
 | true =>
  have e1:K1.den x=K'.den x:=funext fun y=>ext.den hw y h3
  rw [e1];exact hn x h3 h2
structure Split (K:KV) (t:TV) (v:Nat):Prop where
 ok:t.Ok
 n:t.n=K.vars
 vn:v<K.vars
 dep:anJ t v=true
 no:∀ x,x<K.vars->K.lev x<K.lev v->anJ t x=false
theorem Split.fn {K:KV} {t:TV} {v:Nat} (h:Split K t v) (y:Nat->Bool):t.fn y=if y v then (aee t v true).fn y else (aee t v false).fn y:=by
 rw [ahb (by rw [h.n];exact h.vn),ahb (by rw [h.n];exact h.vn)]
 cases hb:y v with
 | true=>rw [if_pos rfl];congr 1;rw [<- hb,aCa]
 | false=>rw [if_neg (by simp)];congr 1;rw [<- hb,aCa]
theorem ayF {K:KV} {t:TV} {v:Nat} (h:Split K t v) (b:Bool) {x:Nat} (hx:x<K.vars) (hl:K.lev x<K.lev v\/x=v):¬ ahP (aee t v b).fn x:=by
 rintro ⟨y,hy⟩;refine hy ?_;rw [ahb (by rw [h.n];exact h.vn),ahb (by rw [h.n];exact h.vn)]
 by_cases e:x=v
 ·subst e
  congr 1
  funext u;simp only [upd];by_cases hu:u=x <;> simp [hu]
 ·have hno:=h.no x hx (hl.resolve_right e)
  have hnh:¬ ahP t.fn x:=fun hh=>by
   have:=(ajo h.ok (by rw [h.n];exact hx)).2 hh
   rw [hno] at this;cases this
  have key:∀ (z:Nat->Bool) (c d:Bool),t.fn (upd z x c)=t.fn (upd z x d):=fun z c d=>by
   have e1:t.fn (upd z x true)=t.fn (upd z x false):=by
    by_cases e1:t.fn (upd z x true)=t.fn (upd z x false)
    ·exact e1
    ·exact absurd ⟨z,e1⟩ hnh
   cases c <;> cases d <;> first | rfl | exact e1 | exact e1.symm
  have sw:∀ c,upd (upd y x c) v b=upd (upd y v b) x c:=fun c=>by
   funext u;simp only [upd]
   by_cases h1:u=v
   ·subst h1;simp [Ne.symm e]
   ·simp [h1]
  rw [sw,sw];exact key _ _ _
theorem Split.below {K:KV} {t:TV} {v:Nat} (h:Split K t v) {K':KV} (e:K.Ext K') (hk:K'.Ok) (hu:K'.Uni) {r:Nat} {b:Bool} (ht:K'.A.tk r=true) (hd:∀ y,K'.den r y=(aee t v b).fn y):K'.lev v<K'.dep r:=by
 by_cases h2:2<=r
 ·obtain ⟨u,hun,hud,hh,_⟩:=hk.node_hangs hu h2 ht
  have hf:K'.den r=(aee t v b).fn:=funext hd;rw [hf] at hh;rw [hud]
  by_cases hlt:K'.lev v<K'.lev u
  ·exact hlt
  ·exfalso
   rw [e.vr] at hun;refine ayF h b hun ?_ hh;rw [e.lev,e.lev] at hlt
   by_cases e1:K.lev u<K.lev v
   ·exact .inl e1
   ·right
    have p:=hk.ord.pm;exact p.inj (by rw [e.vr];exact hun) (by rw [e.vr];exact h.vn) (by rw [e.lev,e.lev];omega)
 ·rw [hk.wf.dep_const (by omega)]
  exact (hk.ord.pm.lo v (by rw [e.vr];exact h.vn)).1
theorem Split.ne {K:KV} {t:TV} {v:Nat} (h:Split K t v) {K':KV} {a b:Nat} (ha:∀ y,K'.den a y=(aee t v false).fn y) (hb:∀ y,K'.den b y=(aee t v true).fn y):a≠b:=by
 rintro rfl;obtain ⟨y,hy⟩:=(ajo h.ok (by rw [h.n];exact h.vn)).1 h.dep;refine hy ?_;have:=(ha y).symm.trans (hb y);rw [ahb (by rw [h.n];exact h.vn),ahb (by rw [h.n];exact h.vn)] at this;exact this.symm
theorem Split.sub {K:KV} {t:TV} {v:Nat} (h:Split K t v) (hp:K.Perm) {b:Bool} {g:(Nat->Bool)->Bool} (hg:K.SubN (aee t v b).fn g):K.SubN t.fn g:=by
 obtain ⟨l,a,e⟩:=hg;have hlv:=(hp.lo v h.vn).1;refine ⟨max l (K.lev v+1),upd (fun u=>if K.lev u<K.lev v+1 then false else a u) v b,fun x=>?_⟩
 rw [e,<- amw hp (g:=(aee t v b).fn) (K.lev v+1) (by omega) (fun u hu hl=>ayF h b hu (by
  by_cases e1:K.lev u<K.lev v
  ·exact .inl e1
  ·exact .inr (hp.inj hu h.vn (by omega)))) (fun _=>false),ahb (by rw [h.n];exact h.vn)]
 refine TV.fn_same t fun u hu=>?_
 rw [h.n] at hu
 simp only [upd,KV.mix]
 by_cases e1:u=v
 ·subst e1;simp [hu];omega
 ·rw [if_neg e1]
  by_cases h1:K.lev u<K.lev v+1
  ·rw [if_pos ⟨hu,h1⟩,if_pos ⟨hu,by omega⟩,if_neg e1,if_pos h1]
  ·rw [if_neg fun k=>h1 k.2]
   by_cases h2:K.lev u<l
   ·rw [if_pos ⟨hu,h2⟩,if_pos ⟨hu,by omega⟩,if_neg e1,if_neg h1]
   ·rw [if_neg fun k=>h2 k.2,if_neg (by omega)]
theorem Split.nodep {K:KV} {t:TV} {v:Nat} (h:Split K t v) (hp:K.Perm) (b:Bool) {d:Nat} (hd:d+K.lev v+1=K.vars) {u:Nat} (hu:u<K.vars) (hl:K.lev u+d<K.vars):anJ (aee t v b) u=false:=by
 cases e:anJ (aee t v b) u with
 | false=>rfl
 | true =>
  exfalso
  refine ayF h b hu ?_ ((ajo (aoW h.ok v b) (by show u<t.n;rw [h.n];exact hu)).1 e)
  by_cases e1:K.lev u<K.lev v
  ·exact .inl e1
  ·exact .inr (hp.inj hu h.vn (by omega))
theorem aJk {K K2 K3:KV} {t:TV} {v a b r:Nat} {code:Int} {S:((Nat->Bool)->Bool)->Prop} (h:Split K t v) (e2:K.Ext K2) (k2:K2.Ok) (u2:K2.Uni) (ta:K2.A.tk a=true) (tb:K2.A.tk b=true)
  (da:∀ y,K2.den a y=(aee t v false).fn y) (db:∀ y,K2.den b y=(aee t v true).fn y) (hh:∀ x,K2.hold x<65535) (hS:S t.fn) (hn:∀ x,K2.A.tk x=true->K.A.tk x=false->S (K2.den x)) (k3:K3.Ok) (M:amB K2 (v:Int) a b r code K3) :
  (code=0/\K2.Ext K3/\K3.A.tk r=true/\(∀ y,K3.den r y=t.fn y)/\(∀ x,K3.hold x=K2.hold x+if x=r/\2<=r then 1 else 0)/\∀ x,K3.A.tk x=true->K.A.tk x=false->S (K3.den x)) \/
  (code=9/\r=0/\K3=K2/\aqX K S):=by
 have la:=h.below e2 k2 u2 ta da;have lb:=h.below e2 k2 u2 tb db;have hne:=h.ne da db
 have hvn:v<K2.vars:=by rw [e2.vr];exact h.vn
 have aVE:K2.fitsE v a b=0:=by
  unfold KV.fitsE
  have hiv:K2.isVar (v:Int)=true:=by simp [KV.isVar];omega
  rw [if_neg (by rw [hiv];simp),if_neg (by rw [ta,tb];simp),if_neg];rintro ⟨_,h2⟩;refine h2 ?_
  rw [Int.toNat_natCast];omega
 have dn:∀ y,t.fn y=if y v then K2.den b y else K2.den a y:=fun y=>by rw [h.fn,da,db]
 cases M with
 | bad h0=>exact absurd aVE h0
 | @full r h0 hs hm=>have:=hh r;omega
 | @old r h0 hs hm =>
  left
  rcases hs with ⟨e,_⟩ | ⟨_,hat⟩
  ·exact absurd e hne
  ·rw [Int.toNat_natCast] at hat
   have ht:=hat.tk;have hkp:=(k2.kept ht hm).2;refine ⟨rfl,hkp.ext,by rw [hkp.A];exact ht,fun y=>?_,fun x=>by rw [hkp.hd];by_cases e:x=r/\2<=r <;> simp [e],fun x h1 h2=>?_⟩
   ·rw [hkp.ext.den k2.wf y ht,hat.den k2,dn]
   ·rw [hkp.A] at h1
    have e1:(K2.keepK r).den x=K2.den x:=funext fun y=>hkp.ext.den k2.wf y h1
    rw [e1];exact hn x h1 h2
 | nodes h0 hne' hno hus =>
  right
  simp only [Int.toNat_natCast] at hno
  refine ⟨rfl,rfl,rfl,K2,t.fn,k2,u2,e2,hn,hus,hS,fun x hx hd=>?_⟩;exact hno x (KV.node_unique k2 u2 hvn ta tb la lb hne hx fun y=>by rw [hd,dn])
 | @new r K' h0 hne' hno hm =>
  left;rw [Int.toNat_natCast] at hm
  have hdr:∀ y,K3.den r y=t.fn y:=fun y=>by
   have hat:K3.At r v a b:=⟨hm.two,_,hm.at_,rfl,rfl,rfl,rfl⟩;rw [hat.den k3,hm.ext.den k2.wf y ta,hm.ext.den k2.wf y tb,dn]
  refine ⟨rfl,hm.ext,by rw [hm.tk];simp,hdr,fun x=>?_,fun x h1 h2=>?_⟩
  ·rw [hm.hd]
   by_cases e:x=r
   ·subst e
    have h9:K2.hold x=0:=by
     by_cases h9:K2.hold x=0
     ·exact h9
     ·have:=(k2.wf.ht x (by omega)).2
      rw [hm.no] at this;cases this
    simp [hm.two,h9]
   ·simp [e]
  ·rw [hm.tk] at h1
   by_cases e:x=r
   ·subst e
    have e1:K3.den x=t.fn:=funext hdr
    rw [e1];exact hS
   ·simp [e] at h1
    have e1:K3.den x=K2.den x:=funext fun y=>hm.ext.den k2.wf y h1
    rw [e1];exact hn x h1 h2
theorem aMy {K K3 K5:KV} {r:Nat} {S:((Nat->Bool)->Bool)->Prop} {t:(Nat->Bool)->Bool} (k0:K.Ok) (k5:K5.Ok) (e3:K.Ext K3) (e5:K5.Ext K3) (dr:∀ y,K3.den r y=t y) (hd:∀ x,K5.hold x=K.hold x+if x=r/\2<=r then 1 else 0)
  (hn:∀ x,K3.A.tk x=true->K.A.tk x=false->S (K3.den x)):aFq K S t r 0 K5:=by
 left
 have e:K.Ext K5:=ayG k0 k5 e3 e5 fun x hx=>by rw [hd];omega
 have tr5:K5.A.tk r=true:=by
  by_cases h2:2<=r
  ·exact (k5.wf.ht r (by rw [hd];simp [h2])).2
  ·exact k5.tk_const (by omega)
 refine ⟨rfl,e,tr5,fun y=>?_,hd,fun x h1 h2=>?_⟩
 ·rw [<- e5.den k5.wf y tr5];exact dr y
 ·have h3:=e5.tk h1
  have e1:K3.den x=K5.den x:=funext fun y=>e5.den k5.wf y h1
  rw [<- e1];exact hn x h3 h2
theorem aGw {K K2 K5:KV} {S:((Nat->Bool)->Bool)->Prop} {t:(Nat->Bool)->Bool} (k0:K.Ok) (k5:K5.Ok) (e2:K.Ext K2) (e5:K5.Ext K2) (hd:∀ x,K5.hold x=K.hold x) (hno:aqX K S):aFq K S t 0 9 K5:=by
 right;exact ⟨rfl,rfl,ayG k0 k5 e2 e5 fun x hx=>by rw [hd];exact hx,ayG k5 k0 e5 e2 fun x hx=>by rw [<- hd];exact hx,hd,hno⟩
end Go.Proofs.YtdackeldhdchaaaGreat
namespace Go.Proofs.YtdackeldhdchaaaGreat
open Go.RowKit Go.Maps Go.ChangeMaps Go.WideShapes
theorem ad1.bF {w:World} {b:Nat} {K:KV} {F:List Nat} (h:ad1 w b K F):b∈F:=by
 obtain ⟨T,q,_,rfl⟩:=h;exact abM.mem.2 (.inl rfl)
structure Stp (F:List Nat) (w:World) (F':List Nat) (w':World):Prop where
 up:Upd F w w'
 sub:Sub F w F'
theorem Stp.trans {F F1 F2:List Nat} {w w1 w2:World} (h:Stp F w F1 w1) (k:Stp F1 w1 F2 w2):Stp F w F2 w2 :=
 ⟨h.up.then k.up h.sub,fun x hx=>(k.sub x hx).elim (h.sub x) fun h2=>.inr (Nat.le_trans h.up.size h2)⟩
theorem Stp.of0 {F:List Nat} {w w1:World} (h:Upd [] w w1):Stp F w F w1:=⟨h.mono (by simp),Sub.refl _ _⟩
theorem aMz (b:Nat) (v:Int) (lo hi:Nat) (K:KV) (F:List Nat) (w:World) (h:ad1 w b K F) (h1:lo<=4294967295) (h2:hi<=4294967295) :
  Calls Tryz.prog 117 #[.pointer (some ⟨b,0,none⟩),.int .i64 v,.int .u32 lo,.int .u32 hi] w fun e w' =>
   ∃ (r:Nat) (code:Int) (K':KV) (F':List Nat),e=.returned (.tuple #[.int .u32 r,.int .i64 code])/\amB K v lo hi r code K'/\ad1 w' b K' F'/\Upd F w w'/\Sub F w F':=by
 obtain ⟨T,q,hk,rfl⟩:=h;refine (aHh b v lo hi K T q w hk h1 h2).mono ?_;rintro e w' ⟨r,code,K',T',q',rfl,hM,hk',hu,hs⟩;exact ⟨r,code,K',_,rfl,hM,⟨T',q',hk',rfl⟩,hu,hs⟩
theorem aCf (b r:Nat) (K:KV) (F:List Nat) (w:World) (h:ad1 w b K F) (hr:r<=4294967295) (hh:2<=r->0<K.hold r) :
  Calls Tryz.prog 32 #[.pointer (some ⟨b,0,none⟩),.int .u32 r] w fun e w' =>
   ∃ (K':KV) (F':List Nat),e=.returned (.int .i64 0)/\K.Dropped r K'/\ad1 w' b K' F'/\Upd F w w'/\Sub F w F':=by
 obtain ⟨T,q,hk,rfl⟩:=h;refine (aHk b r K T q w hk hr).mono ?_;rintro e w' ⟨code,K',T',q',rfl,hM,hk',hu,hs⟩
 rcases hM with ⟨_,h2,h0,_⟩ | ⟨rfl,_,hD⟩
 ·have:=hh h2;omega
 ·exact ⟨K',_,rfl,hD,⟨T',q',hk',rfl⟩,hu,hs⟩
structure aJl (K:KV) (M:MV):Prop where
 od:M.order=K.order
 n:M.n=K.vars
theorem aJl.ext {K K':KV} {M:MV} (h:aJl K M) (e:K.Ext K'):aJl K' M:=⟨h.od.trans e.od.symm,h.n.trans e.vr.symm⟩
end Go.Proofs.YtdackeldhdchaaaGreat
