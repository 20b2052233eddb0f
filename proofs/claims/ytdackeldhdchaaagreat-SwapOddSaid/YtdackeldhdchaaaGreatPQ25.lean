import Derived.Test.YtdackeldhdchaaaGreatPQ24
import Derived.Deep.DeepCutAuto
set_option maxRecDepth 100000
set_option maxHeartbeats 1600000
namespace Go.Proofs.YtdackeldhdchaaaGreat
open Go.RowKit Go.Maps Go.ChangeMaps Go.WideShapes
theorem Tryz.infoI32:(Tryz.prog.info? 21).map (fun i=>(i.zero,i.size,i.bytes))=some (some (.int .i32 0),1,4):=by kernel_rfl
def KV.padded (K:KV) (j:Nat):KV:={ K with uses:=K.uses++List.replicate j 0,holds:=K.holds++List.replicate j 0 }
def KV.zero (K:KV) (r:Nat):KV:={ K with uses:=K.uses.set r 0,holds:=K.holds.set r 0 }
def KV.useA (K:KV) (r:Nat):KV:=if 2<=r then K.useK r else K
theorem KV.useA_A (K:KV) (r:Nat):(K.useA r).A=K.A:=by unfold KV.useA;split <;> rfl
theorem KV.useA_holds (K:KV) (r:Nat):(K.useA r).holds=K.holds:=by unfold KV.useA;split <;> rfl
theorem KV.useA_vars (K:KV) (r:Nat):(K.useA r).vars=K.vars:=by unfold KV.useA;split <;> rfl
theorem KV.useA_order (K:KV) (r:Nat):(K.useA r).order=K.order:=by unfold KV.useA;split <;> rfl
theorem KV.useA_level (K:KV) (r:Nat):(K.useA r).level=K.level:=by unfold KV.useA;split <;> rfl
theorem KV.useA_trail (K:KV) (r:Nat):(K.useA r).trail=K.trail:=by unfold KV.useA;split <;> rfl
theorem KV.useA_len (K:KV) (r:Nat):(K.useA r).uses.length=K.uses.length:=by unfold KV.useA KV.useK;split <;> simp
theorem KV.useA_hold (K:KV) (r x:Nat):(K.useA r).hold x=K.hold x:=by unfold KV.hold;rw [KV.useA_holds]
theorem KV.useA_use (K:KV) (r x:Nat) (h:2<=r->r<K.uses.length):(K.useA r).use x=K.use x+(if r=x/\2<=x then 1 else 0):=by
 unfold KV.useA;split
 ·rename_i h2
  show (K.uses.set r (K.use r+1)).getD x 0=_
  rw [afx (h h2)]
  by_cases e:x=r
  ·subst e;simp [h2]
  ·simp [e,Ne.symm e];rfl
 ·rename_i h2
  have:¬ (r=x/\2<=x):=by rintro ⟨rfl,h⟩;exact h2 h
  simp [this]
theorem azk (l:List Nat) (j x:Nat):(l++List.replicate j 0).getD x 0=l.getD x 0:=by
 simp only [List.getD_eq_getElem?_getD,List.getElem?_append]
 split
 ·rfl
 ·rename_i h
  rw [show l[x]?=none from List.getElem?_eq_none (by omega),List.getElem?_replicate]
  split <;> rfl
theorem KV.took_of {K:KV} {v:Int} {lo hi r j:Nat} {A':aaU} {P:List Nat} (hfr:aoo K.A v lo hi r A') (hw:K.Wf P) (h1:K.A.tk lo=true) (h2:K.A.tk hi=true) (hj:r<K.uses.length+j) (hj2:K.uses.length+j<=A'.list.length) :
  K.Took v lo hi r ((((({ K with A:=A' }:KV).padded j).zero r).useA lo).useA hi):=by
 have hz:((({ K with A:=A' }:KV).padded j).zero r).uses.length=K.uses.length+j:=by simp [KV.zero,KV.padded]
 have L1:2<=lo->lo<K.uses.length:=fun h=>hw.tu lo h h1
 have L2:2<=hi->hi<K.uses.length:=fun h=>hw.tu hi h h2
 refine ⟨by rw [KV.useA_A,KV.useA_A];exact hfr,?_,?_,?_,?_,?_,?_,?_,?_⟩
 ·rw [KV.useA_len,KV.useA_len,hz,KV.useA_A,KV.useA_A]
  exact ⟨by omega,hj,hj2⟩
 ·rw [KV.useA_holds,KV.useA_holds,KV.useA_len,KV.useA_len]
  have:=hw.len
  simp [KV.zero,KV.padded,this]
 ·intro x
  rw [KV.useA_use _ _ _ (by rw [KV.useA_len,hz];intro h;have:=L2 h;omega),KV.useA_use _ _ _ (by rw [hz];intro h;have:=L1 h;omega)]
  congr 2
  show ((K.uses++List.replicate j 0).set r 0).getD x 0=_
  rw [afx (by simp;omega),azk];rfl
 ·intro x
  rw [KV.useA_hold,KV.useA_hold]
  show ((K.holds++List.replicate j 0).set r 0).getD x 0=_
  rw [afx (by have:=hw.len;simp;omega),azk];rfl
 ·rw [KV.useA_vars,KV.useA_vars];rfl
 ·rw [KV.useA_order,KV.useA_order];rfl
 ·rw [KV.useA_level,KV.useA_level];rfl
 ·rw [KV.useA_trail,KV.useA_trail];rfl
theorem aCu (b r:Nat) (K:KV) (T:List DM) (q:abM) (w:World) (h:abv w b K T q) (hr:2<=r->r<K.uses.length) (hb:2<=r->K.use r+1<=2147483647) (amm:r<=4294967295) :
  Calls Tryz.prog 147 #[.pointer (some ⟨b,0,none⟩),.int .u32 r] w fun e w'=>e=.returned (.tuple #[])/\abv w' b (K.useA r) T q/\Upd (q.all b) w w':=by
 by_cases h2:2<=r
 ·refine (aKO b r K T q w h h2 (hr h2) (hb h2) amm).mono ?_
  rintro e w' ⟨a1,a2,a3⟩;exact ⟨a1,by unfold KV.useA;rw [if_pos h2];exact a2,a3⟩
 ·refine (aIa b r w (by omega)).mono ?_
  rintro e w' ⟨a1,rfl⟩;exact ⟨a1,by unfold KV.useA;rw [if_neg h2];exact h,Upd.refl _ _⟩
structure aLf (w:World) (b:Nat) (q0:abM) (v lo hi B:Nat) (K1:KV) (T:List DM) (j:Nat) (wr:World) (q:abM):Prop where
 mem:abv wr b (K1.padded j) T q
 up:Upd (q0.all b) w wr
 sub:Sub (q0.all b) w (q.all b)
 qe:q.a=q0.a/\q.t=q0.t
 bx:wr.heap[B]?=some (.cells #[.int .i64 v,.int .u32 lo,.int .u32 hi] 142 (0,0))
 bn:B∉q.all b
structure azl (w:World) (b:Nat) (q0:abM) (v lo hi B:Nat) (KK:KV) (T:List DM) (wr:World) (q:abM):Prop where
 mem:abv wr b KK T q
 up:Upd (q0.all b) w wr
 sub:Sub (q0.all b) w (q.all b)
 bx:wr.heap[B]?=some (.cells #[.int .i64 v,.int .u32 lo,.int .u32 hi] 142 (0,0))
 bn:B∉q.all b
theorem azl.step {w w1 w2:World} {b v lo hi B:Nat} {q0 q q':abM} {K1 K2:KV} {T T':List DM} (h:azl w b q0 v lo hi B K1 T w1 q) (hm:abv w2 b K2 T' q') (hu:Upd (q.all b) w1 w2) (hs:Sub (q.all b) w1 (q'.all b)) :
  azl w b q0 v lo hi B K2 T' w2 q':=by
 have hB:=aa4 h.bx;refine ⟨hm,h.up.then hu h.sub,?_,by rw [hu.block B hB h.bn];exact h.bx,?_⟩
 ·intro k hk
  rcases hs k hk with hk | hk
  ·exact h.sub k hk
  ·have:=h.up.size;right;omega
 ·intro hk
  rcases hs B hk with hk | hk
  ·exact h.bn hk
  ·omega
theorem azl.cells {w w1:World} {b v lo hi B:Nat} {q0 q:abM} {K1:KV} {T:List DM} (h:azl w b q0 v lo hi B K1 T w1 q) :
  w1.cell? ⟨B,0,none⟩=some (.int .i64 v)/\w1.cell? ⟨B,1,none⟩=some (.int .u32 lo)/\w1.cell? ⟨B,2,none⟩=some (.int .u32 hi)/\w1.cell? ⟨b,1,none⟩=some (.pointer (some ⟨q.t,0,none⟩)) :=
 ⟨aac h.bx rfl,aac h.bx rfl,aac h.bx rfl,aac h.mem.blk rfl⟩
theorem aBi (b v lo hi:Nat) (K:KV) (P:List Nat) {X:List Nat} (T:List DM) (D:DM) (q:abM) (w:World) (h:abv w b K T q) (hw:K.Wf P) (ht:afg T K X) (hP:P.length<=1000000000)
  (hv:v<K.vars) (h1:K.A.tk lo=true) (h2:K.A.tk hi=true) (hl1:lo<=4294967295) (hl2:hi<=4294967295) (hD:T[v]?=some D) (hno:Maps.has D (nk v lo hi)=false) (afQ:K.A.used<K.A.places) :
  Calls Tryz.prog 173 #[.pointer (some ⟨b,0,none⟩),.agg #[.int .i64 v,.int .u32 lo,.int .u32 hi]] w fun e w' =>
   ∃ (r:Nat) (K':KV) (q':abM),e=.returned (.int .u32 r)/\K.Took v lo hi r K'/\abv w' b K' (T.set v (D.put (nk v lo hi) (.lit (.int .u32 r)))) q'/\Upd (q.all b) w w'/\Sub (q.all b) w (q'.all b):=by
 have aTP:K.A.checkE v lo hi=0:=by
  have:=hw.vs;unfold aaU.checkE;rw [if_neg (by omega),if_neg (by simp [h1,h2])]
 have hbl:=aa4 h.blk;have HC:=Lib.hid aTP;have HM0:Hid (abv (w.alloc (.cells #[.int .i64 v,.int .u32 lo,.int .u32 hi] 142 (0,0))).drew b K T q):=h.upd (((Upd.refl [] w).alloc _).drew) (by simp)
 obtain ⟨x0,x1,x2,x3⟩ : (w.alloc (.cells #[.int .i64 v,.int .u32 lo,.int .u32 hi] 142 (0,0))).drew.cell? ⟨b,0,none⟩=some (.pointer (some ⟨q.a,0,none⟩)) /\
   (w.alloc (.cells #[.int .i64 v,.int .u32 lo,.int .u32 hi] 142 (0,0))).drew.cell? ⟨w.heap.size,0,none⟩=some (.int .i64 v) /\
   (w.alloc (.cells #[.int .i64 v,.int .u32 lo,.int .u32 hi] 142 (0,0))).drew.cell? ⟨w.heap.size,1,none⟩=some (.int .u32 lo) /\
   (w.alloc (.cells #[.int .i64 v,.int .u32 lo,.int .u32 hi] 142 (0,0))).drew.cell? ⟨w.heap.size,2,none⟩=some (.int .u32 hi):=by
  have hn:=heap_alloc_new w (.cells #[.int .i64 v,.int .u32 lo,.int .u32 hi] 142 (0,0));exact ⟨aac HM0.out.blk rfl,aac hn rfl,aac hn rfl,aac hn rfl⟩
 have NB:w.heap.size∉q.all b:=fun hm=>by have:=h.lt _ hm;omega
 have NA:w.heap.size∉q.FA:=fun hm=>NB (abM.mem.2 (.inr (.inl hm)))
 have BA:b∉q.FA:=by intro hm;have e1:=h.ob;have e2:=h.oa b hm;omega
 have HH:=Lib.hid (And.intro hw (And.intro ht (And.intro hD hno)));have HT1:=Lib.hid (And.intro h1 h2);have HRM:=Lib.hid afQ;clear h hw ht hD hno h1 h2 aTP afQ
 go_enter Tryz.func173,Tryz.ntmps173
 go_wp2_with fail
 go_region_held3 (fun w'=>w'.cell? ⟨b,0,none⟩=some (.pointer (some ⟨q.a,0,none⟩))/\w'.cell? ⟨w.heap.size,0,none⟩=some (.int .i64 v)/\w'.cell? ⟨w.heap.size,1,none⟩=some (.int .u32 lo)/\w'.cell? ⟨w.heap.size,2,none⟩=some (.int .u32 hi)) (first | exact ⟨x0,x1,x2,x3⟩ | exact aBU H3.out.2.2.1 x0 x1 x2 x3 BA NA NA NA) (first | (go_at_call 211;refine (aIn q.a q.FA v lo hi K.A _ HM0.out.ar hl1 hl2 HRM.out HC.out).mono ?_;rintro e w3 ⟨r,A',F',rfl,hfr,ha,hu,hs⟩;have H3:=Lib.hid (And.intro hfr (And.intro ha (And.intro hu hs)));clear hfr ha hu hs))
 have HS:Hid (∃ q',aLf w b q v lo hi w.heap.size { K with A:=A' } T 0 w3 q'):=by
  obtain ⟨hfr,ha,hu,hs⟩:=H3.out;have m:=HM0.out.arena ha hu hs
  have hsz:w.heap.size<(w.alloc (.cells #[.int .i64 v,.int .u32 lo,.int .u32 hi] 142 (0,0))).drew.heap.size:=by
   show w.heap.size<(w.alloc _).heap.size
   rw [World.size_alloc];omega
  refine ⟨{ q with FA:=F',o:=aeI q (w.alloc (.cells #[.int .i64 v,.int .u32 lo,.int .u32 hi] 142 (0,0))).drew.heap.size 1 },⟨by simpa [KV.padded] using m,?_,?_,⟨rfl,rfl⟩,?_,?_⟩⟩
  ·exact (((Upd.refl (q.all b) w).alloc _).drew).then hu fun x hx=>.inl (abM.mem.2 (.inr (.inl hx)))
  ·intro k hk
   rcases abM.mem.1 hk with hk | hk | hk
   ·exact .inl (abM.mem.2 (.inl hk))
   ·rcases hs k hk with hk | hk
    ·exact .inl (abM.mem.2 (.inr (.inl hk)))
    ·right;omega
   ·exact .inl (abM.mem.2 (.inr (.inr hk)))
  ·rw [hu.block _ hsz NA];exact heap_alloc_new w _
  ·intro hk
   rcases abM.mem.1 hk with hk | hk | hk
   ·exact NB (abM.mem.2 (.inl hk))
   ·rcases hs _ hk with hk | hk
    ·exact NA hk
    ·omega
   ·exact NB (abM.mem.2 (.inr (.inr hk)))
 have HFR:=Lib.hid H3.out.1;have hrb:=H3.out.1.room;have hul:=HH.out.1.ul;have hll:=H3.out.1.ll;have hlen:=HH.out.1.len;have hap:=HFR.out.ok.lp;have aTQ:=HFR.out.ok.pm;have HF2:=Lib.hid (And.intro hul (And.intro hll (And.intro hlen (And.intro hap aTQ))))
 have a3Y:K.uses.length<=1048576:=by omega
 clear x0 x1 x2 x3 HM0 H3 hll hlen hap aTQ hul;go_wp2_with fail
 go_loopg [17] (r+1-K.uses.length) (fun g s17 wr=>∃ (j:Nat) (q':abM),r+1-(K.uses.length+j)=g/\(j=0\/K.uses.length+j<=r+1)/\aLf w b q v lo hi w.heap.size { K with A:=A' } T j wr q')
 case atStart =>
  obtain ⟨q',h⟩:=HS.out;exact ⟨0,q',by omega,.inl rfl,h⟩
 case round =>
  obtain ⟨j,q',rfl,hj,hR⟩:=hrel
  by_cases hlt:K.uses.length+j<=r
  ·have hm:=hR.mem
   have hnu:(K.uses++List.replicate j 0).length=K.uses.length+j:=by simp
   have abP:=hm.us;obtain ⟨fa,fc,hfv,_⟩:=abI abP
   have aCS:q'.uv=.slice fa (K.uses.length+j) fc:=by rw [hfv];simp [KV.padded]
   have hc2:wr.cell? ⟨b,2,none⟩=some (.slice fa (K.uses.length+j) fc):=by rw [<- aCS];exact aac hm.blk rfl
   have aOJ:wr.ownsRow 0 21 1 (.slice fa (K.uses.length+j) fc) (K.uses.length+j) (ahk (K.uses++List.replicate j 0)):=by
    rw [<- aCS,<- hnu];exact abP
   have aep:=Lib.hid aOJ;have hbr:=aa4 hm.blk;have HR:=Lib.hid hR;have HFV:=Lib.hid aCS;obtain ⟨n,hn⟩ : ∃ n,K.uses.length+j=n:=⟨_,rfl⟩;rw [hn] at hc2 hlt aep HFV;have HN:=Lib.hid hn
   have hnb:n<=1048576:=by omega
   have hge:decide ((n:Int)<=(r:Int))=true:=by simp;omega
   clear hm hR abP aOJ hfv aCS hnu hn hj;obtain ⟨i,hi0,hz0,amR,hz2⟩:=info_parts Tryz.infoI32;have HI:=Lib.hid hi0;have HZ:=Lib.hid hz0;have HZ1:=Lib.hid amR;have HZ2:=Lib.hid hz2;clear hi0 hz0 amR hz2
   have aAj:Hid (∀ u,u∈[Value.int .i32 0]->u.oneCell'=true):=by intro u hu;simp at hu;subst hu;rfl
   go_wp2_with (at_builtin;go_must (refine wpList_append_lies _ rfl (.tmp 28) (.tmp 29) 158 rfl 0 21 i _ 1 4 Tryz.underlying158 HI.out HZ.out HZ1.out HZ2.out (by rfl) (by decide) _ n (ahk (K.uses++List.replicate j 0)) rfl (aep.out.alloc _) ⟨wr.heap.size,0,none⟩ 1 1 [.int .i32 0] rfl rfl ?c1 aAj.out (by omega) (by unfold maxLen;omega) (by omega) (by omega) _ rfl ?_))
   case c1=>exact World.news_of_block (heap_alloc_new wr (.cells #[.int .i32 0] 21 (0,0)))
   intro g5 cap w5 ab3 hgr hat aut
   have ayE:(Value.slice fa n fc).ownBlock=some g5\/g5=wr.heap.size+1:=hat
   have M5:Hid (∃ q5,abv (w5.setCell ⟨b,2,none⟩ (.slice (some ⟨g5,0,none⟩) (n+1) cap)) b { (({ K with A:=A' }:KV).padded j) with uses:=(K.uses++List.replicate j 0)++[0] } T q5/\q5.hv=q'.hv/\q5.a=q'.a/\q5.t=q'.t/\Sub (q'.all b) wr (q5.all b)):=by
    have hl:(({ K with A:=A' }:KV).padded j).uses.length=n:=by rw [<- HN.out];simp [KV.padded]
    have:=HR.out.mem.growUse (g5:=g5) (cap:=cap) (by rw [HFV.out];exact hgr) (by rw [HFV.out];exact ayE) (by rw [hl];exact ab3);rw [hl] at this;refine ⟨_,this,rfl,rfl,rfl,?_⟩
    intro k hk
    simp only [abM.mem] at hk ⊢
    rcases hk with hk | hk | hk | hk | hk
    ·exact .inl (.inl hk)
    ·exact .inl (.inr (.inl hk))
    ·exact .inl (.inr (.inr (.inl hk)))
    ·simp [Value.ownBlock] at hk;subst hk
     rcases ayE with e | e
     ·exact .inl (.inr (.inr (.inr (.inl (by rw [HFV.out];exact e)))))
     ·right;omega
    ·exact .inl (.inr (.inr (.inr (.inr hk))))
   have aCE:w5.heap[b]?=wr.heap[b]?:=by
    have hne:some b≠(Value.slice fa n fc).ownBlock:=by
     intro e
     have e1:=HR.out.mem.ob;have e2:=HR.out.mem.ou b (by rw [HFV.out];exact e.symm);omega
    rw [hgr.block b (by rw [World.size_alloc];omega) hne,heap_alloc_old _ _ hbr]
   rw [HR.out.mem.blk] at aCE;have fz2:w5.frozen? ⟨b,2,none⟩=false:=abq 2 aCE;have c52:w5.cell? ⟨b,2,none⟩=some q'.uv:=aac aCE rfl;have HG5:=Lib.hid (And.intro hgr ayE);obtain ⟨q5,m5,q5h,q5a,q5t,q5s⟩:=M5.out;have aLg:=m5.hs;obtain ⟨ga,gc,hgv,_⟩:=abI aLg
   have hlh:(({ K with A:=A' }:KV).padded j).holds.length=n:=by rw [<- HN.out];simp [KV.padded,HF2.out.2.2.1]
   have aNt:q5.hv=.slice ga n gc:=by rw [hgv];congr 1
   have c53:(w5.setCell ⟨b,2,none⟩ (.slice (some ⟨g5,0,none⟩) (n+1) cap)).cell? ⟨b,3,none⟩=some (.slice ga n gc):=by rw [<- aNt];exact aac m5.blk rfl
   have aLh:(w5.setCell ⟨b,2,none⟩ (.slice (some ⟨g5,0,none⟩) (n+1) cap)).ownsRow 0 21 1 (.slice ga n gc) n (ahk (K.holds++List.replicate j 0)):=by
    have key:∀ (wx:World) (vx:Value) (xs:List Value) (m:Nat),m=n->wx.ownsRow 0 21 1 vx m xs->wx.ownsRow 0 21 1 vx n xs:=fun _ _ _ m e h=>e ▸ h
    rw [<- aNt];exact key _ _ _ _ hlh aLg
   have aOK:=Lib.hid aLh
   have a4c:b<w5.heap.size:=by have:=aa4 m5.blk;simpa [World.setCell] using this
   have HM5:=Lib.hid m5;have HQ5:=Lib.hid (And.intro q5h (And.intro q5a (And.intro q5t q5s)));have HGV:=Lib.hid aNt;have HLH:=Lib.hid hlh;have HU:=Lib.hid ab3;generalize aQx:w5.setCell ⟨b,2,none⟩ (.slice (some ⟨g5,0,none⟩) (n+1) cap)=W5 at c53 aOK HM5;have HC5:=Lib.hid aQx;clear hgr hat ayE ab3 m5 q5h q5a q5t q5s aLg aLh hgv aNt hlh aCE M5
   go_upto_region 4 with (fail)
   go_wp2_with (at_builtin;go_must (refine wpList_append_lies _ rfl (.tmp 37) (.tmp 38) 158 rfl 0 21 i _ 1 4 Tryz.underlying158 HI.out HZ.out HZ1.out HZ2.out (by rfl) (by decide) _ n (ahk (K.holds++List.replicate j 0)) rfl (aOK.out.alloc _) ⟨W5.heap.size,0,none⟩ 1 1 [.int .i32 0] rfl rfl ?c2 aAj.out (by omega) (by unfold maxLen;omega) (by omega) (by omega) _ rfl ?_))
   intro g6 aIo w6 aEb aLi aTR aRH
   have aNu:w6.heap[b]?=W5.heap[b]?:=by
    have hne:some b≠(Value.slice ga n gc).ownBlock:=by
     intro e
     have e1:=HM5.out.ob;have e2:=HM5.out.oh b (by rw [HGV.out];exact e.symm);omega
    have hb5:=aa4 HM5.out.blk;rw [aLi.block b (by rw [World.size_alloc];omega) hne,heap_alloc_old _ _ hb5]
   rw [HM5.out.blk] at aNu;have fz3:w6.frozen? ⟨b,3,none⟩=false:=abq 3 aNu;have c63:w6.cell? ⟨b,3,none⟩=some q5.hv:=aac aNu rfl
   have M6:Hid (∃ q6,abv (w6.setCell ⟨b,3,none⟩ (.slice (some ⟨g6,0,none⟩) (n+1) aIo)) b (({ K with A:=A' }:KV).padded (j+1)) T q6/\q6.a=q'.a/\q6.t=q'.t/\Sub (q5.all b) W5 (q6.all b)):=by
    have aOL:(Value.slice ga n gc).ownBlock=some g6\/g6=W5.heap.size+1:=aTR
    have:=HM5.out.growHold (g5:=g6) (cap:=aIo) (by rw [HGV.out];exact aLi) (by rw [HGV.out];exact aOL) (by
     have key:∀ (m:Nat),m=n->w6.ownsRow 0 21 1 (.slice (some ⟨g6,0,none⟩) (m+1) aIo) (m+1) (ahk (K.holds++List.replicate j 0)++[.int .i32 0]):=by rintro m rfl;exact aEb
     exact key _ HLH.out)
    have e1:∀ (l:List Nat),l++List.replicate (j+1) 0=l++List.replicate j 0++[0]:=by intro l;rw [List.replicate_succ',List.append_assoc]
    have aXY:∀ (m:Nat) (KK:KV) (qq:abM),m=n->KK=({ K with A:=A' }:KV).padded (j+1)->abv (w6.setCell ⟨b,3,none⟩ (.slice (some ⟨g6,0,none⟩) (m+1) aIo)) b KK T qq->abv (w6.setCell ⟨b,3,none⟩ (.slice (some ⟨g6,0,none⟩) (n+1) aIo)) b (({ K with A:=A' }:KV).padded (j+1)) T qq:=by rintro _ _ _ rfl rfl h;exact h
    refine ⟨_,aXY _ _ _ HLH.out (by simp only [KV.padded,e1]) this,HQ5.out.2.1,HQ5.out.2.2.1,?_⟩
    intro k hk
    simp only [abM.mem] at hk ⊢
    rcases hk with hk | hk | hk | hk | hk | hk
    ·exact .inl (.inl hk)
    ·exact .inl (.inr (.inl hk))
    ·exact .inl (.inr (.inr (.inl hk)))
    ·exact .inl (.inr (.inr (.inr (.inl hk))))
    ·simp [Value.ownBlock] at hk;subst hk
     rcases aOL with e | e
     ·exact .inl (.inr (.inr (.inr (.inr (.inl (by rw [HGV.out];exact e))))))
     ·right;omega
    ·exact .inl (.inr (.inr (.inr (.inr (.inr hk)))))
   have HT6:Hid (∃ q6,aLf w b q v lo hi w.heap.size { K with A:=A' } T (j+1) (w6.setCell ⟨b,3,none⟩ (.slice (some ⟨g6,0,none⟩) (n+1) aIo)) q6):=by
    obtain ⟨q6,m6,a6,t6,s6⟩:=M6.out;obtain ⟨hg5,a4d⟩:=HG5.out;have hR:=HR.out;have s5:=HQ5.out.2.2.2;have hB:=aa4 hR.bx
    have hBb:w.heap.size≠b:=by omega
    have hBr:some w.heap.size≠(Value.slice fa n fc).ownBlock:=fun e=>hR.bn (abM.mem.2 (.inr (.inr (.inr (.inl (by rw [HFV.out];exact e.symm))))))
    have aPB:wr.heap.size<w5.heap.size:=by have:=hg5.size;rw [World.size_alloc] at this;omega
    have hW5:W5.heap.size=w5.heap.size:=by rw [<- HC5.out];simp [World.setCell]
    have n5:w.heap.size∉q5.all b:=fun hm=>by
     rcases s5 _ hm with h | h
     ·exact hR.bn h
     ·omega
    have n6:w.heap.size∉q6.all b:=fun hm=>by
     rcases s6 _ hm with h | h
     ·exact n5 h
     ·omega
    have aX0:some w.heap.size≠(Value.slice ga n gc).ownBlock:=fun e=>n5 (abM.mem.2 (.inr (.inr (.inr (.inr (.inl (by rw [HGV.out];exact e.symm)))))))
    have aTS:∀ k,k∈q'.all b->k∈q.all b\/w.heap.size<=k:=hR.sub;have hws:=hR.up.size
    have aTT:∀ k,k∈q5.all b->k∈q.all b\/w.heap.size<=k:=fun k hk=>by
     rcases s5 k hk with h | h
     ·exact aTS k h
     ·right;omega
    have hb0:b∈q.all b\/w.heap.size<=b:=.inl (abM.mem.2 (.inl rfl))
    have u5:Upd (q.all b) w W5:=by
     rw [<- HC5.out];exact ((hR.up.alloc _).grown hg5 (fun k hk=>aTS k (abM.mem.2 (.inr (.inr (.inr (.inl (by rw [HFV.out];exact hk)))))))).setCell hb0 _
    have u6:=((u5.alloc _).grown aLi (fun k hk=>aTT k (abM.mem.2 (.inr (.inr (.inr (.inr (.inl (by rw [HGV.out];exact hk)))))))));refine ⟨q6,m6,u6.setCell hb0 _,?_,⟨a6.trans hR.qe.1,t6.trans hR.qe.2⟩,?_,n6⟩
    ·intro k hk
     rcases s6 k hk with h | h
     ·exact aTT k h
     ·right;omega
    ·rw [acb hBb,aLi.block _ (by rw [World.size_alloc];omega) aX0,heap_alloc_old _ _ (by omega),<- HC5.out,acb hBb,hg5.block _ (by rw [World.size_alloc];omega) hBr,heap_alloc_old _ _ hB]
     exact hR.bx
   clear aEb aLi aTR aNu M6;go_wp2_with fail
   go_roundg (r+1-(K.uses.length+(j+1)))
   case measure=>have:=HN.out;omega
   case rel =>
    obtain ⟨q6,h6⟩:=HT6.out;exact ⟨j+1,q6,rfl,.inr (by have:=HN.out;omega),h6⟩
  ·have hjr:K.uses.length+j<=A'.list.length:=by have:=HF2.out.1;have:=HF2.out.2.1;have h9:=HFR.out.ll;omega
   have hm:=hR.mem
   have hK1:r<(({ K with A:=A' }:KV).padded j).uses.length:=by simp [KV.padded];omega
   have hK2:r<(({ K with A:=A' }:KV).padded j).holds.length:=by have:=HF2.out.2.2.1;simp [KV.padded];omega
   obtain ⟨gu,cu,hqu,c2,cu1,fu1,hgu⟩:=hm.useCell hK1;obtain ⟨gh,ch,hqh,c3,cu2,fu2,hgh⟩:=hm.holdCell hK2
   have hlu:(({ K with A:=A' }:KV).padded j).uses.length=K.uses.length+j:=by simp [KV.padded]
   have hlh:(({ K with A:=A' }:KV).padded j).holds.length=K.uses.length+j:=by have:=HF2.out.2.2.1;simp [KV.padded];omega
   have hnb:K.uses.length+j<=1048576:=by omega
   obtain ⟨n,hn⟩ : ∃ n,K.uses.length+j=n:=⟨_,rfl⟩;rw [hlu,hn] at c2;rw [hlh,hn] at c3;rw [hn] at hnb
   have hge:decide ((n:Int)<=(r:Int))=false:=by simp;omega
   have hrn:(r:Int)<(n:Int):=by omega
   have ngh:gu≠gh:=by
    rintro rfl;have e1:=hm.ou gu (by rw [hqu];rfl);have e2:=hm.oh gu (by rw [hqh];rfl);omega
   have nbu:b≠gu:=by
    rintro rfl;have e1:=hm.ou b (by rw [hqu];rfl);have e2:=hm.ob;omega
   have nbh:b≠gh:=by
    rintro rfl;have e1:=hm.oh b (by rw [hqh];rfl);have e2:=hm.ob;omega
   have HR:=Lib.hid hR;have HJ:=Lib.hid (And.intro hn (And.intro hj (And.intro hjr (And.intro hqu (And.intro hqh (And.intro hgu hgh))))));clear hm hR hqu hqh hgu hgh hlu hlh hn hj hjr hlt hK1 hK2;go_wp2_with fail
   go_region
   have HS4:Hid (azl w b q v lo hi w.heap.size ((({ K with A:=A' }:KV).padded j).zero r) T ((wr.setCell ⟨gu,r,none⟩ (.int .i32 0)).setCell ⟨gh,r,none⟩ (.int .i32 0)).drew q'):=by
    obtain ⟨hn,hj,hjr,hqu,hqh,hgu,hgh⟩:=HJ.out;have hR:=HR.out
    have hl:r<K.uses.length+j:=by omega
    have m1:=hR.mem.setUse (n:=0) hqu (by rw [show (({ K with A:=A' }:KV).padded j).uses.length=K.uses.length+j by simp [KV.padded]];exact hl)
    have m2:=m1.setHold (n:=0) hqh (by
     have e:(({ K with A:=A' }:KV).padded j).holds.length=K.uses.length+j:=by have:=HF2.out.2.2.1;simp [KV.padded];omega
     show r<(({ K with A:=A' }:KV).padded j).holds.length
     rw [e];exact hl)
    have m3:=m2.upd ((Upd.refl [] _).drew) (by simp);have s0:azl w b q v lo hi w.heap.size (({ K with A:=A' }:KV).padded j) T wr q':=⟨hR.mem,hR.up,hR.sub,hR.bx,hR.bn⟩;exact s0.step m3 ((((Upd.refl _ wr).setCell (.inl hgu) _).setCell (.inl hgh) _).drew) (Sub.refl _ _)
   have HTK:Hid (K.Took v lo hi r ((((({ K with A:=A' }:KV).padded j).zero r).useA lo).useA hi)):=by
    obtain ⟨hn,hj,hjr,_⟩:=HJ.out;exact KV.took_of HFR.out HH.out.1 HT1.out.1 HT1.out.2 (by omega) hjr
   have HL:Hid ((2<=lo->lo<K.uses.length+j)/\(2<=hi->hi<K.uses.length+j)/\(((({ K with A:=A' }:KV).padded j).zero r).uses.length=K.uses.length+j)):=by
    refine ⟨fun h=>?_,fun h=>?_,by simp [KV.zero,KV.padded]⟩
    ·have:=HH.out.1.tu lo h HT1.out.1;omega
    ·have:=HH.out.1.tu hi h HT1.out.2;omega
   have HB:Hid (∀ x,2<=x->K.A.tk x=true->((({ K with A:=A' }:KV).padded j).zero r).use x<=1002097153):=by
    obtain ⟨hn,hj,hjr,_⟩:=HJ.out
    intro x h2 htx
    have:=HH.out.1.use_le h2 htx
    have e:((({ K with A:=A' }:KV).padded j).zero r).use x=if x=r then 0 else K.use x:=by
     show ((K.uses++List.replicate j 0).set r 0).getD x 0=_
     rw [afx (by simp;omega),azk];rfl
    rw [e];split <;> omega
   generalize hW4:((wr.setCell ⟨gu,r,none⟩ (.int .i32 0)).setCell ⟨gh,r,none⟩ (.int .i32 0)).drew=W4 at HS4;generalize hK4:((({ K with A:=A' }:KV).padded j).zero r)=K4 at HS4 HTK HL HB;obtain ⟨y0,y1,y2,y3⟩:=HS4.out.cells;clear hW4 hK4 c2 c3 cu1 cu2 fu1 fu2 ngh nbu nbh hge hrn HJ HR;go_wp2_with fail;refine (aCu b lo K4 T q' _ HS4.out.mem (by rw [HL.out.2.2];exact HL.out.1) (fun h=>by have:=HB.out lo h HT1.out.1;omega) hl1).mono ?_;rintro e w5 ⟨rfl,m5,u5⟩;have HS5:=Lib.hid (HS4.out.step m5 u5 (Sub.refl _ _))
   have HB5:Hid (2<=hi->(K4.useA lo).use hi+1<=2147483647):=by
    intro h
    have:=HB.out hi h HT1.out.2;rw [KV.useA_use _ _ _ (by rw [HL.out.2.2];exact HL.out.1)]
    split <;> omega
   have HL5:Hid (2<=hi->hi<(K4.useA lo).uses.length):=by rw [KV.useA_len,HL.out.2.2];exact HL.out.2.1
   clear m5 u5 y0 y1 y2 y3 HS4;obtain ⟨y0,y1,y2,y3⟩:=HS5.out.cells;go_wp2_with fail;refine (aCu b hi _ T q' _ HS5.out.mem HL5.out HB5.out hl2).mono ?_;rintro e w6 ⟨rfl,m6,u6⟩;have HS6:=Lib.hid (HS5.out.step m6 u6 (Sub.refl _ _));clear m6 u6 y0 y1 y2 y3 HS5 HL5 HB5;obtain ⟨y0,y1,y2,y3⟩:=HS6.out.cells
   have HSZ:Hid (Maps.size D<maxLen):=by
    have h1:=HH.out.2.1;have hv:=HH.out.2.2.1;obtain ⟨_,_,_,_,_,_,_,_,ho⟩:=HS6.out.mem.tab.cells hv;have:=h1.size HH.out.1 hv (ho.canon adh) (ho.tidy adh)
    show Maps.size D<maxLen
    unfold maxLen;omega
   have NB6:w.heap.size∉q'.FT:=fun hm=>HS6.out.bn (abM.mem.2 (.inr (.inr (.inl hm))))
   have BA6:b∉q'.FT:=by intro hm;have e1:=HS6.out.mem.ob;have e2:=HS6.out.mem.ot b hm;omega
   have HT6:Hid (afl w6.drew q'.t T q'.FT):=HS6.out.mem.tab.upd ((Upd.refl [] _).drew) (by simp);have HNO:=Lib.hid HH.out.2.2.2;have HDD:=Lib.hid HH.out.2.2.1
   have amm:r<=4294967295:=by omega
   go_wp2_with fail
   go_region_held3 (fun w'=>w'.cell? ⟨w.heap.size,0,none⟩=some (.int .i64 v)/\w'.cell? ⟨w.heap.size,1,none⟩=some (.int .u32 lo)/\w'.cell? ⟨w.heap.size,2,none⟩=some (.int .u32 hi)/\w'.cell? ⟨b,1,none⟩=some (.pointer (some ⟨q'.t,0,none⟩))) (first | exact ⟨y0,y1,y2,y3⟩ | exact aBU HA.out.2 y0 y1 y2 y3 NB6 NB6 NB6 BA6) (first | (go_at_call 149;refine (aDC q'.t q'.FT v lo hi r T D _ HT6.out HDD.out hl1 hl2 amm HNO.out HSZ.out).mono ?_;rintro e w7 ⟨rfl,ta,tu⟩;have HA:=Lib.hid (And.intro ta tu);clear ta tu))
   go_wp2_with fail;have S7:=(HS6.out.step (HS6.out.mem.upd ((Upd.refl [] _).drew) (by simp)) ((Upd.refl _ _).drew) (Sub.refl _ _));have S8:=S7.step (S7.mem.table HA.out.1 HA.out.2) (HA.out.2.mono fun x hx=>abM.mem.2 (.inr (.inr (.inl hx)))) (Sub.refl _ _);have HE:=Lib.hid (And.intro HTK.out (And.intro S8.mem (And.intro S8.up S8.sub)));clear S7 S8;go_ret;exact ⟨r,_,q',rfl,HE.out⟩
end Go.Proofs.YtdackeldhdchaaaGreat
namespace Go.Proofs.YtdackeldhdchaaaGreat
def KV.lev (K:KV) (v:Nat):Nat:=K.level.getD v 0
structure KV.Perm (K:KV):Prop where
 ol:K.order.length=K.vars
 ll:K.level.length=K.vars
 lo:∀ v,v<K.vars->K.lev v<K.vars/\K.order.getD (K.lev v) 0=v
 oo:∀ l,l<K.vars->K.order.getD l 0<K.vars/\K.lev (K.order.getD l 0)=l
theorem KV.Perm.inj {K:KV} (h:K.Perm) {u v:Nat} (hu:u<K.vars) (hv:v<K.vars) (e:K.lev u=K.lev v):u=v:=by
 rw [<- (h.lo u hu).2,<- (h.lo v hv).2,e]
def KV.dep (K:KV) (r:Nat):Nat:=match K.A.list[r]? with | some p=>if 0<=p.var then K.lev p.var.toNat else K.vars | none=>K.vars
structure KV.Ord (K:KV):Prop where
 pm:K.Perm
 ne:∀ (q:Nat) p,2<=q->K.A.list[q]?=some p->p.taken=true->p.lo≠p.hi
 lt:∀ (q:Nat) p,2<=q->K.A.list[q]?=some p->p.taken=true->K.lev p.var.toNat<K.dep p.lo/\K.lev p.var.toNat<K.dep p.hi
def KV.Uni (K:KV):Prop:=∀ (r s:Nat) (p c:abu),2<=r->2<=s->K.A.list[r]?=some p->K.A.list[s]?=some c->p.taken=true->c.taken=true->p.var=c.var->p.lo=c.lo->p.hi=c.hi->r=s
def KV.denF (K:KV):Nat->Nat->(Nat->Bool)->Bool
 | 0,r,_=>r == 1
 | n+1,r,x=>if r<2 then r == 1 else match K.A.list[r]? with | some p=>if x p.var.toNat then K.denF n p.hi x else K.denF n p.lo x | none=>false
def KV.den (K:KV) (r:Nat) (x:Nat->Bool):Bool:=K.denF (K.vars+1) r x
theorem KV.Wf.node_at {K:KV} {P:List Nat} (h:K.Wf P) {r:Nat} (h2:2<=r) (ht:K.A.tk r=true):∃ (p:abu) (v:Nat),K.A.list[r]?=some p/\p.taken=true/\p.var=(v:Int)/\v<K.vars/\K.A.tk p.lo=true/\K.A.tk p.hi=true/\K.dep r=K.lev v:=by
 obtain ⟨p,hp,hpt⟩:=aaU.tk_iff.1 ht;have h1:=h.vr r p h2 hp hpt;have h3:=h.cl r p h2 hp hpt;refine ⟨p,p.var.toNat,hp,hpt,by omega,by omega,h3.1,h3.2,?_⟩
 simp [KV.dep,hp,h1.1]
theorem KV.Wf.dep_const {K:KV} {P:List Nat} (h:K.Wf P) {r:Nat} (h2:r<2):K.dep r=K.vars:=by
 match r,h2 with
 | 0,_=>simp [KV.dep,h.ok.c0]
 | 1,_=>simp [KV.dep,h.ok.c1]
theorem KV.Wf.dep_le {K:KV} {P:List Nat} (h:K.Wf P) (ho:K.Ord) {r:Nat} (ht:K.A.tk r=true):K.dep r<=K.vars:=by
 by_cases h2:2<=r
 ·obtain ⟨p,v,_,_,_,hv,_,_,hd⟩:=h.node_at h2 ht
  have:=(ho.pm.lo v hv).1;omega
 ·rw [h.dep_const (by omega)];omega
theorem KV.Wf.dep_lt {K:KV} {P:List Nat} (h:K.Wf P) (ho:K.Ord) {r:Nat} (h2:2<=r) (ht:K.A.tk r=true):K.dep r<K.vars:=by
 obtain ⟨p,v,_,_,_,hv,_,_,hd⟩:=h.node_at h2 ht;have:=(ho.pm.lo v hv).1;omega
theorem KV.Ord.below {K:KV} {P:List Nat} (ho:K.Ord) (h:K.Wf P) {r:Nat} {p:abu} (h2:2<=r) (hp:K.A.list[r]?=some p) (hpt:p.taken=true):K.dep r<K.dep p.lo/\K.dep r<K.dep p.hi:=by
 have h1:=h.vr r p h2 hp hpt
 have e:K.dep r=K.lev p.var.toNat:=by simp [KV.dep,hp,h1.1]
 rw [e];exact ho.lt r p h2 hp hpt
theorem KV.denF_eq {K:KV} {P:List Nat} (h:K.Wf P) (ho:K.Ord) (x:Nat->Bool):∀ (n m r:Nat),K.A.tk r=true->K.vars-K.dep r<n->K.vars-K.dep r<m->K.denF n r x=K.denF m r x:=by
 intro n
 induction n with
 | zero=>intro m r _ hn;omega
 | succ n ih =>
  intro m r ht hn hm
  obtain ⟨m,rfl⟩ : ∃ k,m=k+1:=⟨m-1,by omega⟩;unfold KV.denF;split
  ·rfl
  ·rename_i h2
   obtain ⟨p,v,hp,hpt,hv,hvl,h3,h4,hd⟩:=h.node_at (by omega) ht;have hb:=ho.below h (by omega) hp hpt;have hl:=h.dep_lt ho (by omega:2<=r) ht;rw [hp]
   simp only
   rw [ih m p.hi h4 (by omega) (by omega),ih m p.lo h3 (by omega) (by omega)]
theorem KV.den_const (K:KV) {r:Nat} (h:r<2) (x:Nat->Bool):K.den r x=(r == 1):=by
 unfold KV.den KV.denF;rw [if_pos h]
theorem KV.den_node {K:KV} {P:List Nat} (h:K.Wf P) (ho:K.Ord) {r:Nat} {p:abu} (h2:2<=r) (hp:K.A.list[r]?=some p) (hpt:p.taken=true) (x:Nat->Bool) :
  K.den r x=if x p.var.toNat then K.den p.hi x else K.den p.lo x:=by
 have hb:=ho.below h h2 hp hpt;have hc:=h.cl r p h2 hp hpt
 have e:K.den r x=if x p.var.toNat then K.denF K.vars p.hi x else K.denF K.vars p.lo x:=by
  show K.denF (K.vars+1) r x=_
  rw [KV.denF,if_neg (by omega),hp]
 rw [e];have hl:=h.dep_le ho hc.1;have hl2:=h.dep_le ho hc.2;have e1:K.denF K.vars p.hi x=K.den p.hi x:=KV.denF_eq h ho x _ _ _ hc.2 (by omega) (by omega);have e2:K.denF K.vars p.lo x=K.den p.lo x:=KV.denF_eq h ho x _ _ _ hc.1 (by omega) (by omega);rw [e1,e2]
theorem KV.den_same {K:KV} {P:List Nat} (h:K.Wf P) (ho:K.Ord):∀ (n r:Nat) (x y:Nat->Bool),K.A.tk r=true->K.vars-K.dep r<=n->(∀ v,v<K.vars->K.dep r<=K.lev v->x v=y v)->K.den r x=K.den r y:=by
 intro n
 induction n with
 | zero =>
  intro r x y ht hn _
  by_cases h2:2<=r
  ·have:=h.dep_lt ho h2 ht;omega
  ·rw [K.den_const (by omega),K.den_const (by omega)]
 | succ n ih =>
  intro r x y ht hn hx
  by_cases h2:2<=r
  ·obtain ⟨p,v,hp,hpt,hv,hvl,h3,h4,hd⟩:=h.node_at h2 ht
   have hb:=ho.below h h2 hp hpt;have hl:=h.dep_lt ho h2 ht;rw [KV.den_node h ho h2 hp hpt,KV.den_node h ho h2 hp hpt]
   have e:p.var.toNat=v:=by omega
   rw [e,hx v hvl (by omega),ih p.hi x y h4 (by omega) (fun u hu h5=>hx u hu (by omega)),ih p.lo x y h3 (by omega) (fun u hu h5=>hx u hu (by omega))]
  ·rw [K.den_const (by omega),K.den_const (by omega)]
def upd (x:Nat->Bool) (v:Nat) (b:Bool):Nat->Bool:=fun u=>if u=v then b else x u
theorem afj (x:Nat->Bool) (v:Nat) (b:Bool):upd x v b v=b:=by simp [upd]
theorem anL (x:Nat->Bool) {u v:Nat} (b:Bool) (h:u≠v):upd x v b u=x u:=by simp [upd,h]
theorem KV.den_upd {K:KV} {P:List Nat} (h:K.Wf P) (ho:K.Ord) {r v:Nat} (ht:K.A.tk r=true) (hv:v<K.vars) (hd:K.lev v<K.dep r) (x:Nat->Bool) (b:Bool):K.den r (upd x v b)=K.den r x :=
 KV.den_same h ho _ r _ _ ht (Nat.le_refl _) fun u _ h2=>anL x b (by rintro rfl;omega)
theorem KV.den_lo {K:KV} {P:List Nat} (h:K.Wf P) (ho:K.Ord) {r:Nat} {p:abu} (h2:2<=r) (hp:K.A.list[r]?=some p) (hpt:p.taken=true) (x:Nat->Bool):K.den r (upd x p.var.toNat false)=K.den p.lo x:=by
 have h1:=h.vr r p h2 hp hpt;have hl:=ho.lt r p h2 hp hpt;rw [KV.den_node h ho h2 hp hpt,afj];exact KV.den_upd h ho (h.cl r p h2 hp hpt).1 (by omega) hl.1 x false
theorem KV.den_hi {K:KV} {P:List Nat} (h:K.Wf P) (ho:K.Ord) {r:Nat} {p:abu} (h2:2<=r) (hp:K.A.list[r]?=some p) (hpt:p.taken=true) (x:Nat->Bool):K.den r (upd x p.var.toNat true)=K.den p.hi x:=by
 have h1:=h.vr r p h2 hp hpt;have hl:=ho.lt r p h2 hp hpt;rw [KV.den_node h ho h2 hp hpt,afj];exact KV.den_upd h ho (h.cl r p h2 hp hpt).2 (by omega) hl.2 x true
theorem KV.canon {K:KV} {P:List Nat} (h:K.Wf P) (ho:K.Ord) (hu:K.Uni):∀ (n r s:Nat),K.A.tk r=true->K.A.tk s=true->K.vars-min (K.dep r) (K.dep s)<=n->(∀ x,K.den r x=K.den s x)->r=s:=by
 intro n
 induction n with
 | zero =>
  intro r s hr hs hn he
  have h1:r<2:=by
   by_cases h2:2<=r
   ·have:=h.dep_lt ho h2 hr;have:min (K.dep r) (K.dep s)<=K.dep r:=Nat.min_le_left _ _;omega
   ·omega
  have h2:s<2:=by
   by_cases h2:2<=s
   ·have:=h.dep_lt ho h2 hs;have:min (K.dep r) (K.dep s)<=K.dep s:=Nat.min_le_right _ _;omega
   ·omega
  have:=he (fun _=>false);rw [K.den_const h1,K.den_const h2] at this
  have e:(r=1)↔(s=1):=by rw [Bool.eq_iff_iff] at this;simpa using this
  omega
 | succ n ih =>
  have key:∀ (r s:Nat),K.A.tk r=true->K.A.tk s=true->K.dep r<=K.dep s->K.vars-K.dep r<=n+1->(∀ x,K.den r x=K.den s x)->r=s:=by
   intro r s hr hs hle hn he
   by_cases h2:2<=r
   ·obtain ⟨p,v,hp,hpt,hv,hvl,h3,h4,hd⟩:=h.node_at h2 hr
    have hb:=ho.below h h2 hp hpt;have hl:=h.dep_lt ho h2 hr
    by_cases hlt:K.dep r<K.dep s
    ·exfalso
     refine ho.ne r p h2 hp hpt (ih _ _ h3 h4 (by omega) fun x=>?_);rw [<- KV.den_lo h ho h2 hp hpt,<- KV.den_hi h ho h2 hp hpt,he,he,show p.var.toNat=v by omega];rw [KV.den_upd h ho hs hvl (by omega),KV.den_upd h ho hs hvl (by omega)]
    ·have hs2:2<=s:=by
      by_cases h5:2<=s
      ·exact h5
      ·have:=h.dep_const (r:=s) (by omega);omega
     obtain ⟨c,u,hc,hct,hu',hul,h5,h6,hd2⟩:=h.node_at hs2 hs;have hb2:=ho.below h hs2 hc hct;have euv:v=u:=ho.pm.inj hvl hul (by omega);subst euv;refine hu r s p c h2 hs2 hp hc hpt hct (by rw [hv,hu']) ?_ ?_
     ·refine ih _ _ h3 h5 (by omega) fun x=>?_
      rw [<- KV.den_lo h ho h2 hp hpt,<- KV.den_lo h ho hs2 hc hct,he,hv,hu']
     ·refine ih _ _ h4 h6 (by omega) fun x=>?_
      rw [<- KV.den_hi h ho h2 hp hpt,<- KV.den_hi h ho hs2 hc hct,he,hv,hu']
   ·have h5:s<2:=by
     by_cases h5:2<=s
     ·have:=h.dep_lt ho h5 hs
      have:=h.dep_const (r:=r) (by omega);omega
     ·omega
    have:=he (fun _=>false);rw [K.den_const (by omega),K.den_const h5] at this
    have e:(r=1)↔(s=1):=by rw [Bool.eq_iff_iff] at this;simpa using this
    omega
  intro r s hr hs hn he
  by_cases hle:K.dep r<=K.dep s
  ·exact key r s hr hs hle (by omega) he
  ·exact (key s r hs hr (by omega) (by omega) fun x=>(he x).symm).symm
structure KV.Ext (K K':KV):Prop where
 nd:∀ (r:Nat) (p:abu),K.A.list[r]?=some p->p.taken=true->K'.A.list[r]?=some p
 pl:K'.A.places=K.A.places
 vr:K'.vars=K.vars
 od:K'.order=K.order
 lv:K'.level=K.level
theorem KV.Ext.refl (K:KV):K.Ext K:=⟨fun _ _ h _=>h,rfl,rfl,rfl,rfl⟩
theorem KV.Ext.trans {A B C:KV} (h:A.Ext B) (k:B.Ext C):A.Ext C :=
 ⟨fun r p h1 h2=>k.nd r p (h.nd r p h1 h2) h2,k.pl.trans h.pl,k.vr.trans h.vr,k.od.trans h.od,k.lv.trans h.lv⟩
theorem KV.Took.ext {K K':KV} {v:Int} {lo hi r:Nat} (t:K.Took v lo hi r K'):K.Ext K':=by
 refine ⟨fun s p hs hp=>?_,t.fr.pl,t.vr,t.od,t.lv⟩;rw [t.fr.ot s]
 ·exact hs
 ·rintro rfl
  have:=t.fr.no
  simp [aaU.tk,hs,hp] at this
theorem KV.Ext.tk {K K':KV} (h:K.Ext K') {r:Nat} (ht:K.A.tk r=true):K'.A.tk r=true:=by
 obtain ⟨p,hp,hpt⟩:=aaU.tk_iff.1 ht;exact aaU.tk_iff.2 ⟨p,h.nd r p hp hpt,hpt⟩
theorem KV.Ext.lev {K K':KV} (h:K.Ext K') (v:Nat):K'.lev v=K.lev v:=by simp [KV.lev,h.lv]
theorem KV.Ext.dep {K K':KV} (h:K.Ext K') {r:Nat} (ht:K.A.tk r=true):K'.dep r=K.dep r:=by
 obtain ⟨p,hp,hpt⟩:=aaU.tk_iff.1 ht
 simp [KV.dep,hp,h.nd r p hp hpt,h.lev,h.vr]
theorem KV.Ext.den {K K':KV} {P:List Nat} (h:K.Ext K') (hw:K.Wf P) (x:Nat->Bool):∀ {r:Nat},K.A.tk r=true->K'.den r x=K.den r x:=by
 have key:∀ (n r:Nat),K.A.tk r=true->K'.denF n r x=K.denF n r x:=by
  intro n
  induction n with
  | zero=>intro r _;rfl
  | succ n ih =>
   intro r ht
   unfold KV.denF;split
   ·rfl
   ·rename_i h2
    obtain ⟨p,hp,hpt⟩:=aaU.tk_iff.1 ht;have hc:=hw.cl r p (by omega) hp hpt;rw [hp,h.nd r p hp hpt]
    simp only
    rw [ih p.hi hc.2,ih p.lo hc.1]
 intro r ht
 unfold KV.den
 rw [h.vr];exact key _ r ht
inductive KV.Reach (K:KV):Nat->Prop
 | root {r:Nat} (h:0<K.hold r):K.Reach r
 | lo {q:Nat} {p:abu} (h:K.Reach q) (h2:2<=q) (hp:K.A.list[q]?=some p) (hpt:p.taken=true):K.Reach p.lo
 | hi {q:Nat} {p:abu} (h:K.Reach q) (h2:2<=q) (hp:K.A.list[q]?=some p) (hpt:p.taken=true):K.Reach p.hi
theorem KV.live_reach {K:KV} (hw:K.Wf []) (hp:K.Pos) (ho:K.Ord):∀ (n r:Nat),2<=r->K.A.tk r=true->K.dep r<=n->K.Reach r:=by
 intro n
 induction n using Nat.strongRecOn with
 | ind n ih =>
  intro r h2 ht hn
  have h1:=hp r h2 ht;rw [hw.eq r h2 ht] at h1
  by_cases hh:0<K.hold r
  ·exact .root hh
  ·have:one (K.hold r)=0:=by simp [one,hh]
   have hpp:0<par K.A.list r:=by simp [this] at h1;exact h1
   obtain ⟨q,p,hq,hqt,hlh⟩:=aGE hpp
   have hq2:2<=q:=by
    match q,hq with
    | 0,hq=>rw [hw.ok.c0] at hq;cases hq;simp at hlh;omega
    | 1,hq=>rw [hw.ok.c1] at hq;cases hq;simp at hlh;omega
    | q+2,_=>omega
   have hb:=ho.below hw hq2 hq hqt;have hqk:K.A.tk q=true:=aaU.tk_iff.2 ⟨p,hq,hqt⟩
   rcases hlh with e | e
   ·have:=ih (K.dep q) (by rw [<- e] at hn;omega) q hq2 hqk (Nat.le_refl _)
    rw [<- e];exact .lo this hq2 hq hqt
   ·have:=ih (K.dep q) (by rw [<- e] at hn;omega) q hq2 hqk (Nat.le_refl _)
    rw [<- e];exact .hi this hq2 hq hqt
theorem KV.Perm.same {K K':KV} (h:K.Perm) (vr:K'.vars=K.vars) (od:K'.order=K.order) (lv:K'.level=K.level):K'.Perm:=by
 have e:∀ v,K'.lev v=K.lev v:=fun v=>by simp [KV.lev,lv]
 exact ⟨by rw [od,vr];exact h.ol,by rw [lv,vr];exact h.ll,fun v hv=>by rw [e,od,vr];exact h.lo v (by omega),fun l hl=>by rw [e,od,vr];exact h.oo l (by omega)⟩
theorem KV.Ord.same {K K':KV} (h:K.Ord) (hA:K'.A=K.A) (vr:K'.vars=K.vars) (od:K'.order=K.order) (lv:K'.level=K.level):K'.Ord:=by
 have e:∀ v,K'.lev v=K.lev v:=fun v=>by simp [KV.lev,lv]
 have d:∀ r,K'.dep r=K.dep r:=fun r=>by simp [KV.dep,hA,e,vr]
 exact ⟨h.pm.same vr od lv,by rw [hA];exact h.ne,fun q p h2 hp hpt=>by rw [e,d,d];exact h.lt q p h2 (by rw [<- hA];exact hp) hpt⟩
theorem KV.Ext.ord_down {K K':KV} {P:List Nat} (h:K'.Ext K) (hw:K'.Wf P) (ho:K.Ord):K'.Ord:=by
 refine ⟨ho.pm.same h.vr.symm h.od.symm h.lv.symm,fun q p h2 hp hpt=>ho.ne q p h2 (h.nd q p hp hpt) hpt,fun q p h2 hp hpt=>?_⟩;have hc:=hw.cl q p h2 hp hpt;rw [<- h.lev,<- h.dep hc.1,<- h.dep hc.2];exact ho.lt q p h2 (h.nd q p hp hpt) hpt
theorem KV.Took.ord {K K':KV} {P:List Nat} {v lo hi r:Nat} (t:K.Took (v:Int) lo hi r K') (hw:K.Wf P) (ho:K.Ord) (h1:K.A.tk lo=true) (h2:K.A.tk hi=true) (hne:lo≠hi) (hl:K.lev v<K.dep lo) (hh:K.lev v<K.dep hi):K'.Ord:=by
 have e:=t.ext;refine ⟨ho.pm.same t.vr t.od t.lv,fun q p hq hp hpt=>?_,fun q p hq hp hpt=>?_⟩
 ·by_cases e0:q=r
  ·subst e0;rw [t.fr.at_] at hp;cases hp;exact hne
  ·rw [t.fr.ot q e0] at hp;exact ho.ne q p hq hp hpt
 ·by_cases e0:q=r
  ·subst e0;rw [t.fr.at_] at hp;cases hp
   rw [e.dep h1,e.dep h2,e.lev];exact ⟨hl,hh⟩
  ·rw [t.fr.ot q e0] at hp
   have hc:=hw.cl q p hq hp hpt
   rw [e.dep hc.1,e.dep hc.2,e.lev];exact ho.lt q p hq hp hpt
theorem KV.Took.pos {K K':KV} {v:Int} {lo hi r:Nat} (t:K.Took v lo hi r K') (h:K.Pos):∀ s,s≠r->2<=s->K'.A.tk s=true->0<K'.use s:=by
 intro s hs h2 ht
 rw [t.fr.tk] at ht
 simp [hs] at ht
 have:=h s h2 ht
 rw [t.us,if_neg hs];omega
def KV.keepK (K:KV) (r:Nat):KV:=if 2<=r then { K with holds:=K.holds.set r (K.hold r+1),uses:=if K.hold r=0 then K.uses.set r (K.use r+1) else K.uses,trail:=[] } else { K with trail:=[] }
theorem KV.keepK_A (K:KV) (r:Nat):(K.keepK r).A=K.A:=by unfold KV.keepK;split <;> rfl
theorem KV.keepK_vars (K:KV) (r:Nat):(K.keepK r).vars=K.vars:=by unfold KV.keepK;split <;> rfl
theorem KV.keepK_order (K:KV) (r:Nat):(K.keepK r).order=K.order:=by unfold KV.keepK;split <;> rfl
theorem KV.keepK_level (K:KV) (r:Nat):(K.keepK r).level=K.level:=by unfold KV.keepK;split <;> rfl
theorem KV.keepK_trail (K:KV) (r:Nat):(K.keepK r).trail=[]:=by unfold KV.keepK;split <;> rfl
theorem KV.Wf.keepK_hold {K:KV} {P:List Nat} (h:K.Wf P) {r:Nat} (ht:K.A.tk r=true) (x:Nat):(K.keepK r).hold x=if x=r/\2<=r then K.hold x+1 else K.hold x:=by
 unfold KV.keepK
 by_cases h2:2<=r
 ·rw [if_pos h2]
  show (K.holds.set r (K.hold r+1)).getD x 0=_
  have hl:=h.tu r h2 ht;have:=h.len;rw [afx (by omega)]
  by_cases e:x=r
  ·subst e;simp [h2]
  ·simp [e];rfl
 ·rw [if_neg h2];simp [h2];rfl
theorem KV.Wf.keepK_use {K:KV} {P:List Nat} (h:K.Wf P) {r:Nat} (ht:K.A.tk r=true) (x:Nat):(K.keepK r).use x=if x=r/\2<=r/\K.hold r=0 then K.use x+1 else K.use x:=by
 unfold KV.keepK
 by_cases h2:2<=r
 ·rw [if_pos h2]
  by_cases h0:K.hold r=0
  ·simp only [h0,if_true]
   show (K.uses.set r (K.use r+1)).getD x 0=_
   rw [afx (h.tu r h2 ht)]
   by_cases e:x=r
   ·subst e;simp [h2]
   ·simp [e];rfl
  ·simp [h0,KV.use]
 ·rw [if_neg h2];simp [h2];rfl
theorem KV.Wf.keepK {K:KV} {P:List Nat} (h:K.Wf P) {r:Nat} (ht:K.A.tk r=true) (hm:K.hold r<65535):(K.keepK r).Wf P:=by
 have hlen:(K.keepK r).uses.length=K.uses.length:=by unfold KV.keepK;split <;> simp;split <;> simp
 have aTU:(K.keepK r).holds.length=K.holds.length:=by unfold KV.keepK;split <;> simp
 refine ⟨by rw [K.keepK_A];exact h.ok,by rw [hlen,aTU];exact h.len,by rw [hlen,K.keepK_A];exact h.ul,by rw [hlen,K.keepK_A];exact h.tu,?_,?_,?_,by rw [K.keepK_A];exact h.pt,by rw [K.keepK_A];exact h.cl,by rw [K.keepK_A,K.keepK_vars];exact h.vr,by rw [K.keepK_vars];exact h.vs⟩
 ·intro x hx
  rw [h.keepK_hold ht] at hx;rw [K.keepK_A]
  split at hx
  ·rename_i e;rw [e.1];exact ⟨e.2,ht⟩
  ·exact h.ht x hx
 ·intro x
  rw [h.keepK_hold ht];split
  ·rename_i e;rw [e.1];omega
  ·exact h.hm x
 ·intro x h2 htx
  rw [K.keepK_A] at htx ⊢;have:=h.eq x h2 htx;rw [h.keepK_hold ht,h.keepK_use ht]
  by_cases e:x=r
  ·subst e
   by_cases h0:K.hold x=0
   ·simp [h2,h0,one] at this ⊢;omega
   ·simp [h2,h0,one] at this ⊢
    have h9:0<K.hold x:=by omega
    simp [h9] at this;omega
  ·simp [e];exact this
theorem KV.Wf.keepK_pos {K:KV} {P:List Nat} (h:K.Wf P) {r:Nat} (ht:K.A.tk r=true) (hp:∀ s,s≠r->2<=s->K.A.tk s=true->0<K.use s) (h0:0<K.hold r->0<K.use r):(K.keepK r).Pos:=by
 intro s h2 hts
 rw [K.keepK_A] at hts;rw [h.keepK_use ht]
 by_cases e:s=r
 ·subst e
  by_cases h3:K.hold s=0
  ·simp [h2,h3]
  ·simp [h3];exact h0 (by omega)
 ·simp [e];exact hp s e h2 hts
def KV.dropH (K:KV) (r:Nat):KV:={ K with holds:=K.holds.set r (K.hold r-1) }
theorem KV.Wf.dropH_hold {K:KV} {P:List Nat} (h:K.Wf P) {r:Nat} (hh:0<K.hold r) (x:Nat):(K.dropH r).hold x=if x=r then K.hold r-1 else K.hold x:=by
 have h1:=h.ht r hh;have h2:=h.tu r h1.1 h1.2;have:=h.len
 show (K.holds.set r (K.hold r-1)).getD x 0=_
 rw [afx (by omega)];rfl
theorem KV.Wf.dropH {K:KV} {P:List Nat} (h:K.Wf P) {r:Nat} (hh:0<K.hold r):(K.dropH r).Wf (if K.hold r=1 then r::P else P):=by
 have h1:=h.ht r hh;refine ⟨h.ok,by simpa [KV.dropH] using h.len,h.ul,h.tu,?_,?_,?_,?_,h.cl,h.vr,h.vs⟩
 ·intro x hx
  rw [h.dropH_hold hh] at hx
  split at hx
  ·rename_i e;subst e;exact h1
  ·exact h.ht x hx
 ·intro x
  rw [h.dropH_hold hh];have:=h.hm r;have:=h.hm x
  split <;> omega
 ·intro x h2 htx
  have:=h.eq x h2 htx;rw [h.dropH_hold hh]
  show K.use x=par K.A.list x+_+_
  by_cases e:x=r
  ·subst e
   by_cases h3:K.hold x=1
   ·simp [h3,one] at this ⊢;omega
   ·have h4:0<K.hold x-1:=by omega
    simp [h3,one,hh,h4] at this ⊢;exact this
  ·rw [if_neg e,this]
   split
   ·rw [List.count_cons_of_ne (Ne.symm e)]
   ·rfl
 ·intro x hx
  split at hx
  ·rcases List.mem_cons.1 hx with rfl | hx
   ·exact h1.2
   ·exact h.pt x hx
  ·exact h.pt x hx
structure KV.Ok (K:KV):Prop where
 wf:K.Wf []
 pos:K.Pos
 ord:K.Ord
 tl:∀ l,l∈K.trail->l+2<=K.vars
structure KV.Dropped (K:KV) (r:Nat) (K':KV):Prop where
 ext:K'.Ext K
 hd:∀ x,K'.hold x=if x=r/\2<=r then K.hold x-1 else K.hold x
 tr:K'.trail=[]
 us:K'.A.used<=K.A.used
structure KV.Kept (K:KV) (r:Nat) (K':KV):Prop where
 A:K'.A=K.A
 vr:K'.vars=K.vars
 od:K'.order=K.order
 lv:K'.level=K.level
 hd:∀ x,K'.hold x=if x=r/\2<=r then K.hold x+1 else K.hold x
 tr:K'.trail=[]
structure KV.Made (K:KV) (v lo hi r:Nat) (K':KV):Prop where
 ext:K.Ext K'
 no:K.A.tk r=false
 two:2<=r
 at_:K'.A.list[r]?=some ⟨v,lo,hi,true,0⟩
 tk:∀ x,K'.A.tk x=(decide (x=r)||K.A.tk x)
 us:K'.A.used=K.A.used+1
 hd:∀ x,K'.hold x=if x=r then 1 else K.hold x
 tr:K'.trail=[]
theorem KV.Ok.kept {K:KV} (h:K.Ok) {r:Nat} (ht:K.A.tk r=true) (hm:K.hold r<65535):(K.keepK r).Ok/\K.Kept r (K.keepK r):=by
 refine ⟨⟨h.wf.keepK ht hm,h.wf.keepK_pos ht (fun s _ h2 hs=>h.pos s h2 hs) (fun hh=>h.pos r (h.wf.ht r hh).1 ht),h.ord.same (K.keepK_A r) (K.keepK_vars r) (K.keepK_order r) (K.keepK_level r),by rw [K.keepK_trail];simp⟩,?_⟩;exact ⟨K.keepK_A r,K.keepK_vars r,K.keepK_order r,K.keepK_level r,h.wf.keepK_hold ht,K.keepK_trail r⟩
theorem KV.Kept.ext {K K':KV} {r:Nat} (h:K.Kept r K'):K.Ext K':=⟨fun _ _ h1 _=>by rw [h.A];exact h1,by rw [h.A],h.vr,h.od,h.lv⟩
theorem KV.Ok.made {K K1:KV} {v lo hi r:Nat} (h:K.Ok) (t:K.Took (v:Int) lo hi r K1) (h1:K.A.tk lo=true) (h2:K.A.tk hi=true) (hv:v<K.vars) (hne:lo≠hi) (hl:K.lev v<K.dep lo) (hh:K.lev v<K.dep hi) :
  (K1.keepK r).Ok/\K.Made v lo hi r (K1.keepK r):=by
 have hw:=t.wf h.wf h1 h2 ⟨by omega,by omega⟩;have ho:=t.ord h.wf h.ord h1 h2 hne hl hh
 have htr:K1.A.tk r=true:=by rw [t.fr.tk];simp
 have h0:K1.hold r=0:=by rw [t.hd,if_pos rfl]
 refine ⟨⟨hw.keepK htr (by omega),hw.keepK_pos htr (t.pos h.pos) (by omega),ho.same (K1.keepK_A r) (K1.keepK_vars r) (K1.keepK_order r) (K1.keepK_level r),by rw [K1.keepK_trail];simp⟩,?_⟩;have e:=t.ext;refine ⟨⟨fun s p hs hp=>by rw [K1.keepK_A];exact e.nd s p hs hp,by rw [K1.keepK_A];exact e.pl,by rw [K1.keepK_vars];exact e.vr,by rw [K1.keepK_order];exact e.od,by rw [K1.keepK_level];exact e.lv⟩,t.fr.no,t.fr.two,by rw [K1.keepK_A];exact t.fr.at_,by rw [K1.keepK_A];exact t.fr.tk,by rw [K1.keepK_A];exact t.fr.us,?_,K1.keepK_trail r⟩
 intro x
 rw [hw.keepK_hold htr];have:=t.fr.two
 by_cases e:x=r
 ·subst e;simp [h0];omega
 ·simp [e];rw [t.hd,if_neg e]
end Go.Proofs.YtdackeldhdchaaaGreat
