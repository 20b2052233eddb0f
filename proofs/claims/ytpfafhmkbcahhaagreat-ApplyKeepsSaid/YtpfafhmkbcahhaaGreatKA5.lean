import Derived.Test.YtpfafhmkbcahhaaGreatKA4
import Derived.Test.YtpfafhmkbcahhaaGreatKA2
import Derived.Deep.DeepCutAuto
import Derived.RangeFuncBox
import Derived.RangeFuncLeaves
import Derived.Shelf.Abstract
import Derived.WalkKit
import Derived.OwnWalkIn
import Derived.TacticsInMore
import Derived.LoopNIn
import Derived.LoopIn
import Derived.Maps.AppendAt
import Derived.Sort.MapsRangeIn
import Derived.RangeFuncNested
import Derived.RangeFuncBound
set_option maxRecDepth 100000
set_option maxHeartbeats 2000000
namespace Go.Proofs.YtpfafhmkbcahhaaGreat
open Go.RowKit Go.Maps Go.ChangeMaps Go.WideShapes
theorem Tryz.infoI32:(Tryz.prog.info? 21).map (fun i=>(i.zero,i.size,i.bytes))=some (some (.int .i32 0),1,4):=by kernel_rfl
def KV.padded (K:KV) (j:Nat):KV:={ K with uses:=K.uses++List.replicate j 0,holds:=K.holds++List.replicate j 0 }
def KV.zero (K:KV) (r:Nat):KV:={ K with uses:=K.uses.set r 0,holds:=K.holds.set r 0 }
def KV.useA (K:KV) (r:Nat):KV:=if 2<=r then K.useK r else K
theorem KV.useA_A (K:KV) (r:Nat):(K.useA r).A=K.A:=by unfold KV.useA;split <;> rfl
theorem KV.useA_holds (K:KV) (r:Nat):(K.useA r).holds=K.holds:=by unfold KV.useA;split <;> rfl
theorem KV.useA_vars (K:KV) (r:Nat):(K.useA r).vars=K.vars:=by unfold KV.useA;split <;> rfl
theorem KV.useA_order (K:KV) (r:Nat):(K.useA r).order=K.order:=by unfold KV.useA;split <;> rfl
theorem KV.useA_level (K:KV) (r:Nat):(K.useA r).level=K.level:=by unfold KV.useA;split <;> rfl
theorem KV.useA_trail (K:KV) (r:Nat):(K.useA r).trail=K.trail:=by unfold KV.useA;split <;> rfl
theorem KV.useA_len (K:KV) (r:Nat):(K.useA r).uses.length=K.uses.length:=by unfold KV.useA KV.useK;split <;> simp
theorem KV.useA_hold (K:KV) (r x:Nat):(K.useA r).hold x=K.hold x:=by unfold KV.hold;rw [KV.useA_holds]
theorem KV.useA_use (K:KV) (r x:Nat) (h:2<=r->r<K.uses.length):(K.useA r).use x=K.use x+(if r=x/\2<=x then 1 else 0):=by
 unfold KV.useA;split
 ·rename_i h2
  show (K.uses.set r (K.use r+1)).getD x 0=_
  rw [getD_set (h h2)]
  by_cases e:x=r
  ·subst e;simp [h2]
  ·simp [e,Ne.symm e];rfl
 ·rename_i h2
  have:¬ (r=x/\2<=x):=by rintro ⟨rfl,h⟩;exact h2 h
  simp [this]
theorem getD_pad (l:List Nat) (j x:Nat):(l++List.replicate j 0).getD x 0=l.getD x 0:=by
 simp only [List.getD_eq_getElem?_getD,List.getElem?_append]
 split
 ·rfl
 ·rename_i h
  rw [show l[x]?=none from List.getElem?_eq_none (by omega),List.getElem?_replicate]
  split <;> rfl
theorem KV.took_of {K:KV} {v:Int} {lo hi r j:Nat} {A':ArenaV} {P:List Nat} (hfr:Fresh K.A v lo hi r A') (hw:K.Wf P) (h1:K.A.tk lo=true) (h2:K.A.tk hi=true) (hj:r<K.uses.length+j) (hj2:K.uses.length+j<=A'.list.length) :
  K.Took v lo hi r ((((({ K with A:=A' }:KV).padded j).zero r).useA lo).useA hi):=by
 have hz:((({ K with A:=A' }:KV).padded j).zero r).uses.length=K.uses.length+j:=by simp [KV.zero,KV.padded]
 have L1:2<=lo->lo<K.uses.length:=fun h=>hw.tu lo h h1
 have L2:2<=hi->hi<K.uses.length:=fun h=>hw.tu hi h h2
 refine ⟨by rw [KV.useA_A,KV.useA_A];exact hfr,?_,?_,?_,?_,?_,?_,?_,?_⟩
 ·rw [KV.useA_len,KV.useA_len,hz,KV.useA_A,KV.useA_A]
  exact ⟨by omega,hj,hj2⟩
 ·rw [KV.useA_holds,KV.useA_holds,KV.useA_len,KV.useA_len]
  have:=hw.len
  simp [KV.zero,KV.padded,this]
 ·intro x
  rw [KV.useA_use _ _ _ (by rw [KV.useA_len,hz];intro h;have:=L2 h;omega),KV.useA_use _ _ _ (by rw [hz];intro h;have:=L1 h;omega)]
  congr 2
  show ((K.uses++List.replicate j 0).set r 0).getD x 0=_
  rw [getD_set (by simp;omega),getD_pad];rfl
 ·intro x
  rw [KV.useA_hold,KV.useA_hold]
  show ((K.holds++List.replicate j 0).set r 0).getD x 0=_
  rw [getD_set (by have:=hw.len;simp;omega),getD_pad];rfl
 ·rw [KV.useA_vars,KV.useA_vars];rfl
 ·rw [KV.useA_order,KV.useA_order];rfl
 ·rw [KV.useA_level,KV.useA_level];rfl
 ·rw [KV.useA_trail,KV.useA_trail];rfl
theorem use_any (b r:Nat) (K:KV) (T:List DM) (q:KPtr) (w:World) (h:KerMem w b K T q) (hr:2<=r->r<K.uses.length) (hb:2<=r->K.use r+1<=2147483647) (hr32:r<=4294967295) :
  Calls Tryz.prog 207 #[.pointer (some ⟨b,0,none⟩),.int .u32 r] w fun e w'=>e=.returned (.tuple #[])/\KerMem w' b (K.useA r) T q/\Upd (q.all b) w w':=by
 by_cases h2:2<=r
 ·refine (use_spec b r K T q w h h2 (hr h2) (hb h2) hr32).mono ?_
  rintro e w' ⟨a1,a2,a3⟩;exact ⟨a1,by unfold KV.useA;rw [if_pos h2];exact a2,a3⟩
 ·refine (use_const b r w (by omega)).mono ?_
  rintro e w' ⟨a1,rfl⟩;exact ⟨a1,by unfold KV.useA;rw [if_neg h2];exact h,Upd.refl _ _⟩
structure TakeR (w:World) (b:Nat) (q0:KPtr) (v lo hi B:Nat) (K1:KV) (T:List DM) (j:Nat) (wr:World) (q:KPtr):Prop where
 mem:KerMem wr b (K1.padded j) T q
 up:Upd (q0.all b) w wr
 sub:Sub (q0.all b) w (q.all b)
 qe:q.a=q0.a/\q.t=q0.t
 bx:wr.heap[B]?=some (.cells #[.int .i64 v,.int .u32 lo,.int .u32 hi] 115 (0,0))
 bn:B∉q.all b
structure TakeS (w:World) (b:Nat) (q0:KPtr) (v lo hi B:Nat) (KK:KV) (T:List DM) (wr:World) (q:KPtr):Prop where
 mem:KerMem wr b KK T q
 up:Upd (q0.all b) w wr
 sub:Sub (q0.all b) w (q.all b)
 bx:wr.heap[B]?=some (.cells #[.int .i64 v,.int .u32 lo,.int .u32 hi] 115 (0,0))
 bn:B∉q.all b
theorem TakeS.step {w w1 w2:World} {b v lo hi B:Nat} {q0 q q':KPtr} {K1 K2:KV} {T T':List DM} (h:TakeS w b q0 v lo hi B K1 T w1 q) (hm:KerMem w2 b K2 T' q') (hu:Upd (q.all b) w1 w2) (hs:Sub (q.all b) w1 (q'.all b)) :
  TakeS w b q0 v lo hi B K2 T' w2 q':=by
 have hB:=heap_lt h.bx;refine ⟨hm,h.up.then hu h.sub,?_,by rw [hu.block B hB h.bn];exact h.bx,?_⟩
 ·intro k hk
  rcases hs k hk with hk | hk
  ·exact h.sub k hk
  ·have:=h.up.size;right;omega
 ·intro hk
  rcases hs B hk with hk | hk
  ·exact h.bn hk
  ·omega
theorem TakeS.cells {w w1:World} {b v lo hi B:Nat} {q0 q:KPtr} {K1:KV} {T:List DM} (h:TakeS w b q0 v lo hi B K1 T w1 q) :
  w1.cell? ⟨B,0,none⟩=some (.int .i64 v)/\w1.cell? ⟨B,1,none⟩=some (.int .u32 lo)/\w1.cell? ⟨B,2,none⟩=some (.int .u32 hi)/\w1.cell? ⟨b,1,none⟩=some (.pointer (some ⟨q.t,0,none⟩)) :=
 ⟨cell_at h.bx rfl,cell_at h.bx rfl,cell_at h.bx rfl,cell_at h.mem.blk rfl⟩
theorem take_spec (b v lo hi:Nat) (K:KV) (P:List Nat) {X:List Nat} (T:List DM) (D:DM) (q:KPtr) (w:World) (h:KerMem w b K T q) (hw:K.Wf P) (ht:TInv T K X) (hP:P.length<=1000000000)
  (hv:v<K.vars) (h1:K.A.tk lo=true) (h2:K.A.tk hi=true) (hl1:lo<=4294967295) (hl2:hi<=4294967295) (hD:T[v]?=some D) (hno:Maps.has D (nk v lo hi)=false) (hroom:K.A.used<K.A.places) :
  Calls Tryz.prog 226 #[.pointer (some ⟨b,0,none⟩),.agg #[.int .i64 v,.int .u32 lo,.int .u32 hi]] w fun e w' =>
   ∃ (r:Nat) (K':KV) (q':KPtr),e=.returned (.int .u32 r)/\K.Took v lo hi r K'/\KerMem w' b K' (T.set v (D.put (nk v lo hi) (.lit (.int .u32 r)))) q'/\Upd (q.all b) w w'/\Sub (q.all b) w (q'.all b):=by
 have hchk:K.A.checkE v lo hi=0:=by
  have:=hw.vs;unfold ArenaV.checkE;rw [if_neg (by omega),if_neg (by simp [h1,h2])]
 have hbl:=heap_lt h.blk;have HC:=Lib.hid hchk;have HM0:Hid (KerMem (w.alloc (.cells #[.int .i64 v,.int .u32 lo,.int .u32 hi] 115 (0,0))).drew b K T q):=h.upd (((Upd.refl [] w).alloc _).drew) (by simp)
 obtain ⟨x0,x1,x2,x3⟩ : (w.alloc (.cells #[.int .i64 v,.int .u32 lo,.int .u32 hi] 115 (0,0))).drew.cell? ⟨b,0,none⟩=some (.pointer (some ⟨q.a,0,none⟩)) /\
   (w.alloc (.cells #[.int .i64 v,.int .u32 lo,.int .u32 hi] 115 (0,0))).drew.cell? ⟨w.heap.size,0,none⟩=some (.int .i64 v) /\
   (w.alloc (.cells #[.int .i64 v,.int .u32 lo,.int .u32 hi] 115 (0,0))).drew.cell? ⟨w.heap.size,1,none⟩=some (.int .u32 lo) /\
   (w.alloc (.cells #[.int .i64 v,.int .u32 lo,.int .u32 hi] 115 (0,0))).drew.cell? ⟨w.heap.size,2,none⟩=some (.int .u32 hi):=by
  have hn:=heap_alloc_new w (.cells #[.int .i64 v,.int .u32 lo,.int .u32 hi] 115 (0,0));exact ⟨cell_at HM0.out.blk rfl,cell_at hn rfl,cell_at hn rfl,cell_at hn rfl⟩
 have NB:w.heap.size∉q.all b:=fun hm=>by have:=h.lt _ hm;omega
 have NA:w.heap.size∉q.FA:=fun hm=>NB (KPtr.mem.2 (.inr (.inl hm)))
 have BA:b∉q.FA:=by intro hm;have e1:=h.ob;have e2:=h.oa b hm;omega
 have HH:=Lib.hid (And.intro hw (And.intro ht (And.intro hD hno)));have HT1:=Lib.hid (And.intro h1 h2);have HRM:=Lib.hid hroom;clear h hw ht hD hno h1 h2 hchk hroom
 go_enter Tryz.func226,Tryz.ntmps226
 go_wp2_with fail
 go_region_held3 (fun w'=>w'.cell? ⟨b,0,none⟩=some (.pointer (some ⟨q.a,0,none⟩))/\w'.cell? ⟨w.heap.size,0,none⟩=some (.int .i64 v)/\w'.cell? ⟨w.heap.size,1,none⟩=some (.int .u32 lo)/\w'.cell? ⟨w.heap.size,2,none⟩=some (.int .u32 hi)) (first | exact ⟨x0,x1,x2,x3⟩ | exact held4 H3.out.2.2.1 x0 x1 x2 x3 BA NA NA NA) (first | (go_at_call 245;refine (alloc_any q.a q.FA v lo hi K.A _ HM0.out.ar hl1 hl2 HRM.out HC.out).mono ?_;rintro e w3 ⟨r,A',F',rfl,hfr,ha,hu,hs⟩;have H3:=Lib.hid (And.intro hfr (And.intro ha (And.intro hu hs)));clear hfr ha hu hs))
 have HS:Hid (∃ q',TakeR w b q v lo hi w.heap.size { K with A:=A' } T 0 w3 q'):=by
  obtain ⟨hfr,ha,hu,hs⟩:=H3.out;have m:=HM0.out.arena ha hu hs
  have hsz:w.heap.size<(w.alloc (.cells #[.int .i64 v,.int .u32 lo,.int .u32 hi] 115 (0,0))).drew.heap.size:=by
   show w.heap.size<(w.alloc _).heap.size
   rw [World.size_alloc];omega
  refine ⟨{ q with FA:=F',o:=retag q (w.alloc (.cells #[.int .i64 v,.int .u32 lo,.int .u32 hi] 115 (0,0))).drew.heap.size 1 },⟨by simpa [KV.padded] using m,?_,?_,⟨rfl,rfl⟩,?_,?_⟩⟩
  ·exact (((Upd.refl (q.all b) w).alloc _).drew).then hu fun x hx=>.inl (KPtr.mem.2 (.inr (.inl hx)))
  ·intro k hk
   rcases KPtr.mem.1 hk with hk | hk | hk
   ·exact .inl (KPtr.mem.2 (.inl hk))
   ·rcases hs k hk with hk | hk
    ·exact .inl (KPtr.mem.2 (.inr (.inl hk)))
    ·right;omega
   ·exact .inl (KPtr.mem.2 (.inr (.inr hk)))
  ·rw [hu.block _ hsz NA];exact heap_alloc_new w _
  ·intro hk
   rcases KPtr.mem.1 hk with hk | hk | hk
   ·exact NB (KPtr.mem.2 (.inl hk))
   ·rcases hs _ hk with hk | hk
    ·exact NA hk
    ·omega
   ·exact NB (KPtr.mem.2 (.inr (.inr hk)))
 have HFR:=Lib.hid H3.out.1;have hrb:=H3.out.1.room;have hul:=HH.out.1.ul;have hll:=H3.out.1.ll;have hlen:=HH.out.1.len;have hap:=HFR.out.ok.lp;have hap2:=HFR.out.ok.pm;have HF2:=Lib.hid (And.intro hul (And.intro hll (And.intro hlen (And.intro hap hap2))))
 have hulb:K.uses.length<=1048576:=by omega
 clear x0 x1 x2 x3 HM0 H3 hll hlen hap hap2 hul;go_wp2_with fail
 go_loopg [17] (r+1-K.uses.length) (fun g s17 wr=>∃ (j:Nat) (q':KPtr),r+1-(K.uses.length+j)=g/\(j=0\/K.uses.length+j<=r+1)/\TakeR w b q v lo hi w.heap.size { K with A:=A' } T j wr q')
 case atStart =>
  obtain ⟨q',h⟩:=HS.out;exact ⟨0,q',by omega,.inl rfl,h⟩
 case round =>
  obtain ⟨j,q',rfl,hj,hR⟩:=hrel
  by_cases hlt:K.uses.length+j<=r
  ·have hm:=hR.mem
   have hnu:(K.uses++List.replicate j 0).length=K.uses.length+j:=by simp
   have hrow:=hm.us;obtain ⟨fa,fc,hfv,_⟩:=row_nil_len hrow
   have hfv':q'.uv=.slice fa (K.uses.length+j) fc:=by rw [hfv];simp [KV.padded]
   have hc2:wr.cell? ⟨b,2,none⟩=some (.slice fa (K.uses.length+j) fc):=by rw [<- hfv'];exact cell_at hm.blk rfl
   have hrow':wr.ownsRow 0 21 1 (.slice fa (K.uses.length+j) fc) (K.uses.length+j) (flat32 (K.uses++List.replicate j 0)):=by
    rw [<- hfv',<- hnu];exact hrow
   have HROW:=Lib.hid hrow';have hbr:=heap_lt hm.blk;have HR:=Lib.hid hR;have HFV:=Lib.hid hfv';obtain ⟨n,hn⟩ : ∃ n,K.uses.length+j=n:=⟨_,rfl⟩;rw [hn] at hc2 hlt HROW HFV;have HN:=Lib.hid hn
   have hnb:n<=1048576:=by omega
   have hge:decide ((n:Int)<=(r:Int))=true:=by simp;omega
   clear hm hR hrow hrow' hfv hfv' hnu hn hj;obtain ⟨i,hi0,hz0,hz1',hz2⟩:=info_parts Tryz.infoI32;have HI:=Lib.hid hi0;have HZ:=Lib.hid hz0;have HZ1:=Lib.hid hz1';have HZ2:=Lib.hid hz2;clear hi0 hz0 hz1' hz2
   have HC2':Hid (∀ u,u∈[Value.int .i32 0]->u.oneCell'=true):=by intro u hu;simp at hu;subst hu;rfl
   go_wp2_with (at_builtin;go_must (refine wpList_append_lies _ rfl (.tmp 28) (.tmp 29) 200 rfl 0 21 i _ 1 4 Tryz.underlying200 HI.out HZ.out HZ1.out HZ2.out (by rfl) (by decide) _ n (flat32 (K.uses++List.replicate j 0)) rfl (HROW.out.alloc _) ⟨wr.heap.size,0,none⟩ 1 1 [.int .i32 0] rfl rfl ?c1 HC2'.out (by omega) (by unfold maxLen;omega) (by omega) (by omega) _ rfl ?_))
   case c1=>exact World.news_of_block (heap_alloc_new wr (.cells #[.int .i32 0] 21 (0,0)))
   intro g5 cap w5 hown hgr hat hlt2
   have hat':(Value.slice fa n fc).ownBlock=some g5\/g5=wr.heap.size+1:=hat
   have M5:Hid (∃ q5,KerMem (w5.setCell ⟨b,2,none⟩ (.slice (some ⟨g5,0,none⟩) (n+1) cap)) b { (({ K with A:=A' }:KV).padded j) with uses:=(K.uses++List.replicate j 0)++[0] } T q5/\q5.hv=q'.hv/\q5.a=q'.a/\q5.t=q'.t/\Sub (q'.all b) wr (q5.all b)):=by
    have hl:(({ K with A:=A' }:KV).padded j).uses.length=n:=by rw [<- HN.out];simp [KV.padded]
    have:=HR.out.mem.growUse (g5:=g5) (cap:=cap) (by rw [HFV.out];exact hgr) (by rw [HFV.out];exact hat') (by rw [hl];exact hown);rw [hl] at this;refine ⟨_,this,rfl,rfl,rfl,?_⟩
    intro k hk
    simp only [KPtr.mem] at hk ⊢
    rcases hk with hk | hk | hk | hk | hk
    ·exact .inl (.inl hk)
    ·exact .inl (.inr (.inl hk))
    ·exact .inl (.inr (.inr (.inl hk)))
    ·simp [Value.ownBlock] at hk;subst hk
     rcases hat' with e | e
     ·exact .inl (.inr (.inr (.inr (.inl (by rw [HFV.out];exact e)))))
     ·right;omega
    ·exact .inl (.inr (.inr (.inr (.inr hk))))
   have hbk5:w5.heap[b]?=wr.heap[b]?:=by
    have hne:some b≠(Value.slice fa n fc).ownBlock:=by
     intro e
     have e1:=HR.out.mem.ob;have e2:=HR.out.mem.ou b (by rw [HFV.out];exact e.symm);omega
    rw [hgr.block b (by rw [World.size_alloc];omega) hne,heap_alloc_old _ _ hbr]
   rw [HR.out.mem.blk] at hbk5;have fz2:w5.frozen? ⟨b,2,none⟩=false:=frozen_at 2 hbk5;have c52:w5.cell? ⟨b,2,none⟩=some q'.uv:=cell_at hbk5 rfl;have HG5:=Lib.hid (And.intro hgr hat');obtain ⟨q5,m5,q5h,q5a,q5t,q5s⟩:=M5.out;have hrow5:=m5.hs;obtain ⟨ga,gc,hgv,_⟩:=row_nil_len hrow5
   have hlh:(({ K with A:=A' }:KV).padded j).holds.length=n:=by rw [<- HN.out];simp [KV.padded,HF2.out.2.2.1]
   have hgv':q5.hv=.slice ga n gc:=by rw [hgv];congr 1
   have c53:(w5.setCell ⟨b,2,none⟩ (.slice (some ⟨g5,0,none⟩) (n+1) cap)).cell? ⟨b,3,none⟩=some (.slice ga n gc):=by rw [<- hgv'];exact cell_at m5.blk rfl
   have hrow5':(w5.setCell ⟨b,2,none⟩ (.slice (some ⟨g5,0,none⟩) (n+1) cap)).ownsRow 0 21 1 (.slice ga n gc) n (flat32 (K.holds++List.replicate j 0)):=by
    have key:∀ (wx:World) (vx:Value) (xs:List Value) (m:Nat),m=n->wx.ownsRow 0 21 1 vx m xs->wx.ownsRow 0 21 1 vx n xs:=fun _ _ _ m e h=>e ▸ h
    rw [<- hgv'];exact key _ _ _ _ hlh hrow5
   have HROW5:=Lib.hid hrow5'
   have hbr5:b<w5.heap.size:=by have:=heap_lt m5.blk;simpa [World.setCell] using this
   have HM5:=Lib.hid m5;have HQ5:=Lib.hid (And.intro q5h (And.intro q5a (And.intro q5t q5s)));have HGV:=Lib.hid hgv';have HLH:=Lib.hid hlh;have HU:=Lib.hid hown;generalize hcells:w5.setCell ⟨b,2,none⟩ (.slice (some ⟨g5,0,none⟩) (n+1) cap)=W5 at c53 HROW5 HM5;have HC5:=Lib.hid hcells;clear hgr hat hat' hown m5 q5h q5a q5t q5s hrow5 hrow5' hgv hgv' hlh hbk5 M5
   go_upto_region 4 with (fail)
   go_wp2_with (at_builtin;go_must (refine wpList_append_lies _ rfl (.tmp 37) (.tmp 38) 200 rfl 0 21 i _ 1 4 Tryz.underlying200 HI.out HZ.out HZ1.out HZ2.out (by rfl) (by decide) _ n (flat32 (K.holds++List.replicate j 0)) rfl (HROW5.out.alloc _) ⟨W5.heap.size,0,none⟩ 1 1 [.int .i32 0] rfl rfl ?c2 HC2'.out (by omega) (by unfold maxLen;omega) (by omega) (by omega) _ rfl ?_))
   intro g6 cap6 w6 hown6 hgr6 hat6 hlt6
   have hbk6:w6.heap[b]?=W5.heap[b]?:=by
    have hne:some b≠(Value.slice ga n gc).ownBlock:=by
     intro e
     have e1:=HM5.out.ob;have e2:=HM5.out.oh b (by rw [HGV.out];exact e.symm);omega
    have hb5:=heap_lt HM5.out.blk;rw [hgr6.block b (by rw [World.size_alloc];omega) hne,heap_alloc_old _ _ hb5]
   rw [HM5.out.blk] at hbk6;have fz3:w6.frozen? ⟨b,3,none⟩=false:=frozen_at 3 hbk6;have c63:w6.cell? ⟨b,3,none⟩=some q5.hv:=cell_at hbk6 rfl
   have M6:Hid (∃ q6,KerMem (w6.setCell ⟨b,3,none⟩ (.slice (some ⟨g6,0,none⟩) (n+1) cap6)) b (({ K with A:=A' }:KV).padded (j+1)) T q6/\q6.a=q'.a/\q6.t=q'.t/\Sub (q5.all b) W5 (q6.all b)):=by
    have hat6':(Value.slice ga n gc).ownBlock=some g6\/g6=W5.heap.size+1:=hat6
    have:=HM5.out.growHold (g5:=g6) (cap:=cap6) (by rw [HGV.out];exact hgr6) (by rw [HGV.out];exact hat6') (by
     have key:∀ (m:Nat),m=n->w6.ownsRow 0 21 1 (.slice (some ⟨g6,0,none⟩) (m+1) cap6) (m+1) (flat32 (K.holds++List.replicate j 0)++[.int .i32 0]):=by rintro m rfl;exact hown6
     exact key _ HLH.out)
    have e1:∀ (l:List Nat),l++List.replicate (j+1) 0=l++List.replicate j 0++[0]:=by intro l;rw [List.replicate_succ',List.append_assoc]
    have key2:∀ (m:Nat) (KK:KV) (qq:KPtr),m=n->KK=({ K with A:=A' }:KV).padded (j+1)->KerMem (w6.setCell ⟨b,3,none⟩ (.slice (some ⟨g6,0,none⟩) (m+1) cap6)) b KK T qq->KerMem (w6.setCell ⟨b,3,none⟩ (.slice (some ⟨g6,0,none⟩) (n+1) cap6)) b (({ K with A:=A' }:KV).padded (j+1)) T qq:=by rintro _ _ _ rfl rfl h;exact h
    refine ⟨_,key2 _ _ _ HLH.out (by simp only [KV.padded,e1]) this,HQ5.out.2.1,HQ5.out.2.2.1,?_⟩
    intro k hk
    simp only [KPtr.mem] at hk ⊢
    rcases hk with hk | hk | hk | hk | hk | hk
    ·exact .inl (.inl hk)
    ·exact .inl (.inr (.inl hk))
    ·exact .inl (.inr (.inr (.inl hk)))
    ·exact .inl (.inr (.inr (.inr (.inl hk))))
    ·simp [Value.ownBlock] at hk;subst hk
     rcases hat6' with e | e
     ·exact .inl (.inr (.inr (.inr (.inr (.inl (by rw [HGV.out];exact e))))))
     ·right;omega
    ·exact .inl (.inr (.inr (.inr (.inr (.inr hk)))))
   have HT6:Hid (∃ q6,TakeR w b q v lo hi w.heap.size { K with A:=A' } T (j+1) (w6.setCell ⟨b,3,none⟩ (.slice (some ⟨g6,0,none⟩) (n+1) cap6)) q6):=by
    obtain ⟨q6,m6,a6,t6,s6⟩:=M6.out;obtain ⟨hg5,hat5⟩:=HG5.out;have hR:=HR.out;have s5:=HQ5.out.2.2.2;have hB:=heap_lt hR.bx
    have hBb:w.heap.size≠b:=by omega
    have hBr:some w.heap.size≠(Value.slice fa n fc).ownBlock:=fun e=>hR.bn (KPtr.mem.2 (.inr (.inr (.inr (.inl (by rw [HFV.out];exact e.symm))))))
    have hsz5:wr.heap.size<w5.heap.size:=by have:=hg5.size;rw [World.size_alloc] at this;omega
    have hW5:W5.heap.size=w5.heap.size:=by rw [<- HC5.out];simp [World.setCell]
    have n5:w.heap.size∉q5.all b:=fun hm=>by
     rcases s5 _ hm with h | h
     ·exact hR.bn h
     ·omega
    have n6:w.heap.size∉q6.all b:=fun hm=>by
     rcases s6 _ hm with h | h
     ·exact n5 h
     ·omega
    have hBr5:some w.heap.size≠(Value.slice ga n gc).ownBlock:=fun e=>n5 (KPtr.mem.2 (.inr (.inr (.inr (.inr (.inl (by rw [HGV.out];exact e.symm)))))))
    have sub':∀ k,k∈q'.all b->k∈q.all b\/w.heap.size<=k:=hR.sub;have hws:=hR.up.size
    have sub5:∀ k,k∈q5.all b->k∈q.all b\/w.heap.size<=k:=fun k hk=>by
     rcases s5 k hk with h | h
     ·exact sub' k h
     ·right;omega
    have hb0:b∈q.all b\/w.heap.size<=b:=.inl (KPtr.mem.2 (.inl rfl))
    have u5:Upd (q.all b) w W5:=by
     rw [<- HC5.out];exact ((hR.up.alloc _).grown hg5 (fun k hk=>sub' k (KPtr.mem.2 (.inr (.inr (.inr (.inl (by rw [HFV.out];exact hk)))))))).setCell hb0 _
    have u6:=((u5.alloc _).grown hgr6 (fun k hk=>sub5 k (KPtr.mem.2 (.inr (.inr (.inr (.inr (.inl (by rw [HGV.out];exact hk)))))))));refine ⟨q6,m6,u6.setCell hb0 _,?_,⟨a6.trans hR.qe.1,t6.trans hR.qe.2⟩,?_,n6⟩
    ·intro k hk
     rcases s6 k hk with h | h
     ·exact sub5 k h
     ·right;omega
    ·rw [heap_set_ne hBb,hgr6.block _ (by rw [World.size_alloc];omega) hBr5,heap_alloc_old _ _ (by omega),<- HC5.out,heap_set_ne hBb,hg5.block _ (by rw [World.size_alloc];omega) hBr,heap_alloc_old _ _ hB]
     exact hR.bx
   clear hown6 hgr6 hat6 hbk6 M6;go_wp2_with fail
   go_roundg (r+1-(K.uses.length+(j+1)))
   case measure=>have:=HN.out;omega
   case rel =>
    obtain ⟨q6,h6⟩:=HT6.out;exact ⟨j+1,q6,rfl,.inr (by have:=HN.out;omega),h6⟩
  ·have hjr:K.uses.length+j<=A'.list.length:=by have:=HF2.out.1;have:=HF2.out.2.1;have h9:=HFR.out.ll;omega
   have hm:=hR.mem
   have hK1:r<(({ K with A:=A' }:KV).padded j).uses.length:=by simp [KV.padded];omega
   have hK2:r<(({ K with A:=A' }:KV).padded j).holds.length:=by have:=HF2.out.2.2.1;simp [KV.padded];omega
   obtain ⟨gu,cu,hqu,c2,cu1,fu1,hgu⟩:=hm.useCell hK1;obtain ⟨gh,ch,hqh,c3,cu2,fu2,hgh⟩:=hm.holdCell hK2
   have hlu:(({ K with A:=A' }:KV).padded j).uses.length=K.uses.length+j:=by simp [KV.padded]
   have hlh:(({ K with A:=A' }:KV).padded j).holds.length=K.uses.length+j:=by have:=HF2.out.2.2.1;simp [KV.padded];omega
   have hnb:K.uses.length+j<=1048576:=by omega
   obtain ⟨n,hn⟩ : ∃ n,K.uses.length+j=n:=⟨_,rfl⟩;rw [hlu,hn] at c2;rw [hlh,hn] at c3;rw [hn] at hnb
   have hge:decide ((n:Int)<=(r:Int))=false:=by simp;omega
   have hrn:(r:Int)<(n:Int):=by omega
   have ngh:gu≠gh:=by
    rintro rfl;have e1:=hm.ou gu (by rw [hqu];rfl);have e2:=hm.oh gu (by rw [hqh];rfl);omega
   have nbu:b≠gu:=by
    rintro rfl;have e1:=hm.ou b (by rw [hqu];rfl);have e2:=hm.ob;omega
   have nbh:b≠gh:=by
    rintro rfl;have e1:=hm.oh b (by rw [hqh];rfl);have e2:=hm.ob;omega
   have HR:=Lib.hid hR;have HJ:=Lib.hid (And.intro hn (And.intro hj (And.intro hjr (And.intro hqu (And.intro hqh (And.intro hgu hgh))))));clear hm hR hqu hqh hgu hgh hlu hlh hn hj hjr hlt hK1 hK2;go_wp2_with fail
   go_region
   have HS4:Hid (TakeS w b q v lo hi w.heap.size ((({ K with A:=A' }:KV).padded j).zero r) T ((wr.setCell ⟨gu,r,none⟩ (.int .i32 0)).setCell ⟨gh,r,none⟩ (.int .i32 0)).drew q'):=by
    obtain ⟨hn,hj,hjr,hqu,hqh,hgu,hgh⟩:=HJ.out;have hR:=HR.out
    have hl:r<K.uses.length+j:=by omega
    have m1:=hR.mem.setUse (n:=0) hqu (by rw [show (({ K with A:=A' }:KV).padded j).uses.length=K.uses.length+j by simp [KV.padded]];exact hl)
    have m2:=m1.setHold (n:=0) hqh (by
     have e:(({ K with A:=A' }:KV).padded j).holds.length=K.uses.length+j:=by have:=HF2.out.2.2.1;simp [KV.padded];omega
     show r<(({ K with A:=A' }:KV).padded j).holds.length
     rw [e];exact hl)
    have m3:=m2.upd ((Upd.refl [] _).drew) (by simp);have s0:TakeS w b q v lo hi w.heap.size (({ K with A:=A' }:KV).padded j) T wr q':=⟨hR.mem,hR.up,hR.sub,hR.bx,hR.bn⟩;exact s0.step m3 ((((Upd.refl _ wr).setCell (.inl hgu) _).setCell (.inl hgh) _).drew) (Sub.refl _ _)
   have HTK:Hid (K.Took v lo hi r ((((({ K with A:=A' }:KV).padded j).zero r).useA lo).useA hi)):=by
    obtain ⟨hn,hj,hjr,_⟩:=HJ.out;exact KV.took_of HFR.out HH.out.1 HT1.out.1 HT1.out.2 (by omega) hjr
   have HL:Hid ((2<=lo->lo<K.uses.length+j)/\(2<=hi->hi<K.uses.length+j)/\(((({ K with A:=A' }:KV).padded j).zero r).uses.length=K.uses.length+j)):=by
    refine ⟨fun h=>?_,fun h=>?_,by simp [KV.zero,KV.padded]⟩
    ·have:=HH.out.1.tu lo h HT1.out.1;omega
    ·have:=HH.out.1.tu hi h HT1.out.2;omega
   have HB:Hid (∀ x,2<=x->K.A.tk x=true->((({ K with A:=A' }:KV).padded j).zero r).use x<=1002097153):=by
    obtain ⟨hn,hj,hjr,_⟩:=HJ.out
    intro x h2 htx
    have:=HH.out.1.use_le h2 htx
    have e:((({ K with A:=A' }:KV).padded j).zero r).use x=if x=r then 0 else K.use x:=by
     show ((K.uses++List.replicate j 0).set r 0).getD x 0=_
     rw [getD_set (by simp;omega),getD_pad];rfl
    rw [e];split <;> omega
   generalize hW4:((wr.setCell ⟨gu,r,none⟩ (.int .i32 0)).setCell ⟨gh,r,none⟩ (.int .i32 0)).drew=W4 at HS4;generalize hK4:((({ K with A:=A' }:KV).padded j).zero r)=K4 at HS4 HTK HL HB;obtain ⟨y0,y1,y2,y3⟩:=HS4.out.cells;clear hW4 hK4 c2 c3 cu1 cu2 fu1 fu2 ngh nbu nbh hge hrn HJ HR;go_wp2_with fail;refine (use_any b lo K4 T q' _ HS4.out.mem (by rw [HL.out.2.2];exact HL.out.1) (fun h=>by have:=HB.out lo h HT1.out.1;omega) hl1).mono ?_;rintro e w5 ⟨rfl,m5,u5⟩;have HS5:=Lib.hid (HS4.out.step m5 u5 (Sub.refl _ _))
   have HB5:Hid (2<=hi->(K4.useA lo).use hi+1<=2147483647):=by
    intro h
    have:=HB.out hi h HT1.out.2;rw [KV.useA_use _ _ _ (by rw [HL.out.2.2];exact HL.out.1)]
    split <;> omega
   have HL5:Hid (2<=hi->hi<(K4.useA lo).uses.length):=by rw [KV.useA_len,HL.out.2.2];exact HL.out.2.1
   clear m5 u5 y0 y1 y2 y3 HS4;obtain ⟨y0,y1,y2,y3⟩:=HS5.out.cells;go_wp2_with fail;refine (use_any b hi _ T q' _ HS5.out.mem HL5.out HB5.out hl2).mono ?_;rintro e w6 ⟨rfl,m6,u6⟩;have HS6:=Lib.hid (HS5.out.step m6 u6 (Sub.refl _ _));clear m6 u6 y0 y1 y2 y3 HS5 HL5 HB5;obtain ⟨y0,y1,y2,y3⟩:=HS6.out.cells
   have HSZ:Hid (Maps.size D<maxLen):=by
    have h1:=HH.out.2.1;have hv:=HH.out.2.2.1;obtain ⟨_,_,_,_,_,_,_,_,ho⟩:=HS6.out.mem.tab.cells hv;have:=h1.size HH.out.1 hv (ho.canon nodeKeyed) (ho.tidy nodeKeyed)
    show Maps.size D<maxLen
    unfold maxLen;omega
   have NB6:w.heap.size∉q'.FT:=fun hm=>HS6.out.bn (KPtr.mem.2 (.inr (.inr (.inl hm))))
   have BA6:b∉q'.FT:=by intro hm;have e1:=HS6.out.mem.ob;have e2:=HS6.out.mem.ot b hm;omega
   have HT6:Hid (TabAt w6.drew q'.t T q'.FT):=HS6.out.mem.tab.upd ((Upd.refl [] _).drew) (by simp);have HNO:=Lib.hid HH.out.2.2.2;have HDD:=Lib.hid HH.out.2.2.1
   have hr32:r<=4294967295:=by omega
   go_wp2_with fail
   go_region_held3 (fun w'=>w'.cell? ⟨w.heap.size,0,none⟩=some (.int .i64 v)/\w'.cell? ⟨w.heap.size,1,none⟩=some (.int .u32 lo)/\w'.cell? ⟨w.heap.size,2,none⟩=some (.int .u32 hi)/\w'.cell? ⟨b,1,none⟩=some (.pointer (some ⟨q'.t,0,none⟩))) (first | exact ⟨y0,y1,y2,y3⟩ | exact held4 HA.out.2 y0 y1 y2 y3 NB6 NB6 NB6 BA6) (first | (go_at_call 209;refine (add_spec q'.t q'.FT v lo hi r T D _ HT6.out HDD.out hl1 hl2 hr32 HNO.out HSZ.out).mono ?_;rintro e w7 ⟨rfl,ta,tu⟩;have HA:=Lib.hid (And.intro ta tu);clear ta tu))
   go_wp2_with fail;have S7:=(HS6.out.step (HS6.out.mem.upd ((Upd.refl [] _).drew) (by simp)) ((Upd.refl _ _).drew) (Sub.refl _ _));have S8:=S7.step (S7.mem.table HA.out.1 HA.out.2) (HA.out.2.mono fun x hx=>KPtr.mem.2 (.inr (.inr (.inl hx)))) (Sub.refl _ _);have HE:=Lib.hid (And.intro HTK.out (And.intro S8.mem (And.intro S8.up S8.sub)));clear S7 S8;go_ret;exact ⟨r,_,q',rfl,HE.out⟩
end Go.Proofs.YtpfafhmkbcahhaaGreat
namespace Go.Proofs.YtpfafhmkbcahhaaGreat
open Go.RowKit Go.Maps Go.ChangeMaps Go.WideShapes Go.Shelf
attribute [local go_sem] Oper.semAt_some
structure Came (D:DM) (left:Lit->Bool) (ps:List (Lit × Int)):Prop where
 nd:(ps.map (·.1)).Nodup
 at_:∀ p,p∈ps->∀ z,D.atKey p.1 z=.lit (.int .u32 p.2)
 mem:∀ k,k∈ps.map (·.1)↔(Maps.has D k=true/\left k=false)
theorem Came.start (D:DM):Came D (Maps.has D) []:=⟨by simp,by simp,fun k=>by cases Maps.has D k <;> simp⟩
theorem Came.step {D:DM} {left:Lit->Bool} {ps:List (Lit × Int)} (h:Came D left ps) {k:Lit} {c:Int} (hk:WideAt.IsKeyLit k) (hl:left k=true) (hat:∀ z,D.atKey k z=.lit (.int .u32 c)):Came D (fun z=>left z&&!z.sameKey k) (ps++[(k,c)]):=by
 have hh:Maps.has D k=true:=has_true_of_atKey hat;refine ⟨?_,fun p hp=>?_,fun z=>?_⟩
 ·rw [List.map_append,List.nodup_append]
  refine ⟨h.nd,by simp,fun a ha b hb=>?_⟩
  simp at hb;subst hb
  rintro rfl;have:=((h.mem a).1 ha).2
  rw [hl] at this;cases this
 ·rcases List.mem_append.1 hp with hp | hp
  ·exact h.at_ p hp
  ·simp at hp;subst hp;exact hat
 ·rw [List.map_append,List.mem_append,h.mem]
  by_cases e:z=k
  ·subst e;simp [hh,WideAt.sameKey_self hk]
  ·simp [e,sameKey_ne e]
def AllVals (D:DM) (l:List Int):Prop:=∃ ps:List (Lit × Int),(ps.map (·.1)).Nodup/\(∀ p,p∈ps->∀ z,D.atKey p.1 z=.lit (.int .u32 p.2))/\(∀ k,k∈ps.map (·.1)↔Maps.has D k=true)/\l=ps.map (·.2)
theorem Came.all {D:DM} {left:Lit->Bool} {ps:List (Lit × Int)} (h:Came D left ps) (hl:∀ k,left k=false):AllVals D (ps.map (·.2)):=⟨ps,h.nd,h.at_,fun k=>by rw [h.mem,hl];simp,rfl⟩
theorem key_isKey {key:Value} {kl:Lit} (h:keyOf Tryz.prog 115 key=some kl):WideAt.IsKeyLit kl:=by
 unfold keyOf at h;rw [Tryz.underlying115] at h
 simp at h
 obtain ⟨_,ls,_,rfl⟩:=h
 trivial
theorem values1_in (n:Nat) (hn:1<=n) (l Bm b nn:Nat) (D:DM) (J Jx:List Int->World->Prop)
  (hY:∀ pre x W,J pre W->pre.length<Maps.size D->YieldAt Fence.wide (n-1) Tryz.prog l #[.int .u32 x] W fun e W' =>
   (e=.returned (.bool true)/\J (pre++[x]) W'/\KeepsWalks W W')\/(e=.returned (.bool false)/\Jx (pre++[x]) W'))
  (W:World) (hJ:AbidesFrom W.heap.size J) (hm:W.cell? ⟨Bm,0,none⟩=some (.map (some b))) (hown:W.ownsMap Tryz.prog 115 (plainElem Tryz.prog 54) b nn D) (h0:J [] W) :
  CallsIn Fence.wide n Tryz.prog 251 #[.func (.yield l) #[] #[],.pointer (some ⟨Bm,0,none⟩)] W fun e W'=>(∃ v,e=.returned v) /\
   ((∃ xs,AllVals D xs/\J xs W')\/(∃ pre,True/\Jx pre W')):=by
 refine callsIn_of_wp Tryz.func251 rfl trivial ?_ rfl
 simp only [Tryz.ntmps251,List.size_toArray,List.length_cons,List.length_nil,Nat.reduceAdd,Nat.reduceSub,Array.replicate_succ,Array.replicate_zero,List.push_toArray,List.append_toArray,List.nil_append,List.cons_append]
 gi_wp2_with (first
  | (gi_at_range;refine wpListIn_range_own _ rfl _ 284 rfl 115 54 nodeKeyed Tryz.underlying284 _ b nn _ rfl hown ?_;intro w0 hrg0 hg0 hs0)
  | gi_in)
 go_frame
 gi_loopw [4] (fun _ wr=>∃ (left:Lit->Bool) (cnt:Nat) (ps:List (Lit × Int)),wr.ranges Tryz.prog 115 (plainElem Tryz.prog 54) b W.heap.size nn D left cnt/\ps.length+cnt<=Maps.size D/\Came D left ps/\J (ps.map (·.2)) wr)
  (fun _ wr=>wr.rangeLeft b W.heap.size)
 case atStart =>
  exact ⟨_,_,[],hrg0,by simp,Came.start D,hJ [] W w0 none h0 hg0 (fun r e=>by cases e)⟩
 case round =>
  obtain ⟨left,cnt,ps,hrg,hcs,hC,hJs⟩:=hrel
  gi_wp2_with (first
   | (gi_at_next;refine wpListIn_next_ranges _ rfl _ rfl 115 nodeKeyed (plainElem Tryz.prog 54) id (Value.int .u32) (fun key kl hk=>⟨key,rfl⟩) (fun v y hv=>by obtain ⟨c,rfl,_⟩:=plainElem_int_inv Tryz.underlying54 hv;exact ⟨c,rfl⟩) b W.heap.size nn _ _ _ rfl hrg ?_ ?_)
   | gi_in)
  ·intro hc0 hl0
   gi_wp2
   go_end0;exact ⟨⟨_,rfl⟩,.inl ⟨_,hC.all hl0,hJs⟩⟩
  ·intro x c kl yd yp w2 cnt2 hkey hlk hv hat hrg2 hlt hg2 hs2 hen
   obtain ⟨c',ec,ez,_⟩:=plainElem_int_inv Tryz.underlying54 hv
   obtain rfl:c=c':=by simpa using ec
   obtain rfl:yd=.lit (.int .u32 c):=(Prod.mk.inj ez).1;have hJ2:J (ps.map (·.2)) w2:=hJ _ wr w2 (some W.heap.size) hJs hg2 (fun r e=>by cases e;exact ⟨Nat.le_refl _,hrg.iter_walk⟩);obtain ⟨fn,tmps,assign,body,hy,hR⟩:=hY (ps.map (·.2)) c w2 hJ2 (by simp;omega);clear hs2
   gi_wp2
   refine hR.mono ?_;have hC2:=hC.step (key_isKey hkey) hlk hat;rintro e W3 (⟨rfl,hJ3,hk3⟩ | ⟨rfl,hJx3⟩)
   ·gi_wp2
    have hrg3:=hrg2.of_walks hk3
    go_roundw
    case rel=>exact ⟨_,cnt2,ps++[(kl,c)],hrg3,by simp;omega,hC2,by simpa using hJ3⟩
    case measure=>rw [hrg3.left_eq,hrg.left_eq];exact hlt
   ·gi_wp2
    refine bodyPost_ret (results_none rfl _ _ _) rfl ?_;exact ⟨⟨_,rfl⟩,.inr ⟨_,trivial,hJx3⟩⟩
theorem values_in (n:Nat) (mb:Option Nat) (w:World) :
  CallsIn Fence.wide n Tryz.prog 248 #[.map mb] w fun e w'=>e=.returned (.func (.func 251) #[] #[.pointer (some ⟨w.heap.size,0,none⟩)])/\w'=w.alloc (.cells #[.map mb] 284):=by
 refine callsIn_of_wp Tryz.func248 rfl trivial ?_ rfl
 simp only [Tryz.ntmps248,List.size_toArray,List.length_cons,List.length_nil,Nat.reduceAdd,Nat.reduceSub,Array.replicate_succ,Array.replicate_zero,List.push_toArray,List.append_toArray,List.nil_append,List.cons_append]
 gi_wp2
 go_ret;exact ⟨rfl,rfl⟩
theorem values_stops (n:Nat) (hn:1<=n) (Bm b nn:Nat) (D:DM) (w:World) (hBm:Bm<w.heap.size) (hm:w.cell? ⟨Bm,0,none⟩=some (.map (some b))) (hown:w.ownsMap Tryz.prog 115 (plainElem Tryz.prog 54) b nn D) :
  SeqStopsK Fence.wide n Tryz.prog 251 #[.pointer (some ⟨Bm,0,none⟩)] (fun x:Int=>#[Value.int .u32 x]) KeepsWalks (AllVals D) (fun _=>True) (Maps.size D) w:=fun l J Jx W hW hJ _ hY h0=>by
 have hown':W.ownsMap Tryz.prog 115 (plainElem Tryz.prog 54) b nn D:=own_keep hown (hW.block b hown.lt);exact values1_in n hn l Bm b nn D J Jx hY W hJ ((hW.cell (p:=⟨Bm,0,none⟩) hBm).trans hm) hown' h0
attribute [local go_sem] Oper.semAt_some
theorem Tryz.infoRefE:(Tryz.prog.info? 54).map (fun i=>(i.zero,i.size,i.bytes))=some (some (.int .u32 0),1,4):=by kernel_rfl
structure GatherQ (D:DM) (n0:Nat) (w:World) (e:Ending) (w':World):Prop where
 ex:∃ (v:Value) (l:List Int),e=.returned v/\AllVals D l/\w'.ownsRow n0 54 1 v l.length (l.map (Value.int .u32))/\Below w.heap.size w w'
theorem appendSeq_in (n:Nat) (hn:3<=n) (Bm b nn:Nat) (D:DM) (w:World) (hBm:Bm<w.heap.size) (hm:w.cell? ⟨Bm,0,none⟩=some (.map (some b))) (hown:w.ownsMap Tryz.prog 115 (plainElem Tryz.prog 54) b nn D) (hsz:Maps.size D<=1048576) :
  CallsIn Fence.wide n Tryz.prog 252 #[.slice none 0 0,.func (.func 251) #[] #[.pointer (some ⟨Bm,0,none⟩)]] w fun e w'=>GatherQ D w.heap.size w e w':=by
 have h1:1<=n:=by omega
 obtain ⟨i0,hi,hz0,hz1,hz2⟩:=info_parts Tryz.infoRefE;refine callsIn_of_wp_marks Tryz.func252 rfl trivial ?_ rfl
 simp only [Tryz.ntmps252,List.size_toArray,List.length_cons,List.length_nil,Nat.reduceAdd,Nat.reduceSub,Array.replicate_succ,Array.replicate_zero,List.push_toArray,List.append_toArray,List.nil_append,List.cons_append]
 gi_wp2
 have bO:=Boxed.new w 28 (.slice none 0 0);have hB0:Below w.heap.size w (w.alloc (.cells #[.slice none 0 0] 28)):=(Below.refl _ w).alloc (Nat.le_refl _) _;have hm1:(w.alloc (.cells #[.slice none 0 0] 28)).cell? ⟨Bm,0,none⟩=some (.map (some b)):=(hB0.cell (p:=⟨Bm,0,none⟩) hBm).trans hm;have hown1:(w.alloc (.cells #[.slice none 0 0] 28)).ownsMap Tryz.prog 115 (plainElem Tryz.prog 54) b nn D:=own_keep hown (hB0.block b hown.lt)
 refine wpIn_rangeFunc_ownG rfl h1 (gf:=251) (lb:=#[.pointer (some ⟨Bm,0,none⟩)]) rfl trivial (enters_of Tryz.func251 (by kernel_rfl) rfl)
  (values_stops (n-1) (by omega) Bm b nn D _ (by simp;omega) hm1 hown1) walksK_t walksK_b (Below.refl _ _) (fun _=>rfl)
  (fun pre W=>(∃ v,Boxed W w.heap.size 28 v/\W.ownsRow w.heap.size 54 1 v pre.length (pre.map (Value.int .u32))/\True)/\Below w.heap.size w W)
  (fun _ _ _=>False)
  (OwnFrom.and (Own.from (holdsRow_own w.heap.size w.heap.size 28 54 1 (fun pre:List Int=>pre.length) (fun pre=>pre.map (Value.int .u32)) (fun _ _=>True)) _) (ownFrom_below (Nat.le_refl _) (by simp)))
  (fun _ _ _ _ _ hs _ _=>hs)
  ⟨⟨_,bO,World.ownsRow_nil _ _ _ _,trivial⟩,hB0⟩
  (fun x=>{ tmps:=#[.slice none 0 0,.func (.func 251) #[] #[.pointer (some ⟨Bm,0,none⟩)],.pointer (some ⟨w.heap.size,0,none⟩),undef,.slice none 0 0,.int .u32 x,.func (.func 251) #[] #[.pointer (some ⟨Bm,0,none⟩)],.int .u32 x,undef,undef,undef,undef,undef],defers:=[] }) ?assign ?body ?done ?stop
 case assign =>
  intro l x W K hK
  gi_wp2
  exact hK
 case body =>
  rintro l pre x W ⟨⟨v,hv,hrow,_⟩,hB⟩ hlt;have hc:=hv.cell
  gi_wp2_with (gi_at_builtin;refine wpListIn_append_own _ rfl _ _ 28 rfl w.heap.size 54 i0 (.int .u32 0) 1 4 Tryz.underlying28 hi hz0 hz1 hz2 rfl (by decide) _ _ _ rfl (hrow.alloc _) ⟨W.heap.size,0,none⟩ 1 1 [.int .u32 x] rfl rfl (cell_one_new _ _ _) (by simp [Value.oneCell']) (by unfold maxLen;omega) (by omega) (by have:=hB.size;simp;omega) ?_;intro v' w1 hown' hgrow _;obtain ⟨g',cap',rfl⟩:=ownsRow_succ hown';obtain ⟨hv1,hv2,hr2,hk2,hb2⟩:=hv.appended (by decide) hrow hB.size (Nat.le_refl _) hown' hgrow;have hc1:=hv1.cell;have hf1:=hv1.frozen)
  exact ⟨hk2.from _,hk2.walks,⟨_,hv2,by simpa using hr2,trivial⟩,hB.trans hb2⟩
 case done =>
  rintro Dd ys W hD hys ⟨⟨v,hv,hrow,_⟩,hB⟩ hK;have hc:=hv.cell
  gi_wp2
  refine ⟨by simp,.inl ⟨_,_,rfl,run_takeDeferred hK,?_⟩⟩;exact ⟨_,results_tmp rfl _ _ _,v,ys,rfl,hys,ownsRow_putObj hrow _ hK rfl,hB.trans (belowK_b (w:=w) (Nat.le_refl _) W Dd _ _ (by simp at hD;omega) hK rfl rfl)⟩
 case stop =>
  rintro Dd c pre W _ _ h _;exact h.elim
theorem collect_in (n:Nat) (hn:4<=n) (Bm b nn:Nat) (D:DM) (w:World) (hBm:Bm<w.heap.size) (hm:w.cell? ⟨Bm,0,none⟩=some (.map (some b))) (hown:w.ownsMap Tryz.prog 115 (plainElem Tryz.prog 54) b nn D) (hsz:Maps.size D<=1048576) :
  CallsIn Fence.wide n Tryz.prog 249 #[.func (.func 251) #[] #[.pointer (some ⟨Bm,0,none⟩)]] w fun e w'=>GatherQ D w.heap.size w e w':=by
 refine callsIn_of_wp Tryz.func249 rfl trivial ?_ rfl
 simp only [Tryz.ntmps249,List.size_toArray,List.length_cons,List.length_nil,Nat.reduceAdd,Nat.reduceSub,Array.replicate_succ,Array.replicate_zero,List.push_toArray,List.append_toArray,List.nil_append,List.cons_append]
 gi_wp2
 refine ⟨trivial,fun _=>by omega,?_⟩;refine (appendSeq_in (n-1) (by omega) Bm b nn D _ hBm hm hown hsz).mono ?_;rintro e w' hE;obtain ⟨v,l,rfl,hl,hr,hB⟩:=hE.ex;clear hE
 gi_wp2
 go_ret;exact ⟨v,l,rfl,hl,hr,hB⟩
end Go.Proofs.YtpfafhmkbcahhaaGreat
namespace Go.Proofs.YtpfafhmkbcahhaaGreat
open Go.RowKit Go.Maps Go.ChangeMaps Go.WideShapes
theorem len64_zero (w:World):Calls Tryz.prog 265 #[.int .u64 0] w fun e w'=>(∃ c:Int,e=.returned (.int .i64 c))/\w'=w:=by
 go_enter Tryz.func265,Tryz.ntmps265
 go_wp2_with fail;go_ret;exact ⟨⟨_,rfl⟩,rfl⟩
theorem len_zero (w:World):Calls Tryz.prog 254 #[.int .u64 0] w fun e w'=>(∃ c:Int,e=.returned (.int .i64 c))/\w'=w:=by
 go_enter Tryz.func254,Tryz.ntmps254
 go_wp2_with fail;refine (len64_zero _).mono ?_;rintro e w1 ⟨⟨c,rfl⟩,rfl⟩;go_wp2_with fail;go_ret;exact ⟨⟨_,rfl⟩,rfl⟩
theorem insSort_empty (a:Option Addr) (c:Nat) (w:World):Calls Tryz.prog 255 #[.slice a 0 c,.int .i64 0,.int .i64 0] w fun e w'=>e=.returned (.tuple #[])/\w'=w:=by
 go_enter Tryz.func255,Tryz.ntmps255
 go_wp2_with fail
 go_loopg [6] 0 (fun gg s6 wr=>gg=0/\s6=.int .i64 1/\wr=w)
 case atStart=>exact ⟨rfl,rfl,rfl⟩
 case round =>
  obtain ⟨rfl,rfl,rfl⟩:=hrel;go_wp2_with fail;go_end0;exact ⟨rfl,rfl⟩
theorem pdq_empty (a:Option Addr) (c:Nat) (l:Int) (w:World):Calls Tryz.prog 253 #[.slice a 0 c,.int .i64 0,.int .i64 0,.int .i64 l] w fun e w'=>e=.returned (.tuple #[])/\w'=w:=by
 go_enter Tryz.func253,Tryz.ntmps253
 go_wp2_with fail
 go_loopg [1,2,3] 0 (fun gg s1 s2 s3 wr=>gg=0/\s1=.int .i64 0/\s2=.int .i64 0/\wr=w)
 case atStart=>exact ⟨rfl,rfl,rfl,rfl⟩
 case round =>
  obtain ⟨rfl,rfl,rfl,rfl⟩:=hrel;go_wp2_with fail;refine (insSort_empty a c _).mono ?_;rintro e w1 ⟨rfl,rfl⟩;go_wp2_with fail;refine bodyPost_ret (results_none rfl _ _ _) rfl ?_;exact ⟨rfl,rfl⟩
theorem sort_empty (a:Option Addr) (c:Nat) (w:World):Calls Tryz.prog 250 #[.slice a 0 c] w fun e w'=>e=.returned (.tuple #[])/\w'=w:=by
 go_enter Tryz.func250,Tryz.ntmps250
 go_wp2_with fail;refine (len_zero _).mono ?_;rintro e w1 ⟨⟨l,rfl⟩,rfl⟩;go_wp2_with fail;refine (pdq_empty a c l _).mono ?_;rintro e w2 ⟨rfl,rfl⟩;go_wp2_with fail;go_end0;exact ⟨rfl,rfl⟩
theorem AllVals.none {D:DM} {l:List Int} (h:AllVals D l) (hD:∀ k,Maps.has D k=false):l=[]:=by
 obtain ⟨ps,_,_,hm,rfl⟩:=h
 cases ps with
 | nil=>rfl
 | cons p ps =>
  have:=(hm p.1).1 (by simp)
  rw [hD] at this;cases this
theorem collect_calls (Bm b nn:Nat) (D:DM) (w:World) (hBm:Bm<w.heap.size) (hm:w.cell? ⟨Bm,0,none⟩=some (.map (some b))) (hown:w.ownsMap Tryz.prog 115 (plainElem Tryz.prog 54) b nn D) (hsz:Maps.size D<=1048576) :
  Calls Tryz.prog 249 #[.func (.func 251) #[] #[.pointer (some ⟨Bm,0,none⟩)]] w fun e w'=>GatherQ D w.heap.size w e w' :=
 callsIn_wide.1 (collect_in 10 (by omega) Bm b nn D w hBm hm hown hsz)
theorem values_calls (mb:Option Nat) (w:World) :
  Calls Tryz.prog 248 #[.map mb] w fun e w'=>e=.returned (.func (.func 251) #[] #[.pointer (some ⟨w.heap.size,0,none⟩)])/\w'=w.alloc (.cells #[.map mb] 284) :=
 callsIn_wide.1 (values_in 10 mb w)
theorem below_upd {n:Nat} {w w':World} (h:Below n w w') (hn:w.heap.size<=n):Upd [] w w' :=
 ⟨h.os,h.tape,h.output,h.size,fun k hk _=>h.block k (by omega)⟩
theorem sorted_empty (Bm b nn:Nat) (D:DM) (w:World) (hBm:Bm<w.heap.size) (hm:w.cell? ⟨Bm,0,none⟩=some (.map (some b))) (hown:w.ownsMap Tryz.prog 115 (plainElem Tryz.prog 54) b nn D) (hsz:Maps.size D<=1048576) (hD:∀ k,Maps.has D k=false) :
  Calls Tryz.prog 247 #[.func (.func 251) #[] #[.pointer (some ⟨Bm,0,none⟩)]] w fun e w'=>∃ (a:Option Addr) (c:Nat),e=.returned (.slice a 0 c)/\Upd [] w w':=by
 have HC:=Lib.hid (collect_calls Bm b nn D w hBm hm hown hsz);clear hm hown
 go_enter Tryz.func247,Tryz.ntmps247
 go_wp2_with fail;refine HC.out.mono ?_;rintro e w1 hE;obtain ⟨v,l,rfl,hl,hr,hB⟩:=hE.ex;obtain rfl:=hl.none hD;obtain ⟨a,c,rfl,_⟩:=row_nil_len hr;have HU:=Lib.hid (below_upd hB (Nat.le_refl _));clear hE hl hr hB HC hD
 simp only [List.length_nil]
 go_wp2_with fail;refine (sort_empty a c _).mono ?_;rintro e w2 ⟨rfl,rfl⟩;go_wp2_with fail;go_ret;exact ⟨a,c,rfl,HU.out⟩
theorem refs_empty (tb:Nat) (F:List Nat) (v:Nat) (T:List DM) (D:DM) (w:World) (h:TabAt w tb T F) (hv:T[v]?=some D) (hD:∀ k,Maps.has D k=false) (hsz:Maps.size D<=1048576) :
  Calls Tryz.prog 235 #[.pointer (some ⟨tb,0,none⟩),.int .i64 v] w fun e w'=>∃ (a:Option Addr) (c:Nat),e=.returned (.tuple #[.slice a 0 c,.int .i64 0])/\Upd [] w w':=by
 obtain ⟨g,cap,m,t1,t2,t3,c0,c1,hown⟩:=h.cells hv;have hvl:=(List.getElem?_eq_some_iff.1 hv).1;have hbd:=h.bd;have HT:=Lib.hid h;have HO:=Lib.hid hown
 have hvi:(v:Int)<(T.length:Int):=by omega
 clear h hown t1 t2 t3 hv
 go_enter Tryz.func235,Tryz.ntmps235
 go_wp2_with fail;refine (tcheck_ok tb F v T _ HT.out (by omega) (by omega)).mono ?_;rintro e w1 ⟨rfl,rfl⟩;go_wp2_with fail;refine (values_calls (some m) _).mono ?_;rintro e w2 ⟨rfl,rfl⟩;have hb:=heap_alloc_new w (.cells #[.map (some m)] 284 (0,0));have HM:=Lib.hid (own_keep HO.out (((Upd.refl [] w).alloc (.cells #[.map (some m)] 284)).block m HO.out.lt (by simp)));have HCL:Hid ((w.alloc (.cells #[.map (some m)] 284)).cell? ⟨w.heap.size,0,none⟩=some (.map (some m))):=cell_at hb rfl;clear hb;go_wp2_with fail;refine (sorted_empty w.heap.size m _ D _ (by simp) HCL.out HM.out hsz hD).mono ?_;rintro e w3 ⟨a,c,rfl,hu⟩;have HU:=Lib.hid (((Upd.refl [] w).alloc (.cells #[.map (some m)] 284)).trans hu);clear hu;go_wp2_with fail;go_ret2;exact ⟨a,c,rfl,HU.out⟩
end Go.Proofs.YtpfafhmkbcahhaaGreat
