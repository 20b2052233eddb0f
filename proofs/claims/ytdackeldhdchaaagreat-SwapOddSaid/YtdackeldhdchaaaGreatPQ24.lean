import Derived.Test.YtdackeldhdchaaaGreatPQ23
import Derived.Deep.RegionHeld3
set_option maxRecDepth 100000
set_option maxHeartbeats 1600000
namespace Go.Proofs.YtdackeldhdchaaaGreat
open Go.RowKit Go.Maps Go.ChangeMaps Go.WideShapes
structure atL (w:World) (b:Nat) (K0:KV) (P:List Nat) (q0:abM) (S:List Nat) (wr:World) (K:KV) (T:List DM) (q:abM):Prop where
 mem:abv wr b K T q
 wf:K.Wf (S++P)
 ti:afg T K []
 le:K.Le K0
 pos:K0.Pos->K.Pos
 qe:q={ q0 with FA:=q.FA,o:=q.o }
 up:Upd (q0.all b) w wr
 sub:Sub (q0.all b) w (q.all b)
theorem atL.pop {w:World} {b:Nat} {K0:KV} {P:List Nat} {q0:abM} {S:List Nat} {r:Nat} {wr:World} {K:KV} {T:List DM} {q:abM} (h:atL w b K0 P q0 (r::S) wr K T q) (hr:r<2):atL w b K0 P q0 S wr K T q :=
 ⟨h.mem,h.wf.unpend01 hr,h.ti,h.le,h.pos,h.qe,h.up,h.sub⟩
theorem atL.less {w:World} {b:Nat} {K0:KV} {P:List Nat} {q0:abM} {S:List Nat} {r g n c:Nat} {wr:World} {K:KV} {T:List DM} {q:abM} (h:atL w b K0 P q0 (r :: S) wr K T q) (hr:2≤r) (hu:1 < K.use r)
    (hl:r < K.uses.length) (hq:q.uv=.slice (some ⟨g,0,none⟩) n c):atL w b K0 P q0 S (wr.setCell ⟨g,r,none⟩ (.int .i32 ((K.use r - 1:Nat):Int))) (K.less r) T q :=
  ⟨h.mem.setUse hq hl,h.wf.less hr,h.ti.same rfl rfl,(K.less_le r).trans h.le,fun hp=>(h.pos hp).less h.wf hr hu,h.qe,
   h.up.setCell (h.sub g (abM.mem.2 (.inr (.inr (.inr (.inl (by rw [hq]; rfl))))))) _,h.sub⟩
theorem atL.gone {w:World} {b:Nat} {K0:KV} {P:List Nat} {q0:abM} {S:List Nat} {r g n c v:Nat} {wr w2 w3 w4 w5:World} {K:KV} {T:List DM} {q:abM} {p:abu} {D:DM} {F':List Nat}
  (h:atL w b K0 P q0 (r::S) wr K T q) (hr:2<=r) (hu:K.use r=1)
  (hl:r<K.uses.length) (hq:q.uv=.slice (some ⟨g,0,none⟩) n c) (hp:K.A.list[r]?=some p) (hpt:p.taken=true) (hv:p.var=(v:Int)) (hD:T[v]?=some D)
  (u2:Upd [] (wr.setCell ⟨g,r,none⟩ (.int .i32 0)) w2)
  (t3:afl w3 q.t (T.set v (D.del (nkp p))) q.FT) (u3:Upd q.FT w2 w3)
  (a4:acR w4 q.a (K.A.drop r) F') (u4:Upd q.FA w3 w4) (s4:Sub q.FA w3 F')
  (u5:∀ k,k<w.heap.size\/k∈q.all b\/k∈F'->w5.heap[k]?=w4.heap[k]?) (u6:Upd (q0.all b) w w4->Upd (q0.all b) w w5) :
  atL w b K0 P q0 (p.hi::p.lo::S) w5 (K.gone r) (T.set v (D.del (nkp p))) { q with FA:=F',o:=aeI q w3.heap.size 1 }:=by
 have m1:=h.mem.setUse (n:=0) hq hl;have m2:=m1.upd u2 (by simp);have m3:=m2.table t3 u3;have m4:=m3.arena a4 u4 s4;have hsz:w.heap.size<=w3.heap.size:=Nat.le_trans h.up.size (Nat.le_trans (by simpa [World.setCell] using u2.size) u3.size);have azJ:∀ k,k∈q.all b->k∈q0.all b\/w.heap.size<=k:=h.sub
 have hU4:Upd (q0.all b) w w4:=by
  have e1:=h.up.setCell (p:=⟨g,r,none⟩) (azJ g (abM.mem.2 (.inr (.inr (.inr (.inl (by rw [hq];rfl))))))) (.int .i32 0)
  have e2:=e1.then u2 (by simp)
  have e3:=e2.then u3 (fun x hx=>azJ x (abM.mem.2 (.inr (.inr (.inl hx)))))
  exact e3.then u4 (fun x hx=>azJ x (abM.mem.2 (.inr (.inl hx))))
 have hw:=h.wf.gone hr hu hp hpt;refine ⟨?_,hw.perm (List.Perm.swap _ _ _),?_,(K.gone_le r).trans h.le,fun hq=>(h.pos hq).gone h.wf hr,?_,u6 hU4,?_⟩
 ·refine abv.keep (w:=w4) m4 fun k hk=>u5 k ?_
  rcases abM.mem.1 hk with hk | hk | hk
  ·exact .inr (.inl (abM.mem.2 (.inl hk)))
  ·exact .inr (.inr hk)
  ·exact .inr (.inl (abM.mem.2 (.inr (.inr hk))))
 ·exact h.ti.gone h.wf hr hp hpt hv hD
 ·rw [h.qe]
 ·intro k hk
  rcases abM.mem.1 hk with hk | hk | hk
  ·exact azJ k (abM.mem.2 (.inl hk))
  ·rcases s4 k hk with hk | hk
   ·exact azJ k (abM.mem.2 (.inr (.inl hk)))
   ·right;omega
  ·exact azJ k (abM.mem.2 (.inr (.inr hk)))
structure atQ (w:World) (n0:Nat) (S:List Nat) (F:List Nat) (v:Value):Prop where
 row:w.ownsRow n0 77 1 v S.length (ach S.reverse)
 own:∀ k,v.ownBlock=some k->k∉F
theorem atQ.top {w:World} {n0 r:Nat} {S F:List Nat} {v:Value} (h:atQ w n0 (r::S) F v) :
  ∃ g c,v=.slice (some ⟨g,0,none⟩) (S.length+1) c/\w.cell? ⟨g,S.length,none⟩=some (.int .u32 r)/\S.length+1<=c/\c<=9223372036854775807/\g∉F/\n0<=g/\g<w.heap.size/\atQ w n0 S F (.slice (some ⟨g,0,none⟩) S.length c):=by
 have hr:=h.row;obtain ⟨g,c,rfl,_,_⟩:=hr.form (by simp);obtain ⟨_,hc1,hc2,_⟩:=ajT hr;have hl:=hr.lt g rfl;have ht:=ax3 hr (m:=S.length) (by simp);unfold maxLen at hc2
 simp at hr hc1
 refine ⟨g,c,by simp,abf hr ?_,hc1,by omega,h.own g rfl,hl.1,hl.2,?_,?_⟩
 ·simp [ach]
 ·simpa [ach] using ht
 ·intro k hk;exact h.own k hk
theorem aBU {w w4:World} {S:List Nat} {a1 a2 a3 a4:Addr} {v1 v2 v3 v4:Value} (hu:Upd S w w4) (h1:w.cell? a1=some v1) (h2:w.cell? a2=some v2) (h3:w.cell? a3=some v3) (h4:w.cell? a4=some v4)
    (n1:a1.block∉S) (n2:a2.block∉S) (n3:a3.block∉S) (n4:a4.block∉S) :
    w4.cell? a1=some v1∧w4.cell? a2=some v2∧w4.cell? a3=some v3∧w4.cell? a4=some v4 :=
  ⟨(hu.cell (World.block_lt_of_cell? w _ h1) n1).trans h1,(hu.cell (World.block_lt_of_cell? w _ h2) n2).trans h2,(hu.cell (World.block_lt_of_cell? w _ h3) n3).trans h3,
   (hu.cell (World.block_lt_of_cell? w _ h4) n4).trans h4⟩
theorem aNr {w:World} {b:Nat} {K0:KV} {P:List Nat} {q0:abM} {S:List Nat} {r g n c v gt g5 cap:Nat} {wr w2 w3 w4 w5:World} {K:KV} {T:List DM} {q:abM} {p:abu} {D:DM} {F':List Nat} {X:Obj}
  (h:atL w b K0 P q0 (r::S) wr K T q) (hr:2<=r) (hu:K.use r=1)
  (hl:r<K.uses.length) (hq:q.uv=.slice (some ⟨g,0,none⟩) n c) (hp:K.A.list[r]?=some p) (hpt:p.taken=true) (hv:p.var=(v:Int)) (hD:T[v]?=some D)
  (u2:Upd [] (wr.setCell ⟨g,r,none⟩ (.int .i32 0)) w2)
  (t3:afl w3 q.t (T.set v (D.del (nk v p.lo p.hi))) q.FT) (u3:Upd q.FT w2 w3)
  (a4:acR w4 q.a (K.A.drop r) F') (u4:Upd q.FA w3 w4) (s4:Sub q.FA w3 F')
  (d3:gt∉q.all b) (d4:w.heap.size<=gt) (d5:gt<wr.heap.size) (hg:(w4.alloc X).grownBy w5 (some gt)) (hat:some gt=some g5\/g5=(w4.alloc X).heap.size)
  (ab3:w5.ownsRow w.heap.size 77 1 (.slice (some ⟨g5,0,none⟩) (S.length+2) cap) (S.length+2) (ach S.reverse++[.int .u32 p.lo,.int .u32 p.hi])) :
  ∃ q',atL w b K0 P q0 (p.hi::p.lo::S) w5 (K.gone r) (T.set v (D.del (nkp p))) q'/\atQ w5 w.heap.size (p.hi::p.lo::S) (q'.all b) (.slice (some ⟨g5,0,none⟩) (S.length+2) cap):=by
 have hs2:wr.heap.size<=w2.heap.size:=by simpa [World.setCell] using u2.size
 have hs3:=u3.size;have hs4:=u4.size;have hF4:∀ k,k∈F'->k<w4.heap.size:=a4.lt;have hold:∀ k,k∈q.all b->k<wr.heap.size:=h.mem.lt
 have aXV:nkp p=nk v p.lo p.hi:=by unfold nkp;rw [hv]
 have hF5:gt∉F':=by
  intro hk
  rcases s4 gt hk with hk | hk
  ·exact d3 (abM.mem.2 (.inr (.inl hk)))
  ·omega
 refine ⟨_,h.gone hr hu hl hq hp hpt hv hD u2 (by rw [aXV];exact t3) u3 a4 u4 s4 (fun k hk=>?_) (fun hU=>(hU.alloc X).grown hg (by intro k hk;cases hk;exact .inr d4)),?_,?_⟩
 ·have hk4:k<w4.heap.size/\k≠gt:=by
   rcases hk with hk | hk | hk
   ·have:=h.up.size
    exact ⟨by omega,by omega⟩
   ·have:=hold k hk
    exact ⟨by omega,by rintro rfl;exact d3 hk⟩
   ·exact ⟨hF4 k hk,by rintro rfl;exact hF5 hk⟩
  rw [hg.block k (by rw [World.size_alloc];omega) (by simpa using hk4.2),heap_alloc_old _ _ hk4.1]
 ·simpa [ach] using ab3
 ·intro k hk
  simp [Value.ownBlock] at hk
  subst hk
  intro hm
  have hm4:g5<w4.heap.size:=by
   rcases abM.mem.1 hm with hk | hk | hk
   ·have:=hold b (abM.mem.2 (.inl rfl));omega
   ·exact hF4 _ hk
   ·have:=hold g5 (abM.mem.2 (.inr (.inr hk)));omega
  rcases hat with hat | hat
  ·simp at hat
   subst hat
   rcases abM.mem.1 hm with hk | hk | hk
   ·exact d3 (abM.mem.2 (.inl hk))
   ·exact hF5 hk
   ·exact d3 (abM.mem.2 (.inr (.inr hk)))
  ·rw [World.size_alloc] at hat;omega
theorem auq (b r0:Nat) (K0:KV) (P:List Nat) (T0:List DM) (q0:abM) (w:World) (h:abv w b K0 T0 q0) (hw:K0.Wf (r0::P)) (ht:afg T0 K0 []) (hP:P.length<=1000000000) (amm:r0<=4294967295) :
  Calls Tryz.prog 88 #[.pointer (some ⟨b,0,none⟩),.int .u32 r0] w fun e w'=>e=.returned (.tuple #[])/\∃ K T q,atL w b K0 P q0 [] w' K T q:=by
 have hu0:2*K0.A.used+1<=2097153:=by have:=hw.ok.us;have:=hw.ok.lp;have:=hw.ok.pm;omega
 have HS:Hid (∀ o,atL w b K0 P q0 [r0] (w.alloc o) K0 T0 q0):=fun o=>by
  have hu:=(Upd.refl (q0.all b) w).alloc o;exact ⟨h.keep fun k hk=>(heap_alloc_old w o (h.lt k hk)),hw,ht,.refl _,id,rfl,hu,Sub.refl _ _⟩
 have HN:Hid (∀ k,k∈q0.all b->k<w.heap.size):=h.lt;clear h hw ht
 go_enter Tryz.func88,Tryz.ntmps88
 go_wp2_with fail
 go_loopg [4] (2*K0.A.used+1) (fun g s4 wr=>∃ (S:List Nat) (K:KV) (T:List DM) (q:abM),2*K.A.used+S.length=g/\g<=2097153/\(∀ x,x∈S->x<=4294967295)/\atL w b K0 P q0 S wr K T q/\atQ wr w.heap.size S (q.all b) s4)
 case atStart =>
  refine ⟨[r0],K0,T0,q0,rfl,hu0,by simpa using amm,HS.out _,?_,?_⟩
  ·exact World.ownsRow_lit w #[.int .u32 r0] 1 (Nat.le_refl _) (by unfold maxLen;omega) rfl
  ·intro k hk;simp [Value.ownBlock] at hk;subst hk;intro hm;have:=HN.out _ hm;omega
 case round =>
  obtain ⟨S,K,T,q,rfl,hg,hx,hR,hT⟩:=hrel
  cases S with
  | nil =>
   obtain ⟨a,c,rfl,_⟩:=abI hT.row;have HR:=Lib.hid hR;clear hR hT hx;go_wp2_with fail;go_end0;exact ⟨rfl,K,T,q,HR.out⟩
  | cons r S =>
   obtain ⟨gt,ct,rfl,d0,d1,d2,d3,d4,d5,d6⟩:=hT.top;have hr:=hx r (by simp)
   have HX:Hid (∀ x,x∈S->x<=4294967295):=fun x h=>hx x (by simp [h])
   have HT:=Lib.hid d6
   simp at hg
   obtain ⟨n,hn⟩ : ∃ n,S.length=n:=⟨_,rfl⟩;rw [hn] at d0 d1 hg;have HNN:=Lib.hid hn
   have hnb:n<=2097153:=by omega
   by_cases hr1:r<=1
   ·have HR:=Lib.hid (hR.pop (by omega))
    have hd:decide ((r:Int)<=1)=true:=by simp;omega
    clear hR hT hx d6
    simp only [hn]
    clear hn;go_wp2_with fail
    go_roundg (2*K.A.used+n)
    case measure=>simp;have:=HNN.out;omega
    case rel =>
     exact ⟨S,K,T,q,by rw [HNN.out],by omega,HX.out,HR.out,by rw [<- HNN.out];exact HT.out⟩
   ·have hr2:2<=r:=by omega
    have htk:=hR.wf.pt r (by simp);have hl:=hR.wf.tu r hr2 htk;have he:=hR.wf.eq r hr2 htk;have hub:=hR.wf.use_le hr2 htk
    have aAe:1<=K.use r:=by rw [he];simp;omega
    simp [hn] at hub
    have hbd:(K.use r:Int)<=2147483647:=by omega
    have aXW:(1:Int)<=(K.use r:Int):=by omega
    obtain ⟨gu,cu,hq,c2,cu1,fu,hgu⟩:=hR.mem.useCell hl
    have a3T:b≠gu:=by rintro rfl;have e1:=hR.mem.ob;have e2:=hR.mem.ou b (by rw [hq];rfl);omega
    have aTO:gt≠gu:=by rintro rfl;exact d3 hgu
    have hd:decide ((r:Int)<=1)=false:=by simp;omega
    have hrl:(r:Int)<(K.uses.length:Int):=by omega
    have hus:K.uses.length<=9223372036854775807:=by have:=(ajT (hq ▸ hR.mem.us)).2;unfold maxLen at this;omega
    have hbl:=hR.mem.lt b (abM.mem.2 (.inl rfl))
    by_cases hu1:1<K.use r
    ·have HR:=Lib.hid (hR.less hr2 hu1 hl hq)
     have hc:((K.use r-1:Nat):Int)=(K.use r:Int)-1:=by omega
     rw [hc] at HR
     have hgt:decide (0<(K.use r:Int)-1)=true:=by simp;omega
     have HT2:Hid (atQ (wr.setCell ⟨gu,r,none⟩ (.int .i32 ((K.use r:Int)-1))) w.heap.size S (q.all b) (.slice (some ⟨gt,0,none⟩) n ct)):=by
      rw [<- hn];exact ⟨ac9 d6.row (by simpa [Value.ownBlock] using aTO.symm) _,d6.own⟩
     clear hR hT hx d6 hq he hub hc hgu
     simp only [hn]
     clear hn;go_wp2_with fail
     go_roundg (2*K.A.used+n)
     case measure=>simp;have:=HNN.out;omega
     case rel =>
      exact ⟨S,K.less r,T,q,by rw [HNN.out];rfl,by omega,HX.out,HR.out,HT2.out⟩
    ·have aQv:K.use r=1:=by omega
     obtain ⟨p,hp,hpt⟩:=aaU.tk_iff.1 htk;have hvr:=hR.wf.vr r p hr2 hp hpt;obtain ⟨v,hv⟩ : ∃ v:Nat,p.var=(v:Int):=⟨p.var.toNat,by omega⟩
     have hvl:v<T.length:=by rw [hR.ti.len];omega
     have hD:T[v]?=some T[v]:=List.getElem?_eq_getElem hvl;have aJL:=(hR.ti.at_ r p _ hr2 hp hpt (by simp) (by rw [hv];exact hD)).1;have hlh:=hR.wf.ok.u32 p (List.mem_of_getElem? hp)
     have cu2:wr.cell? ⟨gu,r,none⟩=some (.int .i32 1):=by rw [cu1,aQv];rfl
     have HTK:=Lib.hid htk;have HM1:=Lib.hid (hR.mem.setUse (n:=0) hq hl);have HR:=Lib.hid hR;have HD:=Lib.hid hD;have HP:=Lib.hid (And.intro hp (And.intro hpt hv))
     have HH:Hid (Maps.has T[v] (nk v p.lo p.hi)=true):=by rw [<- hv];exact aJL
     have HQ:=Lib.hid hq;have HU1:=Lib.hid aQv
     have HT2:Hid (atQ wr w.heap.size S (q.all b) (.slice (some ⟨gt,0,none⟩) n ct)):=by
      rw [<- hn];exact d6
     have HV:=Lib.hid hv;clear hR hT hx d6 hq he hub cu1 aQv hu1 aAe hbd aXW aJL hD hp hpt hvr hv htk
     simp only [hn]
     clear hn;go_wp2_with fail;refine (aiS b r { K with uses:=K.uses.set r 0 } T q p _ HM1.out (by omega) HP.out.1 HP.out.2.1).mono ?_;rintro e w1 ⟨rfl,hu1⟩;have hb1:w1.cell? ⟨b,1,none⟩=some (.pointer (some ⟨q.t,0,none⟩)):=aac ((hu1.block b (by simpa [World.setCell] using hbl) (by simp)).trans HM1.out.blk) rfl;have hb0:w1.cell? ⟨b,0,none⟩=some (.pointer (some ⟨q.a,0,none⟩)):=aac ((hu1.block b (by simpa [World.setCell] using hbl) (by simp)).trans HM1.out.blk) rfl;have a3U:b<w1.heap.size:=World.block_lt_of_cell? w1 _ hb0
     have a3V:wr.heap.size<=w1.heap.size:=by simpa [World.setCell] using hu1.size
     have NT1:w1.heap.size∉q.FT:=by intro hm;have e1:=HM1.out.tab.lt _ hm;simp [World.setCell] at e1;omega
     have NA1:w1.heap.size∉q.FA:=by intro hm;have e1:=HM1.out.ar.lt _ hm;simp [World.setCell] at e1;omega
     have HM2:Hid (abv (w1.alloc (.cells #[.int .i64 v,.int .u32 p.lo,.int .u32 p.hi] 142 (0,0))).drew b { K with uses:=K.uses.set r 0 } T q) :=
      HM1.out.upd ((hu1.alloc _).drew) (by simp)
     have HU:Hid (Upd [] (wr.setCell ⟨gu,r,none⟩ (.int .i32 0)) (w1.alloc (.cells #[.int .i64 v,.int .u32 p.lo,.int .u32 p.hi] 142 (0,0))).drew):=(hu1.alloc _).drew
     obtain ⟨x0,x1,x2,x3⟩ : (w1.alloc (.cells #[.int .i64 v,.int .u32 p.lo,.int .u32 p.hi] 142 (0,0))).drew.cell? ⟨b,1,none⟩=some (.pointer (some ⟨q.t,0,none⟩)) /\
       (w1.alloc (.cells #[.int .i64 v,.int .u32 p.lo,.int .u32 p.hi] 142 (0,0))).drew.cell? ⟨w1.heap.size,0,none⟩=some (.int .i64 v) /\
       (w1.alloc (.cells #[.int .i64 v,.int .u32 p.lo,.int .u32 p.hi] 142 (0,0))).drew.cell? ⟨w1.heap.size,1,none⟩=some (.int .u32 p.lo) /\
       (w1.alloc (.cells #[.int .i64 v,.int .u32 p.lo,.int .u32 p.hi] 142 (0,0))).drew.cell? ⟨w1.heap.size,2,none⟩=some (.int .u32 p.hi):=by
      have hn:=heap_alloc_new w1 (.cells #[.int .i64 v,.int .u32 p.lo,.int .u32 p.hi] 142 (0,0));exact ⟨aac HM2.out.blk rfl,aac hn rfl,aac hn rfl,aac hn rfl⟩
     clear hu1 hb1 hb0;rw [HV.out];go_wp2_with fail
     have bFT:b∉q.FT:=by intro hm;have e1:=HM2.out.ob;have e2:=HM2.out.ot b hm;omega
     go_region_held3 (fun w'=>w'.cell? ⟨b,1,none⟩=some (.pointer (some ⟨q.t,0,none⟩))/\w'.cell? ⟨w1.heap.size,0,none⟩=some (.int .i64 v)/\w'.cell? ⟨w1.heap.size,1,none⟩=some (.int .u32 p.lo)/\w'.cell? ⟨w1.heap.size,2,none⟩=some (.int .u32 p.hi)) (first | exact ⟨x0,x1,x2,x3⟩ | exact aBU H3.out.2 x0 x1 x2 x3 bFT NT1 NT1 NT1) (first | (go_at_call 145;refine (aDI q.t q.FT v p.lo p.hi T T[v] _ HM2.out.tab HD.out hlh.1 hlh.2.1 HH.out).mono ?_;rintro e w3 ⟨rfl,ht3,hu3⟩;have H3:=Lib.hid (And.intro ht3 hu3);clear ht3 hu3))
     obtain ⟨_,y1,y2,y3⟩:=aBU H3.out.2 x0 x1 x2 x3 bFT NT1 NT1 NT1;have HM3:=Lib.hid (HM2.out.table H3.out.1 H3.out.2);have hb0:w3.cell? ⟨b,0,none⟩=some (.pointer (some ⟨q.a,0,none⟩)):=aac HM3.out.blk rfl;clear x0 x1 x2 x3 HM2;go_wp2_with fail;refine (aNb q.a q.FA r K.A w3 HM3.out.ar (by omega) hr2 HTK.out).mono ?_;rintro e w4 ⟨rfl,F',a4,u4,s4⟩;have z2:w4.cell? ⟨w1.heap.size,1,none⟩=some (.int .u32 p.lo):=(u4.cell (World.block_lt_of_cell? w3 _ y2) NA1).trans y2;have z3:w4.cell? ⟨w1.heap.size,2,none⟩=some (.int .u32 p.hi):=(u4.cell (World.block_lt_of_cell? w3 _ y3) NA1).trans y3
     have aep:Hid (w4.ownsRow w.heap.size 77 1 (.slice (some ⟨gt,0,none⟩) n ct) n (ach S.reverse)):=by
      have h0:=HT2.out.row;rw [HNN.out] at h0;refine aaX h0 ?_
      intro k hk
      simp [Value.ownBlock] at hk;subst hk
      have e1:=HU.out.size;have e2:=H3.out.2.size
      have e0:(wr.setCell ⟨gu,r,none⟩ (.int .i32 0)).heap.size=wr.heap.size:=by simp [World.setCell]
      rw [u4.block gt (by omega) (fun hm=>d3 (abM.mem.2 (.inr (.inl hm)))),H3.out.2.block gt (by omega) (fun hm=>d3 (abM.mem.2 (.inr (.inr (.inl hm))))),HU.out.block gt (by omega) (by simp),acb aTO]
     have aPB:w.heap.size<=(w4.alloc (.cells #[.int .u32 p.lo,.int .u32 p.hi] 77 (0,0))).heap.size:=by
      have e1:=HU.out.size;have e2:=H3.out.2.size;have e3:=u4.size
      have e0:(wr.setCell ⟨gu,r,none⟩ (.int .i32 0)).heap.size=wr.heap.size:=by simp [World.setCell]
      rw [World.size_alloc];omega
     have H4:=Lib.hid (And.intro a4 (And.intro u4 s4));clear a4 u4 s4 y1 y2 y3 hb0;obtain ⟨i,hi0,hz0,amR,hz2⟩:=info_parts Tryz.infoRef;have HI:=Lib.hid hi0;have HZ:=Lib.hid hz0;have HZ1:=Lib.hid amR;have HZ2:=Lib.hid hz2;clear hi0 hz0 amR hz2
     have aAj:Hid (∀ u,u∈[Value.int .u32 p.lo,Value.int .u32 p.hi]->u.oneCell'=true):=by intro u hu;simp at hu;rcases hu with rfl | rfl <;> rfl
     go_wp2_with (at_builtin;go_must (refine wpList_append_lies _ rfl (.tmp 57) (.tmp 62) 42 rfl w.heap.size 77 i _ 1 4 Tryz.underlying42 HI.out HZ.out HZ1.out HZ2.out (by rfl) (by decide) _ n (ach S.reverse) rfl (aep.out.alloc _) ⟨w4.heap.size,0,none⟩ 2 2 [.int .u32 p.lo,.int .u32 p.hi] rfl rfl ?c1 aAj.out (by omega) (by unfold maxLen;omega) (by omega) (by omega) _ rfl ?_))
     case c1=>exact World.news_of_block (heap_alloc_new w4 (.cells #[.int .u32 p.lo,.int .u32 p.hi] 77 (0,0)))
     intro g5 cap w5 ab3 hgr hat aut
     have HX5:=Lib.hid (And.intro ab3 (And.intro hgr hat));clear ab3 hgr hat;go_wp2_with fail;obtain ⟨a4,u4,s4⟩:=H4.out;obtain ⟨ab3,hgr,hat⟩:=HX5.out;have aQw:=aNr (X:=.cells #[.int .u32 p.lo,.int .u32 p.hi] 77 (0,0)) (g5:=g5) (cap:=cap) HR.out hr2 HU1.out hl HQ.out HP.out.1 HP.out.2.1 HV.out HD.out HU.out H3.out.1 H3.out.2 a4 u4 s4 d3 d4 d5 hgr (by rw [World.size_alloc];simpa [Value.ownBlock] using hat) (by rw [HNN.out];exact ab3);rw [HNN.out] at aQw;have HF:=Lib.hid aQw
     have HX2:Hid (∀ x,x∈p.hi::p.lo::S->x<=4294967295):=by
      intro x hx
      simp at hx
      rcases hx with hx | hx | hx
      ·rw [hx];exact hlh.2.1
      ·rw [hx];exact hlh.1
      ·exact HX.out x hx
     clear aQw a4 u4 s4 ab3 hgr hat
     have a3W:1<=K.A.used:=by have h3:=HR.out.wf.ok.us;have h1:=(HR.out.wf.ok.drop HTK.out hr2).us;have h2:=(HR.out.wf.ok.drop HTK.out hr2).l2;simp [aaU.drop] at *;omega
     go_roundg (2*(K.A.used-1)+(n+2))
     case measure=>have:=HNN.out;simp;omega
     case rel =>
      obtain ⟨q',hR',hT'⟩:=HF.out;exact ⟨p.hi::p.lo::S,K.gone r,_,q',by simp [KV.gone,aaU.drop,HNN.out],by omega,HX2.out,hR',hT'⟩
structure aoo (A:aaU) (v:Int) (lo hi r:Nat) (A':aaU):Prop where
 ok:A'.Ok
 two:2<=r
 no:A.tk r=false
 at_:A'.list[r]?=some ⟨v,lo,hi,true,0⟩
 ot:∀ s,s≠r->A'.list[s]?=A.list[s]?
 us:A'.used=A.used+1
 pl:A'.places=A.places
 ll:r<A'.list.length/\A.list.length<=A'.list.length
 pr:∀ x,par A'.list x=par A.list x+(if lo=x then 1 else 0)+(if hi=x then 1 else 0)
theorem aoo.put {A:aaU} (h:A.Ok) {F:List Nat} {r:Nat} (hf:A.free=F++[r]) {v:Int} {lo hi:Nat} (h1:lo<=4294967295) (h2:hi<=4294967295):aoo A v lo hi r (A.put F r v lo hi):=by
 obtain ⟨p,hp,hpt⟩:=(h.fr r).1 (by rw [hf];simp);have hlt:=(List.getElem?_eq_some_iff.1 hp).1;refine ⟨h.put hf h1 h2,?_,?_,?_,?_,rfl,rfl,?_,?_⟩
 ·match r,hp with
  | 0,hp=>rw [h.c0] at hp;cases hp;simp at hpt
  | 1,hp=>rw [h.c1] at hp;cases hp;simp at hpt
  | r+2,_=>omega
 ·simp [aaU.tk,hp,hpt]
 ·simp only [aaU.put]
  rw [List.getElem?_set_self hlt]
 ·intro s hs
  simp only [aaU.put]
  rw [List.getElem?_set_ne (Ne.symm hs)]
 ·simp [aaU.put];exact hlt
 ·intro x
  simp only [aaU.put]
  have e:=axR (q:=⟨v,lo,hi,true,0⟩) hp x
  have e1:cnt p x=0:=by simp [cnt,hpt]
  have e2:cnt ⟨v,lo,hi,true,0⟩ x=(if lo=x then 1 else 0)+(if hi=x then 1 else 0):=by simp [cnt]
  omega
theorem aoo.push {A:aaU} (h:A.Ok) (hl:A.list.length<A.places) {v:Int} {lo hi:Nat} (h1:lo<=4294967295) (h2:hi<=4294967295):aoo A v lo hi A.list.length (A.push v lo hi):=by
 refine ⟨h.push hl h1 h2,?_,?_,?_,?_,rfl,rfl,?_,?_⟩
 ·exact h.l2
 ·simp [aaU.tk]
 ·simp [aaU.push]
 ·intro s hs
  simp only [aaU.push]
  rw [List.getElem?_append];split
  ·rfl
  ·rw [List.getElem?_eq_none (by simp;omega),List.getElem?_eq_none (by omega)]
 ·simp [aaU.push]
 ·intro x
  simp only [aaU.push]
  rw [aFL]
  simp [par,cnt];omega
theorem aIn (b:Nat) (F:List Nat) (v:Int) (lo hi:Nat) (A:aaU) (w:World) (h:acR w b A F) (h1:lo<=4294967295) (h2:hi<=4294967295)
  (afQ:A.used<A.places) (hc:A.checkE v lo hi=0) :
  Calls Tryz.prog 211 #[.pointer (some ⟨b,0,none⟩),.agg #[.int .i64 v,.int .u32 lo,.int .u32 hi]] w fun e w' =>
   ∃ (r:Nat) (A':aaU) (F':List Nat),e=.returned (.tuple #[.int .u32 r,.int .i64 0])/\aoo A v lo hi r A'/\acR w' b A' F'/\Upd F w w'/\Sub F w F':=by
 rcases List.eq_nil_or_concat A.free with hf | ⟨fr,r,hf⟩
 ·have hl:A.list.length<A.places:=by have:=h.ok.us;rw [hf] at this;simp at this;omega
  refine (aFN b F v lo hi A w h h1 h2 hf hl hc).mono ?_;rintro e w' ⟨rfl,F',a1,a2,a3⟩;exact ⟨_,_,F',rfl,aoo.push h.ok hl h1 h2,a1,a2,a3⟩
 ·rw [List.concat_eq_append] at hf
  refine (aFM b F v lo hi r fr A w h h1 h2 hf hc).mono ?_;rintro e w' ⟨rfl,a1,a2⟩;exact ⟨_,_,F,rfl,aoo.put h.ok hf h1 h2,a1,a2,Sub.refl _ _⟩
theorem aoo.tk {A A':aaU} {v:Int} {lo hi r:Nat} (h:aoo A v lo hi r A') (x:Nat):A'.tk x=(decide (x=r)||A.tk x):=by
 by_cases e:x=r
 ·subst e;simp [aaU.tk,h.at_]
 ·unfold aaU.tk;rw [h.ot x e];simp [e]
theorem aoo.room {A A':aaU} {v:Int} {lo hi r:Nat} (h:aoo A v lo hi r A'):r<=1048575:=by
 have h1:=h.ll.1;have h2:=h.ok.lp;have h3:=h.ok.pm;omega
structure KV.Took (K:KV) (v:Int) (lo hi r:Nat) (K':KV):Prop where
 fr:aoo K.A v lo hi r K'.A
 ul:K.uses.length<=K'.uses.length/\r<K'.uses.length/\K'.uses.length<=K'.A.list.length
 hl:K'.holds.length=K'.uses.length
 us:∀ x,K'.use x=(if x=r then 0 else K.use x)+(if lo=x/\2<=x then 1 else 0)+(if hi=x/\2<=x then 1 else 0)
 hd:∀ x,K'.hold x=if x=r then 0 else K.hold x
 vr:K'.vars=K.vars
 od:K'.order=K.order
 lv:K'.level=K.level
 tr:K'.trail=K.trail
theorem KV.Took.wf {K K':KV} {P:List Nat} {v:Int} {lo hi r:Nat} (t:K.Took v lo hi r K') (h:K.Wf P) (h1:K.A.tk lo=true) (h2:K.A.tk hi=true) (hv:0<=v/\v<K.vars):K'.Wf P:=by
 have hno:=t.fr.no
 have hlo:lo≠r:=by rintro rfl;rw [hno] at h1;cases h1
 have hhi:hi≠r:=by rintro rfl;rw [hno] at h2;cases h2
 have hr2:=t.fr.two
 have aSf:par K.A.list r=0:=aJZ fun q p hp hpt=>by
  by_cases hq:2<=q
  ·have:=h.cl q p hq hp hpt
   constructor
   ·rintro rfl;rw [hno] at this;simp at this
   ·rintro rfl;rw [hno] at this;simp at this
  ·match q,hp with
   | 0,hp=>rw [h.ok.c0] at hp;cases hp;simp;omega
   | 1,hp=>rw [h.ok.c1] at hp;cases hp;simp;omega
   | q+2,_=>omega
 have hnp:r∉P:=fun hm=>by have:=h.pt r hm;rw [hno] at this;cases this
 refine ⟨t.fr.ok,t.hl,t.ul.2.2,?_,?_,?_,?_,?_,?_,?_,by rw [t.vr];exact h.vs⟩
 ·intro x hx htx
  rw [t.fr.tk] at htx
  by_cases e:x=r
  ·rw [e];exact t.ul.2.1
  ·simp [e] at htx
   have:=h.tu x hx htx;have:=t.ul.1;omega
 ·intro x hx
  rw [t.hd] at hx
  split at hx
  ·omega
  ·rename_i e
   have:=h.ht x hx;exact ⟨this.1,by rw [t.fr.tk];simp [this.2]⟩
 ·intro x
  rw [t.hd];split
  ·omega
  ·exact h.hm x
 ·intro x hx htx
  rw [t.us,t.hd,t.fr.pr]
  by_cases e:x=r
  ·subst e
   have hc:P.count x=0:=List.count_eq_zero.2 hnp
   simp [hlo,hhi,aSf,hc,one]
  ·rw [t.fr.tk] at htx
   simp [e] at htx
   have:=h.eq x hx htx
   simp only [e,if_false,hx,and_true]
   omega
 ·intro x hx
  rw [t.fr.tk,h.pt x hx];simp
 ·intro q p hq hp hpt
  by_cases e:q=r
  ·subst e
   rw [t.fr.at_] at hp;cases hp
   rw [t.fr.tk,t.fr.tk,h1,h2];simp
  ·rw [t.fr.ot q e] at hp
   have:=h.cl q p hq hp hpt
   rw [t.fr.tk,t.fr.tk,this.1,this.2];simp
 ·intro q p hq hp hpt
  rw [t.vr]
  by_cases e:q=r
  ·subst e
   rw [t.fr.at_] at hp;cases hp
   exact hv
  ·rw [t.fr.ot q e] at hp
   exact h.vr q p hq hp hpt
theorem afg.took {T:List DM} {K K':KV} {lo hi r v:Nat} {D:DM} (h:afg T K []) (t:K.Took (v:Int) lo hi r K') (hD:T[v]?=some D) (hno:Maps.has D (nk v lo hi)=false) :
  afg (T.set v (D.put (nk v lo hi) (.lit (.int .u32 r)))) K' []:=by
 have hvl:=(List.getElem?_eq_some_iff.1 hD).1;have hIM:=h.im D (List.mem_of_getElem? hD);have hr2:=t.fr.two
 have hold:∀ (s:Nat) (c:abu),K.A.list[s]?=some c->c.taken=true->s≠r:=by
  rintro s c hs hct rfl;have:=t.fr.no
  simp [aaU.tk,hs,hct] at this
 refine ⟨by rw [t.vr];simpa using h.len,?_,?_,?_⟩
 ·intro u D2 k hu hk
  have key:∀ (u:Nat) (D2:DM),T[u]?=some D2->Maps.has D2 k=true->∃ (r:Nat) (p:abu),2<=r/\K'.A.list[r]?=some p/\p.taken=true/\p.var=(u:Int)/\k=nkp p/\r∉([]:List Nat):=by
   intro u D2 hu hk
   obtain ⟨s,c,h1,h2,h3,h4,h5,h6⟩:=h.dom u D2 k hu hk;exact ⟨s,c,h1,by rw [t.fr.ot s (hold s c h2 h3)];exact h2,h3,h4,h5,h6⟩
  by_cases e:u=v
  ·subst e
   rw [List.getElem?_set_self hvl] at hu;cases hu
   by_cases e2:k=nk u lo hi
   ·subst e2
    exact ⟨r,_,hr2,t.fr.at_,rfl,rfl,rfl,by simp⟩
   ·rw [has_put_other e2] at hk
    exact key u D hD hk
  ·rw [List.getElem?_set_ne (Ne.symm e)] at hu
   exact key u D2 hu hk
 ·intro s c D2 hs hc hct _ hD2
  by_cases e0:s=r
  ·subst e0
   rw [t.fr.at_] at hc;cases hc
   rw [show ((v:Int)).toNat=v by omega,List.getElem?_set_self hvl] at hD2;cases hD2
   exact ⟨has_put_same hIM (ala _ _ _) _,fun z=>atKey_put_same hIM (ala _ _ _) _ _⟩
  ·have hc0:=hc
   rw [t.fr.ot s e0] at hc
   by_cases e:c.var.toNat=v
   ·rw [e,List.getElem?_set_self hvl] at hD2;cases hD2
    obtain ⟨g1,g2⟩:=h.at_ s c D hs hc hct (by simp) (by rw [e];exact hD)
    have hk:nkp c≠nk v lo hi:=by
     intro e2
     rw [e2,hno] at g1;cases g1
    rw [has_put_other hk];exact ⟨g1,fun z=>by rw [atKey_put_other hk];exact g2 z⟩
   ·rw [List.getElem?_set_ne (Ne.symm e)] at hD2
    exact h.at_ s c D2 hs hc hct (by simp) hD2
 ·intro D2 hD2
  rcases List.mem_or_eq_of_mem_set hD2 with h1 | rfl
  ·exact h.im D2 h1
  ·exact hIM.put _ _
theorem abv.growUse {w w5:World} {b g5 cap:Nat} {X:Obj} {K:KV} {T:List DM} {q:abM} (h:abv w b K T q) (hg:(w.alloc X).grownBy w5 q.uv.ownBlock) (hat:q.uv.ownBlock=some g5\/g5=w.heap.size+1)
  (ab3:w5.ownsRow 0 21 1 (.slice (some ⟨g5,0,none⟩) (K.uses.length+1) cap) (K.uses.length+1) (ahk K.uses++[.int .i32 0])) :
  abv (w5.setCell ⟨b,2,none⟩ (.slice (some ⟨g5,0,none⟩) (K.uses.length+1) cap)) b { K with uses:=K.uses++[0] } T { q with uv:=.slice (some ⟨g5,0,none⟩) (K.uses.length+1) cap,o:=aeI q w.heap.size 3 }:=by
 have hb:=aa4 h.blk
 have hbg:b≠g5:=by
  rcases hat with e | e
  ·rintro rfl;have e1:=h.ob;have e2:=h.ou b e;omega
  ·omega
 have keep:∀ {k c:Nat},q.o k=c->c≠3->c≠0->k<w.heap.size->(w5.setCell ⟨b,2,none⟩ (.slice (some ⟨g5,0,none⟩) (K.uses.length+1) cap)).heap[k]?=w.heap[k]?:=by
  intro k c hk hc h0 hl
  rw [acb (by rintro rfl;exact h0 (hk ▸ h.ob)),hg.block k (by rw [World.size_alloc];omega) (fun e=>hc (hk ▸ h.ou k e.symm)),heap_alloc_old _ _ hl]
 have hbk:w5.heap[b]?=w.heap[b]?:=by
  rw [hg.block b (by rw [World.size_alloc];omega) (fun e=>by have e1:=h.ob;have e2:=h.ou b e.symm;omega),heap_alloc_old _ _ hb]
 rw [h.blk] at hbk
 refine ⟨by rw [abV hbk];simp,h.ar.keep fun k hm=>keep (h.oa k hm) (by omega) (by omega) (h.ar.lt k hm),h.tab.keep fun k hm=>keep (h.ot k hm) (by omega) (by omega) (h.tab.lt k hm),?_,?_,
  aaX h.os fun k hm=>keep (h.oo k hm) (by omega) (by omega) (h.os.lt k hm).2,aaX h.ls fun k hm=>keep (h.ol k hm) (by omega) (by omega) (h.ls.lt k hm).2,aaX h.ts fun k hm=>keep (h.ox k hm) (by omega) (by omega) (h.ts.lt k hm).2,?_,?_,?_,?_,?_,?_,?_,?_⟩
 ·show World.ownsRow _ 0 _ 1 _ (K.uses++[0]).length (ahk (K.uses++[0]))
  have e:=ac9 ab3 (a:=⟨b,2,none⟩) (by simpa [Value.ownBlock] using hbg) (.slice (some ⟨g5,0,none⟩) (K.uses.length+1) cap)
  simpa [ahk] using e
 ·exact aaX h.hs fun k hm=>keep (h.oh k hm) (by omega) (by omega) (h.hs.lt k hm).2
 ·show aeI q _ _ b=0
  rw [acD hb];exact h.ob
 ·intro k hk;show aeI q _ _ k=1;rw [acD (h.ar.lt k hk)];exact h.oa k hk
 ·intro k hk;show aeI q _ _ k=2;rw [acD (h.tab.lt k hk)];exact h.ot k hk
 ·intro k hk
  simp [Value.ownBlock] at hk;subst hk
  show aeI q _ _ g5=3
  rcases hat with e | e
  ·rw [acD (h.us.lt g5 e).2];exact h.ou g5 e
  ·unfold aeI;rw [if_pos (by omega)]
 ·intro k hk;show aeI q _ _ k=4;rw [acD (h.hs.lt k hk).2];exact h.oh k hk
 ·intro k hk;show aeI q _ _ k=5;rw [acD (h.os.lt k hk).2];exact h.oo k hk
 ·intro k hk;show aeI q _ _ k=6;rw [acD (h.ls.lt k hk).2];exact h.ol k hk
 ·intro k hk;show aeI q _ _ k=7;rw [acD (h.ts.lt k hk).2];exact h.ox k hk
theorem abv.growHold {w w5:World} {b g5 cap:Nat} {X:Obj} {K:KV} {T:List DM} {q:abM} (h:abv w b K T q) (hg:(w.alloc X).grownBy w5 q.hv.ownBlock) (hat:q.hv.ownBlock=some g5\/g5=w.heap.size+1)
  (ab3:w5.ownsRow 0 21 1 (.slice (some ⟨g5,0,none⟩) (K.holds.length+1) cap) (K.holds.length+1) (ahk K.holds++[.int .i32 0])) :
  abv (w5.setCell ⟨b,3,none⟩ (.slice (some ⟨g5,0,none⟩) (K.holds.length+1) cap)) b { K with holds:=K.holds++[0] } T { q with hv:=.slice (some ⟨g5,0,none⟩) (K.holds.length+1) cap,o:=aeI q w.heap.size 4 }:=by
 have hb:=aa4 h.blk
 have hbg:b≠g5:=by
  rcases hat with e | e
  ·rintro rfl;have e1:=h.ob;have e2:=h.oh b e;omega
  ·omega
 have keep:∀ {k c:Nat},q.o k=c->c≠4->c≠0->k<w.heap.size->(w5.setCell ⟨b,3,none⟩ (.slice (some ⟨g5,0,none⟩) (K.holds.length+1) cap)).heap[k]?=w.heap[k]?:=by
  intro k c hk hc h0 hl
  rw [acb (by rintro rfl;exact h0 (hk ▸ h.ob)),hg.block k (by rw [World.size_alloc];omega) (fun e=>hc (hk ▸ h.oh k e.symm)),heap_alloc_old _ _ hl]
 have hbk:w5.heap[b]?=w.heap[b]?:=by
  rw [hg.block b (by rw [World.size_alloc];omega) (fun e=>by have e1:=h.ob;have e2:=h.oh b e.symm;omega),heap_alloc_old _ _ hb]
 rw [h.blk] at hbk
 refine ⟨by rw [abV hbk];simp,h.ar.keep fun k hm=>keep (h.oa k hm) (by omega) (by omega) (h.ar.lt k hm),h.tab.keep fun k hm=>keep (h.ot k hm) (by omega) (by omega) (h.tab.lt k hm),?_,?_,
  aaX h.os fun k hm=>keep (h.oo k hm) (by omega) (by omega) (h.os.lt k hm).2,aaX h.ls fun k hm=>keep (h.ol k hm) (by omega) (by omega) (h.ls.lt k hm).2,aaX h.ts fun k hm=>keep (h.ox k hm) (by omega) (by omega) (h.ts.lt k hm).2,?_,?_,?_,?_,?_,?_,?_,?_⟩
 ·exact aaX h.us fun k hm=>keep (h.ou k hm) (by omega) (by omega) (h.us.lt k hm).2
 ·show World.ownsRow _ 0 _ 1 _ (K.holds++[0]).length (ahk (K.holds++[0]))
  have e:=ac9 ab3 (a:=⟨b,3,none⟩) (by simpa [Value.ownBlock] using hbg) (.slice (some ⟨g5,0,none⟩) (K.holds.length+1) cap)
  simpa [ahk] using e
 ·show aeI q _ _ b=0
  rw [acD hb];exact h.ob
 ·intro k hk;show aeI q _ _ k=1;rw [acD (h.ar.lt k hk)];exact h.oa k hk
 ·intro k hk;show aeI q _ _ k=2;rw [acD (h.tab.lt k hk)];exact h.ot k hk
 ·intro k hk;show aeI q _ _ k=3;rw [acD (h.us.lt k hk).2];exact h.ou k hk
 ·intro k hk
  simp [Value.ownBlock] at hk;subst hk
  show aeI q _ _ g5=4
  rcases hat with e | e
  ·rw [acD (h.hs.lt g5 e).2];exact h.oh g5 e
  ·unfold aeI;rw [if_pos (by omega)]
 ·intro k hk;show aeI q _ _ k=5;rw [acD (h.os.lt k hk).2];exact h.oo k hk
 ·intro k hk;show aeI q _ _ k=6;rw [acD (h.ls.lt k hk).2];exact h.ol k hk
 ·intro k hk;show aeI q _ _ k=7;rw [acD (h.ts.lt k hk).2];exact h.ox k hk
end Go.Proofs.YtdackeldhdchaaaGreat
