import Derived.Test.YtfkopmhpppeheaaGreatPN3
import Derived.Deep.RegionHeld3
set_option maxRecDepth 100000
set_option maxHeartbeats 1600000
namespace Go.Proofs.YtfkopmhpppeheaaGreat
open Go.RowKit Go.Maps Go.ChangeMaps Go.WideShapes
structure wo (w:World) (b:Nat) (K0:KV) (P:List Nat) (q0:aA) (S:List Nat) (wr:World) (K:KV) (T:List DM) (q:aA):Prop where
 mem:aF wr b K T q
 wf:K.Wf (S++P)
 ti:dW T K []
 le:K.Le K0
 pos:K0.Pos->K.Pos
 qe:q={ q0 with FA:=q.FA,o:=q.o }
 up:af (q0.all b) w wr
 sub:Sub (q0.all b) w (q.all b)
theorem wo.pop {w:World} {b:Nat} {K0:KV} {P:List Nat} {q0:aA} {S:List Nat} {r:Nat} {wr:World} {K:KV} {T:List DM} {q:aA} (h:wo w b K0 P q0 (r::S) wr K T q) (hr:r<2):wo w b K0 P q0 S wr K T q :=
 ⟨h.mem,h.wf.Va hr,h.ti,h.le,h.pos,h.qe,h.up,h.sub⟩
theorem wo.less {w:World} {b:Nat} {K0:KV} {P:List Nat} {q0:aA} {S:List Nat} {r g n c:Nat} {wr:World} {K:KV} {T:List DM} {q:aA} (h:wo w b K0 P q0 (r :: S) wr K T q) (hr:2≤r) (hu:1 < K.use r)
    (hl:r < K.uses.length) (hq:q.uv=.slice (some ⟨g,0,none⟩) n c):wo w b K0 P q0 S (wr.setCell ⟨g,r,none⟩ (.int .i32 ((K.use r - 1:Nat):Int))) (K.less r) T q :=
  ⟨h.mem.zg hq hl,h.wf.less hr,h.ti.same rfl rfl,(K.Zb r).trans h.le,fun hp=>(h.pos hp).less h.wf hr hu,h.qe,
   h.up.setCell (h.sub g (aA.mem.2 (.inr (.inr (.inr (.inl (by rw [hq]; rfl))))))) _,h.sub⟩
theorem wo.gone {w:World} {b:Nat} {K0:KV} {P:List Nat} {q0:aA} {S:List Nat} {r g n c v:Nat} {wr w2 w3 w4 w5:World} {K:KV} {T:List DM} {q:aA} {p:ak} {D:DM} {F':List Nat}
  (h:wo w b K0 P q0 (r::S) wr K T q) (hr:2<=r) (hu:K.use r=1)
  (hl:r<K.uses.length) (hq:q.uv=.slice (some ⟨g,0,none⟩) n c) (hp:K.A.list[r]?=some p) (aH:p.taken=true) (hv:p.var=(v:Int)) (hD:T[v]?=some D)
  (u2:af [] (wr.setCell ⟨g,r,none⟩ (.int .i32 0)) w2)
  (t3:ed w3 q.t (T.set v (D.del (kG p))) q.FT) (u3:af q.FT w2 w3)
  (a4:bu w4 q.a (K.A.drop r) F') (u4:af q.FA w3 w4) (s4:Sub q.FA w3 F')
  (u5:∀ k,k<w.heap.size\/k∈q.all b\/k∈F'->w5.heap[k]?=w4.heap[k]?) (u6:af (q0.all b) w w4->af (q0.all b) w w5) :
  wo w b K0 P q0 (p.hi::p.lo::S) w5 (K.gone r) (T.set v (D.del (kG p))) { q with FA:=F',o:=dC q w3.heap.size 1 }:=by
 have m1:=h.mem.zg (n:=0) hq hl;have m2:=m1.upd u2 (by simp);have m3:=m2.table t3 u3;have m4:=m3.arena a4 u4 s4;have dG:w.heap.size<=w3.heap.size:=Nat.le_trans h.up.size (Nat.le_trans (by simpa [World.setCell] using u2.size) u3.size);have En:∀ k,k∈q.all b->k∈q0.all b\/w.heap.size<=k:=h.sub
 have hU4:af (q0.all b) w w4:=by
  have e1:=h.up.setCell (p:=⟨g,r,none⟩) (En g (aA.mem.2 (.inr (.inr (.inr (.inl (by rw [hq];rfl))))))) (.int .i32 0)
  have e2:=e1.then u2 (by simp)
  have e3:=e2.then u3 (fun x hx=>En x (aA.mem.2 (.inr (.inr (.inl hx)))))
  exact e3.then u4 (fun x hx=>En x (aA.mem.2 (.inr (.inl hx))))
 have hw:=h.wf.gone hr hu hp aH;refine ⟨?_,hw.perm (List.Perm.swap _ _ _),?_,(K.Zc r).trans h.le,fun hq=>(h.pos hq).gone h.wf hr,?_,u6 hU4,?_⟩
 ·refine aF.keep (w:=w4) m4 fun k hk=>u5 k ?_
  rcases aA.mem.1 hk with hk | hk | hk
  ·exact .inr (.inl (aA.mem.2 (.inl hk)))
  ·exact .inr (.inr hk)
  ·exact .inr (.inl (aA.mem.2 (.inr (.inr hk))))
 ·exact h.ti.gone h.wf hr hp aH hv hD
 ·rw [h.qe]
 ·intro k hk
  rcases aA.mem.1 hk with hk | hk | hk
  ·exact En k (aA.mem.2 (.inl hk))
  ·rcases s4 k hk with hk | hk
   ·exact En k (aA.mem.2 (.inr (.inl hk)))
   ·right;omega
  ·exact En k (aA.mem.2 (.inr (.inr hk)))
structure wG (w:World) (n0:Nat) (S:List Nat) (F:List Nat) (v:Value):Prop where
 row:w.ownsRow n0 77 1 v S.length (aI S.reverse)
 own:∀ k,v.ownBlock=some k->k∉F
theorem wG.top {w:World} {n0 r:Nat} {S F:List Nat} {v:Value} (h:wG w n0 (r::S) F v) :
  ∃ g c,v=.slice (some ⟨g,0,none⟩) (S.length+1) c/\w.cell? ⟨g,S.length,none⟩=some (.int .u32 r)/\S.length+1<=c/\c<=9223372036854775807/\g∉F/\n0<=g/\g<w.heap.size/\wG w n0 S F (.slice (some ⟨g,0,none⟩) S.length c):=by
 have hr:=h.row;obtain ⟨g,c,rfl,_,_⟩:=hr.form (by simp);obtain ⟨_,Eo,BC,_⟩:=kK hr;have hl:=hr.lt g rfl;have ht:=Bq hr (m:=S.length) (by simp);unfold maxLen at BC
 simp at hr Eo
 refine ⟨g,c,by simp,au hr ?_,Eo,by omega,h.own g rfl,hl.1,hl.2,?_,?_⟩
 ·simp [aI]
 ·simpa [aI] using ht
 ·intro k hk;exact h.own k hk
theorem GG {w w4:World} {S:List Nat} {a1 a2 a3 a4:Addr} {v1 v2 v3 v4:Value} (hu:af S w w4) (h1:w.cell? a1=some v1) (h2:w.cell? a2=some v2) (h3:w.cell? a3=some v3) (h4:w.cell? a4=some v4)
    (n1:a1.block∉S) (n2:a2.block∉S) (n3:a3.block∉S) (n4:a4.block∉S) :
    w4.cell? a1=some v1∧w4.cell? a2=some v2∧w4.cell? a3=some v3∧w4.cell? a4=some v4 :=
  ⟨(hu.cell (World.block_lt_of_cell? w _ h1) n1).trans h1,(hu.cell (World.block_lt_of_cell? w _ h2) n2).trans h2,(hu.cell (World.block_lt_of_cell? w _ h3) n3).trans h3,
   (hu.cell (World.block_lt_of_cell? w _ h4) n4).trans h4⟩
theorem Zz {w:World} {b:Nat} {K0:KV} {P:List Nat} {q0:aA} {S:List Nat} {r g n c v gt g5 cap:Nat} {wr w2 w3 w4 w5:World} {K:KV} {T:List DM} {q:aA} {p:ak} {D:DM} {F':List Nat} {X:Obj}
  (h:wo w b K0 P q0 (r::S) wr K T q) (hr:2<=r) (hu:K.use r=1)
  (hl:r<K.uses.length) (hq:q.uv=.slice (some ⟨g,0,none⟩) n c) (hp:K.A.list[r]?=some p) (aH:p.taken=true) (hv:p.var=(v:Int)) (hD:T[v]?=some D)
  (u2:af [] (wr.setCell ⟨g,r,none⟩ (.int .i32 0)) w2)
  (t3:ed w3 q.t (T.set v (D.del (nk v p.lo p.hi))) q.FT) (u3:af q.FT w2 w3)
  (a4:bu w4 q.a (K.A.drop r) F') (u4:af q.FA w3 w4) (s4:Sub q.FA w3 F')
  (d3:gt∉q.all b) (d4:w.heap.size<=gt) (d5:gt<wr.heap.size) (hg:(w4.alloc X).grownBy w5 (some gt)) (bI:some gt=some g5\/g5=(w4.alloc X).heap.size)
  (aK:w5.ownsRow w.heap.size 77 1 (.slice (some ⟨g5,0,none⟩) (S.length+2) cap) (S.length+2) (aI S.reverse++[.int .u32 p.lo,.int .u32 p.hi])) :
  ∃ q',wo w b K0 P q0 (p.hi::p.lo::S) w5 (K.gone r) (T.set v (D.del (kG p))) q'/\wG w5 w.heap.size (p.hi::p.lo::S) (q'.all b) (.slice (some ⟨g5,0,none⟩) (S.length+2) cap):=by
 have dR:wr.heap.size<=w2.heap.size:=by simpa [World.setCell] using u2.size
 have xG:=u3.size;have hs4:=u4.size;have hF4:∀ k,k∈F'->k<w4.heap.size:=a4.lt;have hold:∀ k,k∈q.all b->k<wr.heap.size:=h.mem.lt
 have am2:kG p=nk v p.lo p.hi:=by unfold kG;rw [hv]
 have hF5:gt∉F':=by
  intro hk
  rcases s4 gt hk with hk | hk
  ·exact d3 (aA.mem.2 (.inr (.inl hk)))
  ·omega
 refine ⟨_,h.gone hr hu hl hq hp aH hv hD u2 (by rw [am2];exact t3) u3 a4 u4 s4 (fun k hk=>?_) (fun hU=>(hU.alloc X).grown hg (by intro k hk;cases hk;exact .inr d4)),?_,?_⟩
 ·have hk4:k<w4.heap.size/\k≠gt:=by
   rcases hk with hk | hk | hk
   ·have:=h.up.size
    exact ⟨by omega,by omega⟩
   ·have:=hold k hk
    exact ⟨by omega,by rintro rfl;exact d3 hk⟩
   ·exact ⟨hF4 k hk,by rintro rfl;exact hF5 hk⟩
  rw [hg.block k (by rw [World.size_alloc];omega) (by simpa using hk4.2),heap_alloc_old _ _ hk4.1]
 ·simpa [aI] using aK
 ·intro k hk
  simp [Value.ownBlock] at hk
  subst hk
  intro hm
  have hm4:g5<w4.heap.size:=by
   rcases aA.mem.1 hm with hk | hk | hk
   ·have:=hold b (aA.mem.2 (.inl rfl));omega
   ·exact hF4 _ hk
   ·have:=hold g5 (aA.mem.2 (.inr (.inr hk)));omega
  rcases bI with bI | bI
  ·simp at bI
   subst bI
   rcases aA.mem.1 hm with hk | hk | hk
   ·exact d3 (aA.mem.2 (.inl hk))
   ·exact hF5 hk
   ·exact d3 (aA.mem.2 (.inr (.inr hk)))
  ·rw [World.size_alloc] at bI;omega
theorem xN (b r0:Nat) (K0:KV) (P:List Nat) (T0:List DM) (q0:aA) (w:World) (h:aF w b K0 T0 q0) (hw:K0.Wf (r0::P)) (ht:dW T0 K0 []) (hP:P.length<=1000000000) (oQ:r0<=4294967295) :
  Calls Tryz.prog 96 #[.pointer (some ⟨b,0,none⟩),.int .u32 r0] w fun e w'=>e=.returned (.tuple #[])/\∃ K T q,wo w b K0 P q0 [] w' K T q:=by
 have wO:2*K0.A.used+1<=2097153:=by have:=hw.ok.us;have:=hw.ok.lp;have:=hw.ok.pm;omega
 have HS:Hid (∀ o,wo w b K0 P q0 [r0] (w.alloc o) K0 T0 q0):=fun o=>by
  have hu:=(af.refl (q0.all b) w).alloc o;exact ⟨h.keep fun k hk=>(heap_alloc_old w o (h.lt k hk)),hw,ht,.refl _,id,rfl,hu,Sub.refl _ _⟩
 have HN:Hid (∀ k,k∈q0.all b->k<w.heap.size):=h.lt;clear h hw ht
 go_enter Tryz.func96,Tryz.ntmps96
 go_wp2_with fail
 go_loopg [4] (2*K0.A.used+1) (fun g s4 wr=>∃ (S:List Nat) (K:KV) (T:List DM) (q:aA),2*K.A.used+S.length=g/\g<=2097153/\(∀ x,x∈S->x<=4294967295)/\wo w b K0 P q0 S wr K T q/\wG wr w.heap.size S (q.all b) s4)
 case atStart =>
  refine ⟨[r0],K0,T0,q0,rfl,wO,by simpa using oQ,HS.out _,?_,?_⟩
  ·exact World.ownsRow_lit w #[.int .u32 r0] 1 (Nat.le_refl _) (by unfold maxLen;omega) rfl
  ·intro k hk;simp [Value.ownBlock] at hk;subst hk;intro hm;have:=HN.out _ hm;omega
 case round =>
  obtain ⟨S,K,T,q,rfl,hg,hx,hR,hT⟩:=hrel
  cases S with
  | nil =>
   obtain ⟨a,c,rfl,_⟩:=aj hT.row;have HR:=Lib.hid hR;clear hR hT hx;go_wp2_with fail;go_end0;exact ⟨rfl,K,T,q,HR.out⟩
  | cons r S =>
   obtain ⟨gt,ct,rfl,d0,d1,d2,d3,d4,d5,d6⟩:=hT.top;have hr:=hx r (by simp)
   have HX:Hid (∀ x,x∈S->x<=4294967295):=fun x h=>hx x (by simp [h])
   have HT:=Lib.hid d6
   simp at hg
   obtain ⟨n,hn⟩ : ∃ n,S.length=n:=⟨_,rfl⟩;rw [hn] at d0 d1 hg;have A7:=Lib.hid hn
   have hnb:n<=2097153:=by omega
   by_cases Sv:r<=1
   ·have HR:=Lib.hid (hR.pop (by omega))
    have hd:decide ((r:Int)<=1)=true:=by simp;omega
    clear hR hT hx d6
    simp only [hn]
    clear hn;go_wp2_with fail
    go_roundg (2*K.A.used+n)
    case measure=>simp;have:=A7.out;omega
    case rel =>
     exact ⟨S,K,T,q,by rw [A7.out],by omega,HX.out,HR.out,by rw [<- A7.out];exact HT.out⟩
   ·have rQ:2<=r:=by omega
    have kC:=hR.wf.pt r (by simp);have hl:=hR.wf.tu r rQ kC;have he:=hR.wf.eq r rQ kC;have XK:=hR.wf.Ih rQ kC
    have Vt:1<=K.use r:=by rw [he];simp;omega
    simp [hn] at XK
    have I9:(K.use r:Int)<=2147483647:=by omega
    have am3:(1:Int)<=(K.use r:Int):=by omega
    obtain ⟨gu,cu,hq,c2,cu1,fu,ZC⟩:=hR.mem.Bi hl
    have aue:b≠gu:=by rintro rfl;have e1:=hR.mem.ob;have e2:=hR.mem.ou b (by rw [hq];rfl);omega
    have ahD:gt≠gu:=by rintro rfl;exact d3 ZC
    have hd:decide ((r:Int)<=1)=false:=by simp;omega
    have rF:(r:Int)<(K.uses.length:Int):=by omega
    have uP:K.uses.length<=9223372036854775807:=by have:=(kK (hq ▸ hR.mem.us)).2;unfold maxLen at this;omega
    have mO:=hR.mem.lt b (aA.mem.2 (.inl rfl))
    by_cases iq:1<K.use r
    ·have HR:=Lib.hid (hR.less rQ iq hl hq)
     have hc:((K.use r-1:Nat):Int)=(K.use r:Int)-1:=by omega
     rw [hc] at HR
     have hgt:decide (0<(K.use r:Int)-1)=true:=by simp;omega
     have Eh:Hid (wG (wr.setCell ⟨gu,r,none⟩ (.int .i32 ((K.use r:Int)-1))) w.heap.size S (q.all b) (.slice (some ⟨gt,0,none⟩) n ct)):=by
      rw [<- hn];exact ⟨bf d6.row (by simpa [Value.ownBlock] using ahD.symm) _,d6.own⟩
     clear hR hT hx d6 hq he XK hc ZC
     simp only [hn]
     clear hn;go_wp2_with fail
     go_roundg (2*K.A.used+n)
     case measure=>simp;have:=A7.out;omega
     case rel =>
      exact ⟨S,K.less r,T,q,by rw [A7.out];rfl,by omega,HX.out,HR.out,Eh.out⟩
    ·have adt:K.use r=1:=by omega
     obtain ⟨p,hp,aH⟩:=ag.aP.1 kC;have oV:=hR.wf.vr r p rQ hp aH;obtain ⟨v,hv⟩ : ∃ v:Nat,p.var=(v:Int):=⟨p.var.toNat,by omega⟩
     have gK:v<T.length:=by rw [hR.ti.len];omega
     have hD:T[v]?=some T[v]:=List.getElem?_eq_getElem gK;have Vw:=(hR.ti.at_ r p _ rQ hp aH (by simp) (by rw [hv];exact hD)).1;have uV:=hR.wf.ok.u32 p (List.mem_of_getElem? hp)
     have cu2:wr.cell? ⟨gu,r,none⟩=some (.int .i32 1):=by rw [cu1,adt];rfl
     have LG:=Lib.hid kC;have RU:=Lib.hid (hR.mem.zg (n:=0) hq hl);have HR:=Lib.hid hR;have HD:=Lib.hid hD;have HP:=Lib.hid (And.intro hp (And.intro aH hv))
     have HH:Hid (Maps.has T[v] (nk v p.lo p.hi)=true):=by rw [<- hv];exact Vw
     have HQ:=Lib.hid hq;have mG:=Lib.hid adt
     have Eh:Hid (wG wr w.heap.size S (q.all b) (.slice (some ⟨gt,0,none⟩) n ct)):=by
      rw [<- hn];exact d6
     have HV:=Lib.hid hv;clear hR hT hx d6 hq he XK cu1 adt iq Vt I9 am3 Vw hD hp aH oV hv kC
     simp only [hn]
     clear hn;go_wp2_with fail;refine (jL b r { K with uses:=K.uses.set r 0 } T q p _ RU.out (by omega) HP.out.1 HP.out.2.1).mono ?_;rintro e w1 ⟨rfl,iq⟩;have Ag:w1.cell? ⟨b,1,none⟩=some (.pointer (some ⟨q.t,0,none⟩)):=ae ((iq.block b (by simpa [World.setCell] using mO) (by simp)).trans RU.out.blk) rfl;have wM:w1.cell? ⟨b,0,none⟩=some (.pointer (some ⟨q.a,0,none⟩)):=ae ((iq.block b (by simpa [World.setCell] using mO) (by simp)).trans RU.out.blk) rfl;have auf:b<w1.heap.size:=World.block_lt_of_cell? w1 _ wM
     have aug:wr.heap.size<=w1.heap.size:=by simpa [World.setCell] using iq.size
     have NT1:w1.heap.size∉q.FT:=by intro hm;have e1:=RU.out.tab.lt _ hm;simp [World.setCell] at e1;omega
     have NA1:w1.heap.size∉q.FA:=by intro hm;have e1:=RU.out.ar.lt _ hm;simp [World.setCell] at e1;omega
     have HM2:Hid (aF (w1.alloc (.cells #[.int .i64 v,.int .u32 p.lo,.int .u32 p.hi] 116 (0,0))).drew b { K with uses:=K.uses.set r 0 } T q) :=
      RU.out.upd ((iq.alloc _).drew) (by simp)
     have HU:Hid (af [] (wr.setCell ⟨gu,r,none⟩ (.int .i32 0)) (w1.alloc (.cells #[.int .i64 v,.int .u32 p.lo,.int .u32 p.hi] 116 (0,0))).drew):=(iq.alloc _).drew
     obtain ⟨x0,x1,x2,x3⟩ : (w1.alloc (.cells #[.int .i64 v,.int .u32 p.lo,.int .u32 p.hi] 116 (0,0))).drew.cell? ⟨b,1,none⟩=some (.pointer (some ⟨q.t,0,none⟩)) /\
       (w1.alloc (.cells #[.int .i64 v,.int .u32 p.lo,.int .u32 p.hi] 116 (0,0))).drew.cell? ⟨w1.heap.size,0,none⟩=some (.int .i64 v) /\
       (w1.alloc (.cells #[.int .i64 v,.int .u32 p.lo,.int .u32 p.hi] 116 (0,0))).drew.cell? ⟨w1.heap.size,1,none⟩=some (.int .u32 p.lo) /\
       (w1.alloc (.cells #[.int .i64 v,.int .u32 p.lo,.int .u32 p.hi] 116 (0,0))).drew.cell? ⟨w1.heap.size,2,none⟩=some (.int .u32 p.hi):=by
      have hn:=heap_alloc_new w1 (.cells #[.int .i64 v,.int .u32 p.lo,.int .u32 p.hi] 116 (0,0));exact ⟨ae HM2.out.blk rfl,ae hn rfl,ae hn rfl,ae hn rfl⟩
     clear iq Ag wM;rw [HV.out];go_wp2_with fail
     have bFT:b∉q.FT:=by intro hm;have e1:=HM2.out.ob;have e2:=HM2.out.ot b hm;omega
     go_region_held3 (fun w'=>w'.cell? ⟨b,1,none⟩=some (.pointer (some ⟨q.t,0,none⟩))/\w'.cell? ⟨w1.heap.size,0,none⟩=some (.int .i64 v)/\w'.cell? ⟨w1.heap.size,1,none⟩=some (.int .u32 p.lo)/\w'.cell? ⟨w1.heap.size,2,none⟩=some (.int .u32 p.hi)) (first | exact ⟨x0,x1,x2,x3⟩ | exact GG H3.out.2 x0 x1 x2 x3 bFT NT1 NT1 NT1) (first | (go_at_call 160;refine (JG q.t q.FT v p.lo p.hi T T[v] _ HM2.out.tab HD.out uV.1 uV.2.1 HH.out).mono ?_;rintro e w3 ⟨rfl,ht3,fG⟩;have H3:=Lib.hid (And.intro ht3 fG);clear ht3 fG))
     obtain ⟨_,y1,y2,y3⟩:=GG H3.out.2 x0 x1 x2 x3 bFT NT1 NT1 NT1;have X6:=Lib.hid (HM2.out.table H3.out.1 H3.out.2);have wM:w3.cell? ⟨b,0,none⟩=some (.pointer (some ⟨q.a,0,none⟩)):=ae X6.out.blk rfl;clear x0 x1 x2 x3 HM2;go_wp2_with fail;refine (Y9 q.a q.FA r K.A w3 X6.out.ar (by omega) rQ LG.out).mono ?_;rintro e w4 ⟨rfl,F',a4,u4,s4⟩;have z2:w4.cell? ⟨w1.heap.size,1,none⟩=some (.int .u32 p.lo):=(u4.cell (World.block_lt_of_cell? w3 _ y2) NA1).trans y2;have z3:w4.cell? ⟨w1.heap.size,2,none⟩=some (.int .u32 p.hi):=(u4.cell (World.block_lt_of_cell? w3 _ y3) NA1).trans y3
     have bF:Hid (w4.ownsRow w.heap.size 77 1 (.slice (some ⟨gt,0,none⟩) n ct) n (aI S.reverse)):=by
      have h0:=Eh.out.row;rw [A7.out] at h0;refine ai h0 ?_
      intro k hk
      simp [Value.ownBlock] at hk;subst hk
      have e1:=HU.out.size;have e2:=H3.out.2.size
      have e0:(wr.setCell ⟨gu,r,none⟩ (.int .i32 0)).heap.size=wr.heap.size:=by simp [World.setCell]
      rw [u4.block gt (by omega) (fun hm=>d3 (aA.mem.2 (.inr (.inl hm)))),H3.out.2.block gt (by omega) (fun hm=>d3 (aA.mem.2 (.inr (.inr (.inl hm))))),HU.out.block gt (by omega) (by simp),aG ahD]
     have acn:w.heap.size<=(w4.alloc (.cells #[.int .u32 p.lo,.int .u32 p.hi] 77 (0,0))).heap.size:=by
      have e1:=HU.out.size;have e2:=H3.out.2.size;have e3:=u4.size
      have e0:(wr.setCell ⟨gu,r,none⟩ (.int .i32 0)).heap.size=wr.heap.size:=by simp [World.setCell]
      rw [World.size_alloc];omega
     have H4:=Lib.hid (And.intro a4 (And.intro u4 s4));clear a4 u4 s4 y1 y2 y3 wM;obtain ⟨i,sG,tV,jY,fE⟩:=info_parts Tryz.OC;have HI:=Lib.hid sG;have HZ:=Lib.hid tV;have Cm:=Lib.hid jY;have F6:=Lib.hid fE;clear sG tV jY fE
     have EJ:Hid (∀ u,u∈[Value.int .u32 p.lo,Value.int .u32 p.hi]->u.oneCell'=true):=by intro u hu;simp at hu;rcases hu with rfl | rfl <;> rfl
     go_wp2_with (at_builtin;go_must (refine wpList_append_lies _ rfl (.tmp 57) (.tmp 62) 42 rfl w.heap.size 77 i _ 1 4 Tryz.underlying42 HI.out HZ.out Cm.out F6.out (by rfl) (by decide) _ n (aI S.reverse) rfl (bF.out.alloc _) ⟨w4.heap.size,0,none⟩ 2 2 [.int .u32 p.lo,.int .u32 p.hi] rfl rfl ?c1 EJ.out (by omega) (by unfold maxLen;omega) (by omega) (by omega) _ rfl ?_))
     case c1=>exact World.news_of_block (heap_alloc_new w4 (.cells #[.int .u32 p.lo,.int .u32 p.hi] 77 (0,0)))
     intro g5 cap w5 aK dh bI pF
     have Nj:=Lib.hid (And.intro aK (And.intro dh bI));clear aK dh bI;go_wp2_with fail;obtain ⟨a4,u4,s4⟩:=H4.out;obtain ⟨aK,dh,bI⟩:=Nj.out;have adu:=Zz (X:=.cells #[.int .u32 p.lo,.int .u32 p.hi] 77 (0,0)) (g5:=g5) (cap:=cap) HR.out rQ mG.out hl HQ.out HP.out.1 HP.out.2.1 HV.out HD.out HU.out H3.out.1 H3.out.2 a4 u4 s4 d3 d4 d5 dh (by rw [World.size_alloc];simpa [Value.ownBlock] using bI) (by rw [A7.out];exact aK);rw [A7.out] at adu;have HF:=Lib.hid adu
     have Aj:Hid (∀ x,x∈p.hi::p.lo::S->x<=4294967295):=by
      intro x hx
      simp at hx
      rcases hx with hx | hx | hx
      ·rw [hx];exact uV.2.1
      ·rw [hx];exact uV.1
      ·exact HX.out x hx
     clear adu a4 u4 s4 aK dh bI
     have auh:1<=K.A.used:=by have h3:=HR.out.wf.ok.us;have h1:=(HR.out.wf.ok.drop LG.out rQ).us;have h2:=(HR.out.wf.ok.drop LG.out rQ).l2;simp [ag.drop] at *;omega
     go_roundg (2*(K.A.used-1)+(n+2))
     case measure=>have:=A7.out;simp;omega
     case rel =>
      obtain ⟨q',hR',hT'⟩:=HF.out;exact ⟨p.hi::p.lo::S,K.gone r,_,q',by simp [KV.gone,ag.drop,A7.out],by omega,Aj.out,hR',hT'⟩
structure qx (A:ag) (v:Int) (lo hi r:Nat) (A':ag):Prop where
 ok:A'.Ok
 two:2<=r
 no:A.tk r=false
 at_:A'.list[r]?=some ⟨v,lo,hi,true,0⟩
 ot:∀ s,s≠r->A'.list[s]?=A.list[s]?
 us:A'.used=A.used+1
 pl:A'.places=A.places
 ll:r<A'.list.length/\A.list.length<=A'.list.length
 pr:∀ x,par A'.list x=par A.list x+(if lo=x then 1 else 0)+(if hi=x then 1 else 0)
theorem qx.put {A:ag} (h:A.Ok) {F:List Nat} {r:Nat} (hf:A.free=F++[r]) {v:Int} {lo hi:Nat} (h1:lo<=4294967295) (h2:hi<=4294967295):qx A v lo hi r (A.put F r v lo hi):=by
 obtain ⟨p,hp,aH⟩:=(h.fr r).1 (by rw [hf];simp);have aW:=(List.getElem?_eq_some_iff.1 hp).1;refine ⟨h.put hf h1 h2,?_,?_,?_,?_,rfl,rfl,?_,?_⟩
 ·match r,hp with
  | 0,hp=>rw [h.c0] at hp;cases hp;simp at aH
  | 1,hp=>rw [h.c1] at hp;cases hp;simp at aH
  | r+2,_=>omega
 ·simp [ag.tk,hp,aH]
 ·simp only [ag.put]
  rw [List.getElem?_set_self aW]
 ·intro s hs
  simp only [ag.put]
  rw [List.getElem?_set_ne (Ne.symm hs)]
 ·simp [ag.put];exact aW
 ·intro x
  simp only [ag.put]
  have e:=Ba (q:=⟨v,lo,hi,true,0⟩) hp x
  have e1:cnt p x=0:=by simp [cnt,aH]
  have e2:cnt ⟨v,lo,hi,true,0⟩ x=(if lo=x then 1 else 0)+(if hi=x then 1 else 0):=by simp [cnt]
  omega
theorem qx.push {A:ag} (h:A.Ok) (hl:A.list.length<A.places) {v:Int} {lo hi:Nat} (h1:lo<=4294967295) (h2:hi<=4294967295):qx A v lo hi A.list.length (A.push v lo hi):=by
 refine ⟨h.push hl h1 h2,?_,?_,?_,?_,rfl,rfl,?_,?_⟩
 ·exact h.l2
 ·simp [ag.tk]
 ·simp [ag.push]
 ·intro s hs
  simp only [ag.push]
  rw [List.getElem?_append];split
  ·rfl
  ·rw [List.getElem?_eq_none (by simp;omega),List.getElem?_eq_none (by omega)]
 ·simp [ag.push]
 ·intro x
  simp only [ag.push]
  rw [Ny]
  simp [par,cnt];omega
theorem RV (b:Nat) (F:List Nat) (v:Int) (lo hi:Nat) (A:ag) (w:World) (h:bu w b A F) (h1:lo<=4294967295) (h2:hi<=4294967295)
  (dS:A.used<A.places) (hc:A.jS v lo hi=0) :
  Calls Tryz.prog 239 #[.pointer (some ⟨b,0,none⟩),.agg #[.int .i64 v,.int .u32 lo,.int .u32 hi]] w fun e w' =>
   ∃ (r:Nat) (A':ag) (F':List Nat),e=.returned (.tuple #[.int .u32 r,.int .i64 0])/\qx A v lo hi r A'/\bu w' b A' F'/\af F w w'/\Sub F w F':=by
 rcases List.eq_nil_or_concat A.free with hf | ⟨fr,r,hf⟩
 ·have hl:A.list.length<A.places:=by have:=h.ok.us;rw [hf] at this;simp at this;omega
  refine (ND b F v lo hi A w h h1 h2 hf hl hc).mono ?_;rintro e w' ⟨rfl,F',a1,a2,a3⟩;exact ⟨_,_,F',rfl,qx.push h.ok hl h1 h2,a1,a2,a3⟩
 ·rw [List.concat_eq_append] at hf
  refine (NC b F v lo hi r fr A w h h1 h2 hf hc).mono ?_;rintro e w' ⟨rfl,a1,a2⟩;exact ⟨_,_,F,rfl,qx.put h.ok hf h1 h2,a1,a2,Sub.refl _ _⟩
theorem qx.tk {A A':ag} {v:Int} {lo hi r:Nat} (h:qx A v lo hi r A') (x:Nat):A'.tk x=(decide (x=r)||A.tk x):=by
 by_cases e:x=r
 ·subst e;simp [ag.tk,h.at_]
 ·unfold ag.tk;rw [h.ot x e];simp [e]
theorem qx.room {A A':ag} {v:Int} {lo hi r:Nat} (h:qx A v lo hi r A'):r<=1048575:=by
 have h1:=h.ll.1;have h2:=h.ok.lp;have h3:=h.ok.pm;omega
structure KV.Took (K:KV) (v:Int) (lo hi r:Nat) (K':KV):Prop where
 fr:qx K.A v lo hi r K'.A
 ul:K.uses.length<=K'.uses.length/\r<K'.uses.length/\K'.uses.length<=K'.A.list.length
 hl:K'.holds.length=K'.uses.length
 us:∀ x,K'.use x=(if x=r then 0 else K.use x)+(if lo=x/\2<=x then 1 else 0)+(if hi=x/\2<=x then 1 else 0)
 hd:∀ x,K'.hold x=if x=r then 0 else K.hold x
 vr:K'.vars=K.vars
 od:K'.order=K.order
 lv:K'.level=K.level
 tr:K'.trail=K.trail
theorem KV.Took.wf {K K':KV} {P:List Nat} {v:Int} {lo hi r:Nat} (t:K.Took v lo hi r K') (h:K.Wf P) (h1:K.A.tk lo=true) (h2:K.A.tk hi=true) (hv:0<=v/\v<K.vars):K'.Wf P:=by
 have bK:=t.fr.no
 have rP:lo≠r:=by rintro rfl;rw [bK] at h1;cases h1
 have wW:hi≠r:=by rintro rfl;rw [bK] at h2;cases h2
 have rQ:=t.fr.two
 have afC:par K.A.list r=0:=U8 fun q p hp aH=>by
  by_cases hq:2<=q
  ·have:=h.cl q p hq hp aH
   constructor
   ·rintro rfl;rw [bK] at this;simp at this
   ·rintro rfl;rw [bK] at this;simp at this
  ·match q,hp with
   | 0,hp=>rw [h.ok.c0] at hp;cases hp;simp;omega
   | 1,hp=>rw [h.ok.c1] at hp;cases hp;simp;omega
   | q+2,_=>omega
 have hnp:r∉P:=fun hm=>by have:=h.pt r hm;rw [bK] at this;cases this
 refine ⟨t.fr.ok,t.hl,t.ul.2.2,?_,?_,?_,?_,?_,?_,?_,by rw [t.vr];exact h.vs⟩
 ·intro x hx rH
  rw [t.fr.tk] at rH
  by_cases e:x=r
  ·rw [e];exact t.ul.2.1
  ·simp [e] at rH
   have:=h.tu x hx rH;have:=t.ul.1;omega
 ·intro x hx
  rw [t.hd] at hx
  split at hx
  ·omega
  ·rename_i e
   have:=h.ht x hx;exact ⟨this.1,by rw [t.fr.tk];simp [this.2]⟩
 ·intro x
  rw [t.hd];split
  ·omega
  ·exact h.hm x
 ·intro x hx rH
  rw [t.us,t.hd,t.fr.pr]
  by_cases e:x=r
  ·subst e
   have hc:P.count x=0:=List.count_eq_zero.2 hnp
   simp [rP,wW,afC,hc,one]
  ·rw [t.fr.tk] at rH
   simp [e] at rH
   have:=h.eq x hx rH
   simp only [e,if_false,hx,and_true]
   omega
 ·intro x hx
  rw [t.fr.tk,h.pt x hx];simp
 ·intro q p hq hp aH
  by_cases e:q=r
  ·subst e
   rw [t.fr.at_] at hp;cases hp
   rw [t.fr.tk,t.fr.tk,h1,h2];simp
  ·rw [t.fr.ot q e] at hp
   have:=h.cl q p hq hp aH
   rw [t.fr.tk,t.fr.tk,this.1,this.2];simp
 ·intro q p hq hp aH
  rw [t.vr]
  by_cases e:q=r
  ·subst e
   rw [t.fr.at_] at hp;cases hp
   exact hv
  ·rw [t.fr.ot q e] at hp
   exact h.vr q p hq hp aH
theorem dW.took {T:List DM} {K K':KV} {lo hi r v:Nat} {D:DM} (h:dW T K []) (t:K.Took (v:Int) lo hi r K') (hD:T[v]?=some D) (bK:Maps.has D (nk v lo hi)=false) :
  dW (T.set v (D.put (nk v lo hi) (.lit (.int .u32 r)))) K' []:=by
 have gK:=(List.getElem?_eq_some_iff.1 hD).1;have Vj:=h.im D (List.mem_of_getElem? hD);have rQ:=t.fr.two
 have hold:∀ (s:Nat) (c:ak),K.A.list[s]?=some c->c.taken=true->s≠r:=by
  rintro s c hs lI rfl;have:=t.fr.no
  simp [ag.tk,hs,lI] at this
 refine ⟨by rw [t.vr];simpa using h.len,?_,?_,?_⟩
 ·intro u D2 k hu hk
  have key:∀ (u:Nat) (D2:DM),T[u]?=some D2->Maps.has D2 k=true->∃ (r:Nat) (p:ak),2<=r/\K'.A.list[r]?=some p/\p.taken=true/\p.var=(u:Int)/\k=kG p/\r∉([]:List Nat):=by
   intro u D2 hu hk
   obtain ⟨s,c,h1,h2,h3,h4,h5,h6⟩:=h.dom u D2 k hu hk;exact ⟨s,c,h1,by rw [t.fr.ot s (hold s c h2 h3)];exact h2,h3,h4,h5,h6⟩
  by_cases e:u=v
  ·subst e
   rw [List.getElem?_set_self gK] at hu;cases hu
   by_cases e2:k=nk u lo hi
   ·subst e2
    exact ⟨r,_,rQ,t.fr.at_,rfl,rfl,rfl,by simp⟩
   ·rw [has_put_other e2] at hk
    exact key u D hD hk
  ·rw [List.getElem?_set_ne (Ne.symm e)] at hu
   exact key u D2 hu hk
 ·intro s c D2 hs hc lI _ qA
  by_cases e0:s=r
  ·subst e0
   rw [t.fr.at_] at hc;cases hc
   rw [show ((v:Int)).toNat=v by omega,List.getElem?_set_self gK] at qA;cases qA
   exact ⟨has_put_same Vj (lV _ _ _) _,fun z=>atKey_put_same Vj (lV _ _ _) _ _⟩
  ·have Jc:=hc
   rw [t.fr.ot s e0] at hc
   by_cases e:c.var.toNat=v
   ·rw [e,List.getElem?_set_self gK] at qA;cases qA
    obtain ⟨g1,g2⟩:=h.at_ s c D hs hc lI (by simp) (by rw [e];exact hD)
    have hk:kG c≠nk v lo hi:=by
     intro e2
     rw [e2,bK] at g1;cases g1
    rw [has_put_other hk];exact ⟨g1,fun z=>by rw [atKey_put_other hk];exact g2 z⟩
   ·rw [List.getElem?_set_ne (Ne.symm e)] at qA
    exact h.at_ s c D2 hs hc lI (by simp) qA
 ·intro D2 qA
  rcases List.mem_or_eq_of_mem_set qA with h1 | rfl
  ·exact h.im D2 h1
  ·exact Vj.put _ _
theorem aF.ZE {w w5:World} {b g5 cap:Nat} {X:Obj} {K:KV} {T:List DM} {q:aA} (h:aF w b K T q) (hg:(w.alloc X).grownBy w5 q.uv.ownBlock) (bI:q.uv.ownBlock=some g5\/g5=w.heap.size+1)
  (aK:w5.ownsRow 0 21 1 (.slice (some ⟨g5,0,none⟩) (K.uses.length+1) cap) (K.uses.length+1) (iL K.uses++[.int .i32 0])) :
  aF (w5.setCell ⟨b,2,none⟩ (.slice (some ⟨g5,0,none⟩) (K.uses.length+1) cap)) b { K with uses:=K.uses++[0] } T { q with uv:=.slice (some ⟨g5,0,none⟩) (K.uses.length+1) cap,o:=dC q w.heap.size 3 }:=by
 have hb:=ah h.blk
 have LD:b≠g5:=by
  rcases bI with e | e
  ·rintro rfl;have e1:=h.ob;have e2:=h.ou b e;omega
  ·omega
 have keep:∀ {k c:Nat},q.o k=c->c≠3->c≠0->k<w.heap.size->(w5.setCell ⟨b,2,none⟩ (.slice (some ⟨g5,0,none⟩) (K.uses.length+1) cap)).heap[k]?=w.heap[k]?:=by
  intro k c hk hc h0 hl
  rw [aG (by rintro rfl;exact h0 (hk ▸ h.ob)),hg.block k (by rw [World.size_alloc];omega) (fun e=>hc (hk ▸ h.ou k e.symm)),heap_alloc_old _ _ hl]
 have qM:w5.heap[b]?=w.heap[b]?:=by
  rw [hg.block b (by rw [World.size_alloc];omega) (fun e=>by have e1:=h.ob;have e2:=h.ou b e.symm;omega),heap_alloc_old _ _ hb]
 rw [h.blk] at qM
 refine ⟨by rw [aB qM];simp,h.ar.keep fun k hm=>keep (h.oa k hm) (by omega) (by omega) (h.ar.lt k hm),h.tab.keep fun k hm=>keep (h.ot k hm) (by omega) (by omega) (h.tab.lt k hm),?_,?_,
  ai h.os fun k hm=>keep (h.oo k hm) (by omega) (by omega) (h.os.lt k hm).2,ai h.ls fun k hm=>keep (h.ol k hm) (by omega) (by omega) (h.ls.lt k hm).2,ai h.ts fun k hm=>keep (h.ox k hm) (by omega) (by omega) (h.ts.lt k hm).2,?_,?_,?_,?_,?_,?_,?_,?_⟩
 ·show World.ownsRow _ 0 _ 1 _ (K.uses++[0]).length (iL (K.uses++[0]))
  have e:=bf aK (a:=⟨b,2,none⟩) (by simpa [Value.ownBlock] using LD) (.slice (some ⟨g5,0,none⟩) (K.uses.length+1) cap)
  simpa [iL] using e
 ·exact ai h.hs fun k hm=>keep (h.oh k hm) (by omega) (by omega) (h.hs.lt k hm).2
 ·show dC q _ _ b=0
  rw [aX hb];exact h.ob
 ·intro k hk;show dC q _ _ k=1;rw [aX (h.ar.lt k hk)];exact h.oa k hk
 ·intro k hk;show dC q _ _ k=2;rw [aX (h.tab.lt k hk)];exact h.ot k hk
 ·intro k hk
  simp [Value.ownBlock] at hk;subst hk
  show dC q _ _ g5=3
  rcases bI with e | e
  ·rw [aX (h.us.lt g5 e).2];exact h.ou g5 e
  ·unfold dC;rw [if_pos (by omega)]
 ·intro k hk;show dC q _ _ k=4;rw [aX (h.hs.lt k hk).2];exact h.oh k hk
 ·intro k hk;show dC q _ _ k=5;rw [aX (h.os.lt k hk).2];exact h.oo k hk
 ·intro k hk;show dC q _ _ k=6;rw [aX (h.ls.lt k hk).2];exact h.ol k hk
 ·intro k hk;show dC q _ _ k=7;rw [aX (h.ts.lt k hk).2];exact h.ox k hk
theorem aF.Xe {w w5:World} {b g5 cap:Nat} {X:Obj} {K:KV} {T:List DM} {q:aA} (h:aF w b K T q) (hg:(w.alloc X).grownBy w5 q.hv.ownBlock) (bI:q.hv.ownBlock=some g5\/g5=w.heap.size+1)
  (aK:w5.ownsRow 0 21 1 (.slice (some ⟨g5,0,none⟩) (K.holds.length+1) cap) (K.holds.length+1) (iL K.holds++[.int .i32 0])) :
  aF (w5.setCell ⟨b,3,none⟩ (.slice (some ⟨g5,0,none⟩) (K.holds.length+1) cap)) b { K with holds:=K.holds++[0] } T { q with hv:=.slice (some ⟨g5,0,none⟩) (K.holds.length+1) cap,o:=dC q w.heap.size 4 }:=by
 have hb:=ah h.blk
 have LD:b≠g5:=by
  rcases bI with e | e
  ·rintro rfl;have e1:=h.ob;have e2:=h.oh b e;omega
  ·omega
 have keep:∀ {k c:Nat},q.o k=c->c≠4->c≠0->k<w.heap.size->(w5.setCell ⟨b,3,none⟩ (.slice (some ⟨g5,0,none⟩) (K.holds.length+1) cap)).heap[k]?=w.heap[k]?:=by
  intro k c hk hc h0 hl
  rw [aG (by rintro rfl;exact h0 (hk ▸ h.ob)),hg.block k (by rw [World.size_alloc];omega) (fun e=>hc (hk ▸ h.oh k e.symm)),heap_alloc_old _ _ hl]
 have qM:w5.heap[b]?=w.heap[b]?:=by
  rw [hg.block b (by rw [World.size_alloc];omega) (fun e=>by have e1:=h.ob;have e2:=h.oh b e.symm;omega),heap_alloc_old _ _ hb]
 rw [h.blk] at qM
 refine ⟨by rw [aB qM];simp,h.ar.keep fun k hm=>keep (h.oa k hm) (by omega) (by omega) (h.ar.lt k hm),h.tab.keep fun k hm=>keep (h.ot k hm) (by omega) (by omega) (h.tab.lt k hm),?_,?_,
  ai h.os fun k hm=>keep (h.oo k hm) (by omega) (by omega) (h.os.lt k hm).2,ai h.ls fun k hm=>keep (h.ol k hm) (by omega) (by omega) (h.ls.lt k hm).2,ai h.ts fun k hm=>keep (h.ox k hm) (by omega) (by omega) (h.ts.lt k hm).2,?_,?_,?_,?_,?_,?_,?_,?_⟩
 ·exact ai h.us fun k hm=>keep (h.ou k hm) (by omega) (by omega) (h.us.lt k hm).2
 ·show World.ownsRow _ 0 _ 1 _ (K.holds++[0]).length (iL (K.holds++[0]))
  have e:=bf aK (a:=⟨b,3,none⟩) (by simpa [Value.ownBlock] using LD) (.slice (some ⟨g5,0,none⟩) (K.holds.length+1) cap)
  simpa [iL] using e
 ·show dC q _ _ b=0
  rw [aX hb];exact h.ob
 ·intro k hk;show dC q _ _ k=1;rw [aX (h.ar.lt k hk)];exact h.oa k hk
 ·intro k hk;show dC q _ _ k=2;rw [aX (h.tab.lt k hk)];exact h.ot k hk
 ·intro k hk;show dC q _ _ k=3;rw [aX (h.us.lt k hk).2];exact h.ou k hk
 ·intro k hk
  simp [Value.ownBlock] at hk;subst hk
  show dC q _ _ g5=4
  rcases bI with e | e
  ·rw [aX (h.hs.lt g5 e).2];exact h.oh g5 e
  ·unfold dC;rw [if_pos (by omega)]
 ·intro k hk;show dC q _ _ k=5;rw [aX (h.os.lt k hk).2];exact h.oo k hk
 ·intro k hk;show dC q _ _ k=6;rw [aX (h.ls.lt k hk).2];exact h.ol k hk
 ·intro k hk;show dC q _ _ k=7;rw [aX (h.ts.lt k hk).2];exact h.ox k hk
end Go.Proofs.YtfkopmhpppeheaaGreat
