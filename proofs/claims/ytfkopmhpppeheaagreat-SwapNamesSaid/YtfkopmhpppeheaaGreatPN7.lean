import Derived.Test.YtfkopmhpppeheaaGreatPN6
import Derived.Deep.RegionHeld3
import Derived.Deep.DeepCutAuto
set_option maxRecDepth 100000
set_option maxHeartbeats 1600000
namespace Go.Proofs.YtfkopmhpppeheaaGreat
open Go.RowKit Go.Maps Go.ChangeMaps Go.WideShapes
theorem Ee (sv:Value) (l:List Nat) (w:World) (h:w.ownsRow 0 3 1 sv l.length (aQ l)) (h1:1<=l.length) (hn:l.length<=1048576) :
  Calls Tryz.prog 86 #[sv] w fun e w'=>∃ (g cap:Nat),e=.returned (.slice (some ⟨g,0,none⟩) l.length cap)/\w'.ownsRow w.heap.size 3 1 (.slice (some ⟨g,0,none⟩) l.length cap) l.length (aQ l)/\af [] w w':=by
 obtain ⟨fa,fc,rfl,_⟩:=aj h;obtain ⟨g0,rfl⟩:=bC h (by omega);obtain ⟨i,sG,tV,jY,fE⟩:=info_parts Tryz.BH;have HI:=Lib.hid sG;have HZ:=Lib.hid tV;have Cm:=Lib.hid jY;have F6:=Lib.hid fE;have HR:=Lib.hid h;have Np:Hid (∀ j u,(aQ l)[j]?=some u->w.cell? ((⟨g0,0,none⟩ : Addr).add j)=some u):=h.cells rfl
 have mg:Hid (∀ u,u∈aQ l->u.oneCell'=true):=by
  intro u hu
  obtain ⟨a,_,rfl⟩:=List.mem_map.1 hu;rfl
 have hlen:(aQ l).length=l.length*1:=by simp [aQ]
 generalize Bv:l.length=n at *;clear h sG tV jY fE
 go_enter Tryz.func86,Tryz.ntmps86
 have auB:∀ (w:World),(binOp BinOp.eql 23 (Value.slice (some ⟨g0,0,none⟩) n fc) (Value.slice none 0 0)).run Tryz.prog w=.ok (.bool false) w:=fun w=>by kernel_rfl
 have HL:Hid ((w.alloc (.cells #[] 3 (0,0))).ownsRow w.heap.size 3 1 (.slice (some ⟨w.heap.size,0,none⟩) 0 0) 0 []):=World.ownsRow_lit w #[] 0 (Nat.le_refl _) (by unfold maxLen;omega) (by simp)
 have HB:Hid (∀ j u,(aQ l)[j]?=some u->(w.alloc (.cells #[] 3 (0,0))).cell? ((⟨g0,0,none⟩ : Addr).add j)=some u):=by
  intro j u hu
  have:=Np.out j u hu;rw [<- this];exact World.cell?_of_block (heap_alloc_old w _ (World.block_lt_of_cell? _ _ this))
 have pW:w.heap.size<=(w.alloc (.cells #[] 3 (0,0))).heap.size:=by rw [World.size_alloc];omega
 go_wp2_with (at_builtin;go_must (refine wpList_append_lies _ rfl (.tmp 5) (.tmp 6) 23 rfl w.heap.size 3 i _ 1 8 Tryz.underlying23 HI.out HZ.out Cm.out F6.out (by rfl) (by decide) _ 0 [] rfl HL.out ⟨g0,0,none⟩ n fc (aQ l) rfl hlen ?c1 mg.out (by omega) (by unfold maxLen;omega) (by omega) pW _ rfl ?_))
 case c1=>exact HB.out
 intro g cap w' aK dh bI aW
 have HE:Hid (w'.ownsRow w.heap.size 3 1 (.slice (some ⟨g,0,none⟩) n cap) n (aQ l)/\af [] w w'):=by
  refine ⟨by simpa using aK,((af.refl [] w).alloc _).grown dh fun k hk=>?_⟩
  simp [Value.ownBlock] at hk
  right;omega
 clear aK dh bI aW;go_wp2_with fail;go_ret;exact ⟨g,cap,rfl,HE.out⟩
theorem qH (b:Nat) (K:KV) (T:List DM) (q:aA) (w:World) (h:aF w b K T q) (h1:1<=K.order.length) (hn:K.order.length<=1048576) :
  Calls Tryz.prog 43 #[.pointer (some ⟨b,0,none⟩)] w fun e w'=>∃ (g cap:Nat),e=.returned (.slice (some ⟨g,0,none⟩) K.order.length cap)/\w'.ownsRow w.heap.size 3 1 (.slice (some ⟨g,0,none⟩) K.order.length cap) K.order.length (aQ K.order)/\af [] w w':=by
 have c5:w.cell? ⟨b,5,none⟩=some q.ov:=ae h.blk rfl;have HO:=Lib.hid h.os;clear h
 go_enter Tryz.func43,Tryz.ntmps43
 go_wp2_with fail;refine (Ee q.ov K.order w HO.out h1 hn).mono ?_;rintro e w1 ⟨g,cap,rfl,ho,hu⟩;have HE:=Lib.hid (And.intro ho hu);clear ho hu;go_wp2_with fail;go_ret;exact ⟨g,cap,rfl,HE.out⟩
def KV.new (n m:Nat):KV:=⟨ag.new m,[],[],n,List.range n,List.range n,[]⟩
theorem KV.vG {n m:Nat} (h1:1<=n) (hn:n<=64) (h2:2<=m) (hm:m<=1048576):(KV.new n m).Ok:=by
 have hA:=ag.vG h2 hm
 have no:∀ (r:Nat) (p:ak),2<=r->(KV.new n m).A.list[r]?=some p->False:=by
  intro r p hr hp
  have:=(List.getElem?_eq_some_iff.1 hp).1
  simp [KV.new,ag.new] at this
  omega
 have adw:∀ r,2<=r->(KV.new n m).A.tk r=true->False:=fun r hr ht=>by
  obtain ⟨p,hp,_⟩:=ag.aP.1 ht;exact no r p hr hp
 have abq:∀ r,(KV.new n m).hold r=0:=fun r=>by simp [KV.hold,KV.new]
 have ahO:∀ v,v<n->(KV.new n m).lev v=v:=fun v hv=>by simp [KV.lev,KV.new,hv]
 have Dc:∀ v,v<n->(KV.new n m).order.getD v 0=v:=fun v hv=>by simp [KV.new,hv]
 refine ⟨⟨hA,rfl,by simp [KV.new],fun r h ht=>(adw r h ht).elim,fun r h=>by rw [abq] at h;omega,fun r=>by rw [abq];omega,fun r h ht=>(adw r h ht).elim,by simp,fun q p h hp _=>(no q p h hp).elim,fun q p h hp _=>(no q p h hp).elim,h1,hn⟩,
  fun r h ht=>(adw r h ht).elim,⟨⟨by simp [KV.new],by simp [KV.new],?_,?_⟩,fun q p h hp _=>(no q p h hp).elim,fun q p h hp _=>(no q p h hp).elim⟩,by simp [KV.new]⟩
 ·intro v hv
  rw [ahO v hv];exact ⟨hv,Dc v hv⟩
 ·intro v hv
  rw [Dc v hv];exact ⟨hv,ahO v hv⟩
theorem dW.new (n m:Nat):dW (List.replicate n (.map [])) (KV.new n m) []:=by
 refine ⟨by simp [KV.new],?_,?_,?_⟩
 ·intro v D k hD hk
  have:D=.map []:=(List.mem_replicate.1 (List.mem_of_getElem? hD)).2;subst this
  simp [Maps.has] at hk
 ·intro r p D hr hp
  have:=(List.getElem?_eq_some_iff.1 hp).1
  simp [KV.new,ag.new] at this
  omega
 ·intro D hD
  rw [(List.mem_replicate.1 hD).2];exact isMap_empty
theorem Fb (m t:Nat) (w:World) (h2:2<=m) (hm:m<=1048576) :
  Calls Tryz.prog 85 #[.int .i64 m,.pointer (some ⟨t,0,none⟩)] w fun e w'=>∃ a F,e=.returned (.tuple #[.agg #[.pointer (some ⟨a,0,none⟩),.pointer (some ⟨t,0,none⟩),.slice none 0 0,.slice none 0 0],.int .i64 0]) /\
   bu w' a (ag.new m) F/\af [] w w'/\Sub [] w F:=by
 go_enter Tryz.func85,Tryz.ntmps85
 go_wp2_with fail;refine (VZ m _ h2 hm).mono ?_;rintro e w1 ⟨a,F,rfl,ha,hu,hs⟩;have aY:w1.heap[w.heap.size]?=some (.cells #[.pointer none,.pointer none,.slice none 0 0,.slice none 0 0] 167 (0,0)):=(hu.block w.heap.size (by simp) (by simp)).trans (heap_alloc_new w _);have b0:w1.cell? ⟨w.heap.size,0,none⟩=some (.pointer none):=ae aY rfl;have b1:w1.cell? ⟨w.heap.size,1,none⟩=some (.pointer none):=ae aY rfl;have b2:w1.cell? ⟨w.heap.size,2,none⟩=some (.slice none 0 0):=ae aY rfl;have b3:w1.cell? ⟨w.heap.size,3,none⟩=some (.slice none 0 0):=ae aY rfl;have f0:=ax 0 aY;have f1:=ax 1 aY;have f2:=ax 2 aY;have f3:=ax 3 aY;have HX:=Lib.hid aY;have HU:Hid (af [] w w1):=((af.refl [] w).alloc _).trans (hu.mono (by simp))
 have HA:Hid (∀ w2,af [w.heap.size] w1 w2->bu w2 a (ag.new m) F):=fun w2 u=>ha.upd u (fun k hk hm=>by
  simp at hm
  have:=hs k hk
  simp at this
  omega)
 have HS:Hid (Sub [] w F):=fun k hk=>by
  have:=hs k hk
  simp at this
  right;omega
 clear hu aY ha hs;go_wp2_with fail;have e:=aB (j:=3) (aB (j:=2) (aB (j:=1) (aB (j:=0) HX.out (.pointer (some ⟨a,0,none⟩))) (.pointer (some ⟨t,0,none⟩))) (.slice none 0 0)) (.slice none 0 0);have r0:=ae (j:=0) e rfl;have r1:=ae (j:=1) e rfl;have r2:=ae (j:=2) e rfl;have r3:=ae (j:=3) e rfl;refine bodyPost_ret (v:=.tuple #[.agg #[.pointer (some ⟨a,0,none⟩),.pointer (some ⟨t,0,none⟩),.slice none 0 0,.slice none 0 0],.int .i64 0]) (by simp [results,Tryz.results85,go_sem,r0,r1,r2,r3]) rfl ⟨a,F,rfl,HA.out _ ?_,?_,HS.out⟩
 ·exact ((((af.refl _ w1).setCell (.inl (by simp)) _).setCell (.inl (by simp)) _).setCell (.inl (by simp)) _).setCell (.inl (by simp)) _
 ·exact (((HU.out.setCell (.inr (Nat.le_refl _)) _).setCell (.inr (Nat.le_refl _)) _).setCell (.inr (Nat.le_refl _)) _).setCell (.inr (Nat.le_refl _)) _
theorem Xk {n m g tb a g2 jc:Nat} {w w1 w2 w3 w5:World} {FT FA:List Nat} (h1:1<=n) (hn:n<=64) (h2:2<=m) (hm:m<=1048576)
  (ho:w1.ownsRow w.heap.size 3 1 (.slice (some ⟨g,0,none⟩) n n) n (aQ (List.range n))) (u1:af [] w w1) (FD:w.heap.size<=g/\g<w1.heap.size)
  (ht:ed w2 tb (List.replicate n (.map [])) FT) (u2:af [] w1 w2) (s2:Sub [] w1 FT) (ha:bu w3 a (ag.new m) FA) (u3:af [] w2 w3) (s3:Sub [] w2 FA)
  (u5:af [] w3 w5) (ho2:w5.ownsRow (w3.heap.size+1) 3 1 (.slice (some ⟨g2,0,none⟩) n jc) n (aQ (List.range n))) :
  bV (w5.alloc (.cells #[.pointer (some ⟨a,0,none⟩),.pointer (some ⟨tb,0,none⟩),.slice none 0 0,.slice none 0 0,.int .i64 n,.slice (some ⟨g,0,none⟩) n n,.slice (some ⟨g2,0,none⟩) n jc,.slice none 0 0] 172)) w5.heap.size (KV.new n m) (List.replicate n (.map []))
   ⟨a,tb,.slice none 0 0,.slice none 0 0,.slice (some ⟨g,0,none⟩) n n,.slice (some ⟨g2,0,none⟩) n jc,.slice none 0 0,FA,FT,fun k=>if k<w1.heap.size then 5 else if k<w2.heap.size then 2 else if k<w3.heap.size then 1 else if k<w5.heap.size then 6 else 0⟩ /\
  af [] w (w5.alloc (.cells #[.pointer (some ⟨a,0,none⟩),.pointer (some ⟨tb,0,none⟩),.slice none 0 0,.slice none 0 0,.int .i64 n,.slice (some ⟨g,0,none⟩) n n,.slice (some ⟨g2,0,none⟩) n jc,.slice none 0 0] 172)) /\
  Sub [] w ((⟨a,tb,.slice none 0 0,.slice none 0 0,.slice (some ⟨g,0,none⟩) n n,.slice (some ⟨g2,0,none⟩) n jc,.slice none 0 0,FA,FT,fun k=>if k<w1.heap.size then 5 else if k<w2.heap.size then 2 else if k<w3.heap.size then 1 else if k<w5.heap.size then 6 else 0⟩ : aA).all w5.heap.size):=by
 have z1:=u1.size;have z2:=u2.size;have z3:=u3.size;have z5:=u5.size;have Lp:=ho2.lt g2 rfl;have lT:=ht.lt;have lA:=ha.lt
 have sT:∀ k,k∈FT->w1.heap.size<=k:=fun k hk=>(s2 k hk).elim (fun h=>by simp at h) id
 have sA:∀ k,k∈FA->w2.heap.size<=k:=fun k hk=>(s3 k hk).elim (fun h=>by simp at h) id
 have U:=(u5.alloc (.cells #[.pointer (some ⟨a,0,none⟩),.pointer (some ⟨tb,0,none⟩),.slice none 0 0,.slice none 0 0,.int .i64 n,.slice (some ⟨g,0,none⟩) n n,.slice (some ⟨g2,0,none⟩) n jc,.slice none 0 0] 172));refine ⟨⟨⟨heap_alloc_new w5 _,ha.upd U (by simp),ht.upd (u3.trans U) (by simp),World.ownsRow_nil _ _ _ _,World.ownsRow_nil _ _ _ _,?_,?_,World.ownsRow_nil _ _ _ _,?_,?_,?_,?_,?_,?_,?_,?_⟩,dW.new n m,KV.vG h1 hn h2 hm⟩,?_,?_⟩
 ·have e:(KV.new n m).order.length=n:=by simp [KV.new]
  rw [e]
  refine ai (df ho (Nat.zero_le _)) fun k hk=>?_
  simp [Value.ownBlock] at hk;subst hk
  rw [U.block _ (by omega) (by simp),u3.block _ (by omega) (by simp),u2.block _ FD.2 (by simp)]
 ·have e:(KV.new n m).level.length=n:=by simp [KV.new]
  rw [e];exact (df ho2 (Nat.zero_le _)).alloc _
 ·show (if _ then _ else _)=0
  rw [if_neg (by omega),if_neg (by omega),if_neg (by omega),if_neg (by omega)]
 ·intro k hk
  have:=sA k hk;have:=lA k hk
  show (if _ then _ else _)=1
  rw [if_neg (by omega),if_neg (by omega),if_pos (by omega)]
 ·intro k hk
  have:=sT k hk;have:=lT k hk
  show (if _ then _ else _)=2
  rw [if_neg (by omega),if_pos (by omega)]
 ·intro k hk;simp [Value.ownBlock] at hk
 ·intro k hk;simp [Value.ownBlock] at hk
 ·intro k hk
  simp [Value.ownBlock] at hk;subst hk
  show (if _ then _ else _)=5
  rw [if_pos FD.2]
 ·intro k hk
  simp [Value.ownBlock] at hk;subst hk
  show (if _ then _ else _)=6
  rw [if_neg (by omega),if_neg (by omega),if_neg (by omega),if_pos Lp.2]
 ·intro k hk;simp [Value.ownBlock] at hk
 ·exact u1.trans (u2.trans (u3.trans U))
 ·intro k hk
  right
  simp only [aA.mem,Value.ownBlock] at hk
  simp at hk
  rcases hk with rfl | hk | hk | hk | hk
  ·omega
  ·have:=sA k hk;omega
  ·have:=sT k hk;omega
  ·omega
  ·omega
theorem Gu (n m:Nat) (w:World) (h1:1<=n) (hn:n<=64) (h2:2<=m) (hm:m<=1048576) :
  Calls Tryz.prog 28 #[.int .i64 n,.int .i64 m] w fun e w'=>∃ (b:Nat) (T:List DM) (q:aA),e=.returned (.tuple #[.pointer (some ⟨b,0,none⟩),.int .i64 0])/\bV w' b (KV.new n m) T q/\af [] w w'/\Sub [] w (q.all b):=by
 have AY:decide ((n:Int)<1)=false:=by simp;omega
 have wP:decide ((m:Int)<2)=false:=by simp;omega
 have U0:decide ((1048576:Int)<(m:Int))=false:=by simp;omega
 have hd4:decide (1048576<m)=false:=by simp;omega
 have hd5:decide (m<2)=false:=by simp;omega
 have hd6:decide (n<1)=false:=by simp;omega
 go_enter Tryz.func28,Tryz.ntmps28
 go_wp2_with fail;refine (UZ n w hn).mono ?_;rintro e w1 ⟨g,rfl,ho,hu⟩;have FD:=ho.lt g rfl;have HO:=Lib.hid (And.intro ho hu);clear ho hu;go_wp2_with fail;refine (QQ n _ h1 hn).mono ?_;rintro e w2 ⟨tb,FT,rfl,ht,jE,dR⟩;have HT:=Lib.hid (And.intro ht (And.intro jE dR));clear ht jE dR;go_wp2_with fail;refine (Fb m tb _ h2 hm).mono ?_;rintro e w3 ⟨a,FA,rfl,ha,fG,xG⟩;have HA:=Lib.hid (And.intro ha (And.intro fG xG));clear ha fG xG;have HN:=heap_alloc_new w3 (.cells #[.pointer (some ⟨a,0,none⟩),.pointer (some ⟨tb,0,none⟩),.slice none 0 0,.slice none 0 0] 167)
 have Y3:Hid (Calls Tryz.prog 86 #[.slice (some ⟨g,0,none⟩) n n] (w3.alloc (.cells #[.pointer (some ⟨a,0,none⟩),.pointer (some ⟨tb,0,none⟩),.slice none 0 0,.slice none 0 0] 167)).drew fun e w' =>
   ∃ (g2 cap:Nat),e=.returned (.slice (some ⟨g2,0,none⟩) n cap)/\w'.ownsRow (w3.heap.size+1) 3 1 (.slice (some ⟨g2,0,none⟩) n cap) n (aQ (List.range n))/\af [] (w3.alloc (.cells #[.pointer (some ⟨a,0,none⟩),.pointer (some ⟨tb,0,none⟩),.slice none 0 0,.slice none 0 0] 167)).drew w'):=by
  have dR:=HT.out.2.1;have xG:=HA.out.2.1
  have aC:(w3.alloc (.cells #[.pointer (some ⟨a,0,none⟩),.pointer (some ⟨tb,0,none⟩),.slice none 0 0,.slice none 0 0] 167)).drew.ownsRow 0 3 1 (.slice (some ⟨g,0,none⟩) n n) (List.range n).length (aQ (List.range n)):=by
   rw [List.length_range];refine lN ((ai (df HO.out.1 (Nat.zero_le _)) fun k hk=>?_).alloc _)
   simp [Value.ownBlock] at hk;subst hk
   rw [xG.block _ (by have:=dR.size;omega) (by simp),dR.block _ FD.2 (by simp)]
  refine (Ee _ (List.range n) _ aC (by simpa using h1) (by simp;omega)).mono ?_;rintro e w' ⟨g2,cap,rfl,ho,hu⟩;refine ⟨g2,cap,by rw [List.length_range],?_,hu⟩;rw [List.length_range] at ho;refine df ho ?_
  show _<=(w3.alloc _).heap.size
  rw [World.size_alloc];omega
 obtain ⟨x0,x1,x2,x3⟩ : (w3.alloc (.cells #[.pointer (some ⟨a,0,none⟩),.pointer (some ⟨tb,0,none⟩),.slice none 0 0,.slice none 0 0] 167)).drew.cell? ⟨w3.heap.size,0,none⟩=some (.pointer (some ⟨a,0,none⟩)) /\
   (w3.alloc (.cells #[.pointer (some ⟨a,0,none⟩),.pointer (some ⟨tb,0,none⟩),.slice none 0 0,.slice none 0 0] 167)).drew.cell? ⟨w3.heap.size,1,none⟩=some (.pointer (some ⟨tb,0,none⟩)) /\
   (w3.alloc (.cells #[.pointer (some ⟨a,0,none⟩),.pointer (some ⟨tb,0,none⟩),.slice none 0 0,.slice none 0 0] 167)).drew.cell? ⟨w3.heap.size,2,none⟩=some (.slice none 0 0) /\
   (w3.alloc (.cells #[.pointer (some ⟨a,0,none⟩),.pointer (some ⟨tb,0,none⟩),.slice none 0 0,.slice none 0 0] 167)).drew.cell? ⟨w3.heap.size,3,none⟩=some (.slice none 0 0):=⟨ae HN rfl,ae HN rfl,ae HN rfl,ae HN rfl⟩
 have HN:=Lib.hid HN;go_wp2_with fail
 go_region_held3 (fun w'=>w'.cell? ⟨w3.heap.size,0,none⟩=some (.pointer (some ⟨a,0,none⟩))/\w'.cell? ⟨w3.heap.size,1,none⟩=some (.pointer (some ⟨tb,0,none⟩))/\w'.cell? ⟨w3.heap.size,2,none⟩=some (.slice none 0 0)/\w'.cell? ⟨w3.heap.size,3,none⟩=some (.slice none 0 0)) (first | exact ⟨x0,x1,x2,x3⟩ | exact GG HC.out.2 x0 x1 x2 x3 (by simp) (by simp) (by simp) (by simp) | exact GG (HC.out.2.alloc _) x0 x1 x2 x3 (by simp) (by simp) (by simp) (by simp)) (first | (go_at_call 86;refine Y3.out.mono ?_;rintro e w5 ⟨g2,jc,rfl,ho2,nK⟩;have HC:=Lib.hid (And.intro ho2 nK);clear ho2 nK))
 have HE:=Lib.hid (Xk h1 hn h2 hm HO.out.1 HO.out.2 FD HT.out.1 HT.out.2.1 HT.out.2.2 HA.out.1 HA.out.2.1 HA.out.2.2 ((((af.refl [] w3).alloc _).drew).trans HC.out.2) HC.out.1);clear HC Y3 HN HA HT HO;go_wp2_with fail;go_ret2;exact ⟨_,_,_,rfl,HE.out⟩
theorem Tryz.KZ:(Tryz.prog.info? 77).map (fun i=>(i.zero,i.size,i.bytes))=some (some (.int .u32 0),1,4):=by kernel_rfl
structure zo (w:World) (wb b:Nat) (lv M:List Nat) (lvv mv:Value):Prop where
 blk:w.heap[wb]?=some (.cells #[.pointer (some ⟨b,0,none⟩),lvv,mv] 278 (0,0))
 ls:w.ownsRow 0 3 1 lvv lv.length (aQ lv)
 ms:w.ownsRow 0 77 1 mv M.length (aI M)
 d1:lvv.ownBlock≠some wb
 d2:mv.ownBlock≠some wb
 d3:∀ k,lvv.ownBlock=some k->mv.ownBlock≠some k
def sQ (wb:Nat) (lvv mv:Value):List Nat:=wb::(lvv.ownBlock.toList++mv.ownBlock.toList)
theorem di {wb k:Nat} {lvv mv:Value}:k∈sQ wb lvv mv↔k=wb\/lvv.ownBlock=some k\/mv.ownBlock=some k:=by simp [sQ]
theorem zo.keep {w w':World} {wb b:Nat} {lv M:List Nat} {lvv mv:Value} (h:zo w wb b lv M lvv mv) (hk:∀ k,k∈sQ wb lvv mv->w'.heap[k]?=w.heap[k]?):zo w' wb b lv M lvv mv :=
 ⟨by rw [hk wb (di.2 (.inl rfl))];exact h.blk,ai h.ls fun k hm=>hk k (di.2 (.inr (.inl hm))),ai h.ms fun k hm=>hk k (di.2 (.inr (.inr hm))),h.d1,h.d2,h.d3⟩
theorem zo.lt {w:World} {wb b:Nat} {lv M:List Nat} {lvv mv:Value} (h:zo w wb b lv M lvv mv):∀ k,k∈sQ wb lvv mv->k<w.heap.size:=by
 intro k hk
 rcases di.1 hk with rfl | hk | hk
 ·exact ah h.blk
 ·exact (h.ls.lt k hk).2
 ·exact (h.ms.lt k hk).2
structure WK (w:World) (wb b:Nat) (K:KV) (T:List DM) (q:aA) (M:List Nat) (lvv mv:Value):Prop where
 ker:bV w b K T q
 wk:zo w wb b K.level M lvv mv
 dj:∀ k,k∈q.all b->k∉sQ wb lvv mv
def kN (wb b:Nat) (q:aA) (lvv mv:Value):List Nat:=q.all b++sQ wb lvv mv
theorem WK.keep {w w':World} {wb b:Nat} {K:KV} {T:List DM} {q:aA} {M:List Nat} {lvv mv:Value} (h:WK w wb b K T q M lvv mv) (hk:∀ k,k∈kN wb b q lvv mv->w'.heap[k]?=w.heap[k]?):WK w' wb b K T q M lvv mv :=
 ⟨⟨h.ker.mem.keep fun k hm=>hk k (List.mem_append.2 (.inl hm)),h.ker.ti,h.ker.ok⟩,h.wk.keep fun k hm=>hk k (List.mem_append.2 (.inr hm)),h.dj⟩
theorem WK.lt {w:World} {wb b:Nat} {K:KV} {T:List DM} {q:aA} {M:List Nat} {lvv mv:Value} (h:WK w wb b K T q M lvv mv):∀ k,k∈kN wb b q lvv mv->k<w.heap.size:=by
 intro k hk
 rcases List.mem_append.1 hk with hk | hk
 ·exact h.ker.mem.lt k hk
 ·exact h.wk.lt k hk
theorem WK.upd {w w':World} {wb b:Nat} {K:KV} {T:List DM} {q:aA} {M:List Nat} {lvv mv:Value} (h:WK w wb b K T q M lvv mv) {S:List Nat} (u:af S w w') (hd:∀ k,k∈kN wb b q lvv mv->k∉S):WK w' wb b K T q M lvv mv :=
 h.keep fun k hk=>u.block k (h.lt k hk) (hd k hk)
theorem WK.kernel {w w':World} {wb b:Nat} {K K':KV} {T T':List DM} {q q':aA} {M:List Nat} {lvv mv:Value} (h:WK w wb b K T q M lvv mv) (hk:bV w' b K' T' q') (hl:K'.level=K.level) (hu:af (q.all b) w w') (hs:Sub (q.all b) w (q'.all b)) :
  WK w' wb b K' T' q' M lvv mv:=by
 refine ⟨hk,?_,?_⟩
 ·rw [hl]
  exact h.wk.keep fun k hm=>hu.block k (h.wk.lt k hm) fun hq=>h.dj k hq hm
 ·intro k hm hf
  rcases hs k hm with hq | hq
  ·exact h.dj k hq hf
  ·have:=h.wk.lt k hf;omega
theorem WK.sub {w:World} {wb b:Nat} {q q':aA} {lvv mv:Value} (hs:Sub (q.all b) w (q'.all b)):Sub (kN wb b q lvv mv) w (kN wb b q' lvv mv):=by
 intro k hk
 rcases List.mem_append.1 hk with hk | hk
 ·rcases hs k hk with h | h
  ·exact .inl (List.mem_append.2 (.inl h))
  ·exact .inr h
 ·exact .inl (List.mem_append.2 (.inr hk))
theorem WK.grow {w w5:World} {wb b g5 cap r:Nat} {X:Obj} {K:KV} {T:List DM} {q:aA} {M:List Nat} {lvv mv:Value} (h:WK w wb b K T q M lvv mv) (hg:(w.alloc X).grownBy w5 mv.ownBlock) (bI:mv.ownBlock=some g5\/g5=w.heap.size+1)
  (aK:w5.ownsRow 0 77 1 (.slice (some ⟨g5,0,none⟩) (M.length+1) cap) (M.length+1) (aI M++[.int .u32 r])) :
  WK (w5.setCell ⟨wb,2,none⟩ (.slice (some ⟨g5,0,none⟩) (M.length+1) cap)) wb b K T q (M++[r]) lvv (.slice (some ⟨g5,0,none⟩) (M.length+1) cap) /\
  af (kN wb b q lvv mv) w (w5.setCell ⟨wb,2,none⟩ (.slice (some ⟨g5,0,none⟩) (M.length+1) cap)) /\
  Sub (kN wb b q lvv mv) w (kN wb b q lvv (.slice (some ⟨g5,0,none⟩) (M.length+1) cap)):=by
 have hwb:=ah h.wk.blk
 have adx:∀ k,k<w.heap.size->mv.ownBlock≠some k->k≠g5:=by
  rintro k hk hn rfl
  rcases bI with e | e
  ·exact hn e
  ·omega
 have old:∀ k,k<w.heap.size->mv.ownBlock≠some k->k≠wb->(w5.setCell ⟨wb,2,none⟩ (.slice (some ⟨g5,0,none⟩) (M.length+1) cap)).heap[k]?=w.heap[k]?:=by
  intro k hk hn hw
  rw [aG hw,hg.block k (by rw [World.size_alloc];omega) (Ne.symm hn),heap_alloc_old _ _ hk]
 have qM:w5.heap[wb]?=w.heap[wb]?:=by
  rw [hg.block wb (by rw [World.size_alloc];omega) (Ne.symm h.wk.d2),heap_alloc_old _ _ hwb]
 rw [h.wk.blk] at qM;have hgw:wb≠g5:=adx wb hwb h.wk.d2;refine ⟨⟨⟨h.ker.mem.keep fun k hk=>?_,h.ker.ti,h.ker.ok⟩,⟨by rw [aB qM];rfl,ai h.wk.ls fun k hk=>?_,?_,h.wk.d1,?_,?_⟩,?_⟩,?_,?_⟩
 ·have hd:=h.dj k hk
  exact old k (h.ker.mem.lt k hk) (fun e=>hd (di.2 (.inr (.inr e)))) (fun e=>hd (di.2 (.inl e)))
 ·exact old k (h.wk.ls.lt k hk).2 (h.wk.d3 k hk) (fun e=>h.wk.d1 (e ▸ hk))
 ·have e:=bf aK (a:=⟨wb,2,none⟩) (by simpa [Value.ownBlock] using hgw) (.slice (some ⟨g5,0,none⟩) (M.length+1) cap)
  simpa [aI] using e
 ·simp [Value.ownBlock];exact Ne.symm hgw
 ·intro k hk
  simp [Value.ownBlock]
  exact Ne.symm (adx k (h.wk.ls.lt k hk).2 (h.wk.d3 k hk))
 ·intro k hk hf
  have hd:=h.dj k hk
  rcases di.1 hf with hf | hf | hf
  ·exact hd (di.2 (.inl hf))
  ·exact hd (di.2 (.inr (.inl hf)))
  ·simp [Value.ownBlock] at hf
   exact adx k (h.ker.mem.lt k hk) (fun e=>hd (di.2 (.inr (.inr e)))) hf.symm
 ·have hwm:wb∈kN wb b q lvv mv:=List.mem_append.2 (.inr (di.2 (.inl rfl)))
  have hu:af (kN wb b q lvv mv) w w5:=((af.refl _ w).alloc X).grown hg fun k hk=>.inl (List.mem_append.2 (.inr (di.2 (.inr (.inr hk)))))
  exact hu.setCell (p:=⟨wb,2,none⟩) (.inl hwm) _
 ·intro k hk
  rcases List.mem_append.1 hk with hk | hk
  ·exact .inl (List.mem_append.2 (.inl hk))
  ·rcases di.1 hk with hk | hk | hk
   ·exact .inl (List.mem_append.2 (.inr (di.2 (.inl hk))))
   ·exact .inl (List.mem_append.2 (.inr (di.2 (.inr (.inl hk)))))
   ·simp [Value.ownBlock] at hk;subst hk
    rcases bI with e | e
    ·exact .inl (List.mem_append.2 (.inr (di.2 (.inr (.inr e)))))
    ·right;omega
inductive oP (K:KV) (v lo hi:Nat) (M:List Nat):Nat->Int->KV->List Nat->Prop
 | same (he:lo=hi):oP K v lo hi M lo 0 K M
 | old {r:Nat} (hne:lo≠hi) (ha:K.At r v lo hi) (hm:K.hold r<65535):oP K v lo hi M r 0 (K.bW r) (M++[r])
 | full {r:Nat} (hne:lo≠hi) (ha:K.At r v lo hi) (hm:K.hold r=65535):oP K v lo hi M r 0 K M
 | nodes (hne:lo≠hi) (bK:∀ r,¬ K.At r v lo hi) (hu:K.A.used=K.A.places):oP K v lo hi M 0 9 K M
 | new {r:Nat} {K':KV} (hne:lo≠hi) (bK:∀ r,¬ K.At r v lo hi) (hm:K.Made v lo hi r K'):oP K v lo hi M r 0 K' (M++[r])
theorem jJ.level {K K':KV} {v:Int} {lo hi r:Nat} {code:Int} (h:jJ K v lo hi r code K'):K'.level=K.level:=by
 cases h with
 | bad=>rfl
 | full=>rfl
 | old=>exact K.jP _
 | nodes=>rfl
 | new _ _ _ hm=>exact hm.ext.lv
theorem KV.PN {K:KV} {v lo hi:Nat} (hv:v<K.vars) (h1:K.A.tk lo=true) (h2:K.A.tk hi=true) (hl:lo≠hi->K.lev v<K.dep lo/\K.lev v<K.dep hi):K.dY v lo hi=0:=by
 unfold KV.dY;rw [if_neg (by simp [KV.isVar,hv]),if_neg (by simp [h1,h2]),if_neg];rintro ⟨hne,h⟩;have:=hl hne
 apply h
 simp only [Int.toNat_natCast]
 omega
theorem LX (wb b v lo hi:Nat) (K:KV) (T:List DM) (q:aA) (M:List Nat) (lvv mv:Value) (w:World) (h:WK w wb b K T q M lvv mv) (hM:M.length<=1099511627776) (hv:v<K.vars) (h1:K.A.tk lo=true) (h2:K.A.tk hi=true)
  (hl:lo≠hi->K.lev v<K.dep lo/\K.lev v<K.dep hi) (uG:lo<=4294967295) (Ff:hi<=4294967295) :
  Calls Tryz.prog 215 #[.pointer (some ⟨wb,0,none⟩),.int .i64 v,.int .u32 lo,.int .u32 hi] w fun e w' =>
   ∃ (r:Nat) (code:Int) (K':KV) (M':List Nat) (T':List DM) (q':aA) (mv':Value),e=.returned (.tuple #[.int .u32 r,.int .i64 code])/\oP K v lo hi M r code K' M'/\WK w' wb b K' T' q' M' lvv mv'/\af (kN wb b q lvv mv) w w'/\Sub (kN wb b q lvv mv) w (kN wb b q' lvv mv'):=by
 have HW:=Lib.hid h
 by_cases uV:lo=hi
 ·subst uV
  clear h
  go_enter Tryz.func215,Tryz.ntmps215
  go_wp2_with fail;go_ret2;exact ⟨lo,0,K,M,T,q,mv,rfl,.same rfl,HW.out,af.refl _ _,Sub.refl _ _⟩
 ·have HF:Hid (K.dY v lo hi=0):=KV.PN hv h1 h2 hl
  have EU:=Lib.hid uV;have c0:w.cell? ⟨wb,0,none⟩=some (.pointer (some ⟨b,0,none⟩)):=ae h.wk.blk rfl
  have hd:¬ ((lo:Int)=(hi:Int)):=by omega
  have U0:((lo:Int) == (hi:Int))=false:=by simp;omega
  clear h
  go_enter Tryz.func215,Tryz.ntmps215
  go_wp2_with fail;refine (yH b v lo hi K T q w HW.out.ker uG Ff).mono ?_;rintro e w1 ⟨r,code,K',T',q',rfl,hm,hk,hu,hs⟩;have nU:=Lib.hid (And.intro (HW.out.kernel hk hm.level hu hs) (And.intro (hu.mono (fun x hx=>List.mem_append.2 (.inl hx)):af (kN wb b q lvv mv) w w1) (WK.sub (wb:=wb) (lvv:=lvv) (mv:=mv) hs)))
  have Dw:(code=0/\oP K v lo hi M r 0 K' (M++[r]))\/(code=8/\K'=K/\∃ s,K.At s v lo hi/\K.hold s=65535)\/(code=9/\oP K v lo hi M 0 9 K' M):=by
   cases hm with
   | bad h0=>exact absurd HF.out h0
   | full h0 hs hm =>
    rcases hs with hs | hs
    ·exact absurd hs.1 uV
    ·exact .inr (.inl ⟨rfl,rfl,_,by simpa using hs.2,hm⟩)
   | old h0 hs hm =>
    rcases hs with hs | hs
    ·exact absurd hs.1 uV
    ·exact .inl ⟨rfl,.old uV (by simpa using hs.2) hm⟩
   | nodes h0 hne bK hu=>exact .inr (.inr ⟨rfl,.nodes hne (by simpa using bK) hu⟩)
   | new h0 hne bK hm=>exact .inl ⟨rfl,.new hne (by simpa using bK) (by simpa using hm)⟩
  clear hm hk hu hs
  rcases Dw with ⟨rfl,hn⟩ | ⟨rfl,rfl,s,hs,CW⟩ | ⟨rfl,hn⟩
  ·have HN:=Lib.hid hn
   clear hn;have aC:=nU.out.1.wk.ms;obtain ⟨fa,fc,FZ,_⟩:=aj aC
   have c2:w1.cell? ⟨wb,2,none⟩=some (.slice fa M.length fc):=by rw [<- FZ];exact ae nU.out.1.wk.blk rfl
   have HMV:=Lib.hid FZ;rw [FZ] at aC;have bF:=Lib.hid aC;have hwb:=ah nU.out.1.wk.blk;obtain ⟨i,sG,tV,jY,fE⟩:=info_parts Tryz.KZ;have HI:=Lib.hid sG;have HZ:=Lib.hid tV;have Cm:=Lib.hid jY;have F6:=Lib.hid fE
   have mg:Hid (∀ u,u∈[Value.int .u32 r]->u.oneCell'=true):=by intro u hu;simp at hu;subst hu;rfl
   clear sG tV jY fE aC FZ
   go_wp2_with (at_builtin;go_must (refine wpList_append_lies _ rfl (.tmp 36) (.tmp 38) 42 rfl 0 77 i _ 1 4 Tryz.underlying42 HI.out HZ.out Cm.out F6.out (by rfl) (by decide) _ M.length (aI M) rfl (bF.out.alloc _) ⟨w1.heap.size,0,none⟩ 1 1 [.int .u32 r] rfl rfl ?c1 mg.out (by omega) (by unfold maxLen;omega) (by omega) (by omega) _ rfl ?_))
   case c1=>exact World.news_of_block (heap_alloc_new w1 (.cells #[.int .u32 r] 77 (0,0)))
   intro g5 cap w5 aK dh bI pF
   have xE:mv.ownBlock=some g5\/g5=w1.heap.size+1:=by rw [HMV.out];exact bI
   have HG:=Lib.hid (nU.out.1.grow (g5:=g5) (cap:=cap) (r:=r) (by rw [HMV.out];exact dh) xE aK)
   have xY:w5.heap[wb]?=w1.heap[wb]?:=by
    rw [dh.block wb (by rw [World.size_alloc];omega) (by rw [<- HMV.out];exact Ne.symm nU.out.1.wk.d2),heap_alloc_old _ _ hwb]
   rw [nU.out.1.wk.blk] at xY;have fz2:w5.frozen? ⟨wb,2,none⟩=false:=ax 2 xY;have c52:w5.cell? ⟨wb,2,none⟩=some mv:=ae xY rfl;clear aK dh bI xE xY;go_wp2_with fail;go_ret2;have dG:=nU.out.2.1.size;refine ⟨r,0,_,_,_,_,_,rfl,HN.out,HG.out.1,nU.out.2.1.then HG.out.2.1 nU.out.2.2,?_⟩
   intro k hk
   rcases HG.out.2.2 k hk with h | h
   ·exact nU.out.2.2 k h
   ·right;omega
  ·have HS:=Lib.hid (And.intro hs CW)
   have c01:w1.cell? ⟨wb,0,none⟩=some (.pointer (some ⟨b,0,none⟩)):=ae nU.out.1.wk.blk rfl;clear hs CW;go_wp2_with fail;refine (Ov b v lo hi _ _ _ w1 nU.out.1.ker uG Ff).mono ?_;rintro e w2 ⟨jE,hr⟩;have eF:=Lib.hid jE;clear jE
   rcases hr with ⟨s',_,uO,rfl⟩ | ⟨bK,_⟩
   ·have hss:s'=s:=by
     rcases uO with uO | uO
     ·exact absurd uO.1 EU.out
     ·have a1:=uO.2
      rw [Int.toNat_natCast] at a1;obtain ⟨a2,p,hp,aH,e1,e2,e3⟩:=a1;obtain ⟨b2,c,hc,lI,d1,d2,d3⟩:=HS.out.1;exact (nU.out.1.ker.ti.uni nU.out.1.ker.ok.wf) s' s p c a2 b2 hp hc aH lI (by rw [e1,d1]) (by rw [e2,d2]) (by rw [e3,d3])
    subst hss;clear uO;go_wp2_with fail;go_ret2;exact ⟨s',0,_,M,_,_,mv,rfl,.full EU.out HS.out.1 HS.out.2,nU.out.1.upd eF.out (by simp),nU.out.2.1.trans (eF.out.mono (by simp)),nU.out.2.2⟩
   ·exfalso
    exact (bK HF.out).2 s (by simpa using HS.out.1)
  ·have HN:=Lib.hid hn
   clear hn;go_wp2_with fail;go_ret2;exact ⟨0,9,_,M,_,_,mv,rfl,HN.out,nU.out.1,nU.out.2.1,nU.out.2.2⟩
def KV.gJ (K:KV) (i:Nat):List Nat:=(List.range i).filter fun r=>decide (0<K.hold r)
def KV.roots (K:KV):List Nat:=K.gJ K.holds.length
theorem KV.Ae (K:KV) (i:Nat):K.gJ (i+1)=if 0<K.hold i then K.gJ i++[i] else K.gJ i:=by
 unfold KV.gJ;rw [List.range_succ,List.filter_append]
 by_cases h:0<K.hold i
 ·simp [h]
 ·simp [h]
theorem KV.Ox (K:KV) (i:Nat):(K.gJ i).length<=i:=by
 have:=List.length_filter_le (fun r=>decide (0<K.hold r)) (List.range i)
 simpa [KV.gJ] using this
theorem KV.jm {K:KV} {r:Nat}:r∈K.roots↔0<K.hold r:=by
 simp only [KV.roots,KV.gJ,List.mem_filter,List.mem_range,decide_eq_true_eq]
 refine ⟨fun h=>h.2,fun h=>⟨?_,h⟩⟩
 by_cases hl:r<K.holds.length
 ·exact hl
 ·have:K.hold r=0:=by
   unfold KV.hold
   rw [List.getD_eq_getElem?_getD,List.getElem?_eq_none (by omega)];rfl
  omega
theorem KV.uy (K:KV):K.roots.Nodup:=List.Pairwise.filter _ List.nodup_range
theorem CY (b:Nat) (K:KV) (T:List DM) (q:aA) (w:World) (h:bV w b K T q) :
  Calls Tryz.prog 35 #[.pointer (some ⟨b,0,none⟩)] w fun e w'=>∃ v:Value,e=.returned v/\w'.ownsRow w.heap.size 77 1 v K.roots.length (aI K.roots)/\af [] w w':=by
 have dG:K.holds.length<=1048576:=by
  have h1:=h.ok.wf.len;have h2:=h.ok.wf.ul;have h3:=h.ok.wf.ok.lp;have h4:=h.ok.wf.ok.pm;omega
 obtain ⟨fa,fc,hhv,_⟩:=aj h.mem.hs
 have c3:w.cell? ⟨b,3,none⟩=some (.slice fa K.holds.length fc):=by rw [<- hhv];exact ae h.mem.blk rfl
 have aC:=h.mem.hs;rw [hhv] at aC;have bF:=Lib.hid aC;obtain ⟨ti,sG,tV,jY,fE⟩:=info_parts Tryz.KZ;have HI:=Lib.hid sG;have HZ:=Lib.hid tV;have Cm:=Lib.hid jY;have F6:=Lib.hid fE;have HHM:=Lib.hid h.ok.wf.hm;clear h hhv aC sG tV jY fE
 go_enter Tryz.func35,Tryz.ntmps35
 go_wp2_with fail
 go_loopg [3,14] K.holds.length (fun g s3 s14 wr=>∃ i:Nat,K.holds.length-i=g/\i<=K.holds.length/\s14=.int .i64 i/\wr.ownsRow w.heap.size 77 1 s3 (K.gJ i).length (aI (K.gJ i))/\af [] w wr)
 case atStart=>exact ⟨0,by omega,by omega,rfl,World.ownsRow_nil _ _ _ _,af.refl _ _⟩
 case round =>
  obtain ⟨i,rfl,hi,rfl,ho,hU⟩:=hrel
  by_cases aW:i<K.holds.length
  ·obtain ⟨g,rfl⟩:=bC bF.out (by omega)
   have hr:=ai bF.out fun k hk=>hU.block k (bF.out.lt k hk).2 (by simp)
   have ch:wr.cell? ⟨g,i,none⟩=some (.int .i32 (K.hold i)):=au hr (by simp [iL,KV.hold,aW])
   have fF:(i:Int)<(K.holds.length:Int):=by omega
   have HU:=Lib.hid hU
   have auC:i<=4294967295:=by omega
   by_cases h0:0<K.hold i
   ·have HS:Hid (K.gJ (i+1)=K.gJ i++[i]):=by
     show K.gJ (i+1)=_
     rw [K.Ae,if_pos h0]
    have hln:=K.Ox i;obtain ⟨va,vc,hv,_⟩:=aj ho;subst hv;have HO:=Lib.hid ho
    have hd:(0:Int)<(K.hold i:Int):=by omega
    have mg:Hid (∀ u,u∈[Value.int .u32 i]->u.oneCell'=true):=by intro u hu;simp at hu;subst hu;rfl
    have BB:=hU.size
    have agk:(i:Int) % 4294967296=i:=by omega
    have pW:w.heap.size<=(wr.alloc (.cells #[.int .u32 i] 77 (0,0))).heap.size:=by rw [World.size_alloc];omega
    clear ho hU hr
    go_wp2_with (at_builtin;go_must (refine wpList_append_lies _ rfl (.tmp 21) (.tmp 24) 42 rfl w.heap.size 77 ti _ 1 4 Tryz.underlying42 HI.out HZ.out Cm.out F6.out (by rfl) (by decide) _ (K.gJ i).length (aI (K.gJ i)) rfl (HO.out.alloc _) ⟨wr.heap.size,0,none⟩ 1 1 [.int .u32 i] rfl rfl ?c1 mg.out (by omega) (by unfold maxLen;omega) (by omega) pW _ rfl ?_))
    case c1=>exact World.news_of_block (heap_alloc_new wr (.cells #[.int .u32 i] 77 (0,0)))
    intro g5 cap w5 aK dh bI kF
    have HE:Hid (w5.ownsRow w.heap.size 77 1 (.slice (some ⟨g5,0,none⟩) ((K.gJ i).length+1) cap) (K.gJ (i+1)).length (aI (K.gJ (i+1)))/\af [] w w5):=by
     rw [HS.out];refine ⟨by simpa [aI] using aK,(HU.out.alloc _).grown dh fun k hk=>.inr ?_⟩;exact (HO.out.lt k hk).1
    clear aK dh bI kF;go_wp2_with fail
    go_roundg (K.holds.length-(i+1))
    case measure=>omega
    case rel=>exact ⟨i+1,rfl,by omega,by simp,HE.out.1,HE.out.2⟩
   ·have HS:Hid (K.gJ (i+1)=K.gJ i):=by
     show K.gJ (i+1)=_
     rw [K.Ae,if_neg h0]
    have hd:¬ ((0:Int)<(K.hold i:Int)):=by omega
    have wP:decide ((0:Int)<(K.hold i:Int))=false:=by simp;omega
    have HO:=Lib.hid ho;clear ho hU hr;go_wp2_with fail
    go_roundg (K.holds.length-(i+1))
    case measure=>omega
    case rel=>exact ⟨i+1,rfl,by omega,by simp,by rw [HS.out];exact HO.out,HU.out⟩
  ·obtain rfl:i=K.holds.length:=by omega
   have fF:¬ ((K.holds.length:Int)<(K.holds.length:Int)):=by omega
   have HE:=Lib.hid (And.intro ho hU);clear ho hU;go_wp2_with fail;go_ret;exact ⟨_,rfl,HE.out⟩
end Go.Proofs.YtfkopmhpppeheaaGreat
