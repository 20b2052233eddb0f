import Derived.Test.YtdackeldhdchaaaGreatPQ26
import Derived.Deep.RegionHeld3
import Derived.Deep.DeepCutAuto
import Derived.Defers
import Derived.Deep.QuietTactic
set_option maxRecDepth 100000
set_option maxHeartbeats 1600000
namespace Go.Proofs.YtdackeldhdchaaaGreat
open Go.RowKit Go.Maps Go.ChangeMaps Go.WideShapes
theorem azt (sv:Value) (l:List Nat) (w:World) (h:w.ownsRow 0 3 1 sv l.length (acf l)) (h1:1<=l.length) (hn:l.length<=1048576) :
  Calls Tryz.prog 78 #[sv] w fun e w'=>∃ (g cap:Nat),e=.returned (.slice (some ⟨g,0,none⟩) l.length cap)/\w'.ownsRow w.heap.size 3 1 (.slice (some ⟨g,0,none⟩) l.length cap) l.length (acf l)/\Upd [] w w':=by
 obtain ⟨fa,fc,rfl,_⟩:=abI h;obtain ⟨g0,rfl⟩:=aeP h (by omega);obtain ⟨i,hi0,hz0,amR,hz2⟩:=info_parts Tryz.infoIntI;have HI:=Lib.hid hi0;have HZ:=Lib.hid hz0;have HZ1:=Lib.hid amR;have HZ2:=Lib.hid hz2;have HR:=Lib.hid h;have HCS:Hid (∀ j u,(acf l)[j]?=some u->w.cell? ((⟨g0,0,none⟩ : Addr).add j)=some u):=h.cells rfl
 have HC2:Hid (∀ u,u∈acf l->u.oneCell'=true):=by
  intro u hu
  obtain ⟨a,_,rfl⟩:=List.mem_map.1 hu;rfl
 have hlen:(acf l).length=l.length*1:=by simp [acf]
 generalize hll:l.length=n at *;clear h hi0 hz0 amR hz2
 go_enter Tryz.func78,Tryz.ntmps78
 have a4m:∀ (w:World),(binOp BinOp.eql 23 (Value.slice (some ⟨g0,0,none⟩) n fc) (Value.slice none 0 0)).run Tryz.prog w=.ok (.bool false) w:=fun w=>by kernel_rfl
 have HL:Hid ((w.alloc (.cells #[] 3 (0,0))).ownsRow w.heap.size 3 1 (.slice (some ⟨w.heap.size,0,none⟩) 0 0) 0 []):=World.ownsRow_lit w #[] 0 (Nat.le_refl _) (by unfold maxLen;omega) (by simp)
 have HB:Hid (∀ j u,(acf l)[j]?=some u->(w.alloc (.cells #[] 3 (0,0))).cell? ((⟨g0,0,none⟩ : Addr).add j)=some u):=by
  intro j u hu
  have:=HCS.out j u hu;rw [<- this];exact World.cell?_of_block (heap_alloc_old w _ (World.block_lt_of_cell? _ _ this))
 have hbs:w.heap.size<=(w.alloc (.cells #[] 3 (0,0))).heap.size:=by rw [World.size_alloc];omega
 go_wp2_with (at_builtin;go_must (refine wpList_append_lies _ rfl (.tmp 5) (.tmp 6) 23 rfl w.heap.size 3 i _ 1 8 Tryz.underlying23 HI.out HZ.out HZ1.out HZ2.out (by rfl) (by decide) _ 0 [] rfl HL.out ⟨g0,0,none⟩ n fc (acf l) rfl hlen ?c1 HC2.out (by omega) (by unfold maxLen;omega) (by omega) hbs _ rfl ?_))
 case c1=>exact HB.out
 intro g cap w' ab3 hgr hat hlt
 have HE:Hid (w'.ownsRow w.heap.size 3 1 (.slice (some ⟨g,0,none⟩) n cap) n (acf l)/\Upd [] w w'):=by
  refine ⟨by simpa using ab3,((Upd.refl [] w).alloc _).grown hgr fun k hk=>?_⟩
  simp [Value.ownBlock] at hk
  right;omega
 clear ab3 hgr hat hlt;go_wp2_with fail;go_ret;exact ⟨g,cap,rfl,HE.out⟩
theorem atF (b:Nat) (K:KV) (T:List DM) (q:abM) (w:World) (h:abv w b K T q) (h1:1<=K.order.length) (hn:K.order.length<=1048576) :
  Calls Tryz.prog 48 #[.pointer (some ⟨b,0,none⟩)] w fun e w'=>∃ (g cap:Nat),e=.returned (.slice (some ⟨g,0,none⟩) K.order.length cap)/\w'.ownsRow w.heap.size 3 1 (.slice (some ⟨g,0,none⟩) K.order.length cap) K.order.length (acf K.order)/\Upd [] w w':=by
 have c5:w.cell? ⟨b,5,none⟩=some q.ov:=aac h.blk rfl;have HO:=Lib.hid h.os;clear h
 go_enter Tryz.func48,Tryz.ntmps48
 go_wp2_with fail;refine (azt q.ov K.order w HO.out h1 hn).mono ?_;rintro e w1 ⟨g,cap,rfl,ho,hu⟩;have HE:=Lib.hid (And.intro ho hu);clear ho hu;go_wp2_with fail;go_ret;exact ⟨g,cap,rfl,HE.out⟩
def KV.new (n m:Nat):KV:=⟨aaU.new m,[],[],n,List.range n,List.range n,[]⟩
theorem KV.new_ok {n m:Nat} (h1:1<=n) (hn:n<=64) (h2:2<=m) (hm:m<=1048576):(KV.new n m).Ok:=by
 have hA:=aaU.new_ok h2 hm
 have no:∀ (r:Nat) (p:abu),2<=r->(KV.new n m).A.list[r]?=some p->False:=by
  intro r p hr hp
  have:=(List.getElem?_eq_some_iff.1 hp).1
  simp [KV.new,aaU.new] at this
  omega
 have aQz:∀ r,2<=r->(KV.new n m).A.tk r=true->False:=fun r hr ht=>by
  obtain ⟨p,hp,_⟩:=aaU.tk_iff.1 ht;exact no r p hr hp
 have aOO:∀ r,(KV.new n m).hold r=0:=fun r=>by simp [KV.hold,KV.new]
 have aTW:∀ v,v<n->(KV.new n m).lev v=v:=fun v hv=>by simp [KV.lev,KV.new,hv]
 have ayM:∀ v,v<n->(KV.new n m).order.getD v 0=v:=fun v hv=>by simp [KV.new,hv]
 refine ⟨⟨hA,rfl,by simp [KV.new],fun r h ht=>(aQz r h ht).elim,fun r h=>by rw [aOO] at h;omega,fun r=>by rw [aOO];omega,fun r h ht=>(aQz r h ht).elim,by simp,fun q p h hp _=>(no q p h hp).elim,fun q p h hp _=>(no q p h hp).elim,h1,hn⟩,
  fun r h ht=>(aQz r h ht).elim,⟨⟨by simp [KV.new],by simp [KV.new],?_,?_⟩,fun q p h hp _=>(no q p h hp).elim,fun q p h hp _=>(no q p h hp).elim⟩,by simp [KV.new]⟩
 ·intro v hv
  rw [aTW v hv];exact ⟨hv,ayM v hv⟩
 ·intro v hv
  rw [ayM v hv];exact ⟨hv,aTW v hv⟩
theorem afg.new (n m:Nat):afg (List.replicate n (.map [])) (KV.new n m) []:=by
 refine ⟨by simp [KV.new],?_,?_,?_⟩
 ·intro v D k hD hk
  have:D=.map []:=(List.mem_replicate.1 (List.mem_of_getElem? hD)).2;subst this
  simp [Maps.has] at hk
 ·intro r p D hr hp
  have:=(List.getElem?_eq_some_iff.1 hp).1
  simp [KV.new,aaU.new] at this
  omega
 ·intro D hD
  rw [(List.mem_replicate.1 hD).2];exact isMap_empty
theorem aAR (m t:Nat) (w:World) (h2:2<=m) (hm:m<=1048576) :
  Calls Tryz.prog 77 #[.int .i64 m,.pointer (some ⟨t,0,none⟩)] w fun e w'=>∃ a F,e=.returned (.tuple #[.agg #[.pointer (some ⟨a,0,none⟩),.pointer (some ⟨t,0,none⟩),.slice none 0 0,.slice none 0 0],.int .i64 0]) /\
   acR w' a (aaU.new m) F/\Upd [] w w'/\Sub [] w F:=by
 go_enter Tryz.func77,Tryz.ntmps77
 go_wp2_with fail;refine (aKN m _ h2 hm).mono ?_;rintro e w1 ⟨a,F,rfl,ha,hu,hs⟩;have hbx:w1.heap[w.heap.size]?=some (.cells #[.pointer none,.pointer none,.slice none 0 0,.slice none 0 0] 160 (0,0)):=(hu.block w.heap.size (by simp) (by simp)).trans (heap_alloc_new w _);have b0:w1.cell? ⟨w.heap.size,0,none⟩=some (.pointer none):=aac hbx rfl;have b1:w1.cell? ⟨w.heap.size,1,none⟩=some (.pointer none):=aac hbx rfl;have b2:w1.cell? ⟨w.heap.size,2,none⟩=some (.slice none 0 0):=aac hbx rfl;have b3:w1.cell? ⟨w.heap.size,3,none⟩=some (.slice none 0 0):=aac hbx rfl;have f0:=abq 0 hbx;have f1:=abq 1 hbx;have f2:=abq 2 hbx;have f3:=abq 3 hbx;have HX:=Lib.hid hbx;have HU:Hid (Upd [] w w1):=((Upd.refl [] w).alloc _).trans (hu.mono (by simp))
 have HA:Hid (∀ w2,Upd [w.heap.size] w1 w2->acR w2 a (aaU.new m) F):=fun w2 u=>ha.upd u (fun k hk hm=>by
  simp at hm
  have:=hs k hk
  simp at this
  omega)
 have HS:Hid (Sub [] w F):=fun k hk=>by
  have:=hs k hk
  simp at this
  right;omega
 clear hu hbx ha hs;go_wp2_with fail;have e:=abV (j:=3) (abV (j:=2) (abV (j:=1) (abV (j:=0) HX.out (.pointer (some ⟨a,0,none⟩))) (.pointer (some ⟨t,0,none⟩))) (.slice none 0 0)) (.slice none 0 0);have r0:=aac (j:=0) e rfl;have r1:=aac (j:=1) e rfl;have r2:=aac (j:=2) e rfl;have r3:=aac (j:=3) e rfl;refine bodyPost_ret (v:=.tuple #[.agg #[.pointer (some ⟨a,0,none⟩),.pointer (some ⟨t,0,none⟩),.slice none 0 0,.slice none 0 0],.int .i64 0]) (by simp [results,Tryz.results77,go_sem,r0,r1,r2,r3]) rfl ⟨a,F,rfl,HA.out _ ?_,?_,HS.out⟩
 ·exact ((((Upd.refl _ w1).setCell (.inl (by simp)) _).setCell (.inl (by simp)) _).setCell (.inl (by simp)) _).setCell (.inl (by simp)) _
 ·exact (((HU.out.setCell (.inr (Nat.le_refl _)) _).setCell (.inr (Nat.le_refl _)) _).setCell (.inr (Nat.le_refl _)) _).setCell (.inr (Nat.le_refl _)) _
theorem aLm {n m g tb a g2 aiP:Nat} {w w1 w2 w3 w5:World} {FT FA:List Nat} (h1:1<=n) (hn:n<=64) (h2:2<=m) (hm:m<=1048576)
  (ho:w1.ownsRow w.heap.size 3 1 (.slice (some ⟨g,0,none⟩) n n) n (acf (List.range n))) (u1:Upd [] w w1) (hgl:w.heap.size<=g/\g<w1.heap.size)
  (ht:afl w2 tb (List.replicate n (.map [])) FT) (u2:Upd [] w1 w2) (s2:Sub [] w1 FT) (ha:acR w3 a (aaU.new m) FA) (u3:Upd [] w2 w3) (s3:Sub [] w2 FA)
  (u5:Upd [] w3 w5) (ho2:w5.ownsRow (w3.heap.size+1) 3 1 (.slice (some ⟨g2,0,none⟩) n aiP) n (acf (List.range n))) :
  afF (w5.alloc (.cells #[.pointer (some ⟨a,0,none⟩),.pointer (some ⟨tb,0,none⟩),.slice none 0 0,.slice none 0 0,.int .i64 n,.slice (some ⟨g,0,none⟩) n n,.slice (some ⟨g2,0,none⟩) n aiP,.slice none 0 0] 165)) w5.heap.size (KV.new n m) (List.replicate n (.map []))
   ⟨a,tb,.slice none 0 0,.slice none 0 0,.slice (some ⟨g,0,none⟩) n n,.slice (some ⟨g2,0,none⟩) n aiP,.slice none 0 0,FA,FT,fun k=>if k<w1.heap.size then 5 else if k<w2.heap.size then 2 else if k<w3.heap.size then 1 else if k<w5.heap.size then 6 else 0⟩ /\
  Upd [] w (w5.alloc (.cells #[.pointer (some ⟨a,0,none⟩),.pointer (some ⟨tb,0,none⟩),.slice none 0 0,.slice none 0 0,.int .i64 n,.slice (some ⟨g,0,none⟩) n n,.slice (some ⟨g2,0,none⟩) n aiP,.slice none 0 0] 165)) /\
  Sub [] w ((⟨a,tb,.slice none 0 0,.slice none 0 0,.slice (some ⟨g,0,none⟩) n n,.slice (some ⟨g2,0,none⟩) n aiP,.slice none 0 0,FA,FT,fun k=>if k<w1.heap.size then 5 else if k<w2.heap.size then 2 else if k<w3.heap.size then 1 else if k<w5.heap.size then 6 else 0⟩ : abM).all w5.heap.size):=by
 have z1:=u1.size;have z2:=u2.size;have z3:=u3.size;have z5:=u5.size;have hg2:=ho2.lt g2 rfl;have lT:=ht.lt;have lA:=ha.lt
 have sT:∀ k,k∈FT->w1.heap.size<=k:=fun k hk=>(s2 k hk).elim (fun h=>by simp at h) id
 have sA:∀ k,k∈FA->w2.heap.size<=k:=fun k hk=>(s3 k hk).elim (fun h=>by simp at h) id
 have U:=(u5.alloc (.cells #[.pointer (some ⟨a,0,none⟩),.pointer (some ⟨tb,0,none⟩),.slice none 0 0,.slice none 0 0,.int .i64 n,.slice (some ⟨g,0,none⟩) n n,.slice (some ⟨g2,0,none⟩) n aiP,.slice none 0 0] 165));refine ⟨⟨⟨heap_alloc_new w5 _,ha.upd U (by simp),ht.upd (u3.trans U) (by simp),World.ownsRow_nil _ _ _ _,World.ownsRow_nil _ _ _ _,?_,?_,World.ownsRow_nil _ _ _ _,?_,?_,?_,?_,?_,?_,?_,?_⟩,afg.new n m,KV.new_ok h1 hn h2 hm⟩,?_,?_⟩
 ·have e:(KV.new n m).order.length=n:=by simp [KV.new]
  rw [e]
  refine aaX (aet ho (Nat.zero_le _)) fun k hk=>?_
  simp [Value.ownBlock] at hk;subst hk
  rw [U.block _ (by omega) (by simp),u3.block _ (by omega) (by simp),u2.block _ hgl.2 (by simp)]
 ·have e:(KV.new n m).level.length=n:=by simp [KV.new]
  rw [e];exact (aet ho2 (Nat.zero_le _)).alloc _
 ·show (if _ then _ else _)=0
  rw [if_neg (by omega),if_neg (by omega),if_neg (by omega),if_neg (by omega)]
 ·intro k hk
  have:=sA k hk;have:=lA k hk
  show (if _ then _ else _)=1
  rw [if_neg (by omega),if_neg (by omega),if_pos (by omega)]
 ·intro k hk
  have:=sT k hk;have:=lT k hk
  show (if _ then _ else _)=2
  rw [if_neg (by omega),if_pos (by omega)]
 ·intro k hk;simp [Value.ownBlock] at hk
 ·intro k hk;simp [Value.ownBlock] at hk
 ·intro k hk
  simp [Value.ownBlock] at hk;subst hk
  show (if _ then _ else _)=5
  rw [if_pos hgl.2]
 ·intro k hk
  simp [Value.ownBlock] at hk;subst hk
  show (if _ then _ else _)=6
  rw [if_neg (by omega),if_neg (by omega),if_neg (by omega),if_pos hg2.2]
 ·intro k hk;simp [Value.ownBlock] at hk
 ·exact u1.trans (u2.trans (u3.trans U))
 ·intro k hk
  right
  simp only [abM.mem,Value.ownBlock] at hk
  simp at hk
  rcases hk with rfl | hk | hk | hk | hk
  ·omega
  ·have:=sA k hk;omega
  ·have:=sT k hk;omega
  ·omega
  ·omega
theorem aH0 (n m:Nat) (w:World) (h1:1<=n) (hn:n<=64) (h2:2<=m) (hm:m<=1048576) :
  Calls Tryz.prog 26 #[.int .i64 n,.int .i64 m] w fun e w'=>∃ (b:Nat) (T:List DM) (q:abM),e=.returned (.tuple #[.pointer (some ⟨b,0,none⟩),.int .i64 0])/\afF w' b (KV.new n m) T q/\Upd [] w w'/\Sub [] w (q.all b):=by
 have hd1:decide ((n:Int)<1)=false:=by simp;omega
 have hd2:decide ((m:Int)<2)=false:=by simp;omega
 have hd3:decide ((1048576:Int)<(m:Int))=false:=by simp;omega
 have hd4:decide (1048576<m)=false:=by simp;omega
 have hd5:decide (m<2)=false:=by simp;omega
 have hd6:decide (n<1)=false:=by simp;omega
 go_enter Tryz.func26,Tryz.ntmps26
 go_wp2_with fail;refine (aJX n w hn).mono ?_;rintro e w1 ⟨g,rfl,ho,hu⟩;have hgl:=ho.lt g rfl;have HO:=Lib.hid (And.intro ho hu);clear ho hu;go_wp2_with fail;refine (aHx n _ h1 hn).mono ?_;rintro e w2 ⟨tb,FT,rfl,ht,hu2,hs2⟩;have HT:=Lib.hid (And.intro ht (And.intro hu2 hs2));clear ht hu2 hs2;go_wp2_with fail;refine (aAR m tb _ h2 hm).mono ?_;rintro e w3 ⟨a,FA,rfl,ha,hu3,hs3⟩;have HA:=Lib.hid (And.intro ha (And.intro hu3 hs3));clear ha hu3 hs3;have HN:=heap_alloc_new w3 (.cells #[.pointer (some ⟨a,0,none⟩),.pointer (some ⟨tb,0,none⟩),.slice none 0 0,.slice none 0 0] 160)
 have HCL:Hid (Calls Tryz.prog 78 #[.slice (some ⟨g,0,none⟩) n n] (w3.alloc (.cells #[.pointer (some ⟨a,0,none⟩),.pointer (some ⟨tb,0,none⟩),.slice none 0 0,.slice none 0 0] 160)).drew fun e w' =>
   ∃ (g2 cap:Nat),e=.returned (.slice (some ⟨g2,0,none⟩) n cap)/\w'.ownsRow (w3.heap.size+1) 3 1 (.slice (some ⟨g2,0,none⟩) n cap) n (acf (List.range n))/\Upd [] (w3.alloc (.cells #[.pointer (some ⟨a,0,none⟩),.pointer (some ⟨tb,0,none⟩),.slice none 0 0,.slice none 0 0] 160)).drew w'):=by
  have hs2:=HT.out.2.1;have hs3:=HA.out.2.1
  have abP:(w3.alloc (.cells #[.pointer (some ⟨a,0,none⟩),.pointer (some ⟨tb,0,none⟩),.slice none 0 0,.slice none 0 0] 160)).drew.ownsRow 0 3 1 (.slice (some ⟨g,0,none⟩) n n) (List.range n).length (acf (List.range n)):=by
   rw [List.length_range];refine akR ((aaX (aet HO.out.1 (Nat.zero_le _)) fun k hk=>?_).alloc _)
   simp [Value.ownBlock] at hk;subst hk
   rw [hs3.block _ (by have:=hs2.size;omega) (by simp),hs2.block _ hgl.2 (by simp)]
  refine (azt _ (List.range n) _ abP (by simpa using h1) (by simp;omega)).mono ?_;rintro e w' ⟨g2,cap,rfl,ho,hu⟩;refine ⟨g2,cap,by rw [List.length_range],?_,hu⟩;rw [List.length_range] at ho;refine aet ho ?_
  show _<=(w3.alloc _).heap.size
  rw [World.size_alloc];omega
 obtain ⟨x0,x1,x2,x3⟩ : (w3.alloc (.cells #[.pointer (some ⟨a,0,none⟩),.pointer (some ⟨tb,0,none⟩),.slice none 0 0,.slice none 0 0] 160)).drew.cell? ⟨w3.heap.size,0,none⟩=some (.pointer (some ⟨a,0,none⟩)) /\
   (w3.alloc (.cells #[.pointer (some ⟨a,0,none⟩),.pointer (some ⟨tb,0,none⟩),.slice none 0 0,.slice none 0 0] 160)).drew.cell? ⟨w3.heap.size,1,none⟩=some (.pointer (some ⟨tb,0,none⟩)) /\
   (w3.alloc (.cells #[.pointer (some ⟨a,0,none⟩),.pointer (some ⟨tb,0,none⟩),.slice none 0 0,.slice none 0 0] 160)).drew.cell? ⟨w3.heap.size,2,none⟩=some (.slice none 0 0) /\
   (w3.alloc (.cells #[.pointer (some ⟨a,0,none⟩),.pointer (some ⟨tb,0,none⟩),.slice none 0 0,.slice none 0 0] 160)).drew.cell? ⟨w3.heap.size,3,none⟩=some (.slice none 0 0):=⟨aac HN rfl,aac HN rfl,aac HN rfl,aac HN rfl⟩
 have HN:=Lib.hid HN;go_wp2_with fail
 go_region_held3 (fun w'=>w'.cell? ⟨w3.heap.size,0,none⟩=some (.pointer (some ⟨a,0,none⟩))/\w'.cell? ⟨w3.heap.size,1,none⟩=some (.pointer (some ⟨tb,0,none⟩))/\w'.cell? ⟨w3.heap.size,2,none⟩=some (.slice none 0 0)/\w'.cell? ⟨w3.heap.size,3,none⟩=some (.slice none 0 0)) (first | exact ⟨x0,x1,x2,x3⟩ | exact aBU HC.out.2 x0 x1 x2 x3 (by simp) (by simp) (by simp) (by simp) | exact aBU (HC.out.2.alloc _) x0 x1 x2 x3 (by simp) (by simp) (by simp) (by simp)) (first | (go_at_call 78;refine HCL.out.mono ?_;rintro e w5 ⟨g2,aiP,rfl,ho2,hu5⟩;have HC:=Lib.hid (And.intro ho2 hu5);clear ho2 hu5))
 have HE:=Lib.hid (aLm h1 hn h2 hm HO.out.1 HO.out.2 hgl HT.out.1 HT.out.2.1 HT.out.2.2 HA.out.1 HA.out.2.1 HA.out.2.2 ((((Upd.refl [] w3).alloc _).drew).trans HC.out.2) HC.out.1);clear HC HCL HN HA HT HO;go_wp2_with fail;go_ret2;exact ⟨_,_,_,rfl,HE.out⟩
theorem Tryz.infoRefA:(Tryz.prog.info? 77).map (fun i=>(i.zero,i.size,i.bytes))=some (some (.int .u32 0),1,4):=by kernel_rfl
def KV.rootsI (K:KV) (i:Nat):List Nat:=(List.range i).filter fun r=>decide (0<K.hold r)
def KV.roots (K:KV):List Nat:=K.rootsI K.holds.length
theorem KV.rootsI_succ (K:KV) (i:Nat):K.rootsI (i+1)=if 0<K.hold i then K.rootsI i++[i] else K.rootsI i:=by
 unfold KV.rootsI;rw [List.range_succ,List.filter_append]
 by_cases h:0<K.hold i
 ·simp [h]
 ·simp [h]
theorem KV.rootsI_len (K:KV) (i:Nat):(K.rootsI i).length<=i:=by
 have:=List.length_filter_le (fun r=>decide (0<K.hold r)) (List.range i)
 simpa [KV.rootsI] using this
theorem KV.mem_roots {K:KV} {r:Nat}:r∈K.roots↔0<K.hold r:=by
 simp only [KV.roots,KV.rootsI,List.mem_filter,List.mem_range,decide_eq_true_eq]
 refine ⟨fun h=>h.2,fun h=>⟨?_,h⟩⟩
 by_cases hl:r<K.holds.length
 ·exact hl
 ·have:K.hold r=0:=by
   unfold KV.hold
   rw [List.getD_eq_getElem?_getD,List.getElem?_eq_none (by omega)];rfl
  omega
theorem KV.roots_nodup (K:KV):K.roots.Nodup:=List.Pairwise.filter _ List.nodup_range
theorem ayJ (b:Nat) (K:KV) (T:List DM) (q:abM) (w:World) (h:afF w b K T q) :
  Calls Tryz.prog 33 #[.pointer (some ⟨b,0,none⟩)] w fun e w'=>∃ v:Value,e=.returned v/\w'.ownsRow w.heap.size 77 1 v K.roots.length (ach K.roots)/\Upd [] w w':=by
 have hsz:K.holds.length<=1048576:=by
  have h1:=h.ok.wf.len;have h2:=h.ok.wf.ul;have h3:=h.ok.wf.ok.lp;have h4:=h.ok.wf.ok.pm;omega
 obtain ⟨fa,fc,hhv,_⟩:=abI h.mem.hs
 have c3:w.cell? ⟨b,3,none⟩=some (.slice fa K.holds.length fc):=by rw [<- hhv];exact aac h.mem.blk rfl
 have abP:=h.mem.hs;rw [hhv] at abP;have aep:=Lib.hid abP;obtain ⟨ti,hi0,hz0,amR,hz2⟩:=info_parts Tryz.infoRefA;have HI:=Lib.hid hi0;have HZ:=Lib.hid hz0;have HZ1:=Lib.hid amR;have HZ2:=Lib.hid hz2;have HHM:=Lib.hid h.ok.wf.hm;clear h hhv abP hi0 hz0 amR hz2
 go_enter Tryz.func33,Tryz.ntmps33
 go_wp2_with fail
 go_loopg [3,14] K.holds.length (fun g s3 s14 wr=>∃ i:Nat,K.holds.length-i=g/\i<=K.holds.length/\s14=.int .i64 i/\wr.ownsRow w.heap.size 77 1 s3 (K.rootsI i).length (ach (K.rootsI i))/\Upd [] w wr)
 case atStart=>exact ⟨0,by omega,by omega,rfl,World.ownsRow_nil _ _ _ _,Upd.refl _ _⟩
 case round =>
  obtain ⟨i,rfl,hi,rfl,ho,hU⟩:=hrel
  by_cases hlt:i<K.holds.length
  ·obtain ⟨g,rfl⟩:=aeP aep.out (by omega)
   have hr:=aaX aep.out fun k hk=>hU.block k (aep.out.lt k hk).2 (by simp)
   have ch:wr.cell? ⟨g,i,none⟩=some (.int .i32 (K.hold i)):=abf hr (by simp [ahk,KV.hold,hlt])
   have hil:(i:Int)<(K.holds.length:Int):=by omega
   have HU:=Lib.hid hU
   have a4n:i<=4294967295:=by omega
   by_cases h0:0<K.hold i
   ·have HS:Hid (K.rootsI (i+1)=K.rootsI i++[i]):=by
     show K.rootsI (i+1)=_
     rw [K.rootsI_succ,if_pos h0]
    have hln:=K.rootsI_len i;obtain ⟨va,vc,hv,_⟩:=abI ho;subst hv;have HO:=Lib.hid ho
    have hd:(0:Int)<(K.hold i:Int):=by omega
    have HC2:Hid (∀ u,u∈[Value.int .u32 i]->u.oneCell'=true):=by intro u hu;simp at hu;subst hu;rfl
    have aFn:=hU.size
    have aSJ:(i:Int) % 4294967296=i:=by omega
    have hbs:w.heap.size<=(wr.alloc (.cells #[.int .u32 i] 77 (0,0))).heap.size:=by rw [World.size_alloc];omega
    clear ho hU hr
    go_wp2_with (at_builtin;go_must (refine wpList_append_lies _ rfl (.tmp 21) (.tmp 24) 42 rfl w.heap.size 77 ti _ 1 4 Tryz.underlying42 HI.out HZ.out HZ1.out HZ2.out (by rfl) (by decide) _ (K.rootsI i).length (ach (K.rootsI i)) rfl (HO.out.alloc _) ⟨wr.heap.size,0,none⟩ 1 1 [.int .u32 i] rfl rfl ?c1 HC2.out (by omega) (by unfold maxLen;omega) (by omega) hbs _ rfl ?_))
    case c1=>exact World.news_of_block (heap_alloc_new wr (.cells #[.int .u32 i] 77 (0,0)))
    intro g5 cap w5 ab3 hgr hat ajb
    have HE:Hid (w5.ownsRow w.heap.size 77 1 (.slice (some ⟨g5,0,none⟩) ((K.rootsI i).length+1) cap) (K.rootsI (i+1)).length (ach (K.rootsI (i+1)))/\Upd [] w w5):=by
     rw [HS.out];refine ⟨by simpa [ach] using ab3,(HU.out.alloc _).grown hgr fun k hk=>.inr ?_⟩;exact (HO.out.lt k hk).1
    clear ab3 hgr hat ajb;go_wp2_with fail
    go_roundg (K.holds.length-(i+1))
    case measure=>omega
    case rel=>exact ⟨i+1,rfl,by omega,by simp,HE.out.1,HE.out.2⟩
   ·have HS:Hid (K.rootsI (i+1)=K.rootsI i):=by
     show K.rootsI (i+1)=_
     rw [K.rootsI_succ,if_neg h0]
    have hd:¬ ((0:Int)<(K.hold i:Int)):=by omega
    have hd2:decide ((0:Int)<(K.hold i:Int))=false:=by simp;omega
    have HO:=Lib.hid ho;clear ho hU hr;go_wp2_with fail
    go_roundg (K.holds.length-(i+1))
    case measure=>omega
    case rel=>exact ⟨i+1,rfl,by omega,by simp,by rw [HS.out];exact HO.out,HU.out⟩
  ·obtain rfl:i=K.holds.length:=by omega
   have hil:¬ ((K.holds.length:Int)<(K.holds.length:Int)):=by omega
   have HE:=Lib.hid (And.intro ho hU);clear ho hU;go_wp2_with fail;go_ret;exact ⟨_,rfl,HE.out⟩
theorem KV.Ok.tk_const {K:KV} (h:K.Ok) {r:Nat} (h2:r<2):K.A.tk r=true:=by
 obtain rfl | rfl:r=0\/r=1:=by omega
 ·exact h.wf.ok.tk01.1
 ·exact h.wf.ok.tk01.2
def KV.fun3 (K:KV) (L:Bool->Bool->Bool->Bool) (f g h:Nat) (x:Nat->Bool):Bool:=L (K.den f x) (K.den g x) (K.den h x)
def KV.dep3 (K:KV) (f g h:Nat):Nat:=min (K.dep f) (min (K.dep g) (K.dep h))
def KV.mix (K:KV) (l:Nat) (a x:Nat->Bool):Nat->Bool:=fun v=>if v<K.vars/\K.lev v<l then a v else x v
def KV.SubN (K:KV) (t g:(Nat->Bool)->Bool):Prop:=∃ (l:Nat) (a:Nat->Bool),∀ x,g x=t (K.mix l a x)
theorem KV.Ext.mix {K K':KV} (h:K.Ext K') (l:Nat) (a x:Nat->Bool):K'.mix l a x=K.mix l a x:=by
 funext v;simp [KV.mix,h.vr,h.lev]
theorem KV.Ok.ref_lt {K:KV} (hk:K.Ok) {r:Nat} (ht:K.A.tk r=true):r<1048576:=by
 by_cases h2:2<=r
 ·have:=hk.wf.tk_lt h2 ht;omega
 ·omega
end Go.Proofs.YtdackeldhdchaaaGreat
namespace Go.Proofs.YtdackeldhdchaaaGreat
theorem KV.node_unique {K:KV} (hk:K.Ok) (hu:K.Uni) {n r1 r2 x:Nat} (hn:n<K.vars) (t1:K.A.tk r1=true) (t2:K.A.tk r2=true) (l1:K.lev n<K.dep r1) (l2:K.lev n<K.dep r2) (hne:r1≠r2) (tx:K.A.tk x=true)
  (he:∀ y,K.den x y=if y n then K.den r2 y else K.den r1 y):K.At x n r1 r2:=by
 have can:∀ {a b:Nat},K.A.tk a=true->K.A.tk b=true->(∀ y,K.den a y=K.den b y)->a=b:=fun ha hb h=>KV.canon hk.wf hk.ord hu _ _ _ ha hb (Nat.le_refl _) h
 have e0:∀ y,K.den x (upd y n false)=K.den r1 y:=fun y=>by
  rw [he,afj];simp;exact KV.den_upd hk.wf hk.ord t1 hn l1 y false
 have e1:∀ y,K.den x (upd y n true)=K.den r2 y:=fun y=>by
  rw [he,afj];simp;exact KV.den_upd hk.wf hk.ord t2 hn l2 y true
 have far:K.lev n<K.dep x->False:=fun h=>by
  refine hne (can t1 t2 fun y=>?_);rw [<- e0,<- e1,KV.den_upd hk.wf hk.ord tx hn h,KV.den_upd hk.wf hk.ord tx hn h]
 have hln:=(hk.ord.pm.lo n hn).1
 by_cases h2:2<=x
 ·obtain ⟨p,u,hp,hpt,hv,hul,c1,c2,hd⟩:=hk.wf.node_at h2 tx
  have hb:=hk.ord.below hk.wf h2 hp hpt
  by_cases hlt:K.lev u<K.lev n
  ·exfalso
   have ind:∀ b y,K.den x (upd y u b)=K.den x y:=fun b y=>by
    have d1:=KV.den_upd hk.wf hk.ord t1 hul (show K.lev u<K.dep r1 by omega) y b;have d2:=KV.den_upd hk.wf hk.ord t2 hul (show K.lev u<K.dep r2 by omega) y b;have en:upd y u b n=y n:=anL y b (by rintro rfl;omega);rw [he,he,en,d1,d2]
   refine hk.ord.ne x p h2 hp hpt (can c1 c2 fun y=>?_);have a:=KV.den_lo hk.wf hk.ord h2 hp hpt y;have b:=KV.den_hi hk.wf hk.ord h2 hp hpt y;rw [show p.var.toNat=u by omega] at a b;rw [<- a,<- b,ind,ind]
  ·have:¬ K.lev n<K.lev u:=fun h=>far (by omega)
   have eun:u=n:=hk.ord.pm.inj hul hn (by omega);subst eun;refine ⟨h2,p,hp,hpt,hv,can c1 t1 fun y=>?_,can c2 t2 fun y=>?_⟩
   ·have a:=KV.den_lo hk.wf hk.ord h2 hp hpt y
    rw [show p.var.toNat=u by omega] at a;rw [<- a,e0]
   ·have a:=KV.den_hi hk.wf hk.ord h2 hp hpt y
    rw [show p.var.toNat=u by omega] at a;rw [<- a,e1]
 ·exact (far (by rw [hk.wf.dep_const (by omega)];exact hln)).elim
theorem KV.At.den {K:KV} (hk:K.Ok) {r n lo hi:Nat} (h:K.At r n lo hi) (x:Nat->Bool):K.den r x=if x n then K.den hi x else K.den lo x:=by
 obtain ⟨h2,p,hp,hpt,e1,e2,e3⟩:=h;rw [KV.den_node hk.wf hk.ord h2 hp hpt,e1,e2,e3,Int.toNat_natCast]
theorem aCa (x:Nat->Bool) (n:Nat):upd x n (x n)=x:=by funext v;unfold upd;split <;> simp_all
theorem ayG {K0 K1 K':KV} (h0:K0.Ok) (h':K'.Ok) (e0:K0.Ext K1) (e':K'.Ext K1) (hd:∀ x,0<K0.hold x->0<K'.hold x):K0.Ext K':=by
 have same:∀ (r:Nat) (p:abu),K0.A.list[r]?=some p->p.taken=true->K'.A.tk r=true->K'.A.list[r]?=some p:=by
  intro r p hp hpt ht
  obtain ⟨p',hp',aCr⟩:=aaU.tk_iff.1 ht;have a:=e0.nd r p hp hpt;have b:=e'.nd r p' hp' aCr
  rw [a] at b;cases b;exact hp'
 have reach:∀ {r:Nat},K0.Reach r->K'.A.tk r=true:=by
  intro r hr
  induction hr with
  | root h=>exact (h'.wf.ht _ (hd _ h)).2
  | lo _ h2 hp hpt ih=>exact (h'.wf.cl _ _ h2 (same _ _ hp hpt ih) hpt).1
  | hi _ h2 hp hpt ih=>exact (h'.wf.cl _ _ h2 (same _ _ hp hpt ih) hpt).2
 refine ⟨fun r p hp hpt=>same r p hp hpt ?_,by rw [<- e'.pl,e0.pl],by rw [<- e'.vr,e0.vr],by rw [<- e'.od,e0.od],by rw [<- e'.lv,e0.lv]⟩
 by_cases h2:2<=r
 ·exact reach (KV.live_reach h0.wf h0.pos h0.ord _ r h2 (aaU.tk_iff.2 ⟨p,hp,hpt⟩) (Nat.le_refl _))
 ·exact h'.tk_const (by omega)
def KV.lives (K:KV):List Nat:=(List.range K.A.list.length).filter fun r=>K.A.tk r
theorem KV.mem_lives {K:KV} {x:Nat}:x∈K.lives↔K.A.tk x=true:=by
 simp only [KV.lives,List.mem_filter,List.mem_range]
 exact ⟨fun h=>h.2,fun h=>⟨aaU.tk_lt h,h⟩⟩
theorem KV.lives_nodup (K:KV):K.lives.Nodup:=List.Pairwise.filter _ List.nodup_range
theorem KV.lives_len {K:KV} {P:List Nat} (h:K.Wf P):K.lives.length=K.A.used:=by
 have hus:=h.ok.us
 have e1:K.A.free.length=((List.range K.A.list.length).filter fun r=>!(K.A.tk r)).length:=by
  have hfr:∀ r,r∈K.A.free↔r∈(List.range K.A.list.length).filter fun r=>!(K.A.tk r):=by
   intro r
   rw [h.ok.fr r,List.mem_filter,List.mem_range];constructor
   ·rintro ⟨p,hp,hpt⟩
    refine ⟨(List.getElem?_eq_some_iff.1 hp).1,?_⟩
    simp [aaU.tk,hp,hpt]
   ·rintro ⟨hl,ht⟩
    refine ⟨K.A.list[r],List.getElem?_eq_getElem hl,?_⟩
    simpa [aaU.tk,List.getElem?_eq_getElem hl] using ht
  refine Nat.le_antisymm ?_ ?_
  ·exact List.Nodup.length_le_of_subset h.ok.nd fun r hr=>(hfr r).1 hr
  ·exact List.Nodup.length_le_of_subset (List.Pairwise.filter _ List.nodup_range) fun r hr=>(hfr r).2 hr
 have e2:(List.range K.A.list.length).length=K.lives.length+((List.range K.A.list.length).filter fun r=>!(K.A.tk r)).length:=by
  rw [KV.lives,<- List.countP_eq_length_filter,<- List.countP_eq_length_filter];have hh:=List.length_eq_countP_add_countP (fun r=>K.A.tk r) (l:=List.range K.A.list.length);rw [hh]
  congr 2
  funext a
  cases K.A.tk a <;> rfl
 rw [List.length_range] at e2;omega
theorem KV.used_ge {K:KV} {P:List Nat} (h:K.Wf P) {l:List Nat} (hn:l.Nodup) (hl:∀ x,x∈l->K.A.tk x=true):l.length<=K.A.used:=by
 rw [<- K.lives_len h]
 exact List.Nodup.length_le_of_subset hn fun x hx=>KV.mem_lives.2 (hl x hx)
theorem KV.sub_live {K:KV} (hk:K.Ok) (l:Nat) (a:Nat->Bool):∀ (n r:Nat),K.vars-K.dep r<=n->K.A.tk r=true->∃ x,K.A.tk x=true/\∀ y,K.den x y=K.den r (K.mix l a y)
 | n,r,hn,ht=>by
  by_cases hl:l<=K.dep r
  ·refine ⟨r,ht,fun y=>KV.den_same hk.wf hk.ord _ r _ _ ht (Nat.le_refl _) fun v hv hd=>?_⟩
   simp only [KV.mix]
   rw [if_neg (by omega)]
  ·by_cases h2:2<=r
   ·obtain ⟨p,v,hp,hpt,hv,hvl,h3,h4,hd⟩:=hk.wf.node_at h2 ht
    have hb:=hk.ord.below hk.wf h2 hp hpt;have hdl:=hk.wf.dep_lt hk.ord h2 ht;have hlo:=hk.wf.dep_le hk.ord h3;have hhi:=hk.wf.dep_le hk.ord h4
    match n,hn with
    | 0,hn=>omega
    | n+1,hn =>
     have em:∀ y,K.mix l a y v=a v:=fun y=>by simp only [KV.mix];rw [if_pos ⟨hvl,by omega⟩]
     have e:∀ y,K.den r (K.mix l a y)=if a v then K.den p.hi (K.mix l a y) else K.den p.lo (K.mix l a y):=fun y=>by
      rw [KV.den_node hk.wf hk.ord h2 hp hpt,show p.var.toNat=v by omega,em]
     cases ha:a v with
     | true =>
      obtain ⟨x,tx,hx⟩:=KV.sub_live hk l a n p.hi (by omega) h4;exact ⟨x,tx,fun y=>by rw [hx,e,ha];simp⟩
     | false =>
      obtain ⟨x,tx,hx⟩:=KV.sub_live hk l a n p.lo (by omega) h3;exact ⟨x,tx,fun y=>by rw [hx,e,ha];simp⟩
   ·refine ⟨r,ht,fun y=>?_⟩
    rw [K.den_const (by omega),K.den_const (by omega)]
end Go.Proofs.YtdackeldhdchaaaGreat
namespace Go.Proofs.YtdackeldhdchaaaGreat
open Go.RowKit Go.Maps Go.ChangeMaps Go.WideShapes
theorem ara:Keyed Tryz.prog 77:=int_keyed Tryz.underlying77
theorem aCI (w:World):(zeroValue 3).run Tryz.prog w=.ok (.int .i64 0) w:=by kernel_rfl
structure aq9 (V:List Nat) (D:DM):Prop where
 im:IsMap D
 has:∀ r:Nat,r<=4294967295->(Maps.has D (.int .u32 r)=true↔r∈V)
 at_:∀ r:Nat,r<=4294967295->Maps.has D (.int .u32 r)=true->∀ z,D.atKey (.int .u32 r) z=.lit (.int .i64 1)
 dom:∀ k,Maps.has D k=true->∃ r:Nat,k=.int .u32 r/\r<1048576
theorem aq9.nil:aq9 [] (.map []):=⟨isMap_empty,fun r _=>by simp [Maps.has],fun r _ h=>by simp [Maps.has] at h,fun k h=>by simp [Maps.has] at h⟩
theorem aq9.put {V:List Nat} {D:DM} {r:Nat} (h:aq9 V D) (hr:r<1048576):aq9 (V++[r]) (D.put (.int .u32 r) (.lit (.int .i64 1))):=by
 have hl:WideAt.IsKeyLit (.int .u32 (r:Int)):=trivial
 have inj:∀ x:Nat,x≠r->(Lit.int .u32 (x:Int))≠.int .u32 (r:Int):=fun x hx e=>hx (by simp at e;omega)
 refine ⟨h.im.put _ _,fun x hx=>?_,fun x hx hh z=>?_,fun k hk=>?_⟩
 ·by_cases e:x=r
  ·subst e;simp [has_put_same h.im hl]
  ·rw [has_put_other (inj x e),h.has x hx];simp [e]
 ·by_cases e:x=r
  ·subst e;exact atKey_put_same h.im hl _ z
  ·rw [has_put_other (inj x e)] at hh
   rw [atKey_put_other (inj x e)];exact h.at_ x hx hh z
 ·by_cases e:k=.int .u32 (r:Int)
  ·exact ⟨r,e,hr⟩
  ·rw [has_put_other e] at hk;exact h.dom k hk
theorem aH5 {V:List Nat} {D:DM} (h:aq9 V D) (hc:Maps.Canon D) (ht:Tidy D):Maps.size D<maxLen:=by
 have:=ai7 hc (ks:=(List.range 1048576).map fun (r:Nat)=>Lit.int .u32 (r:Int)) (fun k hk=>by
  obtain ⟨r,rfl,hr⟩:=h.dom k hk
  exact List.mem_map.2 ⟨r,List.mem_range.2 hr,rfl⟩) ht
 simp only [List.length_map,List.length_range] at this
 unfold maxLen;omega
inductive KV.Under (K:KV) (r:Nat):Nat->Prop
 | refl (h:2<=r):K.Under r r
 | lo {x:Nat} {p:abu} (h:K.Under r x) (hp:K.A.list[x]?=some p) (h2:2<=p.lo):K.Under r p.lo
 | hi {x:Nat} {p:abu} (h:K.Under r x) (hp:K.A.list[x]?=some p) (h2:2<=p.hi):K.Under r p.hi
theorem KV.Under.trans {K:KV} {r s x:Nat} (h:K.Under r s) (k:K.Under s x):K.Under r x:=by
 induction k with
 | refl _=>exact h
 | lo _ hp h2 ih=>exact .lo ih hp h2
 | hi _ hp h2 ih=>exact .hi ih hp h2
structure aqj (K:KV) (V:List Nat) (r:Nat) (N:List Nat):Prop where
 nd:(V++N).Nodup
 has:2<=r->r∈V++N
 two:∀ x,x∈N->2<=x/\K.A.tk x=true
 under:∀ x,x∈N->K.Under r x
 kids:∀ (x:Nat) (p:abu),x∈N->K.A.list[x]?=some p->(p.lo<2\/p.lo∈V++N)/\(p.hi<2\/p.hi∈V++N)
theorem aqj.none {K:KV} {V:List Nat} {r:Nat} (hv:V.Nodup) (h:r < 2∨r∈V):aqj K V r [] :=
  ⟨by simpa using hv, fun h2 => by rcases h with h | h; · omega
                                   · simpa using h,by simp,by simp,by simp⟩
theorem aqj.node {K:KV} {V N0 N1:List Nat} {r:Nat} {p:abu} (h2:2<=r) (ht:K.A.tk r=true) (hp:K.A.list[r]?=some p) (W0:aqj K (V++[r]) p.lo N0) (W1:aqj K (V++[r]++N0) p.hi N1) :
  aqj K V r (r::(N0++N1)):=by
 have e:V++r::(N0++N1)=V++[r]++N0++N1:=by simp
 have in0:∀ x,x∈V++[r]++N0->x∈V++r::(N0++N1):=fun x hx=>by rw [e];exact List.mem_append.2 (.inl hx)
 have in1:∀ x,x∈V++[r]++N0++N1->x∈V++r::(N0++N1):=fun x hx=>by rw [e];exact hx
 refine ⟨by rw [e];exact W1.nd,fun _=>by simp,fun x hx=>?_,fun x hx=>?_,fun x c hx hc=>?_⟩
 ·rcases List.mem_cons.1 hx with rfl | hx
  ·exact ⟨h2,ht⟩
  ·rcases List.mem_append.1 hx with hx | hx
   ·exact W0.two x hx
   ·exact W1.two x hx
 ·have ulo:2<=p.lo->K.Under r p.lo:=fun h=>.lo (.refl h2) hp h
  have uhi:2<=p.hi->K.Under r p.hi:=fun h=>.hi (.refl h2) hp h
  have start:∀ {s x:Nat},K.Under s x->2<=s:=by
   intro s x h
   induction h with
   | refl h=>exact h
   | lo _ _ _ ih=>exact ih
   | hi _ _ _ ih=>exact ih
  rcases List.mem_cons.1 hx with rfl | hx
  ·exact .refl h2
  ·rcases List.mem_append.1 hx with hx | hx
   ·have:=W0.under x hx
    exact (ulo (start this)).trans this
   ·have:=W1.under x hx
    exact (uhi (start this)).trans this
 ·rcases List.mem_cons.1 hx with rfl | hx
  ·rw [hp] at hc;cases hc
   refine ⟨?_,?_⟩
   ·by_cases h:p.lo<2
    ·exact .inl h
    ·exact .inr (in0 _ (W0.has (by omega)))
   ·by_cases h:p.hi<2
    ·exact .inl h
    ·exact .inr (in1 _ (W1.has (by omega)))
  ·rcases List.mem_append.1 hx with hx | hx
   ·have:=W0.kids x c hx hc
    exact ⟨this.1.imp_right (in0 _),this.2.imp_right (in0 _)⟩
   ·have:=W1.kids x c hx hc
    exact ⟨this.1.imp_right (in1 _),this.2.imp_right (in1 _)⟩
theorem aF4 {W:World} {mb:Nat} (h:W.heap[mb]?=some (.map #[] 0)):W.ownsMap Tryz.prog 77 (plainElem (H:=Unit) Tryz.prog 3) mb 0 (.map []):=by
 obtain ⟨es,clock,q1,q2,q3,q4⟩:=World.ownsMap_made W Tryz.prog 77 (plainElem (H:=Unit) Tryz.prog 3);rw [heap_alloc_new] at q1;cases q1;exact ⟨#[],0,h,q2,Nat.zero_le _,rfl⟩
inductive ajL (K:KV):List Nat->List Nat->List Nat->Prop
 | nil (V:List Nat):ajL K V [] []
 | cons {V N N':List Nat} {r:Nat} {rs:List Nat} (h:aqj K V r N) (t:ajL K (V++N) rs N'):ajL K V (r::rs) (N++N')
theorem ajL.snoc {K:KV} {V rs N:List Nat} (h:ajL K V rs N):∀ {r:Nat} {N1:List Nat},aqj K (V++N) r N1->ajL K V (rs++[r]) (N++N1):=by
 induction h with
 | nil V=>intro r N1 h1;have:=ajL.cons (by simpa using h1) (ajL.nil (K:=K) (V++N1));simpa using this
 | cons h t ih =>
  intro r N1 h1
  have:=ih (by simpa [List.append_assoc] using h1);have:=ajL.cons h this
  simpa [List.append_assoc] using this
theorem ajL.nodup {K:KV} {V rs N:List Nat} (h:ajL K V rs N):V.Nodup->(V++N).Nodup:=by
 induction h with
 | nil V=>intro h;simpa using h
 | cons h t ih=>intro _;have:=ih h.nd;simpa [List.append_assoc] using this
theorem Tryz.infoU64:(Tryz.prog.info? 90).map (fun i=>(i.zero,i.size,i.bytes))=some (some (.int .u64 0),1,8):=by kernel_rfl
def aff (l:List Int):List Value:=l.map fun n=>Value.int .u64 n
theorem aLn (n:Nat):(madeCells #[Value.int .u64 0] n).toList=List.replicate n (Value.int .u64 0):=by
 apply List.ext_getElem?
 intro i
 by_cases hi:i<n
 ·simp [madeCells,hi,Nat.mod_one]
 ·simp [madeCells,hi]
def U64 (x:Int):Prop:=0<=x/\x<18446744073709551616
theorem wrap_u64 (n:Int):U64 (IntKind.u64.wrap n):=by
 have e:IntKind.u64.wrap n=n % 18446744073709551616:=rfl
 rw [e];unfold U64;omega
theorem auU (op:BinOp) (x y:Int):U64 (bits op IntKind.u64 x y):=wrap_u64 _
def nb (x:Int) (i:Nat):Bool:=x.toNat.testBit i
theorem aLo {x:Int} (h:U64 x):(BitVec.ofInt 64 x).toNat=x.toNat:=by
 unfold U64 at h;rw [BitVec.toNat_ofInt]
 have:x % (2 ^ 64:Nat)=x:=by omega
 rw [this]
theorem aBV {x:Int} (h:U64 x) (i:Nat):nb x i=(BitVec.ofInt 64 x).getLsbD i:=by
 unfold nb;rw [<- aLo h,BitVec.testBit_toNat]
theorem azu (B:BitVec 64) (i:Nat):nb ((B.toNat:Int) % 18446744073709551616) i=B.getLsbD i:=by
 have h:=B.isLt
 have:((B.toNat:Int) % 18446744073709551616).toNat=B.toNat:=by omega
 unfold nb;rw [this,BitVec.testBit_toNat]
theorem aOP {x y:Int} (hx:U64 x) (hy:U64 y) (i:Nat):nb (bits BinOp.or IntKind.u64 x y) i=(nb x i||nb y i):=by
 rw [aBV hx,aBV hy,<- BitVec.getLsbD_or];exact azu (BitVec.ofInt 64 x ||| BitVec.ofInt 64 y) i
theorem aLp {x y:Int} (hx:U64 x) (hy:U64 y) (i:Nat):nb (bits BinOp.and IntKind.u64 x y) i=(nb x i&&nb y i):=by
 rw [aBV hx,aBV hy,<- BitVec.getLsbD_and];exact azu (BitVec.ofInt 64 x &&& BitVec.ofInt 64 y) i
theorem av1 {x y:Int} (hx:U64 x) (hy:U64 y) {i:Nat} (hi:i<64):nb (bits BinOp.andNot IntKind.u64 x y) i=(nb x i&&!nb y i):=by
 rw [aBV hx,aBV hy];have e:nb (bits BinOp.andNot IntKind.u64 x y) i=(BitVec.ofInt 64 x &&& ~~~BitVec.ofInt 64 y).getLsbD i:=azu _ i;rw [e,BitVec.getLsbD_and,BitVec.getLsbD_not,decide_eq_true hi,Bool.true_and]
theorem aNv (i:Nat):nb 0 i=false:=by simp [nb]
theorem aQA {x y:Int} (hx:U64 x) (hy:U64 y) (h:∀ i,i<64->nb x i=nb y i):x=y:=by
 have:x.toNat=y.toNat:=by
  apply Nat.eq_of_testBit_eq
  intro i
  by_cases hi:i<64
  ·exact h i hi
  ·have l:∀ z:Int,U64 z->z.toNat.testBit i=false:=fun z hz=>by
    apply Nat.testBit_lt_two_pow
    have h1:(2:Nat) ^ 64<=2 ^ i:=Nat.pow_le_pow_right (by omega) (by omega)
    unfold U64 at hz;omega
   rw [l x hx,l y hy]
 unfold U64 at hx hy;omega
def ahP (t:(Nat->Bool)->Bool) (v:Nat):Prop:=∃ y,t (upd y v true)≠t (upd y v false)
end Go.Proofs.YtdackeldhdchaaaGreat
namespace Go.Proofs.YtdackeldhdchaaaGreat
structure TV where
 n:Nat
 ws:List Int
deriving DecidableEq
def adu (n:Nat):Nat:=if n<=6 then 1 else 2 ^ (n-6)
structure TV.Ok (t:TV):Prop where
 n16:t.n<=16
 len:t.ws.length=adu t.n
 u:∀ x,x∈t.ws->U64 x
 low:t.n<6->∀ x,x∈t.ws->∀ i,2 ^ t.n<=i->nb x i=false
def TV.bit (t:TV) (x:Nat):Bool:=nb (t.ws.getD (x/64) 0) (x % 64)
theorem aCT {x:Int} (h:U64 x) {i:Nat} (hi:64<=i):nb x i=false:=by
 apply Nat.testBit_lt_two_pow
 have h1:(2:Nat) ^ 64<=2 ^ i:=Nat.pow_le_pow_right (by omega) hi
 unfold U64 at h;omega
theorem apJ (n:Nat):0<adu n:=by
 unfold adu;split
 ·omega
 ·exact Nat.two_pow_pos _
theorem aoT {n:Nat} (h:6<=n):adu n*64=2 ^ n:=by
 unfold adu;split
 ·obtain rfl:n=6:=by omega
  rfl
 ·have:n=(n-6)+6:=by omega
  rw [this,Nat.pow_add];simp
theorem TV.Ok.word {t:TV} (h:t.Ok) {i:Nat} (hi:i<adu t.n):U64 (t.ws.getD i 0)/\t.ws.getD i 0∈t.ws/\t.ws[i]?=some (t.ws.getD i 0):=by
 have hl:i<t.ws.length:=by rw [h.len];exact hi
 have e:t.ws[i]?=some (t.ws.getD i 0):=by rw [List.getD_eq_getElem?_getD,List.getElem?_eq_getElem hl];rfl
 have hm:=List.mem_of_getElem? e;exact ⟨h.u _ hm,hm,e⟩
theorem am3 {n x:Nat} (hx:x<2 ^ n):x/64<adu n:=by
 by_cases h:6<=n
 ·have:=aoT h;omega
 ·have:(2:Nat) ^ n<=2 ^ 6:=Nat.pow_le_pow_right (by omega) (by omega)
  unfold adu;rw [if_pos (by omega)];omega
theorem TV.ext {t u:TV} (ht:t.Ok) (hu:u.Ok) (hn:t.n=u.n) (h:∀ x,x<2 ^ t.n->t.bit x=u.bit x):t=u:=by
 obtain ⟨n,ws⟩:=t;obtain ⟨m,vs⟩:=u
 simp only at hn;subst hn
 congr 1
 apply List.ext_getElem?
 intro i
 by_cases hi:i<adu n
 ·obtain ⟨a1,a2,a3⟩:=ht.word (i:=i) hi
  obtain ⟨b1,b2,b3⟩:=hu.word (i:=i) hi
  show ws[i]?=vs[i]?
  have a3':ws[i]?=some (ws.getD i 0):=a3;have b3':vs[i]?=some (vs.getD i 0):=b3;rw [a3',b3']
  congr 1
  refine aQA a1 b1 fun j hj=>?_
  by_cases h6:6<=n
  ·have hw:=aoT h6
   have:=h (64*i+j) (by show 64*i+j<2 ^ n;omega);unfold TV.bit at this;rw [show (64*i+j)/64=i by omega,show (64*i+j) % 64=j by omega] at this;exact this
  ·have hi0:i=0:=by unfold adu at hi;rw [if_pos (by omega)] at hi;omega
   subst hi0
   by_cases hj2:j<2 ^ n
   ·have:=h j hj2
    unfold TV.bit at this;rw [show j/64=0 by omega,show j % 64=j by omega] at this;exact this
   ·rw [ht.low (by simpa using h6) _ a2 j (by simpa using hj2),hu.low (by simpa using h6) _ b2 j (by simpa using hj2)]
 ·have e1:=ht.len
  have e2:=hu.len
  simp only at e1 e2
  rw [List.getElem?_eq_none (by omega),List.getElem?_eq_none (by omega)]
def idx:Nat->(Nat->Bool)->Nat
 | 0,_=>0
 | n+1,y=>idx n y+if y n then 2 ^ n else 0
theorem aCU:∀ (n:Nat) (y:Nat->Bool),idx n y<2 ^ n
 | 0,_=>by simp [idx]
 | n+1,y=>by
  have:=aCU n y
  have e:(2:Nat) ^ (n+1)=2 ^ n+2 ^ n:=by rw [Nat.pow_succ];omega
  unfold idx;split <;> omega
theorem aiq:∀ (n:Nat) (y:Nat->Bool) (v:Nat),(idx n y).testBit v=(decide (v<n)&&y v)
 | 0,y,v=>by simp [idx]
 | n+1,y,v=>by
  have hl:=aCU n y;have ih:=aiq n y v;unfold idx
  by_cases hy:y n=true
  ·rw [if_pos hy,Nat.add_comm]
   by_cases hv:v=n
   ·subst hv
    rw [Nat.testBit_two_pow_add_eq,Nat.testBit_lt_two_pow hl]
    simp [hy]
   ·by_cases hvn:v<n
    ·rw [Nat.testBit_two_pow_add_gt hvn,ih]
     simp [hvn,show v<n+1 by omega]
    ·have h2:2 ^ n+idx n y<2 ^ v:=by
      have e:(2:Nat) ^ (n+1)=2 ^ n+2 ^ n:=by rw [Nat.pow_succ];omega
      have:(2:Nat) ^ (n+1)<=2 ^ v:=Nat.pow_le_pow_right (by omega) (by omega);omega
     rw [Nat.testBit_lt_two_pow h2]
     simp [show ¬ v<n+1 by omega]
  ·rw [if_neg hy,Nat.add_zero,ih]
   by_cases hv:v=n
   ·subst hv;simp [hy]
   ·have:(v<n)↔(v<n+1):=by omega
    simp [this]
theorem aLq {n x:Nat} (hx:x<2 ^ n):idx n (fun v=>x.testBit v)=x:=by
 apply Nat.eq_of_testBit_eq
 intro v
 rw [aiq]
 by_cases hv:v<n
 ·simp [hv]
 ·have:x<2 ^ v:=Nat.lt_of_lt_of_le hx (Nat.pow_le_pow_right (by omega) (by omega))
  rw [Nat.testBit_lt_two_pow this];simp [hv]
def af7 (x v:Nat) (b:Bool):Nat:=if x.testBit v=b then x else if b then x+2 ^ v else x-2 ^ v
theorem aGh {x v:Nat} (h:x.testBit v=false) (u:Nat):(x+2 ^ v).testBit u=if u=v then true else x.testBit u:=by
 by_cases hu:u=v
 ·subst hu;rw [if_pos rfl,Nat.add_comm,Nat.testBit_two_pow_add_eq,h];rfl
 ·rw [if_neg hu]
  have e:x+2 ^ v=x ||| 2 ^ v:=by
   have hd:=Nat.div_add_mod x (2 ^ (v+1))
   have hm:x % 2 ^ (v+1)<2 ^ v:=by
    have h1:x % 2 ^ (v+1)<2 ^ (v+1):=Nat.mod_lt _ (Nat.two_pow_pos _)
    have h2:(x % 2 ^ (v+1)).testBit v=false:=by rw [Nat.testBit_mod_two_pow,h];simp
    by_cases hge:2 ^ v<=x % 2 ^ (v+1)
    ·exfalso
     have e2:(2:Nat) ^ (v+1)=2 ^ v+2 ^ v:=by rw [Nat.pow_succ];omega
     have e3:x % 2 ^ (v+1)=2 ^ v+(x % 2 ^ (v+1)-2 ^ v):=by omega
     rw [e3,Nat.testBit_two_pow_add_eq,Nat.testBit_lt_two_pow (by omega)] at h2;cases h2
    ·omega
   apply Nat.eq_of_testBit_eq
   intro i
   have e4:x+2 ^ v=2 ^ (v+1)*(x/2 ^ (v+1))+(2 ^ v+x % 2 ^ (v+1)):=by omega
   have e5:2 ^ v+x % 2 ^ (v+1)<2 ^ (v+1):=by
    have e2:(2:Nat) ^ (v+1)=2 ^ v+2 ^ v:=by rw [Nat.pow_succ];omega
    omega
   rw [e4,Nat.testBit_two_pow_mul_add _ e5,Nat.testBit_or,Nat.testBit_two_pow];have h6:=Nat.testBit_mod_two_pow x (v+1) i
   have h7:x.testBit i=if i<v+1 then (x % 2 ^ (v+1)).testBit i else (x/2 ^ (v+1)).testBit (i-(v+1)):=by
    split
    ·rename_i hi;rw [h6];simp [hi]
    ·rename_i hi;rw [Nat.testBit_div_two_pow];congr 1;omega
   rw [h7]
   by_cases hi:i<v+1
   ·rw [if_pos hi,if_pos hi]
    by_cases hiv:i=v
    ·subst hiv;rw [Nat.testBit_two_pow_add_eq,Nat.testBit_lt_two_pow hm];simp
    ·rw [Nat.testBit_two_pow_add_gt (by omega)];simp [Ne.symm hiv]
   ·rw [if_neg hi,if_neg hi]
    have:¬ v=i:=by omega
    simp [this]
  rw [e,Nat.testBit_or,Nat.testBit_two_pow]
  simp [Ne.symm hu]
theorem aiK (x v:Nat) (b:Bool) (u:Nat):(af7 x v b).testBit u=if u=v then b else x.testBit u:=by
 unfold af7
 by_cases h:x.testBit v=b
 ·rw [if_pos h]
  by_cases hu:u=v
  ·subst hu;rw [if_pos rfl];exact h
  ·rw [if_neg hu]
 ·rw [if_neg h]
  cases b with
  | true =>
   have h':x.testBit v=false:=by simpa using h
   rw [if_pos rfl,aGh h']
  | false =>
   have h':x.testBit v=true:=by simpa using h
   have hge:2 ^ v<=x:=Nat.ge_two_pow_of_testBit h'
   have h0:(x-2 ^ v).testBit v=false:=by
    cases e:(x-2 ^ v).testBit v with
    | false=>rfl
    | true =>
     have:=Nat.testBit_two_pow_add_eq (x-2 ^ v) v
     rw [Nat.add_comm,Nat.sub_add_cancel hge,h',e] at this;cases this
   have:=aGh h0 u;rw [Nat.sub_add_cancel hge] at this
   simp only [Bool.false_eq_true,if_false]
   by_cases hu:u=v
   ·subst hu;rw [if_pos rfl];exact h0
   ·rw [if_neg hu] at this ⊢;exact this.symm
theorem aBZ {x v n:Nat} (b:Bool) (hx:x<2 ^ n) (hv:v<n):af7 x v b<2 ^ n:=by
 apply Nat.lt_pow_two_of_testBit
 intro i hi
 rw [aiK,if_neg (by omega)];exact Nat.testBit_lt_two_pow (Nat.lt_of_lt_of_le hx (Nat.pow_le_pow_right (by omega) hi))
theorem aLr {n v:Nat} (hv:v<n) (y:Nat->Bool) (b:Bool):af7 (idx n y) v b=idx n (upd y v b):=by
 apply Nat.eq_of_testBit_eq
 intro u
 rw [aiK,aiq,aiq]
 by_cases hu:u=v
 ·subst hu;simp [hv,upd]
 ·simp [hu,upd]
def TV.fn (t:TV) (y:Nat->Bool):Bool:=t.bit (idx t.n y)
theorem TV.fn_ext {t u:TV} (ht:t.Ok) (hu:u.Ok) (hn:t.n=u.n) (h:∀ y,t.fn y=u.fn y):t=u :=
 TV.ext ht hu hn fun x hx=>by
  have:=h fun v=>x.testBit v
  unfold TV.fn at this;rw [aLq hx,<- hn,aLq hx] at this;exact this
theorem TV.fn_same (t:TV) {x y:Nat->Bool} (h:∀ v,v<t.n->x v=y v):t.fn x=t.fn y:=by
 have:idx t.n x=idx t.n y:=by
  apply Nat.eq_of_testBit_eq
  intro v
  rw [aiq,aiq]
  by_cases hv:v<t.n
  ·simp [hv,h v hv]
  ·simp [hv]
 unfold TV.fn;rw [this]
end Go.Proofs.YtdackeldhdchaaaGreat
