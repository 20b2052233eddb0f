import Derived.Test.YtpfafhmkbcahhaaGreatPT7
import Derived.Test.YtpfafhmkbcahhaaGreatPT6
import Derived.Deep.RegionHeld3
import Derived.Deep.DeepCutAuto
import Derived.Defers
import Derived.Deep.QuietTactic
set_option maxRecDepth 100000
set_option maxHeartbeats 1600000
namespace Go.Proofs.YtpfafhmkbcahhaaGreat
open Go.RowKit Go.Maps Go.ChangeMaps Go.WideShapes
theorem clone_spec (sv:Value) (l:List Nat) (w:World) (h:w.ownsRow 0 3 1 sv l.length (flatN l)) (h1:1<=l.length) (hn:l.length<=1048576) :
  Calls Tryz.prog 134 #[sv] w fun e w'=>∃ (g cap:Nat),e=.returned (.slice (some ⟨g,0,none⟩) l.length cap)/\w'.ownsRow w.heap.size 3 1 (.slice (some ⟨g,0,none⟩) l.length cap) l.length (flatN l)/\Upd [] w w':=by
 obtain ⟨fa,fc,rfl,_⟩:=row_nil_len h;obtain ⟨g0,rfl⟩:=row_some h (by omega);obtain ⟨i,hi0,hz0,hz1',hz2⟩:=info_parts Tryz.infoIntI;have HI:=Lib.hid hi0;have HZ:=Lib.hid hz0;have HZ1:=Lib.hid hz1';have HZ2:=Lib.hid hz2;have HR:=Lib.hid h;have HCS:Hid (∀ j u,(flatN l)[j]?=some u->w.cell? ((⟨g0,0,none⟩ : Addr).add j)=some u):=h.cells rfl
 have HC2:Hid (∀ u,u∈flatN l->u.oneCell'=true):=by
  intro u hu
  obtain ⟨a,_,rfl⟩:=List.mem_map.1 hu;rfl
 have hlen:(flatN l).length=l.length*1:=by simp [flatN]
 generalize hll:l.length=n at *;clear h hi0 hz0 hz1' hz2
 go_enter Tryz.func134,Tryz.ntmps134
 have hbin:∀ (w:World),(binOp BinOp.eql 22 (Value.slice (some ⟨g0,0,none⟩) n fc) (Value.slice none 0 0)).run Tryz.prog w=.ok (.bool false) w:=fun w=>by kernel_rfl
 have HL:Hid ((w.alloc (.cells #[] 3 (0,0))).ownsRow w.heap.size 3 1 (.slice (some ⟨w.heap.size,0,none⟩) 0 0) 0 []):=World.ownsRow_lit w #[] 0 (Nat.le_refl _) (by unfold maxLen;omega) (by simp)
 have HB:Hid (∀ j u,(flatN l)[j]?=some u->(w.alloc (.cells #[] 3 (0,0))).cell? ((⟨g0,0,none⟩ : Addr).add j)=some u):=by
  intro j u hu
  have:=HCS.out j u hu;rw [<- this];exact World.cell?_of_block (heap_alloc_old w _ (World.block_lt_of_cell? _ _ this))
 have hbs:w.heap.size<=(w.alloc (.cells #[] 3 (0,0))).heap.size:=by rw [World.size_alloc];omega
 go_wp2_with (at_builtin;go_must (refine wpList_append_lies _ rfl (.tmp 5) (.tmp 6) 22 rfl w.heap.size 3 i _ 1 8 Tryz.underlying22 HI.out HZ.out HZ1.out HZ2.out (by rfl) (by decide) _ 0 [] rfl HL.out ⟨g0,0,none⟩ n fc (flatN l) rfl hlen ?c1 HC2.out (by omega) (by unfold maxLen;omega) (by omega) hbs _ rfl ?_))
 case c1=>exact HB.out
 intro g cap w' hown hgr hat hlt
 have HE:Hid (w'.ownsRow w.heap.size 3 1 (.slice (some ⟨g,0,none⟩) n cap) n (flatN l)/\Upd [] w w'):=by
  refine ⟨by simpa using hown,((Upd.refl [] w).alloc _).grown hgr fun k hk=>?_⟩
  simp [Value.ownBlock] at hk
  right;omega
 clear hown hgr hat hlt;go_wp2_with fail;go_ret;exact ⟨g,cap,rfl,HE.out⟩
theorem order_spec (b:Nat) (K:KV) (T:List DM) (q:KPtr) (w:World) (h:KerMem w b K T q) (h1:1<=K.order.length) (hn:K.order.length<=1048576) :
  Calls Tryz.prog 38 #[.pointer (some ⟨b,0,none⟩)] w fun e w'=>∃ (g cap:Nat),e=.returned (.slice (some ⟨g,0,none⟩) K.order.length cap)/\w'.ownsRow w.heap.size 3 1 (.slice (some ⟨g,0,none⟩) K.order.length cap) K.order.length (flatN K.order)/\Upd [] w w':=by
 have c5:w.cell? ⟨b,5,none⟩=some q.ov:=cell_at h.blk rfl;have HO:=Lib.hid h.os;clear h
 go_enter Tryz.func38,Tryz.ntmps38
 go_wp2_with fail;refine (clone_spec q.ov K.order w HO.out h1 hn).mono ?_;rintro e w1 ⟨g,cap,rfl,ho,hu⟩;have HE:=Lib.hid (And.intro ho hu);clear ho hu;go_wp2_with fail;go_ret;exact ⟨g,cap,rfl,HE.out⟩
def KV.new (n m:Nat):KV:=⟨ArenaV.new m,[],[],n,List.range n,List.range n,[]⟩
theorem KV.new_ok {n m:Nat} (h1:1<=n) (hn:n<=64) (h2:2<=m) (hm:m<=1048576):(KV.new n m).Ok:=by
 have hA:=ArenaV.new_ok h2 hm
 have no:∀ (r:Nat) (p:PlaceV),2<=r->(KV.new n m).A.list[r]?=some p->False:=by
  intro r p hr hp
  have:=(List.getElem?_eq_some_iff.1 hp).1
  simp [KV.new,ArenaV.new] at this
  omega
 have notk:∀ r,2<=r->(KV.new n m).A.tk r=true->False:=fun r hr ht=>by
  obtain ⟨p,hp,_⟩:=ArenaV.tk_iff.1 ht;exact no r p hr hp
 have hold0:∀ r,(KV.new n m).hold r=0:=fun r=>by simp [KV.hold,KV.new]
 have hlev:∀ v,v<n->(KV.new n m).lev v=v:=fun v hv=>by simp [KV.lev,KV.new,hv]
 have hord:∀ v,v<n->(KV.new n m).order.getD v 0=v:=fun v hv=>by simp [KV.new,hv]
 refine ⟨⟨hA,rfl,by simp [KV.new],fun r h ht=>(notk r h ht).elim,fun r h=>by rw [hold0] at h;omega,fun r=>by rw [hold0];omega,fun r h ht=>(notk r h ht).elim,by simp,fun q p h hp _=>(no q p h hp).elim,fun q p h hp _=>(no q p h hp).elim,h1,hn⟩,
  fun r h ht=>(notk r h ht).elim,⟨⟨by simp [KV.new],by simp [KV.new],?_,?_⟩,fun q p h hp _=>(no q p h hp).elim,fun q p h hp _=>(no q p h hp).elim⟩,by simp [KV.new]⟩
 ·intro v hv
  rw [hlev v hv];exact ⟨hv,hord v hv⟩
 ·intro v hv
  rw [hord v hv];exact ⟨hv,hlev v hv⟩
theorem TInv.new (n m:Nat):TInv (List.replicate n (.map [])) (KV.new n m) []:=by
 refine ⟨by simp [KV.new],?_,?_,?_⟩
 ·intro v D k hD hk
  have:D=.map []:=(List.mem_replicate.1 (List.mem_of_getElem? hD)).2;subst this
  simp [Maps.has] at hk
 ·intro r p D hr hp
  have:=(List.getElem?_eq_some_iff.1 hp).1
  simp [KV.new,ArenaV.new] at this
  omega
 ·intro D hD
  rw [(List.mem_replicate.1 hD).2];exact isMap_empty
theorem newStore_spec (m t:Nat) (w:World) (h2:2<=m) (hm:m<=1048576) :
  Calls Tryz.prog 154 #[.int .i64 m,.pointer (some ⟨t,0,none⟩)] w fun e w'=>∃ a F,e=.returned (.tuple #[.agg #[.pointer (some ⟨a,0,none⟩),.pointer (some ⟨t,0,none⟩),.slice none 0 0,.slice none 0 0],.int .i64 0]) /\
   ArenaAt w' a (ArenaV.new m) F/\Upd [] w w'/\Sub [] w F:=by
 go_enter Tryz.func154,Tryz.ntmps154
 go_wp2_with fail;refine (new_spec m _ h2 hm).mono ?_;rintro e w1 ⟨a,F,rfl,ha,hu,hs⟩;have hbx:w1.heap[w.heap.size]?=some (.cells #[.pointer none,.pointer none,.slice none 0 0,.slice none 0 0] 202 (0,0)):=(hu.block w.heap.size (by simp) (by simp)).trans (heap_alloc_new w _);have b0:w1.cell? ⟨w.heap.size,0,none⟩=some (.pointer none):=cell_at hbx rfl;have b1:w1.cell? ⟨w.heap.size,1,none⟩=some (.pointer none):=cell_at hbx rfl;have b2:w1.cell? ⟨w.heap.size,2,none⟩=some (.slice none 0 0):=cell_at hbx rfl;have b3:w1.cell? ⟨w.heap.size,3,none⟩=some (.slice none 0 0):=cell_at hbx rfl;have f0:=frozen_at 0 hbx;have f1:=frozen_at 1 hbx;have f2:=frozen_at 2 hbx;have f3:=frozen_at 3 hbx;have HX:=Lib.hid hbx;have HU:Hid (Upd [] w w1):=((Upd.refl [] w).alloc _).trans (hu.mono (by simp))
 have HA:Hid (∀ w2,Upd [w.heap.size] w1 w2->ArenaAt w2 a (ArenaV.new m) F):=fun w2 u=>ha.upd u (fun k hk hm=>by
  simp at hm
  have:=hs k hk
  simp at this
  omega)
 have HS:Hid (Sub [] w F):=fun k hk=>by
  have:=hs k hk
  simp at this
  right;omega
 clear hu hbx ha hs;go_wp2_with fail;have e:=heap_set_eq (j:=3) (heap_set_eq (j:=2) (heap_set_eq (j:=1) (heap_set_eq (j:=0) HX.out (.pointer (some ⟨a,0,none⟩))) (.pointer (some ⟨t,0,none⟩))) (.slice none 0 0)) (.slice none 0 0);have r0:=cell_at (j:=0) e rfl;have r1:=cell_at (j:=1) e rfl;have r2:=cell_at (j:=2) e rfl;have r3:=cell_at (j:=3) e rfl;refine bodyPost_ret (v:=.tuple #[.agg #[.pointer (some ⟨a,0,none⟩),.pointer (some ⟨t,0,none⟩),.slice none 0 0,.slice none 0 0],.int .i64 0]) (by simp [results,Tryz.results154,go_sem,r0,r1,r2,r3]) rfl ⟨a,F,rfl,HA.out _ ?_,?_,HS.out⟩
 ·exact ((((Upd.refl _ w1).setCell (.inl (by simp)) _).setCell (.inl (by simp)) _).setCell (.inl (by simp)) _).setCell (.inl (by simp)) _
 ·exact (((HU.out.setCell (.inr (Nat.le_refl _)) _).setCell (.inr (Nat.le_refl _)) _).setCell (.inr (Nat.le_refl _)) _).setCell (.inr (Nat.le_refl _)) _
theorem knew_end {n m g tb a g2 cap2:Nat} {w w1 w2 w3 w5:World} {FT FA:List Nat} (h1:1<=n) (hn:n<=64) (h2:2<=m) (hm:m<=1048576)
  (ho:w1.ownsRow w.heap.size 3 1 (.slice (some ⟨g,0,none⟩) n n) n (flatN (List.range n))) (u1:Upd [] w w1) (hgl:w.heap.size<=g/\g<w1.heap.size)
  (ht:TabAt w2 tb (List.replicate n (.map [])) FT) (u2:Upd [] w1 w2) (s2:Sub [] w1 FT) (ha:ArenaAt w3 a (ArenaV.new m) FA) (u3:Upd [] w2 w3) (s3:Sub [] w2 FA)
  (u5:Upd [] w3 w5) (ho2:w5.ownsRow (w3.heap.size+1) 3 1 (.slice (some ⟨g2,0,none⟩) n cap2) n (flatN (List.range n))) :
  KerIn (w5.alloc (.cells #[.pointer (some ⟨a,0,none⟩),.pointer (some ⟨tb,0,none⟩),.slice none 0 0,.slice none 0 0,.int .i64 n,.slice (some ⟨g,0,none⟩) n n,.slice (some ⟨g2,0,none⟩) n cap2,.slice none 0 0] 204)) w5.heap.size (KV.new n m) (List.replicate n (.map []))
   ⟨a,tb,.slice none 0 0,.slice none 0 0,.slice (some ⟨g,0,none⟩) n n,.slice (some ⟨g2,0,none⟩) n cap2,.slice none 0 0,FA,FT,fun k=>if k<w1.heap.size then 5 else if k<w2.heap.size then 2 else if k<w3.heap.size then 1 else if k<w5.heap.size then 6 else 0⟩ /\
  Upd [] w (w5.alloc (.cells #[.pointer (some ⟨a,0,none⟩),.pointer (some ⟨tb,0,none⟩),.slice none 0 0,.slice none 0 0,.int .i64 n,.slice (some ⟨g,0,none⟩) n n,.slice (some ⟨g2,0,none⟩) n cap2,.slice none 0 0] 204)) /\
  Sub [] w ((⟨a,tb,.slice none 0 0,.slice none 0 0,.slice (some ⟨g,0,none⟩) n n,.slice (some ⟨g2,0,none⟩) n cap2,.slice none 0 0,FA,FT,fun k=>if k<w1.heap.size then 5 else if k<w2.heap.size then 2 else if k<w3.heap.size then 1 else if k<w5.heap.size then 6 else 0⟩ : KPtr).all w5.heap.size):=by
 have z1:=u1.size;have z2:=u2.size;have z3:=u3.size;have z5:=u5.size;have hg2:=ho2.lt g2 rfl;have lT:=ht.lt;have lA:=ha.lt
 have sT:∀ k,k∈FT->w1.heap.size<=k:=fun k hk=>(s2 k hk).elim (fun h=>by simp at h) id
 have sA:∀ k,k∈FA->w2.heap.size<=k:=fun k hk=>(s3 k hk).elim (fun h=>by simp at h) id
 have U:=(u5.alloc (.cells #[.pointer (some ⟨a,0,none⟩),.pointer (some ⟨tb,0,none⟩),.slice none 0 0,.slice none 0 0,.int .i64 n,.slice (some ⟨g,0,none⟩) n n,.slice (some ⟨g2,0,none⟩) n cap2,.slice none 0 0] 204));refine ⟨⟨⟨heap_alloc_new w5 _,ha.upd U (by simp),ht.upd (u3.trans U) (by simp),World.ownsRow_nil _ _ _ _,World.ownsRow_nil _ _ _ _,?_,?_,World.ownsRow_nil _ _ _ _,?_,?_,?_,?_,?_,?_,?_,?_⟩,TInv.new n m,KV.new_ok h1 hn h2 hm⟩,?_,?_⟩
 ·have e:(KV.new n m).order.length=n:=by simp [KV.new]
  rw [e]
  refine row_keep (row_base ho (Nat.zero_le _)) fun k hk=>?_
  simp [Value.ownBlock] at hk;subst hk
  rw [U.block _ (by omega) (by simp),u3.block _ (by omega) (by simp),u2.block _ hgl.2 (by simp)]
 ·have e:(KV.new n m).level.length=n:=by simp [KV.new]
  rw [e];exact (row_base ho2 (Nat.zero_le _)).alloc _
 ·show (if _ then _ else _)=0
  rw [if_neg (by omega),if_neg (by omega),if_neg (by omega),if_neg (by omega)]
 ·intro k hk
  have:=sA k hk;have:=lA k hk
  show (if _ then _ else _)=1
  rw [if_neg (by omega),if_neg (by omega),if_pos (by omega)]
 ·intro k hk
  have:=sT k hk;have:=lT k hk
  show (if _ then _ else _)=2
  rw [if_neg (by omega),if_pos (by omega)]
 ·intro k hk;simp [Value.ownBlock] at hk
 ·intro k hk;simp [Value.ownBlock] at hk
 ·intro k hk
  simp [Value.ownBlock] at hk;subst hk
  show (if _ then _ else _)=5
  rw [if_pos hgl.2]
 ·intro k hk
  simp [Value.ownBlock] at hk;subst hk
  show (if _ then _ else _)=6
  rw [if_neg (by omega),if_neg (by omega),if_neg (by omega),if_pos hg2.2]
 ·intro k hk;simp [Value.ownBlock] at hk
 ·exact u1.trans (u2.trans (u3.trans U))
 ·intro k hk
  right
  simp only [KPtr.mem,Value.ownBlock] at hk
  simp at hk
  rcases hk with rfl | hk | hk | hk | hk
  ·omega
  ·have:=sA k hk;omega
  ·have:=sT k hk;omega
  ·omega
  ·omega
theorem knew_spec (n m:Nat) (w:World) (h1:1<=n) (hn:n<=64) (h2:2<=m) (hm:m<=1048576) :
  Calls Tryz.prog 63 #[.int .i64 n,.int .i64 m] w fun e w'=>∃ (b:Nat) (T:List DM) (q:KPtr),e=.returned (.tuple #[.pointer (some ⟨b,0,none⟩),.int .i64 0])/\KerIn w' b (KV.new n m) T q/\Upd [] w w'/\Sub [] w (q.all b):=by
 have hd1:decide ((n:Int)<1)=false:=by simp;omega
 have hd2:decide ((m:Int)<2)=false:=by simp;omega
 have hd3:decide ((1048576:Int)<(m:Int))=false:=by simp;omega
 have hd4:decide (1048576<m)=false:=by simp;omega
 have hd5:decide (m<2)=false:=by simp;omega
 have hd6:decide (n<1)=false:=by simp;omega
 go_enter Tryz.func63,Tryz.ntmps63
 go_wp2_with fail;refine (ident_ok n w hn).mono ?_;rintro e w1 ⟨g,rfl,ho,hu⟩;have hgl:=ho.lt g rfl;have HO:=Lib.hid (And.intro ho hu);clear ho hu;go_wp2_with fail;refine (tnew_spec n _ h1 hn).mono ?_;rintro e w2 ⟨tb,FT,rfl,ht,hu2,hs2⟩;have HT:=Lib.hid (And.intro ht (And.intro hu2 hs2));clear ht hu2 hs2;go_wp2_with fail;refine (newStore_spec m tb _ h2 hm).mono ?_;rintro e w3 ⟨a,FA,rfl,ha,hu3,hs3⟩;have HA:=Lib.hid (And.intro ha (And.intro hu3 hs3));clear ha hu3 hs3;have HN:=heap_alloc_new w3 (.cells #[.pointer (some ⟨a,0,none⟩),.pointer (some ⟨tb,0,none⟩),.slice none 0 0,.slice none 0 0] 202)
 have HCL:Hid (Calls Tryz.prog 134 #[.slice (some ⟨g,0,none⟩) n n] (w3.alloc (.cells #[.pointer (some ⟨a,0,none⟩),.pointer (some ⟨tb,0,none⟩),.slice none 0 0,.slice none 0 0] 202)).drew fun e w' =>
   ∃ (g2 cap:Nat),e=.returned (.slice (some ⟨g2,0,none⟩) n cap)/\w'.ownsRow (w3.heap.size+1) 3 1 (.slice (some ⟨g2,0,none⟩) n cap) n (flatN (List.range n))/\Upd [] (w3.alloc (.cells #[.pointer (some ⟨a,0,none⟩),.pointer (some ⟨tb,0,none⟩),.slice none 0 0,.slice none 0 0] 202)).drew w'):=by
  have hs2:=HT.out.2.1;have hs3:=HA.out.2.1
  have hrow:(w3.alloc (.cells #[.pointer (some ⟨a,0,none⟩),.pointer (some ⟨tb,0,none⟩),.slice none 0 0,.slice none 0 0] 202)).drew.ownsRow 0 3 1 (.slice (some ⟨g,0,none⟩) n n) (List.range n).length (flatN (List.range n)):=by
   rw [List.length_range];refine row_drew ((row_keep (row_base HO.out.1 (Nat.zero_le _)) fun k hk=>?_).alloc _)
   simp [Value.ownBlock] at hk;subst hk
   rw [hs3.block _ (by have:=hs2.size;omega) (by simp),hs2.block _ hgl.2 (by simp)]
  refine (clone_spec _ (List.range n) _ hrow (by simpa using h1) (by simp;omega)).mono ?_;rintro e w' ⟨g2,cap,rfl,ho,hu⟩;refine ⟨g2,cap,by rw [List.length_range],?_,hu⟩;rw [List.length_range] at ho;refine row_base ho ?_
  show _<=(w3.alloc _).heap.size
  rw [World.size_alloc];omega
 obtain ⟨x0,x1,x2,x3⟩ : (w3.alloc (.cells #[.pointer (some ⟨a,0,none⟩),.pointer (some ⟨tb,0,none⟩),.slice none 0 0,.slice none 0 0] 202)).drew.cell? ⟨w3.heap.size,0,none⟩=some (.pointer (some ⟨a,0,none⟩)) /\
   (w3.alloc (.cells #[.pointer (some ⟨a,0,none⟩),.pointer (some ⟨tb,0,none⟩),.slice none 0 0,.slice none 0 0] 202)).drew.cell? ⟨w3.heap.size,1,none⟩=some (.pointer (some ⟨tb,0,none⟩)) /\
   (w3.alloc (.cells #[.pointer (some ⟨a,0,none⟩),.pointer (some ⟨tb,0,none⟩),.slice none 0 0,.slice none 0 0] 202)).drew.cell? ⟨w3.heap.size,2,none⟩=some (.slice none 0 0) /\
   (w3.alloc (.cells #[.pointer (some ⟨a,0,none⟩),.pointer (some ⟨tb,0,none⟩),.slice none 0 0,.slice none 0 0] 202)).drew.cell? ⟨w3.heap.size,3,none⟩=some (.slice none 0 0):=⟨cell_at HN rfl,cell_at HN rfl,cell_at HN rfl,cell_at HN rfl⟩
 have HN:=Lib.hid HN;go_wp2_with fail
 go_region_held3 (fun w'=>w'.cell? ⟨w3.heap.size,0,none⟩=some (.pointer (some ⟨a,0,none⟩))/\w'.cell? ⟨w3.heap.size,1,none⟩=some (.pointer (some ⟨tb,0,none⟩))/\w'.cell? ⟨w3.heap.size,2,none⟩=some (.slice none 0 0)/\w'.cell? ⟨w3.heap.size,3,none⟩=some (.slice none 0 0)) (first | exact ⟨x0,x1,x2,x3⟩ | exact held4 HC.out.2 x0 x1 x2 x3 (by simp) (by simp) (by simp) (by simp) | exact held4 (HC.out.2.alloc _) x0 x1 x2 x3 (by simp) (by simp) (by simp) (by simp)) (first | (go_at_call 134;refine HCL.out.mono ?_;rintro e w5 ⟨g2,cap2,rfl,ho2,hu5⟩;have HC:=Lib.hid (And.intro ho2 hu5);clear ho2 hu5))
 have HE:=Lib.hid (knew_end h1 hn h2 hm HO.out.1 HO.out.2 hgl HT.out.1 HT.out.2.1 HT.out.2.2 HA.out.1 HA.out.2.1 HA.out.2.2 ((((Upd.refl [] w3).alloc _).drew).trans HC.out.2) HC.out.1);clear HC HCL HN HA HT HO;go_wp2_with fail;go_ret2;exact ⟨_,_,_,rfl,HE.out⟩
theorem Tryz.infoRefA:(Tryz.prog.info? 54).map (fun i=>(i.zero,i.size,i.bytes))=some (some (.int .u32 0),1,4):=by kernel_rfl
theorem KV.Ok.tk_const {K:KV} (h:K.Ok) {r:Nat} (h2:r<2):K.A.tk r=true:=by
 obtain rfl | rfl:r=0\/r=1:=by omega
 ·exact h.wf.ok.tk01.1
 ·exact h.wf.ok.tk01.2
def KV.mix (K:KV) (l:Nat) (a x:Nat->Bool):Nat->Bool:=fun v=>if v<K.vars/\K.lev v<l then a v else x v
def KV.SubN (K:KV) (t g:(Nat->Bool)->Bool):Prop:=∃ (l:Nat) (a:Nat->Bool),∀ x,g x=t (K.mix l a x)
theorem KV.Ext.mix {K K':KV} (h:K.Ext K') (l:Nat) (a x:Nat->Bool):K'.mix l a x=K.mix l a x:=by
 funext v;simp [KV.mix,h.vr,h.lev]
theorem KV.Ok.ref_lt {K:KV} (hk:K.Ok) {r:Nat} (ht:K.A.tk r=true):r<1048576:=by
 by_cases h2:2<=r
 ·have:=hk.wf.tk_lt h2 ht;omega
 ·omega
end Go.Proofs.YtpfafhmkbcahhaaGreat
namespace Go.Proofs.YtpfafhmkbcahhaaGreat
theorem KV.node_unique {K:KV} (hk:K.Ok) (hu:K.Uni) {n r1 r2 x:Nat} (hn:n<K.vars) (t1:K.A.tk r1=true) (t2:K.A.tk r2=true) (l1:K.lev n<K.dep r1) (l2:K.lev n<K.dep r2) (hne:r1≠r2) (tx:K.A.tk x=true)
  (he:∀ y,K.den x y=if y n then K.den r2 y else K.den r1 y):K.At x n r1 r2:=by
 have can:∀ {a b:Nat},K.A.tk a=true->K.A.tk b=true->(∀ y,K.den a y=K.den b y)->a=b:=fun ha hb h=>KV.canon hk.wf hk.ord hu _ _ _ ha hb (Nat.le_refl _) h
 have e0:∀ y,K.den x (upd y n false)=K.den r1 y:=fun y=>by
  rw [he,upd_self];simp;exact KV.den_upd hk.wf hk.ord t1 hn l1 y false
 have e1:∀ y,K.den x (upd y n true)=K.den r2 y:=fun y=>by
  rw [he,upd_self];simp;exact KV.den_upd hk.wf hk.ord t2 hn l2 y true
 have far:K.lev n<K.dep x->False:=fun h=>by
  refine hne (can t1 t2 fun y=>?_);rw [<- e0,<- e1,KV.den_upd hk.wf hk.ord tx hn h,KV.den_upd hk.wf hk.ord tx hn h]
 have hln:=(hk.ord.pm.lo n hn).1
 by_cases h2:2<=x
 ·obtain ⟨p,u,hp,hpt,hv,hul,c1,c2,hd⟩:=hk.wf.node_at h2 tx
  have hb:=hk.ord.below hk.wf h2 hp hpt
  by_cases hlt:K.lev u<K.lev n
  ·exfalso
   have ind:∀ b y,K.den x (upd y u b)=K.den x y:=fun b y=>by
    have d1:=KV.den_upd hk.wf hk.ord t1 hul (show K.lev u<K.dep r1 by omega) y b;have d2:=KV.den_upd hk.wf hk.ord t2 hul (show K.lev u<K.dep r2 by omega) y b;have en:upd y u b n=y n:=upd_ne y b (by rintro rfl;omega);rw [he,he,en,d1,d2]
   refine hk.ord.ne x p h2 hp hpt (can c1 c2 fun y=>?_);have a:=KV.den_lo hk.wf hk.ord h2 hp hpt y;have b:=KV.den_hi hk.wf hk.ord h2 hp hpt y;rw [show p.var.toNat=u by omega] at a b;rw [<- a,<- b,ind,ind]
  ·have:¬ K.lev n<K.lev u:=fun h=>far (by omega)
   have eun:u=n:=hk.ord.pm.inj hul hn (by omega);subst eun;refine ⟨h2,p,hp,hpt,hv,can c1 t1 fun y=>?_,can c2 t2 fun y=>?_⟩
   ·have a:=KV.den_lo hk.wf hk.ord h2 hp hpt y
    rw [show p.var.toNat=u by omega] at a;rw [<- a,e0]
   ·have a:=KV.den_hi hk.wf hk.ord h2 hp hpt y
    rw [show p.var.toNat=u by omega] at a;rw [<- a,e1]
 ·exact (far (by rw [hk.wf.dep_const (by omega)];exact hln)).elim
theorem KV.At.den {K:KV} (hk:K.Ok) {r n lo hi:Nat} (h:K.At r n lo hi) (x:Nat->Bool):K.den r x=if x n then K.den hi x else K.den lo x:=by
 obtain ⟨h2,p,hp,hpt,e1,e2,e3⟩:=h;rw [KV.den_node hk.wf hk.ord h2 hp hpt,e1,e2,e3,Int.toNat_natCast]
theorem upd_id (x:Nat->Bool) (n:Nat):upd x n (x n)=x:=by funext v;unfold upd;split <;> simp_all
end Go.Proofs.YtpfafhmkbcahhaaGreat
namespace Go.Proofs.YtpfafhmkbcahhaaGreat
open Go.RowKit Go.Maps Go.ChangeMaps Go.WideShapes
def Enters (fl:Nat):Prop:=∀ (args:Array Value) (w:World),(callFunc fl args).run Tryz.prog w=.ok (.enter fl args) w
end Go.Proofs.YtpfafhmkbcahhaaGreat
namespace Go.Proofs.YtpfafhmkbcahhaaGreat
theorem ext_back {K0 K1 K':KV} (h0:K0.Ok) (h':K'.Ok) (e0:K0.Ext K1) (e':K'.Ext K1) (hd:∀ x,0<K0.hold x->0<K'.hold x):K0.Ext K':=by
 have same:∀ (r:Nat) (p:PlaceV),K0.A.list[r]?=some p->p.taken=true->K'.A.tk r=true->K'.A.list[r]?=some p:=by
  intro r p hp hpt ht
  obtain ⟨p',hp',hpt'⟩:=ArenaV.tk_iff.1 ht;have a:=e0.nd r p hp hpt;have b:=e'.nd r p' hp' hpt'
  rw [a] at b;cases b;exact hp'
 have reach:∀ {r:Nat},K0.Reach r->K'.A.tk r=true:=by
  intro r hr
  induction hr with
  | root h=>exact (h'.wf.ht _ (hd _ h)).2
  | lo _ h2 hp hpt ih=>exact (h'.wf.cl _ _ h2 (same _ _ hp hpt ih) hpt).1
  | hi _ h2 hp hpt ih=>exact (h'.wf.cl _ _ h2 (same _ _ hp hpt ih) hpt).2
 refine ⟨fun r p hp hpt=>same r p hp hpt ?_,by rw [<- e'.pl,e0.pl],by rw [<- e'.vr,e0.vr],by rw [<- e'.od,e0.od],by rw [<- e'.lv,e0.lv]⟩
 by_cases h2:2<=r
 ·exact reach (KV.live_reach h0.wf h0.pos h0.ord _ r h2 (ArenaV.tk_iff.2 ⟨p,hp,hpt⟩) (Nat.le_refl _))
 ·exact h'.tk_const (by omega)
def KV.lives (K:KV):List Nat:=(List.range K.A.list.length).filter fun r=>K.A.tk r
theorem KV.mem_lives {K:KV} {x:Nat}:x∈K.lives↔K.A.tk x=true:=by
 simp only [KV.lives,List.mem_filter,List.mem_range]
 exact ⟨fun h=>h.2,fun h=>⟨ArenaV.tk_lt h,h⟩⟩
theorem KV.lives_nodup (K:KV):K.lives.Nodup:=List.Pairwise.filter _ List.nodup_range
theorem KV.lives_len {K:KV} {P:List Nat} (h:K.Wf P):K.lives.length=K.A.used:=by
 have hus:=h.ok.us
 have e1:K.A.free.length=((List.range K.A.list.length).filter fun r=>!(K.A.tk r)).length:=by
  have hfr:∀ r,r∈K.A.free↔r∈(List.range K.A.list.length).filter fun r=>!(K.A.tk r):=by
   intro r
   rw [h.ok.fr r,List.mem_filter,List.mem_range];constructor
   ·rintro ⟨p,hp,hpt⟩
    refine ⟨(List.getElem?_eq_some_iff.1 hp).1,?_⟩
    simp [ArenaV.tk,hp,hpt]
   ·rintro ⟨hl,ht⟩
    refine ⟨K.A.list[r],List.getElem?_eq_getElem hl,?_⟩
    simpa [ArenaV.tk,List.getElem?_eq_getElem hl] using ht
  refine Nat.le_antisymm ?_ ?_
  ·exact List.Nodup.length_le_of_subset h.ok.nd fun r hr=>(hfr r).1 hr
  ·exact List.Nodup.length_le_of_subset (List.Pairwise.filter _ List.nodup_range) fun r hr=>(hfr r).2 hr
 have e2:(List.range K.A.list.length).length=K.lives.length+((List.range K.A.list.length).filter fun r=>!(K.A.tk r)).length:=by
  rw [KV.lives,<- List.countP_eq_length_filter,<- List.countP_eq_length_filter];have hh:=List.length_eq_countP_add_countP (fun r=>K.A.tk r) (l:=List.range K.A.list.length);rw [hh]
  congr 2
  funext a
  cases K.A.tk a <;> rfl
 rw [List.length_range] at e2;omega
theorem KV.used_ge {K:KV} {P:List Nat} (h:K.Wf P) {l:List Nat} (hn:l.Nodup) (hl:∀ x,x∈l->K.A.tk x=true):l.length<=K.A.used:=by
 rw [<- K.lives_len h]
 exact List.Nodup.length_le_of_subset hn fun x hx=>KV.mem_lives.2 (hl x hx)
theorem KV.sub_live {K:KV} (hk:K.Ok) (l:Nat) (a:Nat->Bool):∀ (n r:Nat),K.vars-K.dep r<=n->K.A.tk r=true->∃ x,K.A.tk x=true/\∀ y,K.den x y=K.den r (K.mix l a y)
 | n,r,hn,ht=>by
  by_cases hl:l<=K.dep r
  ·refine ⟨r,ht,fun y=>KV.den_same hk.wf hk.ord _ r _ _ ht (Nat.le_refl _) fun v hv hd=>?_⟩
   simp only [KV.mix]
   rw [if_neg (by omega)]
  ·by_cases h2:2<=r
   ·obtain ⟨p,v,hp,hpt,hv,hvl,h3,h4,hd⟩:=hk.wf.node_at h2 ht
    have hb:=hk.ord.below hk.wf h2 hp hpt;have hdl:=hk.wf.dep_lt hk.ord h2 ht;have hlo:=hk.wf.dep_le hk.ord h3;have hhi:=hk.wf.dep_le hk.ord h4
    match n,hn with
    | 0,hn=>omega
    | n+1,hn =>
     have em:∀ y,K.mix l a y v=a v:=fun y=>by simp only [KV.mix];rw [if_pos ⟨hvl,by omega⟩]
     have e:∀ y,K.den r (K.mix l a y)=if a v then K.den p.hi (K.mix l a y) else K.den p.lo (K.mix l a y):=fun y=>by
      rw [KV.den_node hk.wf hk.ord h2 hp hpt,show p.var.toNat=v by omega,em]
     cases ha:a v with
     | true =>
      obtain ⟨x,tx,hx⟩:=KV.sub_live hk l a n p.hi (by omega) h4;exact ⟨x,tx,fun y=>by rw [hx,e,ha];simp⟩
     | false =>
      obtain ⟨x,tx,hx⟩:=KV.sub_live hk l a n p.lo (by omega) h3;exact ⟨x,tx,fun y=>by rw [hx,e,ha];simp⟩
   ·refine ⟨r,ht,fun y=>?_⟩
    rw [K.den_const (by omega),K.den_const (by omega)]
end Go.Proofs.YtpfafhmkbcahhaaGreat
namespace Go.Proofs.YtpfafhmkbcahhaaGreat
open Go.RowKit Go.Maps Go.ChangeMaps Go.WideShapes
theorem flatN_set (l:List Nat) (r n:Nat):(flatN l).set r (.int .i64 n)=flatN (l.set r n):=by simp [flatN,List.map_set]
theorem KerMem.setOrder {w:World} {b g n' c r n:Nat} {K:KV} {T:List DM} {q:KPtr} (h:KerMem w b K T q) (hq:q.ov=.slice (some ⟨g,0,none⟩) n' c) (hr:r<K.order.length) :
  KerMem (w.setCell ⟨g,r,none⟩ (.int .i64 n)) b { K with order:=K.order.set r n } T q:=by
 have hg:q.o g=5:=h.oo g (by rw [hq];rfl)
 have hne:∀ {k c},q.o k=c->c≠5->k≠g:=fun {k c} hk hc hm=>hc (by rw [<- hk,hm,hg])
 have hk:∀ {k c},q.o k=c->c≠5->(w.setCell ⟨g,r,none⟩ (.int .i64 n)).heap[k]?=w.heap[k]?:=fun hk hc=>heap_set_ne (hne hk hc)
 refine ⟨by rw [hk h.ob (by omega)];exact h.blk,h.ar.keep fun k hm=>hk (h.oa k hm) (by omega),h.tab.keep fun k hm=>hk (h.ot k hm) (by omega),row_keep h.us fun k hm=>hk (h.ou k hm) (by omega),
  row_keep h.hs fun k hm=>hk (h.oh k hm) (by omega),?_,row_keep h.ls fun k hm=>hk (h.ol k hm) (by omega),row_keep h.ts fun k hm=>hk (h.ox k hm) (by omega),
  h.ob,h.oa,h.ot,h.ou,h.oh,h.oo,h.ol,h.ox⟩
 have hu:=h.os;rw [hq] at hu ⊢;have:=row_set hu (j:=r) (by omega) (.int .i64 n);rw [flatN_set] at this
 simpa using this
theorem KerMem.setLevel {w:World} {b g n' c r n:Nat} {K:KV} {T:List DM} {q:KPtr} (h:KerMem w b K T q) (hq:q.lv=.slice (some ⟨g,0,none⟩) n' c) (hr:r<K.level.length) :
  KerMem (w.setCell ⟨g,r,none⟩ (.int .i64 n)) b { K with level:=K.level.set r n } T q:=by
 have hg:q.o g=6:=h.ol g (by rw [hq];rfl)
 have hne:∀ {k c},q.o k=c->c≠6->k≠g:=fun {k c} hk hc hm=>hc (by rw [<- hk,hm,hg])
 have hk:∀ {k c},q.o k=c->c≠6->(w.setCell ⟨g,r,none⟩ (.int .i64 n)).heap[k]?=w.heap[k]?:=fun hk hc=>heap_set_ne (hne hk hc)
 refine ⟨by rw [hk h.ob (by omega)];exact h.blk,h.ar.keep fun k hm=>hk (h.oa k hm) (by omega),h.tab.keep fun k hm=>hk (h.ot k hm) (by omega),row_keep h.us fun k hm=>hk (h.ou k hm) (by omega),
  row_keep h.hs fun k hm=>hk (h.oh k hm) (by omega),row_keep h.os fun k hm=>hk (h.oo k hm) (by omega),?_,row_keep h.ts fun k hm=>hk (h.ox k hm) (by omega),
  h.ob,h.oa,h.ot,h.ou,h.oh,h.oo,h.ol,h.ox⟩
 have hu:=h.ls;rw [hq] at hu ⊢;have:=row_set hu (j:=r) (by omega) (.int .i64 n);rw [flatN_set] at this
 simpa using this
theorem KerMem.growTrail {w w5:World} {b g5 cap l:Nat} {X:Obj} {K:KV} {T:List DM} {q:KPtr} (h:KerMem w b K T q) (hg:(w.alloc X).grownBy w5 q.tv.ownBlock) (hat:q.tv.ownBlock=some g5\/g5=w.heap.size+1)
  (hown:w5.ownsRow 0 3 1 (.slice (some ⟨g5,0,none⟩) (K.trail.length+1) cap) (K.trail.length+1) (flatN K.trail++[.int .i64 l])) :
  KerMem (w5.setCell ⟨b,7,none⟩ (.slice (some ⟨g5,0,none⟩) (K.trail.length+1) cap)) b { K with trail:=K.trail++[l] } T { q with tv:=.slice (some ⟨g5,0,none⟩) (K.trail.length+1) cap,o:=retag q w.heap.size 7 }:=by
 have hb:=heap_lt h.blk
 have hbg:b≠g5:=by
  rcases hat with e | e
  ·rintro rfl;have e1:=h.ob;have e2:=h.ox b e;omega
  ·omega
 have keep:∀ {k c:Nat},q.o k=c->c≠7->c≠0->k<w.heap.size->(w5.setCell ⟨b,7,none⟩ (.slice (some ⟨g5,0,none⟩) (K.trail.length+1) cap)).heap[k]?=w.heap[k]?:=by
  intro k c hk hc h0 hl
  rw [heap_set_ne (by rintro rfl;exact h0 (hk ▸ h.ob)),hg.block k (by rw [World.size_alloc];omega) (fun e=>hc (hk ▸ h.ox k e.symm)),Below.heap_alloc _ _ _ hl]
 have hbk:w5.heap[b]?=w.heap[b]?:=by
  rw [hg.block b (by rw [World.size_alloc];omega) (fun e=>by have e1:=h.ob;have e2:=h.ox b e.symm;omega),Below.heap_alloc _ _ _ hb]
 rw [h.blk] at hbk
 refine ⟨by rw [heap_set_eq hbk];simp,h.ar.keep fun k hm=>keep (h.oa k hm) (by omega) (by omega) (h.ar.lt k hm),h.tab.keep fun k hm=>keep (h.ot k hm) (by omega) (by omega) (h.tab.lt k hm),
  row_keep h.us fun k hm=>keep (h.ou k hm) (by omega) (by omega) (h.us.lt k hm).2,row_keep h.hs fun k hm=>keep (h.oh k hm) (by omega) (by omega) (h.hs.lt k hm).2,row_keep h.os fun k hm=>keep (h.oo k hm) (by omega) (by omega) (h.os.lt k hm).2,row_keep h.ls fun k hm=>keep (h.ol k hm) (by omega) (by omega) (h.ls.lt k hm).2,?_,?_,?_,?_,?_,?_,?_,?_,?_⟩
 ·show World.ownsRow _ 0 _ 1 _ (K.trail++[l]).length (flatN (K.trail++[l]))
  have e:=row_ne hown (a:=⟨b,7,none⟩) (by simpa [Value.ownBlock] using hbg) (.slice (some ⟨g5,0,none⟩) (K.trail.length+1) cap)
  simpa [flatN] using e
 ·show retag q _ _ b=0
  rw [retag_old hb];exact h.ob
 ·intro k hk;show retag q _ _ k=1;rw [retag_old (h.ar.lt k hk)];exact h.oa k hk
 ·intro k hk;show retag q _ _ k=2;rw [retag_old (h.tab.lt k hk)];exact h.ot k hk
 ·intro k hk;show retag q _ _ k=3;rw [retag_old (h.us.lt k hk).2];exact h.ou k hk
 ·intro k hk;show retag q _ _ k=4;rw [retag_old (h.hs.lt k hk).2];exact h.oh k hk
 ·intro k hk;show retag q _ _ k=5;rw [retag_old (h.os.lt k hk).2];exact h.oo k hk
 ·intro k hk;show retag q _ _ k=6;rw [retag_old (h.ls.lt k hk).2];exact h.ol k hk
 ·intro k hk
  simp [Value.ownBlock] at hk;subst hk
  show retag q _ _ g5=7
  rcases hat with e | e
  ·rw [retag_old (h.ts.lt g5 e).2];exact h.ox g5 e
  ·unfold retag;rw [if_pos (by omega)]
def KV.swapK (K:KV) (l:Nat):KV:={ K with order:=(K.order.set l (K.order.getD (l+1) 0)).set (l+1) (K.order.getD l 0),level:=(K.level.set (K.order.getD l 0) (l+1)).set (K.order.getD (l+1) 0) l }
theorem getD_eq_some {l:List Nat} {i:Nat} (h:i<l.length):l[i]?=some (l.getD i 0):=by
 rw [List.getD_eq_getElem?_getD,List.getElem?_eq_getElem h];rfl
theorem KV.Perm.swap {K:KV} (h:K.Perm) {l:Nat} (hl:l+2<=K.vars):(K.swapK l).Perm/\(∀ j,(K.swapK l).order.getD j 0=if j=l+1 then K.order.getD l 0 else if j=l then K.order.getD (l+1) 0 else K.order.getD j 0) /\
  ∀ v,(K.swapK l).lev v=if v=K.order.getD (l+1) 0 then l else if v=K.order.getD l 0 then l+1 else K.lev v:=by
 have hx:=h.oo l (by omega);have hy:=h.oo (l+1) (by omega);have hol:=h.ol;have hll:=h.ll
 have ho:∀ j,(K.swapK l).order.getD j 0=if j=l+1 then K.order.getD l 0 else if j=l then K.order.getD (l+1) 0 else K.order.getD j 0:=fun j=>by
  simp only [KV.swapK]
  rw [getD_set (by rw [List.length_set];omega),getD_set (by omega)]
 have hv:∀ v,(K.swapK l).lev v=if v=K.order.getD (l+1) 0 then l else if v=K.order.getD l 0 then l+1 else K.lev v:=fun v=>by
  simp only [KV.swapK,KV.lev]
  rw [getD_set (by rw [List.length_set];omega),getD_set (by omega)]
 have hne:K.order.getD l 0≠K.order.getD (l+1) 0:=fun e=>by rw [e] at hx;omega
 refine ⟨⟨by simpa [KV.swapK] using hol,by simpa [KV.swapK] using hll,fun v hvl=>?_,fun j hj=>?_⟩,ho,hv⟩
 ·have hl1:=h.lo v hvl
  rw [hv]
  by_cases e1:v=K.order.getD (l+1) 0
  ·rw [if_pos e1,ho,if_neg (by omega),if_pos rfl]
   exact ⟨by show l<K.vars;omega,e1.symm⟩
  ·rw [if_neg e1]
   by_cases e2:v=K.order.getD l 0
   ·rw [if_pos e2,ho,if_pos rfl]
    exact ⟨by show l+1<K.vars;omega,e2.symm⟩
   ·rw [if_neg e2,ho]
    have n1:K.lev v≠l+1:=fun e=>e1 (by rw [<- hl1.2,e])
    have n2:K.lev v≠l:=fun e=>e2 (by rw [<- hl1.2,e])
    rw [if_neg n1,if_neg n2];exact hl1
 ·have hj':j<K.vars:=hj
  have hj1:=h.oo j hj';rw [ho]
  by_cases e1:j=l+1
  ·rw [if_pos e1,hv,if_neg hne,if_pos rfl]
   exact ⟨hx.1,e1.symm⟩
  ·rw [if_neg e1]
   by_cases e2:j=l
   ·rw [if_pos e2,hv,if_pos rfl]
    exact ⟨hy.1,e2.symm⟩
   ·rw [if_neg e2,hv]
    have n1:K.order.getD j 0≠K.order.getD (l+1) 0:=fun e=>by rw [e] at hj1;omega
    have n2:K.order.getD j 0≠K.order.getD l 0:=fun e=>by rw [e] at hj1;omega
    rw [if_neg n1,if_neg n2];exact hj1
theorem KV.bare_tk {K:KV} (hw:K.Wf []) (h:K.A.used=2) {r:Nat} (ht:K.A.tk r=true):r<2:=by
 by_cases h2:r<2
 ·exact h2
 ·have h01:=hw.ok.tk01
  have:=K.used_ge hw (l:=[0,1,r]) (by simp;omega) (fun x hx=>by
   simp at hx
   rcases hx with rfl | rfl | rfl
   ·exact h01.1
   ·exact h01.2
   ·exact ht)
  simp at this;omega
theorem TInv.bare {T:List DM} {K:KV} {X:List Nat} (h:TInv T K X) (hw:K.Wf []) (hb:K.A.used=2) {v:Nat} {D:DM} (hv:T[v]?=some D) (k:Lit):Maps.has D k=false:=by
 cases e:Maps.has D k with
 | false=>rfl
 | true =>
  obtain ⟨r,p,h2,hp,hpt,_⟩:=h.dom v D k hv e;have:=KV.bare_tk hw hb (ArenaV.tk_iff.2 ⟨p,hp,hpt⟩);omega
theorem KV.Ok.swap_bare {K:KV} (h:K.Ok) (hb:K.A.used=2) {l:Nat} (hl:l+2<=K.vars):(K.swapK l).Ok:=by
 have hw:=h.wf
 have no:∀ (q:Nat) (p:PlaceV),2<=q->K.A.list[q]?=some p->p.taken=true->False:=fun q p h2 hp hpt=>by
  have:=KV.bare_tk hw hb (ArenaV.tk_iff.2 ⟨p,hp,hpt⟩);omega
 refine ⟨⟨hw.ok,hw.len,hw.ul,hw.tu,hw.ht,hw.hm,hw.eq,hw.pt,hw.cl,hw.vr,hw.vs⟩,h.pos,⟨(h.ord.pm.swap hl).1,fun q p h2 hp hpt=>(no q p h2 hp hpt).elim,fun q p h2 hp hpt=>(no q p h2 hp hpt).elim⟩,h.tl⟩
end Go.Proofs.YtpfafhmkbcahhaaGreat
