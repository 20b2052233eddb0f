import Derived.Test.YtpfafhmkbcahhaaGreatPS7
import Derived.Deep.RegionHeld3
import Derived.Deep.DeepCutAuto
namespace Go.Proofs.YtpfafhmkbcahhaaGreat
open Go.RowKit Go.Maps Go.ChangeMaps Go.WideShapes
set_option maxRecDepth 100000 in
set_option maxHeartbeats 800000 in
theorem clone_spec (sv:Value) (l:List Nat) (w:World) (h:w.ownsRow 0 3 1 sv l.length (flatN l)) (h1:1≤l.length) (hn:l.length≤1048576) :
    Calls Tryz.prog 134 #[sv] w fun e w'=>∃ (g cap:Nat),e=.returned (.slice (some ⟨g,0,none⟩) l.length cap)∧w'.ownsRow w.heap.size 3 1 (.slice (some ⟨g,0,none⟩) l.length cap) l.length (flatN l)∧Upd [] w w':=by
  obtain ⟨fa,fc,rfl,_⟩:=row_nil_len h;obtain ⟨g0,rfl⟩:=row_some h (by omega);obtain ⟨i,hi0,hz0,hz1',hz2⟩:=info_parts Tryz.infoIntI;have HI:=Lib.hid hi0;have HZ:=Lib.hid hz0;have HZ1:=Lib.hid hz1';have HZ2:=Lib.hid hz2;have HR:=Lib.hid h;have HCS:Hid (∀ j u,(flatN l)[j]?=some u→w.cell? ((⟨g0,0,none⟩ : Addr).add j)=some u):=h.cells rfl
  have HC2:Hid (∀ u,u∈flatN l→u.oneCell'=true):=by
    intro u hu
    obtain ⟨a,_,rfl⟩:=List.mem_map.1 hu;rfl
  have hlen:(flatN l).length=l.length * 1:=by simp [flatN]
  generalize hll:l.length=n at *;clear h hi0 hz0 hz1' hz2
  go_enter Tryz.func134,Tryz.ntmps134
  have hbin:∀ (w:World),(binOp BinOp.eql 22 (Value.slice (some ⟨g0,0,none⟩) n fc) (Value.slice none 0 0)).run Tryz.prog w=.ok (.bool false) w:=fun w=>by kernel_rfl
  have HL:Hid ((w.alloc (.cells #[] 3 (0,0))).ownsRow w.heap.size 3 1 (.slice (some ⟨w.heap.size,0,none⟩) 0 0) 0 []):=World.ownsRow_lit w #[] 0 (Nat.le_refl _) (by unfold maxLen; omega) (by simp)
  have HB:Hid (∀ j u,(flatN l)[j]?=some u→(w.alloc (.cells #[] 3 (0,0))).cell? ((⟨g0,0,none⟩ : Addr).add j)=some u):=by
    intro j u hu
    have:=HCS.out j u hu;rw [← this];exact World.cell?_of_block (heap_alloc_old w _ (World.block_lt_of_cell? _ _ this))
  have hbs:w.heap.size≤(w.alloc (.cells #[] 3 (0,0))).heap.size:=by rw [World.size_alloc]; omega
  go_wp2_with (at_builtin; go_must (refine wpList_append_lies _ rfl (.tmp 5) (.tmp 6) 22 rfl w.heap.size 3 i _ 1 8 Tryz.underlying22 HI.out HZ.out HZ1.out HZ2.out (by rfl) (by decide) _ 0 [] rfl HL.out ⟨g0,0,none⟩ n fc (flatN l) rfl hlen ?c1 HC2.out (by omega) (by unfold maxLen; omega) (by omega) hbs _ rfl ?_))
  case c1=>exact HB.out
  intro g cap w' hown hgr hat hlt
  have HE:Hid (w'.ownsRow w.heap.size 3 1 (.slice (some ⟨g,0,none⟩) n cap) n (flatN l)∧Upd [] w w'):=by
    refine ⟨by simpa using hown,((Upd.refl [] w).alloc _).grown hgr fun k hk=>?_⟩
    simp [Value.ownBlock] at hk
    right; omega
  clear hown hgr hat hlt;go_wp2_with fail;go_ret;exact ⟨g,cap,rfl,HE.out⟩
set_option maxRecDepth 100000 in
theorem order_spec (b:Nat) (K:KV) (T:List DM) (q:KPtr) (w:World) (h:KerMem w b K T q) (h1:1≤K.order.length) (hn:K.order.length≤1048576) :
    Calls Tryz.prog 38 #[.pointer (some ⟨b,0,none⟩)] w fun e w'=>∃ (g cap:Nat),e=.returned (.slice (some ⟨g,0,none⟩) K.order.length cap)∧w'.ownsRow w.heap.size 3 1 (.slice (some ⟨g,0,none⟩) K.order.length cap) K.order.length (flatN K.order)∧Upd [] w w':=by
  have c5:w.cell? ⟨b,5,none⟩=some q.ov:=cell_at h.blk rfl;have HO:=Lib.hid h.os;clear h
  go_enter Tryz.func38,Tryz.ntmps38
  go_wp2_with fail;refine (clone_spec q.ov K.order w HO.out h1 hn).mono ?_;rintro e w1 ⟨g,cap,rfl,ho,hu⟩;have HE:=Lib.hid (And.intro ho hu);clear ho hu;go_wp2_with fail;go_ret;exact ⟨g,cap,rfl,HE.out⟩
def KV.new (n m:Nat):KV:=⟨ArenaV.new m,[],[],n,List.range n,List.range n,[]⟩
theorem KV.new_ok {n m:Nat} (h1:1≤n) (hn:n≤64) (h2:2≤m) (hm:m≤1048576):(KV.new n m).Ok:=by
  have hA:=ArenaV.new_ok h2 hm
  have no:∀ (r:Nat) (p:PlaceV),2≤r→(KV.new n m).A.list[r]?=some p→False:=by
    intro r p hr hp
    have:=(List.getElem?_eq_some_iff.1 hp).1
    simp [KV.new,ArenaV.new] at this
    omega
  have notk:∀ r,2≤r→(KV.new n m).A.tk r=true→False:=fun r hr ht=>by
    obtain ⟨p,hp,_⟩:=ArenaV.tk_iff.1 ht;exact no r p hr hp
  have hold0:∀ r,(KV.new n m).hold r=0:=fun r=>by simp [KV.hold,KV.new]
  have hlev:∀ v,v < n→(KV.new n m).lev v=v:=fun v hv=>by simp [KV.lev,KV.new,hv]
  have hord:∀ v,v < n→(KV.new n m).order.getD v 0=v:=fun v hv=>by simp [KV.new,hv]
  refine ⟨⟨hA,rfl,by simp [KV.new],fun r h ht=>(notk r h ht).elim,fun r h=>by rw [hold0] at h; omega,fun r=>by rw [hold0]; omega,fun r h ht=>(notk r h ht).elim,by simp,fun q p h hp _=>(no q p h hp).elim,fun q p h hp _=>(no q p h hp).elim,h1,hn⟩,
    fun r h ht=>(notk r h ht).elim,⟨⟨by simp [KV.new],by simp [KV.new],?_,?_⟩,fun q p h hp _=>(no q p h hp).elim,fun q p h hp _=>(no q p h hp).elim⟩,by simp [KV.new]⟩
  · intro v hv
    rw [hlev v hv];exact ⟨hv,hord v hv⟩
  · intro v hv
    rw [hord v hv];exact ⟨hv,hlev v hv⟩
theorem TInv.new (n m:Nat):TInv (List.replicate n (.map [])) (KV.new n m) []:=by
  refine ⟨by simp [KV.new],?_,?_,?_⟩
  · intro v D k hD hk
    have:D=.map []:=(List.mem_replicate.1 (List.mem_of_getElem? hD)).2;subst this
    simp [Maps.has] at hk
  · intro r p D hr hp
    have:=(List.getElem?_eq_some_iff.1 hp).1
    simp [KV.new,ArenaV.new] at this
    omega
  · intro D hD
    rw [(List.mem_replicate.1 hD).2];exact isMap_empty
set_option maxRecDepth 100000 in
theorem newStore_spec (m t:Nat) (w:World) (h2:2≤m) (hm:m≤1048576) :
    Calls Tryz.prog 154 #[.int .i64 m,.pointer (some ⟨t,0,none⟩)] w fun e w'=>∃ a F,e=.returned (.tuple #[.agg #[.pointer (some ⟨a,0,none⟩),.pointer (some ⟨t,0,none⟩),.slice none 0 0,.slice none 0 0],.int .i64 0]) ∧
      ArenaAt w' a (ArenaV.new m) F∧Upd [] w w'∧Sub [] w F:=by
  go_enter Tryz.func154,Tryz.ntmps154
  go_wp2_with fail;refine (new_spec m _ h2 hm).mono ?_;rintro e w1 ⟨a,F,rfl,ha,hu,hs⟩;have hbx:w1.heap[w.heap.size]?=some (.cells #[.pointer none,.pointer none,.slice none 0 0,.slice none 0 0] 202 (0,0)):=(hu.block w.heap.size (by simp) (by simp)).trans (heap_alloc_new w _);have b0:w1.cell? ⟨w.heap.size,0,none⟩=some (.pointer none):=cell_at hbx rfl;have b1:w1.cell? ⟨w.heap.size,1,none⟩=some (.pointer none):=cell_at hbx rfl;have b2:w1.cell? ⟨w.heap.size,2,none⟩=some (.slice none 0 0):=cell_at hbx rfl;have b3:w1.cell? ⟨w.heap.size,3,none⟩=some (.slice none 0 0):=cell_at hbx rfl;have f0:=frozen_at 0 hbx;have f1:=frozen_at 1 hbx;have f2:=frozen_at 2 hbx;have f3:=frozen_at 3 hbx;have HX:=Lib.hid hbx;have HU:Hid (Upd [] w w1):=((Upd.refl [] w).alloc _).trans (hu.mono (by simp))
  have HA:Hid (∀ w2,Upd [w.heap.size] w1 w2→ArenaAt w2 a (ArenaV.new m) F):=fun w2 u=>ha.upd u (fun k hk hm=>by
    simp at hm
    have:=hs k hk
    simp at this
    omega)
  have HS:Hid (Sub [] w F):=fun k hk=>by
    have:=hs k hk
    simp at this
    right; omega
  clear hu hbx ha hs;go_wp2_with fail;have e:=heap_set_eq (j:=3) (heap_set_eq (j:=2) (heap_set_eq (j:=1) (heap_set_eq (j:=0) HX.out (.pointer (some ⟨a,0,none⟩))) (.pointer (some ⟨t,0,none⟩))) (.slice none 0 0)) (.slice none 0 0);have r0:=cell_at (j:=0) e rfl;have r1:=cell_at (j:=1) e rfl;have r2:=cell_at (j:=2) e rfl;have r3:=cell_at (j:=3) e rfl;refine bodyPost_ret (v:=.tuple #[.agg #[.pointer (some ⟨a,0,none⟩),.pointer (some ⟨t,0,none⟩),.slice none 0 0,.slice none 0 0],.int .i64 0]) (by simp [results,Tryz.results154,go_sem,r0,r1,r2,r3]) rfl ⟨a,F,rfl,HA.out _ ?_,?_,HS.out⟩
  · exact ((((Upd.refl _ w1).setCell (.inl (by simp)) _).setCell (.inl (by simp)) _).setCell (.inl (by simp)) _).setCell (.inl (by simp)) _
  · exact (((HU.out.setCell (.inr (Nat.le_refl _)) _).setCell (.inr (Nat.le_refl _)) _).setCell (.inr (Nat.le_refl _)) _).setCell (.inr (Nat.le_refl _)) _
end Go.Proofs.YtpfafhmkbcahhaaGreat
namespace Go.Proofs.YtpfafhmkbcahhaaGreat
open Go.RowKit Go.Maps Go.ChangeMaps Go.WideShapes
theorem knew_end {n m g tb a g2 cap2:Nat} {w w1 w2 w3 w5:World} {FT FA:List Nat} (h1:1≤n) (hn:n≤64) (h2:2≤m) (hm:m≤1048576)
    (ho:w1.ownsRow w.heap.size 3 1 (.slice (some ⟨g,0,none⟩) n n) n (flatN (List.range n))) (u1:Upd [] w w1) (hgl:w.heap.size≤g∧g < w1.heap.size)
    (ht:TabAt w2 tb (List.replicate n (.map [])) FT) (u2:Upd [] w1 w2) (s2:Sub [] w1 FT) (ha:ArenaAt w3 a (ArenaV.new m) FA) (u3:Upd [] w2 w3) (s3:Sub [] w2 FA)
    (u5:Upd [] w3 w5) (ho2:w5.ownsRow (w3.heap.size + 1) 3 1 (.slice (some ⟨g2,0,none⟩) n cap2) n (flatN (List.range n))) :
    KerIn (w5.alloc (.cells #[.pointer (some ⟨a,0,none⟩),.pointer (some ⟨tb,0,none⟩),.slice none 0 0,.slice none 0 0,.int .i64 n,.slice (some ⟨g,0,none⟩) n n,.slice (some ⟨g2,0,none⟩) n cap2,.slice none 0 0] 204)) w5.heap.size (KV.new n m) (List.replicate n (.map []))
      ⟨a,tb,.slice none 0 0,.slice none 0 0,.slice (some ⟨g,0,none⟩) n n,.slice (some ⟨g2,0,none⟩) n cap2,.slice none 0 0,FA,FT,fun k=>if k < w1.heap.size then 5 else if k < w2.heap.size then 2 else if k < w3.heap.size then 1 else if k < w5.heap.size then 6 else 0⟩ ∧
    Upd [] w (w5.alloc (.cells #[.pointer (some ⟨a,0,none⟩),.pointer (some ⟨tb,0,none⟩),.slice none 0 0,.slice none 0 0,.int .i64 n,.slice (some ⟨g,0,none⟩) n n,.slice (some ⟨g2,0,none⟩) n cap2,.slice none 0 0] 204)) ∧
    Sub [] w ((⟨a,tb,.slice none 0 0,.slice none 0 0,.slice (some ⟨g,0,none⟩) n n,.slice (some ⟨g2,0,none⟩) n cap2,.slice none 0 0,FA,FT,fun k=>if k < w1.heap.size then 5 else if k < w2.heap.size then 2 else if k < w3.heap.size then 1 else if k < w5.heap.size then 6 else 0⟩ : KPtr).all w5.heap.size):=by
  have z1:=u1.size;have z2:=u2.size;have z3:=u3.size;have z5:=u5.size;have hg2:=ho2.lt g2 rfl;have lT:=ht.lt;have lA:=ha.lt
  have sT:∀ k,k∈FT→w1.heap.size≤k:=fun k hk=>(s2 k hk).elim (fun h=>by simp at h) id
  have sA:∀ k,k∈FA→w2.heap.size≤k:=fun k hk=>(s3 k hk).elim (fun h=>by simp at h) id
  have U:=(u5.alloc (.cells #[.pointer (some ⟨a,0,none⟩),.pointer (some ⟨tb,0,none⟩),.slice none 0 0,.slice none 0 0,.int .i64 n,.slice (some ⟨g,0,none⟩) n n,.slice (some ⟨g2,0,none⟩) n cap2,.slice none 0 0] 204));refine ⟨⟨⟨heap_alloc_new w5 _,ha.upd U (by simp),ht.upd (u3.trans U) (by simp),World.ownsRow_nil _ _ _ _,World.ownsRow_nil _ _ _ _,?_,?_,World.ownsRow_nil _ _ _ _,?_,?_,?_,?_,?_,?_,?_,?_⟩,TInv.new n m,KV.new_ok h1 hn h2 hm⟩,?_,?_⟩
  · have e:(KV.new n m).order.length=n:=by simp [KV.new]
    rw [e]
    refine row_keep (row_base ho (Nat.zero_le _)) fun k hk=>?_
    simp [Value.ownBlock] at hk; subst hk
    rw [U.block _ (by omega) (by simp),u3.block _ (by omega) (by simp),u2.block _ hgl.2 (by simp)]
  · have e:(KV.new n m).level.length=n:=by simp [KV.new]
    rw [e];exact (row_base ho2 (Nat.zero_le _)).alloc _
  · show (if _ then _ else _)=0
    rw [if_neg (by omega),if_neg (by omega),if_neg (by omega),if_neg (by omega)]
  · intro k hk
    have:=sA k hk; have:=lA k hk
    show (if _ then _ else _)=1
    rw [if_neg (by omega),if_neg (by omega),if_pos (by omega)]
  · intro k hk
    have:=sT k hk; have:=lT k hk
    show (if _ then _ else _)=2
    rw [if_neg (by omega),if_pos (by omega)]
  · intro k hk; simp [Value.ownBlock] at hk
  · intro k hk; simp [Value.ownBlock] at hk
  · intro k hk
    simp [Value.ownBlock] at hk; subst hk
    show (if _ then _ else _)=5
    rw [if_pos hgl.2]
  · intro k hk
    simp [Value.ownBlock] at hk; subst hk
    show (if _ then _ else _)=6
    rw [if_neg (by omega),if_neg (by omega),if_neg (by omega),if_pos hg2.2]
  · intro k hk; simp [Value.ownBlock] at hk
  · exact u1.trans (u2.trans (u3.trans U))
  · intro k hk
    right
    simp only [KPtr.mem,Value.ownBlock] at hk
    simp at hk
    rcases hk with rfl | hk | hk | hk | hk
    · omega
    · have:=sA k hk; omega
    · have:=sT k hk; omega
    · omega
    · omega
set_option maxRecDepth 100000 in
set_option maxHeartbeats 1600000 in
theorem knew_spec (n m:Nat) (w:World) (h1:1≤n) (hn:n≤64) (h2:2≤m) (hm:m≤1048576) :
    Calls Tryz.prog 63 #[.int .i64 n,.int .i64 m] w fun e w'=>∃ (b:Nat) (T:List DM) (q:KPtr),e=.returned (.tuple #[.pointer (some ⟨b,0,none⟩),.int .i64 0])∧KerIn w' b (KV.new n m) T q∧Upd [] w w'∧Sub [] w (q.all b):=by
  have hd1:decide ((n:Int) < 1)=false:=by simp; omega
  have hd2:decide ((m:Int) < 2)=false:=by simp; omega
  have hd3:decide ((1048576:Int) < (m:Int))=false:=by simp; omega
  have hd4:decide (1048576 < m)=false:=by simp; omega
  have hd5:decide (m < 2)=false:=by simp; omega
  have hd6:decide (n < 1)=false:=by simp; omega
  go_enter Tryz.func63,Tryz.ntmps63
  go_wp2_with fail;refine (ident_ok n w hn).mono ?_;rintro e w1 ⟨g,rfl,ho,hu⟩;have hgl:=ho.lt g rfl;have HO:=Lib.hid (And.intro ho hu);clear ho hu;go_wp2_with fail;refine (tnew_spec n _ h1 hn).mono ?_;rintro e w2 ⟨tb,FT,rfl,ht,hu2,hs2⟩;have HT:=Lib.hid (And.intro ht (And.intro hu2 hs2));clear ht hu2 hs2;go_wp2_with fail;refine (newStore_spec m tb _ h2 hm).mono ?_;rintro e w3 ⟨a,FA,rfl,ha,hu3,hs3⟩;have HA:=Lib.hid (And.intro ha (And.intro hu3 hs3));clear ha hu3 hs3;have HN:=heap_alloc_new w3 (.cells #[.pointer (some ⟨a,0,none⟩),.pointer (some ⟨tb,0,none⟩),.slice none 0 0,.slice none 0 0] 202)
  have HCL:Hid (Calls Tryz.prog 134 #[.slice (some ⟨g,0,none⟩) n n] (w3.alloc (.cells #[.pointer (some ⟨a,0,none⟩),.pointer (some ⟨tb,0,none⟩),.slice none 0 0,.slice none 0 0] 202)).drew fun e w' =>
      ∃ (g2 cap:Nat),e=.returned (.slice (some ⟨g2,0,none⟩) n cap)∧w'.ownsRow (w3.heap.size + 1) 3 1 (.slice (some ⟨g2,0,none⟩) n cap) n (flatN (List.range n))∧Upd [] (w3.alloc (.cells #[.pointer (some ⟨a,0,none⟩),.pointer (some ⟨tb,0,none⟩),.slice none 0 0,.slice none 0 0] 202)).drew w'):=by
    have hs2:=HT.out.2.1;have hs3:=HA.out.2.1
    have hrow:(w3.alloc (.cells #[.pointer (some ⟨a,0,none⟩),.pointer (some ⟨tb,0,none⟩),.slice none 0 0,.slice none 0 0] 202)).drew.ownsRow 0 3 1 (.slice (some ⟨g,0,none⟩) n n) (List.range n).length (flatN (List.range n)):=by
      rw [List.length_range];refine row_drew ((row_keep (row_base HO.out.1 (Nat.zero_le _)) fun k hk=>?_).alloc _)
      simp [Value.ownBlock] at hk; subst hk
      rw [hs3.block _ (by have:=hs2.size; omega) (by simp),hs2.block _ hgl.2 (by simp)]
    refine (clone_spec _ (List.range n) _ hrow (by simpa using h1) (by simp; omega)).mono ?_;rintro e w' ⟨g2,cap,rfl,ho,hu⟩;refine ⟨g2,cap,by rw [List.length_range],?_,hu⟩;rw [List.length_range] at ho;refine row_base ho ?_
    show _≤(w3.alloc _).heap.size
    rw [World.size_alloc]; omega
  obtain ⟨x0,x1,x2,x3⟩ : (w3.alloc (.cells #[.pointer (some ⟨a,0,none⟩),.pointer (some ⟨tb,0,none⟩),.slice none 0 0,.slice none 0 0] 202)).drew.cell? ⟨w3.heap.size,0,none⟩=some (.pointer (some ⟨a,0,none⟩)) ∧
      (w3.alloc (.cells #[.pointer (some ⟨a,0,none⟩),.pointer (some ⟨tb,0,none⟩),.slice none 0 0,.slice none 0 0] 202)).drew.cell? ⟨w3.heap.size,1,none⟩=some (.pointer (some ⟨tb,0,none⟩)) ∧
      (w3.alloc (.cells #[.pointer (some ⟨a,0,none⟩),.pointer (some ⟨tb,0,none⟩),.slice none 0 0,.slice none 0 0] 202)).drew.cell? ⟨w3.heap.size,2,none⟩=some (.slice none 0 0) ∧
      (w3.alloc (.cells #[.pointer (some ⟨a,0,none⟩),.pointer (some ⟨tb,0,none⟩),.slice none 0 0,.slice none 0 0] 202)).drew.cell? ⟨w3.heap.size,3,none⟩=some (.slice none 0 0):=⟨cell_at HN rfl,cell_at HN rfl,cell_at HN rfl,cell_at HN rfl⟩
  have HN:=Lib.hid HN;go_wp2_with fail
  go_region_held3 (fun w'=>w'.cell? ⟨w3.heap.size,0,none⟩=some (.pointer (some ⟨a,0,none⟩))∧w'.cell? ⟨w3.heap.size,1,none⟩=some (.pointer (some ⟨tb,0,none⟩))∧w'.cell? ⟨w3.heap.size,2,none⟩=some (.slice none 0 0)∧w'.cell? ⟨w3.heap.size,3,none⟩=some (.slice none 0 0)) (first | exact ⟨x0,x1,x2,x3⟩ | exact held4 HC.out.2 x0 x1 x2 x3 (by simp) (by simp) (by simp) (by simp) | exact held4 (HC.out.2.alloc _) x0 x1 x2 x3 (by simp) (by simp) (by simp) (by simp)) (first | (go_at_call 134; refine HCL.out.mono ?_; rintro e w5 ⟨g2,cap2,rfl,ho2,hu5⟩; have HC:=Lib.hid (And.intro ho2 hu5); clear ho2 hu5))
  have HE:=Lib.hid (knew_end h1 hn h2 hm HO.out.1 HO.out.2 hgl HT.out.1 HT.out.2.1 HT.out.2.2 HA.out.1 HA.out.2.1 HA.out.2.2 ((((Upd.refl [] w3).alloc _).drew).trans HC.out.2) HC.out.1);clear HC HCL HN HA HT HO;go_wp2_with fail;go_ret2;exact ⟨_,_,_,rfl,HE.out⟩
end Go.Proofs.YtpfafhmkbcahhaaGreat
namespace Go.Proofs.YtpfafhmkbcahhaaGreat
open Go.RowKit Go.Maps Go.ChangeMaps Go.WideShapes
theorem Tryz.infoRefA:(Tryz.prog.info? 54).map (fun i=>(i.zero,i.size,i.bytes))=some (some (.int .u32 0),1,4):=by kernel_rfl
structure WorkAt (w:World) (wb b:Nat) (lv M:List Nat) (lvv mv:Value):Prop where
  blk:w.heap[wb]?=some (.cells #[.pointer (some ⟨b,0,none⟩),lvv,mv] 301 (0,0))
  ls:w.ownsRow 0 3 1 lvv lv.length (flatN lv)
  ms:w.ownsRow 0 54 1 mv M.length (flatRefs M)
  d1:lvv.ownBlock≠some wb
  d2:mv.ownBlock≠some wb
  d3:∀ k,lvv.ownBlock=some k→mv.ownBlock≠some k
def workF (wb:Nat) (lvv mv:Value):List Nat:=wb :: (lvv.ownBlock.toList ++ mv.ownBlock.toList)
theorem mem_workF {wb k:Nat} {lvv mv:Value}:k∈workF wb lvv mv↔k=wb∨lvv.ownBlock=some k∨mv.ownBlock=some k:=by simp [workF]
theorem WorkAt.keep {w w':World} {wb b:Nat} {lv M:List Nat} {lvv mv:Value} (h:WorkAt w wb b lv M lvv mv) (hk:∀ k,k∈workF wb lvv mv→w'.heap[k]?=w.heap[k]?):WorkAt w' wb b lv M lvv mv :=
  ⟨by rw [hk wb (mem_workF.2 (.inl rfl))]; exact h.blk,row_keep h.ls fun k hm=>hk k (mem_workF.2 (.inr (.inl hm))),row_keep h.ms fun k hm=>hk k (mem_workF.2 (.inr (.inr hm))),h.d1,h.d2,h.d3⟩
theorem WorkAt.lt {w:World} {wb b:Nat} {lv M:List Nat} {lvv mv:Value} (h:WorkAt w wb b lv M lvv mv):∀ k,k∈workF wb lvv mv→k < w.heap.size:=by
  intro k hk
  rcases mem_workF.1 hk with rfl | hk | hk
  · exact heap_lt h.blk
  · exact (h.ls.lt k hk).2
  · exact (h.ms.lt k hk).2
structure WK (w:World) (wb b:Nat) (K:KV) (T:List DM) (q:KPtr) (M:List Nat) (lvv mv:Value):Prop where
  ker:KerIn w b K T q
  wk:WorkAt w wb b K.level M lvv mv
  dj:∀ k,k∈q.all b→k∉workF wb lvv mv
def wkF (wb b:Nat) (q:KPtr) (lvv mv:Value):List Nat:=q.all b ++ workF wb lvv mv
theorem WK.keep {w w':World} {wb b:Nat} {K:KV} {T:List DM} {q:KPtr} {M:List Nat} {lvv mv:Value} (h:WK w wb b K T q M lvv mv) (hk:∀ k,k∈wkF wb b q lvv mv→w'.heap[k]?=w.heap[k]?):WK w' wb b K T q M lvv mv :=
  ⟨⟨h.ker.mem.keep fun k hm=>hk k (List.mem_append.2 (.inl hm)),h.ker.ti,h.ker.ok⟩,h.wk.keep fun k hm=>hk k (List.mem_append.2 (.inr hm)),h.dj⟩
theorem WK.lt {w:World} {wb b:Nat} {K:KV} {T:List DM} {q:KPtr} {M:List Nat} {lvv mv:Value} (h:WK w wb b K T q M lvv mv):∀ k,k∈wkF wb b q lvv mv→k < w.heap.size:=by
  intro k hk
  rcases List.mem_append.1 hk with hk | hk
  · exact h.ker.mem.lt k hk
  · exact h.wk.lt k hk
theorem WK.upd {w w':World} {wb b:Nat} {K:KV} {T:List DM} {q:KPtr} {M:List Nat} {lvv mv:Value} (h:WK w wb b K T q M lvv mv) {S:List Nat} (u:Upd S w w') (hd:∀ k,k∈wkF wb b q lvv mv→k∉S):WK w' wb b K T q M lvv mv :=
  h.keep fun k hk=>u.block k (h.lt k hk) (hd k hk)
theorem WK.kernel {w w':World} {wb b:Nat} {K K':KV} {T T':List DM} {q q':KPtr} {M:List Nat} {lvv mv:Value} (h:WK w wb b K T q M lvv mv) (hk:KerIn w' b K' T' q') (hl:K'.level=K.level) (hu:Upd (q.all b) w w') (hs:Sub (q.all b) w (q'.all b)) :
    WK w' wb b K' T' q' M lvv mv:=by
  refine ⟨hk,?_,?_⟩
  · rw [hl]
    exact h.wk.keep fun k hm=>hu.block k (h.wk.lt k hm) fun hq=>h.dj k hq hm
  · intro k hm hf
    rcases hs k hm with hq | hq
    · exact h.dj k hq hf
    · have:=h.wk.lt k hf; omega
theorem WK.sub {w:World} {wb b:Nat} {q q':KPtr} {lvv mv:Value} (hs:Sub (q.all b) w (q'.all b)):Sub (wkF wb b q lvv mv) w (wkF wb b q' lvv mv):=by
  intro k hk
  rcases List.mem_append.1 hk with hk | hk
  · rcases hs k hk with h | h
    · exact .inl (List.mem_append.2 (.inl h))
    · exact .inr h
  · exact .inl (List.mem_append.2 (.inr hk))
theorem WK.grow {w w5:World} {wb b g5 cap r:Nat} {X:Obj} {K:KV} {T:List DM} {q:KPtr} {M:List Nat} {lvv mv:Value} (h:WK w wb b K T q M lvv mv) (hg:(w.alloc X).grownBy w5 mv.ownBlock) (hat:mv.ownBlock=some g5∨g5=w.heap.size + 1)
    (hown:w5.ownsRow 0 54 1 (.slice (some ⟨g5,0,none⟩) (M.length + 1) cap) (M.length + 1) (flatRefs M ++ [.int .u32 r])) :
    WK (w5.setCell ⟨wb,2,none⟩ (.slice (some ⟨g5,0,none⟩) (M.length + 1) cap)) wb b K T q (M ++ [r]) lvv (.slice (some ⟨g5,0,none⟩) (M.length + 1) cap) ∧
    Upd (wkF wb b q lvv mv) w (w5.setCell ⟨wb,2,none⟩ (.slice (some ⟨g5,0,none⟩) (M.length + 1) cap)) ∧
    Sub (wkF wb b q lvv mv) w (wkF wb b q lvv (.slice (some ⟨g5,0,none⟩) (M.length + 1) cap)):=by
  have hwb:=heap_lt h.wk.blk
  have hneg:∀ k,k < w.heap.size→mv.ownBlock≠some k→k≠g5:=by
    rintro k hk hn rfl
    rcases hat with e | e
    · exact hn e
    · omega
  have old:∀ k,k < w.heap.size→mv.ownBlock≠some k→k≠wb→(w5.setCell ⟨wb,2,none⟩ (.slice (some ⟨g5,0,none⟩) (M.length + 1) cap)).heap[k]?=w.heap[k]?:=by
    intro k hk hn hw
    rw [heap_set_ne hw,hg.block k (by rw [World.size_alloc]; omega) (Ne.symm hn),heap_alloc_old _ _ hk]
  have hbk:w5.heap[wb]?=w.heap[wb]?:=by
    rw [hg.block wb (by rw [World.size_alloc]; omega) (Ne.symm h.wk.d2),heap_alloc_old _ _ hwb]
  rw [h.wk.blk] at hbk;have hgw:wb≠g5:=hneg wb hwb h.wk.d2;refine ⟨⟨⟨h.ker.mem.keep fun k hk=>?_,h.ker.ti,h.ker.ok⟩,⟨by rw [heap_set_eq hbk]; rfl,row_keep h.wk.ls fun k hk=>?_,?_,h.wk.d1,?_,?_⟩,?_⟩,?_,?_⟩
  · have hd:=h.dj k hk
    exact old k (h.ker.mem.lt k hk) (fun e=>hd (mem_workF.2 (.inr (.inr e)))) (fun e=>hd (mem_workF.2 (.inl e)))
  · exact old k (h.wk.ls.lt k hk).2 (h.wk.d3 k hk) (fun e=>h.wk.d1 (e ▸ hk))
  · have e:=row_ne hown (a:=⟨wb,2,none⟩) (by simpa [Value.ownBlock] using hgw) (.slice (some ⟨g5,0,none⟩) (M.length + 1) cap)
    simpa [flatRefs] using e
  · simp [Value.ownBlock]; exact Ne.symm hgw
  · intro k hk
    simp [Value.ownBlock]
    exact Ne.symm (hneg k (h.wk.ls.lt k hk).2 (h.wk.d3 k hk))
  · intro k hk hf
    have hd:=h.dj k hk
    rcases mem_workF.1 hf with hf | hf | hf
    · exact hd (mem_workF.2 (.inl hf))
    · exact hd (mem_workF.2 (.inr (.inl hf)))
    · simp [Value.ownBlock] at hf
      exact hneg k (h.ker.mem.lt k hk) (fun e=>hd (mem_workF.2 (.inr (.inr e)))) hf.symm
  · have hwm:wb∈wkF wb b q lvv mv:=List.mem_append.2 (.inr (mem_workF.2 (.inl rfl)))
    have hu:Upd (wkF wb b q lvv mv) w w5:=((Upd.refl _ w).alloc X).grown hg fun k hk=>.inl (List.mem_append.2 (.inr (mem_workF.2 (.inr (.inr hk)))))
    exact hu.setCell (p:=⟨wb,2,none⟩) (.inl hwm) _
  · intro k hk
    rcases List.mem_append.1 hk with hk | hk
    · exact .inl (List.mem_append.2 (.inl hk))
    · rcases mem_workF.1 hk with hk | hk | hk
      · exact .inl (List.mem_append.2 (.inr (mem_workF.2 (.inl hk))))
      · exact .inl (List.mem_append.2 (.inr (mem_workF.2 (.inr (.inl hk)))))
      · simp [Value.ownBlock] at hk; subst hk
        rcases hat with e | e
        · exact .inl (List.mem_append.2 (.inr (mem_workF.2 (.inr (.inr e)))))
        · right; omega
inductive NodeR (K:KV) (v lo hi:Nat) (M:List Nat):Nat→Int→KV→List Nat→Prop
  | same (he:lo=hi):NodeR K v lo hi M lo 0 K M
  | old {r:Nat} (hne:lo≠hi) (ha:K.At r v lo hi) (hm:K.hold r < 65535):NodeR K v lo hi M r 0 (K.keepK r) (M ++ [r])
  | full {r:Nat} (hne:lo≠hi) (ha:K.At r v lo hi) (hm:K.hold r=65535):NodeR K v lo hi M r 0 K M
  | nodes (hne:lo≠hi) (hno:∀ r,¬ K.At r v lo hi) (hu:K.A.used=K.A.places):NodeR K v lo hi M 0 9 K M
  | new {r:Nat} {K':KV} (hne:lo≠hi) (hno:∀ r,¬ K.At r v lo hi) (hm:K.Made v lo hi r K'):NodeR K v lo hi M r 0 K' (M ++ [r])
theorem MakeR.level {K K':KV} {v:Int} {lo hi r:Nat} {code:Int} (h:MakeR K v lo hi r code K'):K'.level=K.level:=by
  cases h with
  | bad=>rfl
  | full=>rfl
  | old=>exact K.keepK_level _
  | nodes=>rfl
  | new _ _ _ hm=>exact hm.ext.lv
theorem KV.fits_ok {K:KV} {v lo hi:Nat} (hv:v < K.vars) (h1:K.A.tk lo=true) (h2:K.A.tk hi=true) (hl:lo≠hi→K.lev v < K.dep lo∧K.lev v < K.dep hi):K.fitsE v lo hi=0:=by
  unfold KV.fitsE;rw [if_neg (by simp [KV.isVar,hv]),if_neg (by simp [h1,h2]),if_neg];rintro ⟨hne,h⟩;have:=hl hne
  apply h
  simp only [Int.toNat_natCast]
  omega
end Go.Proofs.YtpfafhmkbcahhaaGreat
namespace Go.Proofs.YtpfafhmkbcahhaaGreat
open Go.RowKit Go.Maps Go.ChangeMaps Go.WideShapes
structure EndS (K0 K:KV) (M:List Nat) (r:Nat) (ok:Bool) (i:Nat) (K':KV):Prop where
  ext:K'.Ext K
  hd:∀ x,K'.hold x=K0.hold x + (M.drop i).count x + (if x=r∧ok=true∧r∈M.take i then 1 else 0)
  tr:M≠[]→K'.trail=[]
  st:M=[]→K'=K
theorem EndS.start {K0 K:KV} {M:List Nat} {r:Nat} {ok:Bool} (hh:∀ x,K.hold x=K0.hold x + M.count x) (ht:M≠[]→K.trail=[]):EndS K0 K M r ok 0 K :=
  ⟨.refl K,fun x=>by rw [hh]; simp,ht,fun _=>rfl⟩
theorem take_succ_mem {M:List Nat} {i f r:Nat} (hf:M[i]?=some f):r∈M.take (i + 1)↔r∈M.take i∨r=f:=by
  rw [List.take_add_one,hf]; simp
theorem drop_count {M:List Nat} {i f x:Nat} (hf:M[i]?=some f):(M.drop i).count x=(M.drop (i + 1)).count x + (if f=x then 1 else 0):=by
  obtain ⟨h1,h2⟩:=List.getElem?_eq_some_iff.1 hf;rw [List.drop_eq_getElem_cons h1,List.count_cons,h2];simp
theorem EndS.keep {K0 K K':KV} {M:List Nat} {r i:Nat} (h:EndS K0 K M r true i K') (hf:M[i]?=some r) (hn:r∉M.take i):EndS K0 K M r true (i + 1) K':=by
  refine ⟨h.ext,fun x=>?_,h.tr,h.st⟩;rw [h.hd,drop_count hf]
  simp only [take_succ_mem hf,hn,and_false,if_false,or_true,and_true]
  by_cases e:x=r
  · subst e; simp; omega
  · simp [e,Ne.symm e]
theorem EndS.drop {K0 K K' K2:KV} {M:List Nat} {r i f:Nat} {ok:Bool} (h:EndS K0 K M r ok i K') (hf:M[i]?=some f) (hn:f=r→ok=true→r∈M.take i) (hd:K'.Dropped f K2) (h2:2≤f):EndS K0 K M r ok (i + 1) K2:=by
  refine ⟨hd.ext.trans h.ext,fun x=>?_,fun _=>hd.tr,fun e=>by subst e; simp at hf⟩;rw [hd.hd,h.hd,drop_count hf]
  have e1:(x=r∧ok=true∧r∈M.take (i + 1))↔(x=r∧ok=true∧r∈M.take i):=by
    rw [take_succ_mem hf];constructor
    · rintro ⟨a,b,c | c⟩
      · exact ⟨a,b,c⟩
      · exact ⟨a,b,hn c.symm b⟩
    · rintro ⟨a,b,c⟩; exact ⟨a,b,.inl c⟩
  simp only [e1]
  by_cases e:x=f
  · subst e; simp [h2]; omega
  · simp [e,Ne.symm e]
theorem EndS.pos {K0 K K':KV} {M:List Nat} {r i f:Nat} {ok:Bool} (h:EndS K0 K M r ok i K') (hf:M[i]?=some f):0 < K'.hold f:=by
  rw [h.hd,drop_count hf]; simp; omega
structure EndW (w0:World) (wb b r:Nat) (K0 K:KV) (q0:KPtr) (M:List Nat) (lvv mv:Value) (ok:Bool) (i:Nat) (w:World):Prop where
  ex:∃ K' T' q',WK w wb b K' T' q' M lvv mv∧EndS K0 K M r ok i K'∧Upd (wkF wb b q0 lvv mv) w0 w∧Sub (q0.all b) w0 (q'.all b)
theorem EndW.drop {w0 w:World} {wb b r i f:Nat} {K0 K:KV} {q0:KPtr} {M:List Nat} {lvv mv:Value} {ok:Bool} (h:EndW w0 wb b r K0 K q0 M lvv mv ok i w) (hf:M[i]?=some f) (hn:f=r→ok=true→r∈M.take i) (h32:f≤4294967295) :
    Calls Tryz.prog 147 #[.pointer (some ⟨b,0,none⟩),.int .u32 f] w fun e w'=>e=.returned (.int .i64 0)∧EndW w0 wb b r K0 K q0 M lvv mv ok (i + 1) w':=by
  obtain ⟨K',T',q',hw,hs,hu,hsub⟩:=h.ex;have hp:=hs.pos hf;refine (drop_spec b f K' T' q' w hw.ker h32).mono ?_;rintro e w' ⟨code,K2,T2,q2,rfl,hc,hk,hu2,hs2⟩
  rcases hc with ⟨_,_,h0,_⟩ | ⟨rfl,_,hd⟩
  · omega
  · have hw2:=hw.kernel hk hd.ext.lv.symm hu2 hs2
    have hsz:=hu.size;refine ⟨rfl,K2,T2,q2,hw2,hs.drop hf hn hd (hw.ker.ok.wf.ht f hp).1,hu.then hu2 fun x hx=>?_,fun k hk=>?_⟩
    · rcases hsub x hx with h | h
      · exact .inl (List.mem_append.2 (.inl h))
      · exact .inr h
    · rcases hs2 k hk with h | h
      · exact hsub k h
      · right; omega
theorem EndW.keep {w0 w:World} {wb b r i:Nat} {K0 K:KV} {q0:KPtr} {M:List Nat} {lvv mv:Value} (h:EndW w0 wb b r K0 K q0 M lvv mv true i w) (hf:M[i]?=some r) (hn:r∉M.take i):EndW w0 wb b r K0 K q0 M lvv mv true (i + 1) w:=by
  obtain ⟨K',T',q',hw,hs,hu,hsub⟩:=h.ex;exact ⟨K',T',q',hw,hs.keep hf hn,hu,hsub⟩
theorem EndW.cells {w0 w:World} {wb b r i g n c:Nat} {K0 K:KV} {q0:KPtr} {M:List Nat} {lvv mv:Value} {ok:Bool} (h:EndW w0 wb b r K0 K q0 M lvv mv ok i w) (hmv:mv=.slice (some ⟨g,0,none⟩) n c) :
    w.cell? ⟨wb,0,none⟩=some (.pointer (some ⟨b,0,none⟩))∧∀ (j f:Nat),M[j]?=some f→w.cell? ⟨g,j,none⟩=some (.int .u32 f):=by
  obtain ⟨K',T',q',hw,hs,hu,hsub⟩:=h.ex;refine ⟨cell_at hw.wk.blk rfl,fun j f hf=>?_⟩;have:=hw.wk.ms;rw [hmv] at this;exact row_cell this (by simp [flatRefs,hf])
theorem EndW.done {w0 w:World} {wb b r:Nat} {K0 K:KV} {q0:KPtr} {M:List Nat} {lvv mv:Value} {ok:Bool} (h:EndW w0 wb b r K0 K q0 M lvv mv ok M.length w) :
    w.cell? ⟨wb,2,none⟩=some mv∧w.frozen? ⟨wb,2,none⟩=false∧(w.setCell ⟨wb,2,none⟩ (.slice none 0 0)).cell? ⟨wb,0,none⟩=some (.pointer (some ⟨b,0,none⟩)) ∧
    ∃ K' T' q',KerIn (w.setCell ⟨wb,2,none⟩ (.slice none 0 0)) b K' T' q'∧Upd (wkF wb b q0 lvv mv) w0 (w.setCell ⟨wb,2,none⟩ (.slice none 0 0))∧Sub (q0.all b) w0 (q'.all b)∧K'.Ext K ∧
      (∀ x,K'.hold x=K0.hold x + (if x=r∧ok=true∧r∈M then 1 else 0))∧(M≠[]→K'.trail=[])∧(M=[]→K'=K):=by
  obtain ⟨K',T',q',hw,hs,hu,hsub⟩:=h.ex;have hwm:wb∈wkF wb b q0 lvv mv:=List.mem_append.2 (.inr (mem_workF.2 (.inl rfl)));have hbk:=hw.wk.blk;refine ⟨cell_at hbk rfl,frozen_at 2 hbk,?_,K',T',q',?_,hu.setCell (p:=⟨wb,2,none⟩) (.inl hwm) _,hsub,hs.ext,fun x=>?_,hs.tr,hs.st⟩
  · have e:=heap_set_eq (j:=2) hbk (.slice none 0 0)
    exact cell_at e rfl
  · exact hw.ker.upd ((Upd.refl [wb] w).setCell (p:=⟨wb,2,none⟩) (.inl (by simp)) _) fun k hk hm=>by
      simp at hm
      exact hw.dj k hk (mem_workF.2 (.inl hm))
  · rw [hs.hd]; simp
structure EndP (wb b r:Nat) (code:Int) (K0 K:KV) (q:KPtr) (M:List Nat) (lvv mv:Value) (w w':World):Prop where
  ex : ∃ (K' : KV) (T' : List DM) (q' : KPtr), KerIn w' b K' T' q' ∧ Upd (wkF wb b q lvv mv) w w' ∧ Sub (q.all b) w (q'.all b) ∧ K'.Ext K ∧
        (∀ x,K'.hold x=K0.hold x + (if x=r∧decide (2≤r∧code=0)=true∧r∈M then 1 else 0))∧(M≠[]→K'.trail=[])∧(code=0→r < 2→K'.trail=[])∧(M=[]→¬ (code=0∧r < 2)→K'=K)
theorem KV.Ok.tk_const {K:KV} (h:K.Ok) {r:Nat} (h2:r < 2):K.A.tk r=true:=by
  obtain rfl | rfl:r=0∨r=1:=by omega
  · exact h.wf.ok.tk01.1
  · exact h.wf.ok.tk01.2
end Go.Proofs.YtpfafhmkbcahhaaGreat
namespace Go.Proofs.YtpfafhmkbcahhaaGreat
open Go.RowKit Go.Maps Go.ChangeMaps Go.WideShapes
def PlaceV.node (p:PlaceV):List Value:=[.int .i64 p.var,.int .u32 p.lo,.int .u32 p.hi]
end Go.Proofs.YtpfafhmkbcahhaaGreat
namespace Go.Proofs.YtpfafhmkbcahhaaGreat
open Go.RowKit Go.Maps Go.ChangeMaps Go.WideShapes
def topF (K:KV) (v:Int) (p:PlaceV):Int:=if 0≤p.var∧(v < 0∨K.lev p.var.toNat < K.lev v.toNat) then p.var else v
def KV.top (K:KV) (l:List PlaceV):Int:=l.foldl (topF K) (-1)
end Go.Proofs.YtpfafhmkbcahhaaGreat
namespace Go.Proofs.YtpfafhmkbcahhaaGreat
open Go.RowKit Go.Maps Go.ChangeMaps Go.WideShapes
def qk (f g h:Nat):Lit:=.string (keyBytes [.int .u32 f,.int .u32 g,.int .u32 h])
theorem quesKeyed:Keyed Tryz.prog 252:=Keyed.of_law (deep_law_gate laidOut (of_decide_eq_true (by kernel_rfl)) (of_decide_eq_true (by kernel_rfl)) (by kernel_rfl) (by kernel_rfl))
theorem qk_of {f g h:Nat} (h0:f≤4294967295) (h1:g≤4294967295) (h2:h≤4294967295) :
    keyOf Tryz.prog 252 (.agg #[.int .u32 f,.int .u32 g,.int .u32 h])=some (qk f g h):=by
  have hk:Tryz.prog.keyType 252=true:=by kernel_rfl
  obtain ⟨m,hm⟩ : ∃ m,Tryz.prog.types.size=m + 1:=⟨Tryz.prog.types.size - 1,by have:0 < Tryz.prog.types.size:=of_decide_eq_true (by kernel_rfl); omega⟩
  have c40:Tryz.prog.cellsOf 54=1:=by kernel_rfl
  have c44:Tryz.prog.cellsOf 252=3:=by kernel_rfl
  have kl:Tryz.prog.keyLits (m + 2) 252 [.int .u32 f,.int .u32 g,.int .u32 h]=some [.int .u32 f,.int .u32 g,.int .u32 h]:=by
    unfold Program.keyLits;rw [Tryz.underlying252]
    simp only [c44]
    simp [c40,List.range_succ,kl_int Tryz.underlying54 m (wfR h0),kl_int Tryz.underlying54 m (wfR h1),kl_int Tryz.underlying54 m (wfR h2)]
  have hf:Value.formed Tryz.prog 252 (.agg #[.int .u32 f,.int .u32 g,.int .u32 h])=true:=by
    simp [Value.formed,Tryz.underlying252,c44]
  rw [keyOf,Tryz.underlying252]
  show (if (Tryz.prog.keyType 252 && Value.formed Tryz.prog 252 (.agg #[.int .u32 f,.int .u32 g,.int .u32 h]))=true then Option.map (fun ls=>Lit.string (keyBytes ls)) (Tryz.prog.keyLits (Tryz.prog.types.size + 1) 252 [.int .u32 f,.int .u32 g,.int .u32 h]) else none)=_
  rw [hk,hf,hm];rw [Bool.and_self,if_pos rfl]
  show Option.map (fun ls=>Lit.string (keyBytes ls)) (Tryz.prog.keyLits (m + 2) 252 [.int .u32 f,.int .u32 g,.int .u32 h])=_
  rw [kl];rfl
theorem qk_inj {f g h f' g' h':Nat} (h0:f≤4294967295) (h1:g≤4294967295) (h2:h≤4294967295) (h0':f'≤4294967295) (h1':g'≤4294967295) (h2':h'≤4294967295) (e:qk f g h=qk f' g' h'):f=f'∧g=g'∧h=h':=by
  have h:=quesKeyed.inj (qk_of h0 h1 h2) (by rw [e]; exact qk_of h0' h1' h2')
  simp only [Value.agg.injEq,Array.mk.injEq,List.cons.injEq,Value.int.injEq,true_and,and_true] at h
  omega
theorem qk_isKey (f g h:Nat):WideAt.IsKeyLit (qk f g h):=trivial
def KV.fun3 (K:KV) (L:Bool→Bool→Bool→Bool) (f g h:Nat) (x:Nat→Bool):Bool:=L (K.den f x) (K.den g x) (K.den h x)
def KV.dep3 (K:KV) (f g h:Nat):Nat:=min (K.dep f) (min (K.dep g) (K.dep h))
def KV.mix (K:KV) (l:Nat) (a x:Nat→Bool):Nat→Bool:=fun v=>if v < K.vars∧K.lev v < l then a v else x v
def KV.SubN (K:KV) (t g:(Nat→Bool)→Bool):Prop:=∃ (l:Nat) (a:Nat→Bool),∀ x,g x=t (K.mix l a x)
theorem KV.Ext.mix {K K':KV} (h:K.Ext K') (l:Nat) (a x:Nat→Bool):K'.mix l a x=K.mix l a x:=by
  funext v; simp [KV.mix,h.vr,h.lev]
theorem KV.Ext.fun3 {K K':KV} {P:List Nat} (h:K.Ext K') (hw:K.Wf P) {L:Bool→Bool→Bool→Bool} {f g k:Nat} (h0:K.A.tk f=true) (h1:K.A.tk g=true) (h2:K.A.tk k=true) (x:Nat→Bool):K'.fun3 L f g k x=K.fun3 L f g k x:=by
  simp [KV.fun3,h.den hw x h0,h.den hw x h1,h.den hw x h2]
theorem KV.Ext.dep3 {K K':KV} (h:K.Ext K') {f g k:Nat} (h0:K.A.tk f=true) (h1:K.A.tk g=true) (h2:K.A.tk k=true):K'.dep3 f g k=K.dep3 f g k:=by
  simp [KV.dep3,h.dep h0,h.dep h1,h.dep h2]
structure RunS (K0:KV) (S:((Nat→Bool)→Bool)→Prop) (M:List Nat) (K:KV):Prop where
  ext:K0.Ext K
  hd:∀ x,K.hold x=K0.hold x + M.count x
  tr:M≠[]→K.trail=[]
  nil:M=[]→K=K0
  new:∀ x,K.A.tk x=true→K0.A.tk x=false→S (K.den x)
theorem RunS.start (K0:KV) (S:((Nat→Bool)→Bool)→Prop):RunS K0 S [] K0 :=
  ⟨.refl K0,fun x=>by simp,fun h=>absurd rfl h,fun _=>rfl,fun x h1 h2=>by rw [h1] at h2; cases h2⟩
structure Good (K0:KV) (L:Bool→Bool→Bool→Bool) (f g h:Nat) (M:List Nat) (K:KV) (r:Nat):Prop where
  tk:K.A.tk r=true
  den:∀ x,K.den r x=K.fun3 L f g h x
  dep:K.dep3 f g h≤K.dep r
  got:r < 2∨r∈M∨K0.hold r=65535
theorem Good.ext {K0 K K':KV} {L:Bool→Bool→Bool→Bool} {f g h r:Nat} {M M':List Nat} {P:List Nat} (G:Good K0 L f g h M K r) (e:K.Ext K') (hw:K.Wf P) (hm:∀ x,x∈M→x∈M') (h0:K.A.tk f=true) (h1:K.A.tk g=true) (h2:K.A.tk h=true):Good K0 L f g h M' K' r:=by
  refine ⟨e.tk G.tk,fun x=>?_,?_,G.got.imp_right (Or.imp_left (hm _))⟩
  · rw [e.den hw x G.tk,e.fun3 hw h0 h1 h2,G.den]
  · rw [e.dep3 h0 h1 h2,e.dep G.tk]; exact G.dep
def NoFit (K0:KV) (S:((Nat→Bool)→Bool)→Prop):Prop :=
  ∃ (K:KV) (M:List Nat) (g:(Nat→Bool)→Bool),K.Ok∧K.Uni∧RunS K0 S M K∧K.A.used=K.A.places∧S g∧∀ x,K.A.tk x=true→¬ ∀ y,K.den x y=g y
theorem KV.Ok.ref_lt {K:KV} (hk:K.Ok) {r:Nat} (ht:K.A.tk r=true):r < 1048576:=by
  by_cases h2:2≤r
  · have:=hk.wf.tk_lt h2 ht; omega
  · omega
structure KnownOk (K0:KV) (L:Bool→Bool→Bool→Bool) (M:List Nat) (K:KV) (D:DM):Prop where
  im:IsMap D
  dom:∀ k,Maps.has D k=true→∃ f g h:Nat,k=qk f g h∧f < 1048576∧g < 1048576∧h < 1048576
  ok:∀ (f g h:Nat),f≤4294967295→g≤4294967295→h≤4294967295→Maps.has D (qk f g h)=true→K.A.tk f=true∧K.A.tk g=true∧K.A.tk h=true∧∃ r:Nat,r≤4294967295∧(∀ z,D.atKey (qk f g h) z=.lit (.int .u32 r))∧Good K0 L f g h M K r
theorem KnownOk.nil (K0:KV) (L:Bool→Bool→Bool→Bool) (M:List Nat) (K:KV):KnownOk K0 L M K (.map []) :=
  ⟨isMap_empty,fun k hh=>by simp [Maps.has] at hh,fun f g h _ _ _ hh=>by simp [Maps.has] at hh⟩
theorem KnownOk.ext {K0 K K':KV} {L:Bool→Bool→Bool→Bool} {M M':List Nat} {P:List Nat} {D:DM} (h:KnownOk K0 L M K D) (e:K.Ext K') (hw:K.Wf P) (hm:∀ x,x∈M→x∈M'):KnownOk K0 L M' K' D:=by
  refine ⟨h.im,h.dom,fun f g k h0 h1 h2 hh=>?_⟩;obtain ⟨t0,t1,t2,r,hr,ha,hg⟩:=h.ok f g k h0 h1 h2 hh;exact ⟨e.tk t0,e.tk t1,e.tk t2,r,hr,ha,hg.ext e hw hm t0 t1 t2⟩
theorem KnownOk.put {K0 K:KV} {L:Bool→Bool→Bool→Bool} {M:List Nat} {D:DM} {f g k r:Nat} (h:KnownOk K0 L M K D) (h0:f≤4294967295) (h1:g≤4294967295) (h2:k≤4294967295) (t0:K.A.tk f=true) (t1:K.A.tk g=true) (t2:K.A.tk k=true) (hr:r≤4294967295) (G:Good K0 L f g k M K r) (hk:K.Ok) :
    KnownOk K0 L M K (D.put (qk f g k) (.lit (.int .u32 r))):=by
  refine ⟨h.im.put _ _,fun k2 hh=>?_,fun f' g' k' a0 a1 a2 hh=>?_⟩
  · by_cases e:k2=qk f g k
    · exact ⟨f,g,k,e,hk.ref_lt t0,hk.ref_lt t1,hk.ref_lt t2⟩
    · rw [has_put_other e] at hh; exact h.dom k2 hh
  by_cases e:qk f' g' k'=qk f g k
  · obtain ⟨rfl,rfl,rfl⟩:=qk_inj a0 a1 a2 h0 h1 h2 e
    exact ⟨t0,t1,t2,r,hr,fun z=>atKey_put_same h.im (qk_isKey _ _ _) _ z,G⟩
  · rw [has_put_other e] at hh
    obtain ⟨u0,u1,u2,s,hs,ha,hg⟩:=h.ok f' g' k' a0 a1 a2 hh;exact ⟨u0,u1,u2,s,hs,fun z=>by rw [atKey_put_other e]; exact ha z,hg⟩
end Go.Proofs.YtpfafhmkbcahhaaGreat
namespace Go.Proofs.YtpfafhmkbcahhaaGreat
theorem KV.node_unique {K:KV} (hk:K.Ok) (hu:K.Uni) {n r1 r2 x:Nat} (hn:n < K.vars) (t1:K.A.tk r1=true) (t2:K.A.tk r2=true) (l1:K.lev n < K.dep r1) (l2:K.lev n < K.dep r2) (hne:r1≠r2) (tx:K.A.tk x=true)
    (he:∀ y,K.den x y=if y n then K.den r2 y else K.den r1 y):K.At x n r1 r2:=by
  have can:∀ {a b:Nat},K.A.tk a=true→K.A.tk b=true→(∀ y,K.den a y=K.den b y)→a=b:=fun ha hb h=>KV.canon hk.wf hk.ord hu _ _ _ ha hb (Nat.le_refl _) h
  have e0:∀ y,K.den x (upd y n false)=K.den r1 y:=fun y=>by
    rw [he,upd_self]; simp; exact KV.den_upd hk.wf hk.ord t1 hn l1 y false
  have e1:∀ y,K.den x (upd y n true)=K.den r2 y:=fun y=>by
    rw [he,upd_self]; simp; exact KV.den_upd hk.wf hk.ord t2 hn l2 y true
  have far:K.lev n < K.dep x→False:=fun h=>by
    refine hne (can t1 t2 fun y=>?_);rw [← e0,← e1,KV.den_upd hk.wf hk.ord tx hn h,KV.den_upd hk.wf hk.ord tx hn h]
  have hln:=(hk.ord.pm.lo n hn).1
  by_cases h2:2≤x
  · obtain ⟨p,u,hp,hpt,hv,hul,c1,c2,hd⟩:=hk.wf.node_at h2 tx
    have hb:=hk.ord.below hk.wf h2 hp hpt
    by_cases hlt:K.lev u < K.lev n
    · exfalso
      have ind:∀ b y,K.den x (upd y u b)=K.den x y:=fun b y=>by
        have d1:=KV.den_upd hk.wf hk.ord t1 hul (show K.lev u < K.dep r1 by omega) y b;have d2:=KV.den_upd hk.wf hk.ord t2 hul (show K.lev u < K.dep r2 by omega) y b;have en:upd y u b n=y n:=upd_ne y b (by rintro rfl; omega);rw [he,he,en,d1,d2]
      refine hk.ord.ne x p h2 hp hpt (can c1 c2 fun y=>?_);have a:=KV.den_lo hk.wf hk.ord h2 hp hpt y;have b:=KV.den_hi hk.wf hk.ord h2 hp hpt y;rw [show p.var.toNat=u by omega] at a b;rw [← a,← b,ind,ind]
    · have:¬ K.lev n < K.lev u:=fun h=>far (by omega)
      have eun:u=n:=hk.ord.pm.inj hul hn (by omega);subst eun;refine ⟨h2,p,hp,hpt,hv,can c1 t1 fun y=>?_,can c2 t2 fun y=>?_⟩
      · have a:=KV.den_lo hk.wf hk.ord h2 hp hpt y
        rw [show p.var.toNat=u by omega] at a;rw [← a,e0]
      · have a:=KV.den_hi hk.wf hk.ord h2 hp hpt y
        rw [show p.var.toNat=u by omega] at a;rw [← a,e1]
  · exact (far (by rw [hk.wf.dep_const (by omega)]; exact hln)).elim
theorem KV.At.den {K:KV} (hk:K.Ok) {r n lo hi:Nat} (h:K.At r n lo hi) (x:Nat→Bool):K.den r x=if x n then K.den hi x else K.den lo x:=by
  obtain ⟨h2,p,hp,hpt,e1,e2,e3⟩:=h;rw [KV.den_node hk.wf hk.ord h2 hp hpt,e1,e2,e3,Int.toNat_natCast]
theorem KV.At.dep {K:KV} {r n lo hi:Nat} (h:K.At r n lo hi):K.dep r=K.lev n:=by
  obtain ⟨h2,p,hp,hpt,e1,e2,e3⟩:=h
  simp [KV.dep,hp,e1]
theorem upd_id (x:Nat→Bool) (n:Nat):upd x n (x n)=x:=by funext v; unfold upd; split <;> simp_all
structure AskQ (K:KV) (f g h:Nat):Prop where
  t0:K.A.tk f=true
  t1:K.A.tk g=true
  t2:K.A.tk h=true
theorem AskQ.ext {K K':KV} {f g h:Nat} (a:AskQ K f g h) (e:K.Ext K'):AskQ K' f g h:=⟨e.tk a.t0,e.tk a.t1,e.tk a.t2⟩
structure Below3 (K:KV) (L:Bool→Bool→Bool→Bool) (n f g h:Nat) (b:Bool) (f' g' h':Nat):Prop where
  ask:AskQ K f' g' h'
  dep:K.lev n < K.dep3 f' g' h'
  den:∀ x,K.fun3 L f' g' h' x=K.fun3 L f g h (upd x n b)
theorem Below3.ext {K K':KV} {L:Bool→Bool→Bool→Bool} {n f g h f' g' h':Nat} {b:Bool} {P:List Nat} (B:Below3 K L n f g h b f' g' h') (q:AskQ K f g h) (e:K.Ext K') (hw:K.Wf P):Below3 K' L n f g h b f' g' h' :=
  ⟨B.ask.ext e,by rw [e.lev,e.dep3 B.ask.t0 B.ask.t1 B.ask.t2]; exact B.dep,fun x=>by rw [e.fun3 hw B.ask.t0 B.ask.t1 B.ask.t2,e.fun3 hw q.t0 q.t1 q.t2]; exact B.den x⟩
def Runs3 (K:KV) (L:Bool→Bool→Bool→Bool) (t:(Nat→Bool)→Bool) (f g h:Nat):Prop:=∃ (l:Nat) (a:Nat→Bool),l≤K.dep3 f g h∧∀ x,K.fun3 L f g h x=t (K.mix l a x)
theorem Runs3.sub {K:KV} {L:Bool→Bool→Bool→Bool} {t:(Nat→Bool)→Bool} {f g h:Nat} (r:Runs3 K L t f g h):K.SubN t (K.fun3 L f g h):=by
  obtain ⟨l,a,_,e⟩:=r; exact ⟨l,a,e⟩
theorem Runs3.ext {K K':KV} {L:Bool→Bool→Bool→Bool} {t:(Nat→Bool)→Bool} {f g h:Nat} {P:List Nat} (r:Runs3 K L t f g h) (q:AskQ K f g h) (e:K.Ext K') (hw:K.Wf P):Runs3 K' L t f g h:=by
  obtain ⟨l,a,hl,h⟩:=r;refine ⟨l,a,by rw [e.dep3 q.t0 q.t1 q.t2]; exact hl,fun x=>?_⟩
  rw [e.fun3 hw q.t0 q.t1 q.t2,e.mix]; exact h x
theorem KV.fun3_same {K:KV} {P:List Nat} (hw:K.Wf P) (ho:K.Ord) (L:Bool→Bool→Bool→Bool) {f g h:Nat} (q:AskQ K f g h) {x y:Nat→Bool} (hx:∀ v,v < K.vars→K.dep3 f g h≤K.lev v→x v=y v):K.fun3 L f g h x=K.fun3 L f g h y:=by
  have d0:K.dep3 f g h≤K.dep f:=by simp only [KV.dep3]; omega
  have d1:K.dep3 f g h≤K.dep g:=by simp only [KV.dep3]; omega
  have d2:K.dep3 f g h≤K.dep h:=by simp only [KV.dep3]; omega
  unfold KV.fun3;rw [KV.den_same hw ho _ f x y q.t0 (Nat.le_refl _) fun v hv hl=>hx v hv (by omega),KV.den_same hw ho _ g x y q.t1 (Nat.le_refl _) fun v hv hl=>hx v hv (by omega),KV.den_same hw ho _ h x y q.t2 (Nat.le_refl _) fun v hv hl=>hx v hv (by omega)]
theorem Runs3.below {K:KV} (hk:K.Ok) {L:Bool→Bool→Bool→Bool} {t:(Nat→Bool)→Bool} {n f g h f' g' h':Nat} {b:Bool} (r:Runs3 K L t f g h) (q:AskQ K f g h) (hn:n < K.vars) (hd:K.lev n=K.dep3 f g h) (B:Below3 K L n f g h b f' g' h'):Runs3 K L t f' g' h':=by
  obtain ⟨l,a,hl,e⟩:=r;refine ⟨K.lev n + 1,fun v=>if v < K.vars∧K.lev v < l then a v else if v=n then b else false,B.dep,fun x=>?_⟩;rw [B.den]
  have e2:K.fun3 L f g h (upd x n b)=K.fun3 L f g h (upd (fun v=>if v < K.vars∧K.lev v < K.lev n then false else x v) n b):=by
    refine KV.fun3_same hk.wf hk.ord L q fun v hv hlv=>?_
    unfold upd;split
    · rfl
    · show x v=(if v < K.vars∧K.lev v < K.lev n then false else x v)
      rw [if_neg (by omega)]
  rw [e2,e]
  congr 1
  funext v
  unfold KV.mix upd
  by_cases hv:v < K.vars
  · by_cases h1:K.lev v < l
    · simp [hv,h1]; intro h2; omega
    · by_cases h2:v=n
      · subst h2; simp [hv,h1]
      · by_cases h3:K.lev v < K.lev n
        · simp [hv,h1,h2,h3]; omega
        · have h4:¬ K.lev v < K.lev n + 1:=fun h=>h2 (hk.ord.pm.inj hv hn (by omega))
          simp [hv,h1,h2,h3,h4]
  · have h2:v≠n:=by rintro rfl; exact hv hn
    simp [hv,h2]
theorem length_le_count:∀ (n c:Nat) (M:List Nat),(∀ x,x∈M→x < n)→(∀ x,M.count x≤c)→M.length≤n * c
  | 0,c,M,h,_=>by
    match M,h with
    | [],_=>simp
    | x :: _,h=>have:=h x (by simp); omega
  | n + 1,c,M,h,hc=>by
    have e:M.length=(M.filter fun x=>x == n).length + (M.filter fun x=>!(x == n)).length:=by
      rw [← List.countP_eq_length_filter,← List.countP_eq_length_filter];have hh:=List.length_eq_countP_add_countP (fun x=>x == n) (l:=M);rw [hh]
      congr 2
      funext a
      cases a == n <;> rfl
    have e1:(M.filter fun x=>x == n).length=M.count n:=by rw [List.count,List.countP_eq_length_filter]
    have e2:=length_le_count n c (M.filter fun x=>!(x == n)) (fun x hx=>by
      have h1:=List.mem_filter.1 hx;have h2:=h x h1.1
      have h3:x≠n:=by simpa using h1.2
      omega) (fun x=>Nat.le_trans (List.Sublist.count_le x List.filter_sublist) (hc x))
    have:=hc n
    have e3:(n + 1) * c=n * c + c:=by rw [Nat.add_mul]; omega
    omega
theorem RunS.len {K0 K:KV} {S:((Nat→Bool)→Bool)→Prop} {M:List Nat} (R:RunS K0 S M K) (hk:K.Ok):M.length≤1099511627775∧∀ x,x∈M→x≤4294967295:=by
  have hc:∀ x,M.count x≤65535:=fun x=>by have:=R.hd x; have:=hk.wf.hm x; omega
  have hl:∀ x,x∈M→x < 1048576:=fun x hx=>by
    have h1:=R.hd x;have h2:=List.count_pos_iff.2 hx;have h3:=hk.wf.ht x (by omega);have h4:=hk.wf.tk_lt h3.1 h3.2;omega
  refine ⟨?_,fun x hx=>by have:=hl x hx; omega⟩;have:=length_le_count 1048576 65535 M hl hc;omega
end Go.Proofs.YtpfafhmkbcahhaaGreat
namespace Go.Proofs.YtpfafhmkbcahhaaGreat
open Go.RowKit Go.Maps Go.ChangeMaps Go.WideShapes
def Enters (fl:Nat):Prop:=∀ (args:Array Value) (w:World),(callFunc fl args).run Tryz.prog w=.ok (.enter fl args) w
def LeafOk (w:World) (fl:Nat) (caps:Array Value) (FL:List Nat) (L:Bool→Bool→Bool→Bool):Prop :=
  ∀ w',(∀ k,k∈FL→w'.heap[k]?=w.heap[k]?)→∀ x y z:Bool,Calls Tryz.prog fl (#[.bool x,.bool y,.bool z] ++ caps) w' fun e w''=>e=.returned (.bool (L x y z))∧Upd [] w' w''
structure RunM (w:World) (wb b ck cw cl cg mb fl:Nat) (caps:Array Value) (FL:List Nat) (L:Bool→Bool→Bool→Bool) (K:KV) (T:List DM) (q:KPtr) (M:List Nat) (lvv mv:Value) (D:DM):Prop where
  wk:WK w wb b K T q M lvv mv
  bw:w.heap[cw]?=some (.cells #[.pointer (some ⟨wb,0,none⟩)] 247 (0,0))
  bk:w.heap[ck]?=some (.cells #[.map (some mb)] 303 (0,0))
  bl:w.heap[cl]?=some (.cells #[.func (Fn.func fl) #[] caps] 253 (0,0))
  bg:w.heap[cg]?=some (.cells #[.func (Fn.func 230) #[] #[.pointer (some ⟨ck,0,none⟩),.pointer (some ⟨cw,0,none⟩),.pointer (some ⟨cl,0,none⟩),.pointer (some ⟨cg,0,none⟩)]] 304 (0,0))
  map:w.ownsMap Tryz.prog 252 (plainElem Tryz.prog 54) mb (Maps.size D) D
  leaf:LeafOk w fl caps FL L
  fl_lt:∀ k,k∈FL→k < w.heap.size
  dj:∀ k,k∈mb :: wkF wb b q lvv mv→k≠ck∧k≠cw∧k≠cl∧k≠cg∧k∉FL
  dm:mb∉wkF wb b q lvv mv
def runF (mb wb b:Nat) (q:KPtr) (lvv mv:Value):List Nat:=mb :: wkF wb b q lvv mv
theorem RunM.lt {w:World} {wb b ck cw cl cg mb fl:Nat} {caps:Array Value} {FL:List Nat} {L:Bool→Bool→Bool→Bool} {K:KV} {T:List DM} {q:KPtr} {M:List Nat} {lvv mv:Value} {D:DM} (h:RunM w wb b ck cw cl cg mb fl caps FL L K T q M lvv mv D) :
    ∀ k,k∈runF mb wb b q lvv mv→k < w.heap.size:=by
  intro k hk
  rcases List.mem_cons.1 hk with rfl | hk
  · exact h.map.lt
  · exact h.wk.lt k hk
theorem RunM.keep {w w':World} {wb b ck cw cl cg mb fl:Nat} {caps:Array Value} {FL:List Nat} {L:Bool→Bool→Bool→Bool} {K:KV} {T:List DM} {q:KPtr} {M:List Nat} {lvv mv:Value} {D:DM} (h:RunM w wb b ck cw cl cg mb fl caps FL L K T q M lvv mv D) (u:Upd [] w w') :
    RunM w' wb b ck cw cl cg mb fl caps FL L K T q M lvv mv D:=by
  have e:∀ {k:Nat} {o:Obj},w.heap[k]?=some o→w'.heap[k]?=some o:=fun {k o} hk=>by rw [u.block k (heap_lt hk) (by simp)]; exact hk
  refine ⟨h.wk.upd u (by simp),e h.bw,e h.bk,e h.bl,e h.bg,own_keep h.map (u.block _ h.map.lt (by simp)),fun w2 h2=>h.leaf w2 fun k hk=>(h2 k hk).trans (u.block k (h.fl_lt k hk) (by simp)),fun k hk=>Nat.lt_of_lt_of_le (h.fl_lt k hk) u.size,h.dj,h.dm⟩
theorem RunM.work {w w':World} {wb b ck cw cl cg mb fl:Nat} {caps:Array Value} {FL:List Nat} {L:Bool→Bool→Bool→Bool} {K K':KV} {T T':List DM} {q q':KPtr} {M M':List Nat} {lvv mv mv':Value} {D:DM} (h:RunM w wb b ck cw cl cg mb fl caps FL L K T q M lvv mv D)
    (hw:WK w' wb b K' T' q' M' lvv mv') (u:Upd (wkF wb b q lvv mv) w w') (s:Sub (wkF wb b q lvv mv) w (wkF wb b q' lvv mv')):RunM w' wb b ck cw cl cg mb fl caps FL L K' T' q' M' lvv mv' D:=by
  have out:∀ k,k < w.heap.size→k∉wkF wb b q lvv mv→k∉wkF wb b q' lvv mv':=fun k hk hn hm=>by
    rcases s k hm with h | h
    · exact hn h
    · omega
  have djw:∀ k,k∈wkF wb b q lvv mv→k≠ck∧k≠cw∧k≠cl∧k≠cg∧k∉FL:=fun k hk=>h.dj k (List.mem_cons_of_mem _ hk)
  have nk:ck∉wkF wb b q lvv mv:=fun hk=>(djw _ hk).1 rfl
  have nw:cw∉wkF wb b q lvv mv:=fun hk=>(djw _ hk).2.1 rfl
  have nl:cl∉wkF wb b q lvv mv:=fun hk=>(djw _ hk).2.2.1 rfl
  have ng:cg∉wkF wb b q lvv mv:=fun hk=>(djw _ hk).2.2.2.1 rfl
  have nf:∀ k,k∈FL→k∉wkF wb b q lvv mv:=fun k hf hk=>(djw _ hk).2.2.2.2 hf
  have e:∀ {k:Nat} {o:Obj},k∉wkF wb b q lvv mv→w.heap[k]?=some o→w'.heap[k]?=some o:=fun {k o} hn hk=>by rw [u.block k (heap_lt hk) hn]; exact hk
  refine ⟨hw,e nw h.bw,e nk h.bk,e nl h.bl,e ng h.bg,own_keep h.map (u.block _ h.map.lt h.dm),fun w2 h2=>h.leaf w2 fun k hk=>(h2 k hk).trans (u.block k (h.fl_lt k hk) (nf k hk)),fun k hk=>Nat.lt_of_lt_of_le (h.fl_lt k hk) u.size,?_,out mb h.map.lt h.dm⟩
  intro k hk
  rcases List.mem_cons.1 hk with rfl | hk
  · exact h.dj _ (by simp)
  · refine ⟨?_,?_,?_,?_,fun hf=>out k (h.fl_lt k hf) (nf k hf) hk⟩ <;> rintro rfl
    · exact out _ (heap_lt h.bk) nk hk
    · exact out _ (heap_lt h.bw) nw hk
    · exact out _ (heap_lt h.bl) nl hk
    · exact out _ (heap_lt h.bg) ng hk
theorem RunM.known {w w':World} {wb b ck cw cl cg mb fl:Nat} {caps:Array Value} {FL:List Nat} {L:Bool→Bool→Bool→Bool} {K:KV} {T:List DM} {q:KPtr} {M:List Nat} {lvv mv:Value} {D D':DM} (h:RunM w wb b ck cw cl cg mb fl caps FL L K T q M lvv mv D)
    (hm:w'.ownsMap Tryz.prog 252 (plainElem Tryz.prog 54) mb (Maps.size D') D') (u:Upd [mb] w w'):RunM w' wb b ck cw cl cg mb fl caps FL L K T q M lvv mv D':=by
  have hmb:=h.dj mb (by simp)
  have e:∀ {k:Nat} {o:Obj},mb≠k→w.heap[k]?=some o→w'.heap[k]?=some o:=fun {k o} hn hk=>by rw [u.block k (heap_lt hk) (by simp; exact Ne.symm hn)]; exact hk
  refine ⟨h.wk.upd u (fun k hk hm=>?_),e hmb.2.1 h.bw,e hmb.1 h.bk,e hmb.2.2.1 h.bl,e hmb.2.2.2.1 h.bg,hm,fun w2 h2=>h.leaf w2 fun k hk=>(h2 k hk).trans (u.block k (h.fl_lt k hk) ?_),fun k hk=>Nat.lt_of_lt_of_le (h.fl_lt k hk) u.size,h.dj,h.dm⟩
  · simp at hm; subst hm; exact h.dm hk
  · simp; rintro rfl; exact hmb.2.2.2.2 hk
theorem RunM.cells {w:World} {wb b ck cw cl cg mb fl:Nat} {caps:Array Value} {FL:List Nat} {L:Bool→Bool→Bool→Bool} {K:KV} {T:List DM} {q:KPtr} {M:List Nat} {lvv mv:Value} {D:DM} (h:RunM w wb b ck cw cl cg mb fl caps FL L K T q M lvv mv D) :
    w.cell? ⟨cw,0,none⟩=some (.pointer (some ⟨wb,0,none⟩))∧w.cell? ⟨ck,0,none⟩=some (.map (some mb))∧w.cell? ⟨cl,0,none⟩=some (.func (Fn.func fl) #[] caps) ∧
    w.cell? ⟨cg,0,none⟩=some (.func (Fn.func 230) #[] #[.pointer (some ⟨ck,0,none⟩),.pointer (some ⟨cw,0,none⟩),.pointer (some ⟨cl,0,none⟩),.pointer (some ⟨cg,0,none⟩)]) :=
  ⟨cell_at h.bw rfl,cell_at h.bk rfl,cell_at h.bl rfl,cell_at h.bg rfl⟩
end Go.Proofs.YtpfafhmkbcahhaaGreat
namespace Go.Proofs.YtpfafhmkbcahhaaGreat
open Go.RowKit Go.Maps Go.ChangeMaps Go.WideShapes
theorem NodeR.ext {K K':KV} {v lo hi r:Nat} {code:Int} {M M':List Nat} (hk:K.Ok) (N:NodeR K v lo hi M r code K' M'):K.Ext K'∧∀ x,x∈M→x∈M':=by
  cases N with
  | same=>exact ⟨.refl K,fun _ h=>h⟩
  | old _ ha hm=>exact ⟨(hk.kept ha.tk hm).2.ext,fun x hx=>List.mem_append.2 (.inl hx)⟩
  | full=>exact ⟨.refl K,fun _ h=>h⟩
  | nodes=>exact ⟨.refl K,fun _ h=>h⟩
  | new _ _ hm=>exact ⟨hm.ext,fun x hx=>List.mem_append.2 (.inl hx)⟩
theorem NodeR.lt {K K':KV} {v lo hi r:Nat} {code:Int} {M M':List Nat} (hk:K.Ok) (hk':K'.Ok) (hl:lo≤4294967295) (N:NodeR K v lo hi M r code K' M'):r≤4294967295:=by
  cases N with
  | same=>exact hl
  | old _ ha _=>have:=ha.lt hk.wf; omega
  | full _ ha _=>have:=ha.lt hk.wf; omega
  | nodes=>omega
  | new _ _ hm =>
    have:K'.A.tk r=true:=by rw [hm.tk]; simp
    have:=hk'.ref_lt this; omega
end Go.Proofs.YtpfafhmkbcahhaaGreat
