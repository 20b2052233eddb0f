import Derived.Test.YtlkgkojidclncaaGreatTB15
set_option maxRecDepth 100000
set_option maxHeartbeats 6400000
namespace Go.Proofs.YtlkgkojidclncaaGreat
open Go.RowKit Go.Maps Go.ChangeMaps Go.WideShapes
structure TakeQ (tb r:Nat) (K:KV) (L:List Nat) (rv nv wv:Value) (w:World) (e:Ending) (w':World):Prop where
 ex:∃ (N:List Nat) (rv' nv' wv':Value),e=.returned (.bool true)/\NetA K r L N/\NetIn w' tb K (L++N) rv' nv' wv'/\Upd (netS tb rv nv wv) w w'/\Sub (netS tb rv nv wv) w (netS tb rv' nv' wv')
def TakeHyp (tb b:Nat) (K:KV) (T:List DM) (q:KPtr) (d:Nat):Prop :=
 ∀ (r:Nat) (L:List Nat) (rv nv wv:Value) (w:World),KerIn w b K T q->NetIn w tb K L rv nv wv->NetL K L->(∀ k,k∈q.all b->k∉netS tb rv nv wv)->K.A.tk r=true->d<=K.dep r ->
  Calls Tryz.prog 38 #[.pointer (some ⟨tb,0,none⟩),.pointer (some ⟨b,0,none⟩),.int .u32 r] w fun e w'=>TakeQ tb r K L rv nv wv w e w'
theorem box_node {w:World} {B:Nat} {x y z:Value} (h:w.heap[B]?=some (.cells #[x,y,z] 95 (0,0))):w.cell? ⟨B,0,none⟩=some x/\w.cell? ⟨B,1,none⟩=some y/\w.cell? ⟨B,2,none⟩=some z:=⟨cell_at h rfl,cell_at h rfl,cell_at h rfl⟩
structure NetMid (w:World) (tb:Nat) (K:KV) (M:List Nat) (r:Nat) (rv nv wv:Value):Prop where
 blk:w.heap[tb]?=some (.cells #[rv,nv,wv] 92 (0,0))
 rr:w.ownsRow 0 62 1 rv M.length (flatRefs M)
 nn:w.ownsRow 0 95 3 nv M.length (flatNodes (M.map K.pl))
 ww:w.ownsRow 0 75 1 wv (M++[r]).length (flatU ((M++[r]).map fun r=>u64m (K.way r)))
theorem NetIn.ways {w w8:World} {tb g1 cap1 r:Nat} {K:KV} {M:List Nat} {rv nv wv:Value} (h:NetIn w tb K M rv nv wv) (o1:w8.ownsRow 0 75 1 (.slice (some ⟨g1,0,none⟩) (M.length+1) cap1) (M.length+1) (flatU (M.map fun r=>u64m (K.way r))++[.int .u64 (u64m (K.way r))]))
  (u:Upd wv.ownBlock.toList w w8) (a1:wv.ownBlock=some g1\/w.heap.size<=g1) :
  NetMid (w8.setCell ⟨tb,2,none⟩ (.slice (some ⟨g1,0,none⟩) (M.length+1) cap1)) tb K M r rv nv (.slice (some ⟨g1,0,none⟩) (M.length+1) cap1) /\
  Upd (netS tb rv nv wv) w (w8.setCell ⟨tb,2,none⟩ (.slice (some ⟨g1,0,none⟩) (M.length+1) cap1))/\Sub (netS tb rv nv wv) w (netS tb rv nv (.slice (some ⟨g1,0,none⟩) (M.length+1) cap1)):=by
 obtain ⟨n0,n1,n2⟩:=h.ne;have htb:w8.heap[tb]?=_:=(u.block tb (heap_lt h.blk) fun hm=>n2 (by simpa using hm)).trans h.blk
 have hrr:w8.ownsRow 0 62 1 rv M.length (flatRefs M):=row_keep h.rr fun k hk=>u.block k (h.rr.lt k hk).2 fun hm=>ty_ne h.rr h.ww (by decide) hk (by simpa using hm)
 have hnn:w8.ownsRow 0 95 3 nv M.length (flatNodes (M.map K.pl)):=row_keep h.nn fun k hk=>u.block k (h.nn.lt k hk).2 fun hm=>ty_ne h.nn h.ww (by decide) hk (by simpa using hm)
 have hg:(Value.slice (some ⟨g1,0,none⟩) (M.length+1) cap1).ownBlock≠some tb:=blk_ne o1 htb (by decide);refine ⟨⟨?_,row_ne hrr (Ne.symm n0) _,row_ne hnn (Ne.symm n1) _,?_⟩,?_,fun k hk=>?_⟩
 ·rw [heap_set_eq (j:=2) htb];rfl
 ·have e:flatU ((M++[r]).map fun r=>u64m (K.way r))=flatU (M.map fun r=>u64m (K.way r))++[.int .u64 (u64m (K.way r))]:=by simp [flatU]
  rw [e,List.length_append];exact row_ne o1 (Ne.symm hg) _
 ·exact (u.mono fun k hk=>mem_netS.2 (.inr (.inr (.inr (by simpa using hk))))).setCell (p:=⟨tb,2,none⟩) (.inl (mem_netS.2 (.inl rfl))) _
 ·rcases mem_netS.1 hk with rfl | hk | hk | hk
  ·exact .inl (mem_netS.2 (.inl rfl))
  ·exact .inl (mem_netS.2 (.inr (.inl hk)))
  ·exact .inl (mem_netS.2 (.inr (.inr (.inl hk))))
  ·simp [Value.ownBlock] at hk;subst hk
   rcases a1 with a1 | a1
   ·exact .inl (mem_netS.2 (.inr (.inr (.inr a1))))
   ·exact .inr a1
theorem NetMid.done {w w6:World} {tb g1 cap1 g2 cap2 r:Nat} {K:KV} {M:List Nat} {p:PlaceV} {rv nv wv:Value} (h:NetMid w tb K M r rv nv wv) (hp:K.pl r=p) (u:Upd (rv.ownBlock.toList++nv.ownBlock.toList) w w6)
  (o1:w6.ownsRow 0 62 1 (.slice (some ⟨g1,0,none⟩) (M.length+1) cap1) (M.length+1) (flatRefs M++[.int .u32 r])) (o2:w6.ownsRow 0 95 3 (.slice (some ⟨g2,0,none⟩) (M.length+1) cap2) (M.length+1) (flatNodes (M.map K.pl)++p.node))
  (a1:rv.ownBlock=some g1\/w.heap.size<=g1) (a2:nv.ownBlock=some g2\/w.heap.size<=g2) :
  NetIn ((w6.setCell ⟨tb,0,none⟩ (.slice (some ⟨g1,0,none⟩) (M.length+1) cap1)).setCell ⟨tb,1,none⟩ (.slice (some ⟨g2,0,none⟩) (M.length+1) cap2)) tb K (M++[r]) (.slice (some ⟨g1,0,none⟩) (M.length+1) cap1) (.slice (some ⟨g2,0,none⟩) (M.length+1) cap2) wv /\
  Upd (netS tb rv nv wv) w ((w6.setCell ⟨tb,0,none⟩ (.slice (some ⟨g1,0,none⟩) (M.length+1) cap1)).setCell ⟨tb,1,none⟩ (.slice (some ⟨g2,0,none⟩) (M.length+1) cap2))/\Sub (netS tb rv nv wv) w (netS tb (.slice (some ⟨g1,0,none⟩) (M.length+1) cap1) (.slice (some ⟨g2,0,none⟩) (M.length+1) cap2) wv):=by
 have hno:∀ k,wv.ownBlock=some k->k∉rv.ownBlock.toList++nv.ownBlock.toList:=fun k hk hm=>by
  rcases List.mem_append.1 hm with hm | hm
  ·exact ty_ne h.ww h.rr (by decide) hk (by simpa using hm)
  ·exact ty_ne h.ww h.nn (by decide) hk (by simpa using hm)
 have htb:w6.heap[tb]?=_:=(u.block tb (heap_lt h.blk) fun hm=>by
  rcases List.mem_append.1 hm with hm | hm
  ·exact blk_ne h.rr h.blk (by decide) (by simpa using hm)
  ·exact blk_ne h.nn h.blk (by decide) (by simpa using hm)).trans h.blk
 have hww:w6.ownsRow 0 75 1 wv (M++[r]).length (flatU ((M++[r]).map fun r=>u64m (K.way r))):=row_keep h.ww fun k hk=>u.block k (h.ww.lt k hk).2 (hno k hk)
 have g1n:(Value.slice (some ⟨g1,0,none⟩) (M.length+1) cap1).ownBlock≠some tb:=blk_ne o1 htb (by decide);have g2n:(Value.slice (some ⟨g2,0,none⟩) (M.length+1) cap2).ownBlock≠some tb:=blk_ne o2 htb (by decide);have wn:wv.ownBlock≠some tb:=blk_ne hww htb (by decide)
 have e1:flatRefs (M++[r])=flatRefs M++[.int .u32 r]:=by simp [flatRefs]
 have e2:flatNodes ((M++[r]).map K.pl)=flatNodes (M.map K.pl)++p.node:=by rw [List.map_append,List.map_cons,List.map_nil,flatNodes_snoc,hp]
 refine ⟨⟨?_,?_,?_,row_ne (row_ne hww (Ne.symm wn) _) (Ne.symm wn) _⟩,?_,fun k hk=>?_⟩
 ·rw [heap_set_eq (j:=1) (heap_set_eq (j:=0) htb _)];rfl
 ·rw [e1,List.length_append];exact row_ne (row_ne o1 (Ne.symm g1n) _) (Ne.symm g1n) _
 ·rw [e2,List.length_append];exact row_ne (row_ne o2 (Ne.symm g2n) _) (Ne.symm g2n) _
 ·refine ((u.mono fun k hk=>?_).setCell (p:=⟨tb,0,none⟩) (.inl (mem_netS.2 (.inl rfl))) _).setCell (p:=⟨tb,1,none⟩) (.inl (mem_netS.2 (.inl rfl))) _
  rcases List.mem_append.1 hk with hk | hk
  ·exact mem_netS.2 (.inr (.inl (by simpa using hk)))
  ·exact mem_netS.2 (.inr (.inr (.inl (by simpa using hk))))
 ·rcases mem_netS.1 hk with rfl | hk | hk | hk
  ·exact .inl (mem_netS.2 (.inl rfl))
  ·simp [Value.ownBlock] at hk;subst hk
   rcases a1 with a1 | a1
   ·exact .inl (mem_netS.2 (.inr (.inl a1)))
   ·exact .inr a1
  ·simp [Value.ownBlock] at hk;subst hk
   rcases a2 with a2 | a2
   ·exact .inl (mem_netS.2 (.inr (.inr (.inl a2))))
   ·exact .inr a2
  ·exact .inl (mem_netS.2 (.inr (.inr (.inr hk))))
theorem node_set {x:World} {B a j:Nat} {v0 v1 v2:Value} (h:x.cell? ⟨B,0,none⟩=some v0/\x.cell? ⟨B,1,none⟩=some v1/\x.cell? ⟨B,2,none⟩=some v2) (hne:B≠a) (u:Value):(x.setCell ⟨a,j,none⟩ u).cell? ⟨B,0,none⟩=some v0/\(x.setCell ⟨a,j,none⟩ u).cell? ⟨B,1,none⟩=some v1/\(x.setCell ⟨a,j,none⟩ u).cell? ⟨B,2,none⟩=some v2:=by
 have hb:(x.setCell ⟨a,j,none⟩ u).heap[B]?=x.heap[B]?:=heap_set_ne hne;exact ⟨(World.cell?_of_block (a:=⟨B,0,none⟩) hb).trans h.1,(World.cell?_of_block (a:=⟨B,1,none⟩) hb).trans h.2.1,(World.cell?_of_block (a:=⟨B,2,none⟩) hb).trans h.2.2⟩
theorem take_old (tb b r:Nat) (K:KV) (T:List DM) (q:KPtr) (L:List Nat) (rv nv wv:Value) (w:World) (hk:KerIn w b K T q) (h:NetIn w tb K L rv nv wv) (hL:NetL K L) (hr:r<2\/r∈L) :
  Calls Tryz.prog 38 #[.pointer (some ⟨tb,0,none⟩),.pointer (some ⟨b,0,none⟩),.int .u32 r] w fun e w'=>TakeQ tb r K L rv nv wv w e w':=by
 have hll:=hL.len_places hk.ok;have hpm:=hk.ok.wf.ok.pm;have HF:=Lib.hid (nfind_spec tb r K L rv nv wv w h (by omega));have HE:Hid (TakeQ tb r K L rv nv wv w (.returned (.bool true)) w):=⟨[],rv,nv,wv,rfl,NetA.none hL hr,by simpa using h,Upd.refl _ _,Sub.refl _ _⟩
 by_cases h2:r<2
 ·have hle:(r:Int)<=1:=by omega
  have hd:decide ((r:Int)<=1)=true:=decide_eq_true hle;clear hk h hL hll hpm
  go_enter Tryz.func38,Tryz.ntmps38
  go_wp2_with fail;go_ret;exact HE.out
 ·have hle:¬ (r:Int)<=1:=by omega
  have hd:decide ((r:Int)<=1)=false:=decide_eq_false hle;obtain ⟨i,hi,_⟩:=placeOf_some (hr.resolve_left h2);rw [hi] at HF;clear hk h hL hll hpm hr hi
  go_enter Tryz.func38,Tryz.ntmps38
  go_wp2_with fail;refine HF.out.mono ?_;rintro e w1 ⟨rfl,rfl⟩;go_wp2_with fail;go_ret;exact HE.out
theorem take_new (tb b r:Nat) (K:KV) (T:List DM) (q:KPtr) (L:List Nat) (rv nv wv:Value) (w:World) (hk:KerIn w b K T q) (h:NetIn w tb K L rv nv wv) (hL:NetL K L) (hdj:∀ k,k∈q.all b->k∉netS tb rv nv wv) (h2:2<=r) (ht:K.A.tk r=true) (hn:r∉L) (hpl:K.A.places<=4096)
  (IH:TakeHyp tb b K T q (K.dep r+1)) :
  Calls Tryz.prog 38 #[.pointer (some ⟨tb,0,none⟩),.pointer (some ⟨b,0,none⟩),.int .u32 r] w fun e w'=>TakeQ tb r K L rv nv wv w e w':=by
 have hll:=hL.len_places hk.ok
 have hL4:L.length<=4094:=by omega
 have HF:=Lib.hid (nfind_spec tb r K L rv nv wv w h (by omega));rw [placeOf_none hn] at HF
 have hle:¬ (r:Int)<=1:=by omega
 have hd:decide ((r:Int)<=1)=false:=decide_eq_false hle;obtain ⟨p,hp,hpt⟩:=ArenaV.tk_iff.1 ht;have hb:=hk.ok.ord.below hk.ok.wf h2 hp hpt;have hc:=hk.ok.wf.cl r p h2 hp hpt;have hrl:=hk.ok.ref_lt ht
 have hnl:p.lo≠r:=fun e=>by rw [e] at hb;omega
 have hnh:p.hi≠r:=fun e=>by rw [e] at hb;omega
 have HP:=Lib.hid (And.intro hp (And.intro hpt (And.intro hb (And.intro hc (And.intro h2 (And.intro hn hk.ok))))));have HND:=Lib.hid (nodeof_yes b r K T q p w hk.mem (by omega) hp hpt);have HI:=Lib.hid (And.intro hk (And.intro h (And.intro hL hdj)));have HIH:=Lib.hid IH;obtain ⟨ra,rc,hra,_⟩:=row_nil_len h.rr;obtain ⟨na,nc,hna,_⟩:=row_nil_len h.nn;obtain ⟨wa,wc,hwa,_⟩:=row_nil_len h.ww;have c0:w.cell? ⟨tb,0,none⟩=some rv:=cell_at h.blk rfl;rw [hra] at c0;have HV:=Lib.hid hra;have HPC:=Lib.hid hpl;clear hk h hL hdj ht hp hpt hb hc IH hn hll hpl hra hna hwa
 go_enter Tryz.func38,Tryz.ntmps38
 go_wp2_with fail;refine HF.out.mono ?_;rintro e w1 ⟨rfl,rfl⟩;go_wp2_with fail;refine HND.out.mono ?_;rintro e w2 ⟨rfl,hu2⟩;have hbx:=heap_alloc_new w2 (.cells #[.int .i64 p.var,.int .u32 p.lo,.int .u32 p.hi] 95 (0,0));have hu3:Upd [] w1 (w2.alloc (.cells #[.int .i64 p.var,.int .u32 p.lo,.int .u32 p.hi] 95 (0,0))):=hu2.alloc _;have hBs:w1.heap.size<=w2.heap.size:=hu2.size;generalize hlo:p.lo=lo at *;generalize hhi:p.hi=hi at *;generalize hvv:p.var=vv at *;have HPV:=Lib.hid (And.intro hlo (And.intro hhi hvv));clear hlo hhi hvv hu2;go_upto_region 4 with fail;obtain ⟨w3,hw3⟩ : ∃ w3,w2.alloc (.cells #[.int .i64 vv,.int .u32 lo,.int .u32 hi] 95 (0,0))=w3:=⟨_,rfl⟩;rw [hw3] at hbx hu3 ⊢;generalize w2.heap.size=B at *;clear hw3;have d0:=hu3.cell0 c0;obtain ⟨b0,b1,b2⟩:=box_node hbx;have HB:=Lib.hid (And.intro hbx (And.intro hu3 hBs))
 have hlo0:((lo:Int) == (r:Int))=false:=by simp;omega
 have hhi0:((hi:Int) == (r:Int))=false:=by simp;omega
 have hlo1:¬ ((lo:Int)=(r:Int)):=by omega
 have hhi1:¬ ((hi:Int)=(r:Int)):=by omega
 have hlen:¬ ((4096:Int)<(L.length:Int)):=by omega
 have hlen2:decide ((4096:Int)<(L.length:Int))=false:=decide_eq_false hlen;have HT1:=Lib.hid (HIH.out lo L rv nv wv w3 (HI.out.1.upd hu3 (by simp)) (HI.out.2.1.keep0 hu3) HI.out.2.2.1 HI.out.2.2.2 HP.out.2.2.2.1.1 (by have:=HP.out.2.2.1.1;omega));clear hbx hu3 c0 hBs;go_wp2_with fail;refine HT1.out.mono ?_;rintro e w4 hE;obtain ⟨N0,rv1,nv1,wv1,rfl,hA0,hN1,hu4,hs4⟩:=hE.ex
 have hBn:B∉netS tb rv nv wv:=fun hm=>by have:=(HI.out.2.1.lt hm);have:=HB.out.2.2;omega
 have hq1:∀ k,k∈q.all b->k<w3.heap.size:=fun k hk=>Nat.lt_of_lt_of_le (HI.out.1.mem.lt k hk) HB.out.2.1.size
 have hdj1:∀ k,k∈q.all b->k∉netS tb rv1 nv1 wv1:=fun k hk hm=>by
  rcases hs4 k hm with h | h
  ·exact HI.out.2.2.2 k hk h
  ·have:=hq1 k hk;omega
 have hbx4:w4.heap[B]?=_:=(hu4.block B (heap_lt HB.out.1) hBn).trans HB.out.1;have HH4:=Lib.hid (And.intro hA0 (And.intro hN1 (And.intro hu4 (And.intro hs4 (And.intro hdj1 hbx4)))));have hk4:KerIn w4 b K T q:=(HI.out.1.upd HB.out.2.1 (by simp)).upd hu4 HI.out.2.2.2;obtain ⟨_,_,e2⟩:=box_node hbx4;have HT2:=Lib.hid (HIH.out hi (L++N0) rv1 nv1 wv1 w4 hk4 hN1 hA0.net hdj1 HP.out.2.2.2.1.2 (by have:=HP.out.2.2.1.2;omega));have HBn:=Lib.hid hBn;clear hE hA0 hN1 hu4 hs4 hdj1 hbx4 hk4 hq1 hBn HT1 b0 b1 b2 d0 hlo0 hlo1 hhi0 hhi1 hlen hlen2;go_wp2_with fail;refine HT2.out.mono ?_;rintro e w5 hE;obtain ⟨N1,rv2,nv2,wv2,rfl,hA1,hN2,hu5,hs5⟩:=hE.ex
 have hBn1:B∉netS tb rv1 nv1 wv1:=fun hm=>by
  rcases HH4.out.2.2.2.1 B hm with h | h
  ·exact HBn.out h
  ·have:=heap_lt HB.out.1;omega
 have hbx5:w5.heap[B]?=_:=(hu5.block B (heap_lt HH4.out.2.2.2.2.2) hBn1).trans HH4.out.2.2.2.2.2
 have hu35:Upd (netS tb rv nv wv) w3 w5:=HH4.out.2.2.1.then hu5 fun k hk=>HH4.out.2.2.2.1 k hk
 have hs35:Sub (netS tb rv nv wv) w3 (netS tb rv2 nv2 wv2):=fun k hk=>by
  rcases hs5 k hk with h | h
  ·exact HH4.out.2.2.2.1 k h
  ·exact .inr (Nat.le_trans HH4.out.2.2.1.size h)
 obtain ⟨hA,hnr⟩:=NetA.node HP.out.2.2.2.2.2.2 HP.out.2.2.2.2.1 HP.out.2.2.2.2.2.1 HP.out.1 HP.out.2.1 (N0:=N0) (N1:=N1) (by rw [HPV.out.1];exact HH4.out.1) (by rw [HPV.out.2.1];exact hA1);have hall:=hA.net.len_places HP.out.2.2.2.2.2.2;have hpc:=HPC.out
 have hlo2:lo<2\/lo∈L++N0++N1:=HH4.out.1.has.imp_right fun h=>List.mem_append.2 (.inl h)
 have hM:(L++N0++N1).length<=4094:=by
  have:(L++N0++N1).length<=(L++(N0++N1++[r])).length:=by simp only [List.length_append];omega
  omega
 have HC1:=Lib.hid (fun z (u:Upd [] w5 z)=>ncount_spec tb lo K (L++N0++N1) rv2 nv2 wv2 z (hN2.keep0 u) (by omega) hlo2);have HC2:=Lib.hid (fun z (u:Upd [] w5 z)=>ncount_spec tb hi K (L++N0++N1) rv2 nv2 wv2 z (hN2.keep0 u) (by omega) hA1.has)
 have HWAY:Hid (IntKind.u64.wrap (u64m (K.way lo)+u64m (K.way hi))=u64m (K.way r)):=by
  show _=_
  rw [u64m_add,KV.way_node HP.out.2.2.2.2.2.2.wf HP.out.2.2.2.2.2.2.ord HP.out.2.2.2.2.1 HP.out.1 HP.out.2.1,HPV.out.1,HPV.out.2.1]
 have HPL:Hid (K.pl r=p):=KV.pl_at HP.out.1;obtain ⟨M,hMe⟩ : ∃ M,L++N0++N1=M:=⟨_,rfl⟩;rw [hMe] at hN2 hM
 have hMe2:L++(N0++N1++[r])=M++[r]:=by rw [<- hMe];simp
 have HZ:=Lib.hid (And.intro hA (And.intro hMe2 (And.intro hu35 (And.intro hs35 hN2))));obtain ⟨W1,hW1⟩ : ∃ W1,u64m (K.way lo)=W1:=⟨_,rfl⟩;obtain ⟨W2,hW2⟩ : ∃ W2,u64m (K.way hi)=W2:=⟨_,rfl⟩;obtain ⟨W3,hW3⟩ : ∃ W3,u64m (K.way r)=W3:=⟨_,rfl⟩;rw [hW1] at HC1 HWAY;rw [hW2] at HC2 HWAY;have HW3:=Lib.hid hW3;rw [hW3] at HWAY;have hway:=HWAY.out;obtain ⟨ra2,rc2,hra2,_⟩:=row_nil_len hN2.rr;obtain ⟨na2,nc2,hna2,_⟩:=row_nil_len hN2.nn;obtain ⟨wa2,wc2,hwa2,_⟩:=row_nil_len hN2.ww
 have hBn2:B∉netS tb rv2 nv2 wv2:=fun hm=>by
  rcases hs5 B hm with h | h
  ·exact hBn1 h
  ·have:=heap_lt HH4.out.2.2.2.2.2;omega
 subst hra2 hna2 hwa2;have c20:w5.cell? ⟨tb,2,none⟩=some (.slice wa2 M.length wc2):=cell_at hN2.blk rfl;have HBX:=Lib.hid (And.intro hbx5 (And.intro hBn2 c20));obtain ⟨f0,f1,f2⟩:=box_node hbx5;clear hE hA1 hN2 hu5 hs5 hBn1 hbx5 hu35 hs35 hA hnr hall hpc hlo2 hMe hMe2 hW1 hW2 hW3 hBn2 HT2 e2;go_upto_region 6 with fail;have HWR:Hid (w5.ownsRow 0 75 1 (.slice wa2 M.length wc2) M.length (flatU (M.map fun r=>u64m (K.way r)))):=HZ.out.2.2.2.2.ww
 have HSE:Hid (∀ z,Upd (Value.slice wa2 M.length wc2).ownBlock.toList w5 z->(z.cell? ⟨B,1,none⟩=some (.int .u32 lo)/\z.cell? ⟨B,2,none⟩=some (.int .u32 hi))/\z.cell? ⟨tb,2,none⟩=some (.slice wa2 M.length wc2)/\z.frozen? ⟨tb,2,none⟩=false):=fun z u=>by
  have hb:z.heap[B]?=_:=(u.block B (heap_lt HBX.out.1) fun hm=>HBX.out.2.1 (mem_netS.2 (.inr (.inr (.inr (by simpa using hm)))))).trans HBX.out.1;have ht:z.heap[tb]?=_:=(u.block tb (heap_lt HZ.out.2.2.2.2.blk) fun hm=>HZ.out.2.2.2.2.ne.2.2 (by simpa using hm)).trans HZ.out.2.2.2.2.blk;exact ⟨⟨cell_at hb rfl,cell_at hb rfl⟩,cell_at ht rfl,frozen_at 2 ht⟩
 obtain ⟨tw,hr0,hr1,hr2,hr3⟩:=info_parts Tryz.infoU64;have HIW:=Lib.hid (And.intro hr0 (And.intro hr1 (And.intro hr2 hr3)))
 have HCW:Hid (∀ u,u∈[Value.int .u64 W3]->u.oneCell'=true):=by intro u hu;simp at hu;subst hu;rfl
 clear hr0 hr1 hr2 hr3 f0 f1 f2 c20;refine wp_region_until (fun z=>z.cell? ⟨B,1,none⟩=some (.int .u32 lo)/\z.cell? ⟨B,2,none⟩=some (.int .u32 hi)) (fun z=>z.cell? ⟨tb,2,none⟩=some (.slice wa2 M.length wc2)) [18] (by kernel_rfl) ?_;have hS:=(HSE.out _ (Upd.refl _ _).drew).1;have hE:=(HSE.out _ (Upd.refl _ _).drew).2.1;refine wpAnyU_takeS (i:=0) (v:=?v1) rfl (by kernel_rfl) (by kernel_rfl) (by kernel_rfl) (by kernel_rfl) (fun _ _ _ h=>h) (Or.inl ⟨by rfl,?hy1⟩) hS (fun _=>hE) ?rest1
 case hy1=>(intro x hSx;(try dsimp only at hSx);go_simp;try with_reducible rfl)
 (try simp only [Act.put,List.setIfInBounds_toArray])
 refine wpAnyU_takeS (i:=1) (v:=?v2) rfl (by kernel_rfl) (by kernel_rfl) (by kernel_rfl) (by kernel_rfl) (fun _ _ _ h=>h) (Or.inl ⟨by rfl,?hy2⟩) hS (fun _=>hE) ?rest2
 case hy2=>(intro x hSx;(try dsimp only at hSx);go_simp;try with_reducible rfl)
 (try simp only [Act.put])
 refine wpAnyU_takeS (i:=2) (v:=?v3) rfl (by kernel_rfl) (by kernel_rfl) (by kernel_rfl) (by kernel_rfl) (fun _ _ _ h=>h) (Or.inl ⟨by rfl,?hy3⟩) hS (fun _=>hE) ?rest3
 case hy3=>(intro x hSx;(try dsimp only at hSx);go_simp;try with_reducible rfl)
 (try simp only [Act.put])
 refine wpAnyU_takeS (i:=3) (v:=?v4) rfl (by kernel_rfl) (by kernel_rfl) (by kernel_rfl) (by kernel_rfl) (fun _ _ _ h=>h) (Or.inl ⟨by rfl,?hy4⟩) hS (fun _=>hE) ?rest4
 case hy4=>(intro x hSx;(try dsimp only at hSx);go_simp;try with_reducible rfl)
 (try simp only [Act.put])
 refine wpAnyU_takeE (i:=4) (v:=?v5) rfl (by kernel_rfl) (by kernel_rfl) (by kernel_rfl) (by kernel_rfl) (by kernel_rfl) (by kernel_rfl) (fun _ _ _ h=>h) (Or.inl ⟨by rfl,?hy5⟩) hS (fun _=>hE) ?rest5
 case hy5=>(intro x hSx;(try dsimp only at hSx);go_simp;try with_reducible rfl)
 (try simp only [Act.put])
 refine wpAnyU_takeS (i:=5) (v:=?v6) rfl (by kernel_rfl) (by kernel_rfl) (by kernel_rfl) (by kernel_rfl) (fun _ _ _ h=>h) (Or.inl ⟨by rfl,?hy6⟩) hS (fun _=>hE) ?rest6
 case hy6=>(intro x hSx;(try dsimp only at hSx);go_simp;try with_reducible rfl)
 (try simp only [Act.put])
 refine wpAnyU_takeS (i:=6) (v:=?v7) rfl (by kernel_rfl) (by kernel_rfl) (by kernel_rfl) (by kernel_rfl) (fun _ _ _ h=>h) (Or.inl ⟨by rfl,?hy7⟩) hS (fun _=>hE) ?rest7
 case hy7=>(intro x hSx;(try dsimp only at hSx);go_simp;try with_reducible rfl)
 (try simp only [Act.put])
 refine wpAnyU_takeS (i:=7) (v:=?v8) rfl (by kernel_rfl) (by kernel_rfl) (by kernel_rfl) (by kernel_rfl) (fun _ _ _ h=>h) (Or.inl ⟨by rfl,?hy8⟩) hS (fun _=>hE) ?rest8
 case hy8=>(intro x hSx;(try dsimp only at hSx);go_simp;try with_reducible rfl)
 (try simp only [Act.put])
 refine wpAnyU_takeS (i:=9) (v:=?v9) rfl (by kernel_rfl) (by kernel_rfl) (by kernel_rfl) (by kernel_rfl) (fun _ _ _ h=>h) (Or.inl ⟨by rfl,?hy9⟩) hS (fun _=>hE) ?rest9
 case hy9=>(intro x hSx;(try dsimp only at hSx);go_simp;try with_reducible rfl)
 (try simp only [Act.put])
 refine wpAnyU_takeS (i:=10) (v:=?v10) rfl (by kernel_rfl) (by kernel_rfl) (by kernel_rfl) (by kernel_rfl) (fun _ _ _ h=>h) (Or.inl ⟨by rfl,?hy10⟩) hS (fun _=>hE) ?rest10
 case hy10=>(intro x hSx;(try dsimp only at hSx);go_simp;try with_reducible rfl)
 (try simp only [Act.put])
 refine wpAnyU_takeS (i:=11) (v:=?v11) rfl (by kernel_rfl) (by kernel_rfl) (by kernel_rfl) (by kernel_rfl) (fun _ _ _ h=>h) (Or.inl ⟨by rfl,?hy11⟩) hS (fun _=>hE) ?rest11
 case hy11=>(intro x hSx;(try dsimp only at hSx);go_simp;try with_reducible rfl)
 (try simp only [Act.put])
 refine wpAnyU_ready (rs:=[8]) (by kernel_rfl) (by simp) ?_;refine AllReadyU.cons rfl (fun Kx hK=>?_) ?_
 rotate_left
 exact AllReadyU.nil
 go_simp
 refine (HC1.out _ ((Upd.refl [] w5).drew)).mono ?_;rintro e w6 ⟨rfl,hu⟩;have HG1:=Lib.hid (((Upd.refl [] w5).drew).trans hu);clear hu;go_wp2_with fail;refine hK.out _ _ ⟨(HSE.out _ (HG1.out.mono (by simp))).1,fun _=>(HSE.out _ (HG1.out.mono (by simp))).2.1⟩ (fun hHeld=>?_);clear hK Kx;obtain ⟨hS,hE⟩:=hHeld;have hE:=hE (by kernel_rfl)
 (try simp only [Act.put,List.setIfInBounds_toArray,List.set_cons_zero,List.set_cons_succ])
 refine wpAnyU_ready (rs:=[12]) (by kernel_rfl) (by simp) ?_;refine AllReadyU.cons rfl (fun Kx hK=>?_) ?_
 rotate_left
 exact AllReadyU.nil
 go_simp
 refine (HC2.out _ (HG1.out)).mono ?_;rintro e w7 ⟨rfl,hu⟩;have HG2:=Lib.hid ((HG1.out).trans hu);clear hu;go_wp2_with fail;refine hK.out _ _ ⟨(HSE.out _ (HG2.out.mono (by simp))).1,fun _=>(HSE.out _ (HG2.out.mono (by simp))).2.1⟩ (fun hHeld=>?_);clear hK Kx;obtain ⟨hS,hE⟩:=hHeld;have hE:=hE (by kernel_rfl)
 (try simp only [Act.put,List.setIfInBounds_toArray,List.set_cons_zero,List.set_cons_succ])
 refine wpAnyU_takeS (i:=13) (v:=?v12) rfl (by kernel_rfl) (by kernel_rfl) (by kernel_rfl) (by kernel_rfl) (fun _ _ _ h=>h) (Or.inl ⟨by rfl,?hy12⟩) hS (fun _=>hE) ?rest12
 case hy12=>(intro x hSx;(try dsimp only at hSx);go_simp;try with_reducible rfl)
 (try simp only [Act.put,List.setIfInBounds_toArray])
 refine wpAnyU_ready (rs:=[14]) (by kernel_rfl) (by simp) ?_;refine AllReadyU.cons rfl (fun Kx hK=>?_) ?_
 rotate_left
 exact AllReadyU.nil
 go_simp
 refine hK.out _ _ ⟨(HSE.out _ ((HG2.out.alloc _).mono (by simp))).1,fun _=>(HSE.out _ ((HG2.out.alloc _).mono (by simp))).2.1⟩ (fun hHeld=>?_);clear hK Kx;obtain ⟨hS,hE⟩:=hHeld;have hE:=hE (by kernel_rfl)
 (try simp only [Act.put,List.setIfInBounds_toArray,List.set_cons_zero,List.set_cons_succ])
 refine wpAnyU_ready (rs:=[15]) (by kernel_rfl) (by simp) ?_;refine AllReadyU.cons rfl (fun Kx hK=>?_) ?_
 rotate_left
 exact AllReadyU.nil;refine step_append_lies _ (by rfl) (.tmp 65) (.tmp 75) 53 (by rfl) 0 75 tw _ 1 8 Tryz.underlying53 HIW.out.1 HIW.out.2.1 HIW.out.2.2.1 HIW.out.2.2.2 (by rfl) (by decide) (.slice wa2 M.length wc2) M.length (flatU (M.map fun r=>u64m (K.way r))) (by rfl) (row_keep HWR.out fun k hk=>(HG2.out.alloc _).block k (HWR.out.lt k hk).2 (by simp)) ⟨_,0,none⟩ 1 1 [.int .u64 W3] (by rfl) (by rfl) (World.news_of_block (cs:=#[.int .u64 W3]) (t:=75) (fr:=(0,0)) (heap_alloc_new _ _)) HCW.out (by omega) (by unfold maxLen;omega) (by omega) (Nat.zero_le _) _ (by rfl) ?_
 intro g0 cap0 w8 hown1 hgr1 hat1 hlt1
 have HG3:=Lib.hid (And.intro (Upd.grown (S:=(Value.slice wa2 M.length wc2).ownBlock.toList) (w:=w5) ((HG2.out.alloc _).mono (by simp)) hgr1 (fun k hk=>.inl (by simp [hk]))) (And.intro hown1 (app_at (w:=w5) (S:=[]) (HG2.out.alloc _) hat1)));clear hown1 hgr1 hat1 hlt1;refine hK.out _ _ ⟨(HSE.out _ HG3.out.1).1,fun _=>(HSE.out _ HG3.out.1).2.1⟩ (fun hHeld=>?_);clear hK Kx;obtain ⟨hS,hE⟩:=hHeld;have hE:=hE (by kernel_rfl)
 (try simp only [Act.put,List.setIfInBounds_toArray])
 refine wpAnyU_takeS (i:=16) (v:=?v13) rfl (by kernel_rfl) (by kernel_rfl) (by kernel_rfl) (by kernel_rfl) (fun _ _ _ h=>h) (Or.inl ⟨by rfl,?hy13⟩) hS (fun _=>hE) ?rest13
 case hy13=>(intro x hSx;(try dsimp only at hSx);go_simp;try with_reducible rfl)
 (try simp only [Act.put])
 refine wpAnyU_takeS (i:=17) (v:=?v14) rfl (by kernel_rfl) (by kernel_rfl) (by kernel_rfl) (by kernel_rfl) (fun _ _ _ h=>h) (Or.inl ⟨by rfl,?hy14⟩) hS (fun _=>hE) ?rest14
 case hy14=>(intro x hSx;(try dsimp only at hSx);go_simp;try with_reducible rfl)
 (try simp only [Act.put])
 have fz8:=(HSE.out _ HG3.out.1).2.2;refine wpAnyU_ready (rs:=[18]) (by kernel_rfl) (by simp) ?_;refine AllReadyU.cons rfl (fun Kx hK=>?_) ?_
 rotate_left
 exact AllReadyU.nil
 have hne:B≠tb:=fun e=>HBX.out.2.1 (mem_netS.2 (.inl e))
 go_simp
 refine hK.out _ _ ⟨(by have h:=(HSE.out _ HG3.out.1).1;exact ⟨(World.cell?_of_block (heap_set_ne hne)).trans h.1,(World.cell?_of_block (heap_set_ne hne)).trans h.2⟩),fun h=>noE (by kernel_rfl) h⟩ (fun hHeld=>?_);clear hK Kx;obtain ⟨hS,_⟩:=hHeld
 (try simp only [Act.put,List.setIfInBounds_toArray,List.set_cons_zero,List.set_cons_succ])
 refine wpAnyU_done (by kernel_rfl) ?_ _;clear hS fz8;have HW3':=HW3.out;obtain ⟨hmid,hu9,hs9⟩:=HZ.out.2.2.2.2.ways (r:=r) (by rw [HW3'];exact HG3.out.2.1) HG3.out.1 HG3.out.2.2;have hbx9:(w8.setCell ⟨tb,2,none⟩ (.slice (some ⟨g0,0,none⟩) (M.length+1) cap0)).heap[B]?=_:=(hu9.block B (heap_lt HBX.out.1) HBX.out.2.1).trans HBX.out.1;obtain ⟨w9,hw9⟩ : ∃ w9,w8.setCell ⟨tb,2,none⟩ (.slice (some ⟨g0,0,none⟩) (M.length+1) cap0)=w9:=⟨_,rfl⟩;rw [hw9] at hmid hu9 hbx9 ⊢;have HMID:=Lib.hid (And.intro hmid (And.intro hu9 (And.intro hs9 hbx9)));clear hmid hu9 hs9 hbx9 hw9 HG1 HG2 HG3 HSE HWR HCW HIW HW3' hne;go_upto_region 7 with fail
 have HRR:Hid (∀ x:World,Upd [] w9 x->x.ownsRow 0 62 1 (.slice ra2 M.length rc2) M.length (flatRefs M)):=fun x u=>row_keep HMID.out.1.rr fun k hk=>u.block k (HMID.out.1.rr.lt k hk).2 (by simp)
 have HRN:Hid (∀ x:World,Upd (Value.slice ra2 M.length rc2).ownBlock.toList w9 x->x.ownsRow 0 95 3 (.slice na2 M.length nc2) M.length (flatNodes (M.map K.pl))):=fun x u=>row_keep HMID.out.1.nn fun k hk=>u.block k (HMID.out.1.nn.lt k hk).2 fun hm=>ty_ne HMID.out.1.nn HMID.out.1.rr (by decide) hk (by simpa using hm)
 have HSE:Hid (∀ z,Upd ((Value.slice ra2 M.length rc2).ownBlock.toList++(Value.slice na2 M.length nc2).ownBlock.toList) w9 z->(z.cell? ⟨B,0,none⟩=some (.int .i64 vv)/\z.cell? ⟨B,1,none⟩=some (.int .u32 lo)/\z.cell? ⟨B,2,none⟩=some (.int .u32 hi))/\(z.cell? ⟨tb,0,none⟩=some (.slice ra2 M.length rc2)/\z.cell? ⟨tb,1,none⟩=some (.slice na2 M.length nc2))/\z.heap[tb]?=some (.cells #[.slice ra2 M.length rc2,.slice na2 M.length nc2,.slice (some ⟨g0,0,none⟩) (M.length+1) cap0] 92 (0,0))):=fun z u=>by
  have hb:z.heap[B]?=_:=(u.block B (heap_lt HMID.out.2.2.2) fun hm=>HBX.out.2.1 (mem_netS.2 (by rcases List.mem_append.1 hm with h | h;exact .inr (.inl (by simpa using h));exact .inr (.inr (.inl (by simpa using h)))))).trans HMID.out.2.2.2
  have ht:z.heap[tb]?=_:=(u.block tb (heap_lt HMID.out.1.blk) fun hm=>by
   rcases List.mem_append.1 hm with h | h
   ·exact blk_ne HMID.out.1.rr HMID.out.1.blk (by decide) (by simpa using h)
   ·exact blk_ne HMID.out.1.nn HMID.out.1.blk (by decide) (by simpa using h)).trans HMID.out.1.blk
  exact ⟨⟨cell_at hb rfl,cell_at hb rfl,cell_at hb rfl⟩,⟨cell_at ht rfl,cell_at ht rfl⟩,ht⟩
 have HRL:Hid (∀ k,some k=(Value.slice ra2 M.length rc2).ownBlock->k<w9.heap.size):=fun k hk=>(HMID.out.1.rr.lt k hk.symm).2
 obtain ⟨tr,hr0,hr1,hr2,hr3⟩:=info_parts Tryz.infoRefS;obtain ⟨tt,ht0,ht1,ht2,ht3⟩:=info_parts Tryz.infoNode;have HIR:=Lib.hid (And.intro hr0 (And.intro hr1 (And.intro hr2 hr3)));have HIT:=Lib.hid (And.intro ht0 (And.intro ht1 (And.intro ht2 ht3)))
 have HCR:Hid (∀ u,u∈[Value.int .u32 r]->u.oneCell'=true):=by intro u hu;simp at hu;subst hu;rfl
 have HCN:Hid (∀ u,u∈[Value.int .i64 vv,.int .u32 lo,.int .u32 hi]->u.oneCell'=true):=by intro u hu;simp at hu;rcases hu with rfl | rfl | rfl <;> rfl
 have HPF:Hid ([Value.int .i64 vv,.int .u32 lo,.int .u32 hi]=p.node):=by
  show _=_
  unfold PlaceV.node;rw [HPV.out.1,HPV.out.2.1,HPV.out.2.2]
 have HDONE:Hid (∀ (g1 cap1 g2 cap2:Nat) (w6:World),Upd ((Value.slice ra2 M.length rc2).ownBlock.toList++(Value.slice na2 M.length nc2).ownBlock.toList) w9 w6->w6.ownsRow 0 62 1 (.slice (some ⟨g1,0,none⟩) (M.length+1) cap1) (M.length+1) (flatRefs M++[.int .u32 r])->w6.ownsRow 0 95 3 (.slice (some ⟨g2,0,none⟩) (M.length+1) cap2) (M.length+1) (flatNodes (M.map K.pl)++[.int .i64 vv,.int .u32 lo,.int .u32 hi])->((Value.slice ra2 M.length rc2).ownBlock=some g1\/w9.heap.size<=g1)->((Value.slice na2 M.length nc2).ownBlock=some g2\/w9.heap.size<=g2) ->
   TakeQ tb r K L rv nv wv w1 (.returned (.bool true)) ((w6.setCell ⟨tb,0,none⟩ (.slice (some ⟨g1,0,none⟩) (M.length+1) cap1)).setCell ⟨tb,1,none⟩ (.slice (some ⟨g2,0,none⟩) (M.length+1) cap2))):=fun g1 cap1 g2 cap2 w6 u o1 o2 a1 a2=>by
  rw [HPF.out] at o2;obtain ⟨hin,huf,hsf⟩:=HMID.out.1.done HPL.out u o1 o2 a1 a2;refine ⟨N0++N1++[r],_,_,_,rfl,HZ.out.1,by rw [HZ.out.2.1];exact hin,?_,?_⟩
  ·exact (HB.out.2.1.mono (by simp)).trans (HZ.out.2.2.1.then (HMID.out.2.1.then huf fun k hk=>HMID.out.2.2.1 k hk) fun k hk=>HZ.out.2.2.2.1 k hk)
  ·intro k hk
   rcases hsf k hk with h | h
   ·rcases HMID.out.2.2.1 k h with h | h
    ·rcases HZ.out.2.2.2.1 k h with h | h
     ·exact .inl h
     ·exact .inr (Nat.le_trans HB.out.2.1.size h)
    ·exact .inr (Nat.le_trans HB.out.2.1.size (Nat.le_trans HZ.out.2.2.1.size h))
   ·exact .inr (Nat.le_trans HB.out.2.1.size (Nat.le_trans HZ.out.2.2.1.size (Nat.le_trans HMID.out.2.1.size h)))
 have HXB:Hid (((w9.alloc (.cells #[.int .u32 r] 62 (0,0))).alloc (.cells #[.int .i64 vv,.int .u32 lo,.int .u32 hi] 95 (0,0))).heap[w9.heap.size+1]?=some (.cells #[.int .i64 vv,.int .u32 lo,.int .u32 hi] 95 (0,0))):=by
  have h:=heap_alloc_new (w9.alloc (.cells #[.int .u32 r] 62 (0,0))) (.cells #[.int .i64 vv,.int .u32 lo,.int .u32 hi] 95 (0,0))
  rw [World.size_alloc] at h;exact h
 have HXC:Hid (((w9.alloc (.cells #[.int .i64 vv,.int .u32 lo,.int .u32 hi] 95 (0,0))).alloc (.cells #[.int .u32 r] 62 (0,0))).heap[w9.heap.size]?=some (.cells #[.int .i64 vv,.int .u32 lo,.int .u32 hi] 95 (0,0))):=(Below.heap_alloc _ _ _ (heap_lt (heap_alloc_new _ _))).trans (heap_alloc_new _ _)
 have HNX:Hid (∀ k,w9.heap.size<=k->some k≠(Value.slice ra2 M.length rc2).ownBlock):=fun k hk e=>by have:=HRL.out k e;omega
 have HX1A:Hid ((w9.alloc (.cells #[.int .u32 r] 62 (0,0))).heap[w9.heap.size]?=some (.cells #[.int .u32 r] 62 (0,0))):=heap_alloc_new _ _;have HX1B:Hid (((w9.alloc (.cells #[.int .u32 r] 62 (0,0))).alloc (.cells #[.int .i64 vv,.int .u32 lo,.int .u32 hi] 95 (0,0))).heap[w9.heap.size]?=some (.cells #[.int .u32 r] 62 (0,0))):=(Below.heap_alloc _ _ _ (heap_lt (heap_alloc_new _ _))).trans (heap_alloc_new _ _)
 have HX1C:Hid (((w9.alloc (.cells #[.int .i64 vv,.int .u32 lo,.int .u32 hi] 95 (0,0))).alloc (.cells #[.int .u32 r] 62 (0,0))).heap[w9.heap.size+1]?=some (.cells #[.int .u32 r] 62 (0,0))):=by
  have h:=heap_alloc_new (w9.alloc (.cells #[.int .i64 vv,.int .u32 lo,.int .u32 hi] 95 (0,0))) (.cells #[.int .u32 r] 62 (0,0))
  rw [World.size_alloc] at h;exact h
 have hne:B≠tb:=fun e=>HBX.out.2.1 (mem_netS.2 (.inl e))
 have hne0:tb≠B:=Ne.symm hne;clear hr0 hr1 hr2 hr3 ht0 ht1 ht2 ht3;refine wp_region_until (fun z=>z.cell? ⟨B,0,none⟩=some (.int .i64 vv)/\z.cell? ⟨B,1,none⟩=some (.int .u32 lo)/\z.cell? ⟨B,2,none⟩=some (.int .u32 hi)) (fun z=>z.cell? ⟨tb,0,none⟩=some (.slice ra2 M.length rc2)/\z.cell? ⟨tb,1,none⟩=some (.slice na2 M.length nc2)) [18,21] (by kernel_rfl) ?_;have hS:=(HSE.out _ (Upd.refl _ _).drew).1;have hE:=(HSE.out _ (Upd.refl _ _).drew).2.1;refine wpAnyU_takeS (i:=0) (v:=?v15) rfl (by kernel_rfl) (by kernel_rfl) (by kernel_rfl) (by kernel_rfl) (fun _ _ _ h=>h) (Or.inl ⟨by rfl,?hy15⟩) hS (fun _=>hE) ?rest15
 case hy15=>(intro x hSx;(try dsimp only at hSx);go_simp;try with_reducible rfl)
 (try simp only [Act.put,List.setIfInBounds_toArray])
 refine wpAnyU_takeS (i:=1) (v:=?v16) rfl (by kernel_rfl) (by kernel_rfl) (by kernel_rfl) (by kernel_rfl) (fun _ _ _ h=>h) (Or.inl ⟨by rfl,?hy16⟩) hS (fun _=>hE) ?rest16
 case hy16=>(intro x hSx;(try dsimp only at hSx);go_simp;try with_reducible rfl)
 (try simp only [Act.put])
 refine wpAnyU_takeS (i:=2) (v:=?v17) rfl (by kernel_rfl) (by kernel_rfl) (by kernel_rfl) (by kernel_rfl) (fun _ _ _ h=>h) (Or.inl ⟨by rfl,?hy17⟩) hS (fun _=>hE) ?rest17
 case hy17=>(intro x hSx;(try dsimp only at hSx);go_simp;try with_reducible rfl)
 (try simp only [Act.put])
 refine wpAnyU_takeS (i:=3) (v:=?v18) rfl (by kernel_rfl) (by kernel_rfl) (by kernel_rfl) (by kernel_rfl) (fun _ _ _ h=>h) (Or.inl ⟨by rfl,?hy18⟩) hS (fun _=>hE) ?rest18
 case hy18=>(intro x hSx;(try dsimp only at hSx);go_simp;try with_reducible rfl)
 (try simp only [Act.put])
 refine wpAnyU_takeS (i:=4) (v:=?v19) rfl (by kernel_rfl) (by kernel_rfl) (by kernel_rfl) (by kernel_rfl) (fun _ _ _ h=>h) (Or.inl ⟨by rfl,?hy19⟩) hS (fun _=>hE) ?rest19
 case hy19=>(intro x hSx;(try dsimp only at hSx);go_simp;try with_reducible rfl)
 (try simp only [Act.put])
 refine wpAnyU_takeE (i:=5) (v:=?v20) rfl (by kernel_rfl) (by kernel_rfl) (by kernel_rfl) (by kernel_rfl) (by kernel_rfl) (by kernel_rfl) (fun _ _ _ h=>h) (Or.inl ⟨by rfl,?hy20⟩) hS (fun _=>hE) ?rest20
 case hy20=>(intro x hSx;(try dsimp only at hSx);go_simp;try with_reducible rfl)
 (try simp only [Act.put])
 refine wpAnyU_takeS (i:=6) (v:=?v21) rfl (by kernel_rfl) (by kernel_rfl) (by kernel_rfl) (by kernel_rfl) (fun _ _ _ h=>h) (Or.inl ⟨by rfl,?hy21⟩) hS (fun _=>hE) ?rest21
 case hy21=>(intro x hSx;(try dsimp only at hSx);go_simp;try with_reducible rfl)
 (try simp only [Act.put])
 refine wpAnyU_takeS (i:=9) (v:=?v22) rfl (by kernel_rfl) (by kernel_rfl) (by kernel_rfl) (by kernel_rfl) (fun _ _ _ h=>h) (Or.inl ⟨by rfl,?hy22⟩) hS (fun _=>hE) ?rest22
 case hy22=>(intro x hSx;(try dsimp only at hSx);go_simp;try with_reducible rfl)
 (try simp only [Act.put])
 refine wpAnyU_takeS (i:=10) (v:=?v23) rfl (by kernel_rfl) (by kernel_rfl) (by kernel_rfl) (by kernel_rfl) (fun _ _ _ h=>h) (Or.inl ⟨by rfl,?hy23⟩) hS (fun _=>hE) ?rest23
 case hy23=>(intro x hSx;(try dsimp only at hSx);go_simp;try with_reducible rfl)
 (try simp only [Act.put])
 refine wpAnyU_takeS (i:=11) (v:=?v24) rfl (by kernel_rfl) (by kernel_rfl) (by kernel_rfl) (by kernel_rfl) (fun _ _ _ h=>h) (Or.inl ⟨by rfl,?hy24⟩) hS (fun _=>hE) ?rest24
 case hy24=>(intro x hSx;(try dsimp only at hSx);go_simp;try with_reducible rfl)
 (try simp only [Act.put])
 refine wpAnyU_takeE (i:=12) (v:=?v25) rfl (by kernel_rfl) (by kernel_rfl) (by kernel_rfl) (by kernel_rfl) (by kernel_rfl) (by kernel_rfl) (fun _ _ _ h=>h) (Or.inl ⟨by rfl,?hy25⟩) hS (fun _=>hE) ?rest25
 case hy25=>(intro x hSx;(try dsimp only at hSx);go_simp;try with_reducible rfl)
 (try simp only [Act.put])
 refine wpAnyU_takeS (i:=13) (v:=?v26) rfl (by kernel_rfl) (by kernel_rfl) (by kernel_rfl) (by kernel_rfl) (fun _ _ _ h=>h) (Or.inl ⟨by rfl,?hy26⟩) hS (fun _=>hE) ?rest26
 case hy26=>(intro x hSx;(try dsimp only at hSx);go_simp;try with_reducible rfl)
 (try simp only [Act.put])
 refine wpAnyU_ready (rs:=[7,14]) (by kernel_rfl) (by simp) ?_;refine AllReadyU.cons rfl (fun Kx hK=>?_) ?_
 ·
  go_simp
  refine hK.out _ _ ⟨(HSE.out _ ((Upd.refl _ _).drew.alloc _)).1,fun _=>(HSE.out _ ((Upd.refl _ _).drew.alloc _)).2.1⟩ (fun hHeld=>?_);clear hK Kx;obtain ⟨hS,hE⟩:=hHeld;have hE:=hE (by kernel_rfl)
  (try simp only [Act.put,List.setIfInBounds_toArray,List.set_cons_zero,List.set_cons_succ])
  refine wpAnyU_ready (rs:=[8,14]) (by kernel_rfl) (by simp) ?_;refine AllReadyU.cons rfl (fun Kx hK=>?_) ?_
  ·
   refine step_append_lies _ (by rfl) (.tmp 84) (.tmp 86) 39 (by rfl) 0 62 tr _ 1 4 Tryz.underlying39 HIR.out.1 HIR.out.2.1 HIR.out.2.2.1 HIR.out.2.2.2 (by rfl) (by decide) (.slice ra2 M.length rc2) M.length (flatRefs M) (by rfl) (HRR.out _ (by repeat (first | exact Upd.refl _ _ | refine Upd.drew ?_ | refine Upd.alloc ?_ _))) ⟨_,0,none⟩ 1 1 [.int .u32 r] (by rfl) (by rfl) (World.news_of_block (cs:=#[.int .u32 r]) (t:=62) (fr:=(0,0)) (by first | exact HX1A.out | exact HX1B.out | exact HX1C.out)) HCR.out (by omega) (by unfold maxLen;omega) (by omega) (Nat.zero_le _) _ (by rfl) ?_
   intro g1 cap1 w10 hown1 hgr1 hat1 hlt1
   have HG1:=Lib.hid (And.intro (Upd.grown (S:=((Value.slice ra2 M.length rc2).ownBlock.toList++(Value.slice na2 M.length nc2).ownBlock.toList)) (w:=w9) (by repeat (first | exact Upd.refl _ _ | refine Upd.drew ?_ | refine Upd.alloc ?_ _)) hgr1 (fun k hk=>.inl (by simp [hk]))) (And.intro (Upd.grown (S:=(Value.slice ra2 M.length rc2).ownBlock.toList) (w:=w9) (by repeat (first | exact Upd.refl _ _ | refine Upd.drew ?_ | refine Upd.alloc ?_ _)) hgr1 (fun k hk=>.inl (by simp [hk]))) (And.intro hown1 (app_at (w:=w9) (S:=[]) (by repeat (first | exact Upd.refl _ _ | refine Upd.drew ?_ | refine Upd.alloc ?_ _)) hat1))));have HGR1:=Lib.hid hgr1;clear hown1 hgr1 hat1 hlt1;refine hK.out _ _ ⟨(HSE.out _ (HG1.out.1)).1,fun _=>(HSE.out _ (HG1.out.1)).2.1⟩ (fun hHeld=>?_);clear hK Kx;obtain ⟨hS,hE⟩:=hHeld;have hE:=hE (by kernel_rfl)
   (try simp only [Act.put,List.setIfInBounds_toArray])
   refine wpAnyU_ready (rs:=[14]) (by kernel_rfl) (by simp) ?_;refine AllReadyU.cons rfl (fun Kx hK=>?_) ?_
   rotate_left
   exact AllReadyU.nil
   go_simp
   refine hK.out _ _ ⟨(HSE.out _ (HG1.out.1.alloc _)).1,fun _=>(HSE.out _ (HG1.out.1.alloc _)).2.1⟩ (fun hHeld=>?_);clear hK Kx;obtain ⟨hS,hE⟩:=hHeld;have hE:=hE (by kernel_rfl)
   (try simp only [Act.put,List.setIfInBounds_toArray,List.set_cons_zero,List.set_cons_succ])
   refine wpAnyU_ready (rs:=[15]) (by kernel_rfl) (by simp) ?_;refine AllReadyU.cons rfl (fun Kx hK=>?_) ?_
   rotate_left
   exact AllReadyU.nil;refine step_append_lies _ (by rfl) (.tmp 91) (.tmp 93) 90 (by rfl) 0 95 tt _ 3 16 Tryz.underlying90 HIT.out.1 HIT.out.2.1 HIT.out.2.2.1 HIT.out.2.2.2 (by rfl) (by decide) (.slice na2 M.length nc2) M.length (flatNodes (M.map K.pl)) (by rfl) (HRN.out _ (by repeat (first | exact HG1.out.2.1 | refine Upd.drew ?_ | refine Upd.alloc ?_ _))) ⟨_,0,none⟩ 1 1 [.int .i64 vv,.int .u32 lo,.int .u32 hi] (by rfl) (by rfl) (World.news_of_block (cs:=#[.int .i64 vv,.int .u32 lo,.int .u32 hi]) (t:=95) (fr:=(0,0)) (by first | exact heap_alloc_new _ _ | exact (HGR1.out.block _ (heap_lt HXB.out) (HNX.out _ (by omega))).trans HXB.out | exact (HGR1.out.block _ (heap_lt HXC.out) (HNX.out _ (by omega))).trans HXC.out)) HCN.out (by omega) (by unfold maxLen;omega) (by omega) (Nat.zero_le _) _ (by rfl) ?_
   intro g2 cap2 w11 hown2 hgr2 hat2 hlt2
   have HG2:=Lib.hid (And.intro (Upd.grown (S:=((Value.slice ra2 M.length rc2).ownBlock.toList++(Value.slice na2 M.length nc2).ownBlock.toList)) (w:=w9) (by repeat (first | exact HG1.out.1 | refine Upd.drew ?_ | refine Upd.alloc ?_ _)) hgr2 (fun k hk=>.inl (by simp [hk]))) (And.intro (row_grow (by repeat (first | exact Upd.refl _ _ | refine Upd.drew ?_ | refine Upd.alloc ?_ _)) hgr2 HG1.out.2.2.1 (fun k hk hq=>ty_ne HG1.out.2.2.1 (HRN.out _ HG1.out.2.1) (by decide) hk hq)) (And.intro hown2 (And.intro HG1.out.2.2.2 (app_at (w:=w9) (S:=((Value.slice ra2 M.length rc2).ownBlock.toList++(Value.slice na2 M.length nc2).ownBlock.toList)) (by repeat (first | exact HG1.out.1 | refine Upd.drew ?_ | refine Upd.alloc ?_ _)) hat2)))));clear hown2 hgr2 hat2 hlt2 HGR1 HG1;refine hK.out _ _ ⟨(HSE.out _ (HG2.out.1)).1,fun _=>(HSE.out _ (HG2.out.1)).2.1⟩ (fun hHeld=>?_);clear hK Kx;obtain ⟨hS,hE⟩:=hHeld;have hE:=hE (by kernel_rfl)
   (try simp only [Act.put,List.setIfInBounds_toArray])
   refine wpAnyU_takeS (i:=16) (v:=?v27) rfl (by kernel_rfl) (by kernel_rfl) (by kernel_rfl) (by kernel_rfl) (fun _ _ _ h=>h) (Or.inl ⟨by rfl,?hy27⟩) hS (fun _=>hE) ?rest27
   case hy27=>(intro x hSx;(try dsimp only at hSx);go_simp;try with_reducible rfl)
   (try simp only [Act.put])
   refine wpAnyU_takeS (i:=17) (v:=?v28) rfl (by kernel_rfl) (by kernel_rfl) (by kernel_rfl) (by kernel_rfl) (fun _ _ _ h=>h) (Or.inl ⟨by rfl,?hy28⟩) hS (fun _=>hE) ?rest28
   case hy28=>(intro x hSx;(try dsimp only at hSx);go_simp;try with_reducible rfl)
   (try simp only [Act.put])
   have htb:=(HSE.out _ HG2.out.1).2.2;have fz0:=frozen_at 0 htb;obtain ⟨y0,y1⟩:=(HSE.out _ HG2.out.1).2.1;refine wpAnyU_ready (rs:=[18]) (by kernel_rfl) (by simp) ?_;refine AllReadyU.cons rfl (fun Kx hK=>?_) ?_
   rotate_left
   exact AllReadyU.nil
   go_simp
   refine hK.out _ _ ⟨(node_set (HSE.out _ HG2.out.1).1 hne _),fun h=>noE (by kernel_rfl) h⟩ (fun hHeld=>?_);clear hK Kx;obtain ⟨hS,_⟩:=hHeld
   (try simp only [Act.put,List.setIfInBounds_toArray,List.set_cons_zero,List.set_cons_succ])
   have htb2:=heap_set_eq (j:=0) htb (.slice (some ⟨g1,0,none⟩) (M.length+1) cap1);have y3:=frozen_at 1 htb2;have y2:(w11.setCell ⟨tb,0,none⟩ (.slice (some ⟨g1,0,none⟩) (M.length+1) cap1)).cell? ⟨tb,1,none⟩=some (.slice na2 M.length nc2):=cell_at (j:=1) htb2 rfl;refine wpAnyU_takeS (i:=19) (v:=?v29) rfl (by kernel_rfl) (by kernel_rfl) (by kernel_rfl) (by kernel_rfl) (fun _ _ _ h=>h) (Or.inl ⟨by rfl,?hy29⟩) hS (fun h=>noE (by kernel_rfl) h) ?rest29
   case hy29=>(intro x hSx;(try dsimp only at hSx);go_simp;try with_reducible rfl)
   (try simp only [Act.put,List.setIfInBounds_toArray])
   refine wpAnyU_takeS (i:=20) (v:=?v30) rfl (by kernel_rfl) (by kernel_rfl) (by kernel_rfl) (by kernel_rfl) (fun _ _ _ h=>h) (Or.inl ⟨by rfl,?hy30⟩) hS (fun h=>noE (by kernel_rfl) h) ?rest30
   case hy30=>(intro x hSx;(try dsimp only at hSx);go_simp;try with_reducible rfl)
   (try simp only [Act.put])
   refine wpAnyU_ready (rs:=[21]) (by kernel_rfl) (by simp) ?_;refine AllReadyU.cons rfl (fun Kx hK=>?_) ?_
   rotate_left
   exact AllReadyU.nil
   go_simp
   refine hK.out _ _ ⟨(node_set (node_set (HSE.out _ HG2.out.1).1 hne _) hne _),fun h=>noE (by kernel_rfl) h⟩ (fun hHeld=>?_);clear hK Kx;obtain ⟨hS,_⟩:=hHeld
   (try simp only [Act.put,List.setIfInBounds_toArray,List.set_cons_zero,List.set_cons_succ])
   refine wpAnyU_done (by kernel_rfl) ?_ _;clear hS y0 y1 y2 y3 fz0 htb htb2;go_wp2_with fail;go_ret;exact HDONE.out _ _ _ _ _ HG2.out.1 HG2.out.2.1 HG2.out.2.2.1 HG2.out.2.2.2.1 HG2.out.2.2.2.2
  refine AllReadyU.cons rfl (fun Kx hK=>?_) ?_
  rotate_left
  exact AllReadyU.nil
  go_simp
  refine hK.out _ _ ⟨(HSE.out _ (((Upd.refl _ _).drew.alloc _).alloc _)).1,fun _=>(HSE.out _ (((Upd.refl _ _).drew.alloc _).alloc _)).2.1⟩ (fun hHeld=>?_);clear hK Kx;obtain ⟨hS,hE⟩:=hHeld;have hE:=hE (by kernel_rfl)
  (try simp only [Act.put,List.setIfInBounds_toArray,List.set_cons_zero,List.set_cons_succ])
  refine wpAnyU_ready (rs:=[8]) (by kernel_rfl) (by simp) ?_;refine AllReadyU.cons rfl (fun Kx hK=>?_) ?_
  rotate_left
  exact AllReadyU.nil;refine step_append_lies _ (by rfl) (.tmp 84) (.tmp 86) 39 (by rfl) 0 62 tr _ 1 4 Tryz.underlying39 HIR.out.1 HIR.out.2.1 HIR.out.2.2.1 HIR.out.2.2.2 (by rfl) (by decide) (.slice ra2 M.length rc2) M.length (flatRefs M) (by rfl) (HRR.out _ (by repeat (first | exact Upd.refl _ _ | refine Upd.drew ?_ | refine Upd.alloc ?_ _))) ⟨_,0,none⟩ 1 1 [.int .u32 r] (by rfl) (by rfl) (World.news_of_block (cs:=#[.int .u32 r]) (t:=62) (fr:=(0,0)) (by first | exact HX1A.out | exact HX1B.out | exact HX1C.out)) HCR.out (by omega) (by unfold maxLen;omega) (by omega) (Nat.zero_le _) _ (by rfl) ?_
  intro g1 cap1 w10 hown1 hgr1 hat1 hlt1
  have HG1:=Lib.hid (And.intro (Upd.grown (S:=((Value.slice ra2 M.length rc2).ownBlock.toList++(Value.slice na2 M.length nc2).ownBlock.toList)) (w:=w9) (by repeat (first | exact Upd.refl _ _ | refine Upd.drew ?_ | refine Upd.alloc ?_ _)) hgr1 (fun k hk=>.inl (by simp [hk]))) (And.intro (Upd.grown (S:=(Value.slice ra2 M.length rc2).ownBlock.toList) (w:=w9) (by repeat (first | exact Upd.refl _ _ | refine Upd.drew ?_ | refine Upd.alloc ?_ _)) hgr1 (fun k hk=>.inl (by simp [hk]))) (And.intro hown1 (app_at (w:=w9) (S:=[]) (by repeat (first | exact Upd.refl _ _ | refine Upd.drew ?_ | refine Upd.alloc ?_ _)) hat1))));have HGR1:=Lib.hid hgr1;clear hown1 hgr1 hat1 hlt1;refine hK.out _ _ ⟨(HSE.out _ (HG1.out.1)).1,fun _=>(HSE.out _ (HG1.out.1)).2.1⟩ (fun hHeld=>?_);clear hK Kx;obtain ⟨hS,hE⟩:=hHeld;have hE:=hE (by kernel_rfl)
  (try simp only [Act.put,List.setIfInBounds_toArray])
  refine wpAnyU_ready (rs:=[15]) (by kernel_rfl) (by simp) ?_;refine AllReadyU.cons rfl (fun Kx hK=>?_) ?_
  rotate_left
  exact AllReadyU.nil;refine step_append_lies _ (by rfl) (.tmp 91) (.tmp 93) 90 (by rfl) 0 95 tt _ 3 16 Tryz.underlying90 HIT.out.1 HIT.out.2.1 HIT.out.2.2.1 HIT.out.2.2.2 (by rfl) (by decide) (.slice na2 M.length nc2) M.length (flatNodes (M.map K.pl)) (by rfl) (HRN.out _ (by repeat (first | exact HG1.out.2.1 | refine Upd.drew ?_ | refine Upd.alloc ?_ _))) ⟨_,0,none⟩ 1 1 [.int .i64 vv,.int .u32 lo,.int .u32 hi] (by rfl) (by rfl) (World.news_of_block (cs:=#[.int .i64 vv,.int .u32 lo,.int .u32 hi]) (t:=95) (fr:=(0,0)) (by first | exact heap_alloc_new _ _ | exact (HGR1.out.block _ (heap_lt HXB.out) (HNX.out _ (by omega))).trans HXB.out | exact (HGR1.out.block _ (heap_lt HXC.out) (HNX.out _ (by omega))).trans HXC.out)) HCN.out (by omega) (by unfold maxLen;omega) (by omega) (Nat.zero_le _) _ (by rfl) ?_
  intro g2 cap2 w11 hown2 hgr2 hat2 hlt2
  have HG2:=Lib.hid (And.intro (Upd.grown (S:=((Value.slice ra2 M.length rc2).ownBlock.toList++(Value.slice na2 M.length nc2).ownBlock.toList)) (w:=w9) (by repeat (first | exact HG1.out.1 | refine Upd.drew ?_ | refine Upd.alloc ?_ _)) hgr2 (fun k hk=>.inl (by simp [hk]))) (And.intro (row_grow (by repeat (first | exact Upd.refl _ _ | refine Upd.drew ?_ | refine Upd.alloc ?_ _)) hgr2 HG1.out.2.2.1 (fun k hk hq=>ty_ne HG1.out.2.2.1 (HRN.out _ HG1.out.2.1) (by decide) hk hq)) (And.intro hown2 (And.intro HG1.out.2.2.2 (app_at (w:=w9) (S:=((Value.slice ra2 M.length rc2).ownBlock.toList++(Value.slice na2 M.length nc2).ownBlock.toList)) (by repeat (first | exact HG1.out.1 | refine Upd.drew ?_ | refine Upd.alloc ?_ _)) hat2)))));clear hown2 hgr2 hat2 hlt2 HGR1 HG1;refine hK.out _ _ ⟨(HSE.out _ (HG2.out.1)).1,fun _=>(HSE.out _ (HG2.out.1)).2.1⟩ (fun hHeld=>?_);clear hK Kx;obtain ⟨hS,hE⟩:=hHeld;have hE:=hE (by kernel_rfl)
  (try simp only [Act.put])
  refine wpAnyU_takeS (i:=16) (v:=?v31) rfl (by kernel_rfl) (by kernel_rfl) (by kernel_rfl) (by kernel_rfl) (fun _ _ _ h=>h) (Or.inl ⟨by rfl,?hy31⟩) hS (fun _=>hE) ?rest31
  case hy31=>(intro x hSx;(try dsimp only at hSx);go_simp;try with_reducible rfl)
  (try simp only [Act.put])
  refine wpAnyU_takeS (i:=17) (v:=?v32) rfl (by kernel_rfl) (by kernel_rfl) (by kernel_rfl) (by kernel_rfl) (fun _ _ _ h=>h) (Or.inl ⟨by rfl,?hy32⟩) hS (fun _=>hE) ?rest32
  case hy32=>(intro x hSx;(try dsimp only at hSx);go_simp;try with_reducible rfl)
  (try simp only [Act.put])
  have htb:=(HSE.out _ HG2.out.1).2.2;have fz0:=frozen_at 0 htb;obtain ⟨y0,y1⟩:=(HSE.out _ HG2.out.1).2.1;refine wpAnyU_ready (rs:=[18]) (by kernel_rfl) (by simp) ?_;refine AllReadyU.cons rfl (fun Kx hK=>?_) ?_
  rotate_left
  exact AllReadyU.nil
  go_simp
  refine hK.out _ _ ⟨(node_set (HSE.out _ HG2.out.1).1 hne _),fun h=>noE (by kernel_rfl) h⟩ (fun hHeld=>?_);clear hK Kx;obtain ⟨hS,_⟩:=hHeld
  (try simp only [Act.put,List.setIfInBounds_toArray,List.set_cons_zero,List.set_cons_succ])
  have htb2:=heap_set_eq (j:=0) htb (.slice (some ⟨g1,0,none⟩) (M.length+1) cap1);have y3:=frozen_at 1 htb2;have y2:(w11.setCell ⟨tb,0,none⟩ (.slice (some ⟨g1,0,none⟩) (M.length+1) cap1)).cell? ⟨tb,1,none⟩=some (.slice na2 M.length nc2):=cell_at (j:=1) htb2 rfl;refine wpAnyU_takeS (i:=19) (v:=?v33) rfl (by kernel_rfl) (by kernel_rfl) (by kernel_rfl) (by kernel_rfl) (fun _ _ _ h=>h) (Or.inl ⟨by rfl,?hy33⟩) hS (fun h=>noE (by kernel_rfl) h) ?rest33
  case hy33=>(intro x hSx;(try dsimp only at hSx);go_simp;try with_reducible rfl)
  (try simp only [Act.put,List.setIfInBounds_toArray])
  refine wpAnyU_takeS (i:=20) (v:=?v34) rfl (by kernel_rfl) (by kernel_rfl) (by kernel_rfl) (by kernel_rfl) (fun _ _ _ h=>h) (Or.inl ⟨by rfl,?hy34⟩) hS (fun h=>noE (by kernel_rfl) h) ?rest34
  case hy34=>(intro x hSx;(try dsimp only at hSx);go_simp;try with_reducible rfl)
  (try simp only [Act.put])
  refine wpAnyU_ready (rs:=[21]) (by kernel_rfl) (by simp) ?_;refine AllReadyU.cons rfl (fun Kx hK=>?_) ?_
  rotate_left
  exact AllReadyU.nil
  go_simp
  refine hK.out _ _ ⟨(node_set (node_set (HSE.out _ HG2.out.1).1 hne _) hne _),fun h=>noE (by kernel_rfl) h⟩ (fun hHeld=>?_);clear hK Kx;obtain ⟨hS,_⟩:=hHeld
  (try simp only [Act.put,List.setIfInBounds_toArray,List.set_cons_zero,List.set_cons_succ])
  refine wpAnyU_done (by kernel_rfl) ?_ _;clear hS y0 y1 y2 y3 fz0 htb htb2;go_wp2_with fail;go_ret;exact HDONE.out _ _ _ _ _ HG2.out.1 HG2.out.2.1 HG2.out.2.2.1 HG2.out.2.2.2.1 HG2.out.2.2.2.2
 refine AllReadyU.cons rfl (fun Kx hK=>?_) ?_
 rotate_left
 exact AllReadyU.nil
 go_simp
 refine hK.out _ _ ⟨(HSE.out _ ((Upd.refl _ _).drew.alloc _)).1,fun _=>(HSE.out _ ((Upd.refl _ _).drew.alloc _)).2.1⟩ (fun hHeld=>?_);clear hK Kx;obtain ⟨hS,hE⟩:=hHeld;have hE:=hE (by kernel_rfl)
 (try simp only [Act.put,List.setIfInBounds_toArray,List.set_cons_zero,List.set_cons_succ])
 refine wpAnyU_ready (rs:=[7]) (by kernel_rfl) (by simp) ?_;refine AllReadyU.cons rfl (fun Kx hK=>?_) ?_
 rotate_left
 exact AllReadyU.nil
 go_simp
 refine hK.out _ _ ⟨(HSE.out _ (((Upd.refl _ _).drew.alloc _).alloc _)).1,fun _=>(HSE.out _ (((Upd.refl _ _).drew.alloc _).alloc _)).2.1⟩ (fun hHeld=>?_);clear hK Kx;obtain ⟨hS,hE⟩:=hHeld;have hE:=hE (by kernel_rfl)
 (try simp only [Act.put,List.setIfInBounds_toArray,List.set_cons_zero,List.set_cons_succ])
 refine wpAnyU_ready (rs:=[8]) (by kernel_rfl) (by simp) ?_;refine AllReadyU.cons rfl (fun Kx hK=>?_) ?_
 rotate_left
 exact AllReadyU.nil;refine step_append_lies _ (by rfl) (.tmp 84) (.tmp 86) 39 (by rfl) 0 62 tr _ 1 4 Tryz.underlying39 HIR.out.1 HIR.out.2.1 HIR.out.2.2.1 HIR.out.2.2.2 (by rfl) (by decide) (.slice ra2 M.length rc2) M.length (flatRefs M) (by rfl) (HRR.out _ (by repeat (first | exact Upd.refl _ _ | refine Upd.drew ?_ | refine Upd.alloc ?_ _))) ⟨_,0,none⟩ 1 1 [.int .u32 r] (by rfl) (by rfl) (World.news_of_block (cs:=#[.int .u32 r]) (t:=62) (fr:=(0,0)) (by first | exact HX1A.out | exact HX1B.out | exact HX1C.out)) HCR.out (by omega) (by unfold maxLen;omega) (by omega) (Nat.zero_le _) _ (by rfl) ?_
 intro g1 cap1 w10 hown1 hgr1 hat1 hlt1
 have HG1:=Lib.hid (And.intro (Upd.grown (S:=((Value.slice ra2 M.length rc2).ownBlock.toList++(Value.slice na2 M.length nc2).ownBlock.toList)) (w:=w9) (by repeat (first | exact Upd.refl _ _ | refine Upd.drew ?_ | refine Upd.alloc ?_ _)) hgr1 (fun k hk=>.inl (by simp [hk]))) (And.intro (Upd.grown (S:=(Value.slice ra2 M.length rc2).ownBlock.toList) (w:=w9) (by repeat (first | exact Upd.refl _ _ | refine Upd.drew ?_ | refine Upd.alloc ?_ _)) hgr1 (fun k hk=>.inl (by simp [hk]))) (And.intro hown1 (app_at (w:=w9) (S:=[]) (by repeat (first | exact Upd.refl _ _ | refine Upd.drew ?_ | refine Upd.alloc ?_ _)) hat1))));have HGR1:=Lib.hid hgr1;clear hown1 hgr1 hat1 hlt1;refine hK.out _ _ ⟨(HSE.out _ (HG1.out.1)).1,fun _=>(HSE.out _ (HG1.out.1)).2.1⟩ (fun hHeld=>?_);clear hK Kx;obtain ⟨hS,hE⟩:=hHeld;have hE:=hE (by kernel_rfl)
 (try simp only [Act.put,List.setIfInBounds_toArray])
 refine wpAnyU_ready (rs:=[15]) (by kernel_rfl) (by simp) ?_;refine AllReadyU.cons rfl (fun Kx hK=>?_) ?_
 rotate_left
 exact AllReadyU.nil;refine step_append_lies _ (by rfl) (.tmp 91) (.tmp 93) 90 (by rfl) 0 95 tt _ 3 16 Tryz.underlying90 HIT.out.1 HIT.out.2.1 HIT.out.2.2.1 HIT.out.2.2.2 (by rfl) (by decide) (.slice na2 M.length nc2) M.length (flatNodes (M.map K.pl)) (by rfl) (HRN.out _ (by repeat (first | exact HG1.out.2.1 | refine Upd.drew ?_ | refine Upd.alloc ?_ _))) ⟨_,0,none⟩ 1 1 [.int .i64 vv,.int .u32 lo,.int .u32 hi] (by rfl) (by rfl) (World.news_of_block (cs:=#[.int .i64 vv,.int .u32 lo,.int .u32 hi]) (t:=95) (fr:=(0,0)) (by first | exact heap_alloc_new _ _ | exact (HGR1.out.block _ (heap_lt HXB.out) (HNX.out _ (by omega))).trans HXB.out | exact (HGR1.out.block _ (heap_lt HXC.out) (HNX.out _ (by omega))).trans HXC.out)) HCN.out (by omega) (by unfold maxLen;omega) (by omega) (Nat.zero_le _) _ (by rfl) ?_
 intro g2 cap2 w11 hown2 hgr2 hat2 hlt2
 have HG2:=Lib.hid (And.intro (Upd.grown (S:=((Value.slice ra2 M.length rc2).ownBlock.toList++(Value.slice na2 M.length nc2).ownBlock.toList)) (w:=w9) (by repeat (first | exact HG1.out.1 | refine Upd.drew ?_ | refine Upd.alloc ?_ _)) hgr2 (fun k hk=>.inl (by simp [hk]))) (And.intro (row_grow (by repeat (first | exact Upd.refl _ _ | refine Upd.drew ?_ | refine Upd.alloc ?_ _)) hgr2 HG1.out.2.2.1 (fun k hk hq=>ty_ne HG1.out.2.2.1 (HRN.out _ HG1.out.2.1) (by decide) hk hq)) (And.intro hown2 (And.intro HG1.out.2.2.2 (app_at (w:=w9) (S:=((Value.slice ra2 M.length rc2).ownBlock.toList++(Value.slice na2 M.length nc2).ownBlock.toList)) (by repeat (first | exact HG1.out.1 | refine Upd.drew ?_ | refine Upd.alloc ?_ _)) hat2)))));clear hown2 hgr2 hat2 hlt2 HGR1 HG1;refine hK.out _ _ ⟨(HSE.out _ (HG2.out.1)).1,fun _=>(HSE.out _ (HG2.out.1)).2.1⟩ (fun hHeld=>?_);clear hK Kx;obtain ⟨hS,hE⟩:=hHeld;have hE:=hE (by kernel_rfl)
 (try simp only [Act.put])
 refine wpAnyU_takeS (i:=16) (v:=?v35) rfl (by kernel_rfl) (by kernel_rfl) (by kernel_rfl) (by kernel_rfl) (fun _ _ _ h=>h) (Or.inl ⟨by rfl,?hy35⟩) hS (fun _=>hE) ?rest35
 case hy35=>(intro x hSx;(try dsimp only at hSx);go_simp;try with_reducible rfl)
 (try simp only [Act.put])
 refine wpAnyU_takeS (i:=17) (v:=?v36) rfl (by kernel_rfl) (by kernel_rfl) (by kernel_rfl) (by kernel_rfl) (fun _ _ _ h=>h) (Or.inl ⟨by rfl,?hy36⟩) hS (fun _=>hE) ?rest36
 case hy36=>(intro x hSx;(try dsimp only at hSx);go_simp;try with_reducible rfl)
 (try simp only [Act.put])
 have htb:=(HSE.out _ HG2.out.1).2.2;have fz0:=frozen_at 0 htb;obtain ⟨y0,y1⟩:=(HSE.out _ HG2.out.1).2.1;refine wpAnyU_ready (rs:=[18]) (by kernel_rfl) (by simp) ?_;refine AllReadyU.cons rfl (fun Kx hK=>?_) ?_
 rotate_left
 exact AllReadyU.nil
 go_simp
 refine hK.out _ _ ⟨(node_set (HSE.out _ HG2.out.1).1 hne _),fun h=>noE (by kernel_rfl) h⟩ (fun hHeld=>?_);clear hK Kx;obtain ⟨hS,_⟩:=hHeld
 (try simp only [Act.put,List.setIfInBounds_toArray,List.set_cons_zero,List.set_cons_succ])
 have htb2:=heap_set_eq (j:=0) htb (.slice (some ⟨g1,0,none⟩) (M.length+1) cap1);have y3:=frozen_at 1 htb2;have y2:(w11.setCell ⟨tb,0,none⟩ (.slice (some ⟨g1,0,none⟩) (M.length+1) cap1)).cell? ⟨tb,1,none⟩=some (.slice na2 M.length nc2):=cell_at (j:=1) htb2 rfl;refine wpAnyU_takeS (i:=19) (v:=?v37) rfl (by kernel_rfl) (by kernel_rfl) (by kernel_rfl) (by kernel_rfl) (fun _ _ _ h=>h) (Or.inl ⟨by rfl,?hy37⟩) hS (fun h=>noE (by kernel_rfl) h) ?rest37
 case hy37=>(intro x hSx;(try dsimp only at hSx);go_simp;try with_reducible rfl)
 (try simp only [Act.put,List.setIfInBounds_toArray])
 refine wpAnyU_takeS (i:=20) (v:=?v38) rfl (by kernel_rfl) (by kernel_rfl) (by kernel_rfl) (by kernel_rfl) (fun _ _ _ h=>h) (Or.inl ⟨by rfl,?hy38⟩) hS (fun h=>noE (by kernel_rfl) h) ?rest38
 case hy38=>(intro x hSx;(try dsimp only at hSx);go_simp;try with_reducible rfl)
 (try simp only [Act.put])
 refine wpAnyU_ready (rs:=[21]) (by kernel_rfl) (by simp) ?_;refine AllReadyU.cons rfl (fun Kx hK=>?_) ?_
 rotate_left
 exact AllReadyU.nil
 go_simp
 refine hK.out _ _ ⟨(node_set (node_set (HSE.out _ HG2.out.1).1 hne _) hne _),fun h=>noE (by kernel_rfl) h⟩ (fun hHeld=>?_);clear hK Kx;obtain ⟨hS,_⟩:=hHeld
 (try simp only [Act.put,List.setIfInBounds_toArray,List.set_cons_zero,List.set_cons_succ])
 refine wpAnyU_done (by kernel_rfl) ?_ _;clear hS y0 y1 y2 y3 fz0 htb htb2;go_wp2_with fail;go_ret;exact HDONE.out _ _ _ _ _ HG2.out.1 HG2.out.2.1 HG2.out.2.2.1 HG2.out.2.2.2.1 HG2.out.2.2.2.2
theorem take_hyp (tb b:Nat) (K:KV) (T:List DM) (q:KPtr) (hpl:K.A.places<=4096):∀ (n d:Nat),K.vars+1-d<=n->TakeHyp tb b K T q d:=by
 intro n
 induction n with
 | zero =>
  intro d hd r L rv nv wv w hk h hL hdj ht hdr
  have:=hk.ok.wf.dep_le hk.ok.ord ht;omega
 | succ n ih =>
  intro d hd r L rv nv wv w hk h hL hdj ht hdr
  by_cases hr:r<2\/r∈L
  ·exact take_old tb b r K T q L rv nv wv w hk h hL hr
  ·have h2:2<=r:=by
    rcases Nat.lt_or_ge r 2 with h | h
    ·exact absurd (.inl h) hr
    ·exact h
   have hdl:=hk.ok.wf.dep_lt hk.ok.ord h2 ht;exact take_new tb b r K T q L rv nv wv w hk h hL hdj h2 ht (fun hm=>hr (.inr hm)) hpl (ih (K.dep r+1) (by omega))
theorem ntake_spec (tb b r:Nat) (K:KV) (T:List DM) (q:KPtr) (rv nv wv:Value) (w:World) (hpl:K.A.places<=4096) (hk:KerIn w b K T q) (h:NetIn w tb K [] rv nv wv) (hdj:∀ k,k∈q.all b->k∉netS tb rv nv wv) (ht:K.A.tk r=true) :
  Calls Tryz.prog 38 #[.pointer (some ⟨tb,0,none⟩),.pointer (some ⟨b,0,none⟩),.int .u32 r] w fun e w'=>TakeQ tb r K [] rv nv wv w e w' :=
 take_hyp tb b K T q hpl _ 0 (Nat.le_refl _) r [] rv nv wv w hk h (NetL.nil K) hdj ht (Nat.zero_le _)
end Go.Proofs.YtlkgkojidclncaaGreat
