import Derived.Test.YtfkopmhpppeheaaGreatPN1
import Derived.Test.YtfkopmhpppeheaaGreatPN2
set_option maxRecDepth 100000
set_option maxHeartbeats 800000
namespace Go.Proofs.YtfkopmhpppeheaaGreat
open Go.RowKit
theorem ag.Pg {A:ag} {r:Nat} (h2:2<=r) (ht:A.tk r=true):A.Ji r=0:=by simp [ag.Ji,h2,ht]
theorem zN {w:World} {e:TypeId} {l n' c n r:Nat} {L:List ak} {p:ak} (h6:w.ownsRow 0 e 5 (.slice (some ⟨l,0,none⟩) n' c) n (aU L)) (hp:L[r]?=some p) :
    w.cell? ⟨l,r * 5,none⟩=some (.int .i64 p.var)∧w.cell? ⟨l,r * 5 + 1,none⟩=some (.int .u32 p.lo)∧w.cell? ⟨l,r * 5 + 2,none⟩=some (.int .u32 p.hi) ∧
    w.cell? ⟨l,r * 5 + 3,none⟩=some (.bool p.taken)∧w.cell? ⟨l,r * 5 + 4,none⟩=some (.int .u8 p.count) ∧
    w.frozen? ⟨l,r * 5,none⟩=false∧w.frozen? ⟨l,r * 5 + 1,none⟩=false∧w.frozen? ⟨l,r * 5 + 2,none⟩=false∧w.frozen? ⟨l,r * 5 + 3,none⟩=false∧w.frozen? ⟨l,r * 5 + 4,none⟩=false :=
  ⟨au h6 (j:=r * 5 + 0) (by rw [eG _ _ _ (by omega),hp]; rfl),au h6 (by rw [eG _ _ _ (by omega),hp]; rfl),au h6 (by rw [eG _ _ _ (by omega),hp]; rfl),
   au h6 (by rw [eG _ _ _ (by omega),hp]; rfl),au h6 (by rw [eG _ _ _ (by omega),hp]; rfl),aS h6 _,aS h6 _,aS h6 _,aS h6 _,aS h6 _⟩
theorem Rj {w:World} {b l lc r:Nat} {F:List Nat} {fv:Value} {A:ag}
  (h5:w.heap[b]?=some (.cells #[.int .i64 A.places,.slice (some ⟨l,0,none⟩) A.list.length lc,fv,.int .i64 A.used] 249 (0,0)))
  (h6:w.ownsRow 0 286 5 (.slice (some ⟨l,0,none⟩) A.list.length lc) A.list.length (aU A.list)) (aW:r<A.list.length)
  (hF:F=[b,l]++fv.ownBlock.toList) (mO:b≠l) (Bc:some b≠fv.ownBlock) (uS:some l≠fv.ownBlock) :
  ∀ w2,((GR w l r ak.zero).alloc (.cells #[.int .u32 r] 77 (0,0))).grownBy w2 fv.ownBlock ->
   w2.frozen? ⟨b,2,none⟩=false/\w2.cell? ⟨b,2,none⟩=some fv/\w2.cell? ⟨b,3,none⟩=some (.int .i64 A.used)/\w2.frozen? ⟨b,3,none⟩=false /\
   Hid (af F w w2/\w2.heap[b]?=some (.cells #[.int .i64 A.places,.slice (some ⟨l,0,none⟩) A.list.length lc,fv,.int .i64 A.used] 249 (0,0)) /\
    w2.ownsRow 0 286 5 (.slice (some ⟨l,0,none⟩) A.list.length lc) A.list.length (aU (A.list.set r ak.zero))):=by
 intro w2 hg
 have hb:=ah h5;have hl:=(h6.lt _ rfl).2
 have qM:w2.heap[b]?=w.heap[b]?:=by
  rw [hg.block b (by rw [World.size_alloc,pK];omega) Bc,heap_alloc_old _ _ (by rw [pK];exact hb)];exact XM mO
 rw [h5] at qM;have hu:af F w (GR w l r ak.zero):=(af.refl F w).GR (by simp [hF]) _ _;refine ⟨ax 2 qM,ae qM rfl,ae qM rfl,ax 3 qM,(hu.alloc _).grown hg ?_,qM,?_⟩
 ·intro k hk;left;simp [hF,hk]
 ·exact ((Fg h6 aW ak.zero).alloc _).kept hg (.inr (by simpa [Value.ownBlock] using uS))
theorem VW {w w2:World} {b l lc g cap r:Nat} {F:List Nat} {fv:Value} {A:ag} {X:Obj}
  (aK:w2.ownsRow 0 77 1 (.slice (some ⟨g,0,none⟩) (A.free.length+1) cap) (A.free.length+1) (aI A.free++[.int .u32 r]))
  (bI:fv.ownBlock=some g\/g=((GR w l r ak.zero).alloc X).heap.size)
  (hu:af F w w2) (h5:w2.heap[b]?=some (.cells #[.int .i64 A.places,.slice (some ⟨l,0,none⟩) A.list.length lc,fv,.int .i64 A.used] 249 (0,0)))
  (h6:w2.ownsRow 0 286 5 (.slice (some ⟨l,0,none⟩) A.list.length lc) A.list.length (aU (A.list.set r ak.zero)))
  (hF:F=[b,l]++fv.ownBlock.toList) (mO:b≠l) (Bc:some b≠fv.ownBlock) (uS:some l≠fv.ownBlock) (hs:b<w.heap.size) (uO:l<w.heap.size) (h1:1<=A.used) (dJ:(A.drop r).Ok) :
  ∃ F',bu ((w2.setCell ⟨b,2,none⟩ (.slice (some ⟨g,0,none⟩) (A.free.length+1) cap)).setCell ⟨b,3,none⟩ (.int .i64 (A.used-1))) b (A.drop r) F' /\
   af F w ((w2.setCell ⟨b,2,none⟩ (.slice (some ⟨g,0,none⟩) (A.free.length+1) cap)).setCell ⟨b,3,none⟩ (.int .i64 (A.used-1)))/\Sub F w F':=by
 rw [World.size_alloc,pK] at bI
 have LD:b≠g:=by
  rcases bI with h | h
  ·rintro rfl;exact Bc h.symm
  ·omega
 have hlg:l≠g:=by
  rcases bI with h | h
  ·rintro rfl;exact uS h.symm
  ·omega
 have Vd:aI (A.drop r).free=aI A.free++[.int .u32 r]:=by simp [ag.drop,aI]
 have hlen:(A.drop r).free.length=A.free.length+1:=by simp [ag.drop]
 refine ⟨[b,l,g],⟨⟨l,lc,.slice (some ⟨g,0,none⟩) (A.free.length+1) cap,?_,?_,?_,by simp [Value.ownBlock],mO,by simpa [Value.ownBlock] using LD,by simpa [Value.ownBlock] using hlg⟩,dJ⟩,?_,?_⟩
 ·have e1:=aB (j:=3) (aB (j:=2) h5 (.slice (some ⟨g,0,none⟩) (A.free.length+1) cap)) (.int .i64 (A.used-1))
  rw [e1]
  simp [ag.drop]
  omega
 ·rw [show (A.drop r).list.length=A.list.length by simp [ag.drop]]
  have Nz:∀ j:Nat,some (⟨b,j,none⟩ : Addr).block≠(Value.slice (some ⟨l,0,none⟩) A.list.length lc).ownBlock:=by intro j;simpa [Value.ownBlock] using mO
  exact bf (bf h6 (Nz 2) _) (Nz 3) _
 ·rw [hlen,Vd]
  have Nz:∀ j:Nat,some (⟨b,j,none⟩ : Addr).block≠(Value.slice (some ⟨g,0,none⟩) (A.free.length+1) cap).ownBlock:=by intro j;simpa [Value.ownBlock] using LD
  exact bf (bf aK (Nz 2) _) (Nz 3) _
 ·exact (hu.setCell (by simp [hF]) _).setCell (by simp [hF]) _
 ·intro k hk
  simp at hk
  rcases hk with rfl | rfl | rfl
  ·simp [hF]
  ·simp [hF]
  ·rcases bI with h | h
   ·left;simp [hF,h]
   ·right;omega
theorem Y9 (b:Nat) (F:List Nat) (r:Nat) (A:ag) (w:World) (h:bu w b A F) (oQ:r<=4294967295) (h2:2<=r) (ht:A.tk r=true) :
  Calls Tryz.prog 168 #[.pointer (some ⟨b,0,none⟩),.int .u32 r] w fun e w'=>e=.returned (.int .i64 0)/\∃ F',bu w' b (A.drop r) F'/\af F w w'/\Sub F w F':=by
 have HO:=Lib.hid (ag.Pg h2 ht);have Yz:=Lib.hid (h.ok.drop ht h2);have dJ:=h.ok;obtain ⟨p,hp,_⟩:=ag.aP.1 ht;have aW:=(List.getElem?_eq_some_iff.1 hp).1;clear ht;obtain ⟨l,lc,fv,h5,h6,h7,EI,mO,Bc,uS⟩:=h.cells;have IZ:=dJ.pm;have Sz:=dJ.lp;have uP:=dJ.us
 have Tm:A.free.length<=1048576:=by omega
 have hu:A.used<=1048576:=by omega
 have iq:1<=A.used:=by have:=Yz.out.us;have:=Yz.out.l2;simp [ag.drop] at *;omega
 obtain ⟨fa,fc,oG,_⟩:=aj h7;subst oG;have hb:=ah h5;have hl:=(h6.lt _ rfl).2;have Eo:w.cell? ⟨b,1,none⟩=some (.slice (some ⟨l,0,none⟩) A.list.length lc):=ae h5 rfl;have BC:w.cell? ⟨b,2,none⟩=some (.slice fa A.free.length fc):=ae h5 rfl;obtain ⟨g0,g1,g2,g3,g4,z0,z1,z2,z3,z4⟩:=zN h6 hp;have H5:=Lib.hid h5;have H6:=Lib.hid h6;have H7:=Lib.hid h7;have HF:=Lib.hid EI;have HW:=Lib.hid (bf (bf (bf (bf (bf h7 (a:=⟨l,r*5,none⟩) uS (.int .i64 0)) (a:=⟨l,r*5+1,none⟩) uS (.int .u32 0)) (a:=⟨l,r*5+2,none⟩) uS (.int .u32 0)) (a:=⟨l,r*5+3,none⟩) uS (.bool false)) (a:=⟨l,r*5+4,none⟩) uS (.int .u8 0));clear h5 h6 h7 EI uP dJ hp;obtain ⟨i,sG,tV,jY,fE⟩:=info_parts Tryz.OC;have HI:=Lib.hid sG;have HZ:=Lib.hid tV;have Cm:=Lib.hid jY;have F6:=Lib.hid fE;clear sG tV jY fE
 go_enter Tryz.func168,Tryz.ntmps168
 go_wp2_with fail;refine (Jj b F r A _ h oQ).mono ?_
 rintro e w' ⟨rfl,rfl⟩;rw [HO.out]
 have EJ:Hid (∀ u,u∈[Value.int .u32 r]->u.oneCell'=true):=by intro u hu;simp at hu;subst hu;rfl
 have HK:=Lib.hid (Rj H5.out H6.out aW HF.out mO Bc uS)
 go_wp2_with (at_builtin;go_must (refine wpList_append_lies _ rfl (.tmp 25) (.tmp 27) 42 rfl 0 77 i _ 1 4 Tryz.underlying42 HI.out HZ.out Cm.out F6.out (by rfl) (by decide) _ A.free.length (aI A.free) rfl (HW.out.alloc _) ⟨w.heap.size,0,none⟩ 1 1 [.int .u32 r] rfl rfl ?c1 EJ.out (by omega) (by unfold maxLen;omega) (by omega) (by omega) _ rfl ?_))
 case c1 =>
  have:=World.news_of_block (heap_alloc_new (GR w l r ak.zero) (.cells #[.int .u32 r] 77 (0,0)));rw [pK] at this;exact this
 intro g cap w2 aK dh bI pF
 obtain ⟨k1,k2,k3,k4,k5⟩:=HK.out w2 dh;have HX:=Lib.hid (And.intro aK bI);clear aK dh bI;go_wp2_with fail;go_ret;refine ⟨rfl,?_⟩;obtain ⟨y1,y2⟩:=HX.out;obtain ⟨z1,z2,z3⟩:=k5.out;exact VW y1 (X:=.cells #[.int .u32 r] 77 (0,0)) (by rw [World.size_alloc,pK];exact y2) z1 z2 z3 HF.out mO Bc uS hb hl (by omega) Yz.out
def Kq (k:Nat):ak:=⟨-1,k,k,true,255⟩
def qX (k:Nat):List Value:=aU ((List.range k).map Kq)
theorem IG (k:Nat):qX (k+1)=qX k++[.int .i64 (-1),.int .u32 k,.int .u32 k,.bool true,.int .u8 255]:=by
 simp [qX,List.range_succ,aU,ak.flat,Kq]
def II (w:World) (n:Nat) (i:Value) (wr:World):Prop:=∃ k v,k<=2/\i=.int .u32 (k:Nat) /\
 wr.heap[w.heap.size]?=some (.cells #[.int .i64 n,v,.slice none 0 0,.int .i64 2] 249 (0,0)) /\
 wr.ownsRow (w.heap.size+1) 286 5 v k (qX k)/\af [] w wr
theorem Rk (w:World) (n:Nat):II w n (.int .u32 0) (w.alloc (.cells #[.int .i64 n,.slice none 0 0,.slice none 0 0,.int .i64 2] 249 (0,0))) :=
 ⟨0,.slice none 0 0,by omega,rfl,heap_alloc_new w _,World.ownsRow_nil _ _ _ _,(af.refl _ _).alloc _⟩
theorem VX {w wr:World} {n k:Nat} {v:Value} {X:Obj} (h5:wr.heap[w.heap.size]?=some (.cells #[.int .i64 n,v,.slice none 0 0,.int .i64 2] 249 (0,0)))
  (h6:wr.ownsRow (w.heap.size+1) 286 5 v k (qX k)) (hu:af [] w wr):∀ w2,(wr.alloc X).grownBy w2 v.ownBlock ->
  w2.cell? ⟨w.heap.size,1,none⟩=some v/\w2.frozen? ⟨w.heap.size,1,none⟩=false/\Hid (af [] w w2/\w2.heap[w.heap.size]?=some (.cells #[.int .i64 n,v,.slice none 0 0,.int .i64 2] 249 (0,0))):=by
 intro w2 hg
 have hb:=ah h5
 have qM:w2.heap[w.heap.size]?=wr.heap[w.heap.size]?:=by
  rw [hg.block _ (by simp;omega) (fun e=>by have:=(h6.lt _ e.symm).1;omega)];exact heap_alloc_old wr _ hb
 rw [h5] at qM;exact ⟨ae qM rfl,ax 1 qM,(hu.alloc _).grown hg (fun k hk=>.inr (by have:=(h6.lt _ hk).1;omega)),qM⟩
theorem VY {w w2:World} {n k g cap:Nat} {v:Value} (hk:k<2) (aK:w2.ownsRow (w.heap.size+1) 286 5 (.slice (some ⟨g,0,none⟩) (k+1) cap) (k+1) (qX k++[.int .i64 (-1),.int .u32 k,.int .u32 k,.bool true,.int .u8 255]))
  (hu:af [] w w2) (h5:w2.heap[w.heap.size]?=some (.cells #[.int .i64 n,v,.slice none 0 0,.int .i64 2] 249 (0,0))) :
  II w n (.int .u32 (k+1:Nat)) (w2.setCell ⟨w.heap.size,1,none⟩ (.slice (some ⟨g,0,none⟩) (k+1) cap)):=by
 refine ⟨k+1,.slice (some ⟨g,0,none⟩) (k+1) cap,by omega,rfl,?_,?_,hu.setCell (.inr (Nat.le_refl _)) _⟩
 ·rw [aB h5];rfl
 ·rw [IG]
  have hg:=(aK.lt g rfl).1;exact bf aK (by simp [Value.ownBlock];omega) _
theorem Za {w wr:World} {n:Nat} (hn:(ag.new n).Ok) (h:II w n (.int .u32 2) wr):∃ F,bu wr w.heap.size (ag.new n) F/\af [] w wr/\Sub [] w F:=by
 obtain ⟨k,v,hk,hi,h5,h6,hu⟩:=h
 have:k=2:=by simp at hi;omega
 subst this;obtain ⟨g,cap,rfl,hb,_⟩:=h6.form (by omega);refine ⟨[w.heap.size,g],⟨⟨g,cap,.slice none 0 0,h5,df h6 (by omega),World.ownsRow_nil _ _ _ _,by simp [Value.ownBlock],by omega,by simp [Value.ownBlock],by simp [Value.ownBlock]⟩,hn⟩,hu,?_⟩
 intro k hk
 simp at hk
 right;omega
theorem VZ (n:Nat) (w:World) (h2:2<=n) (hm:n<=1048576) :
  Calls Tryz.prog 156 #[.int .i64 n] w fun e w'=>∃ b F,e=.returned (.tuple #[.pointer (some ⟨b,0,none⟩),.int .i64 0])/\bu w' b (ag.new n) F/\af [] w w'/\Sub [] w F:=by
 have HN:=Lib.hid (ag.vG h2 hm)
 have hd:decide ((n:Int)<2)=false:=by simp;omega
 have wP:decide ((1048576:Int)<(n:Int))=false:=by simp;omega
 obtain ⟨i,sG,tV,jY,fE⟩:=info_parts Tryz.Fj;have HI:=Lib.hid sG;have HZ:=Lib.hid tV;have Cm:=Lib.hid jY;have F6:=Lib.hid fE;clear sG tV jY fE
 go_enter Tryz.func156,Tryz.ntmps156
 go_wp2
 go_loopw [15] (fun i wr=>II w n i wr) (fun i _=>2-(intOf i).toNat)
 case atStart=>exact Rk w n
 case round =>
  obtain ⟨k,v,hk,rfl,h5,h6,hu⟩:=hrel
  by_cases aW:k<2
  ·have Eo:wr.cell? ⟨w.heap.size,1,none⟩=some v:=ae h5 rfl
   obtain ⟨va,vc,hv,_⟩:=aj h6;subst hv;have H5:=Lib.hid h5;have H6:=Lib.hid h6;have HU:=Lib.hid hu;have HK:=Lib.hid (VX (X:=.cells #[.int .i64 (-1),.int .u32 k,.int .u32 k,.bool true,.int .u8 255] 286 (0,0)) h5 h6 hu);clear h5 h6 hu
   have EJ:Hid (∀ u,u∈[Value.int .i64 (-1),.int .u32 k,.int .u32 k,.bool true,.int .u8 255]->u.oneCell'=true):=by intro u hu;simp at hu;rcases hu with rfl | rfl | rfl | rfl | rfl <;> rfl
   go_wp2_with (at_builtin;go_must (refine wpList_append_lies _ rfl (.tmp 22) (.tmp 27) 247 rfl (w.heap.size+1) 286 i _ 5 24 Tryz.underlying247 HI.out HZ.out Cm.out F6.out (by rfl) (by decide) _ k (qX k) rfl (H6.out.alloc _) ⟨wr.heap.size,0,none⟩ 1 1 [.int .i64 (-1),.int .u32 k,.int .u32 k,.bool true,.int .u8 255] rfl rfl ?c1 EJ.out (by omega) (by unfold maxLen;omega) (by omega) (by have:=HU.out.size;have:=(ah H5.out);simp;omega) _ rfl ?_))
   case c1=>exact World.news_of_block (heap_alloc_new wr _)
   intro g cap w2 aK dh bI pF
   obtain ⟨k1,k2,k3⟩:=HK.out w2 dh;have HX:=Lib.hid (And.intro aK bI);clear aK dh bI;go_wp2_with fail
   go_roundw
   case rel=>exact VY aW HX.out.1 k3.out.1 k3.out.2
   case measure=>simp [intOf];omega
  ·have:k=2:=by omega
   subst this;have HE:=Lib.hid (Za HN.out ⟨2,v,by omega,rfl,h5,h6,hu⟩);clear h5 h6 hu
   go_wp2
   go_ret2;obtain ⟨F,q⟩:=HE.out;exact ⟨_,F,rfl,q⟩
end Go.Proofs.YtfkopmhpppeheaaGreat
namespace Go.Proofs.YtfkopmhpppeheaaGreat
open Go.RowKit Go.Maps Go.ChangeMaps Go.WideShapes
def iL (l:List Nat):List Value:=l.map fun (n:Nat)=>Value.int .i32 n
structure aA where
 a:Nat
 t:Nat
 uv:Value
 hv:Value
 ov:Value
 lv:Value
 tv:Value
 FA:List Nat
 FT:List Nat
 o:Nat->Nat
def aA.all (q:aA) (b:Nat):List Nat:=b::(q.FA++(q.FT++(q.uv.ownBlock.toList++(q.hv.ownBlock.toList++(q.ov.ownBlock.toList++(q.lv.ownBlock.toList++q.tv.ownBlock.toList))))))
structure aF (w:World) (b:Nat) (K:KV) (T:List DM) (q:aA):Prop where
 blk:w.heap[b]?=some (.cells #[.pointer (some ⟨q.a,0,none⟩),.pointer (some ⟨q.t,0,none⟩),q.uv,q.hv,.int .i64 K.vars,q.ov,q.lv,q.tv] 172 (0,0))
 ar:bu w q.a K.A q.FA
 tab:ed w q.t T q.FT
 us:w.ownsRow 0 21 1 q.uv K.uses.length (iL K.uses)
 hs:w.ownsRow 0 21 1 q.hv K.holds.length (iL K.holds)
 os:w.ownsRow 0 3 1 q.ov K.order.length (aQ K.order)
 ls:w.ownsRow 0 3 1 q.lv K.level.length (aQ K.level)
 ts:w.ownsRow 0 3 1 q.tv K.trail.length (aQ K.trail)
 ob:q.o b=0
 oa:∀ k,k∈q.FA->q.o k=1
 ot:∀ k,k∈q.FT->q.o k=2
 ou:∀ k,q.uv.ownBlock=some k->q.o k=3
 oh:∀ k,q.hv.ownBlock=some k->q.o k=4
 oo:∀ k,q.ov.ownBlock=some k->q.o k=5
 ol:∀ k,q.lv.ownBlock=some k->q.o k=6
 ox:∀ k,q.tv.ownBlock=some k->q.o k=7
theorem aA.mem {q:aA} {b k:Nat}:k∈q.all b↔k=b\/k∈q.FA\/k∈q.FT\/q.uv.ownBlock=some k\/q.hv.ownBlock=some k\/q.ov.ownBlock=some k\/q.lv.ownBlock=some k\/q.tv.ownBlock=some k:=by
 simp [aA.all]
theorem aF.lt {w:World} {b:Nat} {K:KV} {T:List DM} {q:aA} (h:aF w b K T q):∀ k,k∈q.all b->k<w.heap.size:=by
 intro k hk
 rcases aA.mem.1 hk with rfl | hk | hk | hk | hk | hk | hk | hk
 ·exact ah h.blk
 ·exact h.ar.lt k hk
 ·exact h.tab.lt k hk
 ·exact (h.us.lt k hk).2
 ·exact (h.hs.lt k hk).2
 ·exact (h.os.lt k hk).2
 ·exact (h.ls.lt k hk).2
 ·exact (h.ts.lt k hk).2
theorem aF.keep {w w':World} {b:Nat} {K:KV} {T:List DM} {q:aA} (h:aF w b K T q) (hk:∀ k,k∈q.all b→w'.heap[k]?=w.heap[k]?):aF w' b K T q :=
  ⟨by rw [hk b (aA.mem.2 (.inl rfl))]; exact h.blk,h.ar.keep fun k hm=>hk k (aA.mem.2 (.inr (.inl hm))),h.tab.keep fun k hm=>hk k (aA.mem.2 (.inr (.inr (.inl hm)))),
   ai h.us fun k hm=>hk k (aA.mem.2 (.inr (.inr (.inr (.inl hm))))),ai h.hs fun k hm=>hk k (aA.mem.2 (.inr (.inr (.inr (.inr (.inl hm)))))),
   ai h.os fun k hm=>hk k (aA.mem.2 (.inr (.inr (.inr (.inr (.inr (.inl hm))))))),ai h.ls fun k hm=>hk k (aA.mem.2 (.inr (.inr (.inr (.inr (.inr (.inr (.inl hm)))))))),
   ai h.ts fun k hm=>hk k (aA.mem.2 (.inr (.inr (.inr (.inr (.inr (.inr (.inr hm)))))))),h.ob,h.oa,h.ot,h.ou,h.oh,h.oo,h.ol,h.ox⟩
theorem aF.upd {w w':World} {b:Nat} {K:KV} {T:List DM} {q:aA} {S:List Nat} (h:aF w b K T q) (u:af S w w') (hd:∀ k,k∈q.all b->k∉S):aF w' b K T q :=
 h.keep fun k hk=>u.block k (h.lt k hk) (hd k hk)
def dC (q:aA) (n c:Nat):Nat->Nat:=fun k=>if n<=k then c else q.o k
theorem aX {q:aA} {n c k:Nat} (h:k<n):dC q n c k=q.o k:=by unfold dC;rw [if_neg (by omega)]
theorem Rl {q:aA} {n c k:Nat} {F:List Nat} (hF:∀ k,k∈F->q.o k=c) (h:k∈F\/n<=k):dC q n c k=c:=by
 unfold dC;split
 ·rfl
 ·rcases h with h | h
  ·exact hF k h
  ·omega
theorem aF.arena {w w':World} {b:Nat} {K:KV} {T:List DM} {q:aA} {A':ag} {F':List Nat} (h:aF w b K T q) (ha:bu w' q.a A' F') (hu:af q.FA w w') (hs:Sub q.FA w F') :
  aF w' b { K with A:=A' } T { q with FA:=F',o:=dC q w.heap.size 1 }:=by
 have hne:∀ {k c},q.o k=c->c≠1->k∉q.FA:=fun {k c} hk hc hm=>hc (hk ▸ h.oa k hm)
 have hb:=ah h.blk
 refine ⟨by rw [hu.block b hb (hne h.ob (by omega))];exact h.blk,ha,h.tab.upd hu fun k hk=>hne (h.ot k hk) (by omega),
  ai h.us fun k hk=>hu.block k (h.us.lt k hk).2 (hne (h.ou k hk) (by omega)),ai h.hs fun k hk=>hu.block k (h.hs.lt k hk).2 (hne (h.oh k hk) (by omega)),
  ai h.os fun k hk=>hu.block k (h.os.lt k hk).2 (hne (h.oo k hk) (by omega)),ai h.ls fun k hk=>hu.block k (h.ls.lt k hk).2 (hne (h.ol k hk) (by omega)),
  ai h.ts fun k hk=>hu.block k (h.ts.lt k hk).2 (hne (h.ox k hk) (by omega)),?_,?_,?_,?_,?_,?_,?_,?_⟩
 ·show dC q _ 1 b=0
  rw [aX hb];exact h.ob
 ·intro k hk;exact Rl h.oa (hs k hk)
 ·intro k hk;show dC q _ 1 k=2;rw [aX (h.tab.lt k hk)];exact h.ot k hk
 ·intro k hk;show dC q _ 1 k=3;rw [aX (h.us.lt k hk).2];exact h.ou k hk
 ·intro k hk;show dC q _ 1 k=4;rw [aX (h.hs.lt k hk).2];exact h.oh k hk
 ·intro k hk;show dC q _ 1 k=5;rw [aX (h.os.lt k hk).2];exact h.oo k hk
 ·intro k hk;show dC q _ 1 k=6;rw [aX (h.ls.lt k hk).2];exact h.ol k hk
 ·intro k hk;show dC q _ 1 k=7;rw [aX (h.ts.lt k hk).2];exact h.ox k hk
theorem aF.table {w w':World} {b:Nat} {K:KV} {T T':List DM} {q:aA} (h:aF w b K T q) (ha:ed w' q.t T' q.FT) (hu:af q.FT w w'):aF w' b K T' q:=by
 have hne:∀ {k c},q.o k=c->c≠2->k∉q.FT:=fun {k c} hk hc hm=>hc (hk ▸ h.ot k hm)
 have hb:=ah h.blk
 exact ⟨by rw [hu.block b hb (hne h.ob (by omega))];exact h.blk,h.ar.upd hu fun k hk=>hne (h.oa k hk) (by omega),ha,
  ai h.us fun k hk=>hu.block k (h.us.lt k hk).2 (hne (h.ou k hk) (by omega)),ai h.hs fun k hk=>hu.block k (h.hs.lt k hk).2 (hne (h.oh k hk) (by omega)),
  ai h.os fun k hk=>hu.block k (h.os.lt k hk).2 (hne (h.oo k hk) (by omega)),ai h.ls fun k hk=>hu.block k (h.ls.lt k hk).2 (hne (h.ol k hk) (by omega)),
  ai h.ts fun k hk=>hu.block k (h.ts.lt k hk).2 (hne (h.ox k hk) (by omega)),h.ob,h.oa,h.ot,h.ou,h.oh,h.oo,h.ol,h.ox⟩
theorem Dy (l:List Nat) (r n:Nat):(iL l).set r (.int .i32 n)=iL (l.set r n):=by simp [iL,List.map_set]
theorem aF.zg {w:World} {b g n' c r n:Nat} {K:KV} {T:List DM} {q:aA} (h:aF w b K T q) (hq:q.uv=.slice (some ⟨g,0,none⟩) n' c) (hr:r<K.uses.length) :
  aF (w.setCell ⟨g,r,none⟩ (.int .i32 n)) b { K with uses:=K.uses.set r n } T q:=by
 have hg:q.o g=3:=h.ou g (by rw [hq];rfl)
 have hne:∀ {k c},q.o k=c->c≠3->k≠g:=fun {k c} hk hc hm=>hc (by rw [<- hk,hm,hg])
 have hk:∀ {k c},q.o k=c->c≠3->(w.setCell ⟨g,r,none⟩ (.int .i32 n)).heap[k]?=w.heap[k]?:=fun hk hc=>aG (hne hk hc)
 refine ⟨by rw [hk h.ob (by omega)];exact h.blk,h.ar.keep fun k hm=>hk (h.oa k hm) (by omega),h.tab.keep fun k hm=>hk (h.ot k hm) (by omega),?_,
  ai h.hs fun k hm=>hk (h.oh k hm) (by omega),ai h.os fun k hm=>hk (h.oo k hm) (by omega),ai h.ls fun k hm=>hk (h.ol k hm) (by omega),ai h.ts fun k hm=>hk (h.ox k hm) (by omega),
  h.ob,h.oa,h.ot,h.ou,h.oh,h.oo,h.ol,h.ox⟩
 have hu:=h.us;rw [hq] at hu ⊢;have:=dL hu (j:=r) (by omega) (.int .i32 n);rw [Dy] at this
 simpa using this
theorem aF.Bg {w:World} {b g n' c r n:Nat} {K:KV} {T:List DM} {q:aA} (h:aF w b K T q) (hq:q.hv=.slice (some ⟨g,0,none⟩) n' c) (hr:r<K.holds.length) :
  aF (w.setCell ⟨g,r,none⟩ (.int .i32 n)) b { K with holds:=K.holds.set r n } T q:=by
 have hg:q.o g=4:=h.oh g (by rw [hq];rfl)
 have hne:∀ {k c},q.o k=c->c≠4->k≠g:=fun {k c} hk hc hm=>hc (by rw [<- hk,hm,hg])
 have hk:∀ {k c},q.o k=c->c≠4->(w.setCell ⟨g,r,none⟩ (.int .i32 n)).heap[k]?=w.heap[k]?:=fun hk hc=>aG (hne hk hc)
 refine ⟨by rw [hk h.ob (by omega)];exact h.blk,h.ar.keep fun k hm=>hk (h.oa k hm) (by omega),h.tab.keep fun k hm=>hk (h.ot k hm) (by omega),ai h.us fun k hm=>hk (h.ou k hm) (by omega),?_,
  ai h.os fun k hm=>hk (h.oo k hm) (by omega),ai h.ls fun k hm=>hk (h.ol k hm) (by omega),ai h.ts fun k hm=>hk (h.ox k hm) (by omega),
  h.ob,h.oa,h.ot,h.ou,h.oh,h.oo,h.ol,h.ox⟩
 have hu:=h.hs;rw [hq] at hu ⊢;have:=dL hu (j:=r) (by omega) (.int .i32 n);rw [Dy] at this
 simpa using this
theorem aF.Bh {w:World} {b:Nat} {K:KV} {T:List DM} {q:aA} (h:aF w b K T q) :
  aF (w.setCell ⟨b,7,none⟩ (.slice none 0 0)) b { K with trail:=[] } T { q with tv:=.slice none 0 0 }:=by
 have hne:∀ {k c},q.o k=c->c≠0->k≠b:=fun {k c} hk hc hm=>hc (by rw [<- hk,hm,h.ob])
 have hk:∀ {k c},q.o k=c->c≠0->(w.setCell ⟨b,7,none⟩ (.slice none 0 0)).heap[k]?=w.heap[k]?:=fun hk hc=>aG (hne hk hc)
 refine ⟨by rw [aB h.blk];rfl,h.ar.keep fun k hm=>hk (h.oa k hm) (by omega),h.tab.keep fun k hm=>hk (h.ot k hm) (by omega),ai h.us fun k hm=>hk (h.ou k hm) (by omega),
  ai h.hs fun k hm=>hk (h.oh k hm) (by omega),ai h.os fun k hm=>hk (h.oo k hm) (by omega),ai h.ls fun k hm=>hk (h.ol k hm) (by omega),World.ownsRow_nil _ _ _ _,
  h.ob,h.oa,h.ot,h.ou,h.oh,h.oo,h.ol,fun k hk=>by simp [Value.ownBlock] at hk⟩
theorem fK (b r:Nat) (K:KV) (T:List DM) (q:aA) (w:World) (h:aF w b K T q) (hr:r<=4294967295) :
  Calls Tryz.prog 108 #[.pointer (some ⟨b,0,none⟩),.int .u32 r] w fun e w'=>e=.returned (.bool (K.A.tk r))/\af [] w w':=by
 have Jc:w.cell? ⟨b,0,none⟩=some (.pointer (some ⟨q.a,0,none⟩)):=ae h.blk rfl;have HA:=Lib.hid h.ar;clear h
 cases ht:K.A.tk r with
 | false =>
  have HT:=Lib.hid ht;clear ht
  go_enter Tryz.func108,Tryz.ntmps108
  go_wp2_with fail;refine (aby q.a q.FA r K.A w HA.out hr HT.out).mono ?_;rintro e w1 ⟨rfl,hu⟩;have HU:=Lib.hid hu;clear hu;go_wp2_with fail;go_ret;exact ⟨rfl,HU.out.alloc _⟩
 | true =>
  obtain ⟨p,hp,aH⟩:=ag.aP.1 ht;have HP:=Lib.hid hp;have HT:=Lib.hid aH;clear ht hp aH
  go_enter Tryz.func108,Tryz.ntmps108
  go_wp2_with fail;refine (OB q.a q.FA r K.A p w HA.out hr HP.out HT.out).mono ?_;rintro e w1 ⟨rfl,hu⟩;have HU:=Lib.hid hu;clear hu;go_wp2_with fail;go_ret;exact ⟨rfl,HU.out.alloc _⟩
theorem alo {w1:World} {B:Nat} {x y z:Value} {t:TypeId} (h:w1.heap[B]?=some (.cells #[x,y,z] t (0,0))) (x' y' z':Value) (o:Obj) :
  ((((w1.setCell ⟨B,0,none⟩ x').setCell ⟨B,1,none⟩ y').setCell ⟨B,2,none⟩ z').alloc o).cell? ⟨B,0,none⟩=some x' /\
  ((((w1.setCell ⟨B,0,none⟩ x').setCell ⟨B,1,none⟩ y').setCell ⟨B,2,none⟩ z').alloc o).cell? ⟨B,1,none⟩=some y' /\
  ((((w1.setCell ⟨B,0,none⟩ x').setCell ⟨B,1,none⟩ y').setCell ⟨B,2,none⟩ z').alloc o).cell? ⟨B,2,none⟩=some z':=by
 have e:=aB (j:=2) (aB (j:=1) (aB (j:=0) h x') y') z';have e2:=(heap_alloc_old _ o (ah e)).trans e;exact ⟨ae e2 rfl,ae e2 rfl,ae e2 rfl⟩
theorem jL (b r:Nat) (K:KV) (T:List DM) (q:aA) (p:ak) (w:World) (h:aF w b K T q) (hr:r<=4294967295) (hp:K.A.list[r]?=some p) (aH:p.taken=true) :
  Calls Tryz.prog 109 #[.pointer (some ⟨b,0,none⟩),.int .u32 r] w fun e w'=>e=.returned (.agg #[.int .i64 p.var,.int .u32 p.lo,.int .u32 p.hi])/\af [] w w':=by
 have Jc:w.cell? ⟨b,0,none⟩=some (.pointer (some ⟨q.a,0,none⟩)):=ae h.blk rfl;have HA:=Lib.hid h.ar;have hb:=ah h.blk;have HP:=Lib.hid hp;have HT:=Lib.hid aH;clear h hp aH
 go_enter Tryz.func109,Tryz.ntmps109
 go_wp2_with fail;refine (OB q.a q.FA r K.A p _ (HA.out.upd ((af.refl [] w).alloc _) (by simp)) hr HP.out HT.out).mono ?_;rintro e w1 ⟨rfl,hu⟩;have aY:w1.heap[w.heap.size]?=some (.cells #[.int .i64 0,.int .u32 0,.int .u32 0] 116 (0,0)):=(hu.block w.heap.size (by simp) (by simp)).trans (heap_alloc_new w _);have b0:w1.cell? ⟨w.heap.size,0,none⟩=some (.int .i64 0):=ae aY rfl;have b1:w1.cell? ⟨w.heap.size,1,none⟩=some (.int .u32 0):=ae aY rfl;have b2:w1.cell? ⟨w.heap.size,2,none⟩=some (.int .u32 0):=ae aY rfl;have f0:=ax 0 aY;have f1:=ax 1 aY;have f2:=ax 2 aY;have hbw:=ah aY;have HX:=Lib.hid aY;have HU:Hid (af [] w w1):=((af.refl [] w).alloc _).trans (hu.mono (by simp));clear hu aY;go_wp2_with fail;obtain ⟨r0,r1,r2⟩:=alo HX.out (.int .i64 p.var) (.int .u32 p.lo) (.int .u32 p.hi) (.cells #[.int .i64 p.var,.int .u32 p.lo,.int .u32 p.hi] 116 (0,0));refine bodyPost_ret (v:=.agg #[.int .i64 p.var,.int .u32 p.lo,.int .u32 p.hi]) (by simp [results,Tryz.results109,go_sem,r0,r1,r2]) rfl ⟨rfl,?_⟩;exact (((HU.out.setCell (.inr (Nat.le_refl _)) _).setCell (.inr (Nat.le_refl _)) _).setCell (.inr (Nat.le_refl _)) _).alloc _
def KV.room (K:KV) (more:Int):Bool:=decide ((K.A.used:Int)+more<=(K.A.places:Int))
theorem Gj (b:Nat) (more:Int) (K:KV) (T:List DM) (q:aA) (w:World) (h:aF w b K T q) (hm0:0<=more) (hm:more<=1073741824) :
  Calls Tryz.prog 158 #[.pointer (some ⟨b,0,none⟩),.int .i64 more] w fun e w'=>e=.returned (.bool (K.room more))/\af [] w w':=by
 have Jc:w.cell? ⟨b,0,none⟩=some (.pointer (some ⟨q.a,0,none⟩)):=ae h.blk rfl;have HA:=Lib.hid h.ar;have h1:=h.ar.ok.us;have h2:=h.ar.ok.lp;have h3:=h.ar.ok.pm
 have hu:K.A.used<=1048576:=by omega
 have e1:IntKind.i64.wrap ((K.A.used:Int)+more)=(K.A.used:Int)+more:=IntWalk.i64_in _ (by omega);have hR:Hid (K.room more=decide ((K.A.used:Int)+more<=(K.A.places:Int))):=rfl;clear h h1 h2
 go_enter Tryz.func158,Tryz.ntmps158
 go_wp2_with fail
 go_quiet ((first | (go_at_call 95;exact Calls.quiet_of_same (((Fh q.a q.FA K.A _ (HA.out.upd ((af.refl [] w).drewN _) (by simp))).mono fun _ _ ⟨a,b⟩=>⟨a,b.symm⟩))) | (go_at_call 151;exact Calls.quiet_of_same (((zt q.a q.FA K.A _ (HA.out.upd ((af.refl [] w).drewN _) (by simp))).mono fun _ _ ⟨a,b⟩=>⟨a,b.symm⟩)))))
 go_wp2_with fail;go_ret;exact ⟨by rw [hR.out];rfl,(af.refl _ _).drewN _⟩
theorem aF.Bi {w:World} {b r:Nat} {K:KV} {T:List DM} {q:aA} (h:aF w b K T q) (hr:r<K.uses.length) :
  ∃ g c,q.uv=.slice (some ⟨g,0,none⟩) K.uses.length c/\w.cell? ⟨b,2,none⟩=some (.slice (some ⟨g,0,none⟩) K.uses.length c)/\w.cell? ⟨g,r,none⟩=some (.int .i32 (K.use r))/\w.frozen? ⟨g,r,none⟩=false/\g∈q.all b:=by
 have hu:=h.us;obtain ⟨g,c,hq,_,_⟩:=hu.form (by omega);refine ⟨g,c,hq,by rw [<- hq];exact ae h.blk rfl,?_,?_,aA.mem.2 (.inr (.inr (.inr (.inl (by rw [hq];rfl)))))⟩
 ·rw [hq] at hu
  refine au hu ?_
  simp [iL,KV.use,hr]
 ·rw [hq] at hu;exact aS hu r
theorem aF.qo {w:World} {b r:Nat} {K:KV} {T:List DM} {q:aA} (h:aF w b K T q) (hr:r<K.holds.length) :
  ∃ g c,q.hv=.slice (some ⟨g,0,none⟩) K.holds.length c/\w.cell? ⟨b,3,none⟩=some (.slice (some ⟨g,0,none⟩) K.holds.length c)/\w.cell? ⟨g,r,none⟩=some (.int .i32 (K.hold r))/\w.frozen? ⟨g,r,none⟩=false/\g∈q.all b:=by
 have hu:=h.hs;obtain ⟨g,c,hq,_,_⟩:=hu.form (by omega);refine ⟨g,c,hq,by rw [<- hq];exact ae h.blk rfl,?_,?_,aA.mem.2 (.inr (.inr (.inr (.inr (.inl (by rw [hq];rfl))))))⟩
 ·rw [hq] at hu
  refine au hu ?_
  simp [iL,KV.hold,hr]
 ·rw [hq] at hu;exact aS hu r
theorem V3 (b r:Nat) (K:KV) (T:List DM) (q:aA) (w:World) (h:aF w b K T q) (h2:2<=r) (hr:r<K.uses.length) (hb:K.use r+1<=2147483647) (oQ:r<=4294967295) :
  Calls Tryz.prog 162 #[.pointer (some ⟨b,0,none⟩),.int .u32 r] w fun e w'=>e=.returned (.tuple #[])/\aF w' b (K.Ii r) T q/\af (q.all b) w w':=by
 obtain ⟨g,c,hq,c2,cu,fu,hg⟩:=h.Bi hr;have hE:=And.intro (h.zg (n:=K.use r+1) hq hr) ((af.refl (q.all b) w).setCell (p:=⟨g,r,none⟩) (.inl hg) (.int .i32 ((K.use r+1:Nat))))
 simp only [Int.natCast_add,Int.cast_ofNat_Int] at hE
 have HE:=Lib.hid hE
 have hd:(1:Int)<(r:Int):=by omega
 have rF:(r:Int)<(K.uses.length:Int):=by omega
 have uP:K.uses.length<=9223372036854775807:=by have:=(kK (hq ▸ h.us)).2;unfold maxLen at this;omega
 clear h hq hE
 go_enter Tryz.func162,Tryz.ntmps162
 go_wp2_with fail;go_end0;exact ⟨rfl,HE.out⟩
theorem Rn (b r:Nat) (w:World) (h2:r<2) :
  Calls Tryz.prog 162 #[.pointer (some ⟨b,0,none⟩),.int .u32 r] w fun e w'=>e=.returned (.tuple #[])/\w=w':=by
 have hd:decide ((1:Int)<(r:Int))=false:=by simp;omega
 have wP:decide (1<r)=false:=by simp;omega
 go_enter Tryz.func162,Tryz.ntmps162
 go_wp2_with fail;go_end0;exact ⟨rfl,rfl⟩
def kG (p:ak):Lit:=nk p.var p.lo p.hi
structure dW (T:List DM) (K:KV) (X:List Nat):Prop where
 len:T.length=K.vars
 dom:∀ (v:Nat) (D:DM) (k:Lit),T[v]?=some D->Maps.has D k=true->∃ (r:Nat) (p:ak),2<=r/\K.A.list[r]?=some p/\p.taken=true/\p.var=(v:Int)/\k=kG p/\r∉X
 at_:∀ (r:Nat) (p:ak) (D:DM),2<=r->K.A.list[r]?=some p->p.taken=true->r∉X->T[p.var.toNat]?=some D->Maps.has D (kG p)=true/\∀ z,D.atKey (kG p) z=.lit (.int .u32 r)
 im:∀ (D:DM),D∈T->IsMap D
theorem Bj {K:KV} {P:List Nat} (h:K.Wf P) {r s:Nat} {p c:ak} (hr:2<=r) (hs:2<=s) (hp:K.A.list[r]?=some p) (hc:K.A.list[s]?=some c) (aH:p.taken=true) (lI:c.taken=true) (e:kG p=kG c) :
  p.var=c.var/\p.lo=c.lo/\p.hi=c.hi:=by
 have h1:=h.vr r p hr hp aH;have h2:=h.vr s c hs hc lI;have h3:=h.vs;have h4:=h.ok.u32 p (List.mem_of_getElem? hp);have h5:=h.ok.u32 c (List.mem_of_getElem? hc);exact tY (vw (by omega) (by omega)) (jw h4.1) (jw h4.2.1) (vw (by omega) (by omega)) (jw h5.1) (jw h5.2.1) e
theorem dW.uniq {T:List DM} {K:KV} {X P:List Nat} (h:dW T K X) (hw:K.Wf P) {r s:Nat} {p c:ak} (hr:2<=r) (hs:2<=s) (hp:K.A.list[r]?=some p) (hc:K.A.list[s]?=some c) (aH:p.taken=true) (lI:c.taken=true)
  (Yl:r∉X) (YJ:s∉X) (e:kG p=kG c):r=s:=by
 have hv:=h.len;have h1:=hw.vr r p hr hp aH;obtain ⟨e1,_,_⟩:=Bj hw hr hs hp hc aH lI e
 have hl:p.var.toNat<T.length:=by omega
 have hD:T[p.var.toNat]?=some T[p.var.toNat]:=List.getElem?_eq_getElem hl;have g1:=(h.at_ r p _ hr hp aH Yl hD).2 .nil;have g2:=(h.at_ s c _ hs hc lI YJ (by rw [<- e1];exact hD)).2 .nil;rw [e,g2] at g1
 simp at g1
 omega
theorem dW.size {T:List DM} {K:KV} {X P:List Nat} (h:dW T K X) (hw:K.Wf P) {v:Nat} {D:DM} (hv:T[v]?=some D) (hc:Maps.Canon D) (ht:Tidy D):Maps.size D<=1048576:=by
 have:=gm hc (ks:=K.A.list.map kG) (fun k hk=>by
  obtain ⟨r,p,_,hp,_,_,rfl,_⟩:=h.dom v D k hv hk
  exact List.mem_map.2 ⟨p,List.mem_of_getElem? hp,rfl⟩) ht
 have h2:=hw.ok.lp;have h3:=hw.ok.pm
 simp at this
 omega
theorem dW.same {T:List DM} {K K':KV} {X:List Nat} (h:dW T K X) (hA:K'.A=K.A) (hv:K'.vars=K.vars):dW T K' X :=
 ⟨by rw [hv];exact h.len,by rw [hA];exact h.dom,by rw [hA];exact h.at_,h.im⟩
theorem dW.gone {T:List DM} {K:KV} {P:List Nat} (h:dW T K []) (hw:K.Wf P) {r v:Nat} {p:ak} {D:DM} (hr:2<=r) (hp:K.A.list[r]?=some p) (aH:p.taken=true) (hv:p.var=(v:Int)) (hD:T[v]?=some D) :
  dW (T.set v (D.del (kG p))) (K.gone r) []:=by
 have gK:=(List.getElem?_eq_some_iff.1 hD).1;have aW:=(List.getElem?_eq_some_iff.1 hp).1;refine ⟨by simpa [KV.gone] using h.len,?_,?_,?_⟩
 ·intro u D2 k hu hk
  have key:∀ (s:Nat) (c:ak),2<=s->K.A.list[s]?=some c->c.taken=true->s≠r->(K.gone r).A.list[s]?=some c:=by
   intro s c _ hc _ hne
   simp only [KV.gone,ag.drop]
   rw [List.getElem?_set_ne (Ne.symm hne)];exact hc
  by_cases e:u=v
  ·subst e
   rw [List.getElem?_set_self gK] at hu;cases hu
   by_cases e2:k=kG p
   ·subst e2;rw [has_del_same] at hk;cases hk
   ·rw [has_del_other e2] at hk
    obtain ⟨s,c,h1,h2,h3,h4,h5,h6⟩:=h.dom u D k hD hk;refine ⟨s,c,h1,key s c h1 h2 h3 ?_,h3,h4,h5,by simp⟩;rintro rfl
    rw [hp] at h2;cases h2;exact e2 h5
  ·rw [List.getElem?_set_ne (Ne.symm e)] at hu
   obtain ⟨s,c,h1,h2,h3,h4,h5,h6⟩:=h.dom u D2 k hu hk;refine ⟨s,c,h1,key s c h1 h2 h3 ?_,h3,h4,h5,by simp⟩;rintro rfl
   rw [hp] at h2;cases h2
   rw [hv] at h4;omega
 ·intro s c D2 hs hc lI _ qA
  have hne:s≠r:=by
   rintro rfl
   simp only [KV.gone,ag.drop] at hc
   rw [List.getElem?_set_self aW] at hc;cases hc;simp [ak.zero] at lI
  simp only [KV.gone,ag.drop] at hc
  rw [List.getElem?_set_ne (Ne.symm hne)] at hc
  by_cases e:c.var.toNat=v
  ·rw [e,List.getElem?_set_self gK] at qA;cases qA
   have hk:kG c≠kG p:=fun e2=>hne (h.uniq hw hs hr hc hp lI aH (by simp) (by simp) e2)
   obtain ⟨g1,g2⟩:=h.at_ s c D hs hc lI (by simp) (by rw [e];exact hD);rw [has_del_other hk];exact ⟨g1,fun z=>by rw [atKey_del_other hk];exact g2 z⟩
  ·rw [List.getElem?_set_ne (Ne.symm e)] at qA
   exact h.at_ s c D2 hs hc lI (by simp) qA
 ·intro D2 qA
  rcases List.mem_or_eq_of_mem_set qA with h1 | rfl
  ·exact h.im D2 h1
  ·exact (h.im D (List.mem_of_getElem? hD)).del _
structure KV.Le (K' K:KV):Prop where
 nd:∀ (r:Nat) (p:ak),K'.A.list[r]?=some p->p.taken=true->K.A.list[r]?=some p
 pl:K'.A.places=K.A.places
 us:K'.A.used<=K.A.used
 hd:K'.holds=K.holds
 vr:K'.vars=K.vars
 od:K'.order=K.order
 lv:K'.level=K.level
 tr:K'.trail=K.trail
theorem KV.Le.refl (K:KV):K.Le K:=⟨fun _ _ h _=>h,rfl,Nat.le_refl _,rfl,rfl,rfl,rfl,rfl⟩
theorem KV.Le.trans {A B C:KV} (h:A.Le B) (k:B.Le C):A.Le C :=
 ⟨fun r p h1 h2=>k.nd r p (h.nd r p h1 h2) h2,h.pl.trans k.pl,Nat.le_trans h.us k.us,h.hd.trans k.hd,h.vr.trans k.vr,h.od.trans k.od,h.lv.trans k.lv,h.tr.trans k.tr⟩
theorem KV.Zb (K:KV) (r:Nat):(K.less r).Le K:=⟨fun _ _ h _=>h,rfl,Nat.le_refl _,rfl,rfl,rfl,rfl,rfl⟩
theorem KV.Zc (K:KV) (r:Nat):(K.gone r).Le K:=by
 refine ⟨fun s p h ht=>?_,rfl,by simp [KV.gone,ag.drop],rfl,rfl,rfl,rfl,rfl⟩
 simp only [KV.gone,ag.drop] at h
 by_cases e:s=r
 ·subst e
  by_cases hl:s<K.A.list.length
  ·rw [List.getElem?_set_self hl] at h;cases h;simp [ak.zero] at ht
  ·rw [List.getElem?_eq_none (by simpa using hl)] at h;cases h
 ·rw [List.getElem?_set_ne (Ne.symm e)] at h;exact h
theorem KV.Pos.less {K:KV} {P:List Nat} {r:Nat} (h:K.Pos) (hw:K.Wf (r::P)) (hr:2<=r) (hu:1<K.use r):(K.less r).Pos:=by
 intro s hs ht
 show 0<(K.uses.set r (K.use r-1)).getD s 0
 rw [eQ (hw.tu r hr (hw.pt r (by simp)))];split
 ·omega
 ·exact h s hs ht
theorem KV.Pos.gone {K:KV} {P:List Nat} {r:Nat} (h:K.Pos) (hw:K.Wf (r::P)) (hr:2<=r):(K.gone r).Pos:=by
 intro s hs ht
 have hl:=hw.tu r hr (hw.pt r (by simp));have aW:=ag.iZ (hw.pt r (by simp))
 show 0<(K.uses.set r 0).getD s 0
 rw [eQ hl]
 have:(K.gone r).A.tk s=if s=r then false else K.A.tk s:=O6 aW
 rw [this] at ht
 split at ht
 ·cases ht
 ·rename_i e
  rw [if_neg e];exact h s hs ht
end Go.Proofs.YtfkopmhpppeheaaGreat
