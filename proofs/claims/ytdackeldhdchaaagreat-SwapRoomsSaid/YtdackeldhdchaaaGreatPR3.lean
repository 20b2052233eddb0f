import Derived.Test.YtdackeldhdchaaaGreatPR1
import Derived.Test.YtdackeldhdchaaaGreatPR2
set_option maxRecDepth 100000
set_option maxHeartbeats 800000
namespace Go.Proofs.YtdackeldhdchaaaGreat
open Go.RowKit
theorem ag.ownE_ok {A:ag} {r:Nat} (h2:2<=r) (ht:A.tk r=true):A.ownE r=0:=by simp [ag.ownE,h2,ht]
theorem rW {w:World} {e:TypeId} {l n' c n r:Nat} {L:List au} {p:au} (h6:w.ownsRow 0 e 5 (.slice (some ⟨l,0,none⟩) n' c) n (aO L)) (hp:L[r]?=some p) :
    w.cell? ⟨l,r * 5,none⟩=some (.int .i64 p.var)∧w.cell? ⟨l,r * 5 + 1,none⟩=some (.int .u32 p.lo)∧w.cell? ⟨l,r * 5 + 2,none⟩=some (.int .u32 p.hi) ∧
    w.cell? ⟨l,r * 5 + 3,none⟩=some (.bool p.taken)∧w.cell? ⟨l,r * 5 + 4,none⟩=some (.int .u8 p.count) ∧
    w.frozen? ⟨l,r * 5,none⟩=false∧w.frozen? ⟨l,r * 5 + 1,none⟩=false∧w.frozen? ⟨l,r * 5 + 2,none⟩=false∧w.frozen? ⟨l,r * 5 + 3,none⟩=false∧w.frozen? ⟨l,r * 5 + 4,none⟩=false :=
  ⟨ax h6 (j:=r * 5 + 0) (by rw [dE _ _ _ (by omega),hp]; rfl),ax h6 (by rw [dE _ _ _ (by omega),hp]; rfl),ax h6 (by rw [dE _ _ _ (by omega),hp]; rfl),
   ax h6 (by rw [dE _ _ _ (by omega),hp]; rfl),ax h6 (by rw [dE _ _ _ (by omega),hp]; rfl),aS h6 _,aS h6 _,aS h6 _,aS h6 _,aS h6 _⟩
theorem IM {w:World} {b l lc r:Nat} {F:List Nat} {fv:Value} {A:ag}
  (h5:w.heap[b]?=some (.cells #[.int .i64 A.places,.slice (some ⟨l,0,none⟩) A.list.length lc,fv,.int .i64 A.used] 235 (0,0)))
  (h6:w.ownsRow 0 267 5 (.slice (some ⟨l,0,none⟩) A.list.length lc) A.list.length (aO A.list)) (aZ:r<A.list.length)
  (hF:F=[b,l]++fv.ownBlock.toList) (jk:b≠l) (uA:some b≠fv.ownBlock) (nS:some l≠fv.ownBlock) :
  ∀ w2,((set5 w l r au.zero).alloc (.cells #[.int .u32 r] 77 (0,0))).grownBy w2 fv.ownBlock ->
   w2.frozen? ⟨b,2,none⟩=false/\w2.cell? ⟨b,2,none⟩=some fv/\w2.cell? ⟨b,3,none⟩=some (.int .i64 A.used)/\w2.frozen? ⟨b,3,none⟩=false /\
   Hid (af F w w2/\w2.heap[b]?=some (.cells #[.int .i64 A.places,.slice (some ⟨l,0,none⟩) A.list.length lc,fv,.int .i64 A.used] 235 (0,0)) /\
    w2.ownsRow 0 267 5 (.slice (some ⟨l,0,none⟩) A.list.length lc) A.list.length (aO (A.list.set r au.zero))):=by
 intro w2 hg
 have hb:=aj h5;have hl:=(h6.lt _ rfl).2
 have mi:w2.heap[b]?=w.heap[b]?:=by
  rw [hg.block b (by rw [World.size_alloc,kD];omega) uA,heap_alloc_old _ _ (by rw [kD];exact hb)];exact Oi jk
 rw [h5] at mi;have hu:af F w (set5 w l r au.zero):=(af.refl F w).set5 (by simp [hF]) _ _;refine ⟨ak 2 mi,ae mi rfl,ae mi rfl,ak 3 mi,(hu.alloc _).grown hg ?_,mi,?_⟩
 ·intro k hk;left;simp [hF,hk]
 ·exact ((yD h6 aZ au.zero).alloc _).kept hg (.inr (by simpa [Value.ownBlock] using nS))
theorem MK {w w2:World} {b l lc g cap r:Nat} {F:List Nat} {fv:Value} {A:ag} {X:Obj}
  (aJ:w2.ownsRow 0 77 1 (.slice (some ⟨g,0,none⟩) (A.free.length+1) cap) (A.free.length+1) (aN A.free++[.int .u32 r]))
  (bI:fv.ownBlock=some g\/g=((set5 w l r au.zero).alloc X).heap.size)
  (hu:af F w w2) (h5:w2.heap[b]?=some (.cells #[.int .i64 A.places,.slice (some ⟨l,0,none⟩) A.list.length lc,fv,.int .i64 A.used] 235 (0,0)))
  (h6:w2.ownsRow 0 267 5 (.slice (some ⟨l,0,none⟩) A.list.length lc) A.list.length (aO (A.list.set r au.zero)))
  (hF:F=[b,l]++fv.ownBlock.toList) (jk:b≠l) (uA:some b≠fv.ownBlock) (nS:some l≠fv.ownBlock) (hs:b<w.heap.size) (QA:l<w.heap.size) (h1:1<=A.used) (dY:(A.drop r).Ok) :
  ∃ F',aU ((w2.setCell ⟨b,2,none⟩ (.slice (some ⟨g,0,none⟩) (A.free.length+1) cap)).setCell ⟨b,3,none⟩ (.int .i64 (A.used-1))) b (A.drop r) F' /\
   af F w ((w2.setCell ⟨b,2,none⟩ (.slice (some ⟨g,0,none⟩) (A.free.length+1) cap)).setCell ⟨b,3,none⟩ (.int .i64 (A.used-1)))/\Sub F w F':=by
 rw [World.size_alloc,kD] at bI
 have DD:b≠g:=by
  rcases bI with h | h
  ·rintro rfl;exact uA h.symm
  ·omega
 have hlg:l≠g:=by
  rcases bI with h | h
  ·rintro rfl;exact nS h.symm
  ·omega
 have Lc:aN (A.drop r).free=aN A.free++[.int .u32 r]:=by simp [ag.drop,aN]
 have hlen:(A.drop r).free.length=A.free.length+1:=by simp [ag.drop]
 refine ⟨[b,l,g],⟨⟨l,lc,.slice (some ⟨g,0,none⟩) (A.free.length+1) cap,?_,?_,?_,by simp [Value.ownBlock],jk,by simpa [Value.ownBlock] using DD,by simpa [Value.ownBlock] using hlg⟩,dY⟩,?_,?_⟩
 ·have e1:=aF (j:=3) (aF (j:=2) h5 (.slice (some ⟨g,0,none⟩) (A.free.length+1) cap)) (.int .i64 (A.used-1))
  rw [e1]
  simp [ag.drop]
  omega
 ·rw [show (A.drop r).list.length=A.list.length by simp [ag.drop]]
  have H8:∀ j:Nat,some (⟨b,j,none⟩ : Addr).block≠(Value.slice (some ⟨l,0,none⟩) A.list.length lc).ownBlock:=by intro j;simpa [Value.ownBlock] using jk
  exact aV (aV h6 (H8 2) _) (H8 3) _
 ·rw [hlen,Lc]
  have H8:∀ j:Nat,some (⟨b,j,none⟩ : Addr).block≠(Value.slice (some ⟨g,0,none⟩) (A.free.length+1) cap).ownBlock:=by intro j;simpa [Value.ownBlock] using DD
  exact aV (aV aJ (H8 2) _) (H8 3) _
 ·exact (hu.setCell (by simp [hF]) _).setCell (by simp [hF]) _
 ·intro k hk
  simp at hk
  rcases hk with rfl | rfl | rfl
  ·simp [hF]
  ·simp [hF]
  ·rcases bI with h | h
   ·left;simp [hF,h]
   ·right;omega
theorem PG (b:Nat) (F:List Nat) (r:Nat) (A:ag) (w:World) (h:aU w b A F) (jr:r<=4294967295) (h2:2<=r) (ht:A.tk r=true) :
  Calls Tryz.prog 153 #[.pointer (some ⟨b,0,none⟩),.int .u32 r] w fun e w'=>e=.returned (.int .i64 0)/\∃ F',aU w' b (A.drop r) F'/\af F w w'/\Sub F w F':=by
 have HO:=Lib.hid (ag.ownE_ok h2 ht);have Jr:=Lib.hid (h.ok.drop ht h2);have dY:=h.ok;obtain ⟨p,hp,_⟩:=ag.tk_iff.1 ht;have aZ:=(List.getElem?_eq_some_iff.1 hp).1;clear ht;obtain ⟨l,lc,fv,h5,h6,h7,xP,jk,uA,nS⟩:=h.cells;have JG:=dY.pm;have Jf:=dY.lp;have sS:=dY.us
 have Rq:A.free.length<=1048576:=by omega
 have hu:A.used<=1048576:=by omega
 have fF:1<=A.used:=by have:=Jr.out.us;have:=Jr.out.l2;simp [ag.drop] at *;omega
 obtain ⟨fa,fc,jM,_⟩:=aC h7;subst jM;have hb:=aj h5;have hl:=(h6.lt _ rfl).2;have zJ:w.cell? ⟨b,1,none⟩=some (.slice (some ⟨l,0,none⟩) A.list.length lc):=ae h5 rfl;have xG:w.cell? ⟨b,2,none⟩=some (.slice fa A.free.length fc):=ae h5 rfl;obtain ⟨g0,g1,g2,g3,g4,z0,z1,z2,z3,z4⟩:=rW h6 hp;have H5:=Lib.hid h5;have H6:=Lib.hid h6;have H7:=Lib.hid h7;have HF:=Lib.hid xP;have HW:=Lib.hid (aV (aV (aV (aV (aV h7 (a:=⟨l,r*5,none⟩) nS (.int .i64 0)) (a:=⟨l,r*5+1,none⟩) nS (.int .u32 0)) (a:=⟨l,r*5+2,none⟩) nS (.int .u32 0)) (a:=⟨l,r*5+3,none⟩) nS (.bool false)) (a:=⟨l,r*5+4,none⟩) nS (.int .u8 0));clear h5 h6 h7 xP sS dY hp;obtain ⟨i,oZ,pW,jF,dX⟩:=info_parts Tryz.infoRef;have HI:=Lib.hid oZ;have HZ:=Lib.hid pW;have BF:=Lib.hid jF;have Gj:=Lib.hid dX;clear oZ pW jF dX
 go_enter Tryz.func153,Tryz.ntmps153
 go_wp2_with fail;refine (Bj b F r A _ h jr).mono ?_
 rintro e w' ⟨rfl,rfl⟩;rw [HO.out]
 have xW:Hid (∀ u,u∈[Value.int .u32 r]->u.oneCell'=true):=by intro u hu;simp at hu;subst hu;rfl
 have HK:=Lib.hid (IM H5.out H6.out aZ HF.out jk uA nS)
 go_wp2_with (at_builtin;go_must (refine wpList_append_lies _ rfl (.tmp 25) (.tmp 27) 42 rfl 0 77 i _ 1 4 Tryz.underlying42 HI.out HZ.out BF.out Gj.out (by rfl) (by decide) _ A.free.length (aN A.free) rfl (HW.out.alloc _) ⟨w.heap.size,0,none⟩ 1 1 [.int .u32 r] rfl rfl ?c1 xW.out (by omega) (by unfold maxLen;omega) (by omega) (by omega) _ rfl ?_))
 case c1 =>
  have:=World.news_of_block (heap_alloc_new (set5 w l r au.zero) (.cells #[.int .u32 r] 77 (0,0)));rw [kD] at this;exact this
 intro g cap w2 aJ bU bI qh
 obtain ⟨k1,k2,k3,k4,k5⟩:=HK.out w2 bU;have HX:=Lib.hid (And.intro aJ bI);clear aJ bU bI;go_wp2_with fail;go_ret;refine ⟨rfl,?_⟩;obtain ⟨y1,y2⟩:=HX.out;obtain ⟨z1,z2,z3⟩:=k5.out;exact MK y1 (X:=.cells #[.int .u32 r] 77 (0,0)) (by rw [World.size_alloc,kD];exact y2) z1 z2 z3 HF.out jk uA nS hb hl (by omega) Jr.out
def Dh (k:Nat):au:=⟨-1,k,k,true,255⟩
def lF (k:Nat):List Value:=aO ((List.range k).map Dh)
theorem Au (k:Nat):lF (k+1)=lF k++[.int .i64 (-1),.int .u32 k,.int .u32 k,.bool true,.int .u8 255]:=by
 simp [lF,List.range_succ,aO,au.flat,Dh]
def Aw (w:World) (n:Nat) (i:Value) (wr:World):Prop:=∃ k v,k<=2/\i=.int .u32 (k:Nat) /\
 wr.heap[w.heap.size]?=some (.cells #[.int .i64 n,v,.slice none 0 0,.int .i64 2] 235 (0,0)) /\
 wr.ownsRow (w.heap.size+1) 267 5 v k (lF k)/\af [] w wr
theorem IP (w:World) (n:Nat):Aw w n (.int .u32 0) (w.alloc (.cells #[.int .i64 n,.slice none 0 0,.slice none 0 0,.int .i64 2] 235 (0,0))) :=
 ⟨0,.slice none 0 0,by omega,rfl,heap_alloc_new w _,World.ownsRow_nil _ _ _ _,(af.refl _ _).alloc _⟩
theorem ML {w wr:World} {n k:Nat} {v:Value} {X:Obj} (h5:wr.heap[w.heap.size]?=some (.cells #[.int .i64 n,v,.slice none 0 0,.int .i64 2] 235 (0,0)))
  (h6:wr.ownsRow (w.heap.size+1) 267 5 v k (lF k)) (hu:af [] w wr):∀ w2,(wr.alloc X).grownBy w2 v.ownBlock ->
  w2.cell? ⟨w.heap.size,1,none⟩=some v/\w2.frozen? ⟨w.heap.size,1,none⟩=false/\Hid (af [] w w2/\w2.heap[w.heap.size]?=some (.cells #[.int .i64 n,v,.slice none 0 0,.int .i64 2] 235 (0,0))):=by
 intro w2 hg
 have hb:=aj h5
 have mi:w2.heap[w.heap.size]?=wr.heap[w.heap.size]?:=by
  rw [hg.block _ (by simp;omega) (fun e=>by have:=(h6.lt _ e.symm).1;omega)];exact heap_alloc_old wr _ hb
 rw [h5] at mi;exact ⟨ae mi rfl,ak 1 mi,(hu.alloc _).grown hg (fun k hk=>.inr (by have:=(h6.lt _ hk).1;omega)),mi⟩
theorem MN {w w2:World} {n k g cap:Nat} {v:Value} (hk:k<2) (aJ:w2.ownsRow (w.heap.size+1) 267 5 (.slice (some ⟨g,0,none⟩) (k+1) cap) (k+1) (lF k++[.int .i64 (-1),.int .u32 k,.int .u32 k,.bool true,.int .u8 255]))
  (hu:af [] w w2) (h5:w2.heap[w.heap.size]?=some (.cells #[.int .i64 n,v,.slice none 0 0,.int .i64 2] 235 (0,0))) :
  Aw w n (.int .u32 (k+1:Nat)) (w2.setCell ⟨w.heap.size,1,none⟩ (.slice (some ⟨g,0,none⟩) (k+1) cap)):=by
 refine ⟨k+1,.slice (some ⟨g,0,none⟩) (k+1) cap,by omega,rfl,?_,?_,hu.setCell (.inr (Nat.le_refl _)) _⟩
 ·rw [aF h5];rfl
 ·rw [Au]
  have hg:=(aJ.lt g rfl).1;exact aV aJ (by simp [Value.ownBlock];omega) _
theorem PH {w wr:World} {n:Nat} (hn:(ag.new n).Ok) (h:Aw w n (.int .u32 2) wr):∃ F,aU wr w.heap.size (ag.new n) F/\af [] w wr/\Sub [] w F:=by
 obtain ⟨k,v,hk,hi,h5,h6,hu⟩:=h
 have:k=2:=by simp at hi;omega
 subst this;obtain ⟨g,cap,rfl,hb,_⟩:=h6.form (by omega);refine ⟨[w.heap.size,g],⟨⟨g,cap,.slice none 0 0,h5,bW h6 (by omega),World.ownsRow_nil _ _ _ _,by simp [Value.ownBlock],by omega,by simp [Value.ownBlock],by simp [Value.ownBlock]⟩,hn⟩,hu,?_⟩
 intro k hk
 simp at hk
 right;omega
theorem MO (n:Nat) (w:World) (h2:2<=n) (hm:n<=1048576) :
  Calls Tryz.prog 141 #[.int .i64 n] w fun e w'=>∃ b F,e=.returned (.tuple #[.pointer (some ⟨b,0,none⟩),.int .i64 0])/\aU w' b (ag.new n) F/\af [] w w'/\Sub [] w F:=by
 have HN:=Lib.hid (ag.new_ok h2 hm)
 have hd:decide ((n:Int)<2)=false:=by simp;omega
 have qF:decide ((1048576:Int)<(n:Int))=false:=by simp;omega
 obtain ⟨i,oZ,pW,jF,dX⟩:=info_parts Tryz.infoPlace;have HI:=Lib.hid oZ;have HZ:=Lib.hid pW;have BF:=Lib.hid jF;have Gj:=Lib.hid dX;clear oZ pW jF dX
 go_enter Tryz.func141,Tryz.ntmps141
 go_wp2
 go_loopw [15] (fun i wr=>Aw w n i wr) (fun i _=>2-(intOf i).toNat)
 case atStart=>exact IP w n
 case round =>
  obtain ⟨k,v,hk,rfl,h5,h6,hu⟩:=hrel
  by_cases aZ:k<2
  ·have zJ:wr.cell? ⟨w.heap.size,1,none⟩=some v:=ae h5 rfl
   obtain ⟨va,vc,hv,_⟩:=aC h6;subst hv;have H5:=Lib.hid h5;have H6:=Lib.hid h6;have HU:=Lib.hid hu;have HK:=Lib.hid (ML (X:=.cells #[.int .i64 (-1),.int .u32 k,.int .u32 k,.bool true,.int .u8 255] 267 (0,0)) h5 h6 hu);clear h5 h6 hu
   have xW:Hid (∀ u,u∈[Value.int .i64 (-1),.int .u32 k,.int .u32 k,.bool true,.int .u8 255]->u.oneCell'=true):=by intro u hu;simp at hu;rcases hu with rfl | rfl | rfl | rfl | rfl <;> rfl
   go_wp2_with (at_builtin;go_must (refine wpList_append_lies _ rfl (.tmp 22) (.tmp 27) 233 rfl (w.heap.size+1) 267 i _ 5 24 Tryz.underlying233 HI.out HZ.out BF.out Gj.out (by rfl) (by decide) _ k (lF k) rfl (H6.out.alloc _) ⟨wr.heap.size,0,none⟩ 1 1 [.int .i64 (-1),.int .u32 k,.int .u32 k,.bool true,.int .u8 255] rfl rfl ?c1 xW.out (by omega) (by unfold maxLen;omega) (by omega) (by have:=HU.out.size;have:=(aj H5.out);simp;omega) _ rfl ?_))
   case c1=>exact World.news_of_block (heap_alloc_new wr _)
   intro g cap w2 aJ bU bI qh
   obtain ⟨k1,k2,k3⟩:=HK.out w2 bU;have HX:=Lib.hid (And.intro aJ bI);clear aJ bU bI;go_wp2_with fail
   go_roundw
   case rel=>exact MN aZ HX.out.1 k3.out.1 k3.out.2
   case measure=>simp [intOf];omega
  ·have:k=2:=by omega
   subst this;have HE:=Lib.hid (PH HN.out ⟨2,v,by omega,rfl,h5,h6,hu⟩);clear h5 h6 hu
   go_wp2
   go_ret2;obtain ⟨F,q⟩:=HE.out;exact ⟨_,F,rfl,q⟩
end Go.Proofs.YtdackeldhdchaaaGreat
namespace Go.Proofs.YtdackeldhdchaaaGreat
open Go.RowKit Go.Maps Go.ChangeMaps Go.WideShapes
def fB (l:List Nat):List Value:=l.map fun (n:Nat)=>Value.int .i32 n
structure aA where
 a:Nat
 t:Nat
 uv:Value
 hv:Value
 ov:Value
 lv:Value
 tv:Value
 FA:List Nat
 FT:List Nat
 o:Nat->Nat
def aA.all (q:aA) (b:Nat):List Nat:=b::(q.FA++(q.FT++(q.uv.ownBlock.toList++(q.hv.ownBlock.toList++(q.ov.ownBlock.toList++(q.lv.ownBlock.toList++q.tv.ownBlock.toList))))))
structure ay (w:World) (b:Nat) (K:KV) (T:List DM) (q:aA):Prop where
 blk:w.heap[b]?=some (.cells #[.pointer (some ⟨q.a,0,none⟩),.pointer (some ⟨q.t,0,none⟩),q.uv,q.hv,.int .i64 K.vars,q.ov,q.lv,q.tv] 165 (0,0))
 ar:aU w q.a K.A q.FA
 tab:dC w q.t T q.FT
 us:w.ownsRow 0 21 1 q.uv K.uses.length (fB K.uses)
 hs:w.ownsRow 0 21 1 q.hv K.holds.length (fB K.holds)
 os:w.ownsRow 0 3 1 q.ov K.order.length (aK K.order)
 ls:w.ownsRow 0 3 1 q.lv K.level.length (aK K.level)
 ts:w.ownsRow 0 3 1 q.tv K.trail.length (aK K.trail)
 ob:q.o b=0
 oa:∀ k,k∈q.FA->q.o k=1
 ot:∀ k,k∈q.FT->q.o k=2
 ou:∀ k,q.uv.ownBlock=some k->q.o k=3
 oh:∀ k,q.hv.ownBlock=some k->q.o k=4
 oo:∀ k,q.ov.ownBlock=some k->q.o k=5
 ol:∀ k,q.lv.ownBlock=some k->q.o k=6
 ox:∀ k,q.tv.ownBlock=some k->q.o k=7
theorem aA.mem {q:aA} {b k:Nat}:k∈q.all b↔k=b\/k∈q.FA\/k∈q.FT\/q.uv.ownBlock=some k\/q.hv.ownBlock=some k\/q.ov.ownBlock=some k\/q.lv.ownBlock=some k\/q.tv.ownBlock=some k:=by
 simp [aA.all]
theorem ay.lt {w:World} {b:Nat} {K:KV} {T:List DM} {q:aA} (h:ay w b K T q):∀ k,k∈q.all b->k<w.heap.size:=by
 intro k hk
 rcases aA.mem.1 hk with rfl | hk | hk | hk | hk | hk | hk | hk
 ·exact aj h.blk
 ·exact h.ar.lt k hk
 ·exact h.tab.lt k hk
 ·exact (h.us.lt k hk).2
 ·exact (h.hs.lt k hk).2
 ·exact (h.os.lt k hk).2
 ·exact (h.ls.lt k hk).2
 ·exact (h.ts.lt k hk).2
theorem ay.keep {w w':World} {b:Nat} {K:KV} {T:List DM} {q:aA} (h:ay w b K T q) (hk:∀ k,k∈q.all b→w'.heap[k]?=w.heap[k]?):ay w' b K T q :=
  ⟨by rw [hk b (aA.mem.2 (.inl rfl))]; exact h.blk,h.ar.keep fun k hm=>hk k (aA.mem.2 (.inr (.inl hm))),h.tab.keep fun k hm=>hk k (aA.mem.2 (.inr (.inr (.inl hm)))),
   ah h.us fun k hm=>hk k (aA.mem.2 (.inr (.inr (.inr (.inl hm))))),ah h.hs fun k hm=>hk k (aA.mem.2 (.inr (.inr (.inr (.inr (.inl hm)))))),
   ah h.os fun k hm=>hk k (aA.mem.2 (.inr (.inr (.inr (.inr (.inr (.inl hm))))))),ah h.ls fun k hm=>hk k (aA.mem.2 (.inr (.inr (.inr (.inr (.inr (.inr (.inl hm)))))))),
   ah h.ts fun k hm=>hk k (aA.mem.2 (.inr (.inr (.inr (.inr (.inr (.inr (.inr hm)))))))),h.ob,h.oa,h.ot,h.ou,h.oh,h.oo,h.ol,h.ox⟩
theorem ay.upd {w w':World} {b:Nat} {K:KV} {T:List DM} {q:aA} {S:List Nat} (h:ay w b K T q) (u:af S w w') (hd:∀ k,k∈q.all b->k∉S):ay w' b K T q :=
 h.keep fun k hk=>u.block k (h.lt k hk) (hd k hk)
def bP (q:aA) (n c:Nat):Nat->Nat:=fun k=>if n<=k then c else q.o k
theorem aT {q:aA} {n c k:Nat} (h:k<n):bP q n c k=q.o k:=by unfold bP;rw [if_neg (by omega)]
theorem IQ {q:aA} {n c k:Nat} {F:List Nat} (hF:∀ k,k∈F->q.o k=c) (h:k∈F\/n<=k):bP q n c k=c:=by
 unfold bP;split
 ·rfl
 ·rcases h with h | h
  ·exact hF k h
  ·omega
theorem ay.arena {w w':World} {b:Nat} {K:KV} {T:List DM} {q:aA} {A':ag} {F':List Nat} (h:ay w b K T q) (ha:aU w' q.a A' F') (hu:af q.FA w w') (hs:Sub q.FA w F') :
  ay w' b { K with A:=A' } T { q with FA:=F',o:=bP q w.heap.size 1 }:=by
 have hne:∀ {k c},q.o k=c->c≠1->k∉q.FA:=fun {k c} hk hc hm=>hc (hk ▸ h.oa k hm)
 have hb:=aj h.blk
 refine ⟨by rw [hu.block b hb (hne h.ob (by omega))];exact h.blk,ha,h.tab.upd hu fun k hk=>hne (h.ot k hk) (by omega),
  ah h.us fun k hk=>hu.block k (h.us.lt k hk).2 (hne (h.ou k hk) (by omega)),ah h.hs fun k hk=>hu.block k (h.hs.lt k hk).2 (hne (h.oh k hk) (by omega)),
  ah h.os fun k hk=>hu.block k (h.os.lt k hk).2 (hne (h.oo k hk) (by omega)),ah h.ls fun k hk=>hu.block k (h.ls.lt k hk).2 (hne (h.ol k hk) (by omega)),
  ah h.ts fun k hk=>hu.block k (h.ts.lt k hk).2 (hne (h.ox k hk) (by omega)),?_,?_,?_,?_,?_,?_,?_,?_⟩
 ·show bP q _ 1 b=0
  rw [aT hb];exact h.ob
 ·intro k hk;exact IQ h.oa (hs k hk)
 ·intro k hk;show bP q _ 1 k=2;rw [aT (h.tab.lt k hk)];exact h.ot k hk
 ·intro k hk;show bP q _ 1 k=3;rw [aT (h.us.lt k hk).2];exact h.ou k hk
 ·intro k hk;show bP q _ 1 k=4;rw [aT (h.hs.lt k hk).2];exact h.oh k hk
 ·intro k hk;show bP q _ 1 k=5;rw [aT (h.os.lt k hk).2];exact h.oo k hk
 ·intro k hk;show bP q _ 1 k=6;rw [aT (h.ls.lt k hk).2];exact h.ol k hk
 ·intro k hk;show bP q _ 1 k=7;rw [aT (h.ts.lt k hk).2];exact h.ox k hk
theorem ay.table {w w':World} {b:Nat} {K:KV} {T T':List DM} {q:aA} (h:ay w b K T q) (ha:dC w' q.t T' q.FT) (hu:af q.FT w w'):ay w' b K T' q:=by
 have hne:∀ {k c},q.o k=c->c≠2->k∉q.FT:=fun {k c} hk hc hm=>hc (hk ▸ h.ot k hm)
 have hb:=aj h.blk
 exact ⟨by rw [hu.block b hb (hne h.ob (by omega))];exact h.blk,h.ar.upd hu fun k hk=>hne (h.oa k hk) (by omega),ha,
  ah h.us fun k hk=>hu.block k (h.us.lt k hk).2 (hne (h.ou k hk) (by omega)),ah h.hs fun k hk=>hu.block k (h.hs.lt k hk).2 (hne (h.oh k hk) (by omega)),
  ah h.os fun k hk=>hu.block k (h.os.lt k hk).2 (hne (h.oo k hk) (by omega)),ah h.ls fun k hk=>hu.block k (h.ls.lt k hk).2 (hne (h.ol k hk) (by omega)),
  ah h.ts fun k hk=>hu.block k (h.ts.lt k hk).2 (hne (h.ox k hk) (by omega)),h.ob,h.oa,h.ot,h.ou,h.oh,h.oo,h.ol,h.ox⟩
theorem wP (l:List Nat) (r n:Nat):(fB l).set r (.int .i32 n)=fB (l.set r n):=by simp [fB,List.map_set]
theorem ay.setUse {w:World} {b g n' c r n:Nat} {K:KV} {T:List DM} {q:aA} (h:ay w b K T q) (hq:q.uv=.slice (some ⟨g,0,none⟩) n' c) (hr:r<K.uses.length) :
  ay (w.setCell ⟨g,r,none⟩ (.int .i32 n)) b { K with uses:=K.uses.set r n } T q:=by
 have hg:q.o g=3:=h.ou g (by rw [hq];rfl)
 have hne:∀ {k c},q.o k=c->c≠3->k≠g:=fun {k c} hk hc hm=>hc (by rw [<- hk,hm,hg])
 have hk:∀ {k c},q.o k=c->c≠3->(w.setCell ⟨g,r,none⟩ (.int .i32 n)).heap[k]?=w.heap[k]?:=fun hk hc=>aI (hne hk hc)
 refine ⟨by rw [hk h.ob (by omega)];exact h.blk,h.ar.keep fun k hm=>hk (h.oa k hm) (by omega),h.tab.keep fun k hm=>hk (h.ot k hm) (by omega),?_,
  ah h.hs fun k hm=>hk (h.oh k hm) (by omega),ah h.os fun k hm=>hk (h.oo k hm) (by omega),ah h.ls fun k hm=>hk (h.ol k hm) (by omega),ah h.ts fun k hm=>hk (h.ox k hm) (by omega),
  h.ob,h.oa,h.ot,h.ou,h.oh,h.oo,h.ol,h.ox⟩
 have hu:=h.us;rw [hq] at hu ⊢;have:=dA hu (j:=r) (by omega) (.int .i32 n);rw [wP] at this
 simpa using this
theorem ay.setHold {w:World} {b g n' c r n:Nat} {K:KV} {T:List DM} {q:aA} (h:ay w b K T q) (hq:q.hv=.slice (some ⟨g,0,none⟩) n' c) (hr:r<K.holds.length) :
  ay (w.setCell ⟨g,r,none⟩ (.int .i32 n)) b { K with holds:=K.holds.set r n } T q:=by
 have hg:q.o g=4:=h.oh g (by rw [hq];rfl)
 have hne:∀ {k c},q.o k=c->c≠4->k≠g:=fun {k c} hk hc hm=>hc (by rw [<- hk,hm,hg])
 have hk:∀ {k c},q.o k=c->c≠4->(w.setCell ⟨g,r,none⟩ (.int .i32 n)).heap[k]?=w.heap[k]?:=fun hk hc=>aI (hne hk hc)
 refine ⟨by rw [hk h.ob (by omega)];exact h.blk,h.ar.keep fun k hm=>hk (h.oa k hm) (by omega),h.tab.keep fun k hm=>hk (h.ot k hm) (by omega),ah h.us fun k hm=>hk (h.ou k hm) (by omega),?_,
  ah h.os fun k hm=>hk (h.oo k hm) (by omega),ah h.ls fun k hm=>hk (h.ol k hm) (by omega),ah h.ts fun k hm=>hk (h.ox k hm) (by omega),
  h.ob,h.oa,h.ot,h.ou,h.oh,h.oo,h.ol,h.ox⟩
 have hu:=h.hs;rw [hq] at hu ⊢;have:=dA hu (j:=r) (by omega) (.int .i32 n);rw [wP] at this
 simpa using this
theorem ay.noTrail {w:World} {b:Nat} {K:KV} {T:List DM} {q:aA} (h:ay w b K T q) :
  ay (w.setCell ⟨b,7,none⟩ (.slice none 0 0)) b { K with trail:=[] } T { q with tv:=.slice none 0 0 }:=by
 have hne:∀ {k c},q.o k=c->c≠0->k≠b:=fun {k c} hk hc hm=>hc (by rw [<- hk,hm,h.ob])
 have hk:∀ {k c},q.o k=c->c≠0->(w.setCell ⟨b,7,none⟩ (.slice none 0 0)).heap[k]?=w.heap[k]?:=fun hk hc=>aI (hne hk hc)
 refine ⟨by rw [aF h.blk];rfl,h.ar.keep fun k hm=>hk (h.oa k hm) (by omega),h.tab.keep fun k hm=>hk (h.ot k hm) (by omega),ah h.us fun k hm=>hk (h.ou k hm) (by omega),
  ah h.hs fun k hm=>hk (h.oh k hm) (by omega),ah h.os fun k hm=>hk (h.oo k hm) (by omega),ah h.ls fun k hm=>hk (h.ol k hm) (by omega),World.ownsRow_nil _ _ _ _,
  h.ob,h.oa,h.ot,h.ou,h.oh,h.oo,h.ol,fun k hk=>by simp [Value.ownBlock] at hk⟩
theorem dN (b r:Nat) (K:KV) (T:List DM) (q:aA) (w:World) (h:ay w b K T q) (hr:r<=4294967295) :
  Calls Tryz.prog 134 #[.pointer (some ⟨b,0,none⟩),.int .u32 r] w fun e w'=>e=.returned (.bool (K.A.tk r))/\af [] w w':=by
 have BK:w.cell? ⟨b,0,none⟩=some (.pointer (some ⟨q.a,0,none⟩)):=ae h.blk rfl;have HA:=Lib.hid h.ar;clear h
 cases ht:K.A.tk r with
 | false =>
  have HT:=Lib.hid ht;clear ht
  go_enter Tryz.func134,Tryz.ntmps134
  go_wp2_with fail;refine (Rt q.a q.FA r K.A w HA.out hr HT.out).mono ?_;rintro e w1 ⟨rfl,hu⟩;have HU:=Lib.hid hu;clear hu;go_wp2_with fail;go_ret;exact ⟨rfl,HU.out.alloc _⟩
 | true =>
  obtain ⟨p,hp,aH⟩:=ag.tk_iff.1 ht;have HP:=Lib.hid hp;have HT:=Lib.hid aH;clear ht hp aH
  go_enter Tryz.func134,Tryz.ntmps134
  go_wp2_with fail;refine (FD q.a q.FA r K.A p w HA.out hr HP.out HT.out).mono ?_;rintro e w1 ⟨rfl,hu⟩;have HU:=Lib.hid hu;clear hu;go_wp2_with fail;go_ret;exact ⟨rfl,HU.out.alloc _⟩
theorem ab2 {w1:World} {B:Nat} {x y z:Value} {t:TypeId} (h:w1.heap[B]?=some (.cells #[x,y,z] t (0,0))) (x' y' z':Value) (o:Obj) :
  ((((w1.setCell ⟨B,0,none⟩ x').setCell ⟨B,1,none⟩ y').setCell ⟨B,2,none⟩ z').alloc o).cell? ⟨B,0,none⟩=some x' /\
  ((((w1.setCell ⟨B,0,none⟩ x').setCell ⟨B,1,none⟩ y').setCell ⟨B,2,none⟩ z').alloc o).cell? ⟨B,1,none⟩=some y' /\
  ((((w1.setCell ⟨B,0,none⟩ x').setCell ⟨B,1,none⟩ y').setCell ⟨B,2,none⟩ z').alloc o).cell? ⟨B,2,none⟩=some z':=by
 have e:=aF (j:=2) (aF (j:=1) (aF (j:=0) h x') y') z';have e2:=(heap_alloc_old _ o (aj e)).trans e;exact ⟨ae e2 rfl,ae e2 rfl,ae e2 rfl⟩
theorem gX (b r:Nat) (K:KV) (T:List DM) (q:aA) (p:au) (w:World) (h:ay w b K T q) (hr:r<=4294967295) (hp:K.A.list[r]?=some p) (aH:p.taken=true) :
  Calls Tryz.prog 135 #[.pointer (some ⟨b,0,none⟩),.int .u32 r] w fun e w'=>e=.returned (.agg #[.int .i64 p.var,.int .u32 p.lo,.int .u32 p.hi])/\af [] w w':=by
 have BK:w.cell? ⟨b,0,none⟩=some (.pointer (some ⟨q.a,0,none⟩)):=ae h.blk rfl;have HA:=Lib.hid h.ar;have hb:=aj h.blk;have HP:=Lib.hid hp;have HT:=Lib.hid aH;clear h hp aH
 go_enter Tryz.func135,Tryz.ntmps135
 go_wp2_with fail;refine (FD q.a q.FA r K.A p _ (HA.out.upd ((af.refl [] w).alloc _) (by simp)) hr HP.out HT.out).mono ?_;rintro e w1 ⟨rfl,hu⟩;have bf:w1.heap[w.heap.size]?=some (.cells #[.int .i64 0,.int .u32 0,.int .u32 0] 142 (0,0)):=(hu.block w.heap.size (by simp) (by simp)).trans (heap_alloc_new w _);have b0:w1.cell? ⟨w.heap.size,0,none⟩=some (.int .i64 0):=ae bf rfl;have b1:w1.cell? ⟨w.heap.size,1,none⟩=some (.int .u32 0):=ae bf rfl;have b2:w1.cell? ⟨w.heap.size,2,none⟩=some (.int .u32 0):=ae bf rfl;have f0:=ak 0 bf;have f1:=ak 1 bf;have f2:=ak 2 bf;have YU:=aj bf;have HX:=Lib.hid bf;have HU:Hid (af [] w w1):=((af.refl [] w).alloc _).trans (hu.mono (by simp));clear hu bf;go_wp2_with fail;obtain ⟨r0,r1,r2⟩:=ab2 HX.out (.int .i64 p.var) (.int .u32 p.lo) (.int .u32 p.hi) (.cells #[.int .i64 p.var,.int .u32 p.lo,.int .u32 p.hi] 142 (0,0));refine bodyPost_ret (v:=.agg #[.int .i64 p.var,.int .u32 p.lo,.int .u32 p.hi]) (by simp [results,Tryz.results135,go_sem,r0,r1,r2]) rfl ⟨rfl,?_⟩;exact (((HU.out.setCell (.inr (Nat.le_refl _)) _).setCell (.inr (Nat.le_refl _)) _).setCell (.inr (Nat.le_refl _)) _).alloc _
def KV.room (K:KV) (more:Int):Bool:=decide ((K.A.used:Int)+more<=(K.A.places:Int))
theorem yV (b:Nat) (more:Int) (K:KV) (T:List DM) (q:aA) (w:World) (h:ay w b K T q) (hm0:0<=more) (hm:more<=1073741824) :
  Calls Tryz.prog 143 #[.pointer (some ⟨b,0,none⟩),.int .i64 more] w fun e w'=>e=.returned (.bool (K.room more))/\af [] w w':=by
 have BK:w.cell? ⟨b,0,none⟩=some (.pointer (some ⟨q.a,0,none⟩)):=ae h.blk rfl;have HA:=Lib.hid h.ar;have h1:=h.ar.ok.us;have h2:=h.ar.ok.lp;have h3:=h.ar.ok.pm
 have hu:K.A.used<=1048576:=by omega
 have e1:IntKind.i64.wrap ((K.A.used:Int)+more)=(K.A.used:Int)+more:=IntWalk.i64_in _ (by omega);have hR:Hid (K.room more=decide ((K.A.used:Int)+more<=(K.A.places:Int))):=rfl;clear h h1 h2
 go_enter Tryz.func143,Tryz.ntmps143
 go_wp2_with fail
 go_quiet ((first | (go_at_call 87;exact Calls.quiet_of_same (((yE q.a q.FA K.A _ (HA.out.upd ((af.refl [] w).drewN _) (by simp))).mono fun _ _ ⟨a,b⟩=>⟨a,b.symm⟩))) | (go_at_call 136;exact Calls.quiet_of_same (((rG q.a q.FA K.A _ (HA.out.upd ((af.refl [] w).drewN _) (by simp))).mono fun _ _ ⟨a,b⟩=>⟨a,b.symm⟩)))))
 go_wp2_with fail;go_ret;exact ⟨by rw [hR.out];rfl,(af.refl _ _).drewN _⟩
theorem ay.useCell {w:World} {b r:Nat} {K:KV} {T:List DM} {q:aA} (h:ay w b K T q) (hr:r<K.uses.length) :
  ∃ g c,q.uv=.slice (some ⟨g,0,none⟩) K.uses.length c/\w.cell? ⟨b,2,none⟩=some (.slice (some ⟨g,0,none⟩) K.uses.length c)/\w.cell? ⟨g,r,none⟩=some (.int .i32 (K.use r))/\w.frozen? ⟨g,r,none⟩=false/\g∈q.all b:=by
 have hu:=h.us;obtain ⟨g,c,hq,_,_⟩:=hu.form (by omega);refine ⟨g,c,hq,by rw [<- hq];exact ae h.blk rfl,?_,?_,aA.mem.2 (.inr (.inr (.inr (.inl (by rw [hq];rfl)))))⟩
 ·rw [hq] at hu
  refine ax hu ?_
  simp [fB,KV.use,hr]
 ·rw [hq] at hu;exact aS hu r
theorem ay.holdCell {w:World} {b r:Nat} {K:KV} {T:List DM} {q:aA} (h:ay w b K T q) (hr:r<K.holds.length) :
  ∃ g c,q.hv=.slice (some ⟨g,0,none⟩) K.holds.length c/\w.cell? ⟨b,3,none⟩=some (.slice (some ⟨g,0,none⟩) K.holds.length c)/\w.cell? ⟨g,r,none⟩=some (.int .i32 (K.hold r))/\w.frozen? ⟨g,r,none⟩=false/\g∈q.all b:=by
 have hu:=h.hs;obtain ⟨g,c,hq,_,_⟩:=hu.form (by omega);refine ⟨g,c,hq,by rw [<- hq];exact ae h.blk rfl,?_,?_,aA.mem.2 (.inr (.inr (.inr (.inr (.inl (by rw [hq];rfl))))))⟩
 ·rw [hq] at hu
  refine ax hu ?_
  simp [fB,KV.hold,hr]
 ·rw [hq] at hu;exact aS hu r
theorem MP (b r:Nat) (K:KV) (T:List DM) (q:aA) (w:World) (h:ay w b K T q) (h2:2<=r) (hr:r<K.uses.length) (hb:K.use r+1<=2147483647) (jr:r<=4294967295) :
  Calls Tryz.prog 147 #[.pointer (some ⟨b,0,none⟩),.int .u32 r] w fun e w'=>e=.returned (.tuple #[])/\ay w' b (K.useK r) T q/\af (q.all b) w w':=by
 obtain ⟨g,c,hq,c2,cu,fu,hg⟩:=h.useCell hr;have hE:=And.intro (h.setUse (n:=K.use r+1) hq hr) ((af.refl (q.all b) w).setCell (p:=⟨g,r,none⟩) (.inl hg) (.int .i32 ((K.use r+1:Nat))))
 simp only [Int.natCast_add,Int.cast_ofNat_Int] at hE
 have HE:=Lib.hid hE
 have hd:(1:Int)<(r:Int):=by omega
 have oP:(r:Int)<(K.uses.length:Int):=by omega
 have sS:K.uses.length<=9223372036854775807:=by have:=(iy (hq ▸ h.us)).2;unfold maxLen at this;omega
 clear h hq hE
 go_enter Tryz.func147,Tryz.ntmps147
 go_wp2_with fail;go_end0;exact ⟨rfl,HE.out⟩
theorem IU (b r:Nat) (w:World) (h2:r<2) :
  Calls Tryz.prog 147 #[.pointer (some ⟨b,0,none⟩),.int .u32 r] w fun e w'=>e=.returned (.tuple #[])/\w=w':=by
 have hd:decide ((1:Int)<(r:Int))=false:=by simp;omega
 have qF:decide (1<r)=false:=by simp;omega
 go_enter Tryz.func147,Tryz.ntmps147
 go_wp2_with fail;go_end0;exact ⟨rfl,rfl⟩
def lg (p:au):Lit:=nk p.var p.lo p.hi
structure di (T:List DM) (K:KV) (X:List Nat):Prop where
 len:T.length=K.vars
 dom:∀ (v:Nat) (D:DM) (k:Lit),T[v]?=some D->Maps.has D k=true->∃ (r:Nat) (p:au),2<=r/\K.A.list[r]?=some p/\p.taken=true/\p.var=(v:Int)/\k=lg p/\r∉X
 at_:∀ (r:Nat) (p:au) (D:DM),2<=r->K.A.list[r]?=some p->p.taken=true->r∉X->T[p.var.toNat]?=some D->Maps.has D (lg p)=true/\∀ z,D.atKey (lg p) z=.lit (.int .u32 r)
 im:∀ (D:DM),D∈T->IsMap D
theorem PI {K:KV} {P:List Nat} (h:K.Wf P) {r s:Nat} {p c:au} (hr:2<=r) (hs:2<=s) (hp:K.A.list[r]?=some p) (hc:K.A.list[s]?=some c) (aH:p.taken=true) (ja:c.taken=true) (e:lg p=lg c) :
  p.var=c.var/\p.lo=c.lo/\p.hi=c.hi:=by
 have h1:=h.vr r p hr hp aH;have h2:=h.vr s c hs hc ja;have h3:=h.vs;have h4:=h.ok.u32 p (List.mem_of_getElem? hp);have h5:=h.ok.u32 c (List.mem_of_getElem? hc);exact oN (vN (by omega) (by omega)) (jO h4.1) (jO h4.2.1) (vN (by omega) (by omega)) (jO h5.1) (jO h5.2.1) e
theorem di.uniq {T:List DM} {K:KV} {X P:List Nat} (h:di T K X) (hw:K.Wf P) {r s:Nat} {p c:au} (hr:2<=r) (hs:2<=s) (hp:K.A.list[r]?=some p) (hc:K.A.list[s]?=some c) (aH:p.taken=true) (ja:c.taken=true)
  (OC:r∉X) (OU:s∉X) (e:lg p=lg c):r=s:=by
 have hv:=h.len;have h1:=hw.vr r p hr hp aH;obtain ⟨e1,_,_⟩:=PI hw hr hs hp hc aH ja e
 have hl:p.var.toNat<T.length:=by omega
 have hD:T[p.var.toNat]?=some T[p.var.toNat]:=List.getElem?_eq_getElem hl;have g1:=(h.at_ r p _ hr hp aH OC hD).2 .nil;have g2:=(h.at_ s c _ hs hc ja OU (by rw [<- e1];exact hD)).2 .nil;rw [e,g2] at g1
 simp at g1
 omega
theorem di.size {T:List DM} {K:KV} {X P:List Nat} (h:di T K X) (hw:K.Wf P) {v:Nat} {D:DM} (hv:T[v]?=some D) (hc:Maps.Canon D) (ht:Tidy D):Maps.size D<=1048576:=by
 have:=gZ hc (ks:=K.A.list.map lg) (fun k hk=>by
  obtain ⟨r,p,_,hp,_,_,rfl,_⟩:=h.dom v D k hv hk
  exact List.mem_map.2 ⟨p,List.mem_of_getElem? hp,rfl⟩) ht
 have h2:=hw.ok.lp;have h3:=hw.ok.pm
 simp at this
 omega
theorem di.same {T:List DM} {K K':KV} {X:List Nat} (h:di T K X) (hA:K'.A=K.A) (hv:K'.vars=K.vars):di T K' X :=
 ⟨by rw [hv];exact h.len,by rw [hA];exact h.dom,by rw [hA];exact h.at_,h.im⟩
theorem di.gone {T:List DM} {K:KV} {P:List Nat} (h:di T K []) (hw:K.Wf P) {r v:Nat} {p:au} {D:DM} (hr:2<=r) (hp:K.A.list[r]?=some p) (aH:p.taken=true) (hv:p.var=(v:Int)) (hD:T[v]?=some D) :
  di (T.set v (D.del (lg p))) (K.gone r) []:=by
 have gG:=(List.getElem?_eq_some_iff.1 hD).1;have aZ:=(List.getElem?_eq_some_iff.1 hp).1;refine ⟨by simpa [KV.gone] using h.len,?_,?_,?_⟩
 ·intro u D2 k hu hk
  have key:∀ (s:Nat) (c:au),2<=s->K.A.list[s]?=some c->c.taken=true->s≠r->(K.gone r).A.list[s]?=some c:=by
   intro s c _ hc _ hne
   simp only [KV.gone,ag.drop]
   rw [List.getElem?_set_ne (Ne.symm hne)];exact hc
  by_cases e:u=v
  ·subst e
   rw [List.getElem?_set_self gG] at hu;cases hu
   by_cases e2:k=lg p
   ·subst e2;rw [has_del_same] at hk;cases hk
   ·rw [has_del_other e2] at hk
    obtain ⟨s,c,h1,h2,h3,h4,h5,h6⟩:=h.dom u D k hD hk;refine ⟨s,c,h1,key s c h1 h2 h3 ?_,h3,h4,h5,by simp⟩;rintro rfl
    rw [hp] at h2;cases h2;exact e2 h5
  ·rw [List.getElem?_set_ne (Ne.symm e)] at hu
   obtain ⟨s,c,h1,h2,h3,h4,h5,h6⟩:=h.dom u D2 k hu hk;refine ⟨s,c,h1,key s c h1 h2 h3 ?_,h3,h4,h5,by simp⟩;rintro rfl
   rw [hp] at h2;cases h2
   rw [hv] at h4;omega
 ·intro s c D2 hs hc ja _ kQ
  have hne:s≠r:=by
   rintro rfl
   simp only [KV.gone,ag.drop] at hc
   rw [List.getElem?_set_self aZ] at hc;cases hc;simp [au.zero] at ja
  simp only [KV.gone,ag.drop] at hc
  rw [List.getElem?_set_ne (Ne.symm hne)] at hc
  by_cases e:c.var.toNat=v
  ·rw [e,List.getElem?_set_self gG] at kQ;cases kQ
   have hk:lg c≠lg p:=fun e2=>hne (h.uniq hw hs hr hc hp ja aH (by simp) (by simp) e2)
   obtain ⟨g1,g2⟩:=h.at_ s c D hs hc ja (by simp) (by rw [e];exact hD);rw [has_del_other hk];exact ⟨g1,fun z=>by rw [atKey_del_other hk];exact g2 z⟩
  ·rw [List.getElem?_set_ne (Ne.symm e)] at kQ
   exact h.at_ s c D2 hs hc ja (by simp) kQ
 ·intro D2 kQ
  rcases List.mem_or_eq_of_mem_set kQ with h1 | rfl
  ·exact h.im D2 h1
  ·exact (h.im D (List.mem_of_getElem? hD)).del _
structure KV.Le (K' K:KV):Prop where
 nd:∀ (r:Nat) (p:au),K'.A.list[r]?=some p->p.taken=true->K.A.list[r]?=some p
 pl:K'.A.places=K.A.places
 us:K'.A.used<=K.A.used
 hd:K'.holds=K.holds
 vr:K'.vars=K.vars
 od:K'.order=K.order
 lv:K'.level=K.level
 tr:K'.trail=K.trail
theorem KV.Le.refl (K:KV):K.Le K:=⟨fun _ _ h _=>h,rfl,Nat.le_refl _,rfl,rfl,rfl,rfl,rfl⟩
theorem KV.Le.trans {A B C:KV} (h:A.Le B) (k:B.Le C):A.Le C :=
 ⟨fun r p h1 h2=>k.nd r p (h.nd r p h1 h2) h2,h.pl.trans k.pl,Nat.le_trans h.us k.us,h.hd.trans k.hd,h.vr.trans k.vr,h.od.trans k.od,h.lv.trans k.lv,h.tr.trans k.tr⟩
theorem KV.less_le (K:KV) (r:Nat):(K.less r).Le K:=⟨fun _ _ h _=>h,rfl,Nat.le_refl _,rfl,rfl,rfl,rfl,rfl⟩
theorem KV.gone_le (K:KV) (r:Nat):(K.gone r).Le K:=by
 refine ⟨fun s p h ht=>?_,rfl,by simp [KV.gone,ag.drop],rfl,rfl,rfl,rfl,rfl⟩
 simp only [KV.gone,ag.drop] at h
 by_cases e:s=r
 ·subst e
  by_cases hl:s<K.A.list.length
  ·rw [List.getElem?_set_self hl] at h;cases h;simp [au.zero] at ht
  ·rw [List.getElem?_eq_none (by simpa using hl)] at h;cases h
 ·rw [List.getElem?_set_ne (Ne.symm e)] at h;exact h
theorem KV.Pos.less {K:KV} {P:List Nat} {r:Nat} (h:K.Pos) (hw:K.Wf (r::P)) (hr:2<=r) (hu:1<K.use r):(K.less r).Pos:=by
 intro s hs ht
 show 0<(K.uses.set r (K.use r-1)).getD s 0
 rw [dG (hw.tu r hr (hw.pt r (by simp)))];split
 ·omega
 ·exact h s hs ht
theorem KV.Pos.gone {K:KV} {P:List Nat} {r:Nat} (h:K.Pos) (hw:K.Wf (r::P)) (hr:2<=r):(K.gone r).Pos:=by
 intro s hs ht
 have hl:=hw.tu r hr (hw.pt r (by simp));have aZ:=ag.tk_lt (hw.pt r (by simp))
 show 0<(K.uses.set r 0).getD s 0
 rw [dG hl]
 have:(K.gone r).A.tk s=if s=r then false else K.A.tk s:=Gh aZ
 rw [this] at ht
 split at ht
 ·cases ht
 ·rename_i e
  rw [if_neg e];exact h s hs ht
end Go.Proofs.YtdackeldhdchaaaGreat
