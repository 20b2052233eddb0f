import Derived.Test.YtdackeldhdchaaaGreatPQ21
import Derived.Test.YtdackeldhdchaaaGreatPQ22
set_option maxRecDepth 100000
set_option maxHeartbeats 800000
namespace Go.Proofs.YtdackeldhdchaaaGreat
open Go.RowKit
theorem aaU.ownE_ok {A:aaU} {r:Nat} (h2:2<=r) (ht:A.tk r=true):A.ownE r=0:=by simp [aaU.ownE,h2,ht]
theorem awk {w:World} {e:TypeId} {l n' c n r:Nat} {L:List abu} {p:abu} (h6:w.ownsRow 0 e 5 (.slice (some ⟨l,0,none⟩) n' c) n (ack L)) (hp:L[r]?=some p) :
    w.cell? ⟨l,r * 5,none⟩=some (.int .i64 p.var)∧w.cell? ⟨l,r * 5 + 1,none⟩=some (.int .u32 p.lo)∧w.cell? ⟨l,r * 5 + 2,none⟩=some (.int .u32 p.hi) ∧
    w.cell? ⟨l,r * 5 + 3,none⟩=some (.bool p.taken)∧w.cell? ⟨l,r * 5 + 4,none⟩=some (.int .u8 p.count) ∧
    w.frozen? ⟨l,r * 5,none⟩=false∧w.frozen? ⟨l,r * 5 + 1,none⟩=false∧w.frozen? ⟨l,r * 5 + 2,none⟩=false∧w.frozen? ⟨l,r * 5 + 3,none⟩=false∧w.frozen? ⟨l,r * 5 + 4,none⟩=false :=
  ⟨abf h6 (j:=r * 5 + 0) (by rw [afu _ _ _ (by omega),hp]; rfl),abf h6 (by rw [afu _ _ _ (by omega),hp]; rfl),abf h6 (by rw [afu _ _ _ (by omega),hp]; rfl),
   abf h6 (by rw [afu _ _ _ (by omega),hp]; rfl),abf h6 (by rw [afu _ _ _ (by omega),hp]; rfl),aci h6 _,aci h6 _,aci h6 _,aci h6 _,aci h6 _⟩
theorem aH7 {w:World} {b l lc r:Nat} {F:List Nat} {fv:Value} {A:aaU}
  (h5:w.heap[b]?=some (.cells #[.int .i64 A.places,.slice (some ⟨l,0,none⟩) A.list.length lc,fv,.int .i64 A.used] 235 (0,0)))
  (h6:w.ownsRow 0 267 5 (.slice (some ⟨l,0,none⟩) A.list.length lc) A.list.length (ack A.list)) (hlt:r<A.list.length)
  (hF:F=[b,l]++fv.ownBlock.toList) (hbl:b≠l) (hbf:some b≠fv.ownBlock) (hlf:some l≠fv.ownBlock) :
  ∀ w2,((set5 w l r abu.zero).alloc (.cells #[.int .u32 r] 77 (0,0))).grownBy w2 fv.ownBlock ->
   w2.frozen? ⟨b,2,none⟩=false/\w2.cell? ⟨b,2,none⟩=some fv/\w2.cell? ⟨b,3,none⟩=some (.int .i64 A.used)/\w2.frozen? ⟨b,3,none⟩=false /\
   Hid (Upd F w w2/\w2.heap[b]?=some (.cells #[.int .i64 A.places,.slice (some ⟨l,0,none⟩) A.list.length lc,fv,.int .i64 A.used] 235 (0,0)) /\
    w2.ownsRow 0 267 5 (.slice (some ⟨l,0,none⟩) A.list.length lc) A.list.length (ack (A.list.set r abu.zero))):=by
 intro w2 hg
 have hb:=aa4 h5;have hl:=(h6.lt _ rfl).2
 have hbk:w2.heap[b]?=w.heap[b]?:=by
  rw [hg.block b (by rw [World.size_alloc,anT];omega) hbf,heap_alloc_old _ _ (by rw [anT];exact hb)];exact aMc hbl
 rw [h5] at hbk;have hu:Upd F w (set5 w l r abu.zero):=(Upd.refl F w).set5 (by simp [hF]) _ _;refine ⟨abq 2 hbk,aac hbk rfl,aac hbk rfl,abq 3 hbk,(hu.alloc _).grown hg ?_,hbk,?_⟩
 ·intro k hk;left;simp [hF,hk]
 ·exact ((aAT h6 hlt abu.zero).alloc _).kept hg (.inr (by simpa [Value.ownBlock] using hlf))
theorem aKK {w w2:World} {b l lc g cap r:Nat} {F:List Nat} {fv:Value} {A:aaU} {X:Obj}
  (ab3:w2.ownsRow 0 77 1 (.slice (some ⟨g,0,none⟩) (A.free.length+1) cap) (A.free.length+1) (ach A.free++[.int .u32 r]))
  (hat:fv.ownBlock=some g\/g=((set5 w l r abu.zero).alloc X).heap.size)
  (hu:Upd F w w2) (h5:w2.heap[b]?=some (.cells #[.int .i64 A.places,.slice (some ⟨l,0,none⟩) A.list.length lc,fv,.int .i64 A.used] 235 (0,0)))
  (h6:w2.ownsRow 0 267 5 (.slice (some ⟨l,0,none⟩) A.list.length lc) A.list.length (ack (A.list.set r abu.zero)))
  (hF:F=[b,l]++fv.ownBlock.toList) (hbl:b≠l) (hbf:some b≠fv.ownBlock) (hlf:some l≠fv.ownBlock) (hs:b<w.heap.size) (hs':l<w.heap.size) (h1:1<=A.used) (hok:(A.drop r).Ok) :
  ∃ F',acR ((w2.setCell ⟨b,2,none⟩ (.slice (some ⟨g,0,none⟩) (A.free.length+1) cap)).setCell ⟨b,3,none⟩ (.int .i64 (A.used-1))) b (A.drop r) F' /\
   Upd F w ((w2.setCell ⟨b,2,none⟩ (.slice (some ⟨g,0,none⟩) (A.free.length+1) cap)).setCell ⟨b,3,none⟩ (.int .i64 (A.used-1)))/\Sub F w F':=by
 rw [World.size_alloc,anT] at hat
 have hbg:b≠g:=by
  rcases hat with h | h
  ·rintro rfl;exact hbf h.symm
  ·omega
 have hlg:l≠g:=by
  rcases hat with h | h
  ·rintro rfl;exact hlf h.symm
  ·omega
 have aJ1:ach (A.drop r).free=ach A.free++[.int .u32 r]:=by simp [aaU.drop,ach]
 have hlen:(A.drop r).free.length=A.free.length+1:=by simp [aaU.drop]
 refine ⟨[b,l,g],⟨⟨l,lc,.slice (some ⟨g,0,none⟩) (A.free.length+1) cap,?_,?_,?_,by simp [Value.ownBlock],hbl,by simpa [Value.ownBlock] using hbg,by simpa [Value.ownBlock] using hlg⟩,hok⟩,?_,?_⟩
 ·have e1:=abV (j:=3) (abV (j:=2) h5 (.slice (some ⟨g,0,none⟩) (A.free.length+1) cap)) (.int .i64 (A.used-1))
  rw [e1]
  simp [aaU.drop]
  omega
 ·rw [show (A.drop r).list.length=A.list.length by simp [aaU.drop]]
  have hb':∀ j:Nat,some (⟨b,j,none⟩ : Addr).block≠(Value.slice (some ⟨l,0,none⟩) A.list.length lc).ownBlock:=by intro j;simpa [Value.ownBlock] using hbl
  exact ac9 (ac9 h6 (hb' 2) _) (hb' 3) _
 ·rw [hlen,aJ1]
  have hb':∀ j:Nat,some (⟨b,j,none⟩ : Addr).block≠(Value.slice (some ⟨g,0,none⟩) (A.free.length+1) cap).ownBlock:=by intro j;simpa [Value.ownBlock] using hbg
  exact ac9 (ac9 ab3 (hb' 2) _) (hb' 3) _
 ·exact (hu.setCell (by simp [hF]) _).setCell (by simp [hF]) _
 ·intro k hk
  simp at hk
  rcases hk with rfl | rfl | rfl
  ·simp [hF]
  ·simp [hF]
  ·rcases hat with h | h
   ·left;simp [hF,h]
   ·right;omega
theorem aNb (b:Nat) (F:List Nat) (r:Nat) (A:aaU) (w:World) (h:acR w b A F) (amm:r<=4294967295) (h2:2<=r) (ht:A.tk r=true) :
  Calls Tryz.prog 153 #[.pointer (some ⟨b,0,none⟩),.int .u32 r] w fun e w'=>e=.returned (.int .i64 0)/\∃ F',acR w' b (A.drop r) F'/\Upd F w w'/\Sub F w F':=by
 have HO:=Lib.hid (aaU.ownE_ok h2 ht);have HOK:=Lib.hid (h.ok.drop ht h2);have hok:=h.ok;obtain ⟨p,hp,_⟩:=aaU.tk_iff.1 ht;have hlt:=(List.getElem?_eq_some_iff.1 hp).1;clear ht;obtain ⟨l,lc,fv,h5,h6,h7,hF',hbl,hbf,hlf⟩:=h.cells;have hpm:=hok.pm;have hlp:=hok.lp;have hus:=hok.us
 have hfl:A.free.length<=1048576:=by omega
 have hu:A.used<=1048576:=by omega
 have hu1:1<=A.used:=by have:=HOK.out.us;have:=HOK.out.l2;simp [aaU.drop] at *;omega
 obtain ⟨fa,fc,hfv,_⟩:=abI h7;subst hfv;have hb:=aa4 h5;have hl:=(h6.lt _ rfl).2;have hc1:w.cell? ⟨b,1,none⟩=some (.slice (some ⟨l,0,none⟩) A.list.length lc):=aac h5 rfl;have hc2:w.cell? ⟨b,2,none⟩=some (.slice fa A.free.length fc):=aac h5 rfl;obtain ⟨g0,g1,g2,g3,g4,z0,z1,z2,z3,z4⟩:=awk h6 hp;have H5:=Lib.hid h5;have H6:=Lib.hid h6;have H7:=Lib.hid h7;have HF:=Lib.hid hF';have HW:=Lib.hid (ac9 (ac9 (ac9 (ac9 (ac9 h7 (a:=⟨l,r*5,none⟩) hlf (.int .i64 0)) (a:=⟨l,r*5+1,none⟩) hlf (.int .u32 0)) (a:=⟨l,r*5+2,none⟩) hlf (.int .u32 0)) (a:=⟨l,r*5+3,none⟩) hlf (.bool false)) (a:=⟨l,r*5+4,none⟩) hlf (.int .u8 0));clear h5 h6 h7 hF' hus hok hp;obtain ⟨i,hi0,hz0,amR,hz2⟩:=info_parts Tryz.infoRef;have HI:=Lib.hid hi0;have HZ:=Lib.hid hz0;have HZ1:=Lib.hid amR;have HZ2:=Lib.hid hz2;clear hi0 hz0 amR hz2
 go_enter Tryz.func153,Tryz.ntmps153
 go_wp2_with fail;refine (aC6 b F r A _ h amm).mono ?_
 rintro e w' ⟨rfl,rfl⟩;rw [HO.out]
 have aAj:Hid (∀ u,u∈[Value.int .u32 r]->u.oneCell'=true):=by intro u hu;simp at hu;subst hu;rfl
 have HK:=Lib.hid (aH7 H5.out H6.out hlt HF.out hbl hbf hlf)
 go_wp2_with (at_builtin;go_must (refine wpList_append_lies _ rfl (.tmp 25) (.tmp 27) 42 rfl 0 77 i _ 1 4 Tryz.underlying42 HI.out HZ.out HZ1.out HZ2.out (by rfl) (by decide) _ A.free.length (ach A.free) rfl (HW.out.alloc _) ⟨w.heap.size,0,none⟩ 1 1 [.int .u32 r] rfl rfl ?c1 aAj.out (by omega) (by unfold maxLen;omega) (by omega) (by omega) _ rfl ?_))
 case c1 =>
  have:=World.news_of_block (heap_alloc_new (set5 w l r abu.zero) (.cells #[.int .u32 r] 77 (0,0)));rw [anT] at this;exact this
 intro g cap w2 ab3 hgr hat aut
 obtain ⟨k1,k2,k3,k4,k5⟩:=HK.out w2 hgr;have HX:=Lib.hid (And.intro ab3 hat);clear ab3 hgr hat;go_wp2_with fail;go_ret;refine ⟨rfl,?_⟩;obtain ⟨y1,y2⟩:=HX.out;obtain ⟨z1,z2,z3⟩:=k5.out;exact aKK y1 (X:=.cells #[.int .u32 r] 77 (0,0)) (by rw [World.size_alloc,anT];exact y2) z1 z2 z3 HF.out hbl hbf hlf hb hl (by omega) HOK.out
def aEf (k:Nat):abu:=⟨-1,k,k,true,255⟩
def apz (k:Nat):List Value:=ack ((List.range k).map aEf)
theorem aCJ (k:Nat):apz (k+1)=apz k++[.int .i64 (-1),.int .u32 k,.int .u32 k,.bool true,.int .u8 255]:=by
 simp [apz,List.range_succ,ack,abu.flat,aEf]
def aCK (w:World) (n:Nat) (i:Value) (wr:World):Prop:=∃ k v,k<=2/\i=.int .u32 (k:Nat) /\
 wr.heap[w.heap.size]?=some (.cells #[.int .i64 n,v,.slice none 0 0,.int .i64 2] 235 (0,0)) /\
 wr.ownsRow (w.heap.size+1) 267 5 v k (apz k)/\Upd [] w wr
theorem aH8 (w:World) (n:Nat):aCK w n (.int .u32 0) (w.alloc (.cells #[.int .i64 n,.slice none 0 0,.slice none 0 0,.int .i64 2] 235 (0,0))) :=
 ⟨0,.slice none 0 0,by omega,rfl,heap_alloc_new w _,World.ownsRow_nil _ _ _ _,(Upd.refl _ _).alloc _⟩
theorem aKL {w wr:World} {n k:Nat} {v:Value} {X:Obj} (h5:wr.heap[w.heap.size]?=some (.cells #[.int .i64 n,v,.slice none 0 0,.int .i64 2] 235 (0,0)))
  (h6:wr.ownsRow (w.heap.size+1) 267 5 v k (apz k)) (hu:Upd [] w wr):∀ w2,(wr.alloc X).grownBy w2 v.ownBlock ->
  w2.cell? ⟨w.heap.size,1,none⟩=some v/\w2.frozen? ⟨w.heap.size,1,none⟩=false/\Hid (Upd [] w w2/\w2.heap[w.heap.size]?=some (.cells #[.int .i64 n,v,.slice none 0 0,.int .i64 2] 235 (0,0))):=by
 intro w2 hg
 have hb:=aa4 h5
 have hbk:w2.heap[w.heap.size]?=wr.heap[w.heap.size]?:=by
  rw [hg.block _ (by simp;omega) (fun e=>by have:=(h6.lt _ e.symm).1;omega)];exact heap_alloc_old wr _ hb
 rw [h5] at hbk;exact ⟨aac hbk rfl,abq 1 hbk,(hu.alloc _).grown hg (fun k hk=>.inr (by have:=(h6.lt _ hk).1;omega)),hbk⟩
theorem aKM {w w2:World} {n k g cap:Nat} {v:Value} (hk:k<2) (ab3:w2.ownsRow (w.heap.size+1) 267 5 (.slice (some ⟨g,0,none⟩) (k+1) cap) (k+1) (apz k++[.int .i64 (-1),.int .u32 k,.int .u32 k,.bool true,.int .u8 255]))
  (hu:Upd [] w w2) (h5:w2.heap[w.heap.size]?=some (.cells #[.int .i64 n,v,.slice none 0 0,.int .i64 2] 235 (0,0))) :
  aCK w n (.int .u32 (k+1:Nat)) (w2.setCell ⟨w.heap.size,1,none⟩ (.slice (some ⟨g,0,none⟩) (k+1) cap)):=by
 refine ⟨k+1,.slice (some ⟨g,0,none⟩) (k+1) cap,by omega,rfl,?_,?_,hu.setCell (.inr (Nat.le_refl _)) _⟩
 ·rw [abV h5];rfl
 ·rw [aCJ]
  have hg:=(ab3.lt g rfl).1;exact ac9 ab3 (by simp [Value.ownBlock];omega) _
theorem aNc {w wr:World} {n:Nat} (hn:(aaU.new n).Ok) (h:aCK w n (.int .u32 2) wr):∃ F,acR wr w.heap.size (aaU.new n) F/\Upd [] w wr/\Sub [] w F:=by
 obtain ⟨k,v,hk,hi,h5,h6,hu⟩:=h
 have:k=2:=by simp at hi;omega
 subst this;obtain ⟨g,cap,rfl,hb,_⟩:=h6.form (by omega);refine ⟨[w.heap.size,g],⟨⟨g,cap,.slice none 0 0,h5,aet h6 (by omega),World.ownsRow_nil _ _ _ _,by simp [Value.ownBlock],by omega,by simp [Value.ownBlock],by simp [Value.ownBlock]⟩,hn⟩,hu,?_⟩
 intro k hk
 simp at hk
 right;omega
theorem aKN (n:Nat) (w:World) (h2:2<=n) (hm:n<=1048576) :
  Calls Tryz.prog 141 #[.int .i64 n] w fun e w'=>∃ b F,e=.returned (.tuple #[.pointer (some ⟨b,0,none⟩),.int .i64 0])/\acR w' b (aaU.new n) F/\Upd [] w w'/\Sub [] w F:=by
 have HN:=Lib.hid (aaU.new_ok h2 hm)
 have hd:decide ((n:Int)<2)=false:=by simp;omega
 have hd2:decide ((1048576:Int)<(n:Int))=false:=by simp;omega
 obtain ⟨i,hi0,hz0,amR,hz2⟩:=info_parts Tryz.infoPlace;have HI:=Lib.hid hi0;have HZ:=Lib.hid hz0;have HZ1:=Lib.hid amR;have HZ2:=Lib.hid hz2;clear hi0 hz0 amR hz2
 go_enter Tryz.func141,Tryz.ntmps141
 go_wp2
 go_loopw [15] (fun i wr=>aCK w n i wr) (fun i _=>2-(intOf i).toNat)
 case atStart=>exact aH8 w n
 case round =>
  obtain ⟨k,v,hk,rfl,h5,h6,hu⟩:=hrel
  by_cases hlt:k<2
  ·have hc1:wr.cell? ⟨w.heap.size,1,none⟩=some v:=aac h5 rfl
   obtain ⟨va,vc,hv,_⟩:=abI h6;subst hv;have H5:=Lib.hid h5;have H6:=Lib.hid h6;have HU:=Lib.hid hu;have HK:=Lib.hid (aKL (X:=.cells #[.int .i64 (-1),.int .u32 k,.int .u32 k,.bool true,.int .u8 255] 267 (0,0)) h5 h6 hu);clear h5 h6 hu
   have aAj:Hid (∀ u,u∈[Value.int .i64 (-1),.int .u32 k,.int .u32 k,.bool true,.int .u8 255]->u.oneCell'=true):=by intro u hu;simp at hu;rcases hu with rfl | rfl | rfl | rfl | rfl <;> rfl
   go_wp2_with (at_builtin;go_must (refine wpList_append_lies _ rfl (.tmp 22) (.tmp 27) 233 rfl (w.heap.size+1) 267 i _ 5 24 Tryz.underlying233 HI.out HZ.out HZ1.out HZ2.out (by rfl) (by decide) _ k (apz k) rfl (H6.out.alloc _) ⟨wr.heap.size,0,none⟩ 1 1 [.int .i64 (-1),.int .u32 k,.int .u32 k,.bool true,.int .u8 255] rfl rfl ?c1 aAj.out (by omega) (by unfold maxLen;omega) (by omega) (by have:=HU.out.size;have:=(aa4 H5.out);simp;omega) _ rfl ?_))
   case c1=>exact World.news_of_block (heap_alloc_new wr _)
   intro g cap w2 ab3 hgr hat aut
   obtain ⟨k1,k2,k3⟩:=HK.out w2 hgr;have HX:=Lib.hid (And.intro ab3 hat);clear ab3 hgr hat;go_wp2_with fail
   go_roundw
   case rel=>exact aKM hlt HX.out.1 k3.out.1 k3.out.2
   case measure=>simp [intOf];omega
  ·have:k=2:=by omega
   subst this;have HE:=Lib.hid (aNc HN.out ⟨2,v,by omega,rfl,h5,h6,hu⟩);clear h5 h6 hu
   go_wp2
   go_ret2;obtain ⟨F,q⟩:=HE.out;exact ⟨_,F,rfl,q⟩
end Go.Proofs.YtdackeldhdchaaaGreat
namespace Go.Proofs.YtdackeldhdchaaaGreat
open Go.RowKit Go.Maps Go.ChangeMaps Go.WideShapes
def ahk (l:List Nat):List Value:=l.map fun (n:Nat)=>Value.int .i32 n
structure abM where
 a:Nat
 t:Nat
 uv:Value
 hv:Value
 ov:Value
 lv:Value
 tv:Value
 FA:List Nat
 FT:List Nat
 o:Nat->Nat
def abM.all (q:abM) (b:Nat):List Nat:=b::(q.FA++(q.FT++(q.uv.ownBlock.toList++(q.hv.ownBlock.toList++(q.ov.ownBlock.toList++(q.lv.ownBlock.toList++q.tv.ownBlock.toList))))))
structure abv (w:World) (b:Nat) (K:KV) (T:List DM) (q:abM):Prop where
 blk:w.heap[b]?=some (.cells #[.pointer (some ⟨q.a,0,none⟩),.pointer (some ⟨q.t,0,none⟩),q.uv,q.hv,.int .i64 K.vars,q.ov,q.lv,q.tv] 165 (0,0))
 ar:acR w q.a K.A q.FA
 tab:afl w q.t T q.FT
 us:w.ownsRow 0 21 1 q.uv K.uses.length (ahk K.uses)
 hs:w.ownsRow 0 21 1 q.hv K.holds.length (ahk K.holds)
 os:w.ownsRow 0 3 1 q.ov K.order.length (acf K.order)
 ls:w.ownsRow 0 3 1 q.lv K.level.length (acf K.level)
 ts:w.ownsRow 0 3 1 q.tv K.trail.length (acf K.trail)
 ob:q.o b=0
 oa:∀ k,k∈q.FA->q.o k=1
 ot:∀ k,k∈q.FT->q.o k=2
 ou:∀ k,q.uv.ownBlock=some k->q.o k=3
 oh:∀ k,q.hv.ownBlock=some k->q.o k=4
 oo:∀ k,q.ov.ownBlock=some k->q.o k=5
 ol:∀ k,q.lv.ownBlock=some k->q.o k=6
 ox:∀ k,q.tv.ownBlock=some k->q.o k=7
theorem abM.mem {q:abM} {b k:Nat}:k∈q.all b↔k=b\/k∈q.FA\/k∈q.FT\/q.uv.ownBlock=some k\/q.hv.ownBlock=some k\/q.ov.ownBlock=some k\/q.lv.ownBlock=some k\/q.tv.ownBlock=some k:=by
 simp [abM.all]
theorem abv.lt {w:World} {b:Nat} {K:KV} {T:List DM} {q:abM} (h:abv w b K T q):∀ k,k∈q.all b->k<w.heap.size:=by
 intro k hk
 rcases abM.mem.1 hk with rfl | hk | hk | hk | hk | hk | hk | hk
 ·exact aa4 h.blk
 ·exact h.ar.lt k hk
 ·exact h.tab.lt k hk
 ·exact (h.us.lt k hk).2
 ·exact (h.hs.lt k hk).2
 ·exact (h.os.lt k hk).2
 ·exact (h.ls.lt k hk).2
 ·exact (h.ts.lt k hk).2
theorem abv.keep {w w':World} {b:Nat} {K:KV} {T:List DM} {q:abM} (h:abv w b K T q) (hk:∀ k,k∈q.all b→w'.heap[k]?=w.heap[k]?):abv w' b K T q :=
  ⟨by rw [hk b (abM.mem.2 (.inl rfl))]; exact h.blk,h.ar.keep fun k hm=>hk k (abM.mem.2 (.inr (.inl hm))),h.tab.keep fun k hm=>hk k (abM.mem.2 (.inr (.inr (.inl hm)))),
   aaX h.us fun k hm=>hk k (abM.mem.2 (.inr (.inr (.inr (.inl hm))))),aaX h.hs fun k hm=>hk k (abM.mem.2 (.inr (.inr (.inr (.inr (.inl hm)))))),
   aaX h.os fun k hm=>hk k (abM.mem.2 (.inr (.inr (.inr (.inr (.inr (.inl hm))))))),aaX h.ls fun k hm=>hk k (abM.mem.2 (.inr (.inr (.inr (.inr (.inr (.inr (.inl hm)))))))),
   aaX h.ts fun k hm=>hk k (abM.mem.2 (.inr (.inr (.inr (.inr (.inr (.inr (.inr hm)))))))),h.ob,h.oa,h.ot,h.ou,h.oh,h.oo,h.ol,h.ox⟩
theorem abv.upd {w w':World} {b:Nat} {K:KV} {T:List DM} {q:abM} {S:List Nat} (h:abv w b K T q) (u:Upd S w w') (hd:∀ k,k∈q.all b->k∉S):abv w' b K T q :=
 h.keep fun k hk=>u.block k (h.lt k hk) (hd k hk)
def aeI (q:abM) (n c:Nat):Nat->Nat:=fun k=>if n<=k then c else q.o k
theorem acD {q:abM} {n c k:Nat} (h:k<n):aeI q n c k=q.o k:=by unfold aeI;rw [if_neg (by omega)]
theorem aH9 {q:abM} {n c k:Nat} {F:List Nat} (hF:∀ k,k∈F->q.o k=c) (h:k∈F\/n<=k):aeI q n c k=c:=by
 unfold aeI;split
 ·rfl
 ·rcases h with h | h
  ·exact hF k h
  ·omega
theorem abv.arena {w w':World} {b:Nat} {K:KV} {T:List DM} {q:abM} {A':aaU} {F':List Nat} (h:abv w b K T q) (ha:acR w' q.a A' F') (hu:Upd q.FA w w') (hs:Sub q.FA w F') :
  abv w' b { K with A:=A' } T { q with FA:=F',o:=aeI q w.heap.size 1 }:=by
 have hne:∀ {k c},q.o k=c->c≠1->k∉q.FA:=fun {k c} hk hc hm=>hc (hk ▸ h.oa k hm)
 have hb:=aa4 h.blk
 refine ⟨by rw [hu.block b hb (hne h.ob (by omega))];exact h.blk,ha,h.tab.upd hu fun k hk=>hne (h.ot k hk) (by omega),
  aaX h.us fun k hk=>hu.block k (h.us.lt k hk).2 (hne (h.ou k hk) (by omega)),aaX h.hs fun k hk=>hu.block k (h.hs.lt k hk).2 (hne (h.oh k hk) (by omega)),
  aaX h.os fun k hk=>hu.block k (h.os.lt k hk).2 (hne (h.oo k hk) (by omega)),aaX h.ls fun k hk=>hu.block k (h.ls.lt k hk).2 (hne (h.ol k hk) (by omega)),
  aaX h.ts fun k hk=>hu.block k (h.ts.lt k hk).2 (hne (h.ox k hk) (by omega)),?_,?_,?_,?_,?_,?_,?_,?_⟩
 ·show aeI q _ 1 b=0
  rw [acD hb];exact h.ob
 ·intro k hk;exact aH9 h.oa (hs k hk)
 ·intro k hk;show aeI q _ 1 k=2;rw [acD (h.tab.lt k hk)];exact h.ot k hk
 ·intro k hk;show aeI q _ 1 k=3;rw [acD (h.us.lt k hk).2];exact h.ou k hk
 ·intro k hk;show aeI q _ 1 k=4;rw [acD (h.hs.lt k hk).2];exact h.oh k hk
 ·intro k hk;show aeI q _ 1 k=5;rw [acD (h.os.lt k hk).2];exact h.oo k hk
 ·intro k hk;show aeI q _ 1 k=6;rw [acD (h.ls.lt k hk).2];exact h.ol k hk
 ·intro k hk;show aeI q _ 1 k=7;rw [acD (h.ts.lt k hk).2];exact h.ox k hk
theorem abv.table {w w':World} {b:Nat} {K:KV} {T T':List DM} {q:abM} (h:abv w b K T q) (ha:afl w' q.t T' q.FT) (hu:Upd q.FT w w'):abv w' b K T' q:=by
 have hne:∀ {k c},q.o k=c->c≠2->k∉q.FT:=fun {k c} hk hc hm=>hc (hk ▸ h.ot k hm)
 have hb:=aa4 h.blk
 exact ⟨by rw [hu.block b hb (hne h.ob (by omega))];exact h.blk,h.ar.upd hu fun k hk=>hne (h.oa k hk) (by omega),ha,
  aaX h.us fun k hk=>hu.block k (h.us.lt k hk).2 (hne (h.ou k hk) (by omega)),aaX h.hs fun k hk=>hu.block k (h.hs.lt k hk).2 (hne (h.oh k hk) (by omega)),
  aaX h.os fun k hk=>hu.block k (h.os.lt k hk).2 (hne (h.oo k hk) (by omega)),aaX h.ls fun k hk=>hu.block k (h.ls.lt k hk).2 (hne (h.ol k hk) (by omega)),
  aaX h.ts fun k hk=>hu.block k (h.ts.lt k hk).2 (hne (h.ox k hk) (by omega)),h.ob,h.oa,h.ot,h.ou,h.oh,h.oo,h.ol,h.ox⟩
theorem azb (l:List Nat) (r n:Nat):(ahk l).set r (.int .i32 n)=ahk (l.set r n):=by simp [ahk,List.map_set]
theorem abv.setUse {w:World} {b g n' c r n:Nat} {K:KV} {T:List DM} {q:abM} (h:abv w b K T q) (hq:q.uv=.slice (some ⟨g,0,none⟩) n' c) (hr:r<K.uses.length) :
  abv (w.setCell ⟨g,r,none⟩ (.int .i32 n)) b { K with uses:=K.uses.set r n } T q:=by
 have hg:q.o g=3:=h.ou g (by rw [hq];rfl)
 have hne:∀ {k c},q.o k=c->c≠3->k≠g:=fun {k c} hk hc hm=>hc (by rw [<- hk,hm,hg])
 have hk:∀ {k c},q.o k=c->c≠3->(w.setCell ⟨g,r,none⟩ (.int .i32 n)).heap[k]?=w.heap[k]?:=fun hk hc=>acb (hne hk hc)
 refine ⟨by rw [hk h.ob (by omega)];exact h.blk,h.ar.keep fun k hm=>hk (h.oa k hm) (by omega),h.tab.keep fun k hm=>hk (h.ot k hm) (by omega),?_,
  aaX h.hs fun k hm=>hk (h.oh k hm) (by omega),aaX h.os fun k hm=>hk (h.oo k hm) (by omega),aaX h.ls fun k hm=>hk (h.ol k hm) (by omega),aaX h.ts fun k hm=>hk (h.ox k hm) (by omega),
  h.ob,h.oa,h.ot,h.ou,h.oh,h.oo,h.ol,h.ox⟩
 have hu:=h.us;rw [hq] at hu ⊢;have:=ae1 hu (j:=r) (by omega) (.int .i32 n);rw [azb] at this
 simpa using this
theorem abv.setHold {w:World} {b g n' c r n:Nat} {K:KV} {T:List DM} {q:abM} (h:abv w b K T q) (hq:q.hv=.slice (some ⟨g,0,none⟩) n' c) (hr:r<K.holds.length) :
  abv (w.setCell ⟨g,r,none⟩ (.int .i32 n)) b { K with holds:=K.holds.set r n } T q:=by
 have hg:q.o g=4:=h.oh g (by rw [hq];rfl)
 have hne:∀ {k c},q.o k=c->c≠4->k≠g:=fun {k c} hk hc hm=>hc (by rw [<- hk,hm,hg])
 have hk:∀ {k c},q.o k=c->c≠4->(w.setCell ⟨g,r,none⟩ (.int .i32 n)).heap[k]?=w.heap[k]?:=fun hk hc=>acb (hne hk hc)
 refine ⟨by rw [hk h.ob (by omega)];exact h.blk,h.ar.keep fun k hm=>hk (h.oa k hm) (by omega),h.tab.keep fun k hm=>hk (h.ot k hm) (by omega),aaX h.us fun k hm=>hk (h.ou k hm) (by omega),?_,
  aaX h.os fun k hm=>hk (h.oo k hm) (by omega),aaX h.ls fun k hm=>hk (h.ol k hm) (by omega),aaX h.ts fun k hm=>hk (h.ox k hm) (by omega),
  h.ob,h.oa,h.ot,h.ou,h.oh,h.oo,h.ol,h.ox⟩
 have hu:=h.hs;rw [hq] at hu ⊢;have:=ae1 hu (j:=r) (by omega) (.int .i32 n);rw [azb] at this
 simpa using this
theorem abv.noTrail {w:World} {b:Nat} {K:KV} {T:List DM} {q:abM} (h:abv w b K T q) :
  abv (w.setCell ⟨b,7,none⟩ (.slice none 0 0)) b { K with trail:=[] } T { q with tv:=.slice none 0 0 }:=by
 have hne:∀ {k c},q.o k=c->c≠0->k≠b:=fun {k c} hk hc hm=>hc (by rw [<- hk,hm,h.ob])
 have hk:∀ {k c},q.o k=c->c≠0->(w.setCell ⟨b,7,none⟩ (.slice none 0 0)).heap[k]?=w.heap[k]?:=fun hk hc=>acb (hne hk hc)
 refine ⟨by rw [abV h.blk];rfl,h.ar.keep fun k hm=>hk (h.oa k hm) (by omega),h.tab.keep fun k hm=>hk (h.ot k hm) (by omega),aaX h.us fun k hm=>hk (h.ou k hm) (by omega),
  aaX h.hs fun k hm=>hk (h.oh k hm) (by omega),aaX h.os fun k hm=>hk (h.oo k hm) (by omega),aaX h.ls fun k hm=>hk (h.ol k hm) (by omega),World.ownsRow_nil _ _ _ _,
  h.ob,h.oa,h.ot,h.ou,h.oh,h.oo,h.ol,fun k hk=>by simp [Value.ownBlock] at hk⟩
theorem af1 (b r:Nat) (K:KV) (T:List DM) (q:abM) (w:World) (h:abv w b K T q) (hr:r<=4294967295) :
  Calls Tryz.prog 134 #[.pointer (some ⟨b,0,none⟩),.int .u32 r] w fun e w'=>e=.returned (.bool (K.A.tk r))/\Upd [] w w':=by
 have hc0:w.cell? ⟨b,0,none⟩=some (.pointer (some ⟨q.a,0,none⟩)):=aac h.blk rfl;have HA:=Lib.hid h.ar;clear h
 cases ht:K.A.tk r with
 | false =>
  have HT:=Lib.hid ht;clear ht
  go_enter Tryz.func134,Tryz.ntmps134
  go_wp2_with fail;refine (aOS q.a q.FA r K.A w HA.out hr HT.out).mono ?_;rintro e w1 ⟨rfl,hu⟩;have HU:=Lib.hid hu;clear hu;go_wp2_with fail;go_ret;exact ⟨rfl,HU.out.alloc _⟩
 | true =>
  obtain ⟨p,hp,hpt⟩:=aaU.tk_iff.1 ht;have HP:=Lib.hid hp;have HT:=Lib.hid hpt;clear ht hp hpt
  go_enter Tryz.func134,Tryz.ntmps134
  go_wp2_with fail;refine (aGl q.a q.FA r K.A p w HA.out hr HP.out HT.out).mono ?_;rintro e w1 ⟨rfl,hu⟩;have HU:=Lib.hid hu;clear hu;go_wp2_with fail;go_ret;exact ⟨rfl,HU.out.alloc _⟩
theorem aXc {w1:World} {B:Nat} {x y z:Value} {t:TypeId} (h:w1.heap[B]?=some (.cells #[x,y,z] t (0,0))) (x' y' z':Value) (o:Obj) :
  ((((w1.setCell ⟨B,0,none⟩ x').setCell ⟨B,1,none⟩ y').setCell ⟨B,2,none⟩ z').alloc o).cell? ⟨B,0,none⟩=some x' /\
  ((((w1.setCell ⟨B,0,none⟩ x').setCell ⟨B,1,none⟩ y').setCell ⟨B,2,none⟩ z').alloc o).cell? ⟨B,1,none⟩=some y' /\
  ((((w1.setCell ⟨B,0,none⟩ x').setCell ⟨B,1,none⟩ y').setCell ⟨B,2,none⟩ z').alloc o).cell? ⟨B,2,none⟩=some z':=by
 have e:=abV (j:=2) (abV (j:=1) (abV (j:=0) h x') y') z';have e2:=(heap_alloc_old _ o (aa4 e)).trans e;exact ⟨aac e2 rfl,aac e2 rfl,aac e2 rfl⟩
theorem aiS (b r:Nat) (K:KV) (T:List DM) (q:abM) (p:abu) (w:World) (h:abv w b K T q) (hr:r<=4294967295) (hp:K.A.list[r]?=some p) (hpt:p.taken=true) :
  Calls Tryz.prog 135 #[.pointer (some ⟨b,0,none⟩),.int .u32 r] w fun e w'=>e=.returned (.agg #[.int .i64 p.var,.int .u32 p.lo,.int .u32 p.hi])/\Upd [] w w':=by
 have hc0:w.cell? ⟨b,0,none⟩=some (.pointer (some ⟨q.a,0,none⟩)):=aac h.blk rfl;have HA:=Lib.hid h.ar;have hb:=aa4 h.blk;have HP:=Lib.hid hp;have HT:=Lib.hid hpt;clear h hp hpt
 go_enter Tryz.func135,Tryz.ntmps135
 go_wp2_with fail;refine (aGl q.a q.FA r K.A p _ (HA.out.upd ((Upd.refl [] w).alloc _) (by simp)) hr HP.out HT.out).mono ?_;rintro e w1 ⟨rfl,hu⟩;have hbx:w1.heap[w.heap.size]?=some (.cells #[.int .i64 0,.int .u32 0,.int .u32 0] 142 (0,0)):=(hu.block w.heap.size (by simp) (by simp)).trans (heap_alloc_new w _);have b0:w1.cell? ⟨w.heap.size,0,none⟩=some (.int .i64 0):=aac hbx rfl;have b1:w1.cell? ⟨w.heap.size,1,none⟩=some (.int .u32 0):=aac hbx rfl;have b2:w1.cell? ⟨w.heap.size,2,none⟩=some (.int .u32 0):=aac hbx rfl;have f0:=abq 0 hbx;have f1:=abq 1 hbx;have f2:=abq 2 hbx;have hbw:=aa4 hbx;have HX:=Lib.hid hbx;have HU:Hid (Upd [] w w1):=((Upd.refl [] w).alloc _).trans (hu.mono (by simp));clear hu hbx;go_wp2_with fail;obtain ⟨r0,r1,r2⟩:=aXc HX.out (.int .i64 p.var) (.int .u32 p.lo) (.int .u32 p.hi) (.cells #[.int .i64 p.var,.int .u32 p.lo,.int .u32 p.hi] 142 (0,0));refine bodyPost_ret (v:=.agg #[.int .i64 p.var,.int .u32 p.lo,.int .u32 p.hi]) (by simp [results,Tryz.results135,go_sem,r0,r1,r2]) rfl ⟨rfl,?_⟩;exact (((HU.out.setCell (.inr (Nat.le_refl _)) _).setCell (.inr (Nat.le_refl _)) _).setCell (.inr (Nat.le_refl _)) _).alloc _
def KV.room (K:KV) (more:Int):Bool:=decide ((K.A.used:Int)+more<=(K.A.places:Int))
theorem aBo (b:Nat) (more:Int) (K:KV) (T:List DM) (q:abM) (w:World) (h:abv w b K T q) (hm0:0<=more) (hm:more<=1073741824) :
  Calls Tryz.prog 143 #[.pointer (some ⟨b,0,none⟩),.int .i64 more] w fun e w'=>e=.returned (.bool (K.room more))/\Upd [] w w':=by
 have hc0:w.cell? ⟨b,0,none⟩=some (.pointer (some ⟨q.a,0,none⟩)):=aac h.blk rfl;have HA:=Lib.hid h.ar;have h1:=h.ar.ok.us;have h2:=h.ar.ok.lp;have h3:=h.ar.ok.pm
 have hu:K.A.used<=1048576:=by omega
 have e1:IntKind.i64.wrap ((K.A.used:Int)+more)=(K.A.used:Int)+more:=IntWalk.i64_in _ (by omega);have hR:Hid (K.room more=decide ((K.A.used:Int)+more<=(K.A.places:Int))):=rfl;clear h h1 h2
 go_enter Tryz.func143,Tryz.ntmps143
 go_wp2_with fail
 go_quiet ((first | (go_at_call 87;exact Calls.quiet_of_same (((aAV q.a q.FA K.A _ (HA.out.upd ((Upd.refl [] w).drewN _) (by simp))).mono fun _ _ ⟨a,b⟩=>⟨a,b.symm⟩))) | (go_at_call 136;exact Calls.quiet_of_same (((av2 q.a q.FA K.A _ (HA.out.upd ((Upd.refl [] w).drewN _) (by simp))).mono fun _ _ ⟨a,b⟩=>⟨a,b.symm⟩)))))
 go_wp2_with fail;go_ret;exact ⟨by rw [hR.out];rfl,(Upd.refl _ _).drewN _⟩
theorem abv.useCell {w:World} {b r:Nat} {K:KV} {T:List DM} {q:abM} (h:abv w b K T q) (hr:r<K.uses.length) :
  ∃ g c,q.uv=.slice (some ⟨g,0,none⟩) K.uses.length c/\w.cell? ⟨b,2,none⟩=some (.slice (some ⟨g,0,none⟩) K.uses.length c)/\w.cell? ⟨g,r,none⟩=some (.int .i32 (K.use r))/\w.frozen? ⟨g,r,none⟩=false/\g∈q.all b:=by
 have hu:=h.us;obtain ⟨g,c,hq,_,_⟩:=hu.form (by omega);refine ⟨g,c,hq,by rw [<- hq];exact aac h.blk rfl,?_,?_,abM.mem.2 (.inr (.inr (.inr (.inl (by rw [hq];rfl)))))⟩
 ·rw [hq] at hu
  refine abf hu ?_
  simp [ahk,KV.use,hr]
 ·rw [hq] at hu;exact aci hu r
theorem abv.holdCell {w:World} {b r:Nat} {K:KV} {T:List DM} {q:abM} (h:abv w b K T q) (hr:r<K.holds.length) :
  ∃ g c,q.hv=.slice (some ⟨g,0,none⟩) K.holds.length c/\w.cell? ⟨b,3,none⟩=some (.slice (some ⟨g,0,none⟩) K.holds.length c)/\w.cell? ⟨g,r,none⟩=some (.int .i32 (K.hold r))/\w.frozen? ⟨g,r,none⟩=false/\g∈q.all b:=by
 have hu:=h.hs;obtain ⟨g,c,hq,_,_⟩:=hu.form (by omega);refine ⟨g,c,hq,by rw [<- hq];exact aac h.blk rfl,?_,?_,abM.mem.2 (.inr (.inr (.inr (.inr (.inl (by rw [hq];rfl))))))⟩
 ·rw [hq] at hu
  refine abf hu ?_
  simp [ahk,KV.hold,hr]
 ·rw [hq] at hu;exact aci hu r
theorem aKO (b r:Nat) (K:KV) (T:List DM) (q:abM) (w:World) (h:abv w b K T q) (h2:2<=r) (hr:r<K.uses.length) (hb:K.use r+1<=2147483647) (amm:r<=4294967295) :
  Calls Tryz.prog 147 #[.pointer (some ⟨b,0,none⟩),.int .u32 r] w fun e w'=>e=.returned (.tuple #[])/\abv w' b (K.useK r) T q/\Upd (q.all b) w w':=by
 obtain ⟨g,c,hq,c2,cu,fu,hg⟩:=h.useCell hr;have hE:=And.intro (h.setUse (n:=K.use r+1) hq hr) ((Upd.refl (q.all b) w).setCell (p:=⟨g,r,none⟩) (.inl hg) (.int .i32 ((K.use r+1:Nat))))
 simp only [Int.natCast_add,Int.cast_ofNat_Int] at hE
 have HE:=Lib.hid hE
 have hd:(1:Int)<(r:Int):=by omega
 have hrl:(r:Int)<(K.uses.length:Int):=by omega
 have hus:K.uses.length<=9223372036854775807:=by have:=(ajT (hq ▸ h.us)).2;unfold maxLen at this;omega
 clear h hq hE
 go_enter Tryz.func147,Tryz.ntmps147
 go_wp2_with fail;go_end0;exact ⟨rfl,HE.out⟩
theorem aIa (b r:Nat) (w:World) (h2:r<2) :
  Calls Tryz.prog 147 #[.pointer (some ⟨b,0,none⟩),.int .u32 r] w fun e w'=>e=.returned (.tuple #[])/\w=w':=by
 have hd:decide ((1:Int)<(r:Int))=false:=by simp;omega
 have hd2:decide (1<r)=false:=by simp;omega
 go_enter Tryz.func147,Tryz.ntmps147
 go_wp2_with fail;go_end0;exact ⟨rfl,rfl⟩
def nkp (p:abu):Lit:=nk p.var p.lo p.hi
structure afg (T:List DM) (K:KV) (X:List Nat):Prop where
 len:T.length=K.vars
 dom:∀ (v:Nat) (D:DM) (k:Lit),T[v]?=some D->Maps.has D k=true->∃ (r:Nat) (p:abu),2<=r/\K.A.list[r]?=some p/\p.taken=true/\p.var=(v:Int)/\k=nkp p/\r∉X
 at_:∀ (r:Nat) (p:abu) (D:DM),2<=r->K.A.list[r]?=some p->p.taken=true->r∉X->T[p.var.toNat]?=some D->Maps.has D (nkp p)=true/\∀ z,D.atKey (nkp p) z=.lit (.int .u32 r)
 im:∀ (D:DM),D∈T->IsMap D
theorem aNd {K:KV} {P:List Nat} (h:K.Wf P) {r s:Nat} {p c:abu} (hr:2<=r) (hs:2<=s) (hp:K.A.list[r]?=some p) (hc:K.A.list[s]?=some c) (hpt:p.taken=true) (hct:c.taken=true) (e:nkp p=nkp c) :
  p.var=c.var/\p.lo=c.lo/\p.hi=c.hi:=by
 have h1:=h.vr r p hr hp hpt;have h2:=h.vr s c hs hc hct;have h3:=h.vs;have h4:=h.ok.u32 p (List.mem_of_getElem? hp);have h5:=h.ok.u32 c (List.mem_of_getElem? hc);exact atK (wfI (by omega) (by omega)) (wfR h4.1) (wfR h4.2.1) (wfI (by omega) (by omega)) (wfR h5.1) (wfR h5.2.1) e
theorem afg.uniq {T:List DM} {K:KV} {X P:List Nat} (h:afg T K X) (hw:K.Wf P) {r s:Nat} {p c:abu} (hr:2<=r) (hs:2<=s) (hp:K.A.list[r]?=some p) (hc:K.A.list[s]?=some c) (hpt:p.taken=true) (hct:c.taken=true)
  (hrx:r∉X) (hsx:s∉X) (e:nkp p=nkp c):r=s:=by
 have hv:=h.len;have h1:=hw.vr r p hr hp hpt;obtain ⟨e1,_,_⟩:=aNd hw hr hs hp hc hpt hct e
 have hl:p.var.toNat<T.length:=by omega
 have hD:T[p.var.toNat]?=some T[p.var.toNat]:=List.getElem?_eq_getElem hl;have g1:=(h.at_ r p _ hr hp hpt hrx hD).2 .nil;have g2:=(h.at_ s c _ hs hc hct hsx (by rw [<- e1];exact hD)).2 .nil;rw [e,g2] at g1
 simp at g1
 omega
theorem afg.size {T:List DM} {K:KV} {X P:List Nat} (h:afg T K X) (hw:K.Wf P) {v:Nat} {D:DM} (hv:T[v]?=some D) (hc:Maps.Canon D) (ht:Tidy D):Maps.size D<=1048576:=by
 have:=ai7 hc (ks:=K.A.list.map nkp) (fun k hk=>by
  obtain ⟨r,p,_,hp,_,_,rfl,_⟩:=h.dom v D k hv hk
  exact List.mem_map.2 ⟨p,List.mem_of_getElem? hp,rfl⟩) ht
 have h2:=hw.ok.lp;have h3:=hw.ok.pm
 simp at this
 omega
theorem afg.same {T:List DM} {K K':KV} {X:List Nat} (h:afg T K X) (hA:K'.A=K.A) (hv:K'.vars=K.vars):afg T K' X :=
 ⟨by rw [hv];exact h.len,by rw [hA];exact h.dom,by rw [hA];exact h.at_,h.im⟩
theorem afg.gone {T:List DM} {K:KV} {P:List Nat} (h:afg T K []) (hw:K.Wf P) {r v:Nat} {p:abu} {D:DM} (hr:2<=r) (hp:K.A.list[r]?=some p) (hpt:p.taken=true) (hv:p.var=(v:Int)) (hD:T[v]?=some D) :
  afg (T.set v (D.del (nkp p))) (K.gone r) []:=by
 have hvl:=(List.getElem?_eq_some_iff.1 hD).1;have hlt:=(List.getElem?_eq_some_iff.1 hp).1;refine ⟨by simpa [KV.gone] using h.len,?_,?_,?_⟩
 ·intro u D2 k hu hk
  have key:∀ (s:Nat) (c:abu),2<=s->K.A.list[s]?=some c->c.taken=true->s≠r->(K.gone r).A.list[s]?=some c:=by
   intro s c _ hc _ hne
   simp only [KV.gone,aaU.drop]
   rw [List.getElem?_set_ne (Ne.symm hne)];exact hc
  by_cases e:u=v
  ·subst e
   rw [List.getElem?_set_self hvl] at hu;cases hu
   by_cases e2:k=nkp p
   ·subst e2;rw [has_del_same] at hk;cases hk
   ·rw [has_del_other e2] at hk
    obtain ⟨s,c,h1,h2,h3,h4,h5,h6⟩:=h.dom u D k hD hk;refine ⟨s,c,h1,key s c h1 h2 h3 ?_,h3,h4,h5,by simp⟩;rintro rfl
    rw [hp] at h2;cases h2;exact e2 h5
  ·rw [List.getElem?_set_ne (Ne.symm e)] at hu
   obtain ⟨s,c,h1,h2,h3,h4,h5,h6⟩:=h.dom u D2 k hu hk;refine ⟨s,c,h1,key s c h1 h2 h3 ?_,h3,h4,h5,by simp⟩;rintro rfl
   rw [hp] at h2;cases h2
   rw [hv] at h4;omega
 ·intro s c D2 hs hc hct _ hD2
  have hne:s≠r:=by
   rintro rfl
   simp only [KV.gone,aaU.drop] at hc
   rw [List.getElem?_set_self hlt] at hc;cases hc;simp [abu.zero] at hct
  simp only [KV.gone,aaU.drop] at hc
  rw [List.getElem?_set_ne (Ne.symm hne)] at hc
  by_cases e:c.var.toNat=v
  ·rw [e,List.getElem?_set_self hvl] at hD2;cases hD2
   have hk:nkp c≠nkp p:=fun e2=>hne (h.uniq hw hs hr hc hp hct hpt (by simp) (by simp) e2)
   obtain ⟨g1,g2⟩:=h.at_ s c D hs hc hct (by simp) (by rw [e];exact hD);rw [has_del_other hk];exact ⟨g1,fun z=>by rw [atKey_del_other hk];exact g2 z⟩
  ·rw [List.getElem?_set_ne (Ne.symm e)] at hD2
   exact h.at_ s c D2 hs hc hct (by simp) hD2
 ·intro D2 hD2
  rcases List.mem_or_eq_of_mem_set hD2 with h1 | rfl
  ·exact h.im D2 h1
  ·exact (h.im D (List.mem_of_getElem? hD)).del _
structure KV.Le (K' K:KV):Prop where
 nd:∀ (r:Nat) (p:abu),K'.A.list[r]?=some p->p.taken=true->K.A.list[r]?=some p
 pl:K'.A.places=K.A.places
 us:K'.A.used<=K.A.used
 hd:K'.holds=K.holds
 vr:K'.vars=K.vars
 od:K'.order=K.order
 lv:K'.level=K.level
 tr:K'.trail=K.trail
theorem KV.Le.refl (K:KV):K.Le K:=⟨fun _ _ h _=>h,rfl,Nat.le_refl _,rfl,rfl,rfl,rfl,rfl⟩
theorem KV.Le.trans {A B C:KV} (h:A.Le B) (k:B.Le C):A.Le C :=
 ⟨fun r p h1 h2=>k.nd r p (h.nd r p h1 h2) h2,h.pl.trans k.pl,Nat.le_trans h.us k.us,h.hd.trans k.hd,h.vr.trans k.vr,h.od.trans k.od,h.lv.trans k.lv,h.tr.trans k.tr⟩
theorem KV.less_le (K:KV) (r:Nat):(K.less r).Le K:=⟨fun _ _ h _=>h,rfl,Nat.le_refl _,rfl,rfl,rfl,rfl,rfl⟩
theorem KV.gone_le (K:KV) (r:Nat):(K.gone r).Le K:=by
 refine ⟨fun s p h ht=>?_,rfl,by simp [KV.gone,aaU.drop],rfl,rfl,rfl,rfl,rfl⟩
 simp only [KV.gone,aaU.drop] at h
 by_cases e:s=r
 ·subst e
  by_cases hl:s<K.A.list.length
  ·rw [List.getElem?_set_self hl] at h;cases h;simp [abu.zero] at ht
  ·rw [List.getElem?_eq_none (by simpa using hl)] at h;cases h
 ·rw [List.getElem?_set_ne (Ne.symm e)] at h;exact h
theorem KV.Pos.less {K:KV} {P:List Nat} {r:Nat} (h:K.Pos) (hw:K.Wf (r::P)) (hr:2<=r) (hu:1<K.use r):(K.less r).Pos:=by
 intro s hs ht
 show 0<(K.uses.set r (K.use r-1)).getD s 0
 rw [afx (hw.tu r hr (hw.pt r (by simp)))];split
 ·omega
 ·exact h s hs ht
theorem KV.Pos.gone {K:KV} {P:List Nat} {r:Nat} (h:K.Pos) (hw:K.Wf (r::P)) (hr:2<=r):(K.gone r).Pos:=by
 intro s hs ht
 have hl:=hw.tu r hr (hw.pt r (by simp));have hlt:=aaU.tk_lt (hw.pt r (by simp))
 show 0<(K.uses.set r 0).getD s 0
 rw [afx hl]
 have:(K.gone r).A.tk s=if s=r then false else K.A.tk s:=aGF hlt
 rw [this] at ht
 split at ht
 ·cases ht
 ·rename_i e
  rw [if_neg e];exact h s hs ht
end Go.Proofs.YtdackeldhdchaaaGreat
