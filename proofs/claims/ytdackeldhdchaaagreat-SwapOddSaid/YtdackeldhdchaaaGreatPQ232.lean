import Derived.Test.YtdackeldhdchaaaGreatPQ231
import Derived.Test.YtdackeldhdchaaaGreatPQ230
import Derived.Test.YtdackeldhdchaaaGreatPQ216
import Derived.Test.YtdackeldhdchaaaGreatPQ229
import Derived.Test.YtdackeldhdchaaaGreatPQ225
import Derived.Test.YtdackeldhdchaaaGreatPQ27
import Derived.Test.YtdackeldhdchaaaGreatPQ28
import Derived.Test.YtdackeldhdchaaaGreatPQ228
set_option maxRecDepth 100000
set_option maxHeartbeats 3200000
namespace Go.Proofs.YtdackeldhdchaaaGreat
open Go.RowKit Go.Maps Go.ChangeMaps Go.WideShapes
structure aQk (n room:Int) (tn ln:Nat) (Ts:List amX) (w:World) (e:Ending) (w':World):Prop where
 ex:∃ B:Bool,e=.returned (.bool B)/\Upd [] w w'/\(B=true->aK8 n room tn ln Ts)
theorem aK9 (n room:Int) (ta la:Option Addr) (tn tc ln lc:Nat) (Ts:List amX) (w:World) (h:apH w ta tn tc Ts) (hln:ln<=maxLen) :
  Calls Tryz.prog 12 #[.agg #[.int .i64 n,.int .i64 room,.slice ta tn tc,.slice la ln lc]] w fun e w'=>aQk n room tn ln Ts w e w':=by
 have HT:=Lib.hid h;have htl:tn<=maxLen:=Nat.le_trans h.nc h.cm;have HB:=Lib.hid (heap_alloc_new w (.cells #[.int .i64 n,.int .i64 room,.slice ta tn tc,.slice la ln lc] 25 (0,0)));obtain ⟨w0,hw0⟩ : ∃ w0,w.alloc (.cells #[.int .i64 n,.int .i64 room,.slice ta tn tc,.slice la ln lc] 25 (0,0))=w0:=⟨_,rfl⟩
 have hu0:Upd [] w w0:=by rw [<- hw0];exact (Upd.refl _ _).alloc _
 rw [hw0] at HB;have HU0:=Lib.hid hu0;have HW0:=Lib.hid hw0
 have HCL:Hid (∀ z,Upd [] w0 z->z.cell? ⟨w.heap.size,0,none⟩=some (.int .i64 n)/\z.cell? ⟨w.heap.size,1,none⟩=some (.int .i64 room)/\z.cell? ⟨w.heap.size,2,none⟩=some (.slice ta tn tc)/\z.cell? ⟨w.heap.size,3,none⟩=some (.slice la ln lc)):=fun z u=>by
  have hb:=(u.block _ (aa4 HB.out) (by simp)).trans HB.out;exact ⟨aac hb rfl,aac hb rfl,aac hb rfl,aac hb rfl⟩
 unfold maxLen at hln htl;obtain ⟨x0,x1,x2,x3⟩:=HCL.out _ (Upd.refl _ _);clear h hw0 hu0;obtain ⟨b1,hb1⟩ : ∃ b,decide (n<1)=b:=⟨_,rfl⟩;have H1:=Lib.hid hb1;obtain ⟨b2,hb2⟩ : ∃ b,decide (8<n)=b:=⟨_,rfl⟩;have H2:=Lib.hid hb2;obtain ⟨b3,hb3⟩ : ∃ b,decide (room<2)=b:=⟨_,rfl⟩;have H3:=Lib.hid hb3;obtain ⟨b4,hb4⟩ : ∃ b,decide (1048576<room)=b:=⟨_,rfl⟩;have H4:=Lib.hid hb4;obtain ⟨b5,hb5⟩ : ∃ b,decide (40<(tn:Int))=b:=⟨_,rfl⟩;have H5:=Lib.hid hb5;obtain ⟨b6,hb6⟩ : ∃ b,decide (200<(ln:Int))=b:=⟨_,rfl⟩;have H6:=Lib.hid hb6
 by_cases hbad:(b1||b2||b3||b4||b5||b6)=true
 ·have hno:∀ z,Upd [] w z->aQk n room tn ln Ts w (.returned (.bool false)) z:=fun z u=>⟨false,rfl,u,fun h=>by cases h⟩
  have HNO:=Lib.hid hno;clear hno
  cases b1 <;> cases b2 <;> cases b3 <;> cases b4 <;> cases b5 <;> cases b6 <;> (first | (exact absurd hbad (by decide)) | (
   clear hbad
   go_enter Tryz.func12,Tryz.ntmps12
   go_upto_region 1 with fail;rw [HW0.out];go_wp2_with fail;go_ret
   exact HNO.out _ HU0.out))
 ·have hg:b1=false/\b2=false/\b3=false/\b4=false/\b5=false/\b6=false:=by
   simp only [Bool.or_eq_true,not_or,Bool.not_eq_true] at hbad
   exact ⟨hbad.1.1.1.1.1,hbad.1.1.1.1.2,hbad.1.1.1.2,hbad.1.1.2,hbad.1.2,hbad.2⟩
  obtain ⟨rfl,rfl,rfl,rfl,rfl,rfl⟩:=hg;clear hbad
  have H0:Hid ((1<=n/\n<=8)/\(2<=room/\room<=1048576)/\tn<=40/\ln<=200):=by
   have a1:=of_decide_eq_false H1.out;have a2:=of_decide_eq_false H2.out;have a3:=of_decide_eq_false H3.out;have a4:=of_decide_eq_false H4.out;have a5:=of_decide_eq_false H5.out;have a6:=of_decide_eq_false H6.out;exact ⟨⟨by omega,by omega⟩,⟨by omega,by omega⟩,by omega,by omega⟩
  have a3s:=H0.out.2.2.1;clear H1 H2 H3 H4 H5 H6 hln htl
  go_enter Tryz.func12,Tryz.ntmps12
  go_upto_region 1 with fail;rw [HW0.out];go_wp2_with fail;clear hb1 hb2 hb3 hb4 hb5 hb6
  go_loopg [38] tn (fun g s38 wr=>∃ i:Nat,tn-i=g/\i<=tn/\s38=.int .i64 i/\Upd [] w0 wr/\∀ j t,j<i->Ts[j]?=some t->t.n=n/\t.tv.Ok)
  case atStart=>exact ⟨0,by omega,by omega,rfl,Upd.refl _ _,fun j t hj=>by omega⟩
  case round =>
   obtain ⟨i,rfl,hi,rfl,hU,hok⟩:=hrel;have HOK:=Lib.hid hok;have HU:=Lib.hid hU;clear hok x0 x1 x2 x3
   by_cases hlt:i<tn
   ·have hil:(i:Int)<(tn:Int):=by omega
    obtain ⟨g,t,rfl,ht,c0,c1,hr⟩:=(HT.out.keep0 (HU0.out.trans hU)).at_ i hlt;rw [Addr.add_succ' _ 0] at c1
    simp only [Nat.zero_add] at c1
    have HTT:=Lib.hid ht;obtain ⟨tN,htN⟩ : ∃ tN,t.n=tN:=⟨_,rfl⟩;obtain ⟨tA,htA⟩ : ∃ tA,t.a=tA:=⟨_,rfl⟩;obtain ⟨tL,htL⟩ : ∃ tL,t.len=tL:=⟨_,rfl⟩;obtain ⟨tC,htC⟩ : ∃ tC,t.cap=tC:=⟨_,rfl⟩;rw [htN] at c0;rw [htA,htL,htC] at c1 hr
    have HTV:Hid (TV.Ok ⟨tN.toNat,t.ws⟩->t.tv.Ok):=by rw [<- htN];exact fun h=>h
    have HTN:=Lib.hid htN;clear htN htA htL htC ht;have hbx:=heap_alloc_new wr (.cells #[.int .i64 tN,.slice tA tL tC] 121 (0,0));have hu6:Upd [] wr (wr.alloc (.cells #[.int .i64 tN,.slice tA tL tC] 121 (0,0))):=(Upd.refl _ _).alloc _;obtain ⟨w6,hw6⟩ : ∃ w6,wr.alloc (.cells #[.int .i64 tN,.slice tA tL tC] 121 (0,0))=w6:=⟨_,rfl⟩;rw [hw6] at hbx hu6;have HW6:=Lib.hid hw6;have y0:w6.cell? ⟨wr.heap.size,0,none⟩=some (.int .i64 tN):=aac hbx rfl;have y1:w6.cell? ⟨wr.heap.size,1,none⟩=some (.slice tA tL tC):=aac hbx rfl;have x0:=(HCL.out w6 (HU.out.trans hu6)).1;have HU6:=Lib.hid hu6;have HR:=Lib.hid (hr.keep0 hu6);clear hU hr hw6 hbx hu6
    by_cases hn:tN=n
    ·have hN:tN=((tN.toNat:Nat):Int):=by have h1:=H0.out.1;omega
     have HFM:=Lib.hid (aGc tN.toNat tA tL tC t.ws w6 (by have h1:=H0.out.1;omega) HR.out);have HNE:=Lib.hid hn;rw [<- hN] at HFM
     have hnn:(tN != n)=false:=by rw [hn];simp
     clear hn hN;go_upto_region 6 with fail;rw [HW6.out];go_wp2_with fail;refine HFM.out.mono ?_;rintro e w7 hE;obtain ⟨B,rfl,hu7,hB⟩:=hE.ex;have HB7:=Lib.hid (And.intro hu7 hB);clear hE hu7 hB;cases B
     ·go_wp2_with fail
      go_ret;exact ⟨false,rfl,HU0.out.trans (HU.out.trans (HU6.out.trans HB7.out.1)),fun h=>by cases h⟩
     ·go_wp2_with fail
      go_roundg (tn-(i+1))
      case measure=>omega
      case rel =>
       refine ⟨i+1,rfl,by omega,by simp,HU.out.trans (HU6.out.trans HB7.out.1),fun j t' hj ht'=>?_⟩
       by_cases hji:j=i
       ·subst hji
        rw [HTT.out] at ht'
        injection ht' with ht'
        subst ht';exact ⟨HTN.out.trans HNE.out,HTV.out (HB7.out.2 (by simp))⟩
       ·exact HOK.out j t' (by omega) ht'
    ·have hnn:(tN != n)=true:=by simpa using hn
     clear hn;go_upto_region 6 with fail;rw [HW6.out];go_wp2_with fail;go_ret;exact ⟨false,rfl,HU0.out.trans (HU.out.trans HU6.out),fun h=>by cases h⟩
   ·obtain rfl:i=tn:=by omega
    have hil:¬ ((i:Int)<(i:Int)):=by omega
    clear hU;go_wp2_with fail;go_ret
    exact ⟨true,rfl,HU0.out.trans HU.out,fun _=>⟨H0.out.1,H0.out.2.1,H0.out.2.2.1,H0.out.2.2.2,fun t ht=>by
     obtain ⟨j,hj⟩:=List.mem_iff_getElem?.1 ht;have hl:=(List.getElem?_eq_some_iff.1 hj).1;rw [HT.out.len] at hl
     exact HOK.out j t hl hj⟩⟩
theorem aQl {w:World} {g k:Nat} {C:Array Value} {t:TypeId} {fr:Nat × Nat} {n c:Nat} (h:w.heap[g]?=some (.cells C t fr)) (hk:(Value.slice (some ⟨g,0,none⟩) n c).ownBlock=some k):k<w.heap.size:=by
 have h1:g=k:=by simpa [Value.ownBlock] using hk
 subst h1;exact aa4 h
structure ChQ (w:World) (e:Ending) (w':World):Prop where
 ex:∃ g:Nat,e=.returned (.agg #[.int .i64 3,.slice (some ⟨g,0,none⟩) 1 1])/\w'.heap[g]?=some (.cells #[.int .u64 216] 90 (0,0))/\w.heap.size<=g/\Upd [] w w'
theorem aEq (w:World):Calls Tryz.prog 49 #[] w fun e w'=>ChQ w e w':=by
 have hb1:=heap_alloc_new (w.alloc (.cells #[.int .i64 3,.slice (some ⟨w.heap.size+1,0,none⟩) 1 1] 121 (0,0))) (.cells #[.int .u64 216] 90 (0,0));rw [World.size_alloc] at hb1
 have hb0:((w.alloc (.cells #[.int .i64 3,.slice (some ⟨w.heap.size+1,0,none⟩) 1 1] 121 (0,0))).alloc (.cells #[.int .u64 216] 90 (0,0))).heap[w.heap.size]?=some (.cells #[.int .i64 3,.slice (some ⟨w.heap.size+1,0,none⟩) 1 1] 121 (0,0)) :=
  (Below.heap_alloc _ _ _ (aa4 (heap_alloc_new _ _))).trans (heap_alloc_new _ _)
 have z0:=aac (j:=0) hb0 rfl;have z1:=aac (j:=1) hb0 rfl;have hu:=((Upd.refl [] w).alloc (.cells #[.int .i64 3,.slice (some ⟨w.heap.size+1,0,none⟩) 1 1] 121 (0,0))).alloc (.cells #[.int .u64 216] 90 (0,0));have HE:Hid (ChQ w (.returned (.agg #[.int .i64 3,.slice (some ⟨w.heap.size+1,0,none⟩) 1 1])) _):=⟨_,rfl,hb1,Nat.le_succ _,hu⟩;clear hb0 hb1 hu
 go_enter Tryz.func49,Tryz.ntmps49
 go_wp2_with fail;refine bodyPost_ret (v:=.agg #[.int .i64 3,.slice (some ⟨w.heap.size+1,0,none⟩) 1 1]) (by simp [results,Tryz.results49,go_sem,z0,z1]) rfl HE.out
theorem aCQ (w:World):Calls Tryz.prog 11 #[] w fun e w'=>e=.returned (.bool true)/\Upd [] w w':=by
 go_enter Tryz.func11,Tryz.ntmps11
 go_wp2_with fail;refine (aEq w).mono ?_;rintro e w1 hE;obtain ⟨g,rfl,hb,hg,hu1⟩:=hE.ex;have hb2:=heap_alloc_new w1 (.cells #[.int .i64 3,.slice (some ⟨g,0,none⟩) 1 1] 121 (0,0));have hu2:Upd [] w1 (w1.alloc (.cells #[.int .i64 3,.slice (some ⟨g,0,none⟩) 1 1] 121 (0,0))):=(Upd.refl _ _).alloc _;obtain ⟨w2,hw2⟩ : ∃ w2,w1.alloc (.cells #[.int .i64 3,.slice (some ⟨g,0,none⟩) 1 1] 121 (0,0))=w2:=⟨_,rfl⟩;rw [hw2] at hb2 hu2
 have hro:w2.ownsRow 0 90 1 (.slice (some ⟨g,0,none⟩) 1 1) 1 (aff [216]):=aaX (w:=w1) ⟨rfl,.inr ⟨g,1,_,rfl,Nat.zero_le _,hb,Nat.le_refl _,by unfold maxLen;omega,rfl,rfl⟩⟩ fun k hk=>hu2.block k (aQl hb hk) (by simp)
 have hT:TIn w2 [] (.slice (some ⟨g,0,none⟩) 1 1) chT:=⟨aKX,aq6.of hro,by simp⟩
 have hL:aq8 w2 (.slice (some ⟨w1.heap.size,0,none⟩) 1 1) [chT]:=⟨some ⟨w1.heap.size,0,none⟩,1,rfl,by unfold maxLen;simp,fun i t ht=>by
  obtain rfl:i=0:=by have h1:=(List.getElem?_eq_some_iff.1 ht).1;simp at h1;omega
  simp at ht;subst ht
  exact ⟨_,_,rfl,(show w2.cell? ((⟨w1.heap.size,0,none⟩ : Addr).add (0*2))=some (.int .i64 (3:Nat)) from aKv (aac (j:=0) hb2 rfl)),aHY (i:=0) (aac (j:=1) hb2 rfl),_,hT.any⟩⟩
 have HBG:=Lib.hid (ay6 3 10 _ [chT] none 0 0 [] w2 (by omega) (by omega) hL (by simp) (by intro t ht;simp at ht;subst ht;exact ⟨aKX,rfl⟩) ⟨rfl,by unfold maxLen;omega,fun i hi=>by omega⟩ (by omega));have HW2:=Lib.hid hw2;have HU2:=Lib.hid (hu1.trans hu2);clear hT hro hL hb hb2 hu1 hu2 hw2 hg;go_wp2_with fail;rw [HW2.out];refine HBG.out.mono ?_;rintro e w3 hE;obtain ⟨a,b,m,rv,tv,K,F,p,refs,rfl,hP,hl,_,hvr,_,_,hu3⟩:=hE.ex;have hM:(aqQ 3 10 [chT]).1.exchs []=M15:=rfl;rw [hM] at hP hl;obtain ⟨v1,v2,v3,v4,v5,v6,v7⟩:=aKY;obtain ⟨q1,q2,q3⟩:=aK2;obtain ⟨MM,hMM⟩ : ∃ MM,M15=MM:=⟨_,rfl⟩;rw [hMM] at hP hl v1 v2 v3 v4 v5 v6 v7 q1 q2 q3;clear hMM hM;have HP:=Lib.hid (And.intro hP (And.intro hl.km hvr));have HU3:=Lib.hid (HU2.out.trans hu3)
 have HCA:Hid (∀ S z,Upd S w3 z->a∉S->z.cell? ⟨a,0,none⟩=some (.pointer (some ⟨b,0,none⟩))):=fun S z u h=>(u.cell (aa4 hP.blk) h).trans hP.cells.1
 have hRM:=aNh b 0 K F MM w3 hP.mem.ker hl.km (by omega);rw [v2,v3] at hRM;have HRM:=Lib.hid hRM;have a3:=HCA.out [] w3 (Upd.refl _ _) (by simp);clear hE hP hl hvr hu3 hRM HBG;go_wp2_with fail;refine HRM.out.mono ?_;rintro e w4 ⟨rfl,hu4⟩;have HU4:=Lib.hid hu4;have a4:=HCA.out [] w4 hu4 (by simp);clear hu4 a3;go_wp2_with fail;have hK4:=HP.out.1.mem.ker.upd HU4.out (by simp);refine (aKA b 0 K F MM w4 hK4 HP.out.2.1 (by omega)).mono ?_;rintro e w5 hE;obtain ⟨K5,F5,rfl,hK5,hm5,aTs,aQm⟩:=hE.ex;rw [v4,v5];unfold chV;have hu5:Upd F w3 w5:=(HU4.out.mono (by simp):Upd F w3 w4).trans aQm.up;have hbx:=heap_alloc_new w5 (.cells #[.int .i64 0,.int .i64 3,.int .i64 4] 46 (0,0));have hux:Upd [] w5 (w5.alloc (.cells #[.int .i64 0,.int .i64 3,.int .i64 4] 46 (0,0))):=(Upd.refl _ _).alloc _;have HNA:=Lib.hid HP.out.1.na.1;have a6:=HCA.out F (w5.alloc (.cells #[.int .i64 0,.int .i64 3,.int .i64 4] 46 (0,0))) (hu5.trans (hux.mono (by simp))) HNA.out;have HQ5:=Lib.hid (And.intro hK5 (And.intro hm5 (And.intro aTs (And.intro aQm (And.intro hu5 hbx)))));clear hE hK5 hm5 aTs aQm hK4 a4 hu5 hbx hux;obtain ⟨w6,hw6⟩ : ∃ w6,w5.alloc (.cells #[.int .i64 0,.int .i64 3,.int .i64 4] 46 (0,0))=w6:=⟨_,rfl⟩;have HW6:=Lib.hid hw6
 have hu6:Upd [] w5 w6:=by rw [<- hw6];exact (Upd.refl _ _).alloc _
 have hb6:=HQ5.out.2.2.2.2.2;rw [hw6] at a6 hb6;have HU6:=Lib.hid (And.intro hu6 hb6);have hBK:=aNi b 0 K5 F5 (MM.exch 0) w6 (HQ5.out.1.upd hu6 (by simp)) HQ5.out.2.1 (by omega) (by omega);rw [show (((0:Nat):Int))=0 from rfl] at hBK;have HBK:=Lib.hid hBK;clear hw6 hu6 hb6 hBK;go_upto_region 6 with fail;rw [HW6.out];go_wp2_with fail;refine HBK.out.mono ?_;rintro e w7 hE;obtain ⟨K7,F7,rfl,hK7,hm7,aTt,aQn⟩:=hE.ex;rw [v6] at hm7 ⊢
 have hu7:Upd F w3 w7:=((HQ5.out.2.2.2.2.1.trans (HU6.out.1.mono (by simp))).then aQn.up fun k hk=>by
  rcases HQ5.out.2.2.2.1.sub k hk with h | h
  ·exact .inl h
  ·exact .inr (Nat.le_trans HU4.out.size h))
 have a7:=HCA.out F w7 hu7 HNA.out;have HQ7:=Lib.hid (And.intro hK7 (And.intro hm7 (And.intro aTt (And.intro aQn hu7))));clear hE hK7 hm7 aTt aQn hu7 a6 HBK;have hb8:=heap_alloc_new w7 (.cells #[.int .i64 0,.int .i64 1] 3 (0,0));have hu8:Upd [] w7 (w7.alloc (.cells #[.int .i64 0,.int .i64 1] 3 (0,0))):=(Upd.refl _ _).alloc _;obtain ⟨w8,hw8⟩ : ∃ w8,w7.alloc (.cells #[.int .i64 0,.int .i64 1] 3 (0,0))=w8:=⟨_,rfl⟩;rw [hw8] at hb8 hu8;have HW8:=Lib.hid hw8
 have hro:alg w8 .i64 (some ⟨w7.heap.size,0,none⟩) 2 [0,1]:=⟨rfl,by unfold maxLen;omega,fun i hi=>⟨_,rfl,by
  rcases (show i=0\/i=1 by omega) with rfl | rfl
  ·exact aac hb8 rfl
  ·exact aac hb8 rfl⟩⟩
 have hPL:=avV b (some ⟨w7.heap.size,0,none⟩) 2 2 [0,1] K7 F7 (MV.backN (1-0) (MM.exch 0)) w8 (HQ7.out.1.upd hu8 (by simp)) HQ7.out.2.1 (by rw [show (1-0:Nat)=1 from rfl,q1];omega) hro (by omega) (fun x hx hm=>by
  injection hx with hx
  subst hx;have:=HQ7.out.1.lt _ hm
  exact absurd this (Nat.lt_irrefl _))
 have HPL:=Lib.hid hPL;have HU8:=Lib.hid hu8;clear hw8 hb8 hu8 hro hPL;go_upto_region 7 with fail;go_wp2_with fail;rw [HW8.out];refine HPL.out.mono ?_;rintro e w9 hE;obtain ⟨v9,K9,F9,rfl,aGd,_,hK9,_,_,aQp⟩:=hE.ex;rw [show (1-0:Nat)=1 from rfl,q3] at aGd;rw [show (1-0:Nat)=1 from rfl,q2];obtain ⟨o9,c9,rfl,_⟩:=abI aGd;obtain ⟨g9,rfl⟩:=aeP aGd (by decide);have d0:w9.cell? ⟨g9,3,none⟩=some (.int .i64 1):=abf aGd rfl;have d1:w9.cell? ⟨g9,4,none⟩=some (.int .i64 4):=abf aGd rfl;have d2:w9.cell? ⟨g9,5,none⟩=some (.int .i64 5):=abf aGd rfl
 have hn5:w5.heap.size∉F5:=fun hm=>by have:=HQ5.out.1.lt _ hm;omega
 have hl5:=aa4 HU6.out.2
 have hn7:w5.heap.size∉F7:=fun hm=>by
  rcases HQ7.out.2.2.2.1.sub _ hm with h | h
  ·exact hn5 h
  ·omega
 have hb7:=(HQ7.out.2.2.2.1.up.block _ hl5 hn5).trans HU6.out.2;have hb8:=(HU8.out.block _ (aa4 hb7) (by simp)).trans hb7;have hb9:=(aQp.up.block _ (aa4 hb8) hn7).trans hb8;have e0:=aac (j:=0) hb9 rfl;have e1:=aac (j:=1) hb9 rfl;have e2:=aac (j:=2) hb9 rfl
 have akU:Hid (Upd [] w w9):=by
  have h7:Upd F w3 w9:=(HQ7.out.2.2.2.2.trans (HU8.out.mono (by simp))).then aQp.up fun k hk=>by
   rcases HQ7.out.2.2.2.1.sub k hk with h | h
   ·rcases HQ5.out.2.2.2.1.sub k h with h | h
    ·exact .inl h
    ·exact .inr (Nat.le_trans HU4.out.size h)
   ·exact .inr (Nat.le_trans (Nat.le_trans HU4.out.size (Nat.le_trans HQ5.out.2.2.2.1.up.size HU6.out.1.size)) h)
  exact HU3.out.then h7 fun k hk=>.inr (by
   have h1:=HP.out.1.lo k (.inl hk);have h2:=HU2.out.size
   omega)
 clear hE aGd hK9 aQp hn5 hl5 hn7 hb7 hb8 hb9 a7;go_wp2_with fail;go_ret;exact ⟨rfl,akU.out⟩
theorem aq8.of_scene {w:World} {ta:Option Addr} {tn tc:Nat} {Ts:List amX} {n:Nat} (h:apH w ta tn tc Ts) (hf:∀ t,t∈Ts->t.n=(n:Int)/\t.tv.Ok):aq8 w (.slice ta tn tc) (Ts.map amX.tv):=by
 have hl:(Ts.map amX.tv).length=tn:=by rw [List.length_map,h.len]
 refine ⟨ta,tc,by rw [hl],by rw [hl];exact Nat.le_trans h.nc h.cm,fun i t ht=>?_⟩;have hi:=(List.getElem?_eq_some_iff.1 ht).1;rw [hl] at hi;obtain ⟨g,r,e1,hr,c0,c1,abP⟩:=h.at_ i hi;rw [List.getElem?_map,hr] at ht
 injection ht with ht
 subst ht;obtain ⟨hn,hok⟩:=hf r (List.mem_of_getElem? hr);have hws:r.tv.ws.length=r.len:=abP.row.len
 have aAe:0<r.len:=by rw [<- hws,hok.len];exact apJ _
 obtain ⟨x,hx,_⟩:=abP.row.at_ 0 aAe
 have hnn:r.n=((r.tv.n:Nat):Int):=by show r.n=((r.n.toNat:Nat):Int);omega
 refine ⟨g,.slice r.a r.len r.cap,e1,by rw [c0,hnn],c1,w.heap.size,⟨hok,⟨⟨r.a,r.cap,by rw [hws],.inr ⟨x,hx⟩⟩,fun y n' m e j u hj=>?_,fun k hk=>?_,fun k hk=>.inr ⟨⟨_,List.mem_singleton.2 rfl⟩,fun z hz=>?_⟩⟩,fun k hk hm=>?_⟩⟩
 ·injection e with e _ _
  rw [aff,List.getElem?_map] at hj;obtain ⟨v,hv,rfl⟩:=Option.map_eq_some_iff.1 hj;have hjl:=(List.getElem?_eq_some_iff.1 hv).1
  have hjl:j<r.len:=by omega
  obtain ⟨x',hx',hc⟩:=abP.row.at_ j hjl;rw [hx'] at e
  injection e with e
  subst e;rw [hc];have hv':r.ws[j]?=some v:=hv;rw [List.getD_eq_getElem?_getD,hv'];rfl
 all_goals
  have hkl:k<w.heap.size:=by
   obtain ⟨x',hx',hc⟩:=abP.row.at_ 0 aAe;rw [hx'] at hk
   have hb:x'.block=k:=by simpa [Value.ownBlock] using hk
   rw [<- hb];have:=World.block_lt_of_cell? _ _ hc
   rwa [aod] at this
 ·exact ⟨Nat.zero_le _,hkl⟩
 ·rw [List.mem_singleton.1 hz];exact hkl
 ·rw [List.mem_singleton.1 hm] at hkl
  omega
theorem PS.stands {w:World} {n0 a b m n:Nat} {rv tv:Value} {M:MV} {refs:List Nat} {tabs:List TV} (h:PS w n0 a b m n rv tv M refs tabs) :
  Calls Tryz.prog 15 #[.pointer (some ⟨a,0,none⟩)] w fun e w'=>e=.returned (.bool true)/\Upd [] w w':=by
 obtain ⟨K,F,p,h1,h2,_,_⟩:=h.ex;exact aAQ n0 a b m rv tv K F M p refs tabs w h1 h2
theorem aIg (w:World):Calls Tryz.prog 31 #[.pointer none] w fun e w'=>e=.returned (.int .i64 0)/\w'=w:=by
 go_enter Tryz.func31,Tryz.ntmps31
 go_wp2_with fail;go_ret;exact ⟨rfl,rfl⟩
theorem aIh (l:Int) (w:World):Calls Tryz.prog 27 #[.pointer none,.int .i64 l] w fun e w'=>e=.returned (.int .i64 10)/\w'=w:=by
 go_enter Tryz.func27,Tryz.ntmps27
 go_wp2_with fail;go_ret;exact ⟨rfl,rfl⟩
theorem aIi (l:Int) (w:World):Calls Tryz.prog 20 #[.pointer none,.int .i64 l] w fun e w'=>e=.returned (.tuple #[.int .i64 0,.int .i64 0,.int .i64 10])/\Upd [] w w':=by
 have hb0:=heap_alloc_new w (.cells #[.pointer none] 40 (0,0));have hu0:Upd [] w (w.alloc (.cells #[.pointer none] 40 (0,0))):=(Upd.refl _ _).alloc _;obtain ⟨w0,hw0⟩ : ∃ w0,w.alloc (.cells #[.pointer none] 40 (0,0))=w0:=⟨_,rfl⟩;rw [hw0] at hb0 hu0;have HW0:=Lib.hid hw0;have HU0:=Lib.hid hu0;have c0:w0.cell? ⟨w.heap.size,0,none⟩=some (.pointer none):=aac hb0 rfl;clear hb0 hu0 hw0
 go_enter Tryz.func20,Tryz.ntmps20
 go_wp2_with fail;rw [HW0.out];go_wp2_with fail;refine bodyPost_ret (v:=.tuple #[.int .i64 0,.int .i64 0,.int .i64 10]) (by simp [results,Tryz.results20,go_sem]) rfl ⟨rfl,HU0.out⟩
theorem aIj (l:Int) (w:World):Calls Tryz.prog 21 #[.pointer none,.int .i64 l] w fun e w'=>e=.returned (.tuple #[.int .i64 0,.int .i64 10])/\w'=w:=by
 go_enter Tryz.func21,Tryz.ntmps21
 go_wp2_with fail;go_ret2;exact ⟨rfl,rfl⟩
theorem aIk (v:Value) (w:World):Calls Tryz.prog 22 #[.pointer none,v] w fun e w'=>e=.returned (.tuple #[.slice none 0 0,.int .i64 10])/\w'=w:=by
 go_enter Tryz.func22,Tryz.ntmps22
 go_wp2_with fail;go_ret2;exact ⟨rfl,rfl⟩
theorem aLb (l:Int) (w:World):Calls Tryz.prog 18 #[.pointer none,.int .i64 l] w fun e w'=>e=.returned (.tuple #[.agg #[.int .i64 0,.int .i64 0,.int .i64 0],.int .i64 10])/\Upd [] w w':=by
 have hb0:((w.alloc (.cells #[.int .i64 0,.int .i64 0,.int .i64 0] 46 (0,0))).alloc (.cells #[.int .i64 l,.int .i64 0,.int .i64 0] 46 (0,0))).heap[w.heap.size]?=some (.cells #[.int .i64 0,.int .i64 0,.int .i64 0] 46 (0,0)) :=
  (Below.heap_alloc _ _ _ (aa4 (heap_alloc_new _ _))).trans (heap_alloc_new _ _)
 have hu0:Upd [] w ((w.alloc (.cells #[.int .i64 0,.int .i64 0,.int .i64 0] 46 (0,0))).alloc (.cells #[.int .i64 l,.int .i64 0,.int .i64 0] 46 (0,0))):=((Upd.refl _ _).alloc _).alloc _;obtain ⟨w2,hw2⟩ : ∃ w2,(w.alloc (.cells #[.int .i64 0,.int .i64 0,.int .i64 0] 46 (0,0))).alloc (.cells #[.int .i64 l,.int .i64 0,.int .i64 0] 46 (0,0))=w2:=⟨_,rfl⟩;rw [hw2] at hb0 hu0;have HW2:=Lib.hid hw2;obtain ⟨⟨s0,s1,s2,g0,g1,g2⟩,⟨s3,g3⟩,⟨s4,g4⟩,z0,z1,z2⟩:=ch3 hb0 (.int .i64 0) (.int .i64 0) (.int .i64 0);have aME:=Lib.hid (aCH hu0 (Nat.le_refl _) (v0:=.int .i64 0) (v1:=.int .i64 0) (v2:=.int .i64 0));clear hb0 hu0 hw2
 go_enter Tryz.func18,Tryz.ntmps18
 go_wp2_with fail;refine (aIg _).mono ?_;rintro e w1 ⟨rfl,rfl⟩;go_wp2_with fail;rw [HW2.out];refine (aIh l w2).mono ?_;rintro e w3 ⟨rfl,rfl⟩;go_wp2_with fail;refine bodyPost_ret (v:=.tuple #[.agg #[.int .i64 0,.int .i64 0,.int .i64 0],.int .i64 10]) (by simp [results,Tryz.results18,go_sem,z0,z1,z2]) rfl ⟨rfl,aME.out⟩
theorem Tryz.infoChangeD:(Tryz.prog.info? 129).map (fun i=>(i.zero,i.size,i.bytes))=some (some (.agg #[.int .i64 0,.int .i64 0,.int .i64 0]),3,24):=by kernel_rfl
theorem aef.young {w w':World} {m k0:Nat} {M:MV} {p:acd} {Z S:List Nat} (h:aef w m M p Z) (u:Upd S w w') (hm:m∈Z)
  (hS:∀ k,k∈S->k∉p.all m/\m<=k/\∃ cs e fr,w.heap[k]?=some (.cells cs e fr)/\90≠e) (_:k0=k0):aef w' m M p Z:=by
 have nm:∀ {k},k∈p.all m->k∉S:=fun hk hx=>(hS _ hx).1 hk
 obtain ⟨cs,h1,h2,h3⟩:=h.hs.ex
 exact ⟨(u.block m (aa4 h.blk) (nm (acd.mem.2 (.inl rfl)))).trans h.blk,aaX h.os fun k hk=>u.block k (h.os.lt k hk).2 (nm (acd.mem.2 (.inr (.inl hk)))),⟨cs,h1,aaX h2 fun k hk=>u.block k (h2.lt k hk).2 (nm (acd.mem.2 (.inr (.inr (.inl hk))))),fun i v d hv hd =>
  (h3 i v d hv hd).foreign u (fun k hk=>(hS k hk).2.2) fun k hk _=>⟨m,hm,(hS k hk).2.1⟩⟩,aaX h.ts fun k hk=>u.block k (h.ts.lt k hk).2 (nm (acd.mem.2 (.inr (.inr (.inr hk))))),h.ne,h.sz⟩
structure aGe (m:Nat) (Ls:List Int) (M:MV) (p:acd) (Z:List Nat) (w:World) (e:Ending) (w':World):Prop where
 ex:∃ v:Value,e=.returned (.tuple #[v,.int .i64 (M.playV Ls).2.1])/\w'.ownsRow w.heap.size 129 3 v (M.playV Ls).1.length (adF (M.playV Ls).1)/\agq m p Z (M.playV Ls).2.2 w w'
structure DPl (m:Nat) (M M2:MV) (p p2:acd) (Z:List Nat) (w:World) (s6:Value) (cs:List (Int × Int × Int)) (wr:World):Prop where
 mod:aef wr m M2 p2 (Z++p2.all m)
 up:Upd (p.all m) w wr
 sub:Sub (p.all m) w (p2.all m)
 fit:M2.Fit
 ol:M2.order.length=M2.n
 row:wr.ownsRow w.heap.size 129 3 s6 cs.length (adF cs)
 nb:∀ k,s6.ownBlock=some k->k∉p2.all m
theorem MV.playV_trail:∀ (l:List Int) (M:MV),(M.playV l).2.2.trail.length<=M.trail.length+l.length/\(M.playV l).1.length<=l.length
 | [],M=>⟨Nat.le_refl _,Nat.le_refl _⟩
 | x::l,M=>by
  unfold MV.playV;split
  ·obtain ⟨h1,h2⟩:=MV.playV_trail l (M.exch x)
   have h3:=(MV.exch_trail M x).1
   simp only [List.length_cons]
   exact ⟨by omega,by omega⟩
  ·exact ⟨by simp,by simp⟩
theorem auJ (m:Nat) (la:Option Addr) (ln lc:Nat) (Ls:List Int) (M:MV) (p:acd) (Z:List Nat) (w:World) (h:aef w m M p Z) (hZ:∀ k,k∈Z->k<w.heap.size) (hf:M.Fit) (ho:M.order.length=M.n) (ht:M.trail.length<=900000) (hL:alg w .i64 la ln Ls) (hln:ln<=1000) (hla:0<ln->∀ x,la=some x->x.block∉p.all m) :
  Calls Tryz.prog 23 #[.pointer (some ⟨m,0,none⟩),.slice la ln lc] w fun e w'=>aGe m Ls M p Z w e w':=by
 obtain ⟨ti,hi2,hz2,hs2,hb2⟩:=info_parts Tryz.infoChangeD;have HI:=Lib.hid (And.intro hi2 (And.intro hz2 (And.intro hs2 hb2)));have HM:=Lib.hid (And.intro (h.sz m (acd.mem.2 (.inl rfl))) (And.intro hZ (fun k (hk:k∈p.all m)=>hZ k (h.sz k hk))));have auo:=agq.same h (Upd.refl [] w)
 have HI0:Hid (DPl m M M p p Z w (.slice none 0 0) [] w) :=
  ⟨h.apart (fun k hk=>by
   rcases List.mem_append.1 hk with h1 | h1
   ·exact .inl h1
   ·exact .inl (h.sz k h1)) (fun k hk=>List.mem_append.2 (.inr hk)),Upd.refl _ _,Sub.refl _ _,hf,ho,World.ownsRow_nil _ _ _ _,fun k hk=>by simp [Value.ownBlock] at hk⟩
 have HT:=Lib.hid ht;have HL:=Lib.hid (And.intro hL hla);have HLL:=Lib.hid hL.len;clear h hZ hf ho hL hla hi2 hz2 hs2 hb2 auo ht
 go_enter Tryz.func23,Tryz.ntmps23
 go_wp2_with fail
 go_loopg [6,13] ln (fun g s6 s13 wr=>∃ (j:Nat) (M2:MV) (p2:acd) (cs:List (Int × Int × Int)),ln-j=g/\j<=ln/\s13=.int .i64 j/\DPl m M M2 p p2 Z w s6 cs wr/\M2.trail.length<=900000+j/\cs.length<=j/\Hid (M.playV Ls=(cs++(M2.playV (Ls.drop j)).1,(M2.playV (Ls.drop j)).2)))
 case atStart=>exact ⟨0,M,p,[],by omega,by omega,rfl,HI0.out,by have:=HT.out;omega,by simp,Lib.hid (by simp)⟩
 case round =>
  obtain ⟨j,M2,p2,cs,rfl,hj,rfl,hD,ht2,hcs,HPV⟩:=hrel;obtain ⟨oa,oc,hov,_⟩:=abI hD.row;subst hov;have HD:=Lib.hid hD
  by_cases hlt:j<ln
  ·obtain ⟨x,hx,hc⟩:=HL.out.1.at_ j hlt
   have hcr:=(hD.up.cell (World.block_lt_of_cell? _ _ hc) (by
    have h1:=HL.out.2 (by omega) x hx
    rw [aod];exact h1)).trans hc
   subst hx
   have hil:(j:Int)<(ln:Int):=by omega
   have HDR:Hid (Ls.drop j=Ls.getD j 0::Ls.drop (j+1)):=by
    have h1:j<Ls.length:=by rw [HLL.out];exact hlt
    show _=_
    rw [List.drop_eq_getElem_cons h1,List.getD_eq_getElem?_getD,List.getElem?_eq_getElem h1];rfl
   clear hc;generalize Ls.getD j 0=l at *
   have hz2:∀ k,k∈Z++p2.all m->k<wr.heap.size:=fun k hk=>by
    rcases List.mem_append.1 hk with hk | hk
    ·exact Nat.lt_of_lt_of_le (HM.out.2.1 k hk) hD.up.size
    ·rcases acd.mem.1 hk with rfl | a1 | a1 | a1
     ·exact aa4 hD.mod.blk
     ·exact (hD.mod.os.lt k a1).2
     ·obtain ⟨xs,hr⟩:=hD.mod.hs.row;exact (hr.lt k a1).2
     ·exact (hD.mod.ts.lt k a1).2
   have HTR:=Lib.hid (aEn m l M2 p2 _ wr hD.mod hz2 hD.fit hD.ol (by omega));clear hD hz2;go_wp2_with fail;refine HTR.out.mono ?_;rintro e w3 hE;obtain ⟨rfl,hm3⟩:=hE.ex;obtain ⟨p3,hm4,hu3,hs3⟩:=hm3.ex
   have HY:Hid (aef w3 m (M2.exch l) p3 (Z++p3.all m)/\Upd (p.all m) w w3/\Sub (p.all m) w (p3.all m)/\w3.ownsRow w.heap.size 129 3 (.slice oa cs.length oc) cs.length (adF cs)/\(∀ k,(Value.slice oa cs.length oc).ownBlock=some k->k∉p3.all m)):=by
    refine ⟨hm4.apart (fun k hk=>?_) (fun k hk=>List.mem_append.2 (.inr hk)),HD.out.up.then hu3 (fun k hk=>HD.out.sub k hk),fun k hk=>?_,aaX HD.out.row fun k hk=>hu3.block k (HD.out.row.lt k hk).2 (HD.out.nb k hk),fun k hk hm=>?_⟩
    ·rcases List.mem_append.1 hk with h1 | h1
     ·exact .inl (List.mem_append.2 (.inl (List.mem_append.2 (.inl h1))))
     ·exact .inl (List.mem_append.2 (.inr h1))
    ·rcases hs3 k hk with h1 | h1
     ·exact HD.out.sub k h1
     ·exact .inr (Nat.le_trans HD.out.up.size h1)
    ·rcases hs3 k hm with h1 | h1
     ·exact HD.out.nb k hk h1
     ·have:=(HD.out.row.lt k hk).2;omega
   obtain ⟨E,hEE⟩ : ∃ E,M2.exchE l=E:=⟨_,rfl⟩;obtain ⟨c,hcc⟩ : ∃ c,M2.tryV l=c:=⟨_,rfl⟩;have HE:=Lib.hid (And.intro hEE hcc);rw [hEE,hcc];unfold chV;clear hE hm3 hm4 hu3 hs3 hEE hcc HTR;have hbx:=heap_alloc_new w3 (.cells #[.int .i64 c.1,.int .i64 c.2.1,.int .i64 c.2.2] 129 (0,0));have b0:=aac (j:=0) hbx rfl;have b1:=aac (j:=1) hbx rfl;have b2:=aac (j:=2) hbx rfl
   by_cases h0:E=0
   ·subst h0
    have aTu:((0:Int) != 0)=false:=rfl;have aep:=Lib.hid HY.out.2.2.2.1
    have HC2:Hid (∀ z,z∈[Value.int .i64 c.1,Value.int .i64 c.2.1,Value.int .i64 c.2.2]->z.oneCell'=true):=by
     intro z hz;simp at hz;rcases hz with rfl | rfl | rfl <;> rfl
    clear hbx
    have hbs:w.heap.size<=((w3.alloc (.cells #[.int .i64 c.1,.int .i64 c.2.1,.int .i64 c.2.2] 129 (0,0))).alloc (.cells #[.int .i64 c.1,.int .i64 c.2.1,.int .i64 c.2.2] 129 (0,0))).heap.size:=by
     have h1:=HY.out.2.1.size
     rw [World.size_alloc,World.size_alloc];omega
    go_wp2_with (at_builtin;go_must (refine wpList_append_lies _ rfl (.tmp 27) (.tmp 29) 62 rfl w.heap.size 129 ti _ 3 24 Tryz.underlying62 HI.out.1 HI.out.2.1 HI.out.2.2.1 HI.out.2.2.2 (by rfl) (by decide) _ cs.length (adF cs) rfl ((aep.out.alloc _).alloc _) ⟨_,0,none⟩ 1 1 [.int .i64 c.1,.int .i64 c.2.1,.int .i64 c.2.2] rfl rfl ?c1 HC2.out (by omega) (by unfold maxLen;omega) (by omega) hbs _ rfl ?_))
    case c1 =>
     have hb2:=heap_alloc_new (w3.alloc (.cells #[.int .i64 c.1,.int .i64 c.2.1,.int .i64 c.2.2] 129 (0,0))) (.cells #[.int .i64 c.1,.int .i64 c.2.1,.int .i64 c.2.2] 129 (0,0));rw [World.size_alloc] at hb2;exact World.news_of_block hb2
    intro g5 cap w5 ab3 hgr hat ajb
    have HZ:Hid (DPl m M (M2.exch l) p p3 Z w (.slice (some ⟨g5,0,none⟩) (cs.length+1) cap) (cs++[c]) w5):=by
     have u5:Upd (Value.slice oa cs.length oc).ownBlock.toList w3 w5:=Upd.grown (((Upd.refl _ w3).alloc _).alloc _) hgr (fun k hk=>.inl (by simp [hk]));have hno:=HY.out.2.2.2.2;refine ⟨HY.out.1.young (k0:=0) u5 (List.mem_append.2 (.inl HM.out.1)) (fun k hk=>?_) rfl,HY.out.2.1.then u5 fun k hk=>.inr (aep.out.lt k (by simpa using hk)).1,HY.out.2.2.1,MV.exch_fit HD.out.fit HD.out.ol l,?_,?_,fun k hk hm=>?_⟩
     ·have hk':(Value.slice oa cs.length oc).ownBlock=some k:=by simpa using hk
      obtain ⟨c1,f1,e1⟩:=acE aep.out hk';exact ⟨hno k hk',by have h1:=(aep.out.lt k hk').1;have h2:=HM.out.2.1 m HM.out.1;omega,c1,_,f1,e1,by decide⟩
     ·have h1:(M2.exch l).n=M2.n:=by unfold MV.exch;split <;> rfl
      have h2:(M2.exch l).order.length=M2.order.length:=by unfold MV.exch;split;exact air _ _;rfl
      rw [h2,h1];exact HD.out.ol
     ·rw [List.length_append,List.length_singleton,show adF (cs++[c])=adF cs++[.int .i64 c.1,.int .i64 c.2.1,.int .i64 c.2.2] by simp [adF]]
      exact ab3
     ·have hk':g5=k:=by simpa [Value.ownBlock] using hk
      subst hk'
      rcases hat with h | h
      ·exact hno _ h hm
      ·have h:g5=w3.heap.size+1+1:=by first | exact h | (rw [World.size_alloc,World.size_alloc] at h;omega)
       rcases acd.mem.1 hm with rfl | a1 | a1 | a1
       ·have:=aa4 HY.out.1.blk;omega
       ·have:=(HY.out.1.os.lt _ a1).2;omega
       ·obtain ⟨xs,hr⟩:=HY.out.1.hs.row;have:=(hr.lt _ a1).2;omega
       ·have:=(HY.out.1.ts.lt _ a1).2;omega
    clear ab3 hgr hat ajb hbs b0 b1 b2;go_wp2_with fail
    go_roundg (ln-(j+1))
    case measure=>omega
    case rel =>
     refine ⟨j+1,M2.exch l,p3,cs++[c],rfl,by omega,by simp,HZ.out,by have:=(MV.exch_trail M2 l).1;omega,by simp;omega,Lib.hid ?_⟩
     have e1:M2.playV (Ls.drop j)=(c::((M2.exch l).playV (Ls.drop (j+1))).1,((M2.exch l).playV (Ls.drop (j+1))).2):=by
      rw [HDR.out]
      conv=>lhs;unfold MV.playV
      rw [HE.out.1,if_pos rfl,HE.out.2]
     rw [HPV.out,e1];simp
   ·have hE0:(E != 0)=true:=by simpa using h0
    clear hbx
    have akU:Hid (∀ z,Upd [] w3 z->aGe m Ls M p Z w (.returned (.tuple #[.slice oa cs.length oc,.int .i64 E])) z):=fun z u=>by
     have e1:(M2.playV (Ls.drop j))=([],E,M2):=by
      rw [HDR.out];unfold MV.playV;rw [HE.out.1,if_neg h0]
     have e2:M.playV Ls=(cs,E,M2):=by rw [HPV.out,e1];simp
     have e3:M2.exch l=M2:=MV.exch_no (by rw [HE.out.1];exact h0);refine ⟨_,by rw [e2],?_,?_⟩
     ·rw [e2]
      exact aaX HY.out.2.2.2.1 fun k hk=>u.block k (HY.out.2.2.2.1.lt k hk).2 (by simp)
     ·rw [e2]
      have h1:=HY.out.1.keep0 u;rw [e3] at h1;exact ⟨p3,h1,HY.out.2.1.trans (u.mono (by simp)),HY.out.2.2.1⟩
    go_wp2_with fail;go_ret2;exact akU.out _ ((Upd.refl _ _).alloc _)
  ·obtain rfl:j=ln:=by omega
   have hil:¬ ((j:Int)<(j:Int)):=by omega
   have akU:Hid (aGe m Ls M p Z w (.returned (.tuple #[.slice oa cs.length oc,.int .i64 0])) wr):=by
    have e1:M.playV Ls=(cs,0,M2):=by
     rw [HPV.out,<- HLL.out,List.drop_length];simp [MV.playV]
    exact ⟨_,by rw [e1],by rw [e1];exact HD.out.row,by rw [e1];exact ⟨p2,HD.out.mod,HD.out.up,HD.out.sub⟩⟩
   clear hD;go_wp2_with fail;go_ret2;exact akU.out
structure Out (k:Nat) (F:List Nat) (p:acd) (m:Nat) (w:World):Prop where
 nf:k∉F
 np:k∉p.all m
 lt:k<w.heap.size
theorem Out.ker {k m:Nat} {F F':List Nat} {p:acd} {w w1:World} (h:Out k F p m w) (t:Stp F w F' w1):Out k F' p m w1/\w1.heap[k]?=w.heap[k]? :=
 ⟨⟨fun hm=>by
  rcases t.sub k hm with h1 | h1
  ·exact h.nf h1
  ·have:=h.lt;omega,h.np,Nat.lt_of_lt_of_le h.lt t.up.size⟩,t.up.block k h.lt h.nf⟩
theorem Out.mod {k m:Nat} {F:List Nat} {p p':acd} {w w1:World} (h:Out k F p m w) (u:Upd (p.all m) w w1) (s:Sub (p.all m) w (p'.all m)):Out k F p' m w1/\w1.heap[k]?=w.heap[k]? :=
 ⟨⟨h.nf,fun hm=>by
  rcases s k hm with h1 | h1
  ·exact h.np h1
  ·have:=h.lt;omega,Nat.lt_of_lt_of_le h.lt u.size⟩,u.block k h.lt h.np⟩
theorem Out.keep0 {k m:Nat} {F:List Nat} {p:acd} {w w1:World} (h:Out k F p m w) (u:Upd [] w w1):Out k F p m w1/\w1.heap[k]?=w.heap[k]? :=
 ⟨⟨h.nf,h.np,Nat.lt_of_lt_of_le h.lt u.size⟩,u.block k h.lt (by simp)⟩
structure auL (b0:Nat) (t:TypeId) (sz:Nat) (v:Value) (n:Nat) (xs:List Value) (F:List Nat) (p:acd) (m:Nat) (w:World):Prop where
 row:w.ownsRow b0 t sz v n xs
 out:∀ k,v.ownBlock=some k->Out k F p m w
theorem auL.ker {b0 sz n m:Nat} {t:TypeId} {v:Value} {xs:List Value} {F F':List Nat} {p:acd} {w w1:World} (h:auL b0 t sz v n xs F p m w) (s:Stp F w F' w1):auL b0 t sz v n xs F' p m w1 :=
 ⟨aaX h.row fun k hk=>((h.out k hk).ker s).2,fun k hk=>((h.out k hk).ker s).1⟩
theorem auL.mod {b0 sz n m:Nat} {t:TypeId} {v:Value} {xs:List Value} {F:List Nat} {p p':acd} {w w1:World} (h:auL b0 t sz v n xs F p m w) (u:Upd (p.all m) w w1) (s:Sub (p.all m) w (p'.all m)):auL b0 t sz v n xs F p' m w1 :=
 ⟨aaX h.row fun k hk=>((h.out k hk).mod u s).2,fun k hk=>((h.out k hk).mod u s).1⟩
theorem auL.keep0 {b0 sz n m:Nat} {t:TypeId} {v:Value} {xs:List Value} {F:List Nat} {p:acd} {w w1:World} (h:auL b0 t sz v n xs F p m w) (u:Upd [] w w1):auL b0 t sz v n xs F p m w1 :=
 ⟨aaX h.row fun k hk=>((h.out k hk).keep0 u).2,fun k hk=>((h.out k hk).keep0 u).1⟩
def ahU (l:List Int):List Value:=l.map fun x=>.int .i64 x
theorem alg.noneI {w:World} {a:Option Addr} {n:Nat} {zs:List Int} (h:alg w .i64 a n zs):a=none->n=0:=fun e=>by
 by_cases h0:n=0
 ·exact h0
 ·obtain ⟨x,hx,_⟩:=h.at_ 0 (by omega)
  rw [e] at hx;cases hx
theorem alg.newsI {w:World} {a:Option Addr} {n:Nat} {zs:List Int} (h:alg w .i64 a n zs):∀ ad,a=some ad->∀ j u,(ahU zs)[j]?=some u->w.cell? (ad.add j)=some u:=fun ad e j u hj=>by
 rw [ahU,List.getElem?_map] at hj;obtain ⟨v,hv,rfl⟩:=Option.map_eq_some_iff.1 hj;have hl:=(List.getElem?_eq_some_iff.1 hv).1;rw [h.len] at hl;obtain ⟨x,hx,hc⟩:=h.at_ j hl;rw [e] at hx
 injection hx with hx
 subst hx
 rw [hc,List.getD_eq_getElem?_getD,hv];rfl
theorem alg.of_own {w:World} {b0 g n n' c:Nat} {Vs Ws:List Int} (h:w.ownsRow b0 3 1 (.slice (some ⟨g,0,none⟩) n' c) n' (ahU (Vs++Ws))) (hn:Vs.length=n) (hm:n<=maxLen):alg w .i64 (some ⟨g,0,none⟩) n Vs :=
 ⟨hn,hm,fun i hi=>⟨_,rfl,by
  have e:(⟨g,0,none⟩ : Addr).add i=⟨g,i,none⟩:=by rw [aId];simp
  rw [e];refine abf h ?_
  rw [ahU,List.getElem?_map,List.getElem?_append_left (by omega),List.getElem?_eq_getElem (by omega),List.getD_eq_getElem?_getD,List.getElem?_eq_getElem (by omega)];rfl⟩⟩
theorem aGf {w:World} {b0 sz g n cap:Nat} {t:TypeId} {xs ys:List Value} (h:w.ownsRow b0 t sz (.slice (some ⟨g,0,none⟩) (n+1) cap) (n+1) (xs++ys)) (hx:xs.length=n*sz):w.ownsRow b0 t sz (.slice (some ⟨g,0,none⟩) n cap) n xs:=by
 obtain ⟨_,(⟨e,_⟩ | ⟨g',aMF,cur,e,hb,hh,hle,hm,hs,ht⟩)⟩:=h
 ·simp at e
 ·simp at e
  obtain ⟨rfl,rfl⟩:=e;refine ⟨hx,.inr ⟨_,_,cur,rfl,hb,hh,by omega,hm,hs,?_⟩⟩
  have h1:(cur.toList.take ((n+1)*sz)).take (n*sz)=(xs++ys).take (n*sz):=by rw [ht]
  rw [List.take_take,Nat.min_eq_left (Nat.mul_le_mul_right _ (by omega)),<- hx,List.take_left] at h1
  rw [<- hx];exact h1
end Go.Proofs.YtdackeldhdchaaaGreat
