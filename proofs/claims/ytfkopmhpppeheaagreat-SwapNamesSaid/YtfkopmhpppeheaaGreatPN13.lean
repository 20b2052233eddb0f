import Derived.Test.YtfkopmhpppeheaaGreatPN12
set_option maxRecDepth 100000
set_option maxHeartbeats 1600000
namespace Go.Proofs.YtfkopmhpppeheaaGreat
open Go.RowKit Go.Maps Go.ChangeMaps Go.WideShapes
def dI (t:TV) (c:Value):Value:=.agg #[.int .i64 t.n,c]
structure jG (w:World) (Z:List Nat) (c:Value) (t:TV):Prop where
 ok:t.Ok
 row:w.ownsRow 0 90 1 c t.ws.length (fO t.ws)
 fr:∀ k,c.ownBlock=some k->k∉Z
theorem jG.keep {w w':World} {Z S:List Nat} {c:Value} {t:TV} (h:jG w Z c t) (u:af S w w') (hS:∀ k,k∈S->k∈Z\/w.heap.size<=k):jG w' Z c t :=
 ⟨h.ok,ai h.row fun k hk=>u.block k (h.row.lt k hk).2 fun hm=>by
  rcases hS k hm with h1 | h1
  ·exact h.fr k hk h1
  ·have:=(h.row.lt k hk).2;omega,h.fr⟩
theorem jG.keep0 {w w':World} {Z:List Nat} {c:Value} {t:TV} (h:jG w Z c t) (u:af [] w w'):jG w' Z c t:=h.keep u (by simp)
theorem jG.apart {w:World} {Z Z':List Nat} {c:Value} {t:TV} (h:jG w Z c t) (hs:Sub Z w Z'):jG w Z' c t :=
 ⟨h.ok,h.row,fun k hk hm=>by
  rcases hs k hm with h1 | h1
  ·exact h.fr k hk h1
  ·have:=(h.row.lt k hk).2;omega⟩
theorem TV.Ok.len_le {t:TV} (h:t.Ok):t.ws.length<=1024:=by
 have e:=h.len;have h1:=h.n16
 have h2:bJ t.n<=1024:=by
  unfold bJ;split
  ·omega
  ·have:(2:Nat) ^ (t.n-6)<=2 ^ 10:=Nat.pow_le_pow_right (by omega) (by omega)
   omega
 omega
theorem nH (w:World) (x y:Value):(w.alloc (.cells #[x,y] 122 (0,0))).cell? ⟨w.heap.size,0,none⟩=some x/\(w.alloc (.cells #[x,y] 122 (0,0))).cell? ⟨w.heap.size,1,none⟩=some y:=by
 have hb:=heap_alloc_new w (.cells #[x,y] 122 (0,0));exact ⟨ae hb rfl,ae hb rfl⟩
theorem mJ (Z:List Nat) (c d:Value) (t u:TV) (w:World) (h1:jG w Z c t) (h2:jG w Z d u) :
  Calls Tryz.prog 57 #[dI t c,dI u d] w fun e w'=>e=.returned (.bool (decide (t=u)))/\af [] w w':=by
 unfold dI;obtain ⟨tn,tw⟩:=t;obtain ⟨un,uw⟩:=u;have uG:tw.length<=1024:=h1.ok.len_le;have Ff:uw.length<=1024:=h2.ok.len_le;obtain ⟨fa,ca,Qj,_⟩:=aj h1.row;obtain ⟨fb,cb,ZZ,_⟩:=aj h2.row;subst Qj ZZ;have r1:w.ownsRow 0 90 1 (.slice fa tw.length ca) tw.length (fO tw):=h1.row;have r2:w.ownsRow 0 90 1 (.slice fb uw.length cb) uw.length (fO uw):=h2.row;clear h1 h2
 show Calls _ _ #[.agg #[.int .i64 tn,.slice fa tw.length ca],.agg #[.int .i64 un,.slice fb uw.length cb]] _ _
 generalize e1:tw.length=n1 at r1 uG;generalize e2:uw.length=n2 at r2 Ff;have HT:=Lib.hid (And.intro r1 r2);have HL:=Lib.hid (And.intro e1 e2);clear r1 r2 e1 e2
 by_cases hn:tn=un
 ·subst hn
  have hE:(decide ((⟨tn,tw⟩ : TV)=⟨tn,uw⟩))=decide (tw=uw):=by congr 1;simp
  rw [hE];clear hE;have eF:=Lib.hid (((af.refl [] w).alloc (.cells #[.int .i64 tn,.slice fa n1 ca] 122 (0,0))).alloc (.cells #[.int .i64 tn,.slice fb n2 cb] 122 (0,0)));obtain ⟨a0,a1⟩:=nH w (.int .i64 tn) (.slice fa n1 ca);obtain ⟨b0,b1⟩:=nH (w.alloc (.cells #[.int .i64 tn,.slice fa n1 ca] 122 (0,0))) (.int .i64 tn) (.slice fb n2 cb);rw [World.size_alloc] at b0 b1;have q0:((w.alloc (.cells #[.int .i64 tn,.slice fa n1 ca] 122 (0,0))).alloc (.cells #[.int .i64 tn,.slice fb n2 cb] 122 (0,0))).cell? ⟨w.heap.size,0,none⟩=some (.int .i64 tn):=(((af.refl [] _).alloc _).cell (World.block_lt_of_cell? _ _ a0) (by simp)).trans a0;have q1:((w.alloc (.cells #[.int .i64 tn,.slice fa n1 ca] 122 (0,0))).alloc (.cells #[.int .i64 tn,.slice fb n2 cb] 122 (0,0))).cell? ⟨w.heap.size,1,none⟩=some (.slice fa n1 ca):=(((af.refl [] _).alloc _).cell (World.block_lt_of_cell? _ _ a1) (by simp)).trans a1;clear a0 a1
  by_cases hl:n1=n2
  ·subst hl
   go_enter Tryz.func57,Tryz.ntmps57
   go_wp2_with fail
   go_loopg [5] n1 (fun g s5 wr=>∃ i:Nat,n1-i=g/\i<=n1/\s5=.int .i64 i/\tw.take i=uw.take i/\af [] ((w.alloc (.cells #[.int .i64 tn,.slice fa n1 ca] 122 (0,0))).alloc (.cells #[.int .i64 tn,.slice fb n1 cb] 122 (0,0))) wr)
   case atStart=>exact ⟨0,by omega,by omega,rfl,rfl,af.refl _ _⟩
   case round =>
    obtain ⟨i,rfl,hi,rfl,ht,hU⟩:=hrel;have p1:=(hU.cell (World.block_lt_of_cell? _ _ q1) (by simp)).trans q1;have p2:=(hU.cell (World.block_lt_of_cell? _ _ b1) (by simp)).trans b1
    by_cases aW:i<n1
    ·obtain ⟨x,hx⟩ : ∃ x,tw[i]?=some x:=⟨_,List.getElem?_eq_getElem (by rw [HL.out.1];exact aW)⟩
     obtain ⟨y,hy⟩ : ∃ y,uw[i]?=some y:=⟨_,List.getElem?_eq_getElem (by rw [HL.out.2];exact aW)⟩;obtain ⟨ga,rfl⟩:=bC HT.out.1 (by omega);obtain ⟨gb,rfl⟩:=bC HT.out.2 (by omega)
     have r1:=ai HT.out.1 fun k hk=>(eF.out.trans hU).block k (HT.out.1.lt k hk).2 (by simp)
     have r2:=ai HT.out.2 fun k hk=>(eF.out.trans hU).block k (HT.out.2.lt k hk).2 (by simp)
     have c1:=au r1 (j:=i) (u:=.int .u64 x) (by simp [fO,hx]);have c2:=au r2 (j:=i) (u:=.int .u64 y) (by simp [fO,hy])
     have fF:(i:Int)<(n1:Int):=by omega
     clear q0 q1 b0 b1 r1 r2
     by_cases nZ:x=y
     ·have Ag:(x == y)=true:=by simpa using nZ
      have HE:Hid (tw.take (i+1)=uw.take (i+1)/\af [] _ wr):=⟨by rw [List.take_add_one,List.take_add_one,ht,hx,hy,nZ],hU⟩;clear ht hU hx hy;go_wp2_with fail
      go_region
      go_wp2_with fail
      go_roundg (n1-(i+1))
      case measure=>omega
      case rel=>exact ⟨i+1,rfl,by omega,by simp,HE.out.1,HE.out.2.drew⟩
     ·have Ag:(x == y)=false:=by simpa using nZ
      have HE:Hid (¬ (tw=uw)/\af [] _ wr):=⟨fun e=>nZ (by rw [e,hy] at hx;exact (Option.some.inj hx).symm),eF.out.trans hU⟩;clear ht hU hx hy;go_wp2_with fail
      go_region
      go_wp2_with fail;go_ret;exact ⟨by rw [decide_eq_false HE.out.1];rfl,HE.out.2.drew⟩
    ·obtain rfl:i=n1:=by omega
     have fF:¬ ((i:Int)<(i:Int)):=by omega
     have HE:Hid ((tw=uw)/\af [] w wr):=⟨by rw [List.take_of_length_le (by rw [HL.out.1];omega),List.take_of_length_le (by rw [HL.out.2];omega)] at ht;exact ht,eF.out.trans hU⟩;clear ht hU q0 q1 b0 b1;go_wp2_with fail;go_ret;exact ⟨by rw [decide_eq_true HE.out.1];rfl,HE.out.2⟩
  ·have Z4:((n1:Int) == (n2:Int))=false:=by rw [beq_eq_false_iff_ne];omega
   have hl4:¬ ((n1:Int)=(n2:Int)):=by omega
   have HE:Hid (¬ (tw=uw)):=fun e=>hl (by have:=HL.out;rw [e] at this;omega)
   go_enter Tryz.func57,Tryz.ntmps57
   go_wp2_with fail;go_ret;exact ⟨by rw [decide_eq_false HE.out];rfl,eF.out⟩
 ·have AO:((tn:Int) == (un:Int))=false:=by rw [beq_eq_false_iff_ne];omega
  have hn4:¬ ((tn:Int)=(un:Int)):=by omega
  have hE:decide ((⟨tn,tw⟩ : TV)=⟨un,uw⟩)=false:=decide_eq_false fun e=>hn (by injection e)
  rw [hE];clear hE;have eF:=Lib.hid (((af.refl [] w).alloc (.cells #[.int .i64 tn,.slice fa n1 ca] 122 (0,0))).alloc (.cells #[.int .i64 un,.slice fb n2 cb] 122 (0,0)));obtain ⟨a0,a1⟩:=nH w (.int .i64 tn) (.slice fa n1 ca);obtain ⟨b0,b1⟩:=nH (w.alloc (.cells #[.int .i64 tn,.slice fa n1 ca] 122 (0,0))) (.int .i64 un) (.slice fb n2 cb);rw [World.size_alloc] at b0 b1;have q0:((w.alloc (.cells #[.int .i64 tn,.slice fa n1 ca] 122 (0,0))).alloc (.cells #[.int .i64 un,.slice fb n2 cb] 122 (0,0))).cell? ⟨w.heap.size,0,none⟩=some (.int .i64 tn):=(((af.refl [] _).alloc _).cell (World.block_lt_of_cell? _ _ a0) (by simp)).trans a0;clear a0 a1
  go_enter Tryz.func57,Tryz.ntmps57
  go_wp2_with fail;go_ret;exact ⟨rfl,eF.out⟩
theorem X0 {x:Int} (hx:jU x) (v:Nat):(x/2 ^ v % 2 == 1)=nb x v:=by
 obtain ⟨n,rfl⟩ : ∃ n:Nat,x=(n:Int):=⟨x.toNat,by unfold jU at hx;omega⟩
 have e:((n:Int)/2 ^ v % 2)=((n/2 ^ v % 2:Nat):Int):=by push_cast;rfl
 rw [e,jV,Nat.testBit_eq_decide_div_mod_eq,Bool.eq_iff_iff,beq_iff_eq,decide_eq_true_eq];omega
theorem BL {x:Int} (hx:jU x) (v:Nat):((x/2 ^ v).tmod 2 == 1)=nb x v:=by
 rw [<- X0 hx,Int.tmod_eq_emod_of_nonneg (Int.ediv_nonneg hx.1 (Int.le_of_lt (Int.pow_pos (by omega))))]
theorem Qk (Z:List Nat) (c:Value) (t:TV) (x:Nat) (w:World) (h:jG w Z c t) (hx:x<2 ^ t.n) :
  Calls Tryz.prog 135 #[dI t c,.int .i64 x] w fun e w'=>e=.returned (.bool (t.bit x))/\af [] w w':=by
 unfold dI;have hd:=nz hx;obtain ⟨w1,w2,w3⟩:=h.ok.word hd;have hlen:=h.ok.len;have Bv:=h.ok.len_le;obtain ⟨fa,ca,Qj,_⟩:=aj h.row;subst Qj;obtain ⟨ga,rfl⟩:=bC h.row (by have:=Mc t.n;omega);have HU:=Lib.hid ((af.refl [] w).alloc (.cells #[.int .i64 t.n,.slice (some ⟨ga,0,none⟩) t.ws.length ca] 122 (0,0)));obtain ⟨a0,a1⟩:=nH w (.int .i64 t.n) (.slice (some ⟨ga,0,none⟩) t.ws.length ca)
 have r1:=ai h.row fun k hk=>HU.out.block k (h.row.lt k hk).2 (by simp)
 have c1:=au r1 (j:=x/64) (u:=.int .u64 (t.ws.getD (x/64) 0)) (by rw [fO,List.getElem?_map,w3];rfl);have HB:Hid (((t.ws.getD (x/64) 0/2 ^ (x % 64)).tmod 2 == 1)=t.bit x):=BL w1 (x % 64);generalize t.ws.getD (x/64) 0=W at c1 HB;have aqQ:x<65536:=Nat.lt_of_lt_of_le hx (by have:(2:Nat) ^ t.n<=2 ^ 16:=Nat.pow_le_pow_right (by omega) h.ok.n16;omega)
 have Lm:(x:Int).tdiv 64=((x/64:Nat):Int):=by rw [Int.tdiv_eq_ediv_of_nonneg (by omega)];omega
 have rQ:(x:Int).tmod 64=((x % 64:Nat):Int):=by rw [Int.tmod_eq_emod_of_nonneg (by omega)];omega
 have fF:((x/64:Nat):Int)<(t.ws.length:Int):=by omega
 have rF:((x % 64:Nat):Int)<64:=by omega
 have abN:x % 64<64:=by omega
 generalize x/64=xq at c1 Lm fF;generalize x % 64=xr at HB rQ rF abN;clear h r1 w1 w2 w3 hd hx hlen;generalize t.ws.length=tl at *
 go_enter Tryz.func135,Tryz.ntmps135
 go_wp2_with fail;go_ret;exact ⟨by rw [<- HB.out];rfl,HU.out⟩
theorem MB (n:Nat) (w:World) (hn:n<=16):Calls Tryz.prog 133 #[.int .i64 n] w fun e w'=>e=.returned (.int .i64 (bJ n:Nat))/\w'=w:=by
 by_cases h6:n<=6
 ·have hd:decide ((n:Int)<=6)=true:=by simp;omega
  have HW:Hid (bJ n=1):=by
   show bJ n=1
   unfold bJ;rw [if_pos h6]
  go_enter Tryz.func133,Tryz.ntmps133
  go_wp2_with fail;go_ret;exact ⟨by rw [HW.out];rfl,rfl⟩
 ·have hd:decide ((n:Int)<=6)=false:=by simp;omega
  obtain ⟨m,rfl⟩ : ∃ m,n=m+6:=⟨n-6,by omega⟩
  have hm:m<=10:=by omega
  have mr:IntKind.i64.wrap (((m+6:Nat):Int)-6)=(m:Int):=by rw [IntWalk.i64_in _ (by omega)];omega
  have aqR:(m:Int)<64:=by omega
  have HW:Hid (wrap64 (2 ^ m)=(bJ (m+6):Nat)):=by
   show _=_
   have h1:(2:Nat) ^ m<=2 ^ 10:=Nat.pow_le_pow_right (by omega) hm
   have h2:((2:Int) ^ m)=((2 ^ m:Nat):Int):=by push_cast;rfl
   have h3:bJ (m+6)=2 ^ m:=by
    unfold bJ;split
    ·obtain rfl:m=0:=by omega
     rfl
    ·rw [Nat.add_sub_cancel]
   rw [h3,h2];generalize (2:Nat) ^ m=z at h1
   unfold wrap64;omega
  go_enter Tryz.func133,Tryz.ntmps133
  go_wp2_with fail;go_ret;exact ⟨by rw [<- HW.out];rfl,rfl⟩
theorem Tryz.uH:(Tryz.prog.info? 4).map (fun i=>(i.zero,i.size,i.bytes))=some (some (.bool false),1,1):=by kernel_rfl
theorem Ql {w1:World} {B:Nat} {x y:Value} {t:TypeId} (h:w1.heap[B]?=some (.cells #[x,y] t (0,0))) (x' y':Value) :
  ((w1.setCell ⟨B,0,none⟩ x').setCell ⟨B,1,none⟩ y').cell? ⟨B,0,none⟩=some x'/\((w1.setCell ⟨B,0,none⟩ x').setCell ⟨B,1,none⟩ y').cell? ⟨B,1,none⟩=some y':=by
 have e1:=aB (j:=0) h x';have e2:=aB (j:=1) e1 y';exact ⟨ae e2 rfl,ae e2 rfl⟩
structure rV (w w':World) (c:Value) (t:TV):Prop where
 ok:t.Ok
 row:w'.ownsRow w.heap.size 90 1 c t.ws.length (fO t.ws)
theorem rV.tin {w w':World} {c:Value} {t:TV} (h:rV w w' c t) {Z:List Nat} (hZ:∀ k,k∈Z->k<w.heap.size):jG w' Z c t :=
 ⟨h.ok,df h.row (Nat.zero_le _),fun k hk hm=>by have:=(h.row.lt k hk).1;have:=hZ k hm;omega⟩
theorem rV.keep {w w' w2:World} {c:Value} {t:TV} (h:rV w w' c t) (u:af [] w' w2):rV w w2 c t :=
 ⟨h.ok,ai h.row fun k hk=>u.block k (h.row.lt k hk).2 (by simp)⟩
theorem rV.base {w0 w w':World} {c:Value} {t:TV} (h:rV w w' c t) (hs:w0.heap.size<=w.heap.size):rV w0 w' c t:=⟨h.ok,df h.row hs⟩
structure rG (n:Nat) (l:List Bool) (x:Nat) (W:List Int):Prop where
 len:W.length=bJ n
 u:∀ i,i<bJ n->jU (W.getD i 0)
 b:∀ i,i<bJ n->∀ j,nb (W.getD i 0) j=(decide (j<64)&&(decide (64*i+j<x)&&l.getD (64*i+j) false))
theorem rG.start (n:Nat) (l:List Bool):rG n l 0 (List.replicate (bJ n) 0):=by
 have e:∀ i,(List.replicate (bJ n) (0:Int)).getD i 0=0:=fun i=>by
  rw [List.getD_eq_getElem?_getD,List.getElem?_replicate];split <;> rfl
 exact ⟨by simp,fun i _=>by rw [e];exact TY,fun i _ j=>by rw [e,OL];simp⟩
theorem rG.skip {n:Nat} {l:List Bool} {x:Nat} {W:List Int} (h:rG n l x W) (hf:l.getD x false=false):rG n l (x+1) W:=by
 refine ⟨h.len,h.u,fun i hi j=>?_⟩;rw [h.b i hi j]
 congr 1
 by_cases e:64*i+j=x
 ·rw [e,hf];simp
 ·congr 1
  rw [decide_eq_decide];omega
theorem rG.set {n:Nat} {l:List Bool} {x:Nat} {W:List Int} (h:rG n l x W) (hx:x<2 ^ n) (hf:l.getD x false=true) :
  IntKind.u64.wrap (W.getD (x/64) 0+2 ^ (x % 64))=W.getD (x/64) 0+2 ^ (x % 64)/\rG n l (x+1) (W.set (x/64) (W.getD (x/64) 0+2 ^ (x % 64))):=by
 have hd:=nz hx;have hu:=h.u _ hd;have hb:=h.b _ hd;obtain ⟨m,hm⟩ : ∃ m:Nat,W.getD (x/64) 0=(m:Int):=⟨(W.getD (x/64) 0).toNat,by unfold jU at hu;omega⟩;rw [hm] at hu hb ⊢
 simp only [jV] at hb
 have aW:m<2 ^ (x % 64):=by
  apply Nat.lt_pow_two_of_testBit
  intro i hi
  rw [hb]
  have:¬ (64*(x/64)+i<x):=by omega
  simp [this]
 have hp:(2:Nat) ^ (x % 64)<=2 ^ 63:=Nat.pow_le_pow_right (by omega) (by omega)
 have hc:((m:Int)+2 ^ (x % 64))=((m+2 ^ (x % 64):Nat):Int):=by push_cast;rfl
 have XY:m.testBit (x % 64)=false:=Nat.testBit_lt_two_pow aW
 have hU:jU ((m:Int)+2 ^ (x % 64)):=by
  rw [hc];unfold jU
  generalize (2:Nat) ^ (x % 64)=z at aW hp ⊢;omega
 refine ⟨?_,?_⟩
 ·have e:IntKind.u64.wrap ((m:Int)+2 ^ (x % 64))=((m:Int)+2 ^ (x % 64)) % 18446744073709551616:=rfl
  rw [e];generalize ((m:Int)+2 ^ (x % 64))=z at hU
  unfold jU at hU;omega
 ·have eg:∀ i,i<bJ n->(W.set (x/64) ((m:Int)+2 ^ (x % 64))).getD i 0=if i=x/64 then (m:Int)+2 ^ (x % 64) else W.getD i 0:=fun i hi=>by
   rw [List.getD_eq_getElem?_getD,List.getElem?_set]
   by_cases e:x/64=i
   ·rw [if_pos e,if_pos e.symm,if_pos (by rw [h.len];omega)];rfl
   ·rw [if_neg e,if_neg (Ne.symm e),List.getD_eq_getElem?_getD]
  refine ⟨by rw [List.length_set];exact h.len,fun i hi=>?_,fun i hi j=>?_⟩
  ·rw [eg i hi]
   split
   ·exact hU
   ·exact h.u i hi
  ·rw [eg i hi]
   by_cases e:i=x/64
   ·subst e
    rw [if_pos rfl,hc,jV,Md XY,hb]
    by_cases ej:j=x % 64
    ·subst ej
     have e1:64*(x/64)+x % 64=x:=by omega
     have e2:x % 64<64:=Nat.mod_lt _ (by omega)
     rw [if_pos rfl,e1,hf];simp [e2]
    ·rw [if_neg ej]
     congr 2
     rw [decide_eq_decide];omega
   ·rw [if_neg e,h.b i hi]
    by_cases hj:j<64
    ·congr 2
     rw [decide_eq_decide];omega
    ·simp [hj]
theorem rG.done {n:Nat} {l:List Bool} {W:List Int} (h:rG n l l.length W) (hn:n<=16) (hl:l.length<=2 ^ n):(⟨n,W⟩ : TV)=rU n fun x=>l.getD x false:=by
 have dJ:(⟨n,W⟩ : TV).Ok:=by
  refine ⟨hn,h.len,fun x hx=>?_,fun h6 x hx i hi=>?_⟩
  ·obtain ⟨j,hj⟩:=List.getElem?_of_mem hx
   have OJ:j<W.length:=by
    by_cases e:j<W.length
    ·exact e
    ·rw [show (⟨n,W⟩ : TV).ws=W from rfl,List.getElem?_eq_none (by omega)] at hj;cases hj
   have:=h.u j (by rw [<- h.len];exact OJ)
   rw [List.getD_eq_getElem?_getD,hj] at this;exact this
  ·obtain ⟨j,hj⟩:=List.getElem?_of_mem hx
   have OJ:j<W.length:=by
    by_cases e:j<W.length
    ·exact e
    ·rw [show (⟨n,W⟩ : TV).ws=W from rfl,List.getElem?_eq_none (by omega)] at hj;cases hj
   have:=h.b j (by rw [<- h.len];exact OJ) i;rw [List.getD_eq_getElem?_getD,hj] at this;have h6':n<6:=h6;have yF:2 ^ n<=i:=hi;have e:(some x).getD 0=x:=rfl;rw [e] at this;rw [this]
   have:¬ (64*j+i<l.length):=by omega
   simp [this]
 refine Me dJ fun x hx=>?_
 have hx':x<2 ^ n:=hx;have hd:=nz hx';unfold TV.bit
 show nb (W.getD (x/64) 0) (x % 64)=_
 rw [h.b _ hd,show 64*(x/64)+x % 64=x by omega];have e2:x % 64<64:=Nat.mod_lt _ (by omega)
 by_cases e:x<l.length
 ·simp [e,e2]
 ·have:l.getD x false=false:=by rw [List.getD_eq_getElem?_getD,List.getElem?_eq_none (by omega)];rfl
  rw [this];simp
structure zB (w:World) (n g B:Nat) (W:List Int) (wr:World):Prop where
 row:wr.ownsRow w.heap.size 90 1 (.slice (some ⟨g,0,none⟩) (bJ n) (bJ n)) (bJ n) (fO W)
 bx:wr.heap[B]?=some (.cells #[.int .i64 n,.slice (some ⟨g,0,none⟩) (bJ n) (bJ n)] 122 (0,0))
 rs:wr.heap[w.heap.size]?=some (.cells #[.int .i64 0,.slice none 0 0] 122 (0,0))
 up:af [] w wr
 gb:g≠B/\g≠w.heap.size/\B≠w.heap.size/\w.heap.size<B
theorem zB.set {w wr:World} {n g B j:Nat} {W:List Int} (h:zB w n g B W wr) (hj:j<bJ n) (x:Int):zB w n g B (W.set j x) (wr.setCell ⟨g,j,none⟩ (.int .u64 x)):=by
 have hg:=(h.row.lt g rfl).1;refine ⟨?_,by rw [aG h.gb.1.symm];exact h.bx,by rw [aG h.gb.2.1.symm];exact h.rs,h.up.setCell (p:=⟨g,j,none⟩) (.inr hg) _,h.gb⟩;have:=dL h.row (j:=j) (by omega) (.int .u64 x)
 have e:(fO W).set j (.int .u64 x)=fO (W.set j x):=by simp [fO,List.map_set]
 rw [<- e];exact this
theorem zB.drew {w wr:World} {n g B:Nat} {W:List Int} (h:zB w n g B W wr):zB w n g B W wr.drew:=⟨h.row,h.bx,h.rs,h.up.drew,h.gb⟩
structure Jo (t:TV) (w:World) (e:Ending) (w':World):Prop where
 ex:∃ c:Value,e=.returned (dI t c)/\rV w w' c t/\af [] w w'
theorem vK (n:Nat) (l:List Bool) (lv:Value) (base:Nat) (w:World) (h:w.ownsRow base 4 1 lv l.length (l.map Value.bool)) (hn:n<=16) (hl:l.length<=2 ^ n) :
  Calls Tryz.prog 169 #[.int .i64 n,lv] w fun e w'=>Jo (rU n fun x=>l.getD x false) w e w':=by
 obtain ⟨i2,eU,fE,dR,fU⟩:=info_parts Tryz.GZ;have HI:=Lib.hid (And.intro eU (And.intro fE (And.intro dR fU)));have I7:(2:Nat) ^ n<=2 ^ 16:=Nat.pow_le_pow_right (by omega) hn
 have aqS:l.length<=65536:=by omega
 have hwn:bJ n<=1024:=by
  unfold bJ;split
  ·omega
  ·have:(2:Nat) ^ (n-6)<=2 ^ 10:=Nat.pow_le_pow_right (by omega) (by omega)
   omega
 obtain ⟨fa,fc,rfl,_⟩:=aj h;have HR:=Lib.hid h;have HL:=Lib.hid (And.intro hn hl);clear h eU fE dR fU I7 hl
 go_enter Tryz.func169,Tryz.ntmps169
 go_wp2_with fail;refine (MB n _ HL.out.1).mono ?_;rintro e w1 ⟨rfl,rfl⟩;have HZ:=Lib.hid (heap_alloc_new w (.cells #[.int .i64 0,.slice none 0 0] 122 (0,0)))
 have dG:(w.alloc (.cells #[.int .i64 0,.slice none 0 0] 122 (0,0))).heap.size=w.heap.size+1:=by rw [World.size_alloc]
 obtain ⟨N,hN⟩ : ∃ N,bJ n=N:=⟨_,rfl⟩;rw [hN] at hwn;have HN:=Lib.hid hN
 simp only [hN]
 clear hN
 go_wp2_with (refine wpList_make_full _ rfl (.tmp 9) (.tmp 9) 68 rfl w.heap.size 90 i2 (.int .u64 0) 1 Tryz.underlying68 HI.out.1 HI.out.2.1 HI.out.2.2.1 .i64 .i64 _ _ N rfl rfl rfl rfl (by rw [HI.out.2.2.2];omega) (by unfold maxLen;omega) (by rw [dG];omega) ?_)
 intro w2 ho dh
 obtain ⟨g,hg⟩ : ∃ g,w.heap.size+1=g:=⟨_,rfl⟩;rw [hg] at ho;rw [hg];have dR:=dh.size;rw [dG] at dR
 have Et:Hid (zB w n g w2.heap.size (List.replicate (bJ n) 0) (w2.alloc (.cells #[.int .i64 n,.slice (some ⟨g,0,none⟩) N N] 122 (0,0)))):=by
  have hu:af [] w w2:=((af.refl [] w).alloc _).grown dh (by simp);have FD:=(ho.lt g rfl).2
  have er:(w2.heap[w.heap.size]?)=some (.cells #[.int .i64 0,.slice none 0 0] 122 (0,0)):=by
   rw [dh.block w.heap.size (by rw [dG];omega) (by simp)];exact HZ.out
  refine ⟨?_,?_,?_,hu.alloc _,by omega,by omega,by omega,by omega⟩
  ·rw [HN.out]
   have e:fO (List.replicate N 0)=(madeCells #[Value.int .u64 0] N).toList:=by
    rw [fO,List.map_replicate];exact (TN N).symm
   rw [e];exact ho.alloc _
  ·rw [HN.out];exact heap_alloc_new w2 _
  ·rw [Below.heap_alloc _ _ _ (ah er)];exact er
 have HFI:=Lib.hid (rG.start n l);obtain ⟨B,hB⟩ : ∃ B,w2.heap.size=B:=⟨_,rfl⟩;rw [hB] at Et;have HBe:=Lib.hid hB;have hgb:=Et.out.gb;clear ho dh dR dG HZ hg hB;go_wp2_with fail;rw [HBe.out]
 go_loopg [6] l.length (fun gg s6 wr=>∃ (x:Nat) (W:List Int),l.length-x=gg/\x<=l.length/\s6=.int .i64 x/\rG n l x W/\zB w n g B W wr)
 case atStart=>exact ⟨0,_,by omega,by omega,rfl,HFI.out,Et.out⟩
 case round =>
  obtain ⟨x,W,rfl,hx,rfl,hI,hM⟩:=hrel;have aY:=hM.bx;rw [HN.out] at aY;have y0:wr.cell? ⟨B,0,none⟩=some (.int .i64 n):=ae (j:=0) aY rfl;have y1:wr.cell? ⟨B,1,none⟩=some (.slice (some ⟨g,0,none⟩) N N):=ae (j:=1) aY rfl
  by_cases aW:x<l.length
  ·have fF:(x:Int)<(l.length:Int):=by omega
   obtain ⟨ga,rfl⟩:=bC HR.out (by omega)
   have hr:=ai HR.out fun k hk=>hM.up.block k (HR.out.lt k hk).2 (by simp)
   have e0:l[x]?=some (l.getD x false):=by rw [List.getD_eq_getElem?_getD,List.getElem?_eq_getElem aW];rfl
   have cl:=au hr (j:=x) (u:=.bool (l.getD x false)) (by rw [List.getElem?_map,e0];rfl);have hx2:x<2 ^ n:=Nat.lt_of_lt_of_le aW HL.out.2;have hd:=nz hx2;clear hr e0 aY
   cases hb:l.getD x false with
   | false =>
    rw [hb] at cl;have HE:=Lib.hid (And.intro (hI.skip hb) hM);clear hI hM hb hx2 hd;go_wp2_with fail
    go_roundg (l.length-(x+1))
    case measure=>omega
    case rel=>exact ⟨x+1,W,rfl,by omega,by simp,HE.out⟩
   | true =>
    rw [hb] at cl;obtain ⟨s1,s2⟩:=hI.set hx2 hb
    have Lm:(x:Int).tdiv 64=((x/64:Nat):Int):=by rw [Int.tdiv_eq_ediv_of_nonneg (by omega)];omega
    have rQ:(x:Int).tmod 64=((x % 64:Nat):Int):=by rw [Int.tmod_eq_emod_of_nonneg (by omega)];omega
    have rF:((x % 64:Nat):Int)<64:=by omega
    have abN:x % 64<64:=by omega
    have e1:W[x/64]?=some (W.getD (x/64) 0):=by rw [List.getD_eq_getElem?_getD,List.getElem?_eq_getElem (by rw [hI.len];exact hd)];rfl
    have aC:=hM.row;rw [HN.out] at aC;have cw:=au aC (j:=x/64) (u:=.int .u64 (W.getD (x/64) 0)) (by rw [fO,List.getElem?_map,e1];rfl);have fw:=aS aC (x/64)
    have hdN:((x/64:Nat):Int)<(N:Int):=by rw [HN.out] at hd;omega
    have hp:IntKind.u64.wrap (2 ^ (x % 64))=2 ^ (x % 64):=by
     have h1:(2:Nat) ^ (x % 64)<=2 ^ 63:=Nat.pow_le_pow_right (by omega) (by omega)
     have h2:((2:Int) ^ (x % 64))=((2 ^ (x % 64):Nat):Int):=by push_cast;rfl
     have e:IntKind.u64.wrap ((2:Int) ^ (x % 64))=(2:Int) ^ (x % 64) % 18446744073709551616:=rfl;rw [e,h2];generalize (2:Nat) ^ (x % 64)=z at h1;omega
    have HE:=Lib.hid (And.intro s2 (hM.set hd (W.getD (x/64) 0+2 ^ (x % 64))));generalize W.getD (x/64) 0=V at cw HE s1;generalize hP:(2:Int) ^ (x % 64)=P at hp s1 HE;have HP:=Lib.hid (show IntKind.u64.wrap (V+IntKind.u64.wrap ((2:Int) ^ (x % 64)))=V+P by rw [hP,hp,s1]);clear hP hp s1;generalize x/64=xq at *;clear hI hM hb hx2 hd s2 e1 aC;go_wp2_with fail
    go_region
    go_wp2_with fail
    go_roundg (l.length-(x+1))
    case measure=>omega
    case rel=>exact ⟨x+1,_,rfl,by omega,by simp,HE.out.1,by rw [HP.out];exact HE.out.2.drew⟩
  ·obtain rfl:x=l.length:=by omega
   have fF:¬ ((l.length:Int)<(l.length:Int)):=by omega
   have sV:=hM.rs;have z0:wr.cell? ⟨w.heap.size,0,none⟩=some (.int .i64 0):=ae (j:=0) sV rfl;have z1:wr.cell? ⟨w.heap.size,1,none⟩=some (.slice none 0 0):=ae (j:=1) sV rfl;have f0:=ax 0 sV;have f1:=ax 1 sV;have HE:=Lib.hid (And.intro hI hM);clear hI hM aY sV;go_wp2_with fail;obtain ⟨b0,b1⟩:=Ql HE.out.2.rs (.int .i64 n) (.slice (some ⟨g,0,none⟩) N N);refine bodyPost_ret (v:=.agg #[.int .i64 n,.slice (some ⟨g,0,none⟩) N N]) (by simp [results,Tryz.results169,go_sem,b0,b1]) rfl ?_;have hd:=HE.out.1.done HL.out.1 HL.out.2;have aC:=HE.out.2.row;rw [HN.out] at aC
   have hlen:W.length=N:=by rw [HE.out.1.len,HN.out]
   have mf:wr.ownsRow w.heap.size 90 1 (.slice (some ⟨g,0,none⟩) N N) (⟨n,W⟩ : TV).ws.length (fO (⟨n,W⟩ : TV).ws):=by
    show wr.ownsRow _ _ _ _ W.length (fO W)
    rw [hlen];exact aC
   have hu:=(HE.out.2.up.setCell (p:=⟨w.heap.size,0,none⟩) (.inr (Nat.le_refl _)) (.int .i64 n)).setCell (p:=⟨w.heap.size,1,none⟩) (.inr (Nat.le_refl _)) (.slice (some ⟨g,0,none⟩) N N);have Lp:=HE.out.2.gb.2.1;have r1:=bf mf (a:=⟨w.heap.size,0,none⟩) (by simpa [Value.ownBlock] using Ne.symm Lp) (.int .i64 n);have r2:=bf r1 (a:=⟨w.heap.size,1,none⟩) (by simpa [Value.ownBlock] using Ne.symm Lp) (.slice (some ⟨g,0,none⟩) N N);rw [hd] at r2;exact ⟨_,rfl,⟨nC _ HL.out.1,r2⟩,hu⟩
def bQ (f:Nat->Bool) (m i:Nat):List Bool:=(List.range m).map fun x=>decide (x<i)&&f x
theorem iH (f:Nat->Bool) (m i:Nat):(bQ f m i).length=m:=by simp [bQ]
theorem sW (f:Nat->Bool) (m:Nat):bQ f m 0=List.replicate m false:=by
 apply List.ext_getElem?
 intro j
 by_cases h:j<m
 ·simp [bQ,h]
 ·simp [bQ,h]
theorem vM (f:Nat->Bool) {m i:Nat} (_hi:i<m):(bQ f m i).set i (f i)=bQ f m (i+1):=by
 apply List.ext_getElem?
 intro j
 rw [List.getElem?_set]
 by_cases h:j<m
 ·by_cases e:i=j
  ·subst e;simp [bQ,h]
  ·rw [if_neg e]
   simp only [bQ,List.getElem?_map,List.getElem?_range h,Option.map_some]
   congr 2
   rw [decide_eq_decide];omega
 ·by_cases e:i=j
  ·omega
  ·rw [if_neg e];simp [bQ,h]
theorem MC (f:Nat->Bool) {m x:Nat} (hx:x<m):(bQ f m m).getD x false=f x:=by
 rw [List.getD_eq_getElem?_getD];simp [bQ,hx]
theorem Ub (n:Nat):(madeCells #[Value.bool false] n).toList=List.replicate n (Value.bool false):=by
 apply List.ext_getElem?
 intro i
 by_cases hi:i<n
 ·simp [madeCells,hi,Nat.mod_one]
 ·simp [madeCells,hi]
structure kS (w:World) (g B m:Nat) (l:List Bool) (wr:World):Prop where
 row:wr.ownsRow w.heap.size 4 1 (.slice (some ⟨g,0,none⟩) m m) m (l.map Value.bool)
 rs:wr.heap[B]?=some (.cells #[.int .i64 0,.slice none 0 0] 122 (0,0))
 up:af [] w wr
 bw:w.heap.size<=B/\g≠B
theorem kS.set {w wr:World} {g B m j:Nat} {l:List Bool} (h:kS w g B m l wr) (hj:j<m) (b:Bool):kS w g B m (l.set j b) (wr.setCell ⟨g,j,none⟩ (.bool b)):=by
 have hg:=(h.row.lt g rfl).1;refine ⟨?_,by rw [aG h.bw.2.symm];exact h.rs,h.up.setCell (p:=⟨g,j,none⟩) (.inr hg) _,h.bw⟩;have:=dL h.row (j:=j) (by omega) (.bool b)
 rw [List.map_set];exact this
theorem Qm {n:Nat} {f g:Nat->Bool} (h:∀ x,x<2 ^ n->f x=g x):rU n f=rU n g:=by
 have key:∀ i:Nat,(fun j=>decide (64*i+j<2 ^ n)&&f (64*i+j))=(fun j=>decide (64*i+j<2 ^ n)&&g (64*i+j)):=fun i=>by
  funext j
  by_cases hx:64*i+j<2 ^ n
  ·rw [h _ hx]
  ·rw [decide_eq_false hx];rfl
 exact congrArg (TV.mk n) (List.map_congr_left fun i _=>congrArg (fun z:Nat=>(z:Int)) (congrArg (idx 64) (key i)))
theorem yI (n m:Nat) (hm:2 ^ n=m) (f:Nat->Bool):(rU n fun x=>(bQ f m m).getD x false)=rU n f:=by
 subst hm
 apply Qm
 intro x hx
 exact MC f hx
theorem sZ (n:Nat) (b:Bool) (w:World) (hn:n<=16):Calls Tryz.prog 98 #[.int .i64 n,.bool b] w fun e w'=>Jo (nD n b) w e w':=by
 obtain ⟨i2,eU,fE,dR,fU⟩:=info_parts Tryz.uH;have HI:=Lib.hid (And.intro eU (And.intro fE (And.intro dR fU)));have I7:(2:Nat) ^ n<=2 ^ 16:=Nat.pow_le_pow_right (by omega) hn
 have X3:(n:Int)<64:=by omega
 have SE:wrap64 (2 ^ n)=((2 ^ n:Nat):Int):=by
  have h2:((2:Int) ^ n)=((2 ^ n:Nat):Int):=by push_cast;rfl
  rw [h2];generalize (2:Nat) ^ n=z at I7
  unfold wrap64;omega
 obtain ⟨m,hm⟩ : ∃ m,2 ^ n=m:=⟨_,rfl⟩;rw [hm] at I7 SE;have Jp:=Lib.hid (And.intro hm (And.intro hn SE));clear eU fE dR fU hm hn SE
 go_enter Tryz.func98,Tryz.ntmps98
 have HZ:=Lib.hid (heap_alloc_new w (.cells #[.int .i64 0,.slice none 0 0] 122 (0,0)))
 go_wp2_with (refine wpList_make_full _ rfl (.tmp 8) (.tmp 8) 75 rfl w.heap.size 4 i2 (.bool false) 1 Tryz.underlying75 HI.out.1 HI.out.2.1 HI.out.2.2.1 .i64 .i64 _ _ m rfl rfl Jp.out.2.2 Jp.out.2.2 (by rw [HI.out.2.2.2];omega) (by unfold maxLen;omega) (by rw [World.size_alloc];omega) ?_)
 intro w2 ho dh
 have dG:(w.alloc (.cells #[.int .i64 0,.slice none 0 0] 122 (0,0))).heap.size=w.heap.size+1:=by rw [World.size_alloc]
 obtain ⟨g,hg⟩ : ∃ g,w.heap.size+1=g:=⟨_,rfl⟩;rw [hg] at ho;rw [hg]
 have Et:Hid (kS w g w.heap.size m (bQ (fun _=>b) m 0) w2):=by
  have hu:af [] w w2:=((af.refl [] w).alloc _).grown dh (by simp)
  have er:(w2.heap[w.heap.size]?)=some (.cells #[.int .i64 0,.slice none 0 0] 122 (0,0)):=by
   rw [dh.block w.heap.size (by rw [dG];omega) (by simp)];exact HZ.out
  refine ⟨?_,er,hu,by omega,by omega⟩;rw [sW]
  have e:(List.replicate m false).map Value.bool=(madeCells #[Value.bool false] m).toList:=by
   rw [List.map_replicate];exact (Ub m).symm
  rw [e];exact ho
 clear ho dh dG HZ hg;go_wp2_with fail
 go_loopg [6] m (fun gg s6 wr=>∃ x:Nat,m-x=gg/\x<=m/\s6=.int .i64 x/\kS w g w.heap.size m (bQ (fun _=>b) m x) wr)
 case atStart=>exact ⟨0,by omega,by omega,rfl,Et.out⟩
 case round =>
  obtain ⟨x,rfl,hx,rfl,hM⟩:=hrel
  by_cases aW:x<m
  ·have fF:(x:Int)<(m:Int):=by omega
   have e0:(bQ (fun _=>b) m x)[x]?=some ((bQ (fun _=>b) m x).getD x false):=by rw [List.getD_eq_getElem?_getD,List.getElem?_eq_getElem (by rw [iH];exact aW)];rfl
   have cx:=au hM.row (j:=x) (u:=.bool ((bQ (fun _=>b) m x).getD x false)) (by rw [List.getElem?_map,e0];rfl);have fx:=aS hM.row x;have oZ:=hM.set aW (b);rw [show (b)=((fun _=>b) x) from rfl,vM _ aW] at oZ;have HE:=Lib.hid oZ;clear hM oZ e0;go_wp2_with fail
   go_roundg (m-(x+1))
   case measure=>omega
   case rel=>exact ⟨x+1,rfl,by omega,by simp,HE.out⟩
  ·obtain rfl:x=m:=by omega
   have fF:¬ ((x:Int)<(x:Int)):=by omega
   have HM:=Lib.hid hM
   have aC:wr.ownsRow w.heap.size 4 1 (.slice (some ⟨g,0,none⟩) x x) (bQ (fun _=>b) x x).length ((bQ (fun _=>b) x x).map Value.bool):=by rw [iH];exact hM.row
   have OT:=Lib.hid aC;clear hM aC;go_wp2_with fail;refine (vK n (bQ (fun _=>b) x x) _ w.heap.size wr OT.out Jp.out.2.1 (by rw [iH,Jp.out.1];omega)).mono ?_;rintro e w3 hE;obtain ⟨c,rfl,hT,hu⟩:=hE.ex;rw [yI n x Jp.out.1] at hT;have dG:=HM.out.up.size;have sV:=(hu.block w.heap.size (ah HM.out.rs) (by simp)).trans HM.out.rs;have z0:w3.cell? ⟨w.heap.size,0,none⟩=some (.int .i64 0):=ae (j:=0) sV rfl;have z1:w3.cell? ⟨w.heap.size,1,none⟩=some (.slice none 0 0):=ae (j:=1) sV rfl;have f0:=ax 0 sV;have f1:=ax 1 sV;obtain ⟨ca,cn,hc,_⟩:=aj hT.row;have HE:=Lib.hid (And.intro hT (And.intro (HM.out.up.trans hu) sV));have HC:=Lib.hid hc;clear hE hT hu sV hc OT
   simp only [dI,OO]
   rw [HC.out];go_wp2_with fail;obtain ⟨b0,b1⟩:=Ql HE.out.2.2 (.int .i64 n) (.slice ca (rU n (fun _=>b)).ws.length cn);refine bodyPost_end (v:=.agg #[.int .i64 n,.slice ca (rU n (fun _=>b)).ws.length cn]) (by simp [results,Tryz.results98,go_sem,b0,b1]) rfl ?_;have hu:=(HE.out.2.1.setCell (p:=⟨w.heap.size,0,none⟩) (.inr (Nat.le_refl _)) (.int .i64 n)).setCell (p:=⟨w.heap.size,1,none⟩) (.inr (Nat.le_refl _)) (.slice ca (rU n (fun _=>b)).ws.length cn)
   have hne:some w.heap.size≠c.ownBlock:=fun e=>by
    have h1:=(HE.out.1.row.lt w.heap.size e.symm).1;have h2:=ah HM.out.rs;omega
   have r1:=bf HE.out.1.row (a:=⟨w.heap.size,0,none⟩) hne (.int .i64 n);have r2:=bf r1 (a:=⟨w.heap.size,1,none⟩) hne (.slice ca (rU n (fun _=>b)).ws.length cn);refine ⟨c,by rw [HC.out];rfl,⟨HE.out.1.ok,df r2 dG⟩,hu⟩
theorem Qn (n v:Nat) (w:World) (hn:n<=16) (hv:v<64):Calls Tryz.prog 203 #[.int .i64 n,.int .i64 v] w fun e w'=>Jo (TW n v) w e w':=by
 obtain ⟨i2,eU,fE,dR,fU⟩:=info_parts Tryz.uH;have HI:=Lib.hid (And.intro eU (And.intro fE (And.intro dR fU)));have I7:(2:Nat) ^ n<=2 ^ 16:=Nat.pow_le_pow_right (by omega) hn
 have X3:(n:Int)<64:=by omega
 have X4:(v:Int)<64:=by omega
 have SE:wrap64 (2 ^ n)=((2 ^ n:Nat):Int):=by
  have h2:((2:Int) ^ n)=((2 ^ n:Nat):Int):=by push_cast;rfl
  rw [h2];generalize (2:Nat) ^ n=z at I7
  unfold wrap64;omega
 obtain ⟨m,hm⟩ : ∃ m,2 ^ n=m:=⟨_,rfl⟩;rw [hm] at I7 SE;have Jp:=Lib.hid (And.intro hm (And.intro hn SE));clear eU fE dR fU hm hn SE
 go_enter Tryz.func203,Tryz.ntmps203
 have HZ:=Lib.hid (heap_alloc_new w (.cells #[.int .i64 0,.slice none 0 0] 122 (0,0)))
 go_wp2_with (refine wpList_make_full _ rfl (.tmp 8) (.tmp 8) 75 rfl w.heap.size 4 i2 (.bool false) 1 Tryz.underlying75 HI.out.1 HI.out.2.1 HI.out.2.2.1 .i64 .i64 _ _ m rfl rfl Jp.out.2.2 Jp.out.2.2 (by rw [HI.out.2.2.2];omega) (by unfold maxLen;omega) (by rw [World.size_alloc];omega) ?_)
 intro w2 ho dh
 have dG:(w.alloc (.cells #[.int .i64 0,.slice none 0 0] 122 (0,0))).heap.size=w.heap.size+1:=by rw [World.size_alloc]
 obtain ⟨g,hg⟩ : ∃ g,w.heap.size+1=g:=⟨_,rfl⟩;rw [hg] at ho;rw [hg]
 have Et:Hid (kS w g w.heap.size m (bQ (fun x=>x.testBit v) m 0) w2):=by
  have hu:af [] w w2:=((af.refl [] w).alloc _).grown dh (by simp)
  have er:(w2.heap[w.heap.size]?)=some (.cells #[.int .i64 0,.slice none 0 0] 122 (0,0)):=by
   rw [dh.block w.heap.size (by rw [dG];omega) (by simp)];exact HZ.out
  refine ⟨?_,er,hu,by omega,by omega⟩;rw [sW]
  have e:(List.replicate m false).map Value.bool=(madeCells #[Value.bool false] m).toList:=by
   rw [List.map_replicate];exact (Ub m).symm
  rw [e];exact ho
 clear ho dh dG HZ hg;go_wp2_with fail
 go_loopg [6] m (fun gg s6 wr=>∃ x:Nat,m-x=gg/\x<=m/\s6=.int .i64 x/\kS w g w.heap.size m (bQ (fun x=>x.testBit v) m x) wr)
 case atStart=>exact ⟨0,by omega,by omega,rfl,Et.out⟩
 case round =>
  obtain ⟨x,rfl,hx,rfl,hM⟩:=hrel
  by_cases aW:x<m
  ·have fF:(x:Int)<(m:Int):=by omega
   have e0:(bQ (fun x=>x.testBit v) m x)[x]?=some ((bQ (fun x=>x.testBit v) m x).getD x false):=by rw [List.getD_eq_getElem?_getD,List.getElem?_eq_getElem (by rw [iH];exact aW)];rfl
   have cx:=au hM.row (j:=x) (u:=.bool ((bQ (fun x=>x.testBit v) m x).getD x false)) (by rw [List.getElem?_map,e0];rfl);have fx:=aS hM.row x;have oZ:=hM.set aW (x.testBit v);rw [show (x.testBit v)=((fun x=>x.testBit v) x) from rfl,vM _ aW] at oZ;have HE:=Lib.hid oZ
   have Uc:Hid ((((x:Int)/2 ^ v).tmod 2 == 1)=x.testBit v):=by
    show _=_
    have:=BL (x:=(x:Int)) (by unfold jU;omega) v;rw [this,jV]
   clear hM oZ e0;go_wp2_with fail
   go_roundg (m-(x+1))
   case measure=>omega
   case rel=>exact ⟨x+1,rfl,by omega,by simp,by rw [<- Uc.out] at HE;exact HE.out⟩
  ·obtain rfl:x=m:=by omega
   have fF:¬ ((x:Int)<(x:Int)):=by omega
   have HM:=Lib.hid hM
   have aC:wr.ownsRow w.heap.size 4 1 (.slice (some ⟨g,0,none⟩) x x) (bQ (fun x=>x.testBit v) x x).length ((bQ (fun x=>x.testBit v) x x).map Value.bool):=by rw [iH];exact hM.row
   have OT:=Lib.hid aC;clear hM aC;go_wp2_with fail;refine (vK n (bQ (fun x=>x.testBit v) x x) _ w.heap.size wr OT.out Jp.out.2.1 (by rw [iH,Jp.out.1];omega)).mono ?_;rintro e w3 hE;obtain ⟨c,rfl,hT,hu⟩:=hE.ex;rw [yI n x Jp.out.1] at hT;have dG:=HM.out.up.size;have sV:=(hu.block w.heap.size (ah HM.out.rs) (by simp)).trans HM.out.rs;have z0:w3.cell? ⟨w.heap.size,0,none⟩=some (.int .i64 0):=ae (j:=0) sV rfl;have z1:w3.cell? ⟨w.heap.size,1,none⟩=some (.slice none 0 0):=ae (j:=1) sV rfl;have f0:=ax 0 sV;have f1:=ax 1 sV;obtain ⟨ca,cn,hc,_⟩:=aj hT.row;have HE:=Lib.hid (And.intro hT (And.intro (HM.out.up.trans hu) sV));have HC:=Lib.hid hc;clear hE hT hu sV hc OT
   simp only [dI,OO]
   rw [HC.out];go_wp2_with fail;obtain ⟨b0,b1⟩:=Ql HE.out.2.2 (.int .i64 n) (.slice ca (rU n (fun x=>x.testBit v)).ws.length cn);refine bodyPost_end (v:=.agg #[.int .i64 n,.slice ca (rU n (fun x=>x.testBit v)).ws.length cn]) (by simp [results,Tryz.results203,go_sem,b0,b1]) rfl ?_;have hu:=(HE.out.2.1.setCell (p:=⟨w.heap.size,0,none⟩) (.inr (Nat.le_refl _)) (.int .i64 n)).setCell (p:=⟨w.heap.size,1,none⟩) (.inr (Nat.le_refl _)) (.slice ca (rU n (fun x=>x.testBit v)).ws.length cn)
   have hne:some w.heap.size≠c.ownBlock:=fun e=>by
    have h1:=(HE.out.1.row.lt w.heap.size e.symm).1;have h2:=ah HM.out.rs;omega
   have r1:=bf HE.out.1.row (a:=⟨w.heap.size,0,none⟩) hne (.int .i64 n);have r2:=bf r1 (a:=⟨w.heap.size,1,none⟩) hne (.slice ca (rU n (fun x=>x.testBit v)).ws.length cn);refine ⟨c,by rw [HC.out];rfl,⟨HE.out.1.ok,df r2 dG⟩,hu⟩
end Go.Proofs.YtfkopmhpppeheaaGreat
