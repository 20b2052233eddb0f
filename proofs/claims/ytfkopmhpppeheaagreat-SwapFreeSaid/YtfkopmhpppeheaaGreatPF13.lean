import Derived.Test.YtfkopmhpppeheaaGreatPF12
set_option maxRecDepth 100000
set_option maxHeartbeats 1600000
namespace Go.Proofs.YtfkopmhpppeheaaGreat
open Go.RowKit Go.Maps Go.ChangeMaps Go.WideShapes
def tabV (t:TV) (c:Value):Value:=.agg #[.int .i64 t.n,c]
structure TIn (w:World) (Z:List Nat) (c:Value) (t:TV):Prop where
 ok:t.Ok
 row:w.ownsRow 0 90 1 c t.ws.length (flatU t.ws)
 fr:∀ k,c.ownBlock=some k->k∉Z
theorem TIn.keep {w w':World} {Z S:List Nat} {c:Value} {t:TV} (h:TIn w Z c t) (u:Upd S w w') (hS:∀ k,k∈S->k∈Z\/w.heap.size<=k):TIn w' Z c t :=
 ⟨h.ok,row_keep h.row fun k hk=>u.block k (h.row.lt k hk).2 fun hm=>by
  rcases hS k hm with h1 | h1
  ·exact h.fr k hk h1
  ·have:=(h.row.lt k hk).2;omega,h.fr⟩
theorem TIn.keep0 {w w':World} {Z:List Nat} {c:Value} {t:TV} (h:TIn w Z c t) (u:Upd [] w w'):TIn w' Z c t:=h.keep u (by simp)
theorem TIn.apart {w:World} {Z Z':List Nat} {c:Value} {t:TV} (h:TIn w Z c t) (hs:Sub Z w Z'):TIn w Z' c t :=
 ⟨h.ok,h.row,fun k hk hm=>by
  rcases hs k hm with h1 | h1
  ·exact h.fr k hk h1
  ·have:=(h.row.lt k hk).2;omega⟩
theorem TV.Ok.len_le {t:TV} (h:t.Ok):t.ws.length<=1024:=by
 have e:=h.len;have h1:=h.n16
 have h2:wordsN t.n<=1024:=by
  unfold wordsN;split
  ·omega
  ·have:(2:Nat) ^ (t.n-6)<=2 ^ 10:=Nat.pow_le_pow_right (by omega) (by omega)
   omega
 omega
theorem boxT (w:World) (x y:Value):(w.alloc (.cells #[x,y] 122 (0,0))).cell? ⟨w.heap.size,0,none⟩=some x/\(w.alloc (.cells #[x,y] 122 (0,0))).cell? ⟨w.heap.size,1,none⟩=some y:=by
 have hb:=heap_alloc_new w (.cells #[x,y] 122 (0,0));exact ⟨cell_at hb rfl,cell_at hb rfl⟩
theorem same_spec (Z:List Nat) (c d:Value) (t u:TV) (w:World) (h1:TIn w Z c t) (h2:TIn w Z d u) :
  Calls Tryz.prog 57 #[tabV t c,tabV u d] w fun e w'=>e=.returned (.bool (decide (t=u)))/\Upd [] w w':=by
 unfold tabV;obtain ⟨tn,tw⟩:=t;obtain ⟨un,uw⟩:=u;have hl1:tw.length<=1024:=h1.ok.len_le;have hl2:uw.length<=1024:=h2.ok.len_le;obtain ⟨fa,ca,hca,_⟩:=row_nil_len h1.row;obtain ⟨fb,cb,hcb,_⟩:=row_nil_len h2.row;subst hca hcb;have r1:w.ownsRow 0 90 1 (.slice fa tw.length ca) tw.length (flatU tw):=h1.row;have r2:w.ownsRow 0 90 1 (.slice fb uw.length cb) uw.length (flatU uw):=h2.row;clear h1 h2
 show Calls _ _ #[.agg #[.int .i64 tn,.slice fa tw.length ca],.agg #[.int .i64 un,.slice fb uw.length cb]] _ _
 generalize e1:tw.length=n1 at r1 hl1;generalize e2:uw.length=n2 at r2 hl2;have HT:=Lib.hid (And.intro r1 r2);have HL:=Lib.hid (And.intro e1 e2);clear r1 r2 e1 e2
 by_cases hn:tn=un
 ·subst hn
  have hE:(decide ((⟨tn,tw⟩ : TV)=⟨tn,uw⟩))=decide (tw=uw):=by congr 1;simp
  rw [hE];clear hE;have HU2:=Lib.hid (((Upd.refl [] w).alloc (.cells #[.int .i64 tn,.slice fa n1 ca] 122 (0,0))).alloc (.cells #[.int .i64 tn,.slice fb n2 cb] 122 (0,0)));obtain ⟨a0,a1⟩:=boxT w (.int .i64 tn) (.slice fa n1 ca);obtain ⟨b0,b1⟩:=boxT (w.alloc (.cells #[.int .i64 tn,.slice fa n1 ca] 122 (0,0))) (.int .i64 tn) (.slice fb n2 cb);rw [World.size_alloc] at b0 b1;have q0:((w.alloc (.cells #[.int .i64 tn,.slice fa n1 ca] 122 (0,0))).alloc (.cells #[.int .i64 tn,.slice fb n2 cb] 122 (0,0))).cell? ⟨w.heap.size,0,none⟩=some (.int .i64 tn):=(((Upd.refl [] _).alloc _).cell (World.block_lt_of_cell? _ _ a0) (by simp)).trans a0;have q1:((w.alloc (.cells #[.int .i64 tn,.slice fa n1 ca] 122 (0,0))).alloc (.cells #[.int .i64 tn,.slice fb n2 cb] 122 (0,0))).cell? ⟨w.heap.size,1,none⟩=some (.slice fa n1 ca):=(((Upd.refl [] _).alloc _).cell (World.block_lt_of_cell? _ _ a1) (by simp)).trans a1;clear a0 a1
  by_cases hl:n1=n2
  ·subst hl
   go_enter Tryz.func57,Tryz.ntmps57
   go_wp2_with fail
   go_loopg [5] n1 (fun g s5 wr=>∃ i:Nat,n1-i=g/\i<=n1/\s5=.int .i64 i/\tw.take i=uw.take i/\Upd [] ((w.alloc (.cells #[.int .i64 tn,.slice fa n1 ca] 122 (0,0))).alloc (.cells #[.int .i64 tn,.slice fb n1 cb] 122 (0,0))) wr)
   case atStart=>exact ⟨0,by omega,by omega,rfl,rfl,Upd.refl _ _⟩
   case round =>
    obtain ⟨i,rfl,hi,rfl,ht,hU⟩:=hrel;have p1:=(hU.cell (World.block_lt_of_cell? _ _ q1) (by simp)).trans q1;have p2:=(hU.cell (World.block_lt_of_cell? _ _ b1) (by simp)).trans b1
    by_cases hlt:i<n1
    ·obtain ⟨x,hx⟩ : ∃ x,tw[i]?=some x:=⟨_,List.getElem?_eq_getElem (by rw [HL.out.1];exact hlt)⟩
     obtain ⟨y,hy⟩ : ∃ y,uw[i]?=some y:=⟨_,List.getElem?_eq_getElem (by rw [HL.out.2];exact hlt)⟩;obtain ⟨ga,rfl⟩:=row_some HT.out.1 (by omega);obtain ⟨gb,rfl⟩:=row_some HT.out.2 (by omega)
     have r1:=row_keep HT.out.1 fun k hk=>(HU2.out.trans hU).block k (HT.out.1.lt k hk).2 (by simp)
     have r2:=row_keep HT.out.2 fun k hk=>(HU2.out.trans hU).block k (HT.out.2.lt k hk).2 (by simp)
     have c1:=row_cell r1 (j:=i) (u:=.int .u64 x) (by simp [flatU,hx]);have c2:=row_cell r2 (j:=i) (u:=.int .u64 y) (by simp [flatU,hy])
     have hil:(i:Int)<(n1:Int):=by omega
     clear q0 q1 b0 b1 r1 r2
     by_cases hxy:x=y
     ·have hb1:(x == y)=true:=by simpa using hxy
      have HE:Hid (tw.take (i+1)=uw.take (i+1)/\Upd [] _ wr):=⟨by rw [List.take_add_one,List.take_add_one,ht,hx,hy,hxy],hU⟩;clear ht hU hx hy;go_wp2_with fail
      go_region
      go_wp2_with fail
      go_roundg (n1-(i+1))
      case measure=>omega
      case rel=>exact ⟨i+1,rfl,by omega,by simp,HE.out.1,HE.out.2.drew⟩
     ·have hb1:(x == y)=false:=by simpa using hxy
      have HE:Hid (¬ (tw=uw)/\Upd [] _ wr):=⟨fun e=>hxy (by rw [e,hy] at hx;exact (Option.some.inj hx).symm),HU2.out.trans hU⟩;clear ht hU hx hy;go_wp2_with fail
      go_region
      go_wp2_with fail;go_ret;exact ⟨by rw [decide_eq_false HE.out.1];rfl,HE.out.2.drew⟩
    ·obtain rfl:i=n1:=by omega
     have hil:¬ ((i:Int)<(i:Int)):=by omega
     have HE:Hid ((tw=uw)/\Upd [] w wr):=⟨by rw [List.take_of_length_le (by rw [HL.out.1];omega),List.take_of_length_le (by rw [HL.out.2];omega)] at ht;exact ht,HU2.out.trans hU⟩;clear ht hU q0 q1 b0 b1;go_wp2_with fail;go_ret;exact ⟨by rw [decide_eq_true HE.out.1];rfl,HE.out.2⟩
  ·have hl3:((n1:Int) == (n2:Int))=false:=by rw [beq_eq_false_iff_ne];omega
   have hl4:¬ ((n1:Int)=(n2:Int)):=by omega
   have HE:Hid (¬ (tw=uw)):=fun e=>hl (by have:=HL.out;rw [e] at this;omega)
   go_enter Tryz.func57,Tryz.ntmps57
   go_wp2_with fail;go_ret;exact ⟨by rw [decide_eq_false HE.out];rfl,HU2.out⟩
 ·have hn1:((tn:Int) == (un:Int))=false:=by rw [beq_eq_false_iff_ne];omega
  have hn4:¬ ((tn:Int)=(un:Int)):=by omega
  have hE:decide ((⟨tn,tw⟩ : TV)=⟨un,uw⟩)=false:=decide_eq_false fun e=>hn (by injection e)
  rw [hE];clear hE;have HU2:=Lib.hid (((Upd.refl [] w).alloc (.cells #[.int .i64 tn,.slice fa n1 ca] 122 (0,0))).alloc (.cells #[.int .i64 un,.slice fb n2 cb] 122 (0,0)));obtain ⟨a0,a1⟩:=boxT w (.int .i64 tn) (.slice fa n1 ca);obtain ⟨b0,b1⟩:=boxT (w.alloc (.cells #[.int .i64 tn,.slice fa n1 ca] 122 (0,0))) (.int .i64 un) (.slice fb n2 cb);rw [World.size_alloc] at b0 b1;have q0:((w.alloc (.cells #[.int .i64 tn,.slice fa n1 ca] 122 (0,0))).alloc (.cells #[.int .i64 un,.slice fb n2 cb] 122 (0,0))).cell? ⟨w.heap.size,0,none⟩=some (.int .i64 tn):=(((Upd.refl [] _).alloc _).cell (World.block_lt_of_cell? _ _ a0) (by simp)).trans a0;clear a0 a1
  go_enter Tryz.func57,Tryz.ntmps57
  go_wp2_with fail;go_ret;exact ⟨rfl,HU2.out⟩
theorem bit_mod {x:Int} (hx:U64 x) (v:Nat):(x/2 ^ v % 2 == 1)=nb x v:=by
 obtain ⟨n,rfl⟩ : ∃ n:Nat,x=(n:Int):=⟨x.toNat,by unfold U64 at hx;omega⟩
 have e:((n:Int)/2 ^ v % 2)=((n/2 ^ v % 2:Nat):Int):=by push_cast;rfl
 rw [e,nb_cast,Nat.testBit_eq_decide_div_mod_eq,Bool.eq_iff_iff,beq_iff_eq,decide_eq_true_eq];omega
theorem bit_tmod {x:Int} (hx:U64 x) (v:Nat):((x/2 ^ v).tmod 2 == 1)=nb x v:=by
 rw [<- bit_mod hx,Int.tmod_eq_emod_of_nonneg (Int.ediv_nonneg hx.1 (Int.le_of_lt (Int.pow_pos (by omega))))]
theorem tbit_spec (Z:List Nat) (c:Value) (t:TV) (x:Nat) (w:World) (h:TIn w Z c t) (hx:x<2 ^ t.n) :
  Calls Tryz.prog 135 #[tabV t c,.int .i64 x] w fun e w'=>e=.returned (.bool (t.bit x))/\Upd [] w w':=by
 unfold tabV;have hd:=div64_lt hx;obtain ⟨w1,w2,w3⟩:=h.ok.word hd;have hlen:=h.ok.len;have hll:=h.ok.len_le;obtain ⟨fa,ca,hca,_⟩:=row_nil_len h.row;subst hca;obtain ⟨ga,rfl⟩:=row_some h.row (by have:=wordsN_pos t.n;omega);have HU:=Lib.hid ((Upd.refl [] w).alloc (.cells #[.int .i64 t.n,.slice (some ⟨ga,0,none⟩) t.ws.length ca] 122 (0,0)));obtain ⟨a0,a1⟩:=boxT w (.int .i64 t.n) (.slice (some ⟨ga,0,none⟩) t.ws.length ca)
 have r1:=row_keep h.row fun k hk=>HU.out.block k (h.row.lt k hk).2 (by simp)
 have c1:=row_cell r1 (j:=x/64) (u:=.int .u64 (t.ws.getD (x/64) 0)) (by rw [flatU,List.getElem?_map,w3];rfl);have HB:Hid (((t.ws.getD (x/64) 0/2 ^ (x % 64)).tmod 2 == 1)=t.bit x):=bit_tmod w1 (x % 64);generalize t.ws.getD (x/64) 0=W at c1 HB;have hx16:x<65536:=Nat.lt_of_lt_of_le hx (by have:(2:Nat) ^ t.n<=2 ^ 16:=Nat.pow_le_pow_right (by omega) h.ok.n16;omega)
 have hq2:(x:Int).tdiv 64=((x/64:Nat):Int):=by rw [Int.tdiv_eq_ediv_of_nonneg (by omega)];omega
 have hr2:(x:Int).tmod 64=((x % 64:Nat):Int):=by rw [Int.tmod_eq_emod_of_nonneg (by omega)];omega
 have hil:((x/64:Nat):Int)<(t.ws.length:Int):=by omega
 have hrl:((x % 64:Nat):Int)<64:=by omega
 have hrl2:x % 64<64:=by omega
 generalize x/64=xq at c1 hq2 hil;generalize x % 64=xr at HB hr2 hrl hrl2;clear h r1 w1 w2 w3 hd hx hlen;generalize t.ws.length=tl at *
 go_enter Tryz.func135,Tryz.ntmps135
 go_wp2_with fail;go_ret;exact ⟨by rw [<- HB.out];rfl,HU.out⟩
theorem words_spec (n:Nat) (w:World) (hn:n<=16):Calls Tryz.prog 133 #[.int .i64 n] w fun e w'=>e=.returned (.int .i64 (wordsN n:Nat))/\w'=w:=by
 by_cases h6:n<=6
 ·have hd:decide ((n:Int)<=6)=true:=by simp;omega
  have HW:Hid (wordsN n=1):=by
   show wordsN n=1
   unfold wordsN;rw [if_pos h6]
  go_enter Tryz.func133,Tryz.ntmps133
  go_wp2_with fail;go_ret;exact ⟨by rw [HW.out];rfl,rfl⟩
 ·have hd:decide ((n:Int)<=6)=false:=by simp;omega
  obtain ⟨m,rfl⟩ : ∃ m,n=m+6:=⟨n-6,by omega⟩
  have hm:m<=10:=by omega
  have hsub:IntKind.i64.wrap (((m+6:Nat):Int)-6)=(m:Int):=by rw [IntWalk.i64_in _ (by omega)];omega
  have hm64:(m:Int)<64:=by omega
  have HW:Hid (wrap64 (2 ^ m)=(wordsN (m+6):Nat)):=by
   show _=_
   have h1:(2:Nat) ^ m<=2 ^ 10:=Nat.pow_le_pow_right (by omega) hm
   have h2:((2:Int) ^ m)=((2 ^ m:Nat):Int):=by push_cast;rfl
   have h3:wordsN (m+6)=2 ^ m:=by
    unfold wordsN;split
    ·obtain rfl:m=0:=by omega
     rfl
    ·rw [Nat.add_sub_cancel]
   rw [h3,h2];generalize (2:Nat) ^ m=z at h1
   unfold wrap64;omega
  go_enter Tryz.func133,Tryz.ntmps133
  go_wp2_with fail;go_ret;exact ⟨by rw [<- HW.out];rfl,rfl⟩
theorem Tryz.infoBoolR:(Tryz.prog.info? 4).map (fun i=>(i.zero,i.size,i.bytes))=some (some (.bool false),1,1):=by kernel_rfl
theorem box2 {w1:World} {B:Nat} {x y:Value} {t:TypeId} (h:w1.heap[B]?=some (.cells #[x,y] t (0,0))) (x' y':Value) :
  ((w1.setCell ⟨B,0,none⟩ x').setCell ⟨B,1,none⟩ y').cell? ⟨B,0,none⟩=some x'/\((w1.setCell ⟨B,0,none⟩ x').setCell ⟨B,1,none⟩ y').cell? ⟨B,1,none⟩=some y':=by
 have e1:=heap_set_eq (j:=0) h x';have e2:=heap_set_eq (j:=1) e1 y';exact ⟨cell_at e2 rfl,cell_at e2 rfl⟩
structure TNew (w w':World) (c:Value) (t:TV):Prop where
 ok:t.Ok
 row:w'.ownsRow w.heap.size 90 1 c t.ws.length (flatU t.ws)
theorem TNew.tin {w w':World} {c:Value} {t:TV} (h:TNew w w' c t) {Z:List Nat} (hZ:∀ k,k∈Z->k<w.heap.size):TIn w' Z c t :=
 ⟨h.ok,row_base h.row (Nat.zero_le _),fun k hk hm=>by have:=(h.row.lt k hk).1;have:=hZ k hm;omega⟩
theorem TNew.keep {w w' w2:World} {c:Value} {t:TV} (h:TNew w w' c t) (u:Upd [] w' w2):TNew w w2 c t :=
 ⟨h.ok,row_keep h.row fun k hk=>u.block k (h.row.lt k hk).2 (by simp)⟩
theorem TNew.base {w0 w w':World} {c:Value} {t:TV} (h:TNew w w' c t) (hs:w0.heap.size<=w.heap.size):TNew w0 w' c t:=⟨h.ok,row_base h.row hs⟩
structure FillI (n:Nat) (l:List Bool) (x:Nat) (W:List Int):Prop where
 len:W.length=wordsN n
 u:∀ i,i<wordsN n->U64 (W.getD i 0)
 b:∀ i,i<wordsN n->∀ j,nb (W.getD i 0) j=(decide (j<64)&&(decide (64*i+j<x)&&l.getD (64*i+j) false))
theorem FillI.start (n:Nat) (l:List Bool):FillI n l 0 (List.replicate (wordsN n) 0):=by
 have e:∀ i,(List.replicate (wordsN n) (0:Int)).getD i 0=0:=fun i=>by
  rw [List.getD_eq_getElem?_getD,List.getElem?_replicate];split <;> rfl
 exact ⟨by simp,fun i _=>by rw [e];exact u64_zero,fun i _ j=>by rw [e,nb_zero];simp⟩
theorem FillI.skip {n:Nat} {l:List Bool} {x:Nat} {W:List Int} (h:FillI n l x W) (hf:l.getD x false=false):FillI n l (x+1) W:=by
 refine ⟨h.len,h.u,fun i hi j=>?_⟩;rw [h.b i hi j]
 congr 1
 by_cases e:64*i+j=x
 ·rw [e,hf];simp
 ·congr 1
  rw [decide_eq_decide];omega
theorem FillI.set {n:Nat} {l:List Bool} {x:Nat} {W:List Int} (h:FillI n l x W) (hx:x<2 ^ n) (hf:l.getD x false=true) :
  IntKind.u64.wrap (W.getD (x/64) 0+2 ^ (x % 64))=W.getD (x/64) 0+2 ^ (x % 64)/\FillI n l (x+1) (W.set (x/64) (W.getD (x/64) 0+2 ^ (x % 64))):=by
 have hd:=div64_lt hx;have hu:=h.u _ hd;have hb:=h.b _ hd;obtain ⟨m,hm⟩ : ∃ m:Nat,W.getD (x/64) 0=(m:Int):=⟨(W.getD (x/64) 0).toNat,by unfold U64 at hu;omega⟩;rw [hm] at hu hb ⊢
 simp only [nb_cast] at hb
 have hlt:m<2 ^ (x % 64):=by
  apply Nat.lt_pow_two_of_testBit
  intro i hi
  rw [hb]
  have:¬ (64*(x/64)+i<x):=by omega
  simp [this]
 have hp:(2:Nat) ^ (x % 64)<=2 ^ 63:=Nat.pow_le_pow_right (by omega) (by omega)
 have hc:((m:Int)+2 ^ (x % 64))=((m+2 ^ (x % 64):Nat):Int):=by push_cast;rfl
 have hbit:m.testBit (x % 64)=false:=Nat.testBit_lt_two_pow hlt
 have hU:U64 ((m:Int)+2 ^ (x % 64)):=by
  rw [hc];unfold U64
  generalize (2:Nat) ^ (x % 64)=z at hlt hp ⊢;omega
 refine ⟨?_,?_⟩
 ·have e:IntKind.u64.wrap ((m:Int)+2 ^ (x % 64))=((m:Int)+2 ^ (x % 64)) % 18446744073709551616:=rfl
  rw [e];generalize ((m:Int)+2 ^ (x % 64))=z at hU
  unfold U64 at hU;omega
 ·have eg:∀ i,i<wordsN n->(W.set (x/64) ((m:Int)+2 ^ (x % 64))).getD i 0=if i=x/64 then (m:Int)+2 ^ (x % 64) else W.getD i 0:=fun i hi=>by
   rw [List.getD_eq_getElem?_getD,List.getElem?_set]
   by_cases e:x/64=i
   ·rw [if_pos e,if_pos e.symm,if_pos (by rw [h.len];omega)];rfl
   ·rw [if_neg e,if_neg (Ne.symm e),List.getD_eq_getElem?_getD]
  refine ⟨by rw [List.length_set];exact h.len,fun i hi=>?_,fun i hi j=>?_⟩
  ·rw [eg i hi]
   split
   ·exact hU
   ·exact h.u i hi
  ·rw [eg i hi]
   by_cases e:i=x/64
   ·subst e
    rw [if_pos rfl,hc,nb_cast,tb_add hbit,hb]
    by_cases ej:j=x % 64
    ·subst ej
     have e1:64*(x/64)+x % 64=x:=by omega
     have e2:x % 64<64:=Nat.mod_lt _ (by omega)
     rw [if_pos rfl,e1,hf];simp [e2]
    ·rw [if_neg ej]
     congr 2
     rw [decide_eq_decide];omega
   ·rw [if_neg e,h.b i hi]
    by_cases hj:j<64
    ·congr 2
     rw [decide_eq_decide];omega
    ·simp [hj]
theorem FillI.done {n:Nat} {l:List Bool} {W:List Int} (h:FillI n l l.length W) (hn:n<=16) (hl:l.length<=2 ^ n):(⟨n,W⟩ : TV)=mkT n fun x=>l.getD x false:=by
 have hok:(⟨n,W⟩ : TV).Ok:=by
  refine ⟨hn,h.len,fun x hx=>?_,fun h6 x hx i hi=>?_⟩
  ·obtain ⟨j,hj⟩:=List.getElem?_of_mem hx
   have hjl:j<W.length:=by
    by_cases e:j<W.length
    ·exact e
    ·rw [show (⟨n,W⟩ : TV).ws=W from rfl,List.getElem?_eq_none (by omega)] at hj;cases hj
   have:=h.u j (by rw [<- h.len];exact hjl)
   rw [List.getD_eq_getElem?_getD,hj] at this;exact this
  ·obtain ⟨j,hj⟩:=List.getElem?_of_mem hx
   have hjl:j<W.length:=by
    by_cases e:j<W.length
    ·exact e
    ·rw [show (⟨n,W⟩ : TV).ws=W from rfl,List.getElem?_eq_none (by omega)] at hj;cases hj
   have:=h.b j (by rw [<- h.len];exact hjl) i;rw [List.getD_eq_getElem?_getD,hj] at this;have h6':n<6:=h6;have hi':2 ^ n<=i:=hi;have e:(some x).getD 0=x:=rfl;rw [e] at this;rw [this]
   have:¬ (64*j+i<l.length):=by omega
   simp [this]
 refine mkT_eq hok fun x hx=>?_
 have hx':x<2 ^ n:=hx;have hd:=div64_lt hx';unfold TV.bit
 show nb (W.getD (x/64) 0) (x % 64)=_
 rw [h.b _ hd,show 64*(x/64)+x % 64=x by omega];have e2:x % 64<64:=Nat.mod_lt _ (by omega)
 by_cases e:x<l.length
 ·simp [e,e2]
 ·have:l.getD x false=false:=by rw [List.getD_eq_getElem?_getD,List.getElem?_eq_none (by omega)];rfl
  rw [this];simp
structure FillM (w:World) (n g B:Nat) (W:List Int) (wr:World):Prop where
 row:wr.ownsRow w.heap.size 90 1 (.slice (some ⟨g,0,none⟩) (wordsN n) (wordsN n)) (wordsN n) (flatU W)
 bx:wr.heap[B]?=some (.cells #[.int .i64 n,.slice (some ⟨g,0,none⟩) (wordsN n) (wordsN n)] 122 (0,0))
 rs:wr.heap[w.heap.size]?=some (.cells #[.int .i64 0,.slice none 0 0] 122 (0,0))
 up:Upd [] w wr
 gb:g≠B/\g≠w.heap.size/\B≠w.heap.size/\w.heap.size<B
theorem FillM.set {w wr:World} {n g B j:Nat} {W:List Int} (h:FillM w n g B W wr) (hj:j<wordsN n) (x:Int):FillM w n g B (W.set j x) (wr.setCell ⟨g,j,none⟩ (.int .u64 x)):=by
 have hg:=(h.row.lt g rfl).1;refine ⟨?_,by rw [heap_set_ne h.gb.1.symm];exact h.bx,by rw [heap_set_ne h.gb.2.1.symm];exact h.rs,h.up.setCell (p:=⟨g,j,none⟩) (.inr hg) _,h.gb⟩;have:=row_set h.row (j:=j) (by omega) (.int .u64 x)
 have e:(flatU W).set j (.int .u64 x)=flatU (W.set j x):=by simp [flatU,List.map_set]
 rw [<- e];exact this
theorem FillM.drew {w wr:World} {n g B:Nat} {W:List Int} (h:FillM w n g B W wr):FillM w n g B W wr.drew:=⟨h.row,h.bx,h.rs,h.up.drew,h.gb⟩
structure TabQ (t:TV) (w:World) (e:Ending) (w':World):Prop where
 ex:∃ c:Value,e=.returned (tabV t c)/\TNew w w' c t/\Upd [] w w'
theorem tfill_spec (n:Nat) (l:List Bool) (lv:Value) (base:Nat) (w:World) (h:w.ownsRow base 4 1 lv l.length (l.map Value.bool)) (hn:n<=16) (hl:l.length<=2 ^ n) :
  Calls Tryz.prog 169 #[.int .i64 n,lv] w fun e w'=>TabQ (mkT n fun x=>l.getD x false) w e w':=by
 obtain ⟨i2,hi2,hz2,hs2,hb2⟩:=info_parts Tryz.infoU64;have HI:=Lib.hid (And.intro hi2 (And.intro hz2 (And.intro hs2 hb2)));have h16:(2:Nat) ^ n<=2 ^ 16:=Nat.pow_le_pow_right (by omega) hn
 have hl16:l.length<=65536:=by omega
 have hwn:wordsN n<=1024:=by
  unfold wordsN;split
  ·omega
  ·have:(2:Nat) ^ (n-6)<=2 ^ 10:=Nat.pow_le_pow_right (by omega) (by omega)
   omega
 obtain ⟨fa,fc,rfl,_⟩:=row_nil_len h;have HR:=Lib.hid h;have HL:=Lib.hid (And.intro hn hl);clear h hi2 hz2 hs2 hb2 h16 hl
 go_enter Tryz.func169,Tryz.ntmps169
 go_wp2_with fail;refine (words_spec n _ HL.out.1).mono ?_;rintro e w1 ⟨rfl,rfl⟩;have HZ:=Lib.hid (heap_alloc_new w (.cells #[.int .i64 0,.slice none 0 0] 122 (0,0)))
 have hsz:(w.alloc (.cells #[.int .i64 0,.slice none 0 0] 122 (0,0))).heap.size=w.heap.size+1:=by rw [World.size_alloc]
 obtain ⟨N,hN⟩ : ∃ N,wordsN n=N:=⟨_,rfl⟩;rw [hN] at hwn;have HN:=Lib.hid hN
 simp only [hN]
 clear hN
 go_wp2_with (refine wpList_make_full _ rfl (.tmp 9) (.tmp 9) 68 rfl w.heap.size 90 i2 (.int .u64 0) 1 Tryz.underlying68 HI.out.1 HI.out.2.1 HI.out.2.2.1 .i64 .i64 _ _ N rfl rfl rfl rfl (by rw [HI.out.2.2.2];omega) (by unfold maxLen;omega) (by rw [hsz];omega) ?_)
 intro w2 ho hgr
 obtain ⟨g,hg⟩ : ∃ g,w.heap.size+1=g:=⟨_,rfl⟩;rw [hg] at ho;rw [hg];have hs2:=hgr.size;rw [hsz] at hs2
 have HM0:Hid (FillM w n g w2.heap.size (List.replicate (wordsN n) 0) (w2.alloc (.cells #[.int .i64 n,.slice (some ⟨g,0,none⟩) N N] 122 (0,0)))):=by
  have hu:Upd [] w w2:=((Upd.refl [] w).alloc _).grown hgr (by simp);have hgl:=(ho.lt g rfl).2
  have er:(w2.heap[w.heap.size]?)=some (.cells #[.int .i64 0,.slice none 0 0] 122 (0,0)):=by
   rw [hgr.block w.heap.size (by rw [hsz];omega) (by simp)];exact HZ.out
  refine ⟨?_,?_,?_,hu.alloc _,by omega,by omega,by omega,by omega⟩
  ·rw [HN.out]
   have e:flatU (List.replicate N 0)=(madeCells #[Value.int .u64 0] N).toList:=by
    rw [flatU,List.map_replicate];exact (madeU N).symm
   rw [e];exact ho.alloc _
  ·rw [HN.out];exact heap_alloc_new w2 _
  ·rw [Below.heap_alloc _ _ _ (heap_lt er)];exact er
 have HFI:=Lib.hid (FillI.start n l);obtain ⟨B,hB⟩ : ∃ B,w2.heap.size=B:=⟨_,rfl⟩;rw [hB] at HM0;have HBe:=Lib.hid hB;have hgb:=HM0.out.gb;clear ho hgr hs2 hsz HZ hg hB;go_wp2_with fail;rw [HBe.out]
 go_loopg [6] l.length (fun gg s6 wr=>∃ (x:Nat) (W:List Int),l.length-x=gg/\x<=l.length/\s6=.int .i64 x/\FillI n l x W/\FillM w n g B W wr)
 case atStart=>exact ⟨0,_,by omega,by omega,rfl,HFI.out,HM0.out⟩
 case round =>
  obtain ⟨x,W,rfl,hx,rfl,hI,hM⟩:=hrel;have hbx:=hM.bx;rw [HN.out] at hbx;have y0:wr.cell? ⟨B,0,none⟩=some (.int .i64 n):=cell_at (j:=0) hbx rfl;have y1:wr.cell? ⟨B,1,none⟩=some (.slice (some ⟨g,0,none⟩) N N):=cell_at (j:=1) hbx rfl
  by_cases hlt:x<l.length
  ·have hil:(x:Int)<(l.length:Int):=by omega
   obtain ⟨ga,rfl⟩:=row_some HR.out (by omega)
   have hr:=row_keep HR.out fun k hk=>hM.up.block k (HR.out.lt k hk).2 (by simp)
   have e0:l[x]?=some (l.getD x false):=by rw [List.getD_eq_getElem?_getD,List.getElem?_eq_getElem hlt];rfl
   have cl:=row_cell hr (j:=x) (u:=.bool (l.getD x false)) (by rw [List.getElem?_map,e0];rfl);have hx2:x<2 ^ n:=Nat.lt_of_lt_of_le hlt HL.out.2;have hd:=div64_lt hx2;clear hr e0 hbx
   cases hb:l.getD x false with
   | false =>
    rw [hb] at cl;have HE:=Lib.hid (And.intro (hI.skip hb) hM);clear hI hM hb hx2 hd;go_wp2_with fail
    go_roundg (l.length-(x+1))
    case measure=>omega
    case rel=>exact ⟨x+1,W,rfl,by omega,by simp,HE.out⟩
   | true =>
    rw [hb] at cl;obtain ⟨s1,s2⟩:=hI.set hx2 hb
    have hq2:(x:Int).tdiv 64=((x/64:Nat):Int):=by rw [Int.tdiv_eq_ediv_of_nonneg (by omega)];omega
    have hr2:(x:Int).tmod 64=((x % 64:Nat):Int):=by rw [Int.tmod_eq_emod_of_nonneg (by omega)];omega
    have hrl:((x % 64:Nat):Int)<64:=by omega
    have hrl2:x % 64<64:=by omega
    have e1:W[x/64]?=some (W.getD (x/64) 0):=by rw [List.getD_eq_getElem?_getD,List.getElem?_eq_getElem (by rw [hI.len];exact hd)];rfl
    have hrow:=hM.row;rw [HN.out] at hrow;have cw:=row_cell hrow (j:=x/64) (u:=.int .u64 (W.getD (x/64) 0)) (by rw [flatU,List.getElem?_map,e1];rfl);have fw:=row_frozen hrow (x/64)
    have hdN:((x/64:Nat):Int)<(N:Int):=by rw [HN.out] at hd;omega
    have hp:IntKind.u64.wrap (2 ^ (x % 64))=2 ^ (x % 64):=by
     have h1:(2:Nat) ^ (x % 64)<=2 ^ 63:=Nat.pow_le_pow_right (by omega) (by omega)
     have h2:((2:Int) ^ (x % 64))=((2 ^ (x % 64):Nat):Int):=by push_cast;rfl
     have e:IntKind.u64.wrap ((2:Int) ^ (x % 64))=(2:Int) ^ (x % 64) % 18446744073709551616:=rfl;rw [e,h2];generalize (2:Nat) ^ (x % 64)=z at h1;omega
    have HE:=Lib.hid (And.intro s2 (hM.set hd (W.getD (x/64) 0+2 ^ (x % 64))));generalize W.getD (x/64) 0=V at cw HE s1;generalize hP:(2:Int) ^ (x % 64)=P at hp s1 HE;have HP:=Lib.hid (show IntKind.u64.wrap (V+IntKind.u64.wrap ((2:Int) ^ (x % 64)))=V+P by rw [hP,hp,s1]);clear hP hp s1;generalize x/64=xq at *;clear hI hM hb hx2 hd s2 e1 hrow;go_wp2_with fail
    go_region
    go_wp2_with fail
    go_roundg (l.length-(x+1))
    case measure=>omega
    case rel=>exact ⟨x+1,_,rfl,by omega,by simp,HE.out.1,by rw [HP.out];exact HE.out.2.drew⟩
  ·obtain rfl:x=l.length:=by omega
   have hil:¬ ((l.length:Int)<(l.length:Int)):=by omega
   have hrs:=hM.rs;have z0:wr.cell? ⟨w.heap.size,0,none⟩=some (.int .i64 0):=cell_at (j:=0) hrs rfl;have z1:wr.cell? ⟨w.heap.size,1,none⟩=some (.slice none 0 0):=cell_at (j:=1) hrs rfl;have f0:=frozen_at 0 hrs;have f1:=frozen_at 1 hrs;have HE:=Lib.hid (And.intro hI hM);clear hI hM hbx hrs;go_wp2_with fail;obtain ⟨b0,b1⟩:=box2 HE.out.2.rs (.int .i64 n) (.slice (some ⟨g,0,none⟩) N N);refine bodyPost_ret (v:=.agg #[.int .i64 n,.slice (some ⟨g,0,none⟩) N N]) (by simp [results,Tryz.results169,go_sem,b0,b1]) rfl ?_;have hd:=HE.out.1.done HL.out.1 HL.out.2;have hrow:=HE.out.2.row;rw [HN.out] at hrow
   have hlen:W.length=N:=by rw [HE.out.1.len,HN.out]
   have hrow2:wr.ownsRow w.heap.size 90 1 (.slice (some ⟨g,0,none⟩) N N) (⟨n,W⟩ : TV).ws.length (flatU (⟨n,W⟩ : TV).ws):=by
    show wr.ownsRow _ _ _ _ W.length (flatU W)
    rw [hlen];exact hrow
   have hu:=(HE.out.2.up.setCell (p:=⟨w.heap.size,0,none⟩) (.inr (Nat.le_refl _)) (.int .i64 n)).setCell (p:=⟨w.heap.size,1,none⟩) (.inr (Nat.le_refl _)) (.slice (some ⟨g,0,none⟩) N N);have hg2:=HE.out.2.gb.2.1;have r1:=row_ne hrow2 (a:=⟨w.heap.size,0,none⟩) (by simpa [Value.ownBlock] using Ne.symm hg2) (.int .i64 n);have r2:=row_ne r1 (a:=⟨w.heap.size,1,none⟩) (by simpa [Value.ownBlock] using Ne.symm hg2) (.slice (some ⟨g,0,none⟩) N N);rw [hd] at r2;exact ⟨_,rfl,⟨mkT_ok _ HL.out.1,r2⟩,hu⟩
def boolsI (f:Nat->Bool) (m i:Nat):List Bool:=(List.range m).map fun x=>decide (x<i)&&f x
theorem boolsI_len (f:Nat->Bool) (m i:Nat):(boolsI f m i).length=m:=by simp [boolsI]
theorem boolsI_zero (f:Nat->Bool) (m:Nat):boolsI f m 0=List.replicate m false:=by
 apply List.ext_getElem?
 intro j
 by_cases h:j<m
 ·simp [boolsI,h]
 ·simp [boolsI,h]
theorem boolsI_set (f:Nat->Bool) {m i:Nat} (_hi:i<m):(boolsI f m i).set i (f i)=boolsI f m (i+1):=by
 apply List.ext_getElem?
 intro j
 rw [List.getElem?_set]
 by_cases h:j<m
 ·by_cases e:i=j
  ·subst e;simp [boolsI,h]
  ·rw [if_neg e]
   simp only [boolsI,List.getElem?_map,List.getElem?_range h,Option.map_some]
   congr 2
   rw [decide_eq_decide];omega
 ·by_cases e:i=j
  ·omega
  ·rw [if_neg e];simp [boolsI,h]
theorem boolsI_get (f:Nat->Bool) {m x:Nat} (hx:x<m):(boolsI f m m).getD x false=f x:=by
 rw [List.getD_eq_getElem?_getD];simp [boolsI,hx]
theorem madeB (n:Nat):(madeCells #[Value.bool false] n).toList=List.replicate n (Value.bool false):=by
 apply List.ext_getElem?
 intro i
 by_cases hi:i<n
 ·simp [madeCells,hi,Nat.mod_one]
 ·simp [madeCells,hi]
structure BoolsM (w:World) (g B m:Nat) (l:List Bool) (wr:World):Prop where
 row:wr.ownsRow w.heap.size 4 1 (.slice (some ⟨g,0,none⟩) m m) m (l.map Value.bool)
 rs:wr.heap[B]?=some (.cells #[.int .i64 0,.slice none 0 0] 122 (0,0))
 up:Upd [] w wr
 bw:w.heap.size<=B/\g≠B
theorem BoolsM.set {w wr:World} {g B m j:Nat} {l:List Bool} (h:BoolsM w g B m l wr) (hj:j<m) (b:Bool):BoolsM w g B m (l.set j b) (wr.setCell ⟨g,j,none⟩ (.bool b)):=by
 have hg:=(h.row.lt g rfl).1;refine ⟨?_,by rw [heap_set_ne h.bw.2.symm];exact h.rs,h.up.setCell (p:=⟨g,j,none⟩) (.inr hg) _,h.bw⟩;have:=row_set h.row (j:=j) (by omega) (.bool b)
 rw [List.map_set];exact this
theorem mkT_congr {n:Nat} {f g:Nat->Bool} (h:∀ x,x<2 ^ n->f x=g x):mkT n f=mkT n g:=by
 have key:∀ i:Nat,(fun j=>decide (64*i+j<2 ^ n)&&f (64*i+j))=(fun j=>decide (64*i+j<2 ^ n)&&g (64*i+j)):=fun i=>by
  funext j
  by_cases hx:64*i+j<2 ^ n
  ·rw [h _ hx]
  ·rw [decide_eq_false hx];rfl
 exact congrArg (TV.mk n) (List.map_congr_left fun i _=>congrArg (fun z:Nat=>(z:Int)) (congrArg (idx 64) (key i)))
theorem mkT_bools (n m:Nat) (hm:2 ^ n=m) (f:Nat->Bool):(mkT n fun x=>(boolsI f m m).getD x false)=mkT n f:=by
 subst hm
 apply mkT_congr
 intro x hx
 exact boolsI_get f hx
theorem tconst_spec (n:Nat) (b:Bool) (w:World) (hn:n<=16):Calls Tryz.prog 98 #[.int .i64 n,.bool b] w fun e w'=>TabQ (constT n b) w e w':=by
 obtain ⟨i2,hi2,hz2,hs2,hb2⟩:=info_parts Tryz.infoBoolR;have HI:=Lib.hid (And.intro hi2 (And.intro hz2 (And.intro hs2 hb2)));have h16:(2:Nat) ^ n<=2 ^ 16:=Nat.pow_le_pow_right (by omega) hn
 have hn64:(n:Int)<64:=by omega
 have hsh:wrap64 (2 ^ n)=((2 ^ n:Nat):Int):=by
  have h2:((2:Int) ^ n)=((2 ^ n:Nat):Int):=by push_cast;rfl
  rw [h2];generalize (2:Nat) ^ n=z at h16
  unfold wrap64;omega
 obtain ⟨m,hm⟩ : ∃ m,2 ^ n=m:=⟨_,rfl⟩;rw [hm] at h16 hsh;have HMN:=Lib.hid (And.intro hm (And.intro hn hsh));clear hi2 hz2 hs2 hb2 hm hn hsh
 go_enter Tryz.func98,Tryz.ntmps98
 have HZ:=Lib.hid (heap_alloc_new w (.cells #[.int .i64 0,.slice none 0 0] 122 (0,0)))
 go_wp2_with (refine wpList_make_full _ rfl (.tmp 8) (.tmp 8) 75 rfl w.heap.size 4 i2 (.bool false) 1 Tryz.underlying75 HI.out.1 HI.out.2.1 HI.out.2.2.1 .i64 .i64 _ _ m rfl rfl HMN.out.2.2 HMN.out.2.2 (by rw [HI.out.2.2.2];omega) (by unfold maxLen;omega) (by rw [World.size_alloc];omega) ?_)
 intro w2 ho hgr
 have hsz:(w.alloc (.cells #[.int .i64 0,.slice none 0 0] 122 (0,0))).heap.size=w.heap.size+1:=by rw [World.size_alloc]
 obtain ⟨g,hg⟩ : ∃ g,w.heap.size+1=g:=⟨_,rfl⟩;rw [hg] at ho;rw [hg]
 have HM0:Hid (BoolsM w g w.heap.size m (boolsI (fun _=>b) m 0) w2):=by
  have hu:Upd [] w w2:=((Upd.refl [] w).alloc _).grown hgr (by simp)
  have er:(w2.heap[w.heap.size]?)=some (.cells #[.int .i64 0,.slice none 0 0] 122 (0,0)):=by
   rw [hgr.block w.heap.size (by rw [hsz];omega) (by simp)];exact HZ.out
  refine ⟨?_,er,hu,by omega,by omega⟩;rw [boolsI_zero]
  have e:(List.replicate m false).map Value.bool=(madeCells #[Value.bool false] m).toList:=by
   rw [List.map_replicate];exact (madeB m).symm
  rw [e];exact ho
 clear ho hgr hsz HZ hg;go_wp2_with fail
 go_loopg [6] m (fun gg s6 wr=>∃ x:Nat,m-x=gg/\x<=m/\s6=.int .i64 x/\BoolsM w g w.heap.size m (boolsI (fun _=>b) m x) wr)
 case atStart=>exact ⟨0,by omega,by omega,rfl,HM0.out⟩
 case round =>
  obtain ⟨x,rfl,hx,rfl,hM⟩:=hrel
  by_cases hlt:x<m
  ·have hil:(x:Int)<(m:Int):=by omega
   have e0:(boolsI (fun _=>b) m x)[x]?=some ((boolsI (fun _=>b) m x).getD x false):=by rw [List.getD_eq_getElem?_getD,List.getElem?_eq_getElem (by rw [boolsI_len];exact hlt)];rfl
   have cx:=row_cell hM.row (j:=x) (u:=.bool ((boolsI (fun _=>b) m x).getD x false)) (by rw [List.getElem?_map,e0];rfl);have fx:=row_frozen hM.row x;have hset:=hM.set hlt (b);rw [show (b)=((fun _=>b) x) from rfl,boolsI_set _ hlt] at hset;have HE:=Lib.hid hset;clear hM hset e0;go_wp2_with fail
   go_roundg (m-(x+1))
   case measure=>omega
   case rel=>exact ⟨x+1,rfl,by omega,by simp,HE.out⟩
  ·obtain rfl:x=m:=by omega
   have hil:¬ ((x:Int)<(x:Int)):=by omega
   have HM:=Lib.hid hM
   have hrow:wr.ownsRow w.heap.size 4 1 (.slice (some ⟨g,0,none⟩) x x) (boolsI (fun _=>b) x x).length ((boolsI (fun _=>b) x x).map Value.bool):=by rw [boolsI_len];exact hM.row
   have HRW:=Lib.hid hrow;clear hM hrow;go_wp2_with fail;refine (tfill_spec n (boolsI (fun _=>b) x x) _ w.heap.size wr HRW.out HMN.out.2.1 (by rw [boolsI_len,HMN.out.1];omega)).mono ?_;rintro e w3 hE;obtain ⟨c,rfl,hT,hu⟩:=hE.ex;rw [mkT_bools n x HMN.out.1] at hT;have hsz:=HM.out.up.size;have hrs:=(hu.block w.heap.size (heap_lt HM.out.rs) (by simp)).trans HM.out.rs;have z0:w3.cell? ⟨w.heap.size,0,none⟩=some (.int .i64 0):=cell_at (j:=0) hrs rfl;have z1:w3.cell? ⟨w.heap.size,1,none⟩=some (.slice none 0 0):=cell_at (j:=1) hrs rfl;have f0:=frozen_at 0 hrs;have f1:=frozen_at 1 hrs;obtain ⟨ca,cn,hc,_⟩:=row_nil_len hT.row;have HE:=Lib.hid (And.intro hT (And.intro (HM.out.up.trans hu) hrs));have HC:=Lib.hid hc;clear hE hT hu hrs hc HRW
   simp only [tabV,mkT_n]
   rw [HC.out];go_wp2_with fail;obtain ⟨b0,b1⟩:=box2 HE.out.2.2 (.int .i64 n) (.slice ca (mkT n (fun _=>b)).ws.length cn);refine bodyPost_end (v:=.agg #[.int .i64 n,.slice ca (mkT n (fun _=>b)).ws.length cn]) (by simp [results,Tryz.results98,go_sem,b0,b1]) rfl ?_;have hu:=(HE.out.2.1.setCell (p:=⟨w.heap.size,0,none⟩) (.inr (Nat.le_refl _)) (.int .i64 n)).setCell (p:=⟨w.heap.size,1,none⟩) (.inr (Nat.le_refl _)) (.slice ca (mkT n (fun _=>b)).ws.length cn)
   have hne:some w.heap.size≠c.ownBlock:=fun e=>by
    have h1:=(HE.out.1.row.lt w.heap.size e.symm).1;have h2:=heap_lt HM.out.rs;omega
   have r1:=row_ne HE.out.1.row (a:=⟨w.heap.size,0,none⟩) hne (.int .i64 n);have r2:=row_ne r1 (a:=⟨w.heap.size,1,none⟩) hne (.slice ca (mkT n (fun _=>b)).ws.length cn);refine ⟨c,by rw [HC.out];rfl,⟨HE.out.1.ok,row_base r2 hsz⟩,hu⟩
theorem tvar_spec (n v:Nat) (w:World) (hn:n<=16) (hv:v<64):Calls Tryz.prog 203 #[.int .i64 n,.int .i64 v] w fun e w'=>TabQ (varT n v) w e w':=by
 obtain ⟨i2,hi2,hz2,hs2,hb2⟩:=info_parts Tryz.infoBoolR;have HI:=Lib.hid (And.intro hi2 (And.intro hz2 (And.intro hs2 hb2)));have h16:(2:Nat) ^ n<=2 ^ 16:=Nat.pow_le_pow_right (by omega) hn
 have hn64:(n:Int)<64:=by omega
 have hv64:(v:Int)<64:=by omega
 have hsh:wrap64 (2 ^ n)=((2 ^ n:Nat):Int):=by
  have h2:((2:Int) ^ n)=((2 ^ n:Nat):Int):=by push_cast;rfl
  rw [h2];generalize (2:Nat) ^ n=z at h16
  unfold wrap64;omega
 obtain ⟨m,hm⟩ : ∃ m,2 ^ n=m:=⟨_,rfl⟩;rw [hm] at h16 hsh;have HMN:=Lib.hid (And.intro hm (And.intro hn hsh));clear hi2 hz2 hs2 hb2 hm hn hsh
 go_enter Tryz.func203,Tryz.ntmps203
 have HZ:=Lib.hid (heap_alloc_new w (.cells #[.int .i64 0,.slice none 0 0] 122 (0,0)))
 go_wp2_with (refine wpList_make_full _ rfl (.tmp 8) (.tmp 8) 75 rfl w.heap.size 4 i2 (.bool false) 1 Tryz.underlying75 HI.out.1 HI.out.2.1 HI.out.2.2.1 .i64 .i64 _ _ m rfl rfl HMN.out.2.2 HMN.out.2.2 (by rw [HI.out.2.2.2];omega) (by unfold maxLen;omega) (by rw [World.size_alloc];omega) ?_)
 intro w2 ho hgr
 have hsz:(w.alloc (.cells #[.int .i64 0,.slice none 0 0] 122 (0,0))).heap.size=w.heap.size+1:=by rw [World.size_alloc]
 obtain ⟨g,hg⟩ : ∃ g,w.heap.size+1=g:=⟨_,rfl⟩;rw [hg] at ho;rw [hg]
 have HM0:Hid (BoolsM w g w.heap.size m (boolsI (fun x=>x.testBit v) m 0) w2):=by
  have hu:Upd [] w w2:=((Upd.refl [] w).alloc _).grown hgr (by simp)
  have er:(w2.heap[w.heap.size]?)=some (.cells #[.int .i64 0,.slice none 0 0] 122 (0,0)):=by
   rw [hgr.block w.heap.size (by rw [hsz];omega) (by simp)];exact HZ.out
  refine ⟨?_,er,hu,by omega,by omega⟩;rw [boolsI_zero]
  have e:(List.replicate m false).map Value.bool=(madeCells #[Value.bool false] m).toList:=by
   rw [List.map_replicate];exact (madeB m).symm
  rw [e];exact ho
 clear ho hgr hsz HZ hg;go_wp2_with fail
 go_loopg [6] m (fun gg s6 wr=>∃ x:Nat,m-x=gg/\x<=m/\s6=.int .i64 x/\BoolsM w g w.heap.size m (boolsI (fun x=>x.testBit v) m x) wr)
 case atStart=>exact ⟨0,by omega,by omega,rfl,HM0.out⟩
 case round =>
  obtain ⟨x,rfl,hx,rfl,hM⟩:=hrel
  by_cases hlt:x<m
  ·have hil:(x:Int)<(m:Int):=by omega
   have e0:(boolsI (fun x=>x.testBit v) m x)[x]?=some ((boolsI (fun x=>x.testBit v) m x).getD x false):=by rw [List.getD_eq_getElem?_getD,List.getElem?_eq_getElem (by rw [boolsI_len];exact hlt)];rfl
   have cx:=row_cell hM.row (j:=x) (u:=.bool ((boolsI (fun x=>x.testBit v) m x).getD x false)) (by rw [List.getElem?_map,e0];rfl);have fx:=row_frozen hM.row x;have hset:=hM.set hlt (x.testBit v);rw [show (x.testBit v)=((fun x=>x.testBit v) x) from rfl,boolsI_set _ hlt] at hset;have HE:=Lib.hid hset
   have HBT:Hid ((((x:Int)/2 ^ v).tmod 2 == 1)=x.testBit v):=by
    show _=_
    have:=bit_tmod (x:=(x:Int)) (by unfold U64;omega) v;rw [this,nb_cast]
   clear hM hset e0;go_wp2_with fail
   go_roundg (m-(x+1))
   case measure=>omega
   case rel=>exact ⟨x+1,rfl,by omega,by simp,by rw [<- HBT.out] at HE;exact HE.out⟩
  ·obtain rfl:x=m:=by omega
   have hil:¬ ((x:Int)<(x:Int)):=by omega
   have HM:=Lib.hid hM
   have hrow:wr.ownsRow w.heap.size 4 1 (.slice (some ⟨g,0,none⟩) x x) (boolsI (fun x=>x.testBit v) x x).length ((boolsI (fun x=>x.testBit v) x x).map Value.bool):=by rw [boolsI_len];exact hM.row
   have HRW:=Lib.hid hrow;clear hM hrow;go_wp2_with fail;refine (tfill_spec n (boolsI (fun x=>x.testBit v) x x) _ w.heap.size wr HRW.out HMN.out.2.1 (by rw [boolsI_len,HMN.out.1];omega)).mono ?_;rintro e w3 hE;obtain ⟨c,rfl,hT,hu⟩:=hE.ex;rw [mkT_bools n x HMN.out.1] at hT;have hsz:=HM.out.up.size;have hrs:=(hu.block w.heap.size (heap_lt HM.out.rs) (by simp)).trans HM.out.rs;have z0:w3.cell? ⟨w.heap.size,0,none⟩=some (.int .i64 0):=cell_at (j:=0) hrs rfl;have z1:w3.cell? ⟨w.heap.size,1,none⟩=some (.slice none 0 0):=cell_at (j:=1) hrs rfl;have f0:=frozen_at 0 hrs;have f1:=frozen_at 1 hrs;obtain ⟨ca,cn,hc,_⟩:=row_nil_len hT.row;have HE:=Lib.hid (And.intro hT (And.intro (HM.out.up.trans hu) hrs));have HC:=Lib.hid hc;clear hE hT hu hrs hc HRW
   simp only [tabV,mkT_n]
   rw [HC.out];go_wp2_with fail;obtain ⟨b0,b1⟩:=box2 HE.out.2.2 (.int .i64 n) (.slice ca (mkT n (fun x=>x.testBit v)).ws.length cn);refine bodyPost_end (v:=.agg #[.int .i64 n,.slice ca (mkT n (fun x=>x.testBit v)).ws.length cn]) (by simp [results,Tryz.results203,go_sem,b0,b1]) rfl ?_;have hu:=(HE.out.2.1.setCell (p:=⟨w.heap.size,0,none⟩) (.inr (Nat.le_refl _)) (.int .i64 n)).setCell (p:=⟨w.heap.size,1,none⟩) (.inr (Nat.le_refl _)) (.slice ca (mkT n (fun x=>x.testBit v)).ws.length cn)
   have hne:some w.heap.size≠c.ownBlock:=fun e=>by
    have h1:=(HE.out.1.row.lt w.heap.size e.symm).1;have h2:=heap_lt HM.out.rs;omega
   have r1:=row_ne HE.out.1.row (a:=⟨w.heap.size,0,none⟩) hne (.int .i64 n);have r2:=row_ne r1 (a:=⟨w.heap.size,1,none⟩) hne (.slice ca (mkT n (fun x=>x.testBit v)).ws.length cn);refine ⟨c,by rw [HC.out];rfl,⟨HE.out.1.ok,row_base r2 hsz⟩,hu⟩
end Go.Proofs.YtfkopmhpppeheaaGreat
